-- A slim copy of XF, XG, XH, written by wip/tools/prune2.py.
import Derived.Test.YtalncokpbgbccaaUPO
import Derived.Test.YtalncokpbgbccaaUQC
import Derived.Test.YtalncokpbgbccaaURT
import Derived.Test.YtalncokpbgbccaaURh
import Derived.Test.YtalncokpbgbccaaUXC
import Derived.Test.YtalncokpbgbccaaUXD
/- The reference's pack: what it answers is what packing is. -/
namespace Go.Proofs.Ytalncokpbgbccaa.E
set_option linter.unusedVariables false
set_option linter.unusedSimpArgs false
open Go.RowKit Go.Proofs.YtalncokpbgbccaaW.PrintWords Go.Proofs.YtalncokpbgbccaaW.PrintLast Go.Proofs.YtalncokpbgbccaaW.PrintMore
def rg79_16_T : Bool × List (List Nat × List Nat) := (true, [([], []), ([], []), ([1], [1]), ([0, 2], [0, 2]), ([3], [3]), ([4], [4]), ([], []), ([], []), ([6, 7], [6, 7]), ([8], [8]), ([9], [9]), ([5, 10], [5, 10]), ([11], [11]), ([12, 11, 0, 1, 2, 3, 4, 5, 6, 7, 8, 9, 10, 11, 12], [12])])
def rg79_16_B : List Nat := [0, 0, 2, 7, 15, 31, 0, 0, 192, 448, 960, 2047, 4095, 8191]
theorem rg79_16_tab : rtab .any (opsOf Try.f79 16) = rg79_16_T := by kernel_rfl
theorem rg79_16_bits : waitsOk rg79_16_T.2 rg79_16_B = true := by kernel_rfl
theorem field115_0 (s : ByteArray) (m : Int) (W : World) : (Instr.field 115 (.agg #[.string s, .int .i64 m]) 0).run Try.prog W = .ok (.string s) W := by kernel_rfl
theorem rsep_c {l : List S77} {level : Int} (h : packable l level = true) (hs : ∀ x ∈ l, x.f0.size ≤ 1000000) (i : Nat) (h1 : 1 ≤ i) (hi : i < l.length) (hl : ¬ level > 0) (W : World) :
    Calls Try.prog 80 #[.string (l.getD (i - 1) z77).f0, .string (l.getD i z77).f0] W fun e w' => e = .returned (.agg #[.string (sepF l level i), .int .i64 0]) ∧ Below W.heap.size W w' := by
  unfold sepF
  rw [if_neg hl]
  have ho := ((packable_iff l level).mp h).2.1 i hi
  unfold okAt at ho
  rw [if_neg (by omega)] at ho
  simp only [Bool.and_eq_true, decide_eq_true_eq, Bool.or_eq_true] at ho
  have hlt := ho.2.2.resolve_left (by omega)
  have hm : ∀ k, k < l.length → (l.getD k z77).f0.size ≤ 1000000 := fun k hk => hs _ (by simp [List.getD, hk])
  have ha := hm (i - 1) (by omega)
  have hb := hm i hi
  generalize (l.getD (i - 1) z77).f0 = a at hlt ha ⊢
  generalize (l.getD i z77).f0 = b at hlt hb ⊢
  have hab : cmpL (toL a) (toL b) = -1 := by
    rw [← less_cmpL, ← toList_ofL (toL a), ← toList_ofL (toL b), ofL_toL, ofL_toL]; exact hlt
  have he := refBetween (toL a) (toL b) ha hb ((toL a).length + 1) (by omega)
  rw [between_btw _ _ hab, ofL_toL, ofL_toL] at he
  exact understoryref01_Between.calls _ a b _ _ W he
set_option maxRecDepth 1000000 in
set_option maxHeartbeats 8000000 in
theorem rpack_fits (level : Int) (l : List S77) (v : Value) (w : World) (B : Nat) (hp : packable l level = true) (hf : Fine l) (hB : B ≤ w.heap.size) (ho : Ow w B v l) (hfit : 6 + wt level l ≤ 496) :
    Calls Try.prog 79 #[v, .int .i64 level] w (RPack w B ([l], [])) := by
  obtain ⟨A, c, rfl⟩ := Kd.R_slice ho
  have hq := Kd.R_reads' ho
  have hc := hq.2.1
  have hr := hq.2.2
  have hwk : wsOk l level = true := by have := packable_ws l level; rw [hp] at this; exact ((Bool.and_eq_true _ _).mp this.symm).2
  have hwo := ws_ok hp hf
  have hsum := ws_all hp
  have hlw : (l.map (wOne level)).length = l.length := by simp
  have HWT := Aside0.mk (fun (W : World) (hb : Below w.heap.size w W) => (show Calls Try.prog 77 #[.slice A l.length c, .int .i64 level] W fun e w' => ∃ V d, e = .returned (.slice V l.length d) ∧ (Kd.int .i64).C w' V l.length (l.map (wOne level)) ∧ Below W.heap.size W w' from (weights_c l A c level W (Kd.C_below hr hb) hc hf).mono (fun e w' h => by
    obtain ⟨v, rfl, h1, _, hb2⟩ := h
    obtain ⟨V, d, rfl⟩ := Kd.R_slice (h1 hwk).1
    have h3 := Kd.R_reads' (h1 hwk).1
    rw [hlw] at h3
    exact ⟨V, d, by rw [hlw], h3.2.2, hb2⟩)))
  generalize l.map (wOne level) = ws at HWT hwo hsum hlw
  obtain ⟨S, hS⟩ : ∃ S, wt level l = S := ⟨_, rfl⟩
  rw [hS] at hsum hfit
  clear hS
  have HWO := Aside0.mk hwo
  have HL := Aside0.mk hlw
  have HS := Aside0.mk hsum
  have HR := Aside0.mk (fun (W : World) (hb : Below w.heap.size w W) => Kd.C_below hr hb)
  have HLEN := Aside0.mk hf.1
  have HOW := Aside0.mk ho
  have HB0 := Aside0.mk (below_alloc (Below.refl w.heap.size w) (.cells #[.slice none 0 0, .slice none 0 0, .int .i64 0] 67))
  have HX0 := Aside0.mk (blk_new w (.cells #[.slice none 0 0, .slice none 0 0, .int .i64 0] 67))
  have HBS := Aside0.mk hB
  have HFIT := Aside0.mk hfit
  clear hq hc hr hwk hwo hsum hlw hp hf hB ho hfit
  go_enter Try.func79, Try.ntmps79
  go_wp2_with (first | (go_at_call 77; refine (HWT.out _ HB0.out).mono ?_; rintro e W1 ⟨V, d, rfl, hv, hb⟩; have HB1 := Aside0.mk (HB0.out.trans (hb.mono HB0.out.size)); have HX1 := Aside0.mk (blk_below HX0.out hb); have HV := Aside0.mk hv; clear hv hb HB0 HX0 HWT))
  go_loopw [6, 7] (fun sv iv wr => ∃ (k : Nat), k ≤ l.length ∧ iv = .int .i64 k ∧ sv = .int .i64 (6 + (ws.take k).sum) ∧ wr = W1) (fun _ iv _ => l.length - (intOf iv).toNat)
  case atStart => exact ⟨0, Nat.zero_le _, rfl, by simp, rfl⟩
  case round =>
    obtain ⟨k, hk, rfl, rfl, hww⟩ := hrel
    have hww := hww.symm
    subst hww
    by_cases hlt : k < l.length
    · obtain ⟨adv, rfl⟩ := int_addr HV.out k hlt
      have hq := int_cell HV.out k hlt
      have h1 := HWO.out (k + 1) (by have := HL.out; omega)
      have h0 := HWO.out k (by have := HL.out; omega)
      have hs := sum_take_succ ws k (by have := HL.out; omega)
      obtain ⟨y9, hy9⟩ : ∃ y, ws.getD k 0 = y := ⟨_, rfl⟩
      rw [hy9] at hq hs
      clear hy9
      have hwr : wrap64 (6 + (ws.take k).sum + y9) = 6 + (ws.take (k + 1)).sum := wr_is _ _ (by omega) (by omega) (by omega)
      have hkw := w_succ k (by have := HLEN.out; omega)
      have hk1 : (k : Int) < (l.length : Int) := by omega
      have HLT := Aside0.mk hlt
      clear h1 h0 hs hlt hk
      go_wp2_with fail
      go_roundw
      case rel => exact ⟨k + 1, HLT.out, by rw [hkw]; simp, by rw [hwr], by first | rfl | trivial⟩
      case measure => (have h9 := HLT.out; rw [hkw]; clear hkw hwr; show l.length - ((k : Int) + 1).toNat < l.length - (k : Int).toNat; omega)
    · obtain rfl : k = l.length := by omega
      rw [show (ws.take l.length).sum = S by rw [List.take_of_length_le (by rw [HL.out]; exact Nat.le_refl _)]; exact HS.out]
      clear hlt hk
      have k1 : decide (6 + S ≤ 496) = true := decide_eq_true HFIT.out
      go_wp2_with (first | ((with_reducible refine gate_dst (N := 31) rfl ?_); refine Kd.R_lit kN (w0 := w) B 22 rfl (N := 31) rfl (xs := ([l] : List (List S77))) (inner := [.slice A l.length c]) (ok := fun _ => True) (okp := fun _ => True) ?hr (Reps.one (show kN.M _ B _ l [.slice A l.length c] from Kd.M_row (Kd.R_below HOW.out HB1.out)) (Reps.none _ _)) (fun _ hk => hk) trivial (HB1.out.mono HBS.out) (Nat.le_trans HBS.out HB1.out.size) (by simp) ?_; (case hr => first | (go_simp; done) | (go_simp; rfl)); intro v1 W2 ho hb hg hnew; have HO := Aside0.mk ho; have HB2 := Aside0.mk (HB1.out.grown hg HB1.out.size (fun _ h => by cases h)); have HX2 := Aside0.mk (blk_grown HX1.out hg (by simp)); have HNEW := Aside0.mk (show ∀ k, v1.ownBlock = some k → w.heap.size ≤ k from (fun k hk => by (obtain ⟨b, h1, h2⟩ := hnew; have h3 := HB1.out.size; have : b = k := (by rw [h1] at hk; exact Option.some.inj hk); omega))); obtain ⟨A1, n1, c1, rfl⟩ : ∃ A n c, v1 = Value.slice A n c := (by obtain ⟨A, c, h⟩ := Kd.R_slice ho; exact ⟨_, _, _, h⟩); have f0 := blk_frozen HX2.out 0; have f1 := blk_frozen HX2.out 1; have f2 := blk_frozen HX2.out 2; have s0 : W2.cell? ⟨w.heap.size, 0, none⟩ = some (.slice none 0 0) := (by rw [blk_cell HX2.out]; rfl); have s1 : W2.cell? ⟨w.heap.size, 1, none⟩ = some (.slice none 0 0) := (by rw [blk_cell HX2.out]; rfl); have s2 : W2.cell? ⟨w.heap.size, 2, none⟩ = some (.int .i64 0) := (by rw [blk_cell HX2.out]; rfl); clear ho hb hg hnew))
      have J0 := Aside0.mk (blk_put HX2.out 0 (.slice A1 n1 c1) rfl)
      have J1 := Aside0.mk (blk_put J0.out 1 (.slice none 0 0) rfl)
      have J2 := Aside0.mk (blk_put J1.out 2 (.int .i64 0) rfl)
      refine bodyPost_ret (results_cell_row rfl _ _ w.heap.size 67 #[.slice A1 n1 c1, .slice none 0 0, .int .i64 0] (0, 0) _ rfl J2.out Try.underlying67 rfl (by kernel_rfl)) rfl ?_
      refine ⟨_, _, rfl, Kd.R_set (Kd.R_set (Kd.R_set HO.out HX2.out (kN_only (by decide) (by decide)) 0 _) J0.out (kN_only (by decide) (by decide)) 1 _) J1.out (kN_only (by decide) (by decide)) 2 _, HNEW.out, Kd.R_nil _ _ _ _ _, ?_⟩
      exact ((HB2.out.setCell (p := ⟨w.heap.size, 0, none⟩) (Nat.le_refl _) _).setCell (p := ⟨w.heap.size, 1, none⟩) (Nat.le_refl _) _).setCell (p := ⟨w.heap.size, 2, none⟩) (Nat.le_refl _) _
set_option maxRecDepth 1000000 in
set_option maxHeartbeats 8000000 in
theorem rpack_cut (level : Int) (f : Nat) (IH : RPackC level f) (l : List S77) (v : Value) (w : World) (B : Nat) (x y : List (List S77) × List ByteArray) (hlf : l.length < f + 1) (h2 : 2 ≤ l.length) (hp : packable l level = true) (hf : Fine l) (hks : ∀ x ∈ l, x.f0.size ≤ 1000000) (hB : B ≤ w.heap.size) (ho : Ow w B v l) (hfit : ¬ 6 + wt level l ≤ 496)
    (hx : packO f (l.take (bestN l level)) level = some x) (hy : packO f (bare level (l.drop (bestN l level))) level = some y) :
    Calls Try.prog 79 #[v, .int .i64 level] w (RPack w B (x.1 ++ y.1, x.2 ++ [sepF l level (bestN l level)] ++ y.2)) := by
  obtain ⟨A, c, rfl⟩ := Kd.R_slice ho
  have hq := Kd.R_reads' ho
  have hc := hq.2.1
  have hr := hq.2.2
  have hwk : wsOk l level = true := by have := packable_ws l level; rw [hp] at this; exact ((Bool.and_eq_true _ _).mp this.symm).2
  have hwo := ws_ok hp hf
  have hsum := ws_all hp
  have hlw : (l.map (wOne level)).length = l.length := by simp
  have HWT := Aside0.mk (fun (W : World) (hb : Below w.heap.size w W) => (show Calls Try.prog 77 #[.slice A l.length c, .int .i64 level] W fun e w' => ∃ V d, e = .returned (.slice V l.length d) ∧ (Kd.int .i64).C w' V l.length (l.map (wOne level)) ∧ Below W.heap.size W w' from (weights_c l A c level W (Kd.C_below hr hb) hc hf).mono (fun e w' h => by
    obtain ⟨v, rfl, h1, _, hb2⟩ := h
    obtain ⟨V, d, rfl⟩ := Kd.R_slice (h1 hwk).1
    have h3 := Kd.R_reads' (h1 hwk).1
    rw [hlw] at h3
    exact ⟨V, d, by rw [hlw], h3.2.2, hb2⟩)))
  obtain ⟨ad, rfl, _⟩ := elem_at hr 0 (by omega)
  have hbr := bestN_spec l level h2
  have hrb := rBest_eq hp h2
  rw [hbr.1] at hrb
  have hfin : ∀ (u : Nat → Value) (wc : World) (vr : Value), wc.heap[w.heap.size]? = some (.cells #[.slice none 0 0, .slice none 0 0, .int .i64 0] 67 (0, 0)) → Ow wc w.heap.size vr (bare level (l.drop (bestN l level))) → Below w.heap.size w wc → True := fun _ _ _ _ _ _ => trivial
  clear hfin
  generalize l.map (wOne level) = ws at HWT hwo hsum hlw hrb
  obtain ⟨S, hS⟩ : ∃ S, wt level l = S := ⟨_, rfl⟩
  rw [hS] at hsum hfit
  clear hS
  have HWO := Aside0.mk hwo
  have HL := Aside0.mk hlw
  have HS := Aside0.mk hsum
  have HR := Aside0.mk (fun (W : World) (hb : Below w.heap.size w W) => Kd.C_below hr hb)
  have HLEN := Aside0.mk hf.1
  have HOW := Aside0.mk ho
  have HB0 := Aside0.mk (below_alloc (Below.refl w.heap.size w) (.cells #[.slice none 0 0, .slice none 0 0, .int .i64 0] 67))
  have HX0 := Aside0.mk (blk_new w (.cells #[.slice none 0 0, .slice none 0 0, .int .i64 0] 67))
  have HIH := Aside0.mk IH
  have HLF := Aside0.mk hlf
  have H2 := Aside0.mk h2
  have HPA := Aside0.mk hp
  have HFI := Aside0.mk hf
  have HKS := Aside0.mk hks
  have HXO := Aside0.mk hx
  have HYO := Aside0.mk hy
  have HBR := Aside0.mk hbr
  have HC := Aside0.mk hc
  have HCU := Aside0.mk (fun (W : World) (hb : Below w.heap.size w W) (V : Option Addr) (d : Nat) (hv : (Kd.int .i64).C W V l.length ws) => (by have h := rcut_c l (some ad) c ws V d level W (Kd.C_below hr hb) hv hlw h2 hf hwo; rw [hrb] at h; exact h : Calls Try.prog 78 #[.slice (some ad) l.length c, .slice V l.length d, .int .i64 level] W fun e w' => e = .returned (.int .i64 (bestN l level)) ∧ Below W.heap.size W w'))
  have hb1 := hbr.2.1
  have hb2 := hbr.2.2
  obtain ⟨b, hb⟩ : ∃ b, bestN l level = b := ⟨_, rfl⟩
  rw [hb] at hb1 hb2 HCU HXO HYO HBR ⊢
  clear hb hbr hx hy hrb
  obtain ⟨i77, hi77, hsz⟩ := info77'
  have hcv0 := cut_from (P := Try.prog) 22 77 .i64 Try.underlying22 hi77 22 hsz (some ad) l.length c (b : Int) (by omega) (by omega)
  rw [Int.toNat_natCast] at hcv0
  have hdl : (l.drop b).length = l.length - b := by simp
  have HCD := Aside0.mk (fun (W2 : World) (hW2 : Below w.heap.size w W2) (W : World) (hW : Below W2.heap.size W2 W) => C_drop (Kd.C_below hr (below_tr2 (w := w) hW2 hW)) (Nat.le_of_lt hb2) hc)
  rw [← hdl] at HCD hcv0
  generalize (if c = b then some ad else (some ad).map (·.add (b * 22))) = A2 at HCD hcv0
  generalize c - b = c2 at hcv0
  have HKB := Aside0.mk (show ((l.drop b).getD 0 z77).f0 = (l.getD b z77).f0 by rw [getD_drop]; rfl)
  have HLD := Aside0.mk (show 0 < (l.drop b).length by omega)
  have HXL := Aside0.mk (show (([] : List S77).length + (l.drop b).length) * 80 ≤ 140737488355328 by have := hf.1; simp only [List.length_nil]; omega)
  obtain ⟨KB, hKB⟩ : ∃ k, (l.getD b z77).f0 = k := ⟨_, rfl⟩
  rw [hKB] at HKB
  have HKB2 := Aside0.mk hKB
  clear hKB
  obtain ⟨L2, hL2⟩ : ∃ L2, l.drop b = L2 := ⟨_, rfl⟩
  rw [hL2] at HCD hcv0 HKB HLD HXL
  have HL2 := Aside0.mk hL2
  clear hL2 hdl hi77 hsz
  obtain ⟨p, hp1⟩ : ∃ p, b = p + 1 := ⟨b - 1, by omega⟩
  have HSEP := Aside0.mk (fun (g : ¬ level > 0) => rsep_c hp hks b hb1 hb2 g)
  have HKA := Aside0.mk (fun (W : World) (hW : Below w.heap.size w W) => prev_key (Kd.C_below hr hW) p (by omega))
  have HKBC := Aside0.mk (fun (W : World) (hW : Below w.heap.size w W) => prev_key (Kd.C_below hr hW) b hb2)
  rw [show b - 1 = p by omega] at HSEP
  rw [HKB2.out] at HSEP HKBC
  obtain ⟨KA, hKA⟩ : ∃ k, (l.getD p z77).f0 = k := ⟨_, rfl⟩
  rw [hKA] at HSEP HKA
  have HWM := Aside0.mk (w_pred b p hp1 (by have := hf.1; omega))
  have hpl : (p : Int) < (l.length : Int) := by omega
  have hp0 : (0 : Int) ≤ (p : Int) := by omega
  have hbl : (b : Int) < (l.length : Int) := by omega
  have hld : (0 : Int) < (L2.length : Int) := by have := HLD.out; omega
  clear hKA hp1
  have HB1L := Aside0.mk hb1
  have HB2L := Aside0.mk hb2
  have hb3 : (b : Int) ≤ (l.length : Int) := by omega
  have hb4 : (0 : Int) ≤ (b : Int) := by omega
  clear hb1 hb2
  have HBS := Aside0.mk hB
  have HFIT := Aside0.mk hfit
  clear hq hc hr hwk hwo hsum hlw hp hf hB ho hfit hks hlf h2 IH
  go_enter Try.func79, Try.ntmps79
  go_wp2_with (first | (go_at_call 77; refine (HWT.out _ HB0.out).mono ?_; rintro e W1 ⟨V, d, rfl, hv, hb⟩; have HB1 := Aside0.mk (HB0.out.trans (hb.mono HB0.out.size)); have HX1 := Aside0.mk (blk_below HX0.out hb); have HV := Aside0.mk hv; clear hv hb HB0 HX0 HWT))
  go_loopw [6, 7] (fun sv iv wr => ∃ (k : Nat), k ≤ l.length ∧ iv = .int .i64 k ∧ sv = .int .i64 (6 + (ws.take k).sum) ∧ wr = W1) (fun _ iv _ => l.length - (intOf iv).toNat)
  case atStart => exact ⟨0, Nat.zero_le _, rfl, by simp, rfl⟩
  case round =>
    obtain ⟨k, hk, rfl, rfl, hww⟩ := hrel
    have hww := hww.symm
    subst hww
    by_cases hlt : k < l.length
    · obtain ⟨adv, rfl⟩ := int_addr HV.out k hlt
      have hq := int_cell HV.out k hlt
      have h1 := HWO.out (k + 1) (by have := HL.out; omega)
      have h0 := HWO.out k (by have := HL.out; omega)
      have hs := sum_take_succ ws k (by have := HL.out; omega)
      obtain ⟨y9, hy9⟩ : ∃ y, ws.getD k 0 = y := ⟨_, rfl⟩
      rw [hy9] at hq hs
      clear hy9
      have hwr : wrap64 (6 + (ws.take k).sum + y9) = 6 + (ws.take (k + 1)).sum := wr_is _ _ (by omega) (by omega) (by omega)
      have hkw := w_succ k (by have := HLEN.out; omega)
      have hk1 : (k : Int) < (l.length : Int) := by omega
      have HLT := Aside0.mk hlt
      clear h1 h0 hs hlt hk
      go_wp2_with fail
      go_roundw
      case rel => exact ⟨k + 1, HLT.out, by rw [hkw]; simp, by rw [hwr], by first | rfl | trivial⟩
      case measure => (have h9 := HLT.out; rw [hkw]; clear hkw hwr; show l.length - ((k : Int) + 1).toNat < l.length - (k : Int).toNat; omega)
    · obtain rfl : k = l.length := by omega
      rw [show (ws.take l.length).sum = S by rw [List.take_of_length_le (by rw [HL.out]; exact Nat.le_refl _)]; exact HS.out]
      clear hlt hk
      have k1 : decide (6 + S ≤ 496) = false := decide_eq_false (by have := HFIT.out; omega)
      have k2 : decide ((l.length : Int) < 2) = false := decide_eq_false (by have := H2.out; omega)
      have k3 : decide (l.length < 2) = false := decide_eq_false (by have := H2.out; omega)
      go_upto_if 51 with (first | (go_at_call 78; refine (HCU.out _ HB1.out V d HV.out).mono ?_; rintro e W2 ⟨rfl, hb⟩; have HB2 := Aside0.mk (HB1.out.trans (hb.mono HB1.out.size)); have HX2 := Aside0.mk (blk_below HX1.out hb); have HB := Aside0.mk (Below.refl W2.heap.size W2); clear hb HB1 HX1 HCU) | ((with_reducible refine gate_dst (N := 41) rfl ?_); refine Kd.R_lit k77 W2.heap.size 77 rfl (N := 41) rfl (xs := ([] : List S77)) (inner := []) (ok := fun _ => True) (okp := fun _ => True) ?hr (Reps.none _ _) (fun _ hk => hk) trivial HB.out HB.out.size (by simp) ?_; (case hr => first | (go_simp; done) | (go_simp; rfl)); intro vL wL ho hb hg_ hnew_; clear hg_ hnew_; have HBn := Aside0.mk hb; have HO := Aside0.mk ho; clear HB ho hb; have HB := HBn; clear HBn; skip) | ((with_reducible refine gate_builtin (b := .append) (xs := #[.tmp 41, .tmp 44]) rfl ?_); at_builtin; refine Kd.R_append_rows k77 (w0 := W2) W2.heap.size rfl (.tmp 41) (.tmp 44) 22 77 (.agg #[(.string ⟨#[]⟩), (.string ⟨#[]⟩), (.int .i64 0), (.int .i64 0), (.int .i64 0), (.int .i64 0), (.int .u8 0), (.int .u8 0), (.int .u8 0), (.int .u8 0), (.int .u8 0), (.int .u8 0), (.int .u8 0), (.int .u8 0), (.int .u8 0), (.int .u8 0), (.int .u8 0), (.int .u8 0), (.int .u8 0), (.int .u8 0), (.int .u8 0), (.int .u8 0)]) 80 rfl Try.underlying22 info77 rfl (by decide) (by omega) vL ([] : List S77) L2 _ _ _ (fun _ => True) (fun _ => False) rfl rfl ?aO ?aR (fun _ _ h => h) (fun _ h => h.elim) ?aF ?aB ?aS ?aL ?_; (case aR => exact HCD.out _ HB2.out _ HB.out); (case aB => exact HB.out); (case aF => exact (fun _ _ => trivial)); (case aO => exact HO.out); (case aS => exact HB.out.size); (case aL => exact HXL.out); intro vA wA ho hb hg hat; have HBn := Aside0.mk hb; have HOn := Aside0.mk (show Ow wA W2.heap.size vA L2 from by simpa using ho); clear HB HO ho hb hg hat; have HB := HBn; have HO := HOn; clear HBn HOn; obtain ⟨go, c9, rfl, hg1, hg2⟩ := ow_addr HO.out HLD.out; have HG1 := Aside0.mk hg1; have hk := ow_key HO.out 0 HLD.out ⟨#[]⟩; have s1 : wA.cell? ⟨go, 0, none⟩ = some (.string KB) := (by rw [← HKB.out]; simpa using hk.1); have s2 : wA.frozen? ⟨go, 0, none⟩ = false := (by simpa using hk.2.1); clear hk hg1 hg2))
      have HX4 := Aside0.mk (blk_below HX2.out HB.out)
      have HB4 := Aside0.mk (below_tr2 (w := w) HB2.out HB.out)
      have HNE := Aside0.mk (show w.heap.size ≠ go ∧ w.heap.size ≤ go by have := blk_lt HX2.out; have := HG1.out; omega)
      have HO4 := Aside0.mk (show Ow wA w.heap.size (.slice (some ⟨go, 0, none⟩) L2.length c9) L2 from Kd.R_lower HO.out HB2.out.size)
      clear HX2 HB HB2 HG1 HO
      go_cut [10, 51] (fun sv bv wc => sv = .string (sepF l level b) ∧ Aside0 (wc.heap[w.heap.size]? = some (.cells #[.slice none 0 0, .slice none 0 0, .int .i64 0] 67 (0, 0))) ∧ Aside0 (Ow wc w.heap.size (.slice (some ⟨go, 0, none⟩) L2.length c9) (bare level L2)) ∧ Aside0 (Below w.heap.size w wc))
      case first =>
        by_cases g : level > 0
        · have d1 : decide (level > 0) = true := decide_eq_true g
          have d2 : decide (0 < level) = true := decide_eq_true g
          have HSP := Aside0.mk (show sepF l level b = KB by unfold sepF; rw [if_pos g]; exact HKB2.out)
          have HBS9 := Aside0.mk (bare_set level g L2 HLD.out)
          clear g
          rw [d2]
          go_wp2_with fail
          go_meet
          refine ⟨by rw [HSP.out], ⟨(Below.heap_setCell _ _ _ _ HNE.out.1).trans HX4.out⟩, ⟨?_⟩, ⟨HB4.out.setCell (p := ⟨go, 0, none⟩) HNE.out.2 _⟩⟩
          have h9 := (ow_key HO4.out 0 HLD.out ⟨#[]⟩).2.2
          rw [HBS9.out] at h9
          simpa using h9
        · have d1 : decide (level > 0) = false := decide_eq_false g
          have d2 : decide (0 < level) = false := decide_eq_false g
          have HSEP2 := Aside0.mk (HSEP.out (by omega))
          have hwm : wrap64 ((b : Int) - 1) = (p : Int) := HWM.out
          have HBN := Aside0.mk (bare_no level L2 (fun h => g h.1))
          clear g
          have hfl := field115_0 (sepF l level b) 0
          rw [d2]
          go_upto_region 16 with (fail)
          refine start_ (n := 14) (S := fun W => Below w.heap.size w W) (ds := []) #[false, false, false, false, false, false, false, false, false, false, false, false, false, false] (by kernel_rfl) rfl rfl (below_drew1 HB4.out) (fun hHeld => ?_)
          refine with_tabW rg79_16_tab rg79_16_bits (fun HT_ HW_ => ?_)
          have GW := Aside0.mk (below_drew1 HB4.out)
          have GX := Aside0.mk (blk_drew HX4.out)
          have GO := Aside0.mk (Kd.R_drew HO4.out)
          clear HB4 HX4 HO4
          generalize wA.drew = w4 at GW GX GO hHeld ⊢
          refine pure_ (i := 0) (N := some 55) (v := ?_) (a' := ?_) #[true, false, false, false, false, false, false, false, false, false, false, false, false, false] rfl rfl (any_of HT_.out (by kernel_rfl)) (fun _ _ _ h => h) (Or.inl ⟨by rfl, ?_⟩) ?_ ?_
          rotate_left
          · intro w'
            go_simp
            with_reducible rfl
          rotate_left
          · simp only [Act.put, List.setIfInBounds_toArray, List.set_cons_zero, List.set_cons_succ, i64_w, i32_w]
            rfl
          refine pure_ (i := 1) (N := some 56) (v := ?_) (a' := ?_) #[true, true, false, false, false, false, false, false, false, false, false, false, false, false] rfl rfl (any_of HT_.out (by kernel_rfl)) (fun _ _ _ h => h) (Or.inl ⟨by rfl, ?_⟩) ?_ ?_
          rotate_left
          · intro w'
            go_simp
            with_reducible rfl
          rotate_left
          · simp only [Act.put, List.setIfInBounds_toArray, List.set_cons_zero, List.set_cons_succ, i64_w, i32_w]
            rfl
          refine pure_ (i := 2) (N := some 57) (v := ?_) (a' := ?_) #[true, true, true, false, false, false, false, false, false, false, false, false, false, false] rfl rfl (any_of HT_.out (by kernel_rfl)) (fun _ _ _ h => h) (Or.inl ⟨by rfl, ?_⟩) ?_ ?_
          rotate_left
          · intro w'
            go_simp
            with_reducible rfl
          rotate_left
          · simp only [Act.put, List.setIfInBounds_toArray, List.set_cons_zero, List.set_cons_succ, i64_w, i32_w]
            rfl
          refine pure_ (i := 3) (N := some 58) (v := ?_) (a' := ?_) #[true, true, true, true, false, false, false, false, false, false, false, false, false, false] rfl rfl (any_of HT_.out (by kernel_rfl)) (fun _ _ _ h => h) (Or.inl ⟨by rfl, ?_⟩) ?_ ?_
          rotate_left
          · intro w'
            go_simp
            with_reducible rfl
          rotate_left
          · simp only [Act.put, List.setIfInBounds_toArray, List.set_cons_zero, List.set_cons_succ, i64_w, i32_w]
            rfl
          refine pure_ (i := 4) (N := some 59) (v := ?_) (a' := ?_) #[true, true, true, true, true, false, false, false, false, false, false, false, false, false] rfl rfl (any_of HT_.out (by kernel_rfl)) (fun _ _ _ h => h) (Or.inl ⟨by rfl, ?_⟩) ?_ ?_
          rotate_left
          · intro w'
            go_simp
            with_reducible rfl
          rotate_left
          · simp only [Act.put, List.setIfInBounds_toArray, List.set_cons_zero, List.set_cons_succ, i64_w, i32_w]
            rfl
          refine take_ (i := 5) (N := some 60) (v := ?_) (a' := ?_) #[true, true, true, true, true, true, false, false, false, false, false, false, false, false] rfl rfl (take_ofW HT_.out HW_.out (by kernel_rfl)) (fun _ _ _ h => h) (Or.inl ⟨by rfl, ?_⟩) hHeld ?_ ?_
          rotate_left
          · intro w' hW
            have q0 := HKA.out _ hW
            have q1 := HKBC.out _ hW
            go_simp
            with_reducible rfl
          rotate_left
          · simp only [Act.put, List.setIfInBounds_toArray, List.set_cons_zero, List.set_cons_succ, i64_w, i32_w]
            rfl
          refine pure_ (i := 6) (N := some 61) (v := ?_) (a' := ?_) #[true, true, true, true, true, true, true, false, false, false, false, false, false, false] rfl rfl (any_of HT_.out (by kernel_rfl)) (fun _ _ _ h => h) (Or.inl ⟨by rfl, ?_⟩) ?_ ?_
          rotate_left
          · intro w'
            go_simp
            with_reducible rfl
          rotate_left
          · simp only [Act.put, List.setIfInBounds_toArray, List.set_cons_zero, List.set_cons_succ, i64_w, i32_w]
            rfl
          refine pure_ (i := 7) (N := some 62) (v := ?_) (a' := ?_) #[true, true, true, true, true, true, true, true, false, false, false, false, false, false] rfl rfl (any_of HT_.out (by kernel_rfl)) (fun _ _ _ h => h) (Or.inl ⟨by rfl, ?_⟩) ?_ ?_
          rotate_left
          · intro w'
            go_simp
            with_reducible rfl
          rotate_left
          · simp only [Act.put, List.setIfInBounds_toArray, List.set_cons_zero, List.set_cons_succ, i64_w, i32_w]
            rfl
          refine pure_ (i := 8) (N := some 63) (v := ?_) (a' := ?_) #[true, true, true, true, true, true, true, true, true, false, false, false, false, false] rfl rfl (any_of HT_.out (by kernel_rfl)) (fun _ _ _ h => h) (Or.inl ⟨by rfl, ?_⟩) ?_ ?_
          rotate_left
          · intro w'
            go_simp
            with_reducible rfl
          rotate_left
          · simp only [Act.put, List.setIfInBounds_toArray, List.set_cons_zero, List.set_cons_succ, i64_w, i32_w]
            rfl
          refine pure_ (i := 9) (N := some 64) (v := ?_) (a' := ?_) #[true, true, true, true, true, true, true, true, true, true, false, false, false, false] rfl rfl (any_of HT_.out (by kernel_rfl)) (fun _ _ _ h => h) (Or.inl ⟨by rfl, ?_⟩) ?_ ?_
          rotate_left
          · intro w'
            go_simp
            with_reducible rfl
          rotate_left
          · simp only [Act.put, List.setIfInBounds_toArray, List.set_cons_zero, List.set_cons_succ, i64_w, i32_w]
            rfl
          refine take_ (i := 10) (N := some 65) (v := ?_) (a' := ?_) #[true, true, true, true, true, true, true, true, true, true, true, false, false, false] rfl rfl (take_ofW HT_.out HW_.out (by kernel_rfl)) (fun _ _ _ h => h) (Or.inl ⟨by rfl, ?_⟩) hHeld ?_ ?_
          rotate_left
          · intro w' hW
            have q0 := HKA.out _ hW
            have q1 := HKBC.out _ hW
            go_simp
            with_reducible rfl
          rotate_left
          · simp only [Act.put, List.setIfInBounds_toArray, List.set_cons_zero, List.set_cons_succ, i64_w, i32_w]
            rfl
          refine one_ (i := 11) (N := some 66) #[true, true, true, true, true, true, true, true, true, true, true, true, false, false] rfl rfl (one_of HT_.out (by kernel_rfl)) (by decide) (fun K hK => ?_)
          refine goes_ Try.func80 (by kernel_rfl) rfl #[.string KA, .string KB] (by rfl) rfl rfl (by (try simp only [List.map_toArray, List.map_cons, List.map_nil]); first | done | rfl) ?_
          refine (HSEP2.out _).mono ?_
          rintro e W5 ⟨rfl, hb⟩
          refine ⟨_, rfl, ?_⟩
          have GW2 := Aside0.mk (GW.out.trans (hb.mono GW.out.size))
          have GX2 := Aside0.mk (blk_below GX.out hb)
          have GO2 := Aside0.mk (Kd.R_below GO.out hb)
          clear hb GW GX GO
          refine hK.out _ _ (GW2.out) (fun hHeld => ?_)
          clear hK K
          refine norm_ (a' := ?_) ?_ ?_
          rotate_left
          · show Act.put _ (some 66) _ = _
            simp only [Act.put, List.setIfInBounds_toArray, List.set_cons_zero, List.set_cons_succ, i64_w, i32_w]
            rfl
          refine pure_ (i := 12) (N := some 67) (v := ?_) (a' := ?_) #[true, true, true, true, true, true, true, true, true, true, true, true, true, false] rfl rfl (any_of HT_.out (by kernel_rfl)) (fun _ _ _ h => h) (Or.inl ⟨by rfl, ?_⟩) ?_ ?_
          rotate_left
          · intro w'
            go_simp
            with_reducible rfl
          rotate_left
          · simp only [Act.put, List.setIfInBounds_toArray, List.set_cons_zero, List.set_cons_succ, i64_w, i32_w]
            rfl
          refine pure_ (i := 13) (N := some 10) (v := ?_) (a' := ?_) #[true, true, true, true, true, true, true, true, true, true, true, true, true, true] rfl rfl (any_of HT_.out (by kernel_rfl)) (fun _ _ _ h => h) (Or.inl ⟨by rfl, ?_⟩) ?_ ?_
          rotate_left
          · intro w'
            go_simp
            with_reducible rfl
          rotate_left
          · simp only [Act.put, List.setIfInBounds_toArray, List.set_cons_zero, List.set_cons_succ, i64_w, i32_w]
            rfl
          refine done_ (done_of HT_.out (by kernel_rfl)) ?_
          try go_wp2_with fail
          go_meet
          exact ⟨rfl, GX2, ⟨by rw [HBN.out]; exact GO2.out⟩, GW2⟩
      case rest =>
        obtain ⟨rfl, HG, HOV, HBV⟩ := hcut
        rename_i ha
        refine ha _ _ ?_
        exact rpack_tail (x := x) (y := y) HIH.out HBS.out (Nat.le_refl _) HG.out (HR.out w (Below.refl _ _)) HC.out HFI.out HKS.out HPA.out (by have := HLF.out; omega) HB1L.out HB2L.out (by rw [HL2.out]; exact HOV.out) HBV.out HXO.out HYO.out
theorem rpack_all (level : Int) : ∀ f, RPackC level f := by
  intro f
  induction f with
  | zero => intro l v w B x h; omega
  | succ f ih =>
    intro l v w B x hlf h1 hp hf hks hB ho hx
    rw [packO, packable_bare hp] at hx
    by_cases hfit : 6 + wt level l ≤ 496
    · rw [if_pos hfit] at hx
      cases hx
      exact rpack_fits level l v w B hp hf hB ho hfit
    · rw [if_neg hfit] at hx
      by_cases h2 : l.length ≤ 1
      · rw [if_pos h2] at hx; cases hx
      · rw [if_neg h2] at hx
        obtain ⟨y, hy, hx⟩ := Option.bind_eq_some_iff.mp hx
        obtain ⟨z, hz, hx⟩ := Option.bind_eq_some_iff.mp hx
        cases hx
        exact rpack_cut level f ih l v w B y z hlf (by omega) hp hf hks hB ho hfit hy hz
end Go.Proofs.Ytalncokpbgbccaa.E

/- The reference's Parts, Cut and Pack. -/
namespace Go.Proofs.Ytalncokpbgbccaa.E
set_option linter.unusedVariables false
set_option linter.unusedSimpArgs false
open Go.RowKit Go.Proofs.YtalncokpbgbccaaW.PrintWords Go.Proofs.YtalncokpbgbccaaW.PrintLast Go.Proofs.YtalncokpbgbccaaW.PrintMore
def rg44_6_T : Bool × List (List Nat × List Nat) := (true, [([], []), ([], []), ([0, 1], [0, 1]), ([2], [2]), ([], []), ([], []), ([4, 5], [4, 5]), ([6], [6]), ([3, 7], [3, 7]), ([8], [8])])
def rg44_6_B : List Nat := [0, 0, 3, 7, 0, 0, 48, 112, 255, 511]
theorem rg44_6_tab : rtab .any (opsOf Try.f44 6) = rg44_6_T := by kernel_rfl
theorem rg44_6_bits : waitsOk rg44_6_T.2 rg44_6_B = true := by kernel_rfl
theorem nil_y (W : World) : (binOp .eql 112 (.slice none 0 0) (.slice none 0 0)).run Try.prog W = .ok (.bool true) W := by kernel_rfl
theorem nil_n (V : Addr) (n d : Nat) (W : World) : (binOp .eql 112 (.slice (some V) n d) (.slice none 0 0)).run Try.prog W = .ok (.bool false) W := by kernel_rfl
attribute [local go_sem] nil_y nil_n
set_option maxRecDepth 1000000 in
set_option maxHeartbeats 8000000 in
theorem parts_c (ps : List (List S77)) (A B : Option Addr) (c d : Nat) (w : World) (hr : kN.C w A ps.length ps) (hm : kN.C w B ps.length ps) (hl : ps.length ≤ 1000000) (he : ∀ p ∈ ps, p.length ≤ 1000000) :
    Calls Try.prog 44 #[.slice A ps.length c, .slice B ps.length d] w fun e w' => e = .returned (.bool true) ∧ Below w.heap.size w w' := by
  have HR := Aside0.mk (fun (W : World) (hb : Below w.heap.size w W) => Kd.C_below hr hb)
  have HM := Aside0.mk (fun (W : World) (hb : Below w.heap.size w W) => Kd.C_below hm hb)
  have HLEN := Aside0.mk hl
  have HE := Aside0.mk (fun k (hk : k < ps.length) => he (ps.getD k []) (by simp [List.getD, hk]))
  clear hr hm hl he
  go_enter Try.func44, Try.ntmps44
  go_wp2_with fail
  go_loopw [5] (fun iv wr => ∃ (k : Nat), k ≤ ps.length ∧ iv = .int .i64 k ∧ Aside0 (Below w.heap.size w wr)) (fun iv _ => ps.length - (intOf iv).toNat)
  case atStart => exact ⟨0, Nat.zero_le _, rfl, ⟨Below.refl _ _⟩⟩
  case round =>
    obtain ⟨k, hk, rfl, HB⟩ := hrel
    by_cases hlt : k < ps.length
    · have HLT := Aside0.mk hlt
      obtain ⟨ad, A0, c0, rfl, _, _, _⟩ := at_L5 (HR.out w (Below.refl _ _)) (k : Int) (by omega) (by omega)
      obtain ⟨bd, B0, d0, rfl, _, _, _⟩ := at_L5 (HM.out w (Below.refl _ _)) (k : Int) (by omega) (by omega)
      obtain ⟨ad2, A0, c0, ea, ha, _, ha2⟩ := at_L5 (HR.out w (Below.refl _ _)) (k : Int) (by omega) (by omega)
      cases ea
      obtain ⟨bd2, B0, d0, eb, hb, _, hb2⟩ := at_L5 (HM.out w (Below.refl _ _)) (k : Int) (by omega) (by omega)
      cases eb
      simp only [rd_L5, Int.toNat_natCast] at ha hb ha2 hb2
      have hpe := HE.out k hlt
      generalize ps.getD k [] = p at ha hb ha2 hb2 hpe
      have HSC := Aside0.mk (fun (W : World) (hW : Below w.heap.size w W) => (by have h := same_c p p A0 B0 c0 d0 W (Kd.C_below ha2 hW) (Kd.C_below hb2 hW) hpe; rw [(sameL_iff p p).mpr rfl] at h; exact h : Calls Try.prog 37 #[.slice A0 p.length c0, .slice B0 p.length d0] W fun e w' => e = .returned (.bool true) ∧ Below W.heap.size W w'))
      have HEA := Aside0.mk (fun (W : World) (hW : Below w.heap.size w W) => pw_cell_below hW ha)
      have HEB := Aside0.mk (fun (W : World) (hW : Below w.heap.size w W) => pw_cell_below hW hb)
      generalize p.length = m at HSC HEA HEB
      have hk1 : (k : Int) < (ps.length : Int) := by omega
      have hk2 : (0 : Int) ≤ (k : Int) := by omega
      have hkw := w_succ k (by have := HLEN.out; omega)
      clear hlt hk ha hb ha2 hb2 hpe
      go_wp2_with fail
      refine start_ (n := 10) (S := fun W => Below w.heap.size w W) (ds := []) #[false, false, false, false, false, false, false, false, false, false] (by kernel_rfl) rfl rfl (below_drew1 HB.out) (fun hHeld => ?_)
      refine with_tabW rg44_6_tab rg44_6_bits (fun HT_ HW_ => ?_)
      have GW := Aside0.mk (below_drew1 HB.out)
      clear HB
      generalize wr.drew = w2 at GW hHeld ⊢
      refine pure_ (i := 0) (N := some 17) (v := ?_) (a' := ?_) #[true, false, false, false, false, false, false, false, false, false] rfl rfl (any_of HT_.out (by kernel_rfl)) (fun _ _ _ h => h) (Or.inl ⟨by rfl, ?_⟩) ?_ ?_
      rotate_left
      · intro w'
        go_simp
        with_reducible rfl
      rotate_left
      · simp only [Act.put, List.setIfInBounds_toArray, List.set_cons_zero, List.set_cons_succ, i64_w, i32_w]
        rfl
      refine pure_ (i := 1) (N := some 18) (v := ?_) (a' := ?_) #[true, true, false, false, false, false, false, false, false, false] rfl rfl (any_of HT_.out (by kernel_rfl)) (fun _ _ _ h => h) (Or.inl ⟨by rfl, ?_⟩) ?_ ?_
      rotate_left
      · intro w'
        go_simp
        with_reducible rfl
      rotate_left
      · simp only [Act.put, List.setIfInBounds_toArray, List.set_cons_zero, List.set_cons_succ, i64_w, i32_w]
        rfl
      refine pure_ (i := 2) (N := some 19) (v := ?_) (a' := ?_) #[true, true, true, false, false, false, false, false, false, false] rfl rfl (any_of HT_.out (by kernel_rfl)) (fun _ _ _ h => h) (Or.inl ⟨by rfl, ?_⟩) ?_ ?_
      rotate_left
      · intro w'
        go_simp
        with_reducible rfl
      rotate_left
      · simp only [Act.put, List.setIfInBounds_toArray, List.set_cons_zero, List.set_cons_succ, i64_w, i32_w]
        rfl
      refine take_ (i := 3) (N := some 20) (v := ?_) (a' := ?_) #[true, true, true, true, false, false, false, false, false, false] rfl rfl (take_ofW HT_.out HW_.out (by kernel_rfl)) (fun _ _ _ h => h) (Or.inl ⟨by rfl, ?_⟩) hHeld ?_ ?_
      rotate_left
      · intro w' hW
        have q0 := HEA.out _ hW
        have q1 := HEB.out _ hW
        go_simp
        with_reducible rfl
      rotate_left
      · simp only [Act.put, List.setIfInBounds_toArray, List.set_cons_zero, List.set_cons_succ, i64_w, i32_w]
        rfl
      refine pure_ (i := 4) (N := some 21) (v := ?_) (a' := ?_) #[true, true, true, true, true, false, false, false, false, false] rfl rfl (any_of HT_.out (by kernel_rfl)) (fun _ _ _ h => h) (Or.inl ⟨by rfl, ?_⟩) ?_ ?_
      rotate_left
      · intro w'
        go_simp
        with_reducible rfl
      rotate_left
      · simp only [Act.put, List.setIfInBounds_toArray, List.set_cons_zero, List.set_cons_succ, i64_w, i32_w]
        rfl
      refine pure_ (i := 5) (N := some 22) (v := ?_) (a' := ?_) #[true, true, true, true, true, true, false, false, false, false] rfl rfl (any_of HT_.out (by kernel_rfl)) (fun _ _ _ h => h) (Or.inl ⟨by rfl, ?_⟩) ?_ ?_
      rotate_left
      · intro w'
        go_simp
        with_reducible rfl
      rotate_left
      · simp only [Act.put, List.setIfInBounds_toArray, List.set_cons_zero, List.set_cons_succ, i64_w, i32_w]
        rfl
      refine pure_ (i := 6) (N := some 23) (v := ?_) (a' := ?_) #[true, true, true, true, true, true, true, false, false, false] rfl rfl (any_of HT_.out (by kernel_rfl)) (fun _ _ _ h => h) (Or.inl ⟨by rfl, ?_⟩) ?_ ?_
      rotate_left
      · intro w'
        go_simp
        with_reducible rfl
      rotate_left
      · simp only [Act.put, List.setIfInBounds_toArray, List.set_cons_zero, List.set_cons_succ, i64_w, i32_w]
        rfl
      refine take_ (i := 7) (N := some 24) (v := ?_) (a' := ?_) #[true, true, true, true, true, true, true, true, false, false] rfl rfl (take_ofW HT_.out HW_.out (by kernel_rfl)) (fun _ _ _ h => h) (Or.inl ⟨by rfl, ?_⟩) hHeld ?_ ?_
      rotate_left
      · intro w' hW
        have q0 := HEA.out _ hW
        have q1 := HEB.out _ hW
        go_simp
        with_reducible rfl
      rotate_left
      · simp only [Act.put, List.setIfInBounds_toArray, List.set_cons_zero, List.set_cons_succ, i64_w, i32_w]
        rfl
      refine one_ (i := 8) (N := some 25) #[true, true, true, true, true, true, true, true, true, false] rfl rfl (one_of HT_.out (by kernel_rfl)) (by decide) (fun K hK => ?_)
      refine goes_ Try.func37 (by kernel_rfl) rfl #[.slice A0 m c0, .slice B0 m d0] (by rfl) rfl rfl (by (try simp only [List.map_toArray, List.map_cons, List.map_nil]); first | done | rfl) ?_
      refine (HSC.out _ GW.out).mono ?_
      rintro e w3 ⟨rfl, hb⟩
      refine ⟨_, rfl, ?_⟩
      have GW2 := Aside0.mk (GW.out.trans (hb.mono GW.out.size))
      clear hb GW hHeld
      refine hK.out _ _ (GW2.out) (fun hHeld => ?_)
      clear hK K
      refine norm_ (a' := ?_) ?_ ?_
      rotate_left
      · show Act.put _ (some 25) _ = _
        simp only [Act.put, List.setIfInBounds_toArray, List.set_cons_zero, List.set_cons_succ, i64_w, i32_w]
        rfl
      refine pure_ (i := 9) (N := some 26) (v := ?_) (a' := ?_) #[true, true, true, true, true, true, true, true, true, true] rfl rfl (any_of HT_.out (by kernel_rfl)) (fun _ _ _ h => h) (Or.inl ⟨by rfl, ?_⟩) ?_ ?_
      rotate_left
      · intro w'
        go_simp
        with_reducible rfl
      rotate_left
      · simp only [Act.put, List.setIfInBounds_toArray, List.set_cons_zero, List.set_cons_succ, i64_w, i32_w]
        rfl
      refine done_ (done_of HT_.out (by kernel_rfl)) ?_
      go_wp2_with fail
      go_roundw
      case rel => exact ⟨k + 1, HLT.out, by rw [hkw]; simp, GW2⟩
      case measure => (have h9 := HLT.out; rw [hkw]; clear hkw; show ps.length - ((k : Int) + 1).toNat < ps.length - (k : Int).toNat; omega)
    · obtain rfl : k = ps.length := by omega
      clear hlt hk
      go_wp2_with fail
      go_ret
      exact ⟨rfl, HB.out⟩
set_option maxRecDepth 1000000 in
set_option maxHeartbeats 8000000 in
theorem rcut_1 (l : List S77) (A : Option Addr) (c : Nat) (level : Int) (w : World) (hr : Kd.C k77 w A l.length l) (hc : l.length ≤ c) (hf : Fine l) (H16 : Aside0 (Say w 16 #[.slice A l.length c, .int .i64 level] (.bool false))) :
    Calls Try.prog 41 #[.slice A l.length c, .int .i64 level] w fun e w' => e = .returned (.agg #[.int .i64 0, .int .i64 2]) ∧ Below w.heap.size w w' := by
  have hu64 := Try.underlying64
  have HB0 := Aside0.mk (below_alloc (Below.refl w.heap.size w) (.cells #[.int .i64 0, .int .i64 0] 64))
  have HX0 := Aside0.mk (blk_new w (.cells #[.int .i64 0, .int .i64 0] 64))
  have HWT := Aside0.mk (fun (W : World) (hb : Below w.heap.size w W) => (show Calls Try.prog 77 #[.slice A l.length c, .int .i64 level] W fun e w' => ∃ V n d, e = .returned (.slice V n d) ∧ Below W.heap.size W w' from (weights_c l A c level W (Kd.C_below hr hb) hc hf).mono (fun e w' h => by
    obtain ⟨v, rfl, h1, h0, hb2⟩ := h
    rcases hq : wsOk l level with _ | _
    · rw [h0 hq]; exact ⟨_, _, _, rfl, hb2⟩
    · obtain ⟨V, d, rfl⟩ := Kd.R_slice (h1 hq).1
      exact ⟨_, _, _, rfl, hb2⟩)))
  clear hr hc hf
  go_enter Try.func41, Try.ntmps41
  go_wp2_with (first | (go_at_call 77; refine (HWT.out _ HB0.out).mono ?_; rintro e W1 ⟨V, n, d, rfl, hb⟩; have HB1 := Aside0.mk (HB0.out.trans (hb.mono HB0.out.size)); have HX1 := Aside0.mk (blk_below HX0.out hb); skip; clear hb) | (go_at_call 16; refine (H16.out _ HB1.out).mono ?_; rintro e W2 ⟨rfl, hb⟩; have HB2 := Aside0.mk (HB1.out.trans (hb.mono HB1.out.size)); have HX2 := Aside0.mk (blk_below HX1.out hb); have y0 : W2.cell? ⟨w.heap.size, 0, none⟩ = some (.int .i64 0) := (by rw [blk_cell HX2.out]; rfl); have y1 : W2.cell? ⟨w.heap.size, 1, none⟩ = some (.int .i64 0) := (by rw [blk_cell HX2.out]; rfl); have z0 := blk_frozen HX2.out 0; have z1 := blk_frozen HX2.out 1; clear hb))
  refine bodyPost_ret (results_cell_row rfl _ _ w.heap.size 64 #[.int .i64 0, .int .i64 2] (0, 0) _ rfl (by refine blk_put (cs := #[.int .i64 0, .int .i64 0]) ?_ 1 _ rfl; refine blk_put (cs := #[.int .i64 0, .int .i64 0]) ?_ 0 _ rfl; exact HX2.out) Try.underlying64 rfl (by kernel_rfl)) rfl ?_
  exact ⟨rfl, (HB2.out.setCell (Nat.le_refl _) _).setCell (Nat.le_refl _) _⟩
set_option maxRecDepth 1000000 in
set_option maxHeartbeats 8000000 in
theorem rcut_2 (l : List S77) (A : Option Addr) (c : Nat) (level : Int) (w : World) (hr : Kd.C k77 w A l.length l) (hc : l.length ≤ c) (hf : Fine l) (H16 : Aside0 (Say w 16 #[.slice A l.length c, .int .i64 level] (.bool true))) (hw : wsOk l level = false) :
    Calls Try.prog 41 #[.slice A l.length c, .int .i64 level] w fun e w' => e = .returned (.agg #[.int .i64 0, .int .i64 2]) ∧ Below w.heap.size w w' := by
  have hu64 := Try.underlying64
  have HB0 := Aside0.mk (below_alloc (Below.refl w.heap.size w) (.cells #[.int .i64 0, .int .i64 0] 64))
  have HX0 := Aside0.mk (blk_new w (.cells #[.int .i64 0, .int .i64 0] 64))
  have HWT := Aside0.mk (fun (W : World) (hb : Below w.heap.size w W) => (show Calls Try.prog 77 #[.slice A l.length c, .int .i64 level] W fun e w' => e = .returned (.slice none 0 0) ∧ Below W.heap.size W w' from (weights_c l A c level W (Kd.C_below hr hb) hc hf).mono (fun e w' h => by
    obtain ⟨v, rfl, h1, h0, hb2⟩ := h
    rw [h0 hw]; exact ⟨rfl, hb2⟩)))
  clear hr hc hf hw
  go_enter Try.func41, Try.ntmps41
  go_wp2_with (first | (go_at_call 77; refine (HWT.out _ HB0.out).mono ?_; rintro e W1 ⟨rfl, hb⟩; have HB1 := Aside0.mk (HB0.out.trans (hb.mono HB0.out.size)); have HX1 := Aside0.mk (blk_below HX0.out hb); skip; clear hb) | (go_at_call 16; refine (H16.out _ HB1.out).mono ?_; rintro e W2 ⟨rfl, hb⟩; have HB2 := Aside0.mk (HB1.out.trans (hb.mono HB1.out.size)); have HX2 := Aside0.mk (blk_below HX1.out hb); have y0 : W2.cell? ⟨w.heap.size, 0, none⟩ = some (.int .i64 0) := (by rw [blk_cell HX2.out]; rfl); have y1 : W2.cell? ⟨w.heap.size, 1, none⟩ = some (.int .i64 0) := (by rw [blk_cell HX2.out]; rfl); have z0 := blk_frozen HX2.out 0; have z1 := blk_frozen HX2.out 1; clear hb))
  refine bodyPost_ret (results_cell_row rfl _ _ w.heap.size 64 #[.int .i64 0, .int .i64 2] (0, 0) _ rfl (by refine blk_put (cs := #[.int .i64 0, .int .i64 0]) ?_ 1 _ rfl; refine blk_put (cs := #[.int .i64 0, .int .i64 0]) ?_ 0 _ rfl; exact HX2.out) Try.underlying64 rfl (by kernel_rfl)) rfl ?_
  exact ⟨rfl, (HB2.out.setCell (Nat.le_refl _) _).setCell (Nat.le_refl _) _⟩
set_option maxRecDepth 1000000 in
set_option maxHeartbeats 8000000 in
theorem rcut_3 (l : List S77) (A : Option Addr) (c : Nat) (level : Int) (w : World) (hr : Kd.C k77 w A l.length l) (hc : l.length ≤ c) (hf : Fine l) (H16 : Aside0 (Say w 16 #[.slice A l.length c, .int .i64 level] (.bool true))) (hw : wsOk l level = true) (h2 : l.length < 2) :
    Calls Try.prog 41 #[.slice A l.length c, .int .i64 level] w fun e w' => e = .returned (.agg #[.int .i64 0, .int .i64 1]) ∧ Below w.heap.size w w' := by
  have hu64 := Try.underlying64
  have HB0 := Aside0.mk (below_alloc (Below.refl w.heap.size w) (.cells #[.int .i64 0, .int .i64 0] 64))
  have HX0 := Aside0.mk (blk_new w (.cells #[.int .i64 0, .int .i64 0] 64))
  have HWT := Aside0.mk (fun (W : World) (hb : Below w.heap.size w W) => (show Calls Try.prog 77 #[.slice A l.length c, .int .i64 level] W fun e w' => ∃ V d, e = .returned (.slice (some V) l.length d) ∧ (Kd.int .i64).C w' (some V) l.length (l.map (wOne level)) ∧ Below W.heap.size W w' from (weights_c l A c level W (Kd.C_below hr hb) hc hf).mono (fun e w' h => by
    obtain ⟨v, rfl, h1, h0, hb2⟩ := h
    obtain ⟨h2, q, h3⟩ := h1 hw
    obtain ⟨V, d, rfl⟩ := Kd.R_slice h2
    have h4 := Kd.R_reads' h2
    rw [show (l.map (wOne level)).length = l.length by simp] at h4 ⊢
    rcases V with _ | V
    · simp [Value.ownBlock] at h3
    · exact ⟨V, d, rfl, h4.2.2, hb2⟩)))
  have k0 : decide ((l.length : Int) < 2) = true := decide_eq_true (by omega)
  have k1 : decide (l.length < 2) = true := decide_eq_true (by omega)
  have k2 : decide ((2 : Int) > (l.length : Int)) = true := decide_eq_true (by omega)
  clear hr hc hf hw h2
  go_enter Try.func41, Try.ntmps41
  go_wp2_with (first | (go_at_call 77; refine (HWT.out _ HB0.out).mono ?_; rintro e W1 ⟨V, d, rfl, hv, hb⟩; have HB1 := Aside0.mk (HB0.out.trans (hb.mono HB0.out.size)); have HX1 := Aside0.mk (blk_below HX0.out hb); clear hv; clear hb) | (go_at_call 16; refine (H16.out _ HB1.out).mono ?_; rintro e W2 ⟨rfl, hb⟩; have HB2 := Aside0.mk (HB1.out.trans (hb.mono HB1.out.size)); have HX2 := Aside0.mk (blk_below HX1.out hb); have y0 : W2.cell? ⟨w.heap.size, 0, none⟩ = some (.int .i64 0) := (by rw [blk_cell HX2.out]; rfl); have y1 : W2.cell? ⟨w.heap.size, 1, none⟩ = some (.int .i64 0) := (by rw [blk_cell HX2.out]; rfl); have z0 := blk_frozen HX2.out 0; have z1 := blk_frozen HX2.out 1; clear hb))
  refine bodyPost_ret (results_cell_row rfl _ _ w.heap.size 64 #[.int .i64 0, .int .i64 1] (0, 0) _ rfl (by refine blk_put (cs := #[.int .i64 0, .int .i64 0]) ?_ 1 _ rfl; refine blk_put (cs := #[.int .i64 0, .int .i64 0]) ?_ 0 _ rfl; exact HX2.out) Try.underlying64 rfl (by kernel_rfl)) rfl ?_
  exact ⟨rfl, (HB2.out.setCell (Nat.le_refl _) _).setCell (Nat.le_refl _) _⟩
set_option maxRecDepth 1000000 in
set_option maxHeartbeats 8000000 in
theorem rcut_4 (l : List S77) (A : Option Addr) (c : Nat) (level : Int) (w : World) (hr : Kd.C k77 w A l.length l) (hc : l.length ≤ c) (hf : Fine l) (H16 : Aside0 (Say w 16 #[.slice A l.length c, .int .i64 level] (.bool true))) (hp : packable l level = true) (hw : wsOk l level = true) (h2 : 2 ≤ l.length) :
    Calls Try.prog 41 #[.slice A l.length c, .int .i64 level] w fun e w' => e = .returned (.agg #[.int .i64 (bestA l level), .int .i64 0]) ∧ Below w.heap.size w w' := by
  have hu64 := Try.underlying64
  have HB0 := Aside0.mk (below_alloc (Below.refl w.heap.size w) (.cells #[.int .i64 0, .int .i64 0] 64))
  have HX0 := Aside0.mk (blk_new w (.cells #[.int .i64 0, .int .i64 0] 64))
  have HWT := Aside0.mk (fun (W : World) (hb : Below w.heap.size w W) => (show Calls Try.prog 77 #[.slice A l.length c, .int .i64 level] W fun e w' => ∃ V d, e = .returned (.slice (some V) l.length d) ∧ (Kd.int .i64).C w' (some V) l.length (l.map (wOne level)) ∧ Below W.heap.size W w' from (weights_c l A c level W (Kd.C_below hr hb) hc hf).mono (fun e w' h => by
    obtain ⟨v, rfl, h1, h0, hb2⟩ := h
    obtain ⟨h2, q, h3⟩ := h1 hw
    obtain ⟨V, d, rfl⟩ := Kd.R_slice h2
    have h4 := Kd.R_reads' h2
    rw [show (l.map (wOne level)).length = l.length by simp] at h4 ⊢
    rcases V with _ | V
    · simp [Value.ownBlock] at h3
    · exact ⟨V, d, rfl, h4.2.2, hb2⟩)))
  have k0 : decide ((l.length : Int) < 2) = false := decide_eq_false (by omega)
  have k1 : decide (l.length < 2) = false := decide_eq_false (by omega)
  have k2 : decide ((2 : Int) > (l.length : Int)) = false := decide_eq_false (by omega)
  have HCU := Aside0.mk (fun (W : World) (hb : Below w.heap.size w W) (V : Addr) (d : Nat) (hv : (Kd.int .i64).C W (some V) l.length (l.map (wOne level))) => (by have h := rcut_c l A c (l.map (wOne level)) (some V) d level W (Kd.C_below hr hb) hv (by simp) h2 hf (ws_ok hp hf); rw [rBest_eq hp h2] at h; exact h : Calls Try.prog 78 #[.slice A l.length c, .slice (some V) l.length d, .int .i64 level] W fun e w' => e = .returned (.int .i64 (bestA l level)) ∧ Below W.heap.size W w'))
  generalize l.map (wOne level) = ws at HWT HCU
  generalize bestA l level = ba at HCU ⊢
  have hlen : (l.length : Int) ≤ 1000000 := by have := hf.1; omega
  clear hr hc hf hp hw h2
  go_enter Try.func41, Try.ntmps41
  go_wp2_with (first | (go_at_call 77; refine (HWT.out _ HB0.out).mono ?_; rintro e W1 ⟨V, d, rfl, hv, hb⟩; have HB1 := Aside0.mk (HB0.out.trans (hb.mono HB0.out.size)); have HX1 := Aside0.mk (blk_below HX0.out hb); have HV := Aside0.mk hv; clear hv; clear hb) | (go_at_call 16; refine (H16.out _ HB1.out).mono ?_; rintro e W2 ⟨rfl, hb⟩; have HB2 := Aside0.mk (HB1.out.trans (hb.mono HB1.out.size)); have HX2 := Aside0.mk (blk_below HX1.out hb); have y0 : W2.cell? ⟨w.heap.size, 0, none⟩ = some (.int .i64 0) := (by rw [blk_cell HX2.out]; rfl); have y1 : W2.cell? ⟨w.heap.size, 1, none⟩ = some (.int .i64 0) := (by rw [blk_cell HX2.out]; rfl); have z0 := blk_frozen HX2.out 0; have z1 := blk_frozen HX2.out 1; have HV2 := Aside0.mk hb; clear hb) | (go_at_call 78; refine (HCU.out _ HB2.out V d (Kd.C_below HV.out HV2.out)).mono ?_; rintro e W3 ⟨rfl, hb⟩; have HB3 := Aside0.mk (HB2.out.trans (hb.mono HB2.out.size)); have HX3 := Aside0.mk (blk_below HX2.out hb); clear y0 y1 z0 z1; have y0 : W3.cell? ⟨w.heap.size, 0, none⟩ = some (.int .i64 0) := (by rw [blk_cell HX3.out]; rfl); have y1 : W3.cell? ⟨w.heap.size, 1, none⟩ = some (.int .i64 0) := (by rw [blk_cell HX3.out]; rfl); have z0 := blk_frozen HX3.out 0; have z1 := blk_frozen HX3.out 1; clear hb))
  refine bodyPost_ret (results_cell_row rfl _ _ w.heap.size 64 #[.int .i64 ba, .int .i64 0] (0, 0) _ rfl (by refine blk_put (cs := #[.int .i64 ba, .int .i64 0]) ?_ 1 _ rfl; refine blk_put (cs := #[.int .i64 0, .int .i64 0]) ?_ 0 _ rfl; exact HX3.out) Try.underlying64 rfl (by kernel_rfl)) rfl ?_
  exact ⟨rfl, (HB3.out.setCell (Nat.le_refl _) _).setCell (Nat.le_refl _) _⟩
theorem rcutR_c (l : List S77) (A : Option Addr) (c : Nat) (level : Int) (w : World) (hr : Kd.C k77 w A l.length l) (hc : l.length ≤ c) (hf : Fine l) (hl : l.length ≤ 100) :
    Calls Try.prog 41 #[.slice A l.length c, .int .i64 level] w fun e w' => e = .returned (.agg #[.int .i64 (cutR l level).1, .int .i64 (cutR l level).2]) ∧ Below w.heap.size w w' := by
  obtain ⟨k0, e0⟩ := ordered_eq l level hl
  have H16 := Aside0.mk (say_drawn (w := w) fun w1 b => understoryref06_Ordered.calls k0 A c l level _ w1 (Kd.C_below hr b) hc e0)
  have hpk := packable_ws l level
  cases ho : ordL l level with
  | false =>
    rw [ho] at H16 hpk
    rw [show cutR l level = (0, 2) by unfold cutR; rw [hpk]; rfl]
    exact rcut_1 l A c level w hr hc hf H16
  | true =>
    rw [ho] at H16 hpk
    cases hw : wsOk l level with
    | false =>
      rw [hw] at hpk
      rw [show cutR l level = (0, 2) by unfold cutR; rw [hpk]; rfl]
      exact rcut_2 l A c level w hr hc hf H16 hw
    | true =>
      rw [hw, Bool.true_and] at hpk
      by_cases h2 : 2 ≤ l.length
      · rw [show cutR l level = (bestA l level, 0) by unfold cutR; rw [hpk, if_pos rfl, if_pos h2]]
        exact rcut_4 l A c level w hr hc hf H16 hpk hw h2
      · rw [show cutR l level = (0, 1) by unfold cutR; rw [hpk, if_pos rfl, if_neg h2]]
        exact rcut_3 l A c level w hr hc hf H16 hw (by omega)
/-- how the reference's Pack ends -/
def RPOut (w : World) (x : (List (List S77) × List ByteArray) × Int) (e : Ending) (w' : World) : Prop :=
  ∃ A1 c1 A2 c2, e = .returned (.agg #[.slice A1 x.1.1.length c1, .slice A2 x.1.2.length c2, .int .i64 x.2]) ∧ (x.1.1.length ≤ c1 ∧ kN.C w' A1 x.1.1.length x.1.1) ∧ (x.1.2.length ≤ c2 ∧ Kd.string.C w' A2 x.1.2.length x.1.2) ∧ Below w.heap.size w w'
theorem rpout_nil (w : World) (k : Int) (w' : World) (hb : Below w.heap.size w w') : RPOut w (([], []), k) (.returned (.agg #[.slice none 0 0, .slice none 0 0, .int .i64 k])) w' :=
  ⟨none, 0, none, 0, rfl, ⟨Nat.le_refl _, Kd.C_nil _ _⟩, ⟨Nat.le_refl _, Kd.C_nil _ _⟩, hb⟩
set_option maxRecDepth 1000000 in
set_option maxHeartbeats 8000000 in
theorem rpk_1 (l : List S77) (A : Option Addr) (c : Nat) (level : Int) (w : World) (hr : Kd.C k77 w A l.length l) (hc : l.length ≤ c) (hf : Fine l) (H16 : Aside0 (Say w 16 #[.slice A l.length c, .int .i64 level] (.bool false))) :
    Calls Try.prog 42 #[.slice A l.length c, .int .i64 level] w (RPOut w (([], []), 2)) := by
  have hu67 := Try.underlying67
  have HB0 := Aside0.mk (below_alloc (Below.refl w.heap.size w) (.cells #[.slice none 0 0, .slice none 0 0, .int .i64 0] 67))
  have HX0 := Aside0.mk (blk_new w (.cells #[.slice none 0 0, .slice none 0 0, .int .i64 0] 67))
  clear hr hc hf
  go_enter Try.func42, Try.ntmps42
  go_wp2_with (first | (go_at_call 16; refine (H16.out _ HB0.out).mono ?_; rintro e W1 ⟨rfl, hb⟩; have HB1 := Aside0.mk (HB0.out.trans (hb.mono HB0.out.size)); have HX1 := Aside0.mk (blk_below HX0.out hb); have y0 : W1.cell? ⟨w.heap.size, 0, none⟩ = some (.slice none 0 0) := (by rw [blk_cell HX1.out]; rfl); have y1 : W1.cell? ⟨w.heap.size, 1, none⟩ = some (.slice none 0 0) := (by rw [blk_cell HX1.out]; rfl); have y2 : W1.cell? ⟨w.heap.size, 2, none⟩ = some (.int .i64 0) := (by rw [blk_cell HX1.out]; rfl); have z0 := blk_frozen HX1.out 0; have z1 := blk_frozen HX1.out 1; have z2 := blk_frozen HX1.out 2; clear hb))
  have J0 := Aside0.mk (blk_put HX1.out 0 (.slice none 0 0) rfl)
  have J1 := Aside0.mk (blk_put J0.out 1 (.slice none 0 0) rfl)
  have J2 := Aside0.mk (blk_put J1.out 2 (.int .i64 2) rfl)
  refine bodyPost_ret (results_cell_row rfl _ _ w.heap.size 67 #[.slice none 0 0, .slice none 0 0, .int .i64 2] (0, 0) _ rfl J2.out Try.underlying67 rfl (by kernel_rfl)) rfl ?_
  exact rpout_nil w 2 _ (((HB1.out.setCell (p := ⟨w.heap.size, 0, none⟩) (Nat.le_refl _) _).setCell (p := ⟨w.heap.size, 1, none⟩) (Nat.le_refl _) _).setCell (p := ⟨w.heap.size, 2, none⟩) (Nat.le_refl _) _)
set_option maxRecDepth 1000000 in
set_option maxHeartbeats 8000000 in
theorem rpk_2 (l : List S77) (A : Option Addr) (c : Nat) (level : Int) (w : World) (hr : Kd.C k77 w A l.length l) (hc : l.length ≤ c) (hf : Fine l) (H16 : Aside0 (Say w 16 #[.slice A l.length c, .int .i64 level] (.bool true))) (hw : wsOk l level = false) :
    Calls Try.prog 42 #[.slice A l.length c, .int .i64 level] w (RPOut w (([], []), 2)) := by
  have hu67 := Try.underlying67
  have HB0 := Aside0.mk (below_alloc (Below.refl w.heap.size w) (.cells #[.slice none 0 0, .slice none 0 0, .int .i64 0] 67))
  have HX0 := Aside0.mk (blk_new w (.cells #[.slice none 0 0, .slice none 0 0, .int .i64 0] 67))
  have HWT := Aside0.mk (fun (W : World) (hb : Below w.heap.size w W) => (show Calls Try.prog 77 #[.slice A l.length c, .int .i64 level] W fun e w' => e = .returned (.slice none 0 0) ∧ Below W.heap.size W w' from (weights_c l A c level W (Kd.C_below hr hb) hc hf).mono (fun e w' h => by
    obtain ⟨v, rfl, h1, h0, hb2⟩ := h
    rw [h0 hw]; exact ⟨rfl, hb2⟩)))
  clear hr hc hf hw
  go_enter Try.func42, Try.ntmps42
  go_wp2_with (first | (go_at_call 16; refine (H16.out _ HB0.out).mono ?_; rintro e W1 ⟨rfl, hb⟩; have HB1 := Aside0.mk (HB0.out.trans (hb.mono HB0.out.size)); have HX1 := Aside0.mk (blk_below HX0.out hb); have y0 : W1.cell? ⟨w.heap.size, 0, none⟩ = some (.slice none 0 0) := (by rw [blk_cell HX1.out]; rfl); have y1 : W1.cell? ⟨w.heap.size, 1, none⟩ = some (.slice none 0 0) := (by rw [blk_cell HX1.out]; rfl); have y2 : W1.cell? ⟨w.heap.size, 2, none⟩ = some (.int .i64 0) := (by rw [blk_cell HX1.out]; rfl); have z0 := blk_frozen HX1.out 0; have z1 := blk_frozen HX1.out 1; have z2 := blk_frozen HX1.out 2; clear hb) | (go_at_call 77; refine (HWT.out _ HB1.out).mono ?_; rintro e W2 ⟨rfl, hb⟩; have HB2 := Aside0.mk (HB1.out.trans (hb.mono HB1.out.size)); have HX2 := Aside0.mk (blk_below HX1.out hb); clear y0 y1 y2 z0 z1 z2; have y0 : W2.cell? ⟨w.heap.size, 0, none⟩ = some (.slice none 0 0) := (by rw [blk_cell HX2.out]; rfl); have y1 : W2.cell? ⟨w.heap.size, 1, none⟩ = some (.slice none 0 0) := (by rw [blk_cell HX2.out]; rfl); have y2 : W2.cell? ⟨w.heap.size, 2, none⟩ = some (.int .i64 0) := (by rw [blk_cell HX2.out]; rfl); have z0 := blk_frozen HX2.out 0; have z1 := blk_frozen HX2.out 1; have z2 := blk_frozen HX2.out 2; skip; clear hb))
  have J0 := Aside0.mk (blk_put HX2.out 0 (.slice none 0 0) rfl)
  have J1 := Aside0.mk (blk_put J0.out 1 (.slice none 0 0) rfl)
  have J2 := Aside0.mk (blk_put J1.out 2 (.int .i64 2) rfl)
  refine bodyPost_ret (results_cell_row rfl _ _ w.heap.size 67 #[.slice none 0 0, .slice none 0 0, .int .i64 2] (0, 0) _ rfl J2.out Try.underlying67 rfl (by kernel_rfl)) rfl ?_
  exact rpout_nil w 2 _ (((HB2.out.setCell (p := ⟨w.heap.size, 0, none⟩) (Nat.le_refl _) _).setCell (p := ⟨w.heap.size, 1, none⟩) (Nat.le_refl _) _).setCell (p := ⟨w.heap.size, 2, none⟩) (Nat.le_refl _) _)
set_option maxRecDepth 1000000 in
set_option maxHeartbeats 8000000 in
theorem rpk_3 (l : List S77) (A : Option Addr) (c : Nat) (level : Int) (w : World) (hr : Kd.C k77 w A l.length l) (hc : l.length ≤ c) (hf : Fine l) (H16 : Aside0 (Say w 16 #[.slice A l.length c, .int .i64 level] (.bool true))) (hw : wsOk l level = true) (h0 : l.length = 0) :
    Calls Try.prog 42 #[.slice A l.length c, .int .i64 level] w (RPOut w (([], []), 0)) := by
  have hu67 := Try.underlying67
  have HB0 := Aside0.mk (below_alloc (Below.refl w.heap.size w) (.cells #[.slice none 0 0, .slice none 0 0, .int .i64 0] 67))
  have HX0 := Aside0.mk (blk_new w (.cells #[.slice none 0 0, .slice none 0 0, .int .i64 0] 67))
  have HWT := Aside0.mk (fun (W : World) (hb : Below w.heap.size w W) => (show Calls Try.prog 77 #[.slice A l.length c, .int .i64 level] W fun e w' => ∃ V d, e = .returned (.slice (some V) l.length d) ∧ (Kd.int .i64).C w' (some V) l.length (l.map (wOne level)) ∧ Below W.heap.size W w' from (weights_c l A c level W (Kd.C_below hr hb) hc hf).mono (fun e w' h => by
    obtain ⟨v, rfl, h1, h0, hb2⟩ := h
    obtain ⟨h2, q, h3⟩ := h1 hw
    obtain ⟨V, d, rfl⟩ := Kd.R_slice h2
    have h4 := Kd.R_reads' h2
    rw [show (l.map (wOne level)).length = l.length by simp] at h4 ⊢
    rcases V with _ | V
    · simp [Value.ownBlock] at h3
    · exact ⟨V, d, rfl, h4.2.2, hb2⟩)))
  have k1 : ((l.length : Int) == 0) = true := beq_iff_eq.mpr (by omega)
  clear hr hc hf hw h0
  go_enter Try.func42, Try.ntmps42
  go_wp2_with (first | (go_at_call 16; refine (H16.out _ HB0.out).mono ?_; rintro e W1 ⟨rfl, hb⟩; have HB1 := Aside0.mk (HB0.out.trans (hb.mono HB0.out.size)); have HX1 := Aside0.mk (blk_below HX0.out hb); have y0 : W1.cell? ⟨w.heap.size, 0, none⟩ = some (.slice none 0 0) := (by rw [blk_cell HX1.out]; rfl); have y1 : W1.cell? ⟨w.heap.size, 1, none⟩ = some (.slice none 0 0) := (by rw [blk_cell HX1.out]; rfl); have y2 : W1.cell? ⟨w.heap.size, 2, none⟩ = some (.int .i64 0) := (by rw [blk_cell HX1.out]; rfl); have z0 := blk_frozen HX1.out 0; have z1 := blk_frozen HX1.out 1; have z2 := blk_frozen HX1.out 2; clear hb) | (go_at_call 77; refine (HWT.out _ HB1.out).mono ?_; rintro e W2 ⟨V, d, rfl, hv, hb⟩; have HB2 := Aside0.mk (HB1.out.trans (hb.mono HB1.out.size)); have HX2 := Aside0.mk (blk_below HX1.out hb); clear y0 y1 y2 z0 z1 z2; have y0 : W2.cell? ⟨w.heap.size, 0, none⟩ = some (.slice none 0 0) := (by rw [blk_cell HX2.out]; rfl); have y1 : W2.cell? ⟨w.heap.size, 1, none⟩ = some (.slice none 0 0) := (by rw [blk_cell HX2.out]; rfl); have y2 : W2.cell? ⟨w.heap.size, 2, none⟩ = some (.int .i64 0) := (by rw [blk_cell HX2.out]; rfl); have z0 := blk_frozen HX2.out 0; have z1 := blk_frozen HX2.out 1; have z2 := blk_frozen HX2.out 2; clear hv; clear hb))
  have J0 := Aside0.mk (blk_put HX2.out 0 (.slice none 0 0) rfl)
  have J1 := Aside0.mk (blk_put J0.out 1 (.slice none 0 0) rfl)
  have J2 := Aside0.mk (blk_put J1.out 2 (.int .i64 0) rfl)
  refine bodyPost_ret (results_cell_row rfl _ _ w.heap.size 67 #[.slice none 0 0, .slice none 0 0, .int .i64 0] (0, 0) _ rfl J2.out Try.underlying67 rfl (by kernel_rfl)) rfl ?_
  exact rpout_nil w 0 _ (((HB2.out.setCell (p := ⟨w.heap.size, 0, none⟩) (Nat.le_refl _) _).setCell (p := ⟨w.heap.size, 1, none⟩) (Nat.le_refl _) _).setCell (p := ⟨w.heap.size, 2, none⟩) (Nat.le_refl _) _)
set_option maxRecDepth 1000000 in
set_option maxHeartbeats 8000000 in
theorem rpk_4 (l : List S77) (A : Option Addr) (c : Nat) (level : Int) (w : World) (hr : Kd.C k77 w A l.length l) (hc : l.length ≤ c) (hf : Fine l) (H16 : Aside0 (Say w 16 #[.slice A l.length c, .int .i64 level] (.bool true))) (hks : ∀ x ∈ l, x.f0.size ≤ 1000000) (hp : packable l level = true) (hw : wsOk l level = true) (h0 : 0 < l.length) (x : List (List S77) × List ByteArray) (hx : packO (l.length + 1) l level = some x) :
    Calls Try.prog 42 #[.slice A l.length c, .int .i64 level] w (RPOut w (x, 0)) := by
  have hu67 := Try.underlying67
  have HB0 := Aside0.mk (below_alloc (Below.refl w.heap.size w) (.cells #[.slice none 0 0, .slice none 0 0, .int .i64 0] 67))
  have HX0 := Aside0.mk (blk_new w (.cells #[.slice none 0 0, .slice none 0 0, .int .i64 0] 67))
  have HWT := Aside0.mk (fun (W : World) (hb : Below w.heap.size w W) => (show Calls Try.prog 77 #[.slice A l.length c, .int .i64 level] W fun e w' => ∃ V d, e = .returned (.slice (some V) l.length d) ∧ (Kd.int .i64).C w' (some V) l.length (l.map (wOne level)) ∧ Below W.heap.size W w' from (weights_c l A c level W (Kd.C_below hr hb) hc hf).mono (fun e w' h => by
    obtain ⟨v, rfl, h1, h0, hb2⟩ := h
    obtain ⟨h2, q, h3⟩ := h1 hw
    obtain ⟨V, d, rfl⟩ := Kd.R_slice h2
    have h4 := Kd.R_reads' h2
    rw [show (l.map (wOne level)).length = l.length by simp] at h4 ⊢
    rcases V with _ | V
    · simp [Value.ownBlock] at h3
    · exact ⟨V, d, rfl, h4.2.2, hb2⟩)))
  have k1 : ((l.length : Int) == 0) = false := beq_eq_false_iff_ne.mpr (by omega)
  have hll := hf.1
  have HPK := Aside0.mk (fun (W : World) (v : Value) (B : Nat) (hB : B ≤ W.heap.size) (hO : Ow W B v l) => rpack_all level (l.length + 1) l v W B x (Nat.lt_succ_self _) h0 hp hf hks hB hO hx)
  have HCL := Aside0.mk (fun (W2 : World) (hW2 : Below w.heap.size w W2) (W : World) (hW : Below W2.heap.size W2 W) => Kd.C_below hr (below_tr2 (w := w) hW2 hW))
  have HXL := Aside0.mk (show (([] : List S77).length + l.length) * 80 ≤ 140737488355328 from by simp only [List.length_nil]; omega)
  clear hr hc hf hks hp hw h0 hx hll
  go_enter Try.func42, Try.ntmps42
  go_wp2_with (first | (go_at_call 16; refine (H16.out _ HB0.out).mono ?_; rintro e W1 ⟨rfl, hb⟩; have HB1 := Aside0.mk (HB0.out.trans (hb.mono HB0.out.size)); have HX1 := Aside0.mk (blk_below HX0.out hb); have y0 : W1.cell? ⟨w.heap.size, 0, none⟩ = some (.slice none 0 0) := (by rw [blk_cell HX1.out]; rfl); have y1 : W1.cell? ⟨w.heap.size, 1, none⟩ = some (.slice none 0 0) := (by rw [blk_cell HX1.out]; rfl); have y2 : W1.cell? ⟨w.heap.size, 2, none⟩ = some (.int .i64 0) := (by rw [blk_cell HX1.out]; rfl); have z0 := blk_frozen HX1.out 0; have z1 := blk_frozen HX1.out 1; have z2 := blk_frozen HX1.out 2; clear hb) | (go_at_call 77; refine (HWT.out _ HB1.out).mono ?_; rintro e W2 ⟨V, d, rfl, hv, hb⟩; have HB2 := Aside0.mk (HB1.out.trans (hb.mono HB1.out.size)); have HX2 := Aside0.mk (blk_below HX1.out hb); clear y0 y1 y2 z0 z1 z2; have y0 : W2.cell? ⟨w.heap.size, 0, none⟩ = some (.slice none 0 0) := (by rw [blk_cell HX2.out]; rfl); have y1 : W2.cell? ⟨w.heap.size, 1, none⟩ = some (.slice none 0 0) := (by rw [blk_cell HX2.out]; rfl); have y2 : W2.cell? ⟨w.heap.size, 2, none⟩ = some (.int .i64 0) := (by rw [blk_cell HX2.out]; rfl); have z0 := blk_frozen HX2.out 0; have z1 := blk_frozen HX2.out 1; have z2 := blk_frozen HX2.out 2; have HB := Aside0.mk (Below.refl W2.heap.size W2); clear hv y0 y1 y2 z0 z1 z2; clear hb) | ((with_reducible refine gate_dst (N := 20) rfl ?_); refine Kd.R_lit k77 W2.heap.size 77 rfl (N := 20) rfl (xs := ([] : List S77)) (inner := []) (ok := fun _ => True) (okp := fun _ => True) ?hr (Reps.none _ _) (fun _ hk => hk) trivial HB.out HB.out.size (by simp) ?_; (case hr => first | (go_simp; done) | (go_simp; rfl)); intro vL wL ho hb hg_ hnew_; clear hg_ hnew_; have HBn := Aside0.mk hb; have HO := Aside0.mk ho; clear HB ho hb; have HB := HBn; clear HBn; skip) | ((with_reducible refine gate_builtin (b := .append) (xs := #[.tmp 20, .tmp 21]) rfl ?_); at_builtin; refine Kd.R_append_rows k77 (w0 := W2) W2.heap.size rfl (.tmp 20) (.tmp 21) 22 77 (.agg #[(.string ⟨#[]⟩), (.string ⟨#[]⟩), (.int .i64 0), (.int .i64 0), (.int .i64 0), (.int .i64 0), (.int .u8 0), (.int .u8 0), (.int .u8 0), (.int .u8 0), (.int .u8 0), (.int .u8 0), (.int .u8 0), (.int .u8 0), (.int .u8 0), (.int .u8 0), (.int .u8 0), (.int .u8 0), (.int .u8 0), (.int .u8 0), (.int .u8 0), (.int .u8 0)]) 80 rfl Try.underlying22 info77 rfl (by decide) (by omega) vL ([] : List S77) l _ _ _ (fun _ => True) (fun _ => False) rfl rfl ?aO ?aR (fun _ _ h => h) (fun _ h => h.elim) ?aF ?aB ?aS ?aL ?_; (case aR => exact HCL.out _ HB2.out _ HB.out); (case aB => exact HB.out); (case aF => exact (fun _ _ => trivial)); (case aO => exact HO.out); (case aS => exact HB.out.size); (case aL => exact HXL.out); intro vA wA ho hb hg hat; have HBn := Aside0.mk hb; have HOn := Aside0.mk (show Ow wA W2.heap.size vA l from by simpa using ho); clear HB HO ho hb hg hat; have HB := HBn; have HO := HOn; clear HBn HOn; skip) | (go_at_call 79; refine (HPK.out _ _ _ HB.out.size HO.out).mono ?_; rintro e W4 ⟨v1, v2, rfl, r1, b1, r2, hb⟩; obtain ⟨A1, n1, c1, rfl⟩ : ∃ A n c, v1 = Value.slice A n c := (by obtain ⟨A, c, h⟩ := Kd.R_slice r1; exact ⟨_, _, _, h⟩); obtain ⟨A2, n2, c2, rfl⟩ : ∃ A n c, v2 = Value.slice A n c := (by obtain ⟨A, c, h⟩ := Kd.R_slice r2; exact ⟨_, _, _, h⟩); have R1 := Aside0.mk r1; have R2 := Aside0.mk r2; have HX4 := Aside0.mk (blk_below (blk_below HX2.out HB.out) hb); have HB4 := Aside0.mk (below_tr2 (w := w) (below_tr2 (w := w) HB2.out HB.out) hb); have y0 : W4.cell? ⟨w.heap.size, 0, none⟩ = some (.slice none 0 0) := (by rw [blk_cell HX4.out]; rfl); have y1 : W4.cell? ⟨w.heap.size, 1, none⟩ = some (.slice none 0 0) := (by rw [blk_cell HX4.out]; rfl); have y2 : W4.cell? ⟨w.heap.size, 2, none⟩ = some (.int .i64 0) := (by rw [blk_cell HX4.out]; rfl); have z0 := blk_frozen HX4.out 0; have z1 := blk_frozen HX4.out 1; have z2 := blk_frozen HX4.out 2; clear r1 b1 r2 hb HB HO HX2 HB2))
  have J0 := Aside0.mk (blk_put HX4.out 0 (.slice A1 n1 c1) rfl)
  have J1 := Aside0.mk (blk_put J0.out 1 (.slice A2 n2 c2) rfl)
  have J2 := Aside0.mk (blk_put J1.out 2 (.int .i64 0) rfl)
  have Q1 := Kd.R_reads' (Kd.R_set (Kd.R_set (Kd.R_set R1.out HX4.out (kN_only (by decide) (by decide)) 0 (.slice A1 n1 c1)) J0.out (kN_only (by decide) (by decide)) 1 (.slice A2 n2 c2)) J1.out (kN_only (by decide) (by decide)) 2 (.int .i64 0))
  have Q2 := Kd.R_reads' (Kd.R_set (Kd.R_set (Kd.R_set R2.out HX4.out (str_only (by decide)) 0 (.slice A1 n1 c1)) J0.out (str_only (by decide)) 1 (.slice A2 n2 c2)) J1.out (str_only (by decide)) 2 (.int .i64 0))
  refine bodyPost_ret (results_cell_row rfl _ _ w.heap.size 67 #[.slice A1 n1 c1, .slice A2 n2 c2, .int .i64 0] (0, 0) _ rfl J2.out Try.underlying67 rfl (by kernel_rfl)) rfl ?_
  refine ⟨A1, c1, A2, c2, by rw [Q1.1, Q2.1], ⟨by rw [← Q1.1]; exact Q1.2.1, Q1.2.2⟩, ⟨by rw [← Q2.1]; exact Q2.2.1, Q2.2.2⟩, ?_⟩
  exact ((HB4.out.setCell (p := ⟨w.heap.size, 0, none⟩) (Nat.le_refl _) _).setCell (p := ⟨w.heap.size, 1, none⟩) (Nat.le_refl _) _).setCell (p := ⟨w.heap.size, 2, none⟩) (Nat.le_refl _) _
theorem rpackR_c (l : List S77) (A : Option Addr) (c : Nat) (level : Int) (w : World) (hr : Kd.C k77 w A l.length l) (hc : l.length ≤ c) (hf : Fine l) (hks : ∀ x ∈ l, x.f0.size ≤ 1000000) (hl : l.length ≤ 100) :
    Calls Try.prog 42 #[.slice A l.length c, .int .i64 level] w (RPOut w (packR l level)) := by
  obtain ⟨k0, e0⟩ := ordered_eq l level hl
  have H16 := Aside0.mk (say_drawn (w := w) fun w1 b => understoryref06_Ordered.calls k0 A c l level _ w1 (Kd.C_below hr b) hc e0)
  have hpk := packable_ws l level
  cases ho : ordL l level with
  | false =>
    rw [ho] at H16 hpk
    rw [show packR l level = (([], []), 2) by unfold packR; rw [hpk]; rfl]
    exact rpk_1 l A c level w hr hc hf H16
  | true =>
    rw [ho] at H16 hpk
    cases hw : wsOk l level with
    | false =>
      rw [hw] at hpk
      rw [show packR l level = (([], []), 2) by unfold packR; rw [hpk]; rfl]
      exact rpk_2 l A c level w hr hc hf H16 hw
    | true =>
      rw [hw, Bool.true_and] at hpk
      by_cases h0 : l.length = 0
      · rw [show packR l level = (([], []), 0) by unfold packR; rw [hpk, if_pos rfl, if_pos h0]]
        exact rpk_3 l A c level w hr hc hf H16 hw h0
      · obtain ⟨x, hx⟩ := packO_some level (l.length + 1) l (Nat.lt_succ_self _) hpk
        rw [show packR l level = (x, 0) by unfold packR; rw [hpk, if_pos rfl, if_neg h0, hx]]
        exact rpk_4 l A c level w hr hc hf H16 hks hpk hw (by omega) x hx
end Go.Proofs.Ytalncokpbgbccaa.E

/- NodePacks, walked and joined: whatever the entries and byte sequences, it returns true. -/
namespace Go.Proofs.Ytalncokpbgbccaa.E
set_option linter.unusedVariables false
set_option linter.unusedSimpArgs false
open Go.RowKit Go.Proofs.YtalncokpbgbccaaW.PrintWords Go.Proofs.YtalncokpbgbccaaW.PrintLast Go.Proofs.YtalncokpbgbccaaW.PrintMore
theorem packO_total : ∀ (f : Nat) (l : List S77) (level : Int) (x : List (List S77) × List ByteArray), 1 ≤ l.length → packO f l level = some x → ∀ p ∈ x.1, p.length ≤ l.length := by
  intro f
  induction f with
  | zero => intro l level x _ h; cases h
  | succ f ih =>
    intro l level x hl h p hp
    rw [packO] at h
    split at h
    · cases h; simp at hp; rw [hp]; exact Nat.le_refl _
    split at h
    · cases h
    obtain ⟨_, hb1, hb2⟩ := bestN_spec l level (by omega)
    obtain ⟨y, hy, h⟩ := Option.bind_eq_some_iff.mp h
    obtain ⟨z, hz, h⟩ := Option.bind_eq_some_iff.mp h
    cases h
    rcases List.mem_append.mp hp with hp | hp
    · have := ih _ _ _ (by simp; omega) hy p hp
      simp at this; omega
    · have := ih _ _ _ (by rw [bare_length]; simp; omega) hz p hp
      rw [bare_length] at this
      simp at this; omega
theorem strings_loop (S : List ByteArray) (h : S.length ≤ 1000000) : ∀ k i, i ≤ S.length → S.length - i < k → understoryref06_Strings.l0 k S S (i : Int) = some true := by
  intro k
  induction k with
  | zero => intro i _ h; omega
  | succ k ih =>
    intro i hi hk
    unfold understoryref06_Strings.l0
    by_cases hlt : i < S.length
    · rw [if_pos (by omega), if_pos (by omega), if_pos (by omega), if_pos rfl, w64 _ (by omega) (by omega), show ((i : Int) + 1) = ((i + 1 : Nat) : Int) from by omega]
      exact ih (i + 1) (by omega) (by omega)
    · rw [if_neg (by omega)]
theorem strings_same (S : List ByteArray) (h : S.length ≤ 1000000) : understoryref06_Strings.f (S.length + 1) S S = some true := by
  unfold understoryref06_Strings.f
  rw [if_pos rfl]
  exact strings_loop S h _ 0 (Nat.zero_le _) (by omega)
set_option maxRecDepth 1000000 in
set_option maxHeartbeats 8000000 in
theorem npacks_1 (A : Option Addr) (n c : Nat) (level : Int) (a b : ByteArray) (w : World) (HSANE : Aside0 (Say w 15 #[] (.bool true))) (HFEW : Aside0 (Ans1 w A n c false)) :
    Calls Try.prog 6 #[.slice A n c, .int .i64 level, .string a, .string b] w fun e w' => e = .returned (.bool true) ∧ Below w.heap.size w w' := by
  go_enter Try.func6, Try.ntmps6
  go_wp2_with (first
    | ((go_at_call 14); (with_reducible refine (HFEW.out _ _ (by repeat (first | exact HB.out | exact Below.refl _ _ | apply below_alloc | apply pw_below_drewN | apply below_drew1)) ?hg).mono ?_); (case hg => first | exact blk_new _ _ | exact heap_alloc_new _ _); rintro e w9 ⟨rfl, hb9⟩; (try clear HB); have HB := Aside0.mk hb9; clear hb9)
    | ((go_at_call 15); (with_reducible refine (HSANE.out _ (by repeat (first | exact HB.out | exact Below.refl _ _ | apply below_alloc | apply pw_below_drewN | apply below_drew1))).mono ?_); rintro e w9 ⟨rfl, hbl⟩; have HBn := Aside0.mk (below_tr2 (w := w) (by repeat (first | exact HB.out | exact Below.refl _ _ | apply below_alloc | apply pw_below_drewN | apply below_drew1)) hbl); (try clear HB); have HB := HBn; clear HBn hbl)
    )
  go_ret
  exact ⟨rfl, HB.out⟩
set_option maxRecDepth 1000000 in
set_option maxHeartbeats 8000000 in
theorem npacks_2 (A : Option Addr) (n c : Nat) (level : Int) (a b : ByteArray) (w : World) (HSANE : Aside0 (Say w 15 #[] (.bool true))) (HFEW : Aside0 (Ans1 w A n c true)) (ha : 100 < a.size) :
    Calls Try.prog 6 #[.slice A n c, .int .i64 level, .string a, .string b] w fun e w' => e = .returned (.bool true) ∧ Below w.heap.size w w' := by
  have z0a : decide ((100 : Int) < (a.size : Int)) = true := decide_eq_true (by omega)
  have z1a : decide ((a.size : Int) > 100) = true := decide_eq_true (by omega)
  have z2a : decide (100 < a.size) = true := decide_eq_true (by omega)
  clear ha
  go_enter Try.func6, Try.ntmps6
  go_wp2_with (first
    | ((go_at_call 14); (with_reducible refine (HFEW.out _ _ (by repeat (first | exact HB.out | exact Below.refl _ _ | apply below_alloc | apply pw_below_drewN | apply below_drew1)) ?hg).mono ?_); (case hg => first | exact blk_new _ _ | exact heap_alloc_new _ _); rintro e w9 ⟨rfl, hb9⟩; (try clear HB); have HB := Aside0.mk hb9; clear hb9)
    | ((go_at_call 15); (with_reducible refine (HSANE.out _ (by repeat (first | exact HB.out | exact Below.refl _ _ | apply below_alloc | apply pw_below_drewN | apply below_drew1))).mono ?_); rintro e w9 ⟨rfl, hbl⟩; have HBn := Aside0.mk (below_tr2 (w := w) (by repeat (first | exact HB.out | exact Below.refl _ _ | apply below_alloc | apply pw_below_drewN | apply below_drew1)) hbl); (try clear HB); have HB := HBn; clear HBn hbl)
    )
  go_ret
  exact ⟨rfl, HB.out⟩
set_option maxRecDepth 1000000 in
set_option maxHeartbeats 8000000 in
theorem npacks_3 (A : Option Addr) (n c : Nat) (level : Int) (a b : ByteArray) (w : World) (HSANE : Aside0 (Say w 15 #[] (.bool true))) (HFEW : Aside0 (Ans1 w A n c true)) (ha : ¬ 100 < a.size) (hb : 100 < b.size) :
    Calls Try.prog 6 #[.slice A n c, .int .i64 level, .string a, .string b] w fun e w' => e = .returned (.bool true) ∧ Below w.heap.size w w' := by
  have z0a : decide ((100 : Int) < (a.size : Int)) = false := decide_eq_false (by omega)
  have z1a : decide ((a.size : Int) > 100) = false := decide_eq_false (by omega)
  have z2a : decide (100 < a.size) = false := decide_eq_false (by omega)
  have z0b : decide ((100 : Int) < (b.size : Int)) = true := decide_eq_true (by omega)
  have z1b : decide ((b.size : Int) > 100) = true := decide_eq_true (by omega)
  have z2b : decide (100 < b.size) = true := decide_eq_true (by omega)
  clear ha hb
  go_enter Try.func6, Try.ntmps6
  go_wp2_with (first
    | ((go_at_call 14); (with_reducible refine (HFEW.out _ _ (by repeat (first | exact HB.out | exact Below.refl _ _ | apply below_alloc | apply pw_below_drewN | apply below_drew1)) ?hg).mono ?_); (case hg => first | exact blk_new _ _ | exact heap_alloc_new _ _); rintro e w9 ⟨rfl, hb9⟩; (try clear HB); have HB := Aside0.mk hb9; clear hb9)
    | ((go_at_call 15); (with_reducible refine (HSANE.out _ (by repeat (first | exact HB.out | exact Below.refl _ _ | apply below_alloc | apply pw_below_drewN | apply below_drew1))).mono ?_); rintro e w9 ⟨rfl, hbl⟩; have HBn := Aside0.mk (below_tr2 (w := w) (by repeat (first | exact HB.out | exact Below.refl _ _ | apply below_alloc | apply pw_below_drewN | apply below_drew1)) hbl); (try clear HB); have HB := HBn; clear HBn hbl)
    )
  go_ret
  exact ⟨rfl, HB.out⟩
set_option maxRecDepth 1000000 in
set_option maxHeartbeats 8000000 in
theorem npacks_4 (A : Option Addr) (n c : Nat) (level : Int) (a b : ByteArray) (w : World) (HSANE : Aside0 (Say w 15 #[] (.bool true))) (HFEW : Aside0 (Ans1 w A n c true)) (ha : ¬ 100 < a.size) (hb : ¬ 100 < b.size) (I E F G : Int) (T : ByteArray) (P : List (List S77)) (S : List ByteArray)
    (H38 : Aside0 (Say w 38 #[.slice A n c, .int .i64 level] (.tuple #[.int .i64 I, .int .i64 E]))) (H40 : Aside0 (Say w 40 #[.string a, .string b] (.tuple #[.string T, .int .i64 G]))) (H41 : Aside0 (Say w 41 #[.slice A n c, .int .i64 level] (.agg #[.int .i64 I, .int .i64 E]))) (H43 : Aside0 (Say w 43 #[.string a, .string b] (.agg #[.string T, .int .i64 G])))
    (H39 : Aside0 (∀ w1, Below w.heap.size w w1 → Calls Try.prog 39 #[.slice A n c, .int .i64 level] w1 fun e w2 => ∃ A1 c1 A2 c2, e = .returned (.tuple #[.slice A1 P.length c1, .slice A2 S.length c2, .int .i64 F]) ∧ (P.length ≤ c1 ∧ kN.C w2 A1 P.length P) ∧ (S.length ≤ c2 ∧ Kd.string.C w2 A2 S.length S) ∧ Below w1.heap.size w1 w2))
    (H42 : Aside0 (∀ w1, Below w.heap.size w w1 → Calls Try.prog 42 #[.slice A n c, .int .i64 level] w1 fun e w2 => ∃ A1 c1 A2 c2, e = .returned (.agg #[.slice A1 P.length c1, .slice A2 S.length c2, .int .i64 F]) ∧ (P.length ≤ c1 ∧ kN.C w2 A1 P.length P) ∧ (S.length ≤ c2 ∧ Kd.string.C w2 A2 S.length S) ∧ Below w1.heap.size w1 w2))
    (H44 : Aside0 (∀ (W : World) A1 c1 A2 c2, kN.C W A1 P.length P → kN.C W A2 P.length P → Calls Try.prog 44 #[.slice A1 P.length c1, .slice A2 P.length c2] W fun e w2 => e = .returned (.bool true) ∧ Below W.heap.size W w2))
    (H45 : Aside0 (∀ (W : World) A1 c1 A2 c2, Kd.string.C W A1 S.length S → S.length ≤ c1 → Kd.string.C W A2 S.length S → S.length ≤ c2 → Calls Try.prog 45 #[.slice A1 S.length c1, .slice A2 S.length c2] W fun e w2 => e = .returned (.bool true) ∧ Below W.heap.size W w2)) :
    Calls Try.prog 6 #[.slice A n c, .int .i64 level, .string a, .string b] w fun e w' => e = .returned (.bool true) ∧ Below w.heap.size w w' := by
  have z0a : decide ((100 : Int) < (a.size : Int)) = false := decide_eq_false (by omega)
  have z1a : decide ((a.size : Int) > 100) = false := decide_eq_false (by omega)
  have z2a : decide (100 < a.size) = false := decide_eq_false (by omega)
  have z0b : decide ((100 : Int) < (b.size : Int)) = false := decide_eq_false (by omega)
  have z1b : decide ((b.size : Int) > 100) = false := decide_eq_false (by omega)
  have z2b : decide (100 < b.size) = false := decide_eq_false (by omega)
  clear ha hb
  go_enter Try.func6, Try.ntmps6
  go_wp2_with (first
    | ((go_at_call 14); (with_reducible refine (HFEW.out _ _ (by repeat (first | exact HB.out | exact Below.refl _ _ | apply below_alloc | apply pw_below_drewN | apply below_drew1)) ?hg).mono ?_); (case hg => first | exact blk_new _ _ | exact heap_alloc_new _ _); rintro e w9 ⟨rfl, hb9⟩; (try clear HB); have HB := Aside0.mk hb9; clear hb9)
    | ((go_at_call 38); (with_reducible refine (H38.out _ (by repeat (first | exact HB.out | exact Below.refl _ _ | apply below_alloc | apply pw_below_drewN | apply below_drew1))).mono ?_); rintro e w9 ⟨rfl, hbl⟩; have HBn := Aside0.mk (below_tr2 (w := w) (by repeat (first | exact HB.out | exact Below.refl _ _ | apply below_alloc | apply pw_below_drewN | apply below_drew1)) hbl); (try clear HB); have HB := HBn; clear HBn hbl)
    | ((go_at_call 39); (with_reducible refine (H39.out _ HB.out).mono ?_); rintro e w5 ⟨A1, c1, A2, c2, rfl, ⟨hc1, hP⟩, ⟨hc2, hS⟩, hbl⟩; have HP1 := Aside0.mk hP; have HS1 := Aside0.mk hS; have HC1 := Aside0.mk hc2; have F5 := Aside0.mk (Below.refl w5.heap.size w5); have HBn := Aside0.mk (below_tr2 (w := w) HB.out hbl); clear HB hbl hP hS hc1 hc2; have HB := HBn; clear HBn)
    | ((go_at_call 40); (with_reducible refine (H40.out _ HB.out).mono ?_); rintro e w9 ⟨rfl, hbl⟩; have HBn := Aside0.mk (below_tr2 (w := w) (by repeat (first | exact HB.out | exact Below.refl _ _ | apply below_alloc)) hbl); (try clear HB); have HB := HBn; clear HBn; have F5n := Aside0.mk (below_tr2 (w := w5) (by repeat (first | exact F5.out | exact Below.refl _ _ | apply below_alloc)) hbl); (try clear F5); have F5 := F5n; clear F5n; clear hbl)
    | ((go_at_call 41); (with_reducible refine (H41.out _ HB.out).mono ?_); rintro e w6 ⟨rfl, hbl⟩; have HBn := Aside0.mk (below_tr2 (w := w) (by repeat (first | exact HB.out | exact Below.refl _ _ | apply below_alloc)) hbl); (try clear HB); have HB := HBn; clear HBn; have F5n := Aside0.mk (below_tr2 (w := w5) (by repeat (first | exact F5.out | exact Below.refl _ _ | apply below_alloc)) hbl); (try clear F5); have F5 := F5n; clear F5n; clear hbl)
    | ((go_at_call 42); (with_reducible refine (H42.out _ (by repeat (first | exact HB.out | exact Below.refl _ _ | apply below_alloc | apply pw_below_drewN | apply below_drew1))).mono ?_); rintro e w7 ⟨A3, c3, A4, c4, rfl, ⟨hc3, hP⟩, ⟨hc4, hS⟩, hbl⟩; have HP2 := Aside0.mk hP; have HS2 := Aside0.mk hS; have HC2 := Aside0.mk hc4; have F7 := Aside0.mk (Below.refl w7.heap.size w7); have G6 := Aside0.mk (blk_below (blk_new w6 (.cells #[.int .i64 I, .int .i64 E] 64)) hbl); have HBn := Aside0.mk (below_tr2 (w := w) (by repeat (first | exact HB.out | exact Below.refl _ _ | apply below_alloc)) hbl); (try clear HB); have HB := HBn; clear HBn; have F5n := Aside0.mk (below_tr2 (w := w5) (by repeat (first | exact F5.out | exact Below.refl _ _ | apply below_alloc)) hbl); (try clear F5); have F5 := F5n; clear F5n; clear hbl hP hS hc3 hc4)
    | ((go_at_call 43); (with_reducible refine (H43.out _ (by repeat (first | exact HB.out | exact Below.refl _ _ | apply below_alloc | apply pw_below_drewN | apply below_drew1))).mono ?_); rintro e w8 ⟨rfl, hbl⟩; have G6n := Aside0.mk (blk_below (blk_alloc G6.out (.cells #[.slice A3 P.length c3, .slice A4 S.length c4, .int .i64 F] 67)) hbl); clear G6; have G6 := G6n; clear G6n; have G7 := Aside0.mk (blk_below (blk_new w7 (.cells #[.slice A3 P.length c3, .slice A4 S.length c4, .int .i64 F] 67)) hbl); have HBn := Aside0.mk (below_tr2 (w := w) (by repeat (first | exact HB.out | exact Below.refl _ _ | apply below_alloc)) hbl); (try clear HB); have HB := HBn; clear HBn; have F5n := Aside0.mk (below_tr2 (w := w5) (by repeat (first | exact F5.out | exact Below.refl _ _ | apply below_alloc)) hbl); (try clear F5); have F5 := F5n; clear F5n; have F7n := Aside0.mk (below_tr2 (w := w7) (by repeat (first | exact F7.out | exact Below.refl _ _ | apply below_alloc)) hbl); (try clear F7); have F7 := F7n; clear F7n; clear hbl)
    | ((go_at_call 15); (with_reducible refine (HSANE.out _ (by repeat (first | exact HB.out | exact Below.refl _ _ | apply below_alloc | apply pw_below_drewN | apply below_drew1))).mono ?_); rintro e wd ⟨rfl, hbl⟩; have G6n := Aside0.mk (blk_below (blk_alloc G6.out (.cells #[.string T, .int .i64 G] 70)) hbl); clear G6; have G6 := G6n; clear G6n; have G7n := Aside0.mk (blk_below (blk_alloc G7.out (.cells #[.string T, .int .i64 G] 70)) hbl); clear G7; have G7 := G7n; clear G7n; have G8 := Aside0.mk (blk_below (blk_new w8 (.cells #[.string T, .int .i64 G] 70)) hbl); have HBn := Aside0.mk (below_tr2 (w := w) (by repeat (first | exact HB.out | exact Below.refl _ _ | apply below_alloc)) hbl); (try clear HB); have HB := HBn; clear HBn; have F5n := Aside0.mk (below_tr2 (w := w5) (by repeat (first | exact F5.out | exact Below.refl _ _ | apply below_alloc)) hbl); (try clear F5); have F5 := F5n; clear F5n; have F7n := Aside0.mk (below_tr2 (w := w7) (by repeat (first | exact F7.out | exact Below.refl _ _ | apply below_alloc)) hbl); (try clear F7); have F7 := F7n; clear F7n; have d0 : wd.cell? ⟨w6.heap.size, 0, none⟩ = some (.int .i64 I) := (by rw [blk_cell G6.out]; rfl); have d1 : wd.cell? ⟨w6.heap.size, 1, none⟩ = some (.int .i64 E) := (by rw [blk_cell G6.out]; rfl); have e0 : wd.cell? ⟨w7.heap.size, 0, none⟩ = some (.slice A3 P.length c3) := (by rw [blk_cell G7.out]; rfl); have e1 : wd.cell? ⟨w7.heap.size, 1, none⟩ = some (.slice A4 S.length c4) := (by rw [blk_cell G7.out]; rfl); have e2 : wd.cell? ⟨w7.heap.size, 2, none⟩ = some (.int .i64 F) := (by rw [blk_cell G7.out]; rfl); have f0 : wd.cell? ⟨w8.heap.size, 0, none⟩ = some (.string T) := (by rw [blk_cell G8.out]; rfl); have f1 : wd.cell? ⟨w8.heap.size, 1, none⟩ = some (.int .i64 G) := (by rw [blk_cell G8.out]; rfl); clear hbl)
    | ((go_at_call 44); (with_reducible refine (H44.out _ _ _ _ _ (Kd.C_below HP1.out F5.out) (Kd.C_below HP2.out F7.out)).mono ?_); rintro e we ⟨rfl, hbl⟩; clear d0 d1 e0 e1 e2 f0 f1; have G6n := Aside0.mk (blk_below G6.out hbl); clear G6; have G6 := G6n; clear G6n; have G7n := Aside0.mk (blk_below G7.out hbl); clear G7; have G7 := G7n; clear G7n; have G8n := Aside0.mk (blk_below G8.out hbl); clear G8; have G8 := G8n; clear G8n; have HBn := Aside0.mk (below_tr2 (w := w) (by repeat (first | exact HB.out | exact Below.refl _ _ | apply below_alloc)) hbl); (try clear HB); have HB := HBn; clear HBn; have F5n := Aside0.mk (below_tr2 (w := w5) (by repeat (first | exact F5.out | exact Below.refl _ _ | apply below_alloc)) hbl); (try clear F5); have F5 := F5n; clear F5n; have F7n := Aside0.mk (below_tr2 (w := w7) (by repeat (first | exact F7.out | exact Below.refl _ _ | apply below_alloc)) hbl); (try clear F7); have F7 := F7n; clear F7n; have d0 : we.cell? ⟨w6.heap.size, 0, none⟩ = some (.int .i64 I) := (by rw [blk_cell G6.out]; rfl); have d1 : we.cell? ⟨w6.heap.size, 1, none⟩ = some (.int .i64 E) := (by rw [blk_cell G6.out]; rfl); have e0 : we.cell? ⟨w7.heap.size, 0, none⟩ = some (.slice A3 P.length c3) := (by rw [blk_cell G7.out]; rfl); have e1 : we.cell? ⟨w7.heap.size, 1, none⟩ = some (.slice A4 S.length c4) := (by rw [blk_cell G7.out]; rfl); have e2 : we.cell? ⟨w7.heap.size, 2, none⟩ = some (.int .i64 F) := (by rw [blk_cell G7.out]; rfl); have f0 : we.cell? ⟨w8.heap.size, 0, none⟩ = some (.string T) := (by rw [blk_cell G8.out]; rfl); have f1 : we.cell? ⟨w8.heap.size, 1, none⟩ = some (.int .i64 G) := (by rw [blk_cell G8.out]; rfl); clear hbl)
    | ((go_at_call 45); (with_reducible refine (H45.out _ _ _ _ _ (Kd.C_below HS1.out F5.out) HC1.out (Kd.C_below HS2.out F7.out) HC2.out).mono ?_); rintro e wf ⟨rfl, hbl⟩; clear d0 d1 e0 e1 e2 f0 f1; have G6n := Aside0.mk (blk_below G6.out hbl); clear G6; have G6 := G6n; clear G6n; have G7n := Aside0.mk (blk_below G7.out hbl); clear G7; have G7 := G7n; clear G7n; have G8n := Aside0.mk (blk_below G8.out hbl); clear G8; have G8 := G8n; clear G8n; have HBn := Aside0.mk (below_tr2 (w := w) (by repeat (first | exact HB.out | exact Below.refl _ _ | apply below_alloc)) hbl); (try clear HB); have HB := HBn; clear HBn; have F5n := Aside0.mk (below_tr2 (w := w5) (by repeat (first | exact F5.out | exact Below.refl _ _ | apply below_alloc)) hbl); (try clear F5); have F5 := F5n; clear F5n; have F7n := Aside0.mk (below_tr2 (w := w7) (by repeat (first | exact F7.out | exact Below.refl _ _ | apply below_alloc)) hbl); (try clear F7); have F7 := F7n; clear F7n; have d0 : wf.cell? ⟨w6.heap.size, 0, none⟩ = some (.int .i64 I) := (by rw [blk_cell G6.out]; rfl); have d1 : wf.cell? ⟨w6.heap.size, 1, none⟩ = some (.int .i64 E) := (by rw [blk_cell G6.out]; rfl); have e0 : wf.cell? ⟨w7.heap.size, 0, none⟩ = some (.slice A3 P.length c3) := (by rw [blk_cell G7.out]; rfl); have e1 : wf.cell? ⟨w7.heap.size, 1, none⟩ = some (.slice A4 S.length c4) := (by rw [blk_cell G7.out]; rfl); have e2 : wf.cell? ⟨w7.heap.size, 2, none⟩ = some (.int .i64 F) := (by rw [blk_cell G7.out]; rfl); have f0 : wf.cell? ⟨w8.heap.size, 0, none⟩ = some (.string T) := (by rw [blk_cell G8.out]; rfl); have f1 : wf.cell? ⟨w8.heap.size, 1, none⟩ = some (.int .i64 G) := (by rw [blk_cell G8.out]; rfl); clear hbl)
    )
  go_ret
  exact ⟨rfl, HB.out⟩
theorem packs_law_c (l : List S77) (A : Option Addr) (c : Nat) (level : Int) (a b : ByteArray) (w : World) (hr : Kd.C k77 w A l.length l) (hc : l.length ≤ c) :
    Calls Try.prog 6 #[.slice A l.length c, .int .i64 level, .string a, .string b] w fun e w' => e = .returned (.bool true) ∧ Below w.heap.size w w' := by
  obtain ⟨bf, hf, HF⟩ := few_one l
  have HFEW := Aside0.mk (HF w A c hr hc)
  have HS := Aside0.mk (show Say w 15 #[] (.bool true) from fun w1 _ => sane_c w1)
  cases bf with
  | false => exact npacks_1 A l.length c level a b w HS HFEW
  | true =>
  by_cases ha : 100 < a.size
  · exact npacks_2 A l.length c level a b w HS HFEW ha
  by_cases hb : 100 < b.size
  · exact npacks_3 A l.length c level a b w HS HFEW ha hb
  have hfw := hf rfl
  have hl := hfw.1
  have hfine := few_fine hfw
  have hks : ∀ x ∈ l, x.f0.size ≤ 1000000 := by
    intro x hx
    obtain ⟨j, hj, rfl⟩ := List.getElem_of_mem hx
    have := hfw.2 j hj
    rw [show l.getD j z77 = l[j] by simp [hj]] at this
    omega
  have hpl : (packR l level).1.1.length ≤ 1000000 ∧ (packR l level).1.2.length ≤ 1000000 ∧ ∀ p ∈ (packR l level).1.1, p.length ≤ 1000000 := by
    unfold packR
    split
    · split
      · simp
      · rename_i hp h0
        cases hx : packO (l.length + 1) l level with
        | none => simp
        | some x =>
          have h1 := packO_len _ l level x (by omega) hx
          have h2 := packO_total (l.length + 1) l level x (by omega) hx
          exact ⟨by show x.1.length ≤ _; omega, by show x.2.length ≤ _; omega, fun p hp => by have := h2 p hp; omega⟩
    · simp
  have e1 := nodeSeparator (toL a) (toL b) (by show a.size ≤ _; omega) (by show b.size ≤ _; omega) ((toL a).length + 1) (by omega)
  have e2 := refSeparator (toL a) (toL b) (by show a.size ≤ _; omega) (by show b.size ≤ _; omega) ((toL a).length + 1) (by omega)
  rw [ofL_toL, ofL_toL] at e1 e2
  refine npacks_4 A l.length c level a b w HS HFEW ha hb (cutR l level).1 (cutR l level).2 (packR l level).2 (btwR (betweenL (toL a) (toL b))).2 (btwR (betweenL (toL a) (toL b))).1 (packR l level).1.1 (packR l level).1.2 ?_ ?_ ?_ ?_ ?_ ?_ ?_ ?_
  · exact ⟨fun w1 hb => cut_c l A c level w1 (Kd.C_below hr hb) hc hfine⟩
  · exact ⟨fun w1 _ => node_Separator.calls _ a b _ _ w1 e1⟩
  · exact ⟨fun w1 hb => rcutR_c l A c level w1 (Kd.C_below hr hb) hc hfine hl⟩
  · exact ⟨fun w1 _ => understoryref06_Separator.calls _ a b _ _ w1 e2⟩
  · exact ⟨fun w1 hb => packs_c l A c level w1 (Kd.C_below hr hb) hc hfine hks⟩
  · exact ⟨fun w1 hb => rpackR_c l A c level w1 (Kd.C_below hr hb) hc hfine hks hl⟩
  · exact ⟨fun W A1 c1 A2 c2 h1 h2 => parts_c _ A1 A2 c1 c2 W h1 h2 hpl.1 hpl.2.2⟩
  · exact ⟨fun W A1 c1 A2 c2 h1 h2 h3 h4 => (understoryref06_Strings.calls _ A1 c1 _ A2 c2 _ true W h1 h2 h3 h4 (strings_same _ hpl.2.1)).mono fun e w2 ⟨g1, n, g2⟩ => ⟨g1, by rw [g2]; exact pw_below_drewN (Below.refl _ _) _⟩⟩
end Go.Proofs.Ytalncokpbgbccaa.E

