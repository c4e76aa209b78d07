-- A slim copy of XA, XB, written by wip/tools/prune2.py.
import Derived.Test.YtalncokpbgbccaaUTA
/- The reference's weights: the weights of entries, one by one. -/
namespace Go.Proofs.Ytalncokpbgbccaa.E
set_option linter.unusedVariables false
set_option linter.unusedSimpArgs false
open Go.RowKit Go.Proofs.YtalncokpbgbccaaW.PrintWords Go.Proofs.YtalncokpbgbccaaW.PrintLast Go.Proofs.YtalncokpbgbccaaW.PrintMore
/-- the weight of an entry by itself, without the six bytes of a node -/
def wOne (level : Int) (x : S77) : Int := (weightR (weightO [x] level)).1 - 6
def wsOk (l : List S77) (level : Int) : Bool := l.all fun x => (weightO [x] level).isSome
theorem wsOk_drop (l : List S77) (level : Int) (k : Nat) (h : k < l.length) : wsOk (l.drop k) level = ((weightO [l.getD k z77] level).isSome && wsOk (l.drop (k + 1)) level) := by
  rw [wsOk, List.drop_eq_getElem_cons h, List.all_cons, show l.getD k z77 = l[k] by simp [h]]
  rfl
abbrev OwI (W : World) (base : Nat) (v : Value) (xs : List Int) : Prop := (Kd.int .i64).R 3 W base (fun _ => True) v xs
theorem owI_below {w w1 : World} {base : Nat} {v : Value} {xs : List Int} (h : OwI w base v xs) (hb : Below w.heap.size w w1) : OwI w1 base v xs := Kd.R_below h hb
set_option maxRecDepth 100000 in
set_option maxHeartbeats 8000000 in
theorem weights_c (l : List S77) (A : Option Addr) (c : Nat) (level : Int) (w : World) (hr : Kd.C k77 w A l.length l) (hc : l.length ≤ c) (hf : Fine l) :
    Calls Try.prog 77 #[.slice A l.length c, .int .i64 level] w fun e w' => ∃ v, e = .returned v ∧ (wsOk l level = true → OwI w' w.heap.size v (l.map (wOne level)) ∧ ∃ q, v.ownBlock = some q) ∧ (wsOk l level = false → v = .slice none 0 0) ∧ Below w.heap.size w w' := by
  obtain ⟨T, hT⟩ : ∃ T, wsOk l level = T := ⟨_, rfl⟩
  have HT := Aside0.mk (show wsOk (l.drop 0) level = T from hT)
  rw [hT]
  have HR := Aside0.mk (fun (W : World) (hb : Below w.heap.size w W) => Kd.C_below hr hb)
  have HC := Aside0.mk hc
  have HLEN := Aside0.mk hf.1
  have HF1 := Aside0.mk (fun (x : S77) (hx : x ∈ l) => (show Fine [x] from ⟨by simp, fun y hy => by rw [List.mem_singleton.1 hy]; exact hf.2 x hx⟩))
  obtain ⟨i77, hi77, hsz⟩ := info77'
  have HI77 := Aside0.mk hi77
  have HSZ := Aside0.mk hsz
  have hu93 := Try.underlying93
  clear hr hc hf hT hi77 hsz
  go_enter Try.func77, Try.ntmps77
  go_wp2_with (first | ((with_reducible refine gate_dst (N := 8) rfl ?_); refine Kd.R_lit (Kd.int .i64) w.heap.size 3 rfl (N := 8) rfl (xs := ([] : List Int)) (inner := []) (ok := fun _ => True) (okp := fun _ => True) ?hr (Reps.none _ _) (fun _ hk => hk) trivial (Below.refl _ _) (Nat.le_refl _) (by simp) ?_; (case hr => first | (go_simp; done) | (go_simp; rfl)); intro vL wL ho hb hg_ hnew_; have HN := Aside0.mk (show ∃ q, vL.ownBlock = some q from ⟨_, hnew_.choose_spec.1⟩); clear hg_ hnew_; have HB := Aside0.mk hb; have HO := Aside0.mk ho; (clear ho hb)))
  go_loopw [5, 6] (fun vv iv wr => ∃ (k : Nat), k ≤ l.length ∧ iv = .int .i64 k ∧ Aside0 (wsOk (l.drop k) level = T) ∧ Aside0 (OwI wr w.heap.size vv ((l.map (wOne level)).take k)) ∧ Aside0 (∃ q, vv.ownBlock = some q) ∧ Aside0 (Below w.heap.size w wr)) (fun _ iv _ => l.length - (intOf iv).toNat)
  case atStart => exact ⟨0, Nat.zero_le _, rfl, HT, ⟨by rw [List.take_zero]; exact HO.out⟩, HN, HB⟩
  case round =>
    (try clear HB HO HN)
    obtain ⟨k, hk, rfl, HQ, HO, HN, HB⟩ := hrel
    by_cases hlt : k < l.length
    · have HLT := Aside0.mk hlt
      obtain ⟨ad, rfl, _⟩ := elem_at (HR.out wr HB.out) k hlt
      have HST := Aside0.mk (wsOk_drop l level k hlt)
      have hcu0 := cut_mid (P := Try.prog) 22 77 .i64 .i64 Try.underlying22 HI77.out 22 HSZ.out (some ad) l.length c (k : Int) ((k : Int) + 1) (by omega) (by omega) (by omega) HC.out
      have hcu : ∀ W : World, (Instr.slice 22 (.slice (some ad) l.length c) (some (.int .i64 (k : Int))) (some (.int .i64 ((k : Int) + 1))) none).run Try.prog W = .ok (.slice (some (ad.add (k * 22))) 1 (c - k)) W := by
        intro W
        have h := hcu0 W
        rw [Int.toNat_natCast, show ((k : Int) + 1).toNat = k + 1 by omega, if_neg (by have := HC.out; omega), Nat.add_sub_cancel_left] at h
        exact h
      clear hcu0
      have HWT := Aside0.mk (fun (W : World) (hb : Below w.heap.size w W) => (show Calls Try.prog 62 #[.slice (some (ad.add (k * 22))) 1 (c - k), .int .i64 level] W fun e w2 => e = .returned (.agg #[.int .i64 (weightR (weightO [l.getD k z77] level)).1, .int .i64 (weightR (weightO [l.getD k z77] level)).2]) ∧ Below W.heap.size W w2 from by
        have h1 := C_drop (HR.out W hb) (Nat.le_of_lt hlt) HC.out
        rw [if_neg (by have := HC.out; omega)] at h1
        have h2 := C_take h1 (m := 1) (by omega)
        rw [show (l.drop k).take 1 = [l.getD k z77] by rw [List.drop_eq_getElem_cons hlt, List.take_succ_cons, List.take_zero, show l.getD k z77 = l[k] by simp [hlt]]] at h2
        exact rweight_c [l.getD k z77] _ _ level W h2 (HF1.out _ (by simp [hlt]))))
      have HWS := Aside0.mk (show (l.map (wOne level)).take (k + 1) = (l.map (wOne level)).take k ++ [wOne level (l.getD k z77)] by rw [List.take_succ_eq_append_getElem (by simpa using hlt)]; simp [hlt])
      have HBD := Aside0.mk (fun n (h : weightO [l.getD k z77] level = some n) => weightO_bound [l.getD k z77] level n (HF1.out _ (by simp [hlt])) h)
      have HXL := Aside0.mk (show (((l.map (wOne level)).take k).length + 1) * 8 ≤ 140737488355328 by rw [List.length_take, List.length_map]; have := HLEN.out; omega)
      generalize (l.map (wOne level)).take k = XS at HO HWS HXL
      obtain ⟨x, hx⟩ : ∃ x, l.getD k z77 = x := ⟨_, rfl⟩
      rw [hx] at HWT HST HWS HBD
      clear hx
      have hwe := weightR_err (weightO [x] level)
      obtain ⟨f1, hf1⟩ : ∃ f1, (weightR (weightO [x] level)).1 = f1 := ⟨_, rfl⟩
      obtain ⟨f2, hf2⟩ : ∃ f2, (weightR (weightO [x] level)).2 = f2 := ⟨_, rfl⟩
      rw [hf1, hf2] at HWT
      rw [hf2] at hwe
      have HF1x := Aside0.mk hf1
      have hk1 : (k : Int) < (l.length : Int) := by omega
      have hk2 : (0 : Int) ≤ (k : Int) := by omega
      have hkw := w_succ k (by have := HLEN.out; omega)
      clear hf1 hf2 hlt hk
      cases hs : (weightO [x] level).isSome
      · rw [hs] at hwe
        have HT3 := Aside0.mk (show T = false by rw [← HQ.out, HST.out, hs]; rfl)
        clear hs
        have hwe2 : (f2 == 0) = false := by simpa using hwe
        go_wp2_with (first | (go_at_call 62; refine (HWT.out _ HB.out).mono ?_; rintro e w2 ⟨rfl, hb⟩; have HB2 := Aside0.mk (below_tr2 (w := w) HB.out hb); have HO2 := Aside0.mk (owI_below HO.out hb); clear hb))
        go_ret
        refine ⟨_, rfl, ?_, ?_, ?_⟩
        · intro h; rw [HT3.out] at h; cases h
        · intro _; rfl
        · first | exact HB2.out | exact below_alloc HB2.out _
      · rw [hs] at hwe
        have HT3 := Aside0.mk (show wsOk (l.drop (k + 1)) level = T by rw [← HQ.out, HST.out, hs]; rfl)
        obtain ⟨n, hn⟩ := Option.isSome_iff_exists.1 hs
        have hnb := HBD.out n hn
        have hfn : f1 = n := by rw [← HF1x.out, hn]; rfl
        obtain ⟨f6, hf6⟩ : ∃ f6, f1 - 6 = f6 := ⟨_, rfl⟩
        have HW6 := Aside0.mk (show wOne level x = f6 by rw [wOne, HF1x.out, hf6])
        have hw6 : wrap64 (f1 - 6) = f6 := by rw [w64 _ (by clear hkw; omega) (by clear hkw; omega)]; exact hf6
        clear hs hn hnb hfn hf6
        have hwe2 : (f2 == 0) = true := by simpa using hwe
        go_upto_region 8 with (first | (go_at_call 62; refine (HWT.out _ HB.out).mono ?_; rintro e w2 ⟨rfl, hb⟩; have HB2 := Aside0.mk (below_tr2 (w := w) HB.out hb); have HO2 := Aside0.mk (owI_below HO.out hb); clear hb))
        have HD3 := Aside0.mk (blk_new w2 (.cells #[.int .i64 f1, .int .i64 f2] 93))
        have HB3 := Aside0.mk (below_alloc HB2.out (.cells #[.int .i64 f1, .int .i64 f2] 93))
        have HO3 := Aside0.mk (owI_below HO2.out (below_alloc (Below.refl _ _) (.cells #[.int .i64 f1, .int .i64 f2] 93)))
        clear HO HO2 HB2 HB
        generalize w2.alloc (.cells #[.int .i64 f1, .int .i64 f2] 93) = W3 at HD3 HB3 HO3 ⊢
        generalize w2.heap.size = gs at HD3 ⊢
        have d0 : W3.cell? ⟨gs, 0, none⟩ = some (.int .i64 f1) := by rw [blk_cell HD3.out]; rfl
        go_wp2_with (first | ((with_reducible refine gate_builtin (b := .append) (xs := #[.tmp 25, .tmp 29]) rfl ?_); at_builtin; refine Kd.R_append (Kd.int .i64) (w0 := w) w.heap.size rfl (.tmp 25) (.tmp 29) 112 3 (.int .i64 0) 8 rfl Try.underlying112 info3 rfl (by decide) (by omega) u5 XS f6 [.int .i64 f6] (fun _ => True) (fun _ => False) rfl rfl rfl (fun _ h => h.elim) (fun _ _ => trivial) HO3.out HB3.out HB3.out.size HXL.out ?_; intro vA wA ho hb hg hat; have HB1 := Aside0.mk hb; have HO1 := Aside0.mk ho; have HN1 := Aside0.mk (show ∃ q, vA.ownBlock = some q from by obtain ⟨q, hq⟩ := HN.out; rcases hat with h | ⟨q2, h, _⟩; exact ⟨q, h.trans hq⟩; exact ⟨q2, h⟩); clear ho hb hg hat))
        go_roundw
        case rel => exact ⟨k + 1, HLT.out, by rw [hkw]; simp, HT3, ⟨by rw [HWS.out, HW6.out]; exact HO1.out⟩, HN1, HB1⟩
        case measure => (have h9 := HLT.out; rw [hkw]; clear hkw hw6; show l.length - ((k : Int) + 1).toNat < l.length - (k : Int).toNat; omega)
    · obtain rfl : k = l.length := by omega
      have HT2 := Aside0.mk (show T = true by rw [← HQ.out, List.drop_length]; rfl)
      have HO4 := Aside0.mk (show OwI wr w.heap.size u5 (l.map (wOne level)) from by have := HO.out; rwa [List.take_of_length_le (by simp)] at this)
      go_wp2_with fail
      go_ret
      refine ⟨_, rfl, ?_, ?_, ?_⟩
      · intro _; exact ⟨HO4.out, HN.out⟩
      · intro h; rw [HT2.out] at h; cases h
      · exact HB.out
end Go.Proofs.Ytalncokpbgbccaa.E

/- The reference's cut: the best cut of entries, by their weights. -/
namespace Go.Proofs.Ytalncokpbgbccaa.E
set_option linter.unusedVariables false
set_option linter.unusedSimpArgs false
open Go.RowKit Go.Proofs.YtalncokpbgbccaaW.PrintWords Go.Proofs.YtalncokpbgbccaaW.PrintLast Go.Proofs.YtalncokpbgbccaaW.PrintMore
attribute [local go_sem] max2_mx max_two
def rLarg (l : List S77) (ws : List Int) (level : Int) (i : Nat) : Int := mx ((ws.take (i + 1)).sum) (ws.sum - (ws.take (i + 1)).sum - keyA l level (i + 1))
def rCuts (l : List S77) (ws : List Int) (level : Int) (k : Nat) : List (Int × Int) := (List.range k).map fun i : Nat => ((i : Int) + 1, rLarg l ws level i)
theorem rCuts_snoc (l : List S77) (ws : List Int) (level : Int) (k : Nat) : rCuts l ws level (k + 1) = rCuts l ws level k ++ [((k : Int) + 1, rLarg l ws level k)] := by simp [rCuts, List.range_succ]
def rBest (l : List S77) (ws : List Int) (level : Int) : Int := (bestP (rCuts l ws level (l.length - 1))).1
def WsOk (ws : List Int) : Prop := ∀ k, k ≤ ws.length → 0 ≤ (ws.take k).sum ∧ (ws.take k).sum ≤ 3000000000000006
theorem sum_take_succ (ws : List Int) (k : Nat) (h : k < ws.length) : (ws.take (k + 1)).sum = (ws.take k).sum + ws.getD k 0 := by
  rw [List.take_succ_eq_append_getElem h, show ws.getD k 0 = ws[k] by simp [h], List.sum_append]; simp
theorem int_addr {w : World} {V : Option Addr} {n : Nat} {ws : List Int} (h : (Kd.int .i64).C w V n ws) (k : Nat) (hk : k < n) : ∃ ad, V = some ad := by
  obtain ⟨ad, _, e, _⟩ := Kd.C_get h 0 (k : Int) (by omega) (by omega)
  exact ⟨ad, e⟩
theorem wr_is (x n : Int) (h : x = n) (h0 : -4000000000000000000 ≤ n) (h1 : n ≤ 4000000000000000000) : wrap64 x = n := by rw [w64 _ (by omega) (by omega)]; exact h
set_option maxRecDepth 100000 in
set_option maxHeartbeats 8000000 in
theorem rcut_c (l : List S77) (A : Option Addr) (c : Nat) (ws : List Int) (V : Option Addr) (d : Nat) (level : Int) (w : World) (hr : Kd.C k77 w A l.length l) (hv : (Kd.int .i64).C w V l.length ws) (hl : ws.length = l.length) (h2 : 2 ≤ l.length) (hf : Fine l) (hw : WsOk ws) :
    Calls Try.prog 78 #[.slice A l.length c, .slice V l.length d, .int .i64 level] w fun e w' => e = .returned (.int .i64 (rBest l ws level)) ∧ Below w.heap.size w w' := by
  have HR := Aside0.mk hr
  have HV := Aside0.mk hv
  have HL := Aside0.mk hl
  have HLEN := Aside0.mk hf.1
  have HK := Aside0.mk hf.2
  have HW := Aside0.mk hw
  have H2 := Aside0.mk h2
  clear hr hv hl hf hw h2
  go_enter Try.func78, Try.ntmps78
  go_wp2_with fail
  go_loopw [7, 8] (fun av iv wr => ∃ (k : Nat), k ≤ l.length ∧ iv = .int .i64 k ∧ av = .int .i64 (ws.take k).sum ∧ wr = w) (fun _ iv _ => l.length - (intOf iv).toNat)
  case atStart => exact ⟨0, Nat.zero_le _, rfl, by simp, rfl⟩
  case round =>
    obtain ⟨k, hk, rfl, rfl, hww⟩ := hrel
    have hww := hww.symm
    subst hww
    by_cases hlt : k < l.length
    · obtain ⟨ad, rfl⟩ := int_addr HV.out k hlt
      have hq := int_cell HV.out k hlt
      have h1 := HW.out (k + 1) (by have := HL.out; omega)
      have hs := sum_take_succ ws k (by have := HL.out; omega)
      obtain ⟨y, hy⟩ : ∃ y, ws.getD k 0 = y := ⟨_, rfl⟩
      rw [hy] at hq hs
      clear hy
      have hwr : wrap64 ((ws.take k).sum + y) = (ws.take (k + 1)).sum := by rw [w64 _ (by omega) (by omega)]; exact hs.symm
      have hkw := w_succ k (by have := HLEN.out; omega)
      have hk1 : (k : Int) < (l.length : Int) := by omega
      have HLT := Aside0.mk hlt
      clear h1 hs hlt hk
      go_wp2_with fail
      go_roundw
      case rel => exact ⟨k + 1, HLT.out, by rw [hkw]; simp, by rw [hwr], by first | rfl | trivial⟩
      case measure => (have h9 := HLT.out; rw [hkw]; clear hkw hwr; show l.length - ((k : Int) + 1).toNat < l.length - (k : Int).toNat; omega)
    · obtain rfl : k = l.length := by omega
      obtain ⟨S, hS⟩ : ∃ S, ws.sum = S := ⟨_, rfl⟩
      have HS := Aside0.mk hS
      rw [show (ws.take l.length).sum = S by rw [List.take_of_length_le (by rw [HL.out]; exact Nat.le_refl _)]; exact hS]
      clear hS hlt hk
      go_wp2_with fail
      go_loopw [9, 10, 11, 12] (fun bv mv fv iv wr => ∃ (k : Nat), k + 1 ≤ l.length ∧ iv = .int .i64 ((k : Int) + 1) ∧ fv = .int .i64 (ws.take k).sum ∧ bv = .int .i64 (bestP (rCuts l ws level k)).1 ∧ mv = .int .i64 (bestP (rCuts l ws level k)).2 ∧ wr = w) (fun _ _ _ iv _ => l.length - (intOf iv).toNat)
      case atStart => exact ⟨0, by have := H2.out; omega, rfl, by simp, rfl, rfl, rfl⟩
      case round =>
        obtain ⟨k, hk, rfl, rfl, rfl, rfl, hww⟩ := hrel
        have hww := hww.symm
        subst hww
        by_cases hlt : k + 1 < l.length
        · obtain ⟨av, rfl⟩ := int_addr HV.out k (by omega)
          obtain ⟨ad, rfl, _⟩ := elem_at HR.out (k + 1) hlt
          have hq := int_cell HV.out k (by omega)
          have hq0 := prev_key HR.out (k + 1) hlt
          have hk1 : (k : Int) + 1 < (l.length : Int) := by omega
          have hk2 : (k : Int) < (l.length : Int) := by omega
          have hk3 : (0 : Int) ≤ (k : Int) + 1 := by omega
          have hk4 : ((k : Int) + 1).toNat = k + 1 := by omega
          have hkL : (l.length : Int) ≤ 1000000 := by have := HLEN.out; omega
          have hkw : wrap64 ((k : Int) + 1 + 1) = (k : Int) + 1 + 1 := wr_is _ _ rfl (by omega) (by omega)
          have hkm : wrap64 ((k : Int) + 1 - 1) = (k : Int) := wr_is _ _ (Int.add_sub_cancel _ _) (by omega) (by omega)
          have hkc : ((l.getD (k + 1) z77).f0.size : Int) = keyA l 1 (k + 1) := rfl
          have hkb := (HK.out (l.getD (k + 1) z77) (by simp [hlt])).1
          have h1 := HW.out (k + 1) (by have := HL.out; omega)
          have h3 := HW.out ws.length (Nat.le_refl _)
          rw [List.take_length, HS.out] at h3
          have hs := sum_take_succ ws k (by have := HL.out; omega)
          obtain ⟨y, hy⟩ : ∃ y, ws.getD k 0 = y := ⟨_, rfl⟩
          rw [hy] at hq hs
          obtain ⟨s0, hs0⟩ : ∃ s, (ws.take k).sum = s := ⟨_, rfl⟩
          obtain ⟨s1, hs1⟩ : ∃ s, (ws.take (k + 1)).sum = s := ⟨_, rfl⟩
          rw [hs0] at hs ⊢
          rw [hs1] at hs h1
          obtain ⟨ky, hky⟩ : ∃ ky, (l.getD (k + 1) z77).f0 = ky := ⟨_, rfl⟩
          rw [hky] at hq0 hkb
          have hwr : wrap64 (s0 + y) = s1 := wr_is _ _ hs.symm (by omega) (by omega)
          obtain ⟨r1, hr1⟩ : ∃ r, S - s1 = r := ⟨_, rfl⟩
          have hwr1 : wrap64 (S - s1) = r1 := wr_is _ _ hr1 (by omega) (by omega)
          obtain ⟨r2, hr2⟩ : ∃ r, r1 - (ky.size : Int) = r := ⟨_, rfl⟩
          have hwr2 : wrap64 (r1 - (ky.size : Int)) = r2 := wr_is _ _ hr2 (by omega) (by omega)
          have HST := Aside0.mk (show bestP (rCuts l ws level (k + 1)) = bestStep (bestP (rCuts l ws level k)) ((k : Int) + 1, mx s1 (S - s1 - (if level > 0 then (ky.size : Int) else 0))) by
            rw [rCuts_snoc, bestP_snoc, rLarg, keyA, hs1, HS.out, hky])
          have HLT := Aside0.mk hlt
          have HS1 := Aside0.mk hs1
          obtain ⟨at_, hat⟩ : ∃ a, (bestP (rCuts l ws level k)).1 = a := ⟨_, rfl⟩
          obtain ⟨le_, hle⟩ : ∃ a, (bestP (rCuts l ws level k)).2 = a := ⟨_, rfl⟩
          rw [hat, hle]
          have HST2 : bestStep (bestP (rCuts l ws level k)) = bestStep (at_, le_) := by rw [← hat, ← hle]
          rw [HST2] at HST
          have HR1 := Aside0.mk hr1
          have HR2 := Aside0.mk hr2
          clear h1 h3 hs hlt hk hy hs0 hs1 hky hkc hkb hat hle HST2 hr1 hr2
          by_cases g : level > 0
          · have d1 : decide (level > 0) = true := decide_eq_true g
            have d2 : decide (0 < level) = true := decide_eq_true g
            have HST3 := Aside0.mk (show bestP (rCuts l ws level (k + 1)) = bestStep (at_, le_) ((k : Int) + 1, mx s1 r2) by rw [HST.out, if_pos g, HR1.out, HR2.out])
            clear HST HR1 HR2 g
            obtain ⟨M, hM⟩ : ∃ M, mx s1 r2 = M := ⟨_, rfl⟩
            rw [hM] at HST3
            by_cases hz : at_ = 0
            · have e1 : (at_ == 0) = true := by simp [hz]
              have HZ := Aside0.mk (show bestP (rCuts l ws level (k + 1)) = ((k : Int) + 1, M) by rw [HST3.out]; unfold bestStep; rw [if_pos (Or.inl hz)])
              clear hz HST3
              go_wp2_with fail
              go_roundw
              case rel => exact ⟨k + 1, HLT.out, by (try rw [hkw]); simp, by first | rw [HS1.out, hwr] | rw [HS1.out], by rw [HZ.out], by first | (rw [HZ.out]; done) | rw [HZ.out, ← hM], by first | rfl | trivial⟩
              case measure => (have h9 := HLT.out; (try rw [hkw]); clear hkw hwr hwr1 hwr2 hkm; show l.length - ((k : Int) + 1 + 1).toNat < l.length - ((k : Int) + 1).toNat; omega)
            have e1 : (at_ == 0) = false := by simp [hz]
            by_cases hlt : M < le_
            · have e2 : decide (M < le_) = true := decide_eq_true hlt
              have HZ := Aside0.mk (show bestP (rCuts l ws level (k + 1)) = ((k : Int) + 1, M) by rw [HST3.out]; unfold bestStep; rw [if_pos (Or.inr hlt)])
              clear hz hlt HST3
              go_wp2_with fail
              go_roundw
              case rel => exact ⟨k + 1, HLT.out, by (try rw [hkw]); simp, by first | rw [HS1.out, hwr] | rw [HS1.out], by rw [HZ.out], by first | (rw [HZ.out]; done) | rw [HZ.out, ← hM], by first | rfl | trivial⟩
              case measure => (have h9 := HLT.out; (try rw [hkw]); clear hkw hwr hwr1 hwr2 hkm; show l.length - ((k : Int) + 1 + 1).toNat < l.length - ((k : Int) + 1).toNat; omega)
            · have e2 : decide (M < le_) = false := decide_eq_false hlt
              have HZ := Aside0.mk (show bestP (rCuts l ws level (k + 1)) = (at_, le_) by rw [HST3.out]; unfold bestStep; rw [if_neg (fun h => h.elim hz hlt)])
              clear hz hlt HST3
              go_wp2_with fail
              go_roundw
              case rel => exact ⟨k + 1, HLT.out, by (try rw [hkw]); simp, by first | rw [HS1.out, hwr] | rw [HS1.out], by rw [HZ.out], by first | (rw [HZ.out]; done) | rw [HZ.out, ← hM], by first | rfl | trivial⟩
              case measure => (have h9 := HLT.out; (try rw [hkw]); clear hkw hwr hwr1 hwr2 hkm; show l.length - ((k : Int) + 1 + 1).toNat < l.length - ((k : Int) + 1).toNat; omega)
          · have d1 : decide (level > 0) = false := decide_eq_false g
            have d2 : decide (0 < level) = false := decide_eq_false g
            have HST3 := Aside0.mk (show bestP (rCuts l ws level (k + 1)) = bestStep (at_, le_) ((k : Int) + 1, mx s1 r1) by rw [HST.out, if_neg g, HR1.out, Int.sub_zero])
            clear HST HR1 HR2 g
            obtain ⟨M, hM⟩ : ∃ M, mx s1 r1 = M := ⟨_, rfl⟩
            rw [hM] at HST3
            by_cases hz : at_ = 0
            · have e1 : (at_ == 0) = true := by simp [hz]
              have HZ := Aside0.mk (show bestP (rCuts l ws level (k + 1)) = ((k : Int) + 1, M) by rw [HST3.out]; unfold bestStep; rw [if_pos (Or.inl hz)])
              clear hz HST3
              go_wp2_with fail
              go_roundw
              case rel => exact ⟨k + 1, HLT.out, by (try rw [hkw]); simp, by first | rw [HS1.out, hwr] | rw [HS1.out], by rw [HZ.out], by first | (rw [HZ.out]; done) | rw [HZ.out, ← hM], by first | rfl | trivial⟩
              case measure => (have h9 := HLT.out; (try rw [hkw]); clear hkw hwr hwr1 hwr2 hkm; show l.length - ((k : Int) + 1 + 1).toNat < l.length - ((k : Int) + 1).toNat; omega)
            have e1 : (at_ == 0) = false := by simp [hz]
            by_cases hlt : M < le_
            · have e2 : decide (M < le_) = true := decide_eq_true hlt
              have HZ := Aside0.mk (show bestP (rCuts l ws level (k + 1)) = ((k : Int) + 1, M) by rw [HST3.out]; unfold bestStep; rw [if_pos (Or.inr hlt)])
              clear hz hlt HST3
              go_wp2_with fail
              go_roundw
              case rel => exact ⟨k + 1, HLT.out, by (try rw [hkw]); simp, by first | rw [HS1.out, hwr] | rw [HS1.out], by rw [HZ.out], by first | (rw [HZ.out]; done) | rw [HZ.out, ← hM], by first | rfl | trivial⟩
              case measure => (have h9 := HLT.out; (try rw [hkw]); clear hkw hwr hwr1 hwr2 hkm; show l.length - ((k : Int) + 1 + 1).toNat < l.length - ((k : Int) + 1).toNat; omega)
            · have e2 : decide (M < le_) = false := decide_eq_false hlt
              have HZ := Aside0.mk (show bestP (rCuts l ws level (k + 1)) = (at_, le_) by rw [HST3.out]; unfold bestStep; rw [if_neg (fun h => h.elim hz hlt)])
              clear hz hlt HST3
              go_wp2_with fail
              go_roundw
              case rel => exact ⟨k + 1, HLT.out, by (try rw [hkw]); simp, by first | rw [HS1.out, hwr] | rw [HS1.out], by rw [HZ.out], by first | (rw [HZ.out]; done) | rw [HZ.out, ← hM], by first | rfl | trivial⟩
              case measure => (have h9 := HLT.out; (try rw [hkw]); clear hkw hwr hwr1 hwr2 hkm; show l.length - ((k : Int) + 1 + 1).toNat < l.length - ((k : Int) + 1).toNat; omega)
        · obtain rfl : k = l.length - 1 := by omega
          have HD := Aside0.mk (show rBest l ws level = (bestP (rCuts l ws level (l.length - 1))).1 from rfl)
          have hk1 : ¬ ((l.length - 1 : Nat) : Int) + 1 < (l.length : Int) := by omega
          clear hlt hk
          go_wp2_with fail
          go_ret
          exact ⟨by rw [HD.out]; rfl, Below.refl _ _⟩
end Go.Proofs.Ytalncokpbgbccaa.E

