-- A slim copy of RR, RT, PR, written by wip/tools/prune.py.
import Derived.Test.YtalncokpbgbccaaVSA
/- The reference's Replace: what it returns. -/
namespace Go.Proofs.Ytalncokpbgbccaa.E
set_option linter.unusedVariables false
set_option linter.unusedSimpArgs false
open Go.RowKit Go.Proofs.YtalncokpbgbccaaW.PrintWords Go.Proofs.YtalncokpbgbccaaW.PrintLast Go.Proofs.YtalncokpbgbccaaW.PrintMore
theorem setKey2 (x : S77) (a b : ByteArray) : setKey (setKey x a) b = setKey x b := rfl
theorem wpList_set_key {ops : Array Oper} {rest : List Oper} {o : Oper} {a : Act} {W : World} {Q : Exit → Act → World → Prop} (hgd : o.guard = none) (p q : Operand) (ho : o.op = .store 9 p q) (g : Nat) (x : S77) (s : ByteArray)
    (hx : a.eval p = .pointer (some ⟨g, 0, none⟩)) (hy : a.eval q = .string s) (hg : W.heap[g]? = some (.cells (entC x) 77 (0, 0)))
    (h : ∀ W2, W2.heap[g]? = some (.cells (entC (setKey x s)) 77 (0, 0)) → (∀ (b : Nat) (X : World), b ≤ g → Below b X W → Below b X W2) → wpList Try.prog ops Q rest (a.put o.dst undef) W2) : wpList Try.prog ops Q (o :: rest) a W := by
  have c0 : W.cell? ⟨g, 0, none⟩ = some (.string x.f0) := cell_of_box hg rfl
  have f0 := blk_frozen hg 0
  refine wpList_plain hgd fun K hK => ?_
  unfold Oper.wp execOp
  simp only [ho, hx, hy]
  have hst : (Instr.storeAt 9 (.pointer (some ⟨g, 0, none⟩)) (.string s)).run Try.prog W = .ok () (W.setCell ⟨g, 0, none⟩ (.string s)) := by go_simp
  simp only [Sem.run_bind, hst, Result.andThen_ok, Sem.run_pure]
  exact hK _ _ (h _ (blk_put (cs := entC x) hg 0 _ rfl) (fun b X hb h2 => h2.setCell (p := ⟨g, 0, none⟩) hb _))
/-- a child that is put in, as the reference puts it -/
def rAt (l ch : List S77) (ss : List ByteArray) (i n k : Nat) : S77 :=
  if 0 < k then setKey (ch.getD k z77) (ss.getD (k - 1) ByteArray.empty)
  else if 0 < n then setKey (ch.getD k z77) (l.getD i z77).f0
  else ch.getD k z77
def rPut (l ch : List S77) (ss : List ByteArray) (i n k : Nat) : List S77 := (List.range k).map (rAt l ch ss i n)
def rList (l ch : List S77) (ss : List ByteArray) (i n : Nat) : List S77 := (l.take i ++ rPut l ch ss i n ch.length) ++ l.drop (i + n)
def rRep (l ch : List S77) (ss : List ByteArray) (i n : Nat) : List S77 := if i = 0 ∧ 0 < (rList l ch ss i n).length ∧ (0 < n ∨ 0 < ch.length) then (rList l ch ss i n).set 0 (setKey ((rList l ch ss i n).getD 0 z77) ⟨#[]⟩) else rList l ch ss i n
theorem rPut_succ (l ch : List S77) (ss : List ByteArray) (i n k : Nat) : rPut l ch ss i n (k + 1) = rPut l ch ss i n k ++ [rAt l ch ss i n k] := by
  simp [rPut, List.range_succ]
theorem rPut_length (l ch : List S77) (ss : List ByteArray) (i n k : Nat) : (rPut l ch ss i n k).length = k := by simp [rPut]
set_option maxRecDepth 100000 in
set_option maxHeartbeats 8000000 in
theorem rrep_ok (l ch : List S77) (ss : List ByteArray) (A Ac As : Option Addr) (c cc cs : Nat) (i n : Nat) (w : World) (hr : Kd.C k77 w A l.length l) (hc : l.length ≤ c) (hrc : Kd.C k77 w Ac ch.length ch) (hcl : ch.length ≤ 100000) (hll : l.length ≤ 100000) (hrs : Kd.string.C w As ss.length ss) (hsl : ss.length ≤ 1000000) (HO : Aside0 (Say w 16 #[.slice A l.length c, .int .i64 1] (.bool true))) (h1 : i ≤ l.length) (h2 : n ≤ l.length - i) (h3 : (ss.length : Int) = mx 0 ((ch.length : Int) - 1)) :
    Calls Try.prog 36 #[.slice A l.length c, .int .i64 i, .int .i64 n, .slice Ac ch.length cc, .slice As ss.length cs] w fun e w' => ∃ v, e = .returned (.agg #[v, .int .i64 0]) ∧ Ow w' w.heap.size v (rRep l ch ss i n) ∧ Below w.heap.size w w' := by
  have hu52 := Try.underlying52
  have HW0 := Aside0.mk (below_alloc (Below.refl w.heap.size w) (.cells #[.slice none 0 0, .int .i64 0] 52))
  have HBX := Aside0.mk (blk_new w (.cells #[.slice none 0 0, .int .i64 0] 52))
  have hssl : ch.length ≤ ss.length + 1 := by unfold mx at h3; split at h3 <;> omega
  have hs0 : ch.length = 0 → ss.length = 0 := by intro h; unfold mx at h3; split at h3 <;> omega
  have hs1 : 0 < ch.length → (ss.length : Int) = (ch.length : Int) - 1 := by intro h; unfold mx at h3; split at h3 <;> omega
  have HSSL := Aside0.mk hssl
  have HS0 := Aside0.mk hs0
  have HS1 := Aside0.mk hs1
  have H1 := Aside0.mk h1
  have H2 := Aside0.mk h2
  have HLL := Aside0.mk hll
  have HCH := Aside0.mk hcl
  have HC := Aside0.mk hc
  have HR := Aside0.mk (fun (W : World) (hb : Below (w.alloc (.cells #[.slice none 0 0, .int .i64 0] 52)).heap.size (w.alloc (.cells #[.slice none 0 0, .int .i64 0] 52)) W) => Kd.C_below hr (below_tr2 (w := w) HW0.out hb))
  have HRC := Aside0.mk (fun (W : World) (hb : Below (w.alloc (.cells #[.slice none 0 0, .int .i64 0] 52)).heap.size (w.alloc (.cells #[.slice none 0 0, .int .i64 0] 52)) W) => Kd.C_below hrc (below_tr2 (w := w) HW0.out hb))
  have HRS := Aside0.mk (fun (W : World) (hb : Below (w.alloc (.cells #[.slice none 0 0, .int .i64 0] 52)).heap.size (w.alloc (.cells #[.slice none 0 0, .int .i64 0] 52)) W) => Kd.C_below hrs (below_tr2 (w := w) HW0.out hb))
  have d34 : decide ((i : Int) < 0) = false := decide_eq_false (by omega)
  have d35 : decide (0 > (i : Int)) = false := decide_eq_false (by omega)
  have d36 : decide ((n : Int) < 0) = false := decide_eq_false (by omega)
  have d37 : decide (0 > (n : Int)) = false := decide_eq_false (by omega)
  have d38 : decide ((l.length : Int) < (i : Int)) = false := decide_eq_false (by omega)
  have d39 : decide ((i : Int) > (l.length : Int)) = false := decide_eq_false (by omega)
  have d40 : decide ((l.length : Int) - (i : Int) < (n : Int)) = false := decide_eq_false (by omega)
  have d41 : decide ((n : Int) > (l.length : Int) - (i : Int)) = false := decide_eq_false (by omega)
  have d42 : decide (l.length < i) = false := decide_eq_false (by omega)
  have hw : wrap64 ((l.length : Int) - (i : Int)) = (l.length : Int) - (i : Int) := w64 _ (by omega) (by omega)
  clear hr hc hrc hcl hll hrs hsl h1 h2 h3 hssl hs0 hs1
  go_enter Try.func36, Try.ntmps36
  go_upto_region 3 with (first | (go_at_call 16; refine (HO.out _ HW0.out).mono ?_; rintro e wq ⟨rfl, hb⟩; have HB := Aside0.mk hb; clear hb))
  clear HO
  generalize w.alloc (.cells #[.slice none 0 0, .int .i64 0] 52) = W0 at HW0 HBX HR HRC HRS HB ⊢
  go_cut [60] (fun v60 wc => v60 = .bool false ∧ Aside0 (Below W0.heap.size W0 wc))
  case first =>
    by_cases g4 : ch.length = 0
    · have c1 : ((ch.length : Int) == 0) = true := beq_iff_eq.mpr (by omega)
      have hs : ss.length = 0 := HS0.out g4
      have d43 : decide (0 < (ss.length : Int)) = false := decide_eq_false (by omega)
      have d44 : decide (0 < ss.length) = false := decide_eq_false (by omega)
      have d45 : decide (0 < (ch.length : Int)) = false := decide_eq_false (by omega)
      have d46 : decide (0 < ch.length) = false := decide_eq_false (by omega)
      clear g4 hs
      go_wp2_with fail
      go_meet
      exact ⟨rfl, HB⟩
    · have c1 : ((ch.length : Int) == 0) = false := beq_eq_false_iff_ne.mpr (by omega)
      have hs := HS1.out (by omega)
      have d47 : decide (0 < (ch.length : Int)) = true := decide_eq_true (by omega)
      have d48 : decide (0 < ch.length) = true := decide_eq_true (by omega)
      have c3 : ((ss.length : Int) != (ch.length : Int) - 1) = false := by rw [hs]; simp
      have c4 : ((ss.length : Int) == (ch.length : Int) - 1) = true := beq_iff_eq.mpr hs
      have hw2 : wrap64 ((ch.length : Int) - 1) = (ch.length : Int) - 1 := w64 _ (by have := HCH.out; omega) (by have := HCH.out; omega)
      clear g4 hs
      go_wp2_with fail
      go_meet
      exact ⟨rfl, HB⟩
  case rest =>
    (try clear HB)
    obtain ⟨rfl, HB⟩ := hcut
    clear hw
    obtain ⟨i77, hi77, hsz⟩ := info77'
    have hcu0 := cut_to (P := Try.prog) 22 77 .i64 Try.underlying22 hi77 A l.length c (i : Int) (by omega) (by have := H1.out; omega) HC.out
    simp only [Int.toNat_natCast] at hcu0
    have htl : (l.take i).length = i := by rw [List.length_take]; have := H1.out; omega
    have HCT := Aside0.mk (fun (W : World) (hb : Below W0.heap.size W0 W) => (show Kd.C k77 W A i (l.take i) from C_take (HR.out W hb) H1.out))
    obtain ⟨L1, hL1⟩ : ∃ L1, l.take i = L1 := ⟨_, rfl⟩
    rw [hL1] at htl HCT
    have HTL := Aside0.mk htl
    have HL1 := Aside0.mk hL1
    have hcu1 : ∀ W, (Instr.slice 22 (.slice A l.length c) none (some (.int .i64 (i : Int))) none).run Try.prog W = .ok (.slice A L1.length c) W := by rw [htl]; exact hcu0
    clear hcu0 hi77 htl hL1
    go_wp2_with (first
      | ((with_reducible refine gate_dst (N := 62) rfl ?_); refine Kd.R_lit k77 W0.heap.size 77 rfl (N := 62) rfl (xs := ([] : List S77)) (inner := []) (ok := fun _ => True) (okp := fun _ => True) ?hr (Reps.none _ _) (fun _ hk => hk) trivial HB.out HB.out.size (by simp) ?_; (case hr => first | (go_simp; done) | (go_simp; rfl)); intro vL wL ho hb hg_ hnew_; clear hg_ hnew_; have HBn := Aside0.mk hb; have HO := Aside0.mk ho; (clear HB ho hb); have HB := HBn; clear HBn)
      | ((with_reducible refine gate_builtin (b := .append) (xs := #[.tmp 62, .tmp 65]) rfl ?_); at_builtin; refine Kd.R_append_rows k77 (w0 := W0) W0.heap.size rfl (.tmp 62) (.tmp 65) 22 77 (.agg #[(.string ⟨#[]⟩), (.string ⟨#[]⟩), (.int .i64 0), (.int .i64 0), (.int .i64 0), (.int .i64 0), (.int .u8 0), (.int .u8 0), (.int .u8 0), (.int .u8 0), (.int .u8 0), (.int .u8 0), (.int .u8 0), (.int .u8 0), (.int .u8 0), (.int .u8 0), (.int .u8 0), (.int .u8 0), (.int .u8 0), (.int .u8 0), (.int .u8 0), (.int .u8 0)]) 80 rfl Try.underlying22 info77 rfl (by decide) (by omega) vL ([] : List S77) L1 _ _ _ (fun _ => True) (fun _ => False) rfl rfl ?aO ?aR (fun _ _ h => h) (fun _ h => h.elim) ?aF ?aB ?aS ?aL ?_; (case aR => exact (by have := HCT.out _ HB.out; rwa [← HTL.out] at this)); (case aB => exact HB.out); (case aF => exact (fun _ _ => trivial)); (case aO => exact HO.out); (case aS => exact HB.out.size); (case aL => rw [List.length_nil, HTL.out]; have := H1.out; have := HLL.out; omega); intro vA wA ho hb hg hat; have HB1 := Aside0.mk hb; have HO1 := Aside0.mk (show Ow wA W0.heap.size vA L1 from by simpa using ho); clear HB HO ho hb hg hat))
    have HO2 := Aside0.mk (show Ow wA W0.heap.size vA (l.take i ++ rPut l ch ss i n 0) from by rw [HL1.out]; simpa [rPut] using HO1.out)
    clear HO1 hcu1 HCT
    go_loopw [11, 12] (fun vv iv wr => ∃ k : Nat, k ≤ ch.length ∧ iv = .int .i64 k ∧ Aside0 (Ow wr W0.heap.size vv (l.take i ++ rPut l ch ss i n k)) ∧ Aside0 (Below W0.heap.size W0 wr)) (fun _ iv _ => ch.length - (intOf iv).toNat)
    case atStart => exact ⟨0, Nat.zero_le _, rfl, HO2, HB1⟩
    case round =>
      obtain ⟨k, hk, rfl, HOk, HBk⟩ := hrel
      by_cases hlt : k < ch.length
      · have HLT := Aside0.mk hlt
        obtain ⟨ac, rfl, hel⟩ := elem_at (HRC.out wr HBk.out) k hlt
        have HEL := Aside0.mk hel
        clear hel
        have HX := Aside0.mk (show ch.getD k z77 = ch.getD k z77 from rfl)
        obtain ⟨x, hx⟩ : ∃ x, ch.getD k z77 = x := ⟨_, rfl⟩
        rw [hx] at HEL
        have HX := Aside0.mk hx
        clear hx
        have HXL := Aside0.mk (show ((l.take i ++ rPut l ch ss i n k).length + 1) * 80 ≤ 140737488355328 by rw [List.length_append, rPut_length]; have := H1.out; have := HLL.out; have := HCH.out; have : (l.take i).length = i := (by rw [List.length_take]; omega); omega)
        have HNX := Aside0.mk (fun (W : World) (v : Value) (y : S77) (he : rAt l ch ss i n k = y) (ho : Ow W W0.heap.size v ((l.take i ++ rPut l ch ss i n k) ++ [y])) => (show Ow W W0.heap.size v (l.take i ++ rPut l ch ss i n (k + 1)) by rw [rPut_succ, he, ← List.append_assoc]; exact ho))
        generalize l.take i ++ rPut l ch ss i n k = XS at HOk HXL HNX
        have hk1 : (k : Int) < (ch.length : Int) := by omega
        have hk2 : (0 : Int) ≤ (k : Int) := by omega
        clear hlt hk
        by_cases hkp : 0 < k
        · obtain ⟨p, hp⟩ : ∃ p, k = p + 1 := ⟨k - 1, by omega⟩
          have hps : p < ss.length := by have := HSSL.out; have := HLT.out; omega
          obtain ⟨ad, rfl, hcs⟩ := Kd.at_string (HRS.out wr HBk.out) (p : Int) (by omega) (by omega)
          simp only [Int.toNat_natCast] at hcs
          have HAT := Aside0.mk (show rAt l ch ss i n k = setKey x (ss.getD p ByteArray.empty) by unfold rAt; rw [if_pos hkp, HX.out, show k - 1 = p by omega])
          have hcs2 : wr.cell? (ad.add p) = some (.string (ss.getD p ByteArray.empty)) := hcs
          have HCS := Aside0.mk (fun (W : World) (hb : Below wr.heap.size wr W) => (show W.cell? (ad.add p) = some (.string (ss.getD p ByteArray.empty)) by obtain ⟨ad9, e9, hcs9⟩ := Kd.at_string (HRS.out W (below_tr2 (w := W0) HBk.out hb)) (p : Int) (by omega) (by omega); cases e9; exact hcs9))
          generalize ss.getD p ByteArray.empty = s at HAT HCS hcs2
          clear hcs hcs2
          have w2 : (p : Int) < (ss.length : Int) := by omega
          have w3 : (0 : Int) ≤ (p : Int) := by omega
          have d49 : decide ((k : Int) > 0) = true := decide_eq_true (by omega)
          have d50 : decide (0 < (k : Int)) = true := decide_eq_true (by omega)
          have d51 : decide (0 < k) = true := decide_eq_true (by omega)
          have w1 : wrap64 ((k : Int) - 1) = (p : Int) := by rw [w64 _ (by omega) (by have := HLT.out; have := HCH.out; omega)]; omega
          have hkw : wrap64 ((k : Int) + 1) = (k : Int) + 1 := w64 _ (by have := HLT.out; have := HCH.out; omega) (by have := HLT.out; have := HCH.out; omega)
          clear hp hkp hps
          go_wp2_with (first
    | ((with_reducible refine gate_dst (N := 76) rfl ?_); refine wpList_load_el rfl (.tmp 75) rfl _ rfl x HEL.out ?_)
    | ((with_reducible refine gate_op (p := .store 77 (.tmp 13) (.tmp 76)) rfl ?_); refine wpList_store_new rfl (.tmp 13) (.tmp 76) rfl x rfl rfl rfl ?_; intro W2 hg2 hb2; have HG2 := Aside0.mk hg2; have HBk2 := Aside0.mk hb2; have x0 := (show W2.cell? ⟨wr.heap.size, 0, none⟩ = some (.string x.f0) from cell_of_box hg2 rfl); have x1 := blk_frozen hg2 0; have hy := HCS.out W2 hb2; clear hg2 hb2)
    | ((with_reducible refine gate_op (p := .store 9 (.tmp 84) (.tmp 83)) rfl ?_); refine wpList_set_key rfl (.tmp 84) (.tmp 83) rfl wr.heap.size x s rfl rfl HG2.out ?_; intro W3 hg3 hb3; have HG3 := Aside0.mk (show Hd wr wr.heap.size (entC (setKey x s)) W3 from ⟨hg3, hb3 _ _ (Nat.le_refl _) HBk2.out⟩); clear hg3 hb3)
    | ((with_reducible refine gate_dst (N := 94) rfl ?_); refine wpList_load_hd (w0 := wr) (g := wr.heap.size) (x := (setKey x s)) HG3.out rfl (.tmp 13) rfl rfl ?_; dsimp only [entC, setKey])
    | ((with_reducible refine gate_builtin (b := .append) (xs := #[.tmp 93, .tmp 95]) rfl ?_); at_builtin; refine Kd.R_append k77 (w0 := W0) W0.heap.size rfl (.tmp 93) (.tmp 95) 22 77 (.agg #[(.string ⟨#[]⟩), (.string ⟨#[]⟩), (.int .i64 0), (.int .i64 0), (.int .i64 0), (.int .i64 0), (.int .u8 0), (.int .u8 0), (.int .u8 0), (.int .u8 0), (.int .u8 0), (.int .u8 0), (.int .u8 0), (.int .u8 0), (.int .u8 0), (.int .u8 0), (.int .u8 0), (.int .u8 0), (.int .u8 0), (.int .u8 0), (.int .u8 0), (.int .u8 0)]) 80 rfl Try.underlying22 info77 rfl (by decide) (by omega) u11 XS (setKey x s) [.string s, .string x.f1, .int .i64 x.f2, .int .i64 x.f3, .int .i64 x.f4, .int .i64 x.f5, .int .u8 x.f6.f0, .int .u8 x.f6.f1, .int .u8 x.f6.f2, .int .u8 x.f6.f3, .int .u8 x.f6.f4, .int .u8 x.f6.f5, .int .u8 x.f6.f6, .int .u8 x.f6.f7, .int .u8 x.f6.f8, .int .u8 x.f6.f9, .int .u8 x.f6.f10, .int .u8 x.f6.f11, .int .u8 x.f6.f12, .int .u8 x.f6.f13, .int .u8 x.f6.f14, .int .u8 x.f6.f15] (fun _ => True) (fun _ => False) rfl rfl ?aP (fun _ hk => hk.elim) ?aF ?aO ?aB ?aS ?aL ?_; (case aP => exact k77_mkM _ _ _ (setKey x s)); (case aB => exact below_tr2 (w := W0) HBk.out HG3.out.2); (case aF => exact (fun _ _ => trivial)); (case aO => exact ow_below HOk.out HG3.out.2); (case aS => exact (below_tr2 (w := W0) HBk.out HG3.out.2).size); (case aL => exact HXL.out); intro vA wA ho hb hg hat; have HB1 := Aside0.mk hb; have HO1 := Aside0.mk ho; clear ho hb hg hat))
          go_roundw
          case rel => exact ⟨k + 1, HLT.out, by rw [hkw]; simp, ⟨HNX.out _ _ _ HAT.out HO1.out⟩, HB1⟩
          case measure => (have h9 := HLT.out; rw [hkw]; clear hkw; show ch.length - ((k : Int) + 1).toNat < ch.length - (k : Int).toNat; omega)
        · obtain rfl : k = 0 := by omega
          have d58 : decide (((0 : Nat) : Int) > 0) = false := decide_eq_false (by omega)
          have d59 : decide (0 < ((0 : Nat) : Int)) = false := decide_eq_false (by omega)
          by_cases hn0 : 0 < n
          · have hil : i < l.length := by have := H2.out; have := H1.out; omega
            obtain ⟨ad, rfl, _⟩ := elem_at (HR.out wr HBk.out) i hil
            have HAT := Aside0.mk (show rAt l ch ss i n 0 = setKey x (l.getD i z77).f0 by unfold rAt; rw [if_neg (by omega), if_pos hn0, HX.out])
            have HCS := Aside0.mk (fun (W : World) (hb : Below wr.heap.size wr W) => prev_key (HR.out W (below_tr2 (w := W0) HBk.out hb)) i hil)
            generalize (l.getD i z77).f0 = s at HAT HCS
            have w2 : (i : Int) < (l.length : Int) := by omega
            have w3 : (0 : Int) ≤ (i : Int) := by omega
            have d52 : decide ((n : Int) > 0) = true := decide_eq_true (by omega)
            have d53 : decide (0 < (n : Int)) = true := decide_eq_true (by omega)
            have d54 : decide (0 < n) = true := decide_eq_true (by omega)
            have w4 : 0 < ch.length := HLT.out
            clear hn0 hil hkp
            go_wp2_with (first
    | ((with_reducible refine gate_dst (N := 76) rfl ?_); refine wpList_load_el rfl (.tmp 75) rfl _ rfl x HEL.out ?_)
    | ((with_reducible refine gate_op (p := .store 77 (.tmp 13) (.tmp 76)) rfl ?_); refine wpList_store_new rfl (.tmp 13) (.tmp 76) rfl x rfl rfl rfl ?_; intro W2 hg2 hb2; have HG2 := Aside0.mk hg2; have HBk2 := Aside0.mk hb2; have x0 := (show W2.cell? ⟨wr.heap.size, 0, none⟩ = some (.string x.f0) from cell_of_box hg2 rfl); have x1 := blk_frozen hg2 0; have hy := HCS.out W2 hb2; clear hg2 hb2)
    | ((with_reducible refine gate_op (p := .store 9 (.tmp 92) (.tmp 91)) rfl ?_); refine wpList_set_key rfl (.tmp 92) (.tmp 91) rfl wr.heap.size x s rfl rfl HG2.out ?_; intro W3 hg3 hb3; have HG3 := Aside0.mk (show Hd wr wr.heap.size (entC (setKey x s)) W3 from ⟨hg3, hb3 _ _ (Nat.le_refl _) HBk2.out⟩); clear hg3 hb3)
    | ((with_reducible refine gate_dst (N := 94) rfl ?_); refine wpList_load_hd (w0 := wr) (g := wr.heap.size) (x := (setKey x s)) HG3.out rfl (.tmp 13) rfl rfl ?_; dsimp only [entC, setKey])
    | ((with_reducible refine gate_builtin (b := .append) (xs := #[.tmp 93, .tmp 95]) rfl ?_); at_builtin; refine Kd.R_append k77 (w0 := W0) W0.heap.size rfl (.tmp 93) (.tmp 95) 22 77 (.agg #[(.string ⟨#[]⟩), (.string ⟨#[]⟩), (.int .i64 0), (.int .i64 0), (.int .i64 0), (.int .i64 0), (.int .u8 0), (.int .u8 0), (.int .u8 0), (.int .u8 0), (.int .u8 0), (.int .u8 0), (.int .u8 0), (.int .u8 0), (.int .u8 0), (.int .u8 0), (.int .u8 0), (.int .u8 0), (.int .u8 0), (.int .u8 0), (.int .u8 0), (.int .u8 0)]) 80 rfl Try.underlying22 info77 rfl (by decide) (by omega) u11 XS (setKey x s) [.string s, .string x.f1, .int .i64 x.f2, .int .i64 x.f3, .int .i64 x.f4, .int .i64 x.f5, .int .u8 x.f6.f0, .int .u8 x.f6.f1, .int .u8 x.f6.f2, .int .u8 x.f6.f3, .int .u8 x.f6.f4, .int .u8 x.f6.f5, .int .u8 x.f6.f6, .int .u8 x.f6.f7, .int .u8 x.f6.f8, .int .u8 x.f6.f9, .int .u8 x.f6.f10, .int .u8 x.f6.f11, .int .u8 x.f6.f12, .int .u8 x.f6.f13, .int .u8 x.f6.f14, .int .u8 x.f6.f15] (fun _ => True) (fun _ => False) rfl rfl ?aP (fun _ hk => hk.elim) ?aF ?aO ?aB ?aS ?aL ?_; (case aP => exact k77_mkM _ _ _ (setKey x s)); (case aB => exact below_tr2 (w := W0) HBk.out HG3.out.2); (case aF => exact (fun _ _ => trivial)); (case aO => exact ow_below HOk.out HG3.out.2); (case aS => exact (below_tr2 (w := W0) HBk.out HG3.out.2).size); (case aL => exact HXL.out); intro vA wA ho hb hg hat; have HB1 := Aside0.mk hb; have HO1 := Aside0.mk ho; clear ho hb hg hat))
            go_roundw
            case rel => exact ⟨1, HLT.out, by rfl, ⟨HNX.out _ _ _ HAT.out HO1.out⟩, HB1⟩
            case measure => (have h9 := HLT.out; simp [intOf]; omega)
          · have HAT := Aside0.mk (show rAt l ch ss i n 0 = x by unfold rAt; rw [if_neg (by omega), if_neg hn0, HX.out])
            have d55 : decide ((n : Int) > 0) = false := decide_eq_false (by omega)
            have d56 : decide (0 < (n : Int)) = false := decide_eq_false (by omega)
            have d57 : decide (0 < n) = false := decide_eq_false (by omega)
            have w4 : 0 < ch.length := HLT.out
            clear hn0 hkp
            go_wp2_with (first
    | ((with_reducible refine gate_dst (N := 76) rfl ?_); refine wpList_load_el rfl (.tmp 75) rfl _ rfl x HEL.out ?_)
    | ((with_reducible refine gate_op (p := .store 77 (.tmp 13) (.tmp 76)) rfl ?_); refine wpList_store_new rfl (.tmp 13) (.tmp 76) rfl x rfl rfl rfl ?_; intro W2 hg2 hb2; have HG2 := Aside0.mk hg2; have HBk2 := Aside0.mk hb2; have x0 := (show W2.cell? ⟨wr.heap.size, 0, none⟩ = some (.string x.f0) from cell_of_box hg2 rfl); have x1 := blk_frozen hg2 0; clear hg2 hb2)
    | ((with_reducible refine gate_dst (N := 94) rfl ?_); refine wpList_load_hd (w0 := wr) (g := wr.heap.size) (x := x) (show Hd wr wr.heap.size (entC x) _ from ⟨HG2.out, HBk2.out⟩) rfl (.tmp 13) rfl rfl ?_; dsimp only [entC, setKey])
    | ((with_reducible refine gate_builtin (b := .append) (xs := #[.tmp 93, .tmp 95]) rfl ?_); at_builtin; refine Kd.R_append k77 (w0 := W0) W0.heap.size rfl (.tmp 93) (.tmp 95) 22 77 (.agg #[(.string ⟨#[]⟩), (.string ⟨#[]⟩), (.int .i64 0), (.int .i64 0), (.int .i64 0), (.int .i64 0), (.int .u8 0), (.int .u8 0), (.int .u8 0), (.int .u8 0), (.int .u8 0), (.int .u8 0), (.int .u8 0), (.int .u8 0), (.int .u8 0), (.int .u8 0), (.int .u8 0), (.int .u8 0), (.int .u8 0), (.int .u8 0), (.int .u8 0), (.int .u8 0)]) 80 rfl Try.underlying22 info77 rfl (by decide) (by omega) u11 XS x [.string x.f0, .string x.f1, .int .i64 x.f2, .int .i64 x.f3, .int .i64 x.f4, .int .i64 x.f5, .int .u8 x.f6.f0, .int .u8 x.f6.f1, .int .u8 x.f6.f2, .int .u8 x.f6.f3, .int .u8 x.f6.f4, .int .u8 x.f6.f5, .int .u8 x.f6.f6, .int .u8 x.f6.f7, .int .u8 x.f6.f8, .int .u8 x.f6.f9, .int .u8 x.f6.f10, .int .u8 x.f6.f11, .int .u8 x.f6.f12, .int .u8 x.f6.f13, .int .u8 x.f6.f14, .int .u8 x.f6.f15] (fun _ => True) (fun _ => False) rfl rfl ?aP (fun _ hk => hk.elim) ?aF ?aO ?aB ?aS ?aL ?_; (case aP => exact k77_mkM _ _ _ x); (case aB => exact below_tr2 (w := W0) HBk.out (show Hd wr wr.heap.size (entC x) _ from ⟨HG2.out, HBk2.out⟩).2); (case aF => exact (fun _ _ => trivial)); (case aO => exact ow_below HOk.out (show Hd wr wr.heap.size (entC x) _ from ⟨HG2.out, HBk2.out⟩).2); (case aS => exact (below_tr2 (w := W0) HBk.out (show Hd wr wr.heap.size (entC x) _ from ⟨HG2.out, HBk2.out⟩).2).size); (case aL => exact HXL.out); intro vA wA ho hb hg hat; have HB1 := Aside0.mk hb; have HO1 := Aside0.mk ho; clear ho hb hg hat))
            go_roundw
            case rel => exact ⟨1, HLT.out, by rfl, ⟨HNX.out _ _ _ HAT.out HO1.out⟩, HB1⟩
            case measure => (have h9 := HLT.out; simp [intOf]; omega)
      · obtain rfl : k = ch.length := by omega
        clear hlt hk
        obtain ⟨i77, hi77, hsz⟩ := info77'
        have hcu0 := cut_from (P := Try.prog) 22 77 .i64 Try.underlying22 hi77 22 hsz A l.length c ((i : Int) + (n : Int)) (by omega) (by have := H1.out; have := H2.out; omega)
        rw [show ((i : Int) + (n : Int)).toNat = i + n by omega] at hcu0
        have HCD0 := Aside0.mk (C_drop (HR.out wr HBk.out) (show i + n ≤ l.length by have := H1.out; have := H2.out; omega) HC.out)
        have hdl : (l.drop (i + n)).length = l.length - (i + n) := by simp
        rw [← hdl] at HCD0 hcu0
        have HRLL := Aside0.mk (show rList l ch ss i n = rList l ch ss i n from rfl)
        have HXL := Aside0.mk (show ((l.take i ++ rPut l ch ss i n ch.length).length + (l.drop (i + n)).length) * 80 ≤ 140737488355328 by rw [List.length_append, rPut_length, hdl]; have := H1.out; have := HLL.out; have := HCH.out; have : (l.take i).length = i := (by rw [List.length_take]; omega); omega)
        obtain ⟨RL, hRL⟩ : ∃ RL, rList l ch ss i n = RL := ⟨_, rfl⟩
        rw [hRL] at HRLL
        have HRL := Aside0.mk (show (l.take i ++ rPut l ch ss i n ch.length) ++ l.drop (i + n) = RL from hRL)
        have HRLL := Aside0.mk hRL
        clear hRL hdl
        generalize (if c = i + n then A else A.map (·.add ((i + n) * 22))) = A2 at HCD0 hcu0
        generalize c - (i + n) = c2 at hcu0
        generalize l.drop (i + n) = L2 at HCD0 hcu0 HXL HRL
        generalize l.take i ++ rPut l ch ss i n ch.length = XS at HOk HXL HRL
        have hwi : wrap64 ((i : Int) + (n : Int)) = (i : Int) + (n : Int) := w64 _ (by omega) (by have := H1.out; have := H2.out; have := HLL.out; omega)
        have HCD := HCD0
        clear HCD0 hi77
        by_cases z0 : i = 0
        · have i0 : ((i : Int) == 0) = true := beq_iff_eq.mpr (by omega)
          by_cases z3 : 0 < RL.length
          · have d69 : decide ((RL.length : Int) > 0) = true := decide_eq_true (by omega)
            have d70 : decide (0 < (RL.length : Int)) = true := decide_eq_true (by omega)
            have d71 : decide (0 < RL.length) = true := decide_eq_true (by omega)
            by_cases z1 : 0 < n
            · have d60 : decide ((n : Int) > 0) = true := decide_eq_true (by omega)
              have d61 : decide (0 < (n : Int)) = true := decide_eq_true (by omega)
              have d62 : decide (0 < n) = true := decide_eq_true (by omega)
              have HZ3 := Aside0.mk z3
              have HRF := Aside0.mk (show rRep l ch ss i n = RL.set 0 (setKey (RL.getD 0 z77) ⟨#[]⟩) from by unfold rRep; rw [HRLL.out, if_pos ⟨z0, z3, Or.inl z1⟩])
              clear z0 z3 z1
              go_wp2_with (first | ((with_reducible refine gate_builtin (b := .append) (xs := #[.tmp 97, .tmp 102]) rfl ?_); at_builtin; refine Kd.R_append_rows k77 (w0 := W0) W0.heap.size rfl (.tmp 97) (.tmp 102) 22 77 (.agg #[(.string ⟨#[]⟩), (.string ⟨#[]⟩), (.int .i64 0), (.int .i64 0), (.int .i64 0), (.int .i64 0), (.int .u8 0), (.int .u8 0), (.int .u8 0), (.int .u8 0), (.int .u8 0), (.int .u8 0), (.int .u8 0), (.int .u8 0), (.int .u8 0), (.int .u8 0), (.int .u8 0), (.int .u8 0), (.int .u8 0), (.int .u8 0), (.int .u8 0), (.int .u8 0)]) 80 rfl Try.underlying22 info77 rfl (by decide) (by omega) u11 XS L2 _ _ _ (fun _ => True) (fun _ => False) rfl rfl ?aO ?aR (fun _ _ h => h) (fun _ h => h.elim) ?aF ?aB ?aS ?aL ?_; (case aR => exact HCD.out); (case aB => exact HBk.out); (case aF => exact (fun _ _ => trivial)); (case aO => exact HOk.out); (case aS => exact HBk.out.size); (case aL => exact HXL.out); intro vA wA ho hb hg hat; have HBA := Aside0.mk hb; have HO := Aside0.mk (show Ow wA W0.heap.size vA RL from by rw [← HRL.out]; exact ho); have HGA := Aside0.mk (blk_below HBX.out hb); clear ho hb hg hat; obtain ⟨Ao, co, rfl⟩ := Kd.R_slice HO.out; have z3p := HZ3.out; obtain ⟨go, c9, hv, hg1, hg2⟩ := ow_addr HO.out HZ3.out; obtain ⟨rfl, rfl⟩ : Ao = some ⟨go, 0, none⟩ ∧ co = c9 := (by injection hv with h1 _ h3; exact ⟨h1, h3⟩); have hk := ow_key HO.out 0 HZ3.out ⟨#[]⟩; (rw [Nat.zero_mul] at hk); obtain ⟨hk1, hk2, hk3⟩ := hk; have HO8 := Aside0.mk hk3; have HG := Aside0.mk (blk_far HGA.out (p := ⟨go, 0, none⟩) (show w.heap.size ≠ go by have h1 := blk_lt HBX.out; omega) (.string ⟨#[]⟩)); have HBS := Aside0.mk (HBA.out.setCell (p := ⟨go, 0, none⟩) hg1 (.string ⟨#[]⟩)); have hne : ¬ go = w.heap.size := (by have h1 := blk_lt HBX.out; omega); have hne2 : ¬ w.heap.size = go := fun h => hne h.symm; clear hk3 hv hg1 hg2 HO HBA HGA; have HO := HO8; have HBA := HBS; (clear HO8 HBS); have y0 : (wA.setCell ⟨go, 0, none⟩ (.string ⟨#[]⟩)).cell? ⟨w.heap.size, 0, none⟩ = some (.slice none 0 0) := (by rw [blk_cell HG.out]; rfl); have y1 : (wA.setCell ⟨go, 0, none⟩ (.string ⟨#[]⟩)).cell? ⟨w.heap.size, 1, none⟩ = some (.int .i64 0) := (by rw [blk_cell HG.out]; rfl); have z8 := blk_frozen HG.out 0; have z9 := blk_frozen HG.out 1))
              refine bodyPost_ret (results_cell_row rfl _ _ w.heap.size 52 #[.slice (some ⟨go, 0, none⟩) RL.length co, .int .i64 0] (0, 0) _ rfl (by refine blk_put (cs := #[.slice (some ⟨go, 0, none⟩) RL.length co, .int .i64 0]) ?_ 1 _ rfl; refine blk_put (cs := #[.slice none 0 0, .int .i64 0]) ?_ 0 _ rfl; exact HG.out) Try.underlying52 rfl (by kernel_rfl)) rfl ?_
              refine ⟨_, rfl, ?_, ((below_tr2 (w := w) HW0.out HBA.out).setCell (Nat.le_refl _) _).setCell (Nat.le_refl _) _⟩
              rw [HRF.out]
              have h1 := Kd.R_drop (Kd.R_far (Kd.R_types HO.out HG.out (rows_only (by decide))) (fun k hk => hk.2) (p := ⟨w.heap.size, 0, none⟩) (.slice (some ⟨go, 0, none⟩) RL.length co))
              have h2 := Kd.R_drop (Kd.R_far (Kd.R_types h1 (blk_put (cs := #[.slice none 0 0, .int .i64 0]) HG.out 0 (.slice (some ⟨go, 0, none⟩) RL.length co) rfl) (rows_only (by decide))) (fun k hk => hk.2) (p := ⟨w.heap.size, 1, none⟩) (.int .i64 0))
              exact Kd.R_lower h2 HW0.out.size
            · have d72 : decide ((n : Int) > 0) = false := decide_eq_false (by omega)
              have d73 : decide (0 < (n : Int)) = false := decide_eq_false (by omega)
              have d74 : decide (0 < n) = false := decide_eq_false (by omega)
              by_cases z2 : 0 < ch.length
              · have d63 : decide ((ch.length : Int) > 0) = true := decide_eq_true (by omega)
                have d64 : decide (0 < (ch.length : Int)) = true := decide_eq_true (by omega)
                have d65 : decide (0 < ch.length) = true := decide_eq_true (by omega)
                have HZ3 := Aside0.mk z3
                have HRF := Aside0.mk (show rRep l ch ss i n = RL.set 0 (setKey (RL.getD 0 z77) ⟨#[]⟩) from by unfold rRep; rw [HRLL.out, if_pos ⟨z0, z3, Or.inr z2⟩])
                clear z0 z3 z1 z2
                go_wp2_with (first | ((with_reducible refine gate_builtin (b := .append) (xs := #[.tmp 97, .tmp 102]) rfl ?_); at_builtin; refine Kd.R_append_rows k77 (w0 := W0) W0.heap.size rfl (.tmp 97) (.tmp 102) 22 77 (.agg #[(.string ⟨#[]⟩), (.string ⟨#[]⟩), (.int .i64 0), (.int .i64 0), (.int .i64 0), (.int .i64 0), (.int .u8 0), (.int .u8 0), (.int .u8 0), (.int .u8 0), (.int .u8 0), (.int .u8 0), (.int .u8 0), (.int .u8 0), (.int .u8 0), (.int .u8 0), (.int .u8 0), (.int .u8 0), (.int .u8 0), (.int .u8 0), (.int .u8 0), (.int .u8 0)]) 80 rfl Try.underlying22 info77 rfl (by decide) (by omega) u11 XS L2 _ _ _ (fun _ => True) (fun _ => False) rfl rfl ?aO ?aR (fun _ _ h => h) (fun _ h => h.elim) ?aF ?aB ?aS ?aL ?_; (case aR => exact HCD.out); (case aB => exact HBk.out); (case aF => exact (fun _ _ => trivial)); (case aO => exact HOk.out); (case aS => exact HBk.out.size); (case aL => exact HXL.out); intro vA wA ho hb hg hat; have HBA := Aside0.mk hb; have HO := Aside0.mk (show Ow wA W0.heap.size vA RL from by rw [← HRL.out]; exact ho); have HGA := Aside0.mk (blk_below HBX.out hb); clear ho hb hg hat; obtain ⟨Ao, co, rfl⟩ := Kd.R_slice HO.out; have z3p := HZ3.out; obtain ⟨go, c9, hv, hg1, hg2⟩ := ow_addr HO.out HZ3.out; obtain ⟨rfl, rfl⟩ : Ao = some ⟨go, 0, none⟩ ∧ co = c9 := (by injection hv with h1 _ h3; exact ⟨h1, h3⟩); have hk := ow_key HO.out 0 HZ3.out ⟨#[]⟩; (rw [Nat.zero_mul] at hk); obtain ⟨hk1, hk2, hk3⟩ := hk; have HO8 := Aside0.mk hk3; have HG := Aside0.mk (blk_far HGA.out (p := ⟨go, 0, none⟩) (show w.heap.size ≠ go by have h1 := blk_lt HBX.out; omega) (.string ⟨#[]⟩)); have HBS := Aside0.mk (HBA.out.setCell (p := ⟨go, 0, none⟩) hg1 (.string ⟨#[]⟩)); have hne : ¬ go = w.heap.size := (by have h1 := blk_lt HBX.out; omega); have hne2 : ¬ w.heap.size = go := fun h => hne h.symm; clear hk3 hv hg1 hg2 HO HBA HGA; have HO := HO8; have HBA := HBS; (clear HO8 HBS); have y0 : (wA.setCell ⟨go, 0, none⟩ (.string ⟨#[]⟩)).cell? ⟨w.heap.size, 0, none⟩ = some (.slice none 0 0) := (by rw [blk_cell HG.out]; rfl); have y1 : (wA.setCell ⟨go, 0, none⟩ (.string ⟨#[]⟩)).cell? ⟨w.heap.size, 1, none⟩ = some (.int .i64 0) := (by rw [blk_cell HG.out]; rfl); have z8 := blk_frozen HG.out 0; have z9 := blk_frozen HG.out 1))
                refine bodyPost_ret (results_cell_row rfl _ _ w.heap.size 52 #[.slice (some ⟨go, 0, none⟩) RL.length co, .int .i64 0] (0, 0) _ rfl (by refine blk_put (cs := #[.slice (some ⟨go, 0, none⟩) RL.length co, .int .i64 0]) ?_ 1 _ rfl; refine blk_put (cs := #[.slice none 0 0, .int .i64 0]) ?_ 0 _ rfl; exact HG.out) Try.underlying52 rfl (by kernel_rfl)) rfl ?_
                refine ⟨_, rfl, ?_, ((below_tr2 (w := w) HW0.out HBA.out).setCell (Nat.le_refl _) _).setCell (Nat.le_refl _) _⟩
                rw [HRF.out]
                have h1 := Kd.R_drop (Kd.R_far (Kd.R_types HO.out HG.out (rows_only (by decide))) (fun k hk => hk.2) (p := ⟨w.heap.size, 0, none⟩) (.slice (some ⟨go, 0, none⟩) RL.length co))
                have h2 := Kd.R_drop (Kd.R_far (Kd.R_types h1 (blk_put (cs := #[.slice none 0 0, .int .i64 0]) HG.out 0 (.slice (some ⟨go, 0, none⟩) RL.length co) rfl) (rows_only (by decide))) (fun k hk => hk.2) (p := ⟨w.heap.size, 1, none⟩) (.int .i64 0))
                exact Kd.R_lower h2 HW0.out.size
              · have d66 : decide ((ch.length : Int) > 0) = false := decide_eq_false (by omega)
                have d67 : decide (0 < (ch.length : Int)) = false := decide_eq_false (by omega)
                have d68 : decide (0 < ch.length) = false := decide_eq_false (by omega)
                have HRF := Aside0.mk (show rRep l ch ss i n = RL from by unfold rRep; rw [HRLL.out, if_neg (fun h => by rcases h.2.2 with h | h <;> omega)])
                clear z0 z3 z1 z2
                go_wp2_with (first | ((with_reducible refine gate_builtin (b := .append) (xs := #[.tmp 97, .tmp 102]) rfl ?_); at_builtin; refine Kd.R_append_rows k77 (w0 := W0) W0.heap.size rfl (.tmp 97) (.tmp 102) 22 77 (.agg #[(.string ⟨#[]⟩), (.string ⟨#[]⟩), (.int .i64 0), (.int .i64 0), (.int .i64 0), (.int .i64 0), (.int .u8 0), (.int .u8 0), (.int .u8 0), (.int .u8 0), (.int .u8 0), (.int .u8 0), (.int .u8 0), (.int .u8 0), (.int .u8 0), (.int .u8 0), (.int .u8 0), (.int .u8 0), (.int .u8 0), (.int .u8 0), (.int .u8 0), (.int .u8 0)]) 80 rfl Try.underlying22 info77 rfl (by decide) (by omega) u11 XS L2 _ _ _ (fun _ => True) (fun _ => False) rfl rfl ?aO ?aR (fun _ _ h => h) (fun _ h => h.elim) ?aF ?aB ?aS ?aL ?_; (case aR => exact HCD.out); (case aB => exact HBk.out); (case aF => exact (fun _ _ => trivial)); (case aO => exact HOk.out); (case aS => exact HBk.out.size); (case aL => exact HXL.out); intro vA wA ho hb hg hat; have HBA := Aside0.mk hb; have HO := Aside0.mk (show Ow wA W0.heap.size vA RL from by rw [← HRL.out]; exact ho); have HGA := Aside0.mk (blk_below HBX.out hb); clear ho hb hg hat; obtain ⟨Ao, co, rfl⟩ := Kd.R_slice HO.out; have HG := HGA; (clear HGA); have y0 : wA.cell? ⟨w.heap.size, 0, none⟩ = some (.slice none 0 0) := (by rw [blk_cell HG.out]; rfl); have y1 : wA.cell? ⟨w.heap.size, 1, none⟩ = some (.int .i64 0) := (by rw [blk_cell HG.out]; rfl); have z8 := blk_frozen HG.out 0; have z9 := blk_frozen HG.out 1))
                refine bodyPost_ret (results_cell_row rfl _ _ w.heap.size 52 #[.slice Ao RL.length co, .int .i64 0] (0, 0) _ rfl (by refine blk_put (cs := #[.slice Ao RL.length co, .int .i64 0]) ?_ 1 _ rfl; refine blk_put (cs := #[.slice none 0 0, .int .i64 0]) ?_ 0 _ rfl; exact HG.out) Try.underlying52 rfl (by kernel_rfl)) rfl ?_
                refine ⟨_, rfl, ?_, ((below_tr2 (w := w) HW0.out HBA.out).setCell (Nat.le_refl _) _).setCell (Nat.le_refl _) _⟩
                rw [HRF.out]
                have h1 := Kd.R_drop (Kd.R_far (Kd.R_types HO.out HG.out (rows_only (by decide))) (fun k hk => hk.2) (p := ⟨w.heap.size, 0, none⟩) (.slice Ao RL.length co))
                have h2 := Kd.R_drop (Kd.R_far (Kd.R_types h1 (blk_put (cs := #[.slice none 0 0, .int .i64 0]) HG.out 0 (.slice Ao RL.length co) rfl) (rows_only (by decide))) (fun k hk => hk.2) (p := ⟨w.heap.size, 1, none⟩) (.int .i64 0))
                exact Kd.R_lower h2 HW0.out.size
          · have d75 : decide ((RL.length : Int) > 0) = false := decide_eq_false (by omega)
            have d76 : decide (0 < (RL.length : Int)) = false := decide_eq_false (by omega)
            have d77 : decide (0 < RL.length) = false := decide_eq_false (by omega)
            have HRF := Aside0.mk (show rRep l ch ss i n = RL from by unfold rRep; rw [HRLL.out, if_neg (fun h => z3 h.2.1)])
            clear z0 z3
            go_wp2_with (first | ((with_reducible refine gate_builtin (b := .append) (xs := #[.tmp 97, .tmp 102]) rfl ?_); at_builtin; refine Kd.R_append_rows k77 (w0 := W0) W0.heap.size rfl (.tmp 97) (.tmp 102) 22 77 (.agg #[(.string ⟨#[]⟩), (.string ⟨#[]⟩), (.int .i64 0), (.int .i64 0), (.int .i64 0), (.int .i64 0), (.int .u8 0), (.int .u8 0), (.int .u8 0), (.int .u8 0), (.int .u8 0), (.int .u8 0), (.int .u8 0), (.int .u8 0), (.int .u8 0), (.int .u8 0), (.int .u8 0), (.int .u8 0), (.int .u8 0), (.int .u8 0), (.int .u8 0), (.int .u8 0)]) 80 rfl Try.underlying22 info77 rfl (by decide) (by omega) u11 XS L2 _ _ _ (fun _ => True) (fun _ => False) rfl rfl ?aO ?aR (fun _ _ h => h) (fun _ h => h.elim) ?aF ?aB ?aS ?aL ?_; (case aR => exact HCD.out); (case aB => exact HBk.out); (case aF => exact (fun _ _ => trivial)); (case aO => exact HOk.out); (case aS => exact HBk.out.size); (case aL => exact HXL.out); intro vA wA ho hb hg hat; have HBA := Aside0.mk hb; have HO := Aside0.mk (show Ow wA W0.heap.size vA RL from by rw [← HRL.out]; exact ho); have HGA := Aside0.mk (blk_below HBX.out hb); clear ho hb hg hat; obtain ⟨Ao, co, rfl⟩ := Kd.R_slice HO.out; have HG := HGA; (clear HGA); have y0 : wA.cell? ⟨w.heap.size, 0, none⟩ = some (.slice none 0 0) := (by rw [blk_cell HG.out]; rfl); have y1 : wA.cell? ⟨w.heap.size, 1, none⟩ = some (.int .i64 0) := (by rw [blk_cell HG.out]; rfl); have z8 := blk_frozen HG.out 0; have z9 := blk_frozen HG.out 1))
            refine bodyPost_ret (results_cell_row rfl _ _ w.heap.size 52 #[.slice Ao RL.length co, .int .i64 0] (0, 0) _ rfl (by refine blk_put (cs := #[.slice Ao RL.length co, .int .i64 0]) ?_ 1 _ rfl; refine blk_put (cs := #[.slice none 0 0, .int .i64 0]) ?_ 0 _ rfl; exact HG.out) Try.underlying52 rfl (by kernel_rfl)) rfl ?_
            refine ⟨_, rfl, ?_, ((below_tr2 (w := w) HW0.out HBA.out).setCell (Nat.le_refl _) _).setCell (Nat.le_refl _) _⟩
            rw [HRF.out]
            have h1 := Kd.R_drop (Kd.R_far (Kd.R_types HO.out HG.out (rows_only (by decide))) (fun k hk => hk.2) (p := ⟨w.heap.size, 0, none⟩) (.slice Ao RL.length co))
            have h2 := Kd.R_drop (Kd.R_far (Kd.R_types h1 (blk_put (cs := #[.slice none 0 0, .int .i64 0]) HG.out 0 (.slice Ao RL.length co) rfl) (rows_only (by decide))) (fun k hk => hk.2) (p := ⟨w.heap.size, 1, none⟩) (.int .i64 0))
            exact Kd.R_lower h2 HW0.out.size
        · have i0 : ((i : Int) == 0) = false := beq_eq_false_iff_ne.mpr (by omega)
          have HRF := Aside0.mk (show rRep l ch ss i n = RL from by unfold rRep; rw [HRLL.out, if_neg (fun h => z0 h.1)])
          clear z0
          go_wp2_with (first | ((with_reducible refine gate_builtin (b := .append) (xs := #[.tmp 97, .tmp 102]) rfl ?_); at_builtin; refine Kd.R_append_rows k77 (w0 := W0) W0.heap.size rfl (.tmp 97) (.tmp 102) 22 77 (.agg #[(.string ⟨#[]⟩), (.string ⟨#[]⟩), (.int .i64 0), (.int .i64 0), (.int .i64 0), (.int .i64 0), (.int .u8 0), (.int .u8 0), (.int .u8 0), (.int .u8 0), (.int .u8 0), (.int .u8 0), (.int .u8 0), (.int .u8 0), (.int .u8 0), (.int .u8 0), (.int .u8 0), (.int .u8 0), (.int .u8 0), (.int .u8 0), (.int .u8 0), (.int .u8 0)]) 80 rfl Try.underlying22 info77 rfl (by decide) (by omega) u11 XS L2 _ _ _ (fun _ => True) (fun _ => False) rfl rfl ?aO ?aR (fun _ _ h => h) (fun _ h => h.elim) ?aF ?aB ?aS ?aL ?_; (case aR => exact HCD.out); (case aB => exact HBk.out); (case aF => exact (fun _ _ => trivial)); (case aO => exact HOk.out); (case aS => exact HBk.out.size); (case aL => exact HXL.out); intro vA wA ho hb hg hat; have HBA := Aside0.mk hb; have HO := Aside0.mk (show Ow wA W0.heap.size vA RL from by rw [← HRL.out]; exact ho); have HGA := Aside0.mk (blk_below HBX.out hb); clear ho hb hg hat; obtain ⟨Ao, co, rfl⟩ := Kd.R_slice HO.out; have HG := HGA; (clear HGA); have y0 : wA.cell? ⟨w.heap.size, 0, none⟩ = some (.slice none 0 0) := (by rw [blk_cell HG.out]; rfl); have y1 : wA.cell? ⟨w.heap.size, 1, none⟩ = some (.int .i64 0) := (by rw [blk_cell HG.out]; rfl); have z8 := blk_frozen HG.out 0; have z9 := blk_frozen HG.out 1))
          refine bodyPost_ret (results_cell_row rfl _ _ w.heap.size 52 #[.slice Ao RL.length co, .int .i64 0] (0, 0) _ rfl (by refine blk_put (cs := #[.slice Ao RL.length co, .int .i64 0]) ?_ 1 _ rfl; refine blk_put (cs := #[.slice none 0 0, .int .i64 0]) ?_ 0 _ rfl; exact HG.out) Try.underlying52 rfl (by kernel_rfl)) rfl ?_
          refine ⟨_, rfl, ?_, ((below_tr2 (w := w) HW0.out HBA.out).setCell (Nat.le_refl _) _).setCell (Nat.le_refl _) _⟩
          rw [HRF.out]
          have h1 := Kd.R_drop (Kd.R_far (Kd.R_types HO.out HG.out (rows_only (by decide))) (fun k hk => hk.2) (p := ⟨w.heap.size, 0, none⟩) (.slice Ao RL.length co))
          have h2 := Kd.R_drop (Kd.R_far (Kd.R_types h1 (blk_put (cs := #[.slice none 0 0, .int .i64 0]) HG.out 0 (.slice Ao RL.length co) rfl) (rows_only (by decide))) (fun k hk => hk.2) (p := ⟨w.heap.size, 1, none⟩) (.int .i64 0))
          exact Kd.R_lower h2 HW0.out.size
end Go.Proofs.Ytalncokpbgbccaa.E

/- The reference's Replace and the program's answer the same list. -/
namespace Go.Proofs.Ytalncokpbgbccaa.E
set_option linter.unusedVariables false
set_option linter.unusedSimpArgs false
open Go.RowKit Go.Proofs.YtalncokpbgbccaaW.PrintWords Go.Proofs.YtalncokpbgbccaaW.PrintLast Go.Proofs.YtalncokpbgbccaaW.PrintMore
theorem ba_nil {a : ByteArray} (h : a.toList.isEmpty = true) : a = ⟨#[]⟩ := by
  refine ba_inj ?_
  rw [show (⟨#[]⟩ : ByteArray).toList = [] by rw [Lib.toList_data]]
  simpa using h
theorem ord_first (l : List S77) (ho : ordL l 1 = true) (h : 0 < l.length) : (l.getD 0 z77).f0 = ⟨#[]⟩ := by
  have h1 : (List.range l.length).all (okAt l 1) = true := by rw [ordL, Bool.and_eq_true] at ho; exact ho.2
  have h2 : okAt l 1 0 = true := by simpa using (List.all_eq_true.1 h1 0 (by simpa using h))
  rw [okAt, if_pos ⟨by decide, rfl⟩] at h2
  exact ba_nil h2
theorem rAt_put (l ch : List S77) (ss : List ByteArray) (i n k : Nat) (h : i ≠ 0 ∨ 0 < k) : rAt l ch ss i n k = putAt l ch ss i n k := by
  unfold rAt putAt
  by_cases hk : 0 < k
  · rw [if_pos hk, if_pos hk]
  · rw [if_neg hk, if_neg hk, if_neg (show ¬ i = 0 by omega)]
theorem rRep_eq (l ch : List S77) (ss : List ByteArray) (i n : Nat) (ho : ordL l 1 = true) (h1 : i ≤ l.length) (h2 : n ≤ l.length - i) : rRep l ch ss i n = replF l ch ss i n := by
  unfold rRep replF
  by_cases hi : i = 0
  · subst hi
    by_cases hc : ch.length = 0
    · have e : rList l ch ss 0 n = replL l ch ss 0 n := by simp [rList, replL, rPut, putL, hc]
      rw [e]
      by_cases hn : 0 < n
      · by_cases hl : 0 < (replL l ch ss 0 n).length
        · rw [if_pos ⟨rfl, hl, Or.inl hn⟩, if_pos ⟨rfl, hn, hc, hl⟩]
        · rw [if_neg (fun h => hl h.2.1), if_neg (fun h => hl h.2.2.2)]
      · rw [if_neg (fun h => by rcases h.2.2 with h | h <;> omega), if_neg (fun h => hn h.2.1)]
    · obtain ⟨m, hm⟩ : ∃ m, ch.length = m + 1 := ⟨ch.length - 1, by omega⟩
      have e1 : rPut l ch ss 0 n ch.length = rAt l ch ss 0 n 0 :: (List.range m).map (fun k => putAt l ch ss 0 n (k + 1)) := by
        rw [rPut, hm, List.range_succ_eq_map, List.map_cons, List.map_map]
        refine congrArg _ (List.map_congr_left fun k _ => ?_)
        exact rAt_put l ch ss 0 n (k + 1) (Or.inr (Nat.succ_pos _))
      have e2 : putL l ch ss 0 n = putAt l ch ss 0 n 0 :: (List.range m).map (fun k => putAt l ch ss 0 n (k + 1)) := by
        rw [putL, hm, List.range_succ_eq_map, List.map_cons, List.map_map]
        rfl
      have e3 : rList l ch ss 0 n = rAt l ch ss 0 n 0 :: ((List.range m).map (fun k => putAt l ch ss 0 n (k + 1)) ++ l.drop (0 + n)) := by
        rw [rList, e1]; rfl
      have e4 : replL l ch ss 0 n = putAt l ch ss 0 n 0 :: ((List.range m).map (fun k => putAt l ch ss 0 n (k + 1)) ++ l.drop (0 + n)) := by
        rw [replL, e2]; rfl
      rw [if_pos ⟨rfl, by rw [e3]; simp, Or.inr (by omega)⟩, if_neg (fun h => hc h.2.2.1), e3, e4]
      show setKey (rAt l ch ss 0 n 0) ⟨#[]⟩ :: _ = _
      refine congrArg (· :: _) ?_
      unfold rAt putAt
      simp only [Nat.lt_irrefl, if_false]
      by_cases hn : 0 < n
      · rw [if_pos hn, if_pos hn, setKey2, ord_first l ho (by have := h2; rw [Nat.sub_zero] at this; omega)]
      · rw [if_neg hn, if_neg hn, if_pos trivial]
  · rw [if_neg (fun h => hi h.1), if_neg (fun h => hi h.1)]
    have e : rPut l ch ss i n ch.length = putL l ch ss i n := by
      unfold rPut putL
      exact List.map_congr_left fun k _ => rAt_put l ch ss i n k (Or.inl hi)
    rw [rList, replL, e, List.append_assoc]
theorem rreplace_c (l ch : List S77) (ss : List ByteArray) (A Ac As : Option Addr) (c cc cs : Nat) (i n : Int) (w : World) (hr : Kd.C k77 w A l.length l) (hc : l.length ≤ c) (hrc : Kd.C k77 w Ac ch.length ch) (hcl : ch.length ≤ 100000) (hll : l.length ≤ 100000) (hrs : Kd.string.C w As ss.length ss) (hsl : ss.length ≤ 1000000)
    (HO : Aside0 (Say w 16 #[.slice A l.length c, .int .i64 1] (.bool (ordL l 1)))) :
    Calls Try.prog 36 #[.slice A l.length c, .int .i64 i, .int .i64 n, .slice Ac ch.length cc, .slice As ss.length cs] w fun e w' => ∃ v, e = .returned (.agg #[v, .int .i64 (replR l ch ss i n).2]) ∧ Ow w' w.heap.size v (replR l ch ss i n).1 ∧ Below w.heap.size w w' := by
  cases ho : ordL l 1 with
  | false =>
    rw [ho] at HO
    rw [show replR l ch ss i n = ([], 2) by simp [replR, ho]]
    refine (rrep_bad l ch ss A Ac As c cc cs i n w HO).mono ?_
    rintro e w' ⟨rfl, hb⟩
    exact ⟨_, rfl, Kd.R_nil _ _ _ _ _, hb⟩
  | true =>
    rw [ho] at HO
    by_cases hno : replOk l ch ss i n
    · have hok := hno
      obtain ⟨g0, g1, g2, g3, g4⟩ := hno
      obtain ⟨j, rfl⟩ := Int.eq_ofNat_of_zero_le g0
      obtain ⟨m, rfl⟩ := Int.eq_ofNat_of_zero_le g2
      rw [show replR l ch ss (j : Int) (m : Int) = (rRep l ch ss j m, 0) by rw [replR, if_pos ho, if_pos hok, rRep_eq l ch ss j m ho (by omega) (by omega)]; rfl]
      exact rrep_ok l ch ss A Ac As c cc cs j m w hr hc hrc hcl hll hrs hsl HO (by omega) (by omega) g4
    · rw [show replR l ch ss i n = ([], 1) by rw [replR, if_pos ho, if_neg hno]]
      refine (rrep_arg l ch ss A Ac As c cc cs i n w HO hll hcl hsl hno).mono ?_
      rintro e w' ⟨rfl, hb⟩
      exact ⟨_, rfl, Kd.R_nil _ _ _ _ _, hb⟩
end Go.Proofs.Ytalncokpbgbccaa.E

/- NodeReplaces, walked and joined: whatever the entries, places and separators, it returns true. -/
namespace Go.Proofs.Ytalncokpbgbccaa.E
set_option linter.unusedVariables false
set_option linter.unusedSimpArgs false
open Go.RowKit Go.Proofs.YtalncokpbgbccaaW.PrintWords Go.Proofs.YtalncokpbgbccaaW.PrintLast Go.Proofs.YtalncokpbgbccaaW.PrintMore
/-- a call that answers with a list of its own, and leaves what is there as it is -/
@[reducible] def SayL (w : World) (f : Nat) (args : Array Value) (mk : Value → Value) (L : List S77) : Prop := ∀ w1, Below w.heap.size w w1 → Calls Try.prog f args w1 fun e w2 => ∃ v, e = .returned (mk v) ∧ Ow w2 w1.heap.size v L ∧ Below w1.heap.size w1 w2
/-- few of two lists -/
@[reducible] def Ans2 (w : World) (A : Option Addr) (n c : Nat) (B : Option Addr) (m d : Nat) (b : Bool) : Prop := ∀ w1 g, Below w.heap.size w w1 → w1.heap[g]? = some (.cells #[.slice A n c, .slice B m d] 22 (0, 0)) → Calls Try.prog 14 #[.slice (some ⟨g, 0, none⟩) 2 2] w1 fun e w2 => e = .returned (.bool b) ∧ Below w.heap.size w w2
theorem few_two (l m : List S77) : ∃ b, (b = true → FewL l ∧ FewL m) ∧ ∀ w A c B d, Kd.C k77 w A l.length l → l.length ≤ c → Kd.C k77 w B m.length m → m.length ≤ d → Ans2 w A l.length c B m.length d b := by
  obtain ⟨k, b, hk, hb⟩ := few_t [l, m] (by simp)
  refine ⟨b, fun h => ⟨by simpa using hb h 0 (by simp), by simpa using hb h 1 (by simp)⟩, fun w A c B d hr hc hm hd w1 g b1 hg => ?_⟩
  have hC : kN.C w1 (some ⟨g, 0, none⟩) 2 [l, m] := C_rows (cells := [.slice A l.length c, .slice B m.length d]) [l, m] hg (by simp) (by
    intro j x hx
    match j, hx with
    | 0, hx =>
      simp only [List.getElem?_cons_zero, Option.some.injEq] at hx
      subst hx
      exact ⟨A, c, rfl, hc, Kd.C_below hr b1⟩
    | 1, hx =>
      simp only [List.getElem?_cons_succ, List.getElem?_cons_zero, Option.some.injEq] at hx
      subst hx
      exact ⟨B, d, rfl, hd, Kd.C_below hm b1⟩
    | j + 2, hx => simp at hx)
  exact (understorylaw06_few.calls k (some ⟨g, 0, none⟩) 2 [l, m] b w1 hC (by simp) hk).mono fun e w2 ⟨e1, n, b2⟩ => ⟨e1, by rw [b2]; exact pw_below_drewN b1 _⟩
theorem few_fine {l : List S77} (h : FewL l) : Fine l := by
  refine ⟨by have := h.1; omega, fun x hx => ?_⟩
  obtain ⟨j, hj, rfl⟩ := List.getElem_of_mem hx
  have := h.2 j hj
  rw [show l.getD j z77 = l[j] by simp [hj]] at this
  omega
set_option maxRecDepth 100000 in
set_option maxHeartbeats 4000000 in
theorem replaces_1 (A Ac As : Option Addr) (n c m cc cs : Nat) (i j : Int) (ss : List ByteArray) (w : World) (HSANE : Aside0 (Say w 15 #[] (.bool true))) (HFEW : Aside0 (Ans2 w A n c Ac m cc false)) :
    Calls Try.prog 5 #[.slice A n c, .int .i64 i, .int .i64 j, .slice Ac m cc, .slice As ss.length cs] w fun e w' => e = .returned (.bool true) ∧ Below w.heap.size w w' := by
  go_enter Try.func5, Try.ntmps5
  go_wp2_with (first
    | ((go_at_call 14); (with_reducible refine (HFEW.out _ _ (by repeat (first | exact HB.out | exact Below.refl _ _ | apply below_alloc | apply pw_below_drewN | apply below_drew1)) ?hg).mono ?_); (case hg => first | exact blk_new _ _ | exact heap_alloc_new _ _); rintro e w9 ⟨rfl, hb9⟩; (try clear HB); have HB := Aside0.mk hb9; clear hb9)
    | ((go_at_call 15); (with_reducible refine (HSANE.out _ (by repeat (first | exact HB.out | apply below_alloc))).mono ?_); rintro e w9 ⟨rfl, hbl⟩; have HBn := Aside0.mk (below_tr2 (w := w) (by repeat (first | exact HB.out | apply below_alloc)) hbl); (try clear HB); have HB := HBn; clear HBn hbl))
  go_ret
  exact ⟨rfl, HB.out⟩
set_option maxRecDepth 100000 in
set_option maxHeartbeats 4000000 in
theorem replaces_2 (A Ac As : Option Addr) (n c m cc cs : Nat) (i j : Int) (ss : List ByteArray) (w : World) (HSANE : Aside0 (Say w 15 #[] (.bool true))) (HFEW : Aside0 (Ans2 w A n c Ac m cc true)) (kz : 100 < ss.length) :
    Calls Try.prog 5 #[.slice A n c, .int .i64 i, .int .i64 j, .slice Ac m cc, .slice As ss.length cs] w fun e w' => e = .returned (.bool true) ∧ Below w.heap.size w w' := by
  have hz : decide ((100 : Int) < (ss.length : Int)) = true := decide_eq_true (by omega)
  have hz' : decide (100 < ss.length) = true := decide_eq_true (by omega)
  clear kz
  go_enter Try.func5, Try.ntmps5
  go_wp2_with (first
    | ((go_at_call 14); (with_reducible refine (HFEW.out _ _ (by repeat (first | exact HB.out | exact Below.refl _ _ | apply below_alloc | apply pw_below_drewN | apply below_drew1)) ?hg).mono ?_); (case hg => first | exact blk_new _ _ | exact heap_alloc_new _ _); rintro e w9 ⟨rfl, hb9⟩; (try clear HB); have HB := Aside0.mk hb9; clear hb9)
    | ((go_at_call 15); (with_reducible refine (HSANE.out _ (by repeat (first | exact HB.out | apply below_alloc))).mono ?_); rintro e w9 ⟨rfl, hbl⟩; have HBn := Aside0.mk (below_tr2 (w := w) (by repeat (first | exact HB.out | apply below_alloc)) hbl); (try clear HB); have HB := HBn; clear HBn hbl))
  go_ret
  exact ⟨rfl, HB.out⟩
set_option maxRecDepth 100000 in
set_option maxHeartbeats 4000000 in
theorem replaces_3 (A Ac As : Option Addr) (n c m cc cs : Nat) (i j : Int) (ss : List ByteArray) (w : World) (HSANE : Aside0 (Say w 15 #[] (.bool true))) (HFEW : Aside0 (Ans2 w A n c Ac m cc true)) (kz : ¬ 100 < ss.length) (L : List S77) (E : Int) (hrs : Kd.string.C w As ss.length ss)
    (H35 : Aside0 (SayL w 35 #[.slice A n c, .int .i64 i, .int .i64 j, .slice Ac m cc, .slice As ss.length cs] (fun v => .tuple #[v, .int .i64 E]) L)) (H36 : Aside0 (SayL w 36 #[.slice A n c, .int .i64 i, .int .i64 j, .slice Ac m cc, .slice As ss.length cs] (fun v => .agg #[v, .int .i64 E]) L))
    (HSM : Aside0 (∀ A1 A2 c1 c2 (W : World), Kd.C k77 W A1 L.length L → Kd.C k77 W A2 L.length L → Calls Try.prog 37 #[.slice A1 L.length c1, .slice A2 L.length c2] W fun e w2 => e = .returned (.bool true) ∧ Below W.heap.size W w2)) :
    Calls Try.prog 5 #[.slice A n c, .int .i64 i, .int .i64 j, .slice Ac m cc, .slice As ss.length cs] w fun e w' => e = .returned (.bool true) ∧ Below w.heap.size w w' := by
  have hz : decide ((100 : Int) < (ss.length : Int)) = false := decide_eq_false (by omega)
  have hz' : decide (100 < ss.length) = false := decide_eq_false (by omega)
  have HRS := Aside0.mk (fun (W : World) (hb : Below w.heap.size w W) => Kd.C_below hrs hb)
  have HZ := Aside0.mk kz
  clear kz hrs
  go_enter Try.func5, Try.ntmps5
  go_wp2_with (first
    | ((go_at_call 14); (with_reducible refine (HFEW.out _ _ (by repeat (first | exact HB.out | exact Below.refl _ _ | apply below_alloc | apply pw_below_drewN | apply below_drew1)) ?hg).mono ?_); (case hg => first | exact blk_new _ _ | exact heap_alloc_new _ _); rintro e w9 ⟨rfl, hb9⟩; (try clear HB); have HB := Aside0.mk hb9; clear hb9))
  clear hz hz' HFEW
  go_loopw [11] (fun iv wr => ∃ k : Nat, k ≤ ss.length ∧ iv = .int .i64 k ∧ Aside0 (Below w.heap.size w wr)) (fun iv _ => ss.length - (intOf iv).toNat)
  case atStart => exact ⟨0, Nat.zero_le _, rfl, HB⟩
  case round =>
    (try clear HB)
    obtain ⟨k, hk, rfl, HB⟩ := hrel
    by_cases hlt : k < ss.length
    · obtain ⟨ad, rfl, hcs⟩ := Kd.at_string (HRS.out wr HB.out) (k : Int) (by omega) (by omega)
      simp only [Int.toNat_natCast] at hcs
      have hcs2 : wr.cell? (ad.add k) = some (.string (ss.getD k ByteArray.empty)) := hcs
      generalize ss.getD k ByteArray.empty = s at hcs2
      have HLT := Aside0.mk hlt
      have hk1 : (k : Int) < (ss.length : Int) := by omega
      have hk2 : (0 : Int) ≤ (k : Int) := by omega
      clear hcs hlt hk
      by_cases hsz : 100 < s.size
      · have q1 : decide ((100 : Int) < (s.size : Int)) = true := decide_eq_true (by omega)
        have q2 : decide (100 < s.size) = true := decide_eq_true hsz
        clear hsz
        go_wp2_with (first
          | ((go_at_call 15); (with_reducible refine (HSANE.out _ (by repeat (first | exact HB.out | apply below_alloc))).mono ?_); rintro e w9 ⟨rfl, hbl⟩; have HBn := Aside0.mk (below_tr2 (w := w) (by repeat (first | exact HB.out | apply below_alloc)) hbl); (try clear HB); have HB := HBn; clear HBn hbl))
        go_ret
        exact ⟨rfl, HB.out⟩
      · have q1 : decide ((100 : Int) < (s.size : Int)) = false := decide_eq_false (by omega)
        have q2 : decide (100 < s.size) = false := decide_eq_false hsz
        have hkw : wrap64 ((k : Int) + 1) = (k : Int) + 1 := w64 _ (by have := HLT.out; have := HZ.out; omega) (by have := HLT.out; have := HZ.out; omega)
        clear hsz
        go_wp2_with fail
        go_roundw
        case rel => exact ⟨k + 1, HLT.out, by rw [hkw]; simp, HB⟩
        case measure => (have h9 := HLT.out; rw [hkw]; clear hkw; show ss.length - ((k : Int) + 1).toNat < ss.length - (k : Int).toNat; omega)
    · obtain rfl : k = ss.length := by omega
      clear hlt hk HRS HZ
      go_wp2_with (first
        | ((go_at_call 35); (with_reducible refine (H35.out _ HB.out).mono ?_); rintro e wa ⟨v1, rfl, ho, hbl⟩; obtain ⟨A1, c1, rfl⟩ := Kd.R_slice ho; have HC1 := Aside0.mk (fun (W : World) (hb : Below wa.heap.size wa W) => Kd.C_below (Kd.R_reads' ho).2.2 hb); have HBn := Aside0.mk (below_tr2 (w := w) HB.out hbl); clear HB ho hbl; have HB := HBn; clear HBn)
        | ((go_at_call 36); (with_reducible refine (H36.out _ HB.out).mono ?_); rintro e wb ⟨v2, rfl, ho, hbl⟩; obtain ⟨A2, c2, rfl⟩ := Kd.R_slice ho; have HC2 := Aside0.mk (fun (W : World) (hb : Below wb.heap.size wb W) => Kd.C_below (Kd.R_reads' ho).2.2 hb); have HC3 := Aside0.mk (fun (W : World) (hb : Below wb.heap.size wb W) => HC1.out W (below_tr2 (w := wa) hbl hb)); have HBn := Aside0.mk (below_tr2 (w := w) HB.out hbl); clear HB ho hbl HC1; have HB := HBn; clear HBn)
        | ((go_at_call 15); (with_reducible refine (HSANE.out _ (by repeat (first | exact HB.out | apply below_alloc))).mono ?_); rintro e wd ⟨rfl, hbl⟩; have HG := Aside0.mk (blk_below (blk_new wb (.cells #[.slice A2 L.length c2, .int .i64 E] 52)) hbl); have d0 : wd.cell? ⟨wb.heap.size, 0, none⟩ = some (.slice A2 L.length c2) := (by rw [blk_cell HG.out]; rfl); have d1 : wd.cell? ⟨wb.heap.size, 1, none⟩ = some (.int .i64 E) := (by rw [blk_cell HG.out]; rfl); have HD2 := Aside0.mk (HC2.out wd (below_tr2 (w := wb) (below_alloc (Below.refl _ _) (.cells #[.slice A2 L.length c2, .int .i64 E] 52)) hbl)); have HD1 := Aside0.mk (HC3.out wd (below_tr2 (w := wb) (below_alloc (Below.refl _ _) (.cells #[.slice A2 L.length c2, .int .i64 E] 52)) hbl)); have HBn := Aside0.mk (below_tr2 (w := w) (by repeat (first | exact HB.out | apply below_alloc)) hbl); clear HB hbl HC2 HC3; have HB := HBn; clear HBn)
        | ((go_at_call 37); (with_reducible refine (HSM.out _ _ _ _ _ HD1.out HD2.out).mono ?_); rintro e we ⟨rfl, hbl⟩; have HBn := Aside0.mk (below_tr2 (w := w) HB.out hbl); clear HB hbl; have HB := HBn; clear HBn))
      go_ret
      exact ⟨rfl, HB.out⟩
theorem replaces_c (l ch : List S77) (ss : List ByteArray) (A Ac As : Option Addr) (c cc cs : Nat) (i n : Int) (w : World) (hr : Kd.C k77 w A l.length l) (hc : l.length ≤ c) (hrc : Kd.C k77 w Ac ch.length ch) (hcc : ch.length ≤ cc) (hrs : Kd.string.C w As ss.length ss) :
    Calls Try.prog 5 #[.slice A l.length c, .int .i64 i, .int .i64 n, .slice Ac ch.length cc, .slice As ss.length cs] w fun e w' => e = .returned (.bool true) ∧ Below w.heap.size w w' := by
  obtain ⟨bf, hf, HF⟩ := few_two l ch
  have HFEW := Aside0.mk (HF w A c Ac cc hr hc hrc hcc)
  have HS := Aside0.mk (show Say w 15 #[] (.bool true) from fun w1 _ => sane_c w1)
  cases bf with
  | false => exact replaces_1 A Ac As l.length c ch.length cc cs i n ss w HS HFEW
  | true =>
  by_cases kz : 100 < ss.length
  · exact replaces_2 A Ac As l.length c ch.length cc cs i n ss w HS HFEW kz
  obtain ⟨f1, f2⟩ := hf rfl
  have h1 := f1.1
  have h2 := f2.1
  obtain ⟨k0, e0⟩ := ordered_eq l 1 h1
  refine replaces_3 A Ac As l.length c ch.length cc cs i n ss w HS HFEW kz (replR l ch ss i n).1 (replR l ch ss i n).2 hrs ?_ ?_ ?_
  · exact ⟨fun w1 b => replace_c l ch ss A Ac As c cc cs i n w1 (Kd.C_below hr b) hc (few_fine f1) (Kd.C_below hrc b) (by omega) (by omega) (Kd.C_below hrs b) (by omega)⟩
  · exact ⟨fun w1 b => rreplace_c l ch ss A Ac As c cc cs i n w1 (Kd.C_below hr b) hc (Kd.C_below hrc b) (by omega) (by omega) (Kd.C_below hrs b) (by omega) (Aside0.mk (say_drawn (w := w1) fun w2 b2 => understoryref06_Ordered.calls k0 A c l 1 _ w2 (Kd.C_below (Kd.C_below hr b) b2) hc e0))⟩
  · refine ⟨fun A1 A2 c1 c2 W g1 g2 => ?_⟩
    have hlen : (replR l ch ss i n).1.length ≤ 1000000 := by
      unfold replR
      split
      · split
        · rename_i ho hk
          obtain ⟨g0, g1, g2, g3, g4⟩ := hk
          rw [← rRep_eq l ch ss i.toNat n.toNat ho (by omega) (by omega)]
          have e : (rRep l ch ss i.toNat n.toNat).length = (rList l ch ss i.toNat n.toNat).length := by
            unfold rRep
            split
            · rw [List.length_set]
            · rfl
          show (rRep l ch ss i.toNat n.toNat).length ≤ _
          rw [e, rList, List.length_append, List.length_append, rPut_length, List.length_take, List.length_drop]
          omega
        · simp
      · simp
    have := same_c _ _ A1 A2 c1 c2 W g1 g2 hlen
    rwa [(sameL_iff _ _).2 rfl] at this
end Go.Proofs.Ytalncokpbgbccaa.E

