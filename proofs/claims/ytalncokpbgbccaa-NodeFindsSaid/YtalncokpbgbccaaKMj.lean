-- A slim copy of Mj, written by wip/tools/prune2.py.
import Derived.Test.YtalncokpbgbccaaKMh
import Derived.Test.YtalncokpbgbccaaKNx0
/- Joined: OE, OF, Ra. -/
/- Replace: what it returns. -/
namespace Go.Proofs.Ytalncokpbgbccaa.E
set_option linter.unusedVariables false
set_option linter.unusedSimpArgs false
open Go.RowKit Go.Proofs.YtalncokpbgbccaaW.PrintWords Go.Proofs.YtalncokpbgbccaaW.PrintLast Go.Proofs.YtalncokpbgbccaaW.PrintMore

attribute [local go_sem] max2_mx max_two
def rg35_15_T : Bool × List (List Nat × List Nat) := (true, [([], []), ([], []), ([0, 1], [0, 1]), ([], []), ([], []), ([], []), ([], []), ([5, 6], [5, 6]), ([4, 7], [4, 7]), ([2, 3, 8], [2, 3, 8]), ([9], [9]), ([10, 10, 0, 1, 2, 3, 4, 5, 6, 7, 8, 9, 10], [10])])
def rg35_15_B : List Nat := [0, 0, 3, 0, 0, 0, 0, 96, 240, 511, 1023, 2047]
theorem rg35_15_tab : rtab .any (opsOf Try.f35 15) = rg35_15_T := by kernel_rfl
theorem rg35_15_bits : waitsOk rg35_15_T.2 rg35_15_B = true := by kernel_rfl
/-- a child that is put in, with its key -/
def putAt (l ch : List S77) (ss : List ByteArray) (i n k : Nat) : S77 :=
  if 0 < k then setKey (ch.getD k z77) (ss.getD (k - 1) ByteArray.empty)
  else if 0 < n then setKey (ch.getD k z77) (l.getD i z77).f0
  else if i = 0 then setKey (ch.getD k z77) ⟨#[]⟩
  else ch.getD k z77
def putL (l ch : List S77) (ss : List ByteArray) (i n : Nat) : List S77 := (List.range ch.length).map (putAt l ch ss i n)
def putS (l ch : List S77) (ss : List ByteArray) (i n k : Nat) : List S77 := (putL l ch ss i n).take k ++ ch.drop k
theorem putL_length (l ch : List S77) (ss : List ByteArray) (i n : Nat) : (putL l ch ss i n).length = ch.length := by simp [putL]
theorem putS_length (l ch : List S77) (ss : List ByteArray) (i n k : Nat) (hk : k ≤ ch.length) : (putS l ch ss i n k).length = ch.length := by
  simp [putS, putL_length]; omega
theorem putS_get (l ch : List S77) (ss : List ByteArray) (i n k : Nat) (hk : k < ch.length) : (putS l ch ss i n k).getD k z77 = ch.getD k z77 := by
  have h : ((putL l ch ss i n).take k).length = k := by simp [putL_length]; omega
  unfold putS
  simp [List.getD, List.getElem?_append_right (Nat.le_of_eq h), h]
theorem putS_succ (l ch : List S77) (ss : List ByteArray) (i n k : Nat) (hk : k < ch.length) : putS l ch ss i n (k + 1) = (putS l ch ss i n k).set k (putAt l ch ss i n k) := by
  have h : ((putL l ch ss i n).take k).length = k := by simp [putL_length]; omega
  unfold putS
  rw [List.take_succ_eq_append_getElem (by rw [putL_length]; exact hk), List.set_append_right _ _ (by omega), h, Nat.sub_self]
  have e : ch.drop k = ch[k] :: ch.drop (k + 1) := List.drop_eq_getElem_cons hk
  rw [e, List.set_cons_zero, List.append_assoc]
  simp [putL]
theorem putS_all (l ch : List S77) (ss : List ByteArray) (i n : Nat) : putS l ch ss i n ch.length = putL l ch ss i n := by
  unfold putS
  rw [List.take_of_length_le (by rw [putL_length]; exact Nat.le_refl _), List.drop_length, List.append_nil]
theorem C_rows {W : World} {g : Nat} {cells : List Value} (ls : List (List S77)) (hg : W.heap[g]? = some (.cells cells.toArray 22 (0, 0))) (hm : ls.length ≤ 1000) (hf : ∀ (j : Nat) (x : List S77), ls[j]? = some x → ∃ (A : Option Addr) (c : Nat), cells[j]? = some (Value.slice A x.length c) ∧ x.length ≤ c ∧ Kd.C k77 W A x.length x) : kN.C W (some ⟨g, 0, none⟩) ls.length ls := by
  refine ⟨rfl, by omega, fun _ => ⟨_, rfl, fun j p hp => ?_⟩⟩
  obtain ⟨A, c, h1, h2, h3⟩ := hf j p hp
  refine ⟨[.slice A p.length c], rfl, ⟨A, c, rfl, h2, h3⟩, fun k u hu => ?_⟩
  have hk : k = 0 := by
    cases k with
    | zero => rfl
    | succ k => simp at hu
  subst hk
  have hu : u = .slice A p.length c := by simpa using hu.symm
  subst hu
  have := blk_cell hg j
  have ha : ((⟨g, 0, none⟩ : Addr).add j) = ⟨g, j, none⟩ := by unfold Addr.add; split <;> simp_all
  rw [show j * kN.sz + 0 = j by show j * 1 + 0 = j; omega, ha, this]
  simpa using h1
theorem set_self (l : List S77) : l.set 0 (l.getD 0 z77) = l := by cases l <;> rfl
/-- the list behind a replacement -/
def replL (l ch : List S77) (ss : List ByteArray) (i n : Nat) : List S77 := l.take i ++ (putL l ch ss i n ++ l.drop (i + n))
def replF (l ch : List S77) (ss : List ByteArray) (i n : Nat) : List S77 := if i = 0 ∧ 0 < n ∧ ch.length = 0 ∧ 0 < (replL l ch ss i n).length then (replL l ch ss i n).set 0 (setKey ((replL l ch ss i n).getD 0 z77) ⟨#[]⟩) else replL l ch ss i n
set_option maxRecDepth 100000 in
set_option maxHeartbeats 8000000 in
theorem replace_ok (l ch : List S77) (ss : List ByteArray) (A Ac As : Option Addr) (c cc cs : Nat) (i n : Nat) (w : World) (hr : Kd.C k77 w A l.length l) (hc : l.length ≤ c) (hf : Fine l) (hrc : Kd.C k77 w Ac ch.length ch) (hcl : ch.length ≤ 100000) (hll : l.length ≤ 100000) (hrs : Kd.string.C w As ss.length ss) (hsl : ss.length ≤ 1000000) (ho : ordL l 1 = true) (h1 : i ≤ l.length) (h2 : n ≤ l.length - i) (h3 : (ss.length : Int) = mx 0 ((ch.length : Int) - 1)) :
    Calls Try.prog 35 #[.slice A l.length c, .int .i64 i, .int .i64 n, .slice Ac ch.length cc, .slice As ss.length cs] w fun e w' => ∃ v, e = .returned (.tuple #[v, .int .i64 0]) ∧ Ow w' w.heap.size v (replF l ch ss i n) ∧ Below w.heap.size w w' := by
  have HOR := Aside0.mk (fun (W : World) (hb : Below w.heap.size w W) => ((ordered_c l A c 1 W (Kd.C_below hr hb) hf.1).mono (fun e w' h => ⟨by have := h.1; rw [ho] at this; exact this, h.2⟩) : Calls Try.prog 21 #[.slice A l.length c, .int .i64 1] W fun e w' => e = .returned (.bool true) ∧ Below W.heap.size W w'))
  have HCL := Aside0.mk (fun (W : World) (hb : Below w.heap.size w W) => clone_c ch Ac cc W (Kd.C_below hrc hb) (by omega))
  have hB0 := Aside0.mk (below_alloc (Below.refl w.heap.size w) (.cells #[.int .i64 0] 28))
  have hE0 := Aside0.mk (blk_new w (.cells #[.int .i64 0] 28))
  have hle : (l.length : Int) ≤ 100000 := by omega
  have hcl2 : (ch.length : Int) ≤ 100000 := by omega
  have hsl2 : (ss.length : Int) ≤ 1000000 := by omega
  have hin : (i : Int) ≤ 100000 := by omega
  have hnn : (n : Int) ≤ 100000 := by omega
  have hni : (n : Int) ≤ (l.length : Int) - (i : Int) := by omega
  have d0 : decide ((i : Int) ≥ 0) = true := decide_eq_true (by omega)
  have e0 : decide (0 ≤ (i : Int)) = true := decide_eq_true (by omega)
  have d1 : decide ((i : Int) ≤ (l.length : Int)) = true := decide_eq_true (by omega)
  have e1 : decide (i ≤ l.length) = true := decide_eq_true h1
  have d2 : decide ((n : Int) ≥ 0) = true := decide_eq_true (by omega)
  have e2 : decide (0 ≤ (n : Int)) = true := decide_eq_true (by omega)
  have d3 : decide ((n : Int) ≤ (l.length : Int) - (i : Int)) = true := decide_eq_true (by omega)
  have d5 : ((ss.length : Int) == mx 0 ((ch.length : Int) - 1)) = true := by rw [h3]; exact beq_self_eq_true _
  have hssl : ch.length ≤ ss.length + 1 := by
    unfold mx at h3; split at h3 <;> omega
  have HSSL := Aside0.mk hssl
  have H1 := Aside0.mk h1
  have H2 := Aside0.mk h2
  have HLL := Aside0.mk hll
  have HCH := Aside0.mk hcl
  have HR := Aside0.mk (fun (W : World) (hb : Below w.heap.size w W) => Kd.C_below hr hb)
  have HRS := Aside0.mk (fun (W : World) (hb : Below w.heap.size w W) => Kd.C_below hrs hb)
  have HC := Aside0.mk hc
  have HPL := Aside0.mk (putS_length l ch ss i n)
  have HPG := Aside0.mk (putS_get l ch ss i n)
  have HPS := Aside0.mk (putS_succ l ch ss i n)
  have HPA := Aside0.mk (putS_all l ch ss i n)
  clear hr hf hrc hcl hll hrs hsl ho h1 h2 h3 hc hssl
  go_enter_defers Try.func35, Try.ntmps35
  go_wp2_with (first
    | (go_at_call 21; refine (HOR.out _ hB0.out).mono ?_; rintro e w2 ⟨rfl, hb⟩; have HB2 := Aside0.mk (hB0.out.trans (hb.mono hB0.out.size)); have HE2 := Aside0.mk (blk_below hE0.out hb); clear hb)
    | (go_at_call 67; (with_reducible refine (must_yes 2 _).mono ?_); rintro e w3 ⟨rfl, rfl⟩)
    | (go_at_call 67; (with_reducible refine (must_yes 1 _).mono ?_); rintro e w3 ⟨rfl, rfl⟩)
    | (go_at_call 68; refine (HCL.out _ HB2.out).mono ?_; rintro e w4 ⟨v, rfl, ho, hb⟩; obtain ⟨Av, cv, rfl⟩ := Kd.R_slice ho; have HO4 := Aside0.mk (Kd.R_lower ho HB2.out.size); have HB4 := Aside0.mk (HB2.out.trans (hb.mono HB2.out.size)); have HE4 := Aside0.mk (blk_below HE2.out hb); clear ho hb))
  have hp0 : putS l ch ss i n 0 = ch := by simp [putS]
  have HO0 := Aside0.mk (show Ow w4 w.heap.size (.slice Av ch.length cv) (putS l ch ss i n 0) from by rw [hp0]; exact HO4.out)
  clear hp0
  go_loopw [51] (fun iv wr => ∃ k : Nat, k ≤ ch.length ∧ iv = .int .i64 k ∧ Aside0 (Ow wr w.heap.size (.slice Av ch.length cv) (putS l ch ss i n k)) ∧ Aside0 (Below w.heap.size w wr) ∧ Aside0 (wr.heap[w.heap.size]? = some (.cells #[.int .i64 0] 28 (0, 0)))) (fun iv _ => ch.length - (intOf iv).toNat)
  case atStart => exact ⟨0, Nat.zero_le _, rfl, HO0, HB4, HE4⟩
  case round =>
    obtain ⟨k, hk, rfl, HOk, HBk, HEk⟩ := hrel
    by_cases hlt : k < ch.length
    · obtain ⟨g, c2, hv, hg1, hg2⟩ := ow_addr HOk.out (by rw [HPL.out k hk]; omega)
      rw [HPL.out k hk] at hv
      obtain ⟨rfl, rfl⟩ : Av = some ⟨g, 0, none⟩ ∧ cv = c2 := by injection hv with h1 _ h3; exact ⟨h1, h3⟩
      have HG1 := Aside0.mk hg1
      have HSTEP := Aside0.mk (fun (s : ByteArray) (hs : putAt l ch ss i n k = setKey (ch.getD k z77) s) => (show wr.cell? ⟨g, k * 22, none⟩ = some (.string (ch.getD k z77).f0) ∧ wr.frozen? ⟨g, k * 22, none⟩ = false ∧ Ow (wr.setCell ⟨g, k * 22, none⟩ (.string s)) w.heap.size (.slice (some ⟨g, 0, none⟩) ch.length cv) (putS l ch ss i n (k + 1)) by
        have h := ow_key HOk.out k hlt s
        rw [HPG.out k hlt] at h
        rw [HPS.out k hlt, hs]
        exact h))
      have HEF := Aside0.mk (fun (s : ByteArray) => blk_far HEk.out (p := ⟨g, k * 22, none⟩) (show w.heap.size ≠ g by obtain ⟨cells, hcs⟩ := Kd.R_typed HOk.out g (by simp [Value.ownBlock]); exact blk_ne HEk.out hcs (by decide)) (.string s))
      have HBF := Aside0.mk (fun (s : ByteArray) => HBk.out.setCell (p := ⟨g, k * 22, none⟩) hg1 (.string s))
      have hkw : wrap64 ((k : Int) + 1) = (k : Int) + 1 := w64 _ (by omega) (by omega)
      have hki : (k : Int) < (ch.length : Int) := by omega
      have hk0 : (0 : Int) ≤ (k : Int) := by omega
      clear hv hg1 hg2
      by_cases hkp : 0 < k
      · obtain ⟨p, hp⟩ : ∃ p, k = p + 1 := ⟨k - 1, by omega⟩
        have hps : p < ss.length := by have := HSSL.out; omega
        obtain ⟨ad, rfl, hcs⟩ := Kd.at_string (HRS.out wr HBk.out) (p : Int) (by omega) (by omega)
        simp only [Int.toNat_natCast] at hcs
        have hst := HSTEP.out (ss.getD p ByteArray.empty) (by unfold putAt; rw [if_pos hkp, show k - 1 = p by omega])
        have hcs2 : wr.cell? (ad.add p) = some (.string (ss.getD p ByteArray.empty)) := hcs
        generalize ss.getD p ByteArray.empty = s at hst hcs2
        obtain ⟨hs1, hs2, hs3⟩ := hst
        have HS3 := Aside0.mk hs3
        have HEF2 := Aside0.mk (HEF.out s)
        have HBF2 := Aside0.mk (HBF.out s)
        have m1 : decide ((k : Int) > 0) = true := decide_eq_true (by omega)
        have m2 : decide (0 < (k : Int)) = true := decide_eq_true (by omega)
        have m3 : decide (0 < k) = true := decide_eq_true hkp
        have w1 : wrap64 ((k : Int) - 1) = (p : Int) := by rw [w64 _ (by omega) (by omega)]; omega
        have w0 : (k : Int) - 1 = (p : Int) := by omega
        have w2 : (p : Int) < (ss.length : Int) := by omega
        have w3 : (0 : Int) ≤ (p : Int) := by omega
        clear hs3 hcs hp hkp HSTEP HEF HBF hps HOk HEk
        go_wp2_with fail
        go_roundw
        case rel => exact ⟨k + 1, by omega, by simp, HS3, HBF2, HEF2⟩
        case measure => simp [intOf]; omega
      · obtain rfl : k = 0 := by omega
        have m1 : decide (((0 : Nat) : Int) > 0) = false := decide_eq_false (by omega)
        have m2 : decide (0 < ((0 : Nat) : Int)) = false := decide_eq_false (by omega)
        simp only [Nat.zero_mul] at HSTEP HEF HBF
        by_cases hn0 : 0 < n
        · have hil : i < l.length := by have := H2.out; omega
          obtain ⟨ad, rfl, _⟩ := elem_at (HR.out wr HBk.out) i hil
          have hpk := prev_key (HR.out wr HBk.out) i hil
          have hst := HSTEP.out (l.getD i z77).f0 (by unfold putAt; rw [if_neg (by omega), if_pos hn0])
          generalize (l.getD i z77).f0 = s at hst hpk
          obtain ⟨hs1, hs2, hs3⟩ := hst
          have HS3 := Aside0.mk hs3
          have HEF2 := Aside0.mk (HEF.out s)
          have HBF2 := Aside0.mk (HBF.out s)
          have n1 : decide ((n : Int) > 0) = true := decide_eq_true (by omega)
          have n2 : decide (0 < (n : Int)) = true := decide_eq_true (by omega)
          have n3 : decide (0 < n) = true := decide_eq_true hn0
          have w2 : (i : Int) < (l.length : Int) := by omega
          have w3 : (0 : Int) ≤ (i : Int) := by omega
          have w4 : 0 < ch.length := hlt
          clear hs3 hn0 HSTEP HEF HBF hil HOk HEk hkp
          go_wp2_with fail
          go_roundw
          case rel => exact ⟨1, by omega, by simp, HS3, HBF2, HEF2⟩
          case measure => simp [intOf]; omega
        · have n1 : decide ((n : Int) > 0) = false := decide_eq_false (by omega)
          have n2 : decide (0 < (n : Int)) = false := decide_eq_false (by omega)
          have n3 : decide (0 < n) = false := decide_eq_false hn0
          by_cases hi0 : i = 0
          · have hst := HSTEP.out ⟨#[]⟩ (by unfold putAt; rw [if_neg (by omega), if_neg hn0, if_pos hi0])
            obtain ⟨hs1, hs2, hs3⟩ := hst
            have HS3 := Aside0.mk hs3
            have HEF2 := Aside0.mk (HEF.out ⟨#[]⟩)
            have HBF2 := Aside0.mk (HBF.out ⟨#[]⟩)
            have i1 : ((i : Int) == 0) = true := by rw [hi0]; rfl
            have w4 : 0 < ch.length := hlt
            clear hs3 hn0 HSTEP HEF HBF HOk HEk hkp hi0
            go_wp2_with fail
            go_roundw
            case rel => exact ⟨1, by omega, by simp, HS3, HBF2, HEF2⟩
            case measure => simp [intOf]; omega
          · have i1 : ((i : Int) == 0) = false := beq_eq_false_iff_ne.mpr (by omega)
            have HS3 := Aside0.mk (show Ow wr w.heap.size (.slice (some ⟨g, 0, none⟩) ch.length cv) (putS l ch ss i n 1) by
              rw [HPS.out 0 hlt, show putAt l ch ss i n 0 = (putS l ch ss i n 0).getD 0 z77 by rw [HPG.out 0 hlt]; unfold putAt; rw [if_neg (by omega), if_neg hn0, if_neg hi0], set_self]
              exact HOk.out)
            clear hn0 HSTEP HEF HBF hkp hi0 HOk
            go_wp2_with fail
            go_roundw
            case rel => exact ⟨1, by omega, by simp, HS3, HBk, HEk⟩
            case measure => simp [intOf]; omega
    · obtain rfl : k = ch.length := by omega
      have HOP := Aside0.mk HOk.out
      rw [HPA.out] at HOP
      clear HOk hlt hk
      go_wp2_with fail
      obtain ⟨i77, hi77, hsz⟩ := info77'
      have hcu1 := cut_to (P := Try.prog) 22 77 .i64 Try.underlying22 hi77 A l.length c (i : Int) (by omega) (by have := H1.out; omega) HC.out
      simp only [Int.toNat_natCast] at hcu1
      have hcu2 := cut_from (P := Try.prog) 22 77 .i64 Try.underlying22 hi77 22 hsz A l.length c ((i : Int) + (n : Int)) (by omega) (by omega)
      rw [show ((i : Int) + (n : Int)).toNat = i + n by omega] at hcu2
      have HCT := Aside0.mk (fun (W : World) (hb : Below w.heap.size w W) => C_take (HR.out W hb) H1.out)
      have HCD := Aside0.mk (fun (W : World) (hb : Below w.heap.size w W) => C_drop (HR.out W hb) (show i + n ≤ l.length by have := H1.out; have := H2.out; omega) HC.out)
      have hdl : (l.drop (i + n)).length = l.length - (i + n) := by simp
      have htl : (l.take i).length = i := by rw [List.length_take]; have := H1.out; omega
      rw [← hdl] at HCD hcu2
      generalize (if c = i + n then A else A.map (·.add ((i + n) * 22))) = A2 at HCD hcu2
      generalize hm2 : (l.drop (i + n)).length = m2 at HCD hcu2
      generalize hc2 : c - (i + n) = c2 at hcu2
      have HROW := Aside0.mk (fun (W : World) (hb : Below w.heap.size w W) (ho : Ow W w.heap.size (.slice Av ch.length cv) (putL l ch ss i n)) => (show ∀ (j : Nat) (x : List S77), [l.take i, putL l ch ss i n, l.drop (i + n)][j]? = some x → ∃ (A0 : Option Addr) (c0 : Nat), [Value.slice A i c, Value.slice Av ch.length cv, Value.slice A2 m2 c2][j]? = some (Value.slice A0 x.length c0) ∧ x.length ≤ c0 ∧ Kd.C k77 W A0 x.length x by
        intro j x hx
        match j, hx with
        | 0, hx =>
          simp only [List.getElem?_cons_zero, Option.some.injEq] at hx
          subst hx
          exact ⟨A, c, by rw [htl]; rfl, by rw [htl]; have := H1.out; have := HC.out; omega, by rw [htl]; exact HCT.out W hb⟩
        | 1, hx =>
          simp only [List.getElem?_cons_succ, List.getElem?_cons_zero, Option.some.injEq] at hx
          subst hx
          have h := Kd.R_reads' ho
          exact ⟨Av, cv, by rw [← h.1]; rfl, by rw [← h.1]; exact h.2.1, h.2.2⟩
        | 2, hx =>
          simp only [List.getElem?_cons_succ, List.getElem?_cons_zero, Option.some.injEq] at hx
          subst hx
          exact ⟨A2, c2, by rw [hm2]; rfl, by rw [hdl, ← hc2]; have := HC.out; omega, by rw [hm2]; exact HCD.out W hb⟩
        | j + 3, hx => simp at hx))
      have HLS := Aside0.mk (show ∀ x ∈ [l.take i, putL l ch ss i n, l.drop (i + n)], x.length ≤ 100000 by
        intro x hx
        have h1 := HLL.out
        have h2 := HCH.out
        simp only [List.mem_cons, List.not_mem_nil, or_false] at hx
        rcases hx with rfl | rfl | rfl
        · rw [htl]; omega
        · rw [putL_length]; exact h2
        · rw [hdl]; omega)
      have HFL := Aside0.mk (show [l.take i, putL l ch ss i n, l.drop (i + n)].flatten = replL l ch ss i n by simp [replL])
      have hsum : IntKind.i64.wrap ((i : Int) + (n : Int)) = (i : Int) + (n : Int) := i64w _ (by omega) (by omega)
      have hsum2 : wrap64 ((i : Int) + (n : Int)) = (i : Int) + (n : Int) := w64 _ (by omega) (by omega)
      clear hi77 hsz htl hdl hm2 hc2
      refine wp_region_noPanic ?_
      refine start_ (n := 12) (S := fun _ => True) (ds := []) #[false, false, false, false, false, false, false, false, false, false, false, false] (by kernel_rfl) rfl rfl (trivial) (fun hHeld => ?_)
      refine with_tabW rg35_15_tab rg35_15_bits (fun HT_ HW_ => ?_)
      have GE := Aside0.mk (blk_drew HEk.out)
      have GB := Aside0.mk (below_drew1 HBk.out)
      have GP := Aside0.mk (Kd.R_drew HOP.out)
      clear HEk HBk HOP
      have HCC := Aside0.mk (concat_c [l.take i, putL l ch ss i n, l.drop (i + n)] (some ⟨wr.drew.heap.size, 0, none⟩) 3 (wr.drew.alloc (.cells [.slice A i c, .slice Av ch.length cv, .slice A2 m2 c2].toArray 22)) (C_rows _ (blk_new wr.drew _) (by simp) (HROW.out (wr.drew.alloc (.cells [.slice A i c, .slice Av ch.length cv, .slice A2 m2 c2].toArray 22)) (GB.out.trans ((below_alloc (Below.refl _ _) _).mono GB.out.size)) (Kd.R_alloc GP.out _))) (by simp) HLS.out)
      generalize wr.drew = w5 at GE GB GP HCC hHeld ⊢
      refine pure_ (i := 0) (N := some 86) (v := ?_) (a' := ?_) #[true, false, false, false, false, false, false, false, false, false, false, false] rfl rfl (any_of HT_.out (by kernel_rfl)) (fun _ _ _ h => h) (Or.inl ⟨by rfl, ?_⟩) ?_ ?_
      rotate_left
      · intro w'
        go_simp
        with_reducible rfl
      rotate_left
      · simp only [Act.put, List.setIfInBounds_toArray, List.set_cons_zero, List.set_cons_succ, i64_w, i32_w]
        rfl
      refine pure_ (i := 1) (N := some 87) (v := ?_) (a' := ?_) #[true, true, false, false, false, false, false, false, false, false, false, false] rfl rfl (any_of HT_.out (by kernel_rfl)) (fun _ _ _ h => h) (Or.inl ⟨by rfl, ?_⟩) ?_ ?_
      rotate_left
      · intro w'
        go_simp
        with_reducible rfl
      rotate_left
      · simp only [Act.put, List.setIfInBounds_toArray, List.set_cons_zero, List.set_cons_succ, i64_w, i32_w]
        rfl
      refine pure_ (i := 2) (N := some 88) (v := ?_) (a' := ?_) #[true, true, true, false, false, false, false, false, false, false, false, false] rfl rfl (any_of HT_.out (by kernel_rfl)) (fun _ _ _ h => h) (Or.inl ⟨by rfl, ?_⟩) ?_ ?_
      rotate_left
      · intro w'
        go_simp
        with_reducible rfl
      rotate_left
      · simp only [Act.put, List.setIfInBounds_toArray, List.set_cons_zero, List.set_cons_succ, i64_w, i32_w]
        rfl
      refine pure_ (i := 3) (N := some 89) (v := ?_) (a' := ?_) #[true, true, true, true, false, false, false, false, false, false, false, false] rfl rfl (any_of HT_.out (by kernel_rfl)) (fun _ _ _ h => h) (Or.inl ⟨by rfl, ?_⟩) ?_ ?_
      rotate_left
      · intro w'
        go_simp
        with_reducible rfl
      rotate_left
      · simp only [Act.put, List.setIfInBounds_toArray, List.set_cons_zero, List.set_cons_succ, i64_w, i32_w]
        rfl
      refine pure_ (i := 4) (N := some 90) (v := ?_) (a' := ?_) #[true, true, true, true, true, false, false, false, false, false, false, false] rfl rfl (any_of HT_.out (by kernel_rfl)) (fun _ _ _ h => h) (Or.inl ⟨by rfl, ?_⟩) ?_ ?_
      rotate_left
      · intro w'
        go_simp
        with_reducible rfl
      rotate_left
      · simp only [Act.put, List.setIfInBounds_toArray, List.set_cons_zero, List.set_cons_succ, i64_w, i32_w]
        rfl
      refine pure_ (i := 5) (N := some 91) (v := ?_) (a' := ?_) #[true, true, true, true, true, true, false, false, false, false, false, false] rfl rfl (any_of HT_.out (by kernel_rfl)) (fun _ _ _ h => h) (Or.inl ⟨by rfl, ?_⟩) ?_ ?_
      rotate_left
      · intro w'
        go_simp
        with_reducible rfl
      rotate_left
      · simp only [Act.put, List.setIfInBounds_toArray, List.set_cons_zero, List.set_cons_succ, i64_w, i32_w]
        rfl
      refine pure_ (i := 6) (N := some 92) (v := ?_) (a' := ?_) #[true, true, true, true, true, true, true, false, false, false, false, false] rfl rfl (any_of HT_.out (by kernel_rfl)) (fun _ _ _ h => h) (Or.inl ⟨by rfl, ?_⟩) ?_ ?_
      rotate_left
      · intro w'
        go_simp
        with_reducible rfl
      rotate_left
      · simp only [Act.put, List.setIfInBounds_toArray, List.set_cons_zero, List.set_cons_succ, i64_w, i32_w]
        rfl
      refine pure_ (i := 7) (N := some 93) (v := ?_) (a' := ?_) #[true, true, true, true, true, true, true, true, false, false, false, false] rfl rfl (any_of HT_.out (by kernel_rfl)) (fun _ _ _ h => h) (Or.inl ⟨by rfl, ?_⟩) ?_ ?_
      rotate_left
      · intro w'
        go_simp
        with_reducible rfl
      rotate_left
      · simp only [Act.put, List.setIfInBounds_toArray, List.set_cons_zero, List.set_cons_succ, i64_w, i32_w]
        rfl
      refine pure_ (i := 8) (N := some 94) (v := ?_) (a' := ?_) #[true, true, true, true, true, true, true, true, true, false, false, false] rfl rfl (any_of HT_.out (by kernel_rfl)) (fun _ _ _ h => h) (Or.inl ⟨by rfl, ?_⟩) ?_ ?_
      rotate_left
      · intro w'
        go_simp
        with_reducible rfl
      rotate_left
      · simp only [Act.put, List.setIfInBounds_toArray, List.set_cons_zero, List.set_cons_succ, i64_w, i32_w]
        rfl
      refine one_ (i := 9) (N := some 95) #[true, true, true, true, true, true, true, true, true, true, false, false] rfl rfl (one_of HT_.out (by kernel_rfl)) (by decide) (fun K hK => ?_)
      refine value_ (w1 := w5.alloc (.cells [.slice A i c, .slice Av ch.length cv, .slice A2 m2 c2].toArray 22)) (v := .slice (some ⟨w5.heap.size, 0, none⟩) 3 3) (by rfl) rfl (by go_simp; first | done | rfl) ?_
      refine hK.out _ _ trivial (fun hHeld => ?_)
      clear hK K
      refine norm_ (a' := ?_) ?_ ?_
      rotate_left
      · show Act.put _ (some 95) _ = _
        simp only [Act.put, List.setIfInBounds_toArray, List.set_cons_zero, List.set_cons_succ, i64_w, i32_w]
        rfl
      refine one_ (i := 10) (N := some 96) #[true, true, true, true, true, true, true, true, true, true, true, false] rfl rfl (one_of HT_.out (by kernel_rfl)) (by decide) (fun K hK => ?_)
      refine goes_ Try.func69 (by kernel_rfl) rfl #[.slice (some ⟨w5.heap.size, 0, none⟩) 3 3] (by rfl) rfl rfl (by (try simp only [List.map_toArray, List.map_cons, List.map_nil]); first | done | rfl) ?_
      refine (HCC.out).mono ?_
      rintro e w6 ⟨v6, rfl, ho, hb⟩
      refine ⟨_, rfl, ?_⟩
      rw [HFL.out] at ho
      obtain ⟨Ao, no, co, rfl⟩ : ∃ A n c, v6 = Value.slice A n c := by obtain ⟨A, c, h⟩ := Kd.R_slice ho; exact ⟨_, _, _, h⟩
      have hb6 := (below_alloc (Below.refl w5.heap.size w5) (.cells [.slice A i c, .slice Av ch.length cv, .slice A2 m2 c2].toArray 22)).trans (hb.mono (by simp))
      have GO := Aside0.mk (Kd.R_lower ho (show w.heap.size ≤ _ from Nat.le_trans GB.out.size (by simp)))
      have GE2 := Aside0.mk (blk_below GE.out hb6)
      have GB2 := Aside0.mk (GB.out.trans (hb6.mono GB.out.size))
      clear ho hb hb6 GE GB
      refine hK.out _ _ (trivial) (fun hHeld => ?_)
      clear hK K
      refine norm_ (a' := ?_) ?_ ?_
      rotate_left
      · show Act.put _ (some 96) _ = _
        simp only [Act.put, List.setIfInBounds_toArray, List.set_cons_zero, List.set_cons_succ, i64_w, i32_w]
        rfl
      refine pure_ (i := 11) (N := some 10) (v := ?_) (a' := ?_) #[true, true, true, true, true, true, true, true, true, true, true, true] rfl rfl (any_of HT_.out (by kernel_rfl)) (fun _ _ _ h => h) (Or.inl ⟨by rfl, ?_⟩) ?_ ?_
      rotate_left
      · intro w'
        go_simp
        with_reducible rfl
      rotate_left
      · simp only [Act.put, List.setIfInBounds_toArray, List.set_cons_zero, List.set_cons_succ, i64_w, i32_w]
        rfl
      refine done_ (done_of HT_.out (by kernel_rfl)) ?_
      refine NoPanic.normal ?_
      have HNO := Aside0.mk (show no = (replL l ch ss i n).length from (Kd.R_reads' GO.out).1)
      by_cases z0 : i = 0
      · have i1 : ((i : Int) == 0) = true := by rw [z0]; rfl
        by_cases z1 : 0 < n
        · have j1 : decide ((n : Int) > 0) = true := decide_eq_true (by omega)
          have j2 : decide (0 < (n : Int)) = true := decide_eq_true (by omega)
          have j3 : decide (0 < n) = true := decide_eq_true z1
          by_cases z2 : ch.length = 0
          · have l1 : ((ch.length : Int) == 0) = true := by rw [z2]; rfl
            by_cases z3 : 0 < (replL l ch ss i n).length
            · have L9 := z3
              have o1 : decide ((no : Int) > 0) = true := decide_eq_true (by rw [HNO.out]; omega)
              have o2 : decide (0 < (no : Int)) = true := decide_eq_true (by rw [HNO.out]; omega)
              have HRF := Aside0.mk (show replF l ch ss i n = (replL l ch ss i n).set 0 (setKey ((replL l ch ss i n).getD 0 z77) ⟨#[]⟩) by unfold replF; rw [if_pos ⟨z0, z1, z2, z3⟩])
              clear z0 z1 z2 z3
              obtain ⟨go, c9, hv, hg1, hg2⟩ := ow_addr GO.out L9
              obtain ⟨rfl, rfl⟩ : Ao = some ⟨go, 0, none⟩ ∧ co = c9 := by injection hv with h1 _ h3; exact ⟨h1, h3⟩
              have hk := ow_key GO.out 0 (by rw [HNO.out]; exact L9) ⟨#[]⟩
              rw [Nat.zero_mul] at hk
              obtain ⟨hk1, hk2, hk3⟩ := hk
              have HO8 := Aside0.mk hk3
              have HE8 := Aside0.mk (blk_far GE2.out (p := ⟨go, 0, none⟩) (show w.heap.size ≠ go by obtain ⟨cells, hcs⟩ := Kd.R_typed GO.out go (by simp [Value.ownBlock]); exact blk_ne GE2.out hcs (by decide)) (.string ⟨#[]⟩))
              have HB8 := Aside0.mk (GB2.out.setCell (p := ⟨go, 0, none⟩) hg1 (.string ⟨#[]⟩))
              have hne : ¬ go = w.heap.size := by obtain ⟨cells, hcs⟩ := Kd.R_typed GO.out go (by simp [Value.ownBlock]); exact (blk_ne GE2.out hcs (by decide)).symm
              have hne2 : ¬ w.heap.size = go := fun h => hne h.symm
              have y0 : (w6.setCell ⟨go, 0, none⟩ (.string ⟨#[]⟩)).cell? ⟨w.heap.size, 0, none⟩ = some (.int .i64 0) := by rw [blk_cell HE8.out]; rfl
              have y1 := blk_frozen HE8.out 0
              have L8 : 0 < no := by rw [HNO.out]; exact L9
              have L7 : decide (0 < no) = true := decide_eq_true L8
              clear hk3 hv hg1 hg2 GO GE2 GB2 HNO L9
              go_wp2_with fail
              refine leaves_cons (f := 66) (args := #[.pointer (some ⟨w.heap.size, 0, none⟩)]) (by simp) (by simp [go_sem]) ?_
              refine (refused_idle w.heap.size _).mono ?_
              rintro e u' w'' ⟨rfl, rfl, rfl⟩
              have hb9 := HB8.out.setCell (p := ⟨w.heap.size, 0, none⟩) (Nat.le_refl _) (.int .i64 0)
              have he9 := blk_put HE8.out 0 (.int .i64 0) rfl
              have ho9 := Kd.R_drop (Kd.R_far (Kd.R_types HO8.out HE8.out (rows_only (by decide))) (fun k hk => hk.2) (p := ⟨w.heap.size, 0, none⟩) (.int .i64 0))
              have c9 : ((w6.setCell ⟨go, 0, none⟩ (.string ⟨#[]⟩)).setCell ⟨w.heap.size, 0, none⟩ (.int .i64 0)).cell? ⟨w.heap.size, 0, none⟩ = some (.int .i64 0) := by rw [blk_cell he9]; rfl
              generalize (w6.setCell ⟨go, 0, none⟩ (.string ⟨#[]⟩)).setCell ⟨w.heap.size, 0, none⟩ (.int .i64 0) = w9 at hb9 ho9 c9 ⊢
              simp [Leaves, settle, results, Try.results35, go_sem, c9]
              exact ⟨by rw [HRF.out]; exact ho9, hb9⟩
            · have o1 : decide ((no : Int) > 0) = false := decide_eq_false (by rw [HNO.out]; omega)
              have o2 : decide (0 < (no : Int)) = false := decide_eq_false (by rw [HNO.out]; omega)
              have o3 : decide (0 < no) = false := decide_eq_false (by rw [HNO.out]; exact z3)
              have HRF := Aside0.mk (show replF l ch ss i n = replL l ch ss i n by unfold replF; rw [if_neg (by rintro ⟨h1, h2, h3, h4⟩; exact z3 h4)])
              clear z0 z1 z2 z3
              have HO8 := GO
              have HE8 := GE2
              have HB8 := GB2
              have y0 : w6.cell? ⟨w.heap.size, 0, none⟩ = some (.int .i64 0) := by rw [blk_cell HE8.out]; rfl
              have y1 := blk_frozen HE8.out 0
              clear GO GE2 GB2
              go_wp2_with fail
              refine leaves_cons (f := 66) (args := #[.pointer (some ⟨w.heap.size, 0, none⟩)]) (by simp) (by simp [go_sem]) ?_
              refine (refused_idle w.heap.size _).mono ?_
              rintro e u' w'' ⟨rfl, rfl, rfl⟩
              have hb9 := HB8.out.setCell (p := ⟨w.heap.size, 0, none⟩) (Nat.le_refl _) (.int .i64 0)
              have he9 := blk_put HE8.out 0 (.int .i64 0) rfl
              have ho9 := Kd.R_drop (Kd.R_far (Kd.R_types HO8.out HE8.out (rows_only (by decide))) (fun k hk => hk.2) (p := ⟨w.heap.size, 0, none⟩) (.int .i64 0))
              have c9 : (w6.setCell ⟨w.heap.size, 0, none⟩ (.int .i64 0)).cell? ⟨w.heap.size, 0, none⟩ = some (.int .i64 0) := by rw [blk_cell he9]; rfl
              generalize w6.setCell ⟨w.heap.size, 0, none⟩ (.int .i64 0) = w9 at hb9 ho9 c9 ⊢
              simp [Leaves, settle, results, Try.results35, go_sem, c9]
              exact ⟨by rw [HRF.out]; exact ho9, hb9⟩
          · have l1 : ((ch.length : Int) == 0) = false := beq_eq_false_iff_ne.mpr (by omega)
            have HRF := Aside0.mk (show replF l ch ss i n = replL l ch ss i n by unfold replF; rw [if_neg (by rintro ⟨h1, h2, h3, h4⟩; exact z2 h3)])
            clear z0 z1 z2
            have HO8 := GO
            have HE8 := GE2
            have HB8 := GB2
            have y0 : w6.cell? ⟨w.heap.size, 0, none⟩ = some (.int .i64 0) := by rw [blk_cell HE8.out]; rfl
            have y1 := blk_frozen HE8.out 0
            clear GO GE2 GB2
            go_wp2_with fail
            refine leaves_cons (f := 66) (args := #[.pointer (some ⟨w.heap.size, 0, none⟩)]) (by simp) (by simp [go_sem]) ?_
            refine (refused_idle w.heap.size _).mono ?_
            rintro e u' w'' ⟨rfl, rfl, rfl⟩
            have hb9 := HB8.out.setCell (p := ⟨w.heap.size, 0, none⟩) (Nat.le_refl _) (.int .i64 0)
            have he9 := blk_put HE8.out 0 (.int .i64 0) rfl
            have ho9 := Kd.R_drop (Kd.R_far (Kd.R_types HO8.out HE8.out (rows_only (by decide))) (fun k hk => hk.2) (p := ⟨w.heap.size, 0, none⟩) (.int .i64 0))
            have c9 : (w6.setCell ⟨w.heap.size, 0, none⟩ (.int .i64 0)).cell? ⟨w.heap.size, 0, none⟩ = some (.int .i64 0) := by rw [blk_cell he9]; rfl
            generalize w6.setCell ⟨w.heap.size, 0, none⟩ (.int .i64 0) = w9 at hb9 ho9 c9 ⊢
            simp [Leaves, settle, results, Try.results35, go_sem, c9]
            exact ⟨by rw [HRF.out]; exact ho9, hb9⟩
        · have j1 : decide ((n : Int) > 0) = false := decide_eq_false (by omega)
          have j2 : decide (0 < (n : Int)) = false := decide_eq_false (by omega)
          have j3 : decide (0 < n) = false := decide_eq_false z1
          have HRF := Aside0.mk (show replF l ch ss i n = replL l ch ss i n by unfold replF; rw [if_neg (by rintro ⟨h1, h2, h3, h4⟩; exact z1 h2)])
          clear z0 z1
          have HO8 := GO
          have HE8 := GE2
          have HB8 := GB2
          have y0 : w6.cell? ⟨w.heap.size, 0, none⟩ = some (.int .i64 0) := by rw [blk_cell HE8.out]; rfl
          have y1 := blk_frozen HE8.out 0
          clear GO GE2 GB2
          go_wp2_with fail
          refine leaves_cons (f := 66) (args := #[.pointer (some ⟨w.heap.size, 0, none⟩)]) (by simp) (by simp [go_sem]) ?_
          refine (refused_idle w.heap.size _).mono ?_
          rintro e u' w'' ⟨rfl, rfl, rfl⟩
          have hb9 := HB8.out.setCell (p := ⟨w.heap.size, 0, none⟩) (Nat.le_refl _) (.int .i64 0)
          have he9 := blk_put HE8.out 0 (.int .i64 0) rfl
          have ho9 := Kd.R_drop (Kd.R_far (Kd.R_types HO8.out HE8.out (rows_only (by decide))) (fun k hk => hk.2) (p := ⟨w.heap.size, 0, none⟩) (.int .i64 0))
          have c9 : (w6.setCell ⟨w.heap.size, 0, none⟩ (.int .i64 0)).cell? ⟨w.heap.size, 0, none⟩ = some (.int .i64 0) := by rw [blk_cell he9]; rfl
          generalize w6.setCell ⟨w.heap.size, 0, none⟩ (.int .i64 0) = w9 at hb9 ho9 c9 ⊢
          simp [Leaves, settle, results, Try.results35, go_sem, c9]
          exact ⟨by rw [HRF.out]; exact ho9, hb9⟩
      · have i1 : ((i : Int) == 0) = false := beq_eq_false_iff_ne.mpr (by omega)
        have HRF := Aside0.mk (show replF l ch ss i n = replL l ch ss i n by unfold replF; rw [if_neg (by rintro ⟨h1, h2, h3, h4⟩; exact z0 h1)])
        clear z0
        have HO8 := GO
        have HE8 := GE2
        have HB8 := GB2
        have y0 : w6.cell? ⟨w.heap.size, 0, none⟩ = some (.int .i64 0) := by rw [blk_cell HE8.out]; rfl
        have y1 := blk_frozen HE8.out 0
        clear GO GE2 GB2
        go_wp2_with fail
        refine leaves_cons (f := 66) (args := #[.pointer (some ⟨w.heap.size, 0, none⟩)]) (by simp) (by simp [go_sem]) ?_
        refine (refused_idle w.heap.size _).mono ?_
        rintro e u' w'' ⟨rfl, rfl, rfl⟩
        have hb9 := HB8.out.setCell (p := ⟨w.heap.size, 0, none⟩) (Nat.le_refl _) (.int .i64 0)
        have he9 := blk_put HE8.out 0 (.int .i64 0) rfl
        have ho9 := Kd.R_drop (Kd.R_far (Kd.R_types HO8.out HE8.out (rows_only (by decide))) (fun k hk => hk.2) (p := ⟨w.heap.size, 0, none⟩) (.int .i64 0))
        have c9 : (w6.setCell ⟨w.heap.size, 0, none⟩ (.int .i64 0)).cell? ⟨w.heap.size, 0, none⟩ = some (.int .i64 0) := by rw [blk_cell he9]; rfl
        generalize w6.setCell ⟨w.heap.size, 0, none⟩ (.int .i64 0) = w9 at hb9 ho9 c9 ⊢
        simp [Leaves, settle, results, Try.results35, go_sem, c9]
        exact ⟨by rw [HRF.out]; exact ho9, hb9⟩
end Go.Proofs.Ytalncokpbgbccaa.E

/- Replace, for all arguments. -/
namespace Go.Proofs.Ytalncokpbgbccaa.E
set_option linter.unusedVariables false
set_option linter.unusedSimpArgs false
open Go.RowKit Go.Proofs.YtalncokpbgbccaaW.PrintWords Go.Proofs.YtalncokpbgbccaaW.PrintLast Go.Proofs.YtalncokpbgbccaaW.PrintMore

instance (l ch : List S77) (ss : List ByteArray) (i n : Int) : Decidable (replOk l ch ss i n) := by unfold replOk; infer_instance
/-- what Replace answers -/
def replR (l ch : List S77) (ss : List ByteArray) (i n : Int) : List S77 × Int :=
  if ordL l 1 = true then (if replOk l ch ss i n then (replF l ch ss i.toNat n.toNat, 0) else ([], 1)) else ([], 2)
theorem replace_c (l ch : List S77) (ss : List ByteArray) (A Ac As : Option Addr) (c cc cs : Nat) (i n : Int) (w : World) (hr : Kd.C k77 w A l.length l) (hc : l.length ≤ c) (hf : Fine l) (hrc : Kd.C k77 w Ac ch.length ch) (hcl : ch.length ≤ 100000) (hll : l.length ≤ 100000) (hrs : Kd.string.C w As ss.length ss) (hsl : ss.length ≤ 1000000) :
    Calls Try.prog 35 #[.slice A l.length c, .int .i64 i, .int .i64 n, .slice Ac ch.length cc, .slice As ss.length cs] w fun e w' => ∃ v, e = .returned (.tuple #[v, .int .i64 (replR l ch ss i n).2]) ∧ Ow w' w.heap.size v (replR l ch ss i n).1 ∧ Below w.heap.size w w' := by
  cases ho : ordL l 1 with
  | false =>
    rw [show replR l ch ss i n = ([], 2) by simp [replR, ho]]
    refine (replace_bad l ch ss A Ac As c cc cs i n w hr hf (by omega) hsl ho).mono ?_
    rintro e w' ⟨rfl, hb⟩
    exact ⟨_, rfl, Kd.R_nil _ _ _ _ _, hb⟩
  | true =>
    by_cases hk : replOk l ch ss i n
    · rw [show replR l ch ss i n = (replF l ch ss i.toNat n.toNat, 0) by simp [replR, ho, hk]]
      obtain ⟨h0, h1, h2, h3, h4⟩ := hk
      obtain ⟨i, rfl⟩ := Int.eq_ofNat_of_zero_le h0
      obtain ⟨n, rfl⟩ := Int.eq_ofNat_of_zero_le h2
      simp only [Int.toNat_natCast]
      exact replace_ok l ch ss A Ac As c cc cs i n w hr hc hf hrc hcl hll hrs hsl ho (by omega) (by omega) h4
    · rw [show replR l ch ss i n = ([], 1) by simp [replR, ho, hk]]
      refine (replace_arg l ch ss A Ac As c cc cs i n w hr hf (by omega) hsl ho hk).mono ?_
      rintro e w' ⟨rfl, hb⟩
      exact ⟨_, rfl, Kd.R_nil _ _ _ _ _, hb⟩
end Go.Proofs.Ytalncokpbgbccaa.E

-- Printed by this session's wip/tools/oracle.py, which runs the kit's print program; Lean checks it.
namespace Go.Proofs.Ytalncokpbgbccaa.E
open Go.RowKit Go.Proofs.YtalncokpbgbccaaW.PrintWords Go.Proofs.YtalncokpbgbccaaW.PrintLast Go.Proofs.YtalncokpbgbccaaW.PrintMore
attribute [local go_sem] max2_int min2_int max_two min_two max_three min_three max_four min_four   -- for this text's walks alone
set_option linter.unusedVariables false
set_option linter.unusedSimpArgs false

/-! ### understorylaw06_leaf: function 57 -/
def understorylaw06_leaf.l0 : Nat → ByteArray → List (S77) → Int → Option ((List (S77)))
  | 0, _, _, _ => none
  | k + 1, x0, x3, x4 => if x4 < (x0.size : Int) then (if 0 ≤ x4 then (if x4 ≤ (wrap64 (x4 + 1)) then (if (wrap64 (x4 + 1)) ≤ (x0.size : Int) then (if x3.length < 1759218604441 then (understorylaw06_leaf.l0 k x0 (x3 ++ [(⟨x0.extract (x4 : Int).toNat ((wrap64 (x4 + 1)) : Int).toNat, (⟨#[]⟩ : ByteArray), 0, 0, 0, 0, (⟨0, 0, 0, 0, 0, 0, 0, 0, 0, 0, 0, 0, 0, 0, 0, 0⟩ : S75)⟩ : S77)]) (wrap64 (x4 + 1))) else (none)) else (none)) else (none)) else (none)) else (some x3)
def understorylaw06_leaf.f (k : Nat) (a0 : ByteArray) : Option ((List (S77))) := understorylaw06_leaf.l0 k a0 ([] : List (S77)) 0
theorem understorylaw06_leaf.mono_l : ∀ k, (∀ y0 y1 y2, LeO (understorylaw06_leaf.l0 k y0 y1 y2) (understorylaw06_leaf.l0 (k + 1) y0 y1 y2))
  | 0 => fun _ _ _ r h => by simp [understorylaw06_leaf.l0] at h
  | k + 1 => by
    have ih0 := understorylaw06_leaf.mono_l k
    · intro y0 y1 y2
      unfold understorylaw06_leaf.l0
      repeat' first
      | (with_reducible exact ih0 _ _ _)
      | (with_reducible exact LeO.refl _)
      | (with_reducible exact LeO.none _)
      | (with_reducible refine LeO.ite ?_ ?_)
      | (with_reducible refine LeO.bind ?_ (fun _ => ?_))
      | exact ih0 _ _ _
      | exact LeO.none _
      | refine LeO.ite ?_ ?_
      | refine LeO.bind ?_ (fun _ => ?_)
theorem understorylaw06_leaf.mono : ∀ a0 k, LeO (understorylaw06_leaf.f k a0) (understorylaw06_leaf.f (k + 1) a0) := by
  intro a0 k
  have ih0 := understorylaw06_leaf.mono_l k
  unfold understorylaw06_leaf.f
  repeat' first
      | (with_reducible exact ih0 _ _ _)
      | (with_reducible exact LeO.refl _)
      | (with_reducible exact LeO.none _)
      | (with_reducible refine LeO.ite ?_ ?_)
      | (with_reducible refine LeO.bind ?_ (fun _ => ?_))
      | exact ih0 _ _ _
      | exact LeO.none _
      | refine LeO.ite ?_ ?_
      | refine LeO.bind ?_ (fun _ => ?_)
set_option maxHeartbeats 8000000 in
set_option maxRecDepth 100000 in
theorem understorylaw06_leaf.calls (k : Nat) (a0 : ByteArray) (r : List (S77)) (w : World) (h : understorylaw06_leaf.f k a0 = some r) :
    Calls Try.prog 57 #[.string a0] w fun e w' => ∃ v0_ : Value, e = .returned (v0_) ∧ Kd.R k77 77 w' w.heap.size (fun _ => True) v0_ r ∧ Below w.heap.size w w' := by
  have hu77 := Try.underlying77
  have HB := Aside0.mk (Below.refl w.heap.size w)
  have H : (understorylaw06_leaf.l0 k a0 ([] : List (S77)) 0) = some r := h
  clear h
  have H' := Aside0.mk H
  clear H
  go_enter Try.func57, Try.ntmps57
  go_wp2
  go_loopg [3, 4] k (fun kq v3 v4 w' => ∃ (x3_1 : List (S77)) (x4_1 : Int), v4 = .int .i64 x4_1 ∧ Aside0 (understorylaw06_leaf.l0 kq a0 x3_1 x4_1 = some r) ∧ Aside0 (kq ≤ k) ∧ Aside0 (Kd.R k77 77 w' w.heap.size (fun _ => True) v3 x3_1) ∧ Aside0 (Below w.heap.size w w'))
  case atStart => exact ⟨(([] : List (S77))), (0), (by first | rfl | (simp; done) | (simp [*]; done)), H', ⟨Nat.le_refl _⟩, ⟨by first | exact Kd.R_nil _ _ _ _ _ | exact Kd.N_nil _ _ _ _ _ | exact Kd.V_nil _ _ _ _ _ | exact Kd.Q_nil _ _ _ _ _ | exact Kd.S_nil _ _ _ _ _⟩, ⟨by repeat (first | (with_reducible first | exact HB.out | apply below_alloc | apply pw_below_drewN | apply below_drew1) | exact HB.out)⟩⟩
  case round =>
    clear H'
    obtain ⟨x3_1, x4_1, rfl, HA, HK1, HO_3, HB⟩ := hrel
    cases gk with
    | zero => exact absurd HA.out (by simp [understorylaw06_leaf.l0])
    | succ k1 =>
      have H := HA.out
      clear HA
      simp only [understorylaw06_leaf.l0] at H
      by_cases c2 : x4_1 < (a0.size : Int)
      · rw [if_pos c2] at H
        have c2b0 : decide (x4_1 < (a0.size : Int)) = true := decide_eq_true c2
        clear c2
        by_cases c3 : 0 ≤ x4_1
        · rw [if_pos c3] at H
          have c3b0 := eq_true c3
          have c3b1 : decide (0 ≤ x4_1) = true := decide_eq_true c3
          clear c3
          by_cases c4 : x4_1 ≤ (wrap64 (x4_1 + 1))
          · rw [if_pos c4] at H
            have c4b0 := eq_true c4
            have c4b1 : decide (x4_1 ≤ (wrap64 (x4_1 + 1))) = true := decide_eq_true c4
            by_cases c5 : (wrap64 (x4_1 + 1)) ≤ (a0.size : Int)
            · rw [if_pos c5] at H
              have c5b0 := eq_true c5
              have c5b1 : decide ((wrap64 (x4_1 + 1)) ≤ (a0.size : Int)) = true := decide_eq_true c5
              by_cases c6 : x3_1.length < 1759218604441
              · rw [if_pos c6] at H
                have LMc6 := Aside0.mk c6
                clear c6
                obtain ⟨y173, hy173⟩ : ∃ y_ : List (S77), y_ = (x3_1 ++ [(⟨a0.extract (x4_1 : Int).toNat ((wrap64 (x4_1 + 1)) : Int).toNat, (⟨#[]⟩ : ByteArray), 0, 0, 0, 0, (⟨0, 0, 0, 0, 0, 0, 0, 0, 0, 0, 0, 0, 0, 0, 0, 0⟩ : S75)⟩ : S77)]) := ⟨_, rfl⟩
                replace H : (understorylaw06_leaf.l0 k1 a0 y173 (wrap64 (x4_1 + 1))) = some r := by first | (rw [hy173]; with_reducible exact H) | (have H2_ := (Option.bind_some _ _).symm.trans H; rw [hy173]; with_reducible exact H2_) | (have H2_ := (Option.bind_some _ _).symm.trans H; with_reducible exact H2_) | with_reducible exact H | (rw [hy173]; exact H) | exact H
                have Ny173 := Aside0.mk hy173
                clear hy173
                have H' := Aside0.mk H
                clear H
                go_wp2_with (first | ((with_reducible refine gate_builtin (b := .append) (xs := #[.tmp 11, .tmp 18]) rfl ?_); at_builtin; refine Kd.R_append k77 (w0 := w) w.heap.size rfl (.tmp 11) (.tmp 18) 22 77 (.agg #[(.string ⟨#[]⟩), (.string ⟨#[]⟩), (.int .i64 0), (.int .i64 0), (.int .i64 0), (.int .i64 0), (.int .u8 0), (.int .u8 0), (.int .u8 0), (.int .u8 0), (.int .u8 0), (.int .u8 0), (.int .u8 0), (.int .u8 0), (.int .u8 0), (.int .u8 0), (.int .u8 0), (.int .u8 0), (.int .u8 0), (.int .u8 0), (.int .u8 0), (.int .u8 0)]) 80 rfl Try.underlying22 info77 rfl (by decide) (by omega) u3 x3_1 (⟨a0.extract (x4_1 : Int).toNat ((wrap64 (x4_1 + 1)) : Int).toNat, (⟨#[]⟩ : ByteArray), 0, 0, 0, 0, (⟨0, 0, 0, 0, 0, 0, 0, 0, 0, 0, 0, 0, 0, 0, 0, 0⟩ : S75)⟩ : S77) [.string (a0.extract (x4_1 : Int).toNat ((wrap64 (x4_1 + 1)) : Int).toNat), .string (⟨#[]⟩ : ByteArray), .int .i64 0, .int .i64 0, .int .i64 0, .int .i64 0, .int .u8 0, .int .u8 0, .int .u8 0, .int .u8 0, .int .u8 0, .int .u8 0, .int .u8 0, .int .u8 0, .int .u8 0, .int .u8 0, .int .u8 0, .int .u8 0, .int .u8 0, .int .u8 0, .int .u8 0, .int .u8 0] (fun _ => True) (fun _ => False) rfl rfl ?aP (fun _ hk => hk.elim) ?aF ?aO ?aB ?aS ?aL ?_; (case aP => exact k77_mkM _ _ _ (⟨a0.extract (x4_1 : Int).toNat ((wrap64 (x4_1 + 1)) : Int).toNat, (⟨#[]⟩ : ByteArray), 0, 0, 0, 0, (⟨0, 0, 0, 0, 0, 0, 0, 0, 0, 0, 0, 0, 0, 0, 0, 0⟩ : S75)⟩ : S77)); (case aB => exact (by repeat (first | (with_reducible first | exact HB.out | apply below_alloc | apply pw_below_drewN | apply below_drew1) | exact HB.out))); (case aF => exact (fun _ _ => trivial)); (case aO => exact (by (with_reducible repeat (first | apply Kd.R_alloc | apply Kd.R_drewN | apply Kd.R_drew)); exact HO_3.out)); (case aS => exact (below_size (by repeat (first | (with_reducible first | exact HB.out | apply below_alloc | apply pw_below_drewN | apply below_drew1) | exact HB.out)))); (case aL => have := LMc6.out; omega); intro v174 w7 ho hb hg hat; rw [← Ny173.out] at ho; have n0_ := Aside0.mk (hb); have n1_ := Aside0.mk (ho); clear HB; clear HO_3; have HB := n0_; have HO175 := n1_; clear n0_ n1_; clear ho hb hg hat))
                go_roundg k1
                case measure => have := HK1.out; omega
                case rel => exact ⟨(y173), (wrap64 (x4_1 + 1)), (by first | rfl | (simp; done) | (simp [*]; done)), H', ⟨by have := HK1.out; omega⟩, ⟨by (with_reducible repeat (first | apply Kd.R_alloc | apply Kd.R_drewN | apply Kd.R_drew)); exact HO175.out⟩, ⟨by repeat (first | (with_reducible first | exact HB.out | apply below_alloc | apply pw_below_drewN | apply below_drew1) | exact HB.out)⟩⟩
              · rw [if_neg c6] at H
                exact absurd H (by simp)
            · rw [if_neg c5] at H
              exact absurd H (by simp)
          · rw [if_neg c4] at H
            exact absurd H (by simp)
        · rw [if_neg c3] at H
          exact absurd H (by simp)
      · rw [if_neg c2] at H
        have c2b0 : decide (x4_1 < (a0.size : Int)) = false := decide_eq_false c2
        clear c2
        obtain rfl := Option.some.inj H
        go_wp2
        go_ret
        exact ⟨_, by first | rfl | (simp [errW_none, errW_some] <;> rfl) | (simp [*, errW_none, errW_some] <;> rfl), by (with_reducible repeat (first | apply Kd.R_alloc | apply Kd.R_drewN | apply Kd.R_drew)); exact HO_3.out, by repeat (first | (with_reducible first | exact HB.out | apply below_alloc | apply pw_below_drewN | apply below_drew1) | exact HB.out)⟩

end Go.Proofs.Ytalncokpbgbccaa.E

