-- A slim copy of DP, CB, written by wip/tools/prune2.py.
import Derived.Test.YtalncokpbgbccaaKMj
import Derived.Test.YtalncokpbgbccaaKPG
import Derived.Test.YtalncokpbgbccaaKSP
/- What Pack answers: each part is valid, fits, is not small if there are more; put together again they are the list. -/
namespace Go.Proofs.Ytalncokpbgbccaa.E
set_option linter.unusedVariables false
set_option linter.unusedSimpArgs false
open Go.RowKit Go.Proofs.YtalncokpbgbccaaW.PrintWords Go.Proofs.YtalncokpbgbccaaW.PrintLast Go.Proofs.YtalncokpbgbccaaW.PrintMore
/-- what Pack's parts are -/
structure PartOk (l : List S77) (level : Int) (x : List (List S77) × List ByteArray) (i : Nat) : Prop where
  pack : packable (x.1.getD i []) level = true
  bar : bare level (x.1.getD i []) = x.1.getD i []
  len : 1 ≤ (x.1.getD i []).length
  fits : 6 + wt level (x.1.getD i []) ≤ 496
  big : (2 ≤ x.1.length ∨ 166 ≤ 6 + wt level l) → 166 ≤ 6 + wt level (x.1.getD i [])
  is : x.1.getD i [] = bare level ((l.drop (atP x.1 i)).take (x.1.getD i []).length)
/-- two neighbours with the key between them -/
def combL (a b : List S77) (sep : ByteArray) (level : Int) : List S77 := if level > 0 ∧ 0 < a.length ∧ 0 < b.length then (a ++ b).set a.length (setKey ((a ++ b).getD a.length z77) sep) else a ++ b
end Go.Proofs.Ytalncokpbgbccaa.E

/- Combine: two lists of entries, one behind the other, with the key between them. -/
namespace Go.Proofs.Ytalncokpbgbccaa.E
set_option linter.unusedVariables false
set_option linter.unusedSimpArgs false
open Go.RowKit Go.Proofs.YtalncokpbgbccaaW.PrintWords Go.Proofs.YtalncokpbgbccaaW.PrintLast Go.Proofs.YtalncokpbgbccaaW.PrintMore
set_option maxRecDepth 100000 in
set_option maxHeartbeats 8000000 in
theorem combine_c (a b : List S77) (A B : Option Addr) (c d : Nat) (sep : ByteArray) (level : Int) (w : World) (ha : Kd.C k77 w A a.length a) (hca : a.length ≤ c) (hb : Kd.C k77 w B b.length b) (hcb : b.length ≤ d) (hla : a.length ≤ 100000) (hlb : b.length ≤ 100000) :
    Calls Try.prog 48 #[.slice A a.length c, .slice B b.length d, .string sep, .int .i64 level] w fun e w' => ∃ v, e = .returned v ∧ Ow w' w.heap.size v (combL a b sep level) ∧ Below w.heap.size w w' := by
  obtain ⟨RL, hRL⟩ : ∃ RL, a ++ b = RL := ⟨_, rfl⟩
  have hlr : RL.length = a.length + b.length := by rw [← hRL, List.length_append]
  have HCAT := Aside0.mk (fun (W : World) (g : Nat) (hW : Below w.heap.size w W) (hg : W.heap[g]? = some (.cells #[.slice A a.length c, .slice B b.length d] 22 (0, 0))) => (show Calls Try.prog 69 #[.slice (some ⟨g, 0, none⟩) 2 2] W fun e w2 => ∃ v, e = .returned v ∧ Ow w2 W.heap.size v RL ∧ Below W.heap.size W w2 from by
    have hC : kN.C W (some ⟨g, 0, none⟩) 2 [a, b] := C_rows (cells := [.slice A a.length c, .slice B b.length d]) [a, b] hg (by simp) (by
      intro j x hx
      match j, hx with
      | 0, hx =>
        simp only [List.getElem?_cons_zero, Option.some.injEq] at hx
        subst hx
        exact ⟨A, c, rfl, hca, Kd.C_below ha hW⟩
      | 1, hx =>
        simp only [List.getElem?_cons_succ, List.getElem?_cons_zero, Option.some.injEq] at hx
        subst hx
        exact ⟨B, d, rfl, hcb, Kd.C_below hb hW⟩
      | j + 2, hx => simp at hx)
    have := concat_c [a, b] (some ⟨g, 0, none⟩) 2 W hC (by simp) (by intro x hx; simp at hx; rcases hx with rfl | rfl <;> omega)
    rw [show [a, b].flatten = RL by simp [hRL]] at this
    exact this))
  have HRL := Aside0.mk hRL
  have HLL := Aside0.mk (show a.length ≤ 100000 ∧ b.length ≤ 100000 from ⟨hla, hlb⟩)
  have HLEN := Aside0.mk hlr
  clear ha hca hb hcb hla hlb hRL hlr
  by_cases g0 : level > 0
  · have d11 : decide (level > 0) = true := decide_eq_true (by omega)
    have d12 : decide (0 < level) = true := decide_eq_true (by omega)
    by_cases g1 : 0 < a.length
    · have d13 : decide ((a.length : Int) > 0) = true := decide_eq_true (by omega)
      have d14 : decide (0 < (a.length : Int)) = true := decide_eq_true (by omega)
      have d15 : decide (0 < a.length) = true := decide_eq_true (by omega)
      by_cases g2 : 0 < b.length
      · have d8 : decide ((b.length : Int) > 0) = true := decide_eq_true (by omega)
        have d9 : decide (0 < (b.length : Int)) = true := decide_eq_true (by omega)
        have d10 : decide (0 < b.length) = true := decide_eq_true (by omega)
        have HLR := Aside0.mk (show a.length < RL.length by have := HLEN.out; omega)
        rw [show combL a b sep level = RL.set a.length (setKey (RL.getD a.length z77) sep) from by unfold combL; rw [if_pos ⟨g0, g1, g2⟩, HRL.out]]
        have m1 : (a.length : Int) < (RL.length : Int) := by have := HLR.out; omega
        have m2 : a.length < RL.length := HLR.out
        have m3 : (0 : Int) ≤ (a.length : Int) := by omega
        clear g0 g1 g2
        go_enter Try.func48, Try.ntmps48
        go_wp2_with (first | ((go_at_call 69); (with_reducible refine (HCAT.out _ _ ?hb ?hg).mono ?_); (case hb => exact below_alloc (Below.refl _ _) _); (case hg => exact blk_new _ _); rintro e w2 ⟨v, rfl, ho, hb⟩; have HB := Aside0.mk (below_tr2 (w := w) (below_alloc (Below.refl _ _) _) hb); have HO := Aside0.mk (show Ow w2 w.heap.size v RL from Kd.R_lower ho (below_alloc (Below.refl _ _) _).size); clear ho hb; obtain ⟨Ao, co, rfl⟩ := Kd.R_slice HO.out; obtain ⟨go, c9, hv, hg1, hg2⟩ := ow_addr HO.out (Nat.lt_of_le_of_lt (Nat.zero_le _) HLR.out); obtain ⟨rfl, rfl⟩ : Ao = some ⟨go, 0, none⟩ ∧ co = c9 := (by injection hv with h1 _ h3; exact ⟨h1, h3⟩); have hk := ow_key HO.out a.length HLR.out sep; obtain ⟨hk1, hk2, hk3⟩ := hk; have HO8 := Aside0.mk hk3; have HG1 := Aside0.mk hg1; clear hk3 hv hg1 hg2))
        go_ret
        exact ⟨_, rfl, HO8.out, HB.out.setCell (p := ⟨go, a.length * 22, none⟩) HG1.out _⟩
      · have d5 : decide ((b.length : Int) > 0) = false := decide_eq_false (by omega)
        have d6 : decide (0 < (b.length : Int)) = false := decide_eq_false (by omega)
        have d7 : decide (0 < b.length) = false := decide_eq_false (by omega)
        rw [show combL a b sep level = RL from by unfold combL; rw [if_neg (fun h => g2 h.2.2)]; exact HRL.out]
        clear g0 g1 g2
        go_enter Try.func48, Try.ntmps48
        go_wp2_with (first | ((go_at_call 69); (with_reducible refine (HCAT.out _ _ ?hb ?hg).mono ?_); (case hb => exact below_alloc (Below.refl _ _) _); (case hg => exact blk_new _ _); rintro e w2 ⟨v, rfl, ho, hb⟩; have HB := Aside0.mk (below_tr2 (w := w) (below_alloc (Below.refl _ _) _) hb); have HO := Aside0.mk (show Ow w2 w.heap.size v RL from Kd.R_lower ho (below_alloc (Below.refl _ _) _).size); clear ho hb; obtain ⟨Ao, co, rfl⟩ := Kd.R_slice HO.out; skip))
        go_ret
        exact ⟨_, rfl, HO.out, HB.out⟩
    · have d2 : decide ((a.length : Int) > 0) = false := decide_eq_false (by omega)
      have d3 : decide (0 < (a.length : Int)) = false := decide_eq_false (by omega)
      have d4 : decide (0 < a.length) = false := decide_eq_false (by omega)
      rw [show combL a b sep level = RL from by unfold combL; rw [if_neg (fun h => g1 h.2.1)]; exact HRL.out]
      clear g0 g1
      go_enter Try.func48, Try.ntmps48
      go_wp2_with (first | ((go_at_call 69); (with_reducible refine (HCAT.out _ _ ?hb ?hg).mono ?_); (case hb => exact below_alloc (Below.refl _ _) _); (case hg => exact blk_new _ _); rintro e w2 ⟨v, rfl, ho, hb⟩; have HB := Aside0.mk (below_tr2 (w := w) (below_alloc (Below.refl _ _) _) hb); have HO := Aside0.mk (show Ow w2 w.heap.size v RL from Kd.R_lower ho (below_alloc (Below.refl _ _) _).size); clear ho hb; obtain ⟨Ao, co, rfl⟩ := Kd.R_slice HO.out; skip))
      go_ret
      exact ⟨_, rfl, HO.out, HB.out⟩
  · have d0 : decide (level > 0) = false := decide_eq_false (by omega)
    have d1 : decide (0 < level) = false := decide_eq_false (by omega)
    rw [show combL a b sep level = RL from by unfold combL; rw [if_neg (fun h => g0 h.1)]; exact HRL.out]
    clear g0
    go_enter Try.func48, Try.ntmps48
    go_wp2_with (first | ((go_at_call 69); (with_reducible refine (HCAT.out _ _ ?hb ?hg).mono ?_); (case hb => exact below_alloc (Below.refl _ _) _); (case hg => exact blk_new _ _); rintro e w2 ⟨v, rfl, ho, hb⟩; have HB := Aside0.mk (below_tr2 (w := w) (below_alloc (Below.refl _ _) _) hb); have HO := Aside0.mk (show Ow w2 w.heap.size v RL from Kd.R_lower ho (below_alloc (Below.refl _ _) _).size); clear ho hb; obtain ⟨Ao, co, rfl⟩ := Kd.R_slice HO.out; skip))
    go_ret
    exact ⟨_, rfl, HO.out, HB.out⟩
end Go.Proofs.Ytalncokpbgbccaa.E

