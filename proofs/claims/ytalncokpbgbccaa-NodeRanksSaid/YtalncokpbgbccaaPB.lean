/- Ranks: Locate and Before are each other's inverse. -/
import Derived.Test.YtalncokpbgbccaaPA
namespace Go.Proofs.Ytalncokpbgbccaa.E
set_option linter.unusedVariables false
set_option linter.unusedSimpArgs false
open Go.RowKit Go.Proofs.YtalncokpbgbccaaW.PrintWords Go.Proofs.YtalncokpbgbccaaW.PrintLast Go.Proofs.YtalncokpbgbccaaW.PrintMore
/-- counts of one at least, that no more than so many make up -/
def CntL (l : List S77) : Prop := (∀ p, p < l.length → 1 ≤ (l.getD p z77).f5) ∧ sumF l ≤ 4611686018427387904
theorem cnt_tail {x : S77} {l : List S77} (h : CntL (x :: l)) : CntL l ∧ 1 ≤ x.f5 := by
  have h0 := h.1 0 (by simp)
  refine ⟨⟨fun p hp => by simpa using h.1 (p + 1) (by simpa using hp), ?_⟩, by simpa using h0⟩
  have := h.2
  simp only [sumF] at this
  simp at h0
  omega
theorem sumF_pos : ∀ {l : List S77}, CntL l → 0 ≤ sumF l
  | [], _ => by simp [sumF]
  | x :: l, h => by have := sumF_pos (cnt_tail h).1; have := (cnt_tail h).2; simp only [sumF]; omega
theorem befL_eq : ∀ (l : List S77) (a : Int), CntL l → 0 ≤ a → a + sumF l ≤ 4611686018427387904 → l.foldl (fun a x => wrap64 (a + x.f5)) a = a + sumF l
  | [], a, _, _, _ => by simp [sumF]
  | x :: l, a, h, h0, h1 => by
    have := (cnt_tail h).2
    have := sumF_pos (cnt_tail h).1
    simp only [sumF] at h1
    rw [List.foldl_cons, w64 _ (by omega) (by omega), befL_eq l _ (cnt_tail h).1 (by omega) (by omega), sumF]
    omega
theorem cnt_take {l : List S77} (h : CntL l) (k : Nat) : CntL (l.take k) ∧ sumF (l.take k) ≤ sumF l := by
  induction l generalizing k with
  | nil => simp only [List.take_nil]; exact ⟨h, Int.le_refl _⟩
  | cons x l ih =>
    cases k with
    | zero => exact ⟨⟨fun p hp => by simp at hp, by simp [sumF]⟩, by rw [List.take_zero, sumF]; exact sumF_pos h⟩
    | succ k =>
      have ⟨t, hx⟩ := cnt_tail h
      have ⟨i1, i2⟩ := ih t k
      have hs := h.2
      simp only [sumF] at hs
      refine ⟨⟨fun p hp => ?_, by rw [List.take_succ_cons, sumF]; omega⟩, by rw [List.take_succ_cons, sumF, sumF]; omega⟩
      rw [List.take_succ_cons] at hp ⊢
      cases p with
      | zero => simpa using hx
      | succ p => simpa using i1.1 p (by simpa using hp)
theorem bef_take {l : List S77} (h : CntL l) (k : Nat) : befL (l.take k) = sumF (l.take k) := by
  have := cnt_take h k
  have := this.1.2
  rw [befL, befL_eq _ 0 (cnt_take h k).1 (by omega) (by omega)]
  omega
theorem sum_take : ∀ (l : List S77) (k : Nat), k < l.length → sumF (l.take (k + 1)) = sumF (l.take k) + (l.getD k z77).f5
  | x :: l, 0, _ => by simp [sumF]
  | x :: l, k + 1, h => by
    rw [List.take_succ_cons, sumF, sum_take l k (by simpa using h), List.take_succ_cons, sumF]
    simp
    omega
theorem loc_found : ∀ (l : List S77) (i k : Nat) (q r : Int), CntL l → i < l.length → q = sumF (l.take i) + r → 0 ≤ r → r < (l.getD i z77).f5 → locF l k q = (((k + i : Nat) : Int), r, 0)
  | x :: l, 0, k, q, r, h, hi, hq, h0, h1 => by
    simp [sumF] at hq h1
    subst hq
    rw [locF, if_pos h1]
    rfl
  | x :: l, i + 1, k, q, r, h, hi, hq, h0, h1 => by
    have ⟨t, hx⟩ := cnt_tail h
    have hi' : i < l.length := by simpa using hi
    rw [List.take_succ_cons, sumF] at hq
    have hp := sumF_pos (cnt_take t i).1
    have hb := (cnt_take t (i + 1)).2
    rw [sum_take l i hi'] at hb
    have hs := h.2
    simp only [sumF] at hs
    have h1' : r < (l.getD i z77).f5 := by simpa using h1
    rw [locF, if_neg (by omega), w64 _ (by omega) (by omega), loc_found l i (k + 1) (q - x.f5) r t hi' (by omega) h0 h1']
    congr 1
    omega
theorem loc_none : ∀ (l : List S77) (k : Nat) (q : Int), CntL l → sumF l ≤ q → q ≤ 9223372036854775807 → locF l k q = (0, 0, 4)
  | [], k, q, _, _, _ => rfl
  | x :: l, k, q, h, h1, h2 => by
    have ⟨t, hx⟩ := cnt_tail h
    have hp := sumF_pos t
    simp only [sumF] at h1
    rw [locF, if_neg (by omega), w64 _ (by omega) (by omega), loc_none l (k + 1) (q - x.f5) t (by omega) (by omega)]
theorem loc_where : ∀ (l : List S77) (q : Int), CntL l → 0 ≤ q → q < sumF l → ∃ i r, i < l.length ∧ q = sumF (l.take i) + r ∧ 0 ≤ r ∧ r < (l.getD i z77).f5
  | [], q, _, h0, h1 => by simp [sumF] at h1; omega
  | x :: l, q, h, h0, h1 => by
    have ⟨t, hx⟩ := cnt_tail h
    simp only [sumF] at h1
    by_cases hq : q < x.f5
    · exact ⟨0, q, by simp, by simp [sumF], h0, by simpa using hq⟩
    · obtain ⟨i, r, hi, e, r0, r1⟩ := loc_where l (q - x.f5) t (by omega) (by omega)
      exact ⟨i + 1, r, by simpa using hi, by rw [List.take_succ_cons, sumF]; omega, r0, by simpa using r1⟩
theorem cutI_nat (i n : Nat) (h : i ≤ n) : cutI (i : Int) n = i := by unfold cutI; omega
theorem locR_in (l : List S77) (i : Nat) (q r : Int) (h : CntL l) (hi : i < l.length) (hq : q = sumF (l.take i) + r) (h0 : 0 ≤ r) (h1 : r < (l.getD i z77).f5) : locR l q = ((i : Int), r, 0) := by
  have := sumF_pos (cnt_take h i).1
  rw [locR, if_neg (by omega), loc_found l i 0 q r h hi hq h0 h1]
  simp
theorem locR_out (l : List S77) (q : Int) (h : CntL l) (hq : q < 0 ∨ sumF l ≤ q) (h2 : q ≤ 9223372036854775807) : locR l q = (0, 0, 4) := by
  unfold locR
  split
  · rfl
  · exact loc_none l 0 q h (by omega) h2
theorem befL_all {l : List S77} (h : CntL l) : befL l = sumF l := by have := bef_take h l.length; rwa [List.take_length] at this
end Go.Proofs.Ytalncokpbgbccaa.E
