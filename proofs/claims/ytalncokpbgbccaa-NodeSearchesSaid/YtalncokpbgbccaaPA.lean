/- few, Ordered (the reference's), counted: they all answer; what their yes says. -/
import Derived.Test.YtalncokpbgbccaaMb
import Derived.Test.YtalncokpbgbccaaRk
import Derived.Test.YtalncokpbgbccaaRh
namespace Go.Proofs.Ytalncokpbgbccaa.E
set_option linter.unusedVariables false
set_option linter.unusedSimpArgs false
open Go.RowKit Go.Proofs.YtalncokpbgbccaaW.PrintWords Go.Proofs.YtalncokpbgbccaaW.PrintLast Go.Proofs.YtalncokpbgbccaaW.PrintMore
theorem wsuc (j : Nat) (h : j < 9223372036854775807) : wrap64 ((j : Int) + 1) = ((j + 1 : Nat) : Int) := by rw [w64 _ (by omega) (by omega)]; omega
/-- a list of entries as the laws take it -/
def FewL (l : List S77) : Prop := l.length ≤ 100 ∧ ∀ j, j < l.length → (l.getD j z77).f0.size ≤ 100 ∧ (l.getD j z77).f1.size ≤ 200
theorem few_in (L : List (List S77)) (i : Nat) (hi : i < L.length) (hL : L.length ≤ 9223372036854775807) (hlen : (L.getD i []).length ≤ 100) (G : Prop)
    (rest : ∃ k b, understorylaw06_few.l0 k L ((i + 1 : Nat) : Int) = some b ∧ (b = true → G)) :
    ∀ m j, j + m = (L.getD i []).length → ∃ k b, understorylaw06_few.l1 k L i j = some b ∧ (b = true → (∀ p, j ≤ p → p < (L.getD i []).length → ((L.getD i []).getD p z77).f0.size ≤ 100 ∧ ((L.getD i []).getD p z77).f1.size ≤ 200) ∧ G)
  | 0, j, h => by
    obtain ⟨k, b, hk, hb⟩ := rest
    refine ⟨k + 1, b, ?_, fun hbt => ⟨fun p h1 h2 => by omega, hb hbt⟩⟩
    rw [understorylaw06_few.l1, if_pos (by omega), if_pos (by omega), if_neg (by simp only [rd_L5, Int.toNat_natCast]; omega), wsuc i (by omega)]
    exact hk
  | m + 1, j, h => by
    obtain ⟨k, b, hk, hb⟩ := few_in L i hi hL hlen G rest m (j + 1) (by omega)
    by_cases h1 : ((rd_T77 (rd_L5 L i) j).f0.size : Int) > 100
    · refine ⟨1, false, ?_, fun hf => by cases hf⟩
      rw [understorylaw06_few.l1, if_pos (by omega), if_pos (by omega), if_pos (by simp only [rd_L5, Int.toNat_natCast]; omega), if_pos (by omega), if_pos h1]
    by_cases h2 : ((rd_T77 (rd_L5 L i) j).f1.size : Int) > 200
    · refine ⟨1, false, ?_, fun hf => by cases hf⟩
      rw [understorylaw06_few.l1, if_pos (by omega), if_pos (by omega), if_pos (by simp only [rd_L5, Int.toNat_natCast]; omega), if_pos (by omega), if_neg h1, if_pos h2]
    refine ⟨k + 1, b, ?_, fun hbt => ⟨fun p p1 p2 => ?_, (hb hbt).2⟩⟩
    · rw [understorylaw06_few.l1, if_pos (by omega), if_pos (by omega), if_pos (by simp only [rd_L5, Int.toNat_natCast]; omega), if_pos (by omega), if_neg h1, if_neg h2, wsuc j (by omega)]
      exact hk
    · by_cases e : p = j
      · subst e
        simp only [rd_T77, rd_L5, Int.toNat_natCast] at h1 h2
        omega
      · exact (hb hbt).1 p (by omega) p2
theorem few_out (L : List (List S77)) (hL : L.length ≤ 9223372036854775807) :
    ∀ m i, i + m = L.length → ∃ k b, understorylaw06_few.l0 k L i = some b ∧ (b = true → ∀ p, i ≤ p → p < L.length → FewL (L.getD p []))
  | 0, i, h => ⟨1, true, by rw [understorylaw06_few.l0, if_neg (by omega)], fun _ p h1 h2 => by omega⟩
  | m + 1, i, h => by
    by_cases h1 : ((rd_L5 L i).length : Int) > 100
    · refine ⟨1, false, ?_, fun hf => by cases hf⟩
      rw [understorylaw06_few.l0, if_pos (by omega), if_pos (by omega), if_pos h1]
    · have hl : (L.getD i []).length ≤ 100 := by simp only [rd_L5, Int.toNat_natCast] at h1; omega
      obtain ⟨k, b, hk, hb⟩ := few_in L i (by omega) hL hl _ (few_out L hL m (i + 1) (by omega)) _ 0 (Nat.zero_add _)
      refine ⟨k + 1, b, ?_, fun hbt p p1 p2 => ?_⟩
      · rw [understorylaw06_few.l0, if_pos (by omega), if_pos (by omega), if_neg h1]; exact hk
      · by_cases e : p = i
        · subst e
          exact ⟨hl, fun j hj => (hb hbt).1 j (Nat.zero_le _) hj⟩
        · exact (hb hbt).2 p (by omega) p2
theorem few_t (L : List (List S77)) (hL : L.length ≤ 9223372036854775807) : ∃ k b, understorylaw06_few.f k L = some b ∧ (b = true → ∀ p, p < L.length → FewL (L.getD p [])) := by
  obtain ⟨k, b, hk, hb⟩ := few_out L hL _ 0 (Nat.zero_add _)
  exact ⟨k, b, hk, fun h p hp => hb h p (Nat.zero_le _) hp⟩
/-- the sum of the counts -/
def sumF : List S77 → Int
  | [] => 0
  | x :: r => x.f5 + sumF r
theorem counted_go (l : List S77) (hl : l.length ≤ 100) : ∀ m i (s : Int), i + m = l.length → 0 ≤ s → s ≤ 4611686018427387904 →
    ∃ k b, understorylaw06_counted.l0 k l s i = some b ∧ (b = true → (∀ p, i ≤ p → p < l.length → 1 ≤ (l.getD p z77).f5) ∧ s + sumF (l.drop i) ≤ 4611686018427387904)
  | 0, i, s, h, h0, hs => ⟨1, true, by rw [understorylaw06_counted.l0, if_neg (by omega)], fun _ => ⟨fun p h1 h2 => by omega, by rw [List.drop_of_length_le (by omega), sumF]; omega⟩⟩
  | m + 1, i, s, h, h0, hs => by
    have hd : l.drop i = l.getD i z77 :: l.drop (i + 1) := by rw [List.drop_eq_getElem_cons (by omega)]; simp [show i < l.length by omega]
    have hw : wrap64 (4611686018427387904 - s) = 4611686018427387904 - s := w64 _ (by omega) (by omega)
    by_cases h1 : (rd_T77 l i).f5 < 1
    · refine ⟨1, false, ?_, fun hf => by cases hf⟩
      rw [understorylaw06_counted.l0, if_pos (by omega), if_pos (by omega), if_pos h1]
    by_cases h2 : (rd_T77 l i).f5 > wrap64 (4611686018427387904 - s)
    · refine ⟨1, false, ?_, fun hf => by cases hf⟩
      rw [understorylaw06_counted.l0, if_pos (by omega), if_pos (by omega), if_neg h1, if_pos h2]
    have h2' := h2
    rw [hw] at h2'
    have e : rd_T77 l i = l.getD i z77 := by simp [rd_T77]
    obtain ⟨k, b, hk, hb⟩ := counted_go l hl m (i + 1) (s + (rd_T77 l i).f5) (by omega) (by omega) (by omega)
    refine ⟨k + 1, b, ?_, fun hbt => ⟨fun p p1 p2 => ?_, ?_⟩⟩
    · rw [understorylaw06_counted.l0, if_pos (by omega), if_pos (by omega), if_neg h1, if_neg h2, wsuc i (by omega), w64 (s + _) (by omega) (by omega)]
      exact hk
    · by_cases e2 : p = i
      · subst e2; rw [← e]; omega
      · exact (hb hbt).1 p (by omega) p2
    · rw [hd, sumF, ← e]
      have := (hb hbt).2
      omega
theorem counted_t (l : List S77) (hl : l.length ≤ 100) : ∃ k b, understorylaw06_counted.f k l = some b ∧ (b = true → (∀ p, p < l.length → 1 ≤ (l.getD p z77).f5) ∧ sumF l ≤ 4611686018427387904) := by
  obtain ⟨k, b, hk, hb⟩ := counted_go l hl _ 0 0 (Nat.zero_add _) (by omega) (by omega)
  exact ⟨k, b, hk, fun h => ⟨fun p hp => (hb h).1 p (Nat.zero_le _) hp, by have := (hb h).2; simpa using this⟩⟩
theorem ordered_go (l : List S77) (level : Int) (hl : l.length ≤ 100) : ∀ m i, i + m = l.length → ∃ k b, understoryref06_Ordered.l0 k l level i = some b
  | 0, i, h => ⟨1, true, by rw [understoryref06_Ordered.l0, if_neg (by omega)]⟩
  | m + 1, i, h => by
    obtain ⟨k, b, hk⟩ := ordered_go l level hl m (i + 1) (by omega)
    have hJ : ∀ q, ∃ k b, understoryref06_Ordered.j1 k l level i (rd_T77 l i).f0 q = some b := by
      intro q
      by_cases hq : q = true
      · by_cases h0 : (rd_T77 l i).f0.toList = ([] : List UInt8)
        · exact ⟨k + 1, b, by rw [understoryref06_Ordered.j1, if_pos hq, if_pos h0, wsuc i (by omega)]; exact hk⟩
        · exact ⟨k + 1, false, by rw [understoryref06_Ordered.j1, if_pos hq, if_neg h0]⟩
      by_cases h1 : ((rd_T77 l i).f0.size : Int) < 1
      · exact ⟨1, false, by rw [understoryref06_Ordered.j1, if_neg hq, if_pos h1]⟩
      by_cases h2 : ((rd_T77 l i).f0.size : Int) > 48
      · exact ⟨1, false, by rw [understoryref06_Ordered.j1, if_neg hq, if_neg h1, if_pos h2]⟩
      by_cases h3 : (i : Int) > 0
      · have hw : wrap64 ((i : Int) - 1) = (i : Int) - 1 := w64 _ (by omega) (by omega)
        by_cases h4 : Op.bytesLess (rd_T77 l (wrap64 ((i : Int) - 1))).f0.toList (rd_T77 l i).f0.toList = true
        · exact ⟨k + 1, b, by rw [understoryref06_Ordered.j1, if_neg hq, if_neg h1, if_neg h2, if_pos h3, if_pos (by omega), if_pos (by omega), if_pos h4, wsuc i (by omega)]; exact hk⟩
        · exact ⟨1, false, by rw [understoryref06_Ordered.j1, if_neg hq, if_neg h1, if_neg h2, if_pos h3, if_pos (by omega), if_pos (by omega), if_neg h4]⟩
      · exact ⟨k + 1, b, by rw [understoryref06_Ordered.j1, if_neg hq, if_neg h1, if_neg h2, if_neg h3, wsuc i (by omega)]; exact hk⟩
    by_cases h0 : (i : Int) = 0
    · obtain ⟨k2, b2, hk2⟩ := hJ (decide (level > 0))
      exact ⟨k2 + 1, b2, by rw [understoryref06_Ordered.l0, if_pos (by omega), if_pos (by omega), if_pos h0]; exact hk2⟩
    · obtain ⟨k2, b2, hk2⟩ := hJ false
      exact ⟨k2 + 1, b2, by rw [understoryref06_Ordered.l0, if_pos (by omega), if_pos (by omega), if_neg h0]; exact hk2⟩
theorem ordered_t (l : List S77) (level : Int) (hl : l.length ≤ 100) : ∃ k b, understoryref06_Ordered.f k l level = some b := by
  obtain ⟨k, b, hk⟩ := ordered_go l level hl _ 0 (Nat.zero_add _)
  cases hq : understoryref06_inLevel.f level with
  | none => simp [understoryref06_inLevel.f] at hq; repeat' split at hq
            all_goals cases hq
  | some t =>
    cases t
    · exact ⟨0, false, by rw [understoryref06_Ordered.f, hq]; rfl⟩
    · exact ⟨k, b, by rw [understoryref06_Ordered.f, hq]; exact hk⟩
end Go.Proofs.Ytalncokpbgbccaa.E
