-- A slim copy of PO, written by wip/tools/prune2.py.
import Derived.Test.YtalncokpbgbccaaKPG
import Derived.Test.YtalncokpbgbccaaKRV
/- NodeOrders: plain laws, the walk, and the join: it returns true. -/
namespace Go.Proofs.Ytalncokpbgbccaa.E
set_option linter.unusedVariables false
set_option linter.unusedSimpArgs false
open Go.RowKit Go.Proofs.YtalncokpbgbccaaW.PrintWords Go.Proofs.YtalncokpbgbccaaW.PrintLast Go.Proofs.YtalncokpbgbccaaW.PrintMore
theorem ord_go (l : List S77) (level : Int) (hl : l.length ≤ 100) : ∀ m i, i + m = l.length → ∃ k, understoryref06_Ordered.l0 k l level i = some ((List.range' i m).all (okAt l level))
  | 0, i, h => ⟨1, by rw [understoryref06_Ordered.l0, if_neg (by omega)]; rfl⟩
  | m + 1, i, h => by
    obtain ⟨k, hk⟩ := ord_go l level hl m (i + 1) (by omega)
    have e : rd_T77 l i = l.getD i z77 := by simp [rd_T77]
    rw [List.range'_succ, List.all_cons]
    have hF : ∀ (hn : ¬ (level > 0 ∧ i = 0)), ∃ k, understoryref06_Ordered.j1 k l level i (rd_T77 l i).f0 false = some (okAt l level i && (List.range' (i + 1) m).all (okAt l level)) := by
      intro hn
      rw [okAt, if_neg hn, e]
      by_cases h1 : ((l.getD i z77).f0.size : Int) < 1
      · exact ⟨1, by rw [understoryref06_Ordered.j1, if_neg (by decide), if_pos h1, decide_eq_false (by omega)]; rfl⟩
      rw [decide_eq_true (show 1 ≤ (l.getD i z77).f0.size by omega)]
      by_cases h2 : ((l.getD i z77).f0.size : Int) > 48
      · exact ⟨1, by rw [understoryref06_Ordered.j1, if_neg (by decide), if_neg h1, if_pos h2, decide_eq_false (by omega)]; rfl⟩
      rw [decide_eq_true (show (l.getD i z77).f0.size ≤ 48 by omega)]
      by_cases h3 : (i : Int) > 0
      · have hw : wrap64 ((i : Int) - 1) = ((i - 1 : Nat) : Int) := by rw [w64 _ (by omega) (by omega)]; omega
        have e1 : rd_T77 l ((i - 1 : Nat) : Int) = l.getD (i - 1) z77 := by simp [rd_T77]
        rw [decide_eq_false (show ¬ i = 0 by omega)]
        by_cases h4 : Op.bytesLess (l.getD (i - 1) z77).f0.toList (l.getD i z77).f0.toList = true
        · refine ⟨k + 1, ?_⟩
          rw [understoryref06_Ordered.j1, if_neg (by decide), if_neg h1, if_neg h2, if_pos h3, hw, e1, if_pos (by omega), if_pos (by omega), if_pos h4, wsuc i (by omega), hk, h4]; rfl
        · refine ⟨1, ?_⟩
          rw [understoryref06_Ordered.j1, if_neg (by decide), if_neg h1, if_neg h2, if_pos h3, hw, e1, if_pos (by omega), if_pos (by omega), if_neg h4]
          have h5 := h4
          rw [Bool.not_eq_true] at h5
          rw [h5]; rfl
      · refine ⟨k + 1, ?_⟩
        rw [decide_eq_true (show i = 0 by omega), understoryref06_Ordered.j1, if_neg (by decide), if_neg h1, if_neg h2, if_neg h3, wsuc i (by omega), hk]; rfl
    by_cases h0 : (i : Int) = 0
    · by_cases hp : level > 0
      · have hi : i = 0 := by omega
        by_cases h5 : (rd_T77 l i).f0.toList = ([] : List UInt8)
        · refine ⟨k + 2, ?_⟩
          rw [understoryref06_Ordered.l0, if_pos (by omega), if_pos (by omega), if_pos h0, understoryref06_Ordered.j1, if_pos (decide_eq_true hp), if_pos h5, wsuc i (by omega), hk, okAt, if_pos ⟨hp, hi⟩, ← e, h5]
          rfl
        · refine ⟨2, ?_⟩
          rw [understoryref06_Ordered.l0, if_pos (by omega), if_pos (by omega), if_pos h0, understoryref06_Ordered.j1, if_pos (decide_eq_true hp), if_neg h5, okAt, if_pos ⟨hp, hi⟩, ← e]
          cases hq : (rd_T77 l i).f0.toList with
          | nil => exact absurd hq h5
          | cons a b => rfl
      · obtain ⟨k2, hk2⟩ := hF (by omega)
        exact ⟨k2 + 1, by rw [understoryref06_Ordered.l0, if_pos (by omega), if_pos (by omega), if_pos h0, decide_eq_false hp]; exact hk2⟩
    · obtain ⟨k2, hk2⟩ := hF (by omega)
      exact ⟨k2 + 1, by rw [understoryref06_Ordered.l0, if_pos (by omega), if_pos (by omega), if_neg h0]; exact hk2⟩
/-- the reference's Ordered says what the program's says -/
theorem ordered_eq (l : List S77) (level : Int) (hl : l.length ≤ 100) : ∃ k, understoryref06_Ordered.f k l level = some (ordL l level) := by
  obtain ⟨k, hk⟩ := ord_go l level hl _ 0 (Nat.zero_add _)
  rw [← List.range_eq_range'] at hk
  refine ⟨k, ?_⟩
  unfold understoryref06_Ordered.f understoryref06_inLevel.f ordL inB
  by_cases h0 : level ≥ 0
  · rw [if_pos h0, decide_eq_true (show 0 ≤ level from h0)]
    by_cases h1 : level ≤ 20
    · rw [decide_eq_true h1]; simpa using hk
    · rw [decide_eq_false h1]; simp
  · rw [if_neg h0, decide_eq_false (show ¬ 0 ≤ level from h0)]; simp
end Go.Proofs.Ytalncokpbgbccaa.E

