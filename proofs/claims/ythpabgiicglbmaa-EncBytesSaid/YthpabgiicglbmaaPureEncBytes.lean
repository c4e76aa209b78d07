/- EncBytes, the plain law: whatever the two byte sequences, Compare, Prefix, Flip, After and Between of the program and of the specification answer alike. -/
import Derived.Test.YthpabgiicglbmaaP1
namespace Go.Proofs.Ythpabgiicglbmaa.Pure
set_option linter.unusedVariables false
set_option linter.unusedSimpArgs false
open Go.RowKit Go.Proofs.Ythpabgiicglbmaa.E Go.Proofs.YthpabgiicglbmaaW.PrintWords Go.Proofs.YthpabgiicglbmaaW.PrintLast

theorem EncBytes : understorylaw01_EncBytes.Pure := by
  intro a0 a1 _ _
  obtain ⟨a, rfl⟩ : ∃ l, a0 = ofL l := ⟨toL a0, (ofL_toL a0).symm⟩
  obtain ⟨b, rfl⟩ : ∃ l, a1 = ofL l := ⟨toL a1, (ofL_toL a1).symm⟩
  refine ⟨4000, ?_⟩
  rw [understorylaw01_EncBytes.f, short_spec _ (by simp) _ (by simp), sane_le 4000 (by decide)]
  simp only [Option.bind_some]
  by_cases hs : ([ofL a, ofL b] : List ByteArray).all (fun s => decide (s.size ≤ 3000)) = true
  · have hs2 : a.length ≤ 3000 ∧ b.length ≤ 3000 := by
      have h2 := hs
      simp only [List.all_cons, List.all_nil, size_ofL, Bool.and_true, Bool.and_eq_true] at h2
      exact ⟨of_decide_eq_true h2.1, of_decide_eq_true h2.2⟩
    rw [if_pos hs, encAfter a (by omega) _ (by omega), refAfter a (by omega) _ (by omega), encBetween a b (by omega) (by omega) _ (by omega), refBetween a b (by omega) (by omega) _ (by omega), encCompare, refCompare a b (by omega) (by omega) _ (by omega), encPrefix a b (by omega) (by omega) _ (by omega), refPrefix a b (by omega) (by omega) _ (by omega), encFlip a (by omega), refFlip a (by omega) _ (by omega)]
    simp
  · rw [if_neg hs]
end Go.Proofs.Ythpabgiicglbmaa.Pure
