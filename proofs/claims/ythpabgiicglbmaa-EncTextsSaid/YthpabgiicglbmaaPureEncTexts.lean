/- EncTexts, the plain law. -/
import Derived.Test.YthpabgiicglbmaaP2
namespace Go.Proofs.Ythpabgiicglbmaa.Pure
set_option linter.unusedVariables false
set_option linter.unusedSimpArgs false
open Go.RowKit Go.Proofs.Ythpabgiicglbmaa.E Go.Proofs.YthpabgiicglbmaaW.PrintWords Go.Proofs.YthpabgiicglbmaaW.PrintLast

theorem EncTexts : understorylaw01_EncTexts.Pure := by
  intro a0 _
  obtain ⟨a, rfl⟩ : ∃ l, a0 = ofL l := ⟨toL a0, (ofL_toL a0).symm⟩
  refine ⟨7000, ?_⟩
  rw [understorylaw01_EncTexts.f, short_spec _ (by simp) _ (by simp), sane_le 7000 (by decide)]
  simp only [Option.bind_some]
  by_cases hs : ([ofL a] : List ByteArray).all (fun s => decide (s.size ≤ 3000)) = true
  · have hs2 : a.length ≤ 3000 := by
      have h2 := hs
      simp only [List.all_cons, List.all_nil, size_ofL, Bool.and_true] at h2
      exact of_decide_eq_true h2
    rw [if_pos hs, encGetText a (by omega), refGetText a (by omega) _ (by omega), encPutText a (by omega), refPutText a (by omega) _ (by omega)]
    simp
  · rw [if_neg hs]
end Go.Proofs.Ythpabgiicglbmaa.Pure
