import Derived.Test.YthpabgiicglbmaaEx5
namespace Go.Proofs.Ythpabgiicglbmaa.Pure
set_option linter.unusedVariables false
set_option linter.unusedSimpArgs false
open Go.RowKit Go.Proofs.Ythpabgiicglbmaa.E Go.Proofs.YthpabgiicglbmaaW.PrintWords Go.Proofs.YthpabgiicglbmaaW.PrintLast

set_option maxRecDepth 100000 in
theorem sane_ok : understorylaw01_sane.f 20 = some true := by kernel_rfl
theorem sane_le (k : Nat) (h : 20 ≤ k) : understorylaw01_sane.f k = some true := by
  obtain ⟨n, rfl⟩ : ∃ n, k = 20 + n := ⟨k - 20, by omega⟩
  induction n with
  | zero => exact sane_ok
  | succ n ih => exact understorylaw01_sane.mono (20 + n) _ (ih (by omega))
/-! short -/
theorem short_step (l : List ByteArray) (hl : l.length ≤ 1000) : ∀ k i, i ≤ l.length → l.length - i < k → understorylaw01_short.l0 k l (i : Int) = some ((l.drop i).all (fun s => decide (s.size ≤ 3000))) := by
  intro k
  induction k with
  | zero => intro i _ hk; omega
  | succ k ih =>
    intro i hi hk
    unfold understorylaw01_short.l0
    by_cases hlt : i < l.length
    · have e : rdOf ByteArray.empty l (i : Int) = l[i] := by simp [rdOf, hlt]
      rw [if_pos (by omega), if_pos (by omega), e, List.drop_eq_getElem_cons hlt, List.all_cons]
      by_cases hs : l[i].size ≤ 3000
      · rw [if_neg (by omega), w64 _ (by omega) (by omega), show ((i : Int) + 1) = ((i + 1 : Nat) : Int) from by omega, ih (i + 1) (by omega) (by omega)]
        simp [hs]
      · rw [if_pos (by omega)]; simp [hs]
    · rw [if_neg (by omega), List.drop_of_length_le (by omega)]; rfl
theorem short_spec (l : List ByteArray) (hl : l.length ≤ 1000) (k : Nat) (hk : l.length < k) : understorylaw01_short.f k l = some (l.all (fun s => decide (s.size ≤ 3000))) := by
  have := short_step l hl k 0 (by omega) (by omega)
  simpa [understorylaw01_short.f] using this
end Go.Proofs.Ythpabgiicglbmaa.Pure
