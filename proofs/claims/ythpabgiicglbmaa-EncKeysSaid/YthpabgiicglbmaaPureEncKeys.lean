/- EncKeys, the plain law. -/
import Derived.Test.YthpabgiicglbmaaPv
namespace Go.Proofs.Ythpabgiicglbmaa.Pure
set_option linter.unusedVariables false
set_option linter.unusedSimpArgs false
open Go.RowKit Go.Proofs.Ythpabgiicglbmaa.E Go.Proofs.YthpabgiicglbmaaW.PrintWords Go.Proofs.YthpabgiicglbmaaW.PrintLast

theorem keys_true (k : Nat) (hk : 21 ≤ k) (l : List S49) (ds : List Bool) (s : ByteArray) : understorylaw01_EncKeys.j0 k l ds s true = some true := by
  obtain ⟨k, rfl⟩ : ∃ j, k = j + 1 := ⟨k - 1, by omega⟩
  rw [understorylaw01_EncKeys.j0, if_pos rfl, sane_le k (by omega)]; rfl
theorem EncKeys (l : List S49) (ds : List Bool) (s0 : ByteArray) (hl : DataOk l) (hs0 : s0.size ≤ 140737488351232) : ∃ k, understorylaw01_EncKeys.f k l ds s0 = some true := by
  obtain ⟨s, rfl⟩ : ∃ t, s0 = ofL t := ⟨toL s0, (ofL_toL s0).symm⟩
  refine ⟨20000 + l.length, ?_⟩
  obtain ⟨b, e, hb⟩ := few_spec l (fun x hx => (hl.2 x hx).2.2) hl.1 (20000 + l.length) (by omega)
  rw [understorylaw01_EncKeys.f, e, short_spec _ (by simp) _ (by simp; omega)]
  simp only [Option.bind_some]
  cases b with
  | false => rw [if_neg (by simp)]; exact keys_true _ (by omega) _ _ _
  | true =>
    rw [if_pos rfl]
    have h60 := hb rfl
    by_cases hs : s.length ≤ 3000
    · have hsh : ([ofL s] : List ByteArray).all (fun s => decide (s.size ≤ 3000)) = true := by
        simp only [List.all_cons, List.all_nil, size_ofL, Bool.and_true]
        exact decide_eq_true hs
      obtain ⟨n, hn⟩ : ∃ n, 20000 + l.length = n + 1 := ⟨19999 + l.length, by omega⟩
      rw [hsh, hn, understorylaw01_EncKeys.j0, if_neg (by simp)]
      have hp : enc_PutKey.f l ds = some (match putKeyL ds 0 l with | some x => (ofL x, 0) | none => (⟨#[]⟩, 2)) := by
        rw [enc_PutKey.f, if_pos ⟨by omega, fun x hx => ⟨decide_eq_true (wf_rangeD _ (hl.2 x hx).2.1), by have := h60.2 x hx; omega⟩⟩]
        cases putKeyL ds 0 l <;> rfl
      have hg : enc_GetKey.f (ofL s) ds = some (match getKeyL ds (s.length + 1) 0 s with | some x => (x, 0) | none => ([], 2)) := by
        rw [enc_GetKey.f, if_pos (by rw [size_ofL]; omega), size_ofL, toL_ofL]
        cases getKeyL ds (s.length + 1) 0 s <;> rfl
      rw [hp, refPutKey ds l h60.2 h60.1 n (by omega), hg, refGetKey ds s hs n (by omega), sane_le n (by omega)]
      cases hk : getKeyL ds (s.length + 1) 0 s with
      | none =>
        have hsm := same_spec [] (by simp) n (by simp; omega)
        cases putKeyL ds 0 l <;> simp [hsm]
      | some xs =>
        have hx := getKey_len _ _ _ _ _ hk
        have hsm := same_spec xs (by omega) n (by omega)
        cases putKeyL ds 0 l <;> simp [hsm]
    · have hsh : ([ofL s] : List ByteArray).all (fun s => decide (s.size ≤ 3000)) = false := by
        simp only [List.all_cons, List.all_nil, size_ofL, Bool.and_true]
        exact decide_eq_false hs
      rw [hsh]
      exact keys_true _ (by omega) _ _ _
end Go.Proofs.Ythpabgiicglbmaa.Pure
