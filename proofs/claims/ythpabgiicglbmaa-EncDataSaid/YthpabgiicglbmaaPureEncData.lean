/- EncData, the plain law. -/
import Derived.Test.YthpabgiicglbmaaPd
import Derived.Test.YthpabgiicglbmaaEx10
import Derived.Test.YthpabgiicglbmaaPw
namespace Go.Proofs.Ythpabgiicglbmaa.Pure
set_option linter.unusedVariables false
set_option linter.unusedSimpArgs false
open Go.RowKit Go.Proofs.Ythpabgiicglbmaa.E Go.Proofs.YthpabgiicglbmaaW.PrintWords Go.Proofs.YthpabgiicglbmaaW.PrintLast

theorem data_l1 (ds : List Bool) (l m : List S49) (hl : ∀ x ∈ l, validS x = true ∧ x.f2.size ≤ 1000000) (hm : ∀ x ∈ m, validS x = true ∧ x.f2.size ≤ 1000000) (bl : l.length ≤ 60) (bm : m.length ≤ 60) :
    ∀ (d k i : Nat), l.length - i = d → i ≤ l.length → i ≤ m.length → 1001000 + 4 * d ≤ k → understorylaw01_EncData.l1 k l m ds (i : Int) = some true := by
  intro d
  induction d using Nat.strongRecOn with
  | ind d ih =>
    intro k i hd hi hj hk
    obtain ⟨k, rfl⟩ : ∃ j, k = j + 2 := ⟨k - 2, by omega⟩
    rw [understorylaw01_EncData.l1]
    have key : understorylaw01_EncData.j4 (k + 1) l m ds (i : Int) (decide (i < l.length ∧ i < m.length)) = some true := by
      rw [understorylaw01_EncData.j4]
      by_cases hlt : i < l.length ∧ i < m.length
      · have va := hl _ (rd_mem l i hlt.1)
        have vb := hm _ (rd_mem m i hlt.2)
        rw [if_pos (decide_eq_true hlt), if_pos (by omega), if_pos (by omega), if_pos (by omega), encData _ _ _ (by omega), refData _ _ va.1 vb.1 va.2 vb.2 _ (by omega)]
        simp only [Option.bind_some, if_true]
        rw [w64 _ (by omega) (by omega), show ((i : Int) + 1) = ((i + 1 : Nat) : Int) by omega]
        exact ih (l.length - (i + 1)) (by omega) k (i + 1) rfl (by omega) (by omega) (by omega)
      · rw [if_neg (by simpa using hlt), sane_le k (by omega), refKeys ds l m hl hm (by omega) (by omega) k (by omega)]
        simp [enc_CompareKeys.f]
    by_cases h1 : i < l.length
    · rw [if_pos (by omega)]
      have e : decide ((i : Int) < (m.length : Int)) = decide (i < l.length ∧ i < m.length) := by
        rw [Bool.eq_iff_iff, decide_eq_true_eq, decide_eq_true_eq]; omega
      rw [e]; exact key
    · rw [if_neg (by omega)]
      rw [show false = decide (i < l.length ∧ i < m.length) from (decide_eq_false (by omega)).symm]
      exact key
theorem data_l0 (ds : List Bool) (l m : List S49) (hr : ∀ x ∈ l, -9223372036854775808 ≤ x.f1 ∧ x.f1 ≤ 9223372036854775807) (hl : ∀ x ∈ l, x.f2.size ≤ 3000) (hm : ∀ x ∈ m, x.f2.size ≤ 3000) (bl : l.length ≤ 60) (bm : m.length ≤ 60) :
    ∀ (d k i : Nat), l.length - i = d → i ≤ l.length → 1001500 + d ≤ k → understorylaw01_EncData.l0 k l m ds (i : Int) = some true := by
  intro d
  induction d with
  | zero =>
    intro k i hd hi hk
    obtain ⟨k, rfl⟩ : ∃ j, k = j + 2 := ⟨k - 2, by omega⟩
    rw [understorylaw01_EncData.l0, if_neg (by omega), valid_spec l (by omega) _ (by omega), valid_spec m (by omega) _ (by omega)]
    simp only [Option.bind_some]
    cases h1 : l.all validS with
    | false =>
      rw [if_neg (by simp), understorylaw01_EncData.j2, if_pos rfl, sane_le k (by omega)]; rfl
    | true =>
      rw [if_pos rfl, understorylaw01_EncData.j2]
      cases h2 : m.all validS with
      | false => rw [if_pos (show (!false) = true from rfl), sane_le k (by omega)]; rfl
      | true =>
        rw [if_neg (by simp)]
        exact data_l1 ds l m (fun x hx => ⟨List.all_eq_true.mp h1 x hx, by have := hl x hx; omega⟩) (fun x hx => ⟨List.all_eq_true.mp h2 x hx, by have := hm x hx; omega⟩) bl bm l.length k 0 rfl (by omega) (by omega) (by omega)
  | succ d ih =>
    intro k i hd hi hk
    obtain ⟨k, rfl⟩ : ∃ j, k = j + 1 := ⟨k - 1, by omega⟩
    have hlt : i < l.length := by omega
    rw [understorylaw01_EncData.l0, if_pos (by omega), if_pos (by omega), encCheck _ (hr _ (rd_mem l i hlt)), refCheck]
    simp only [Option.bind_some, if_true]
    rw [w64 _ (by omega) (by omega), show ((i : Int) + 1) = ((i + 1 : Nat) : Int) by omega]
    exact ih k (i + 1) (by omega) (by omega) (by omega)
theorem data_j0 (k : Nat) (hk : 21 ≤ k) (l m : List S49) (ds : List Bool) : understorylaw01_EncData.j0 k l m ds true = some true := by
  obtain ⟨k, rfl⟩ : ∃ j, k = j + 1 := ⟨k - 1, by omega⟩
  rw [understorylaw01_EncData.j0, if_pos rfl, sane_le k (by omega)]; rfl
theorem EncData (l m : List S49) (ds : List Bool) (hl : DataOk l) (hm : DataOk m) : ∃ k, understorylaw01_EncData.f k l m ds = some true := by
  refine ⟨1002000 + l.length + m.length, ?_⟩
  obtain ⟨b, e, hb⟩ := few_spec l (fun x hx => (hl.2 x hx).2.2) hl.1 (1002000 + l.length + m.length) (by omega)
  obtain ⟨c, e2, hc⟩ := few_spec m (fun x hx => (hm.2 x hx).2.2) hm.1 (1002000 + l.length + m.length) (by omega)
  rw [understorylaw01_EncData.f, e, e2]
  simp only [Option.bind_some]
  cases b with
  | false => rw [if_neg (by simp)]; exact data_j0 _ (by omega) _ _ _
  | true =>
    rw [if_pos rfl]
    cases c with
    | false => exact data_j0 _ (by omega) _ _ _
    | true =>
      obtain ⟨n, hn⟩ : ∃ n, 1002000 + l.length + m.length = n + 1 := ⟨1001999 + l.length + m.length, by omega⟩
      rw [hn, understorylaw01_EncData.j0, if_neg (by simp)]
      have h60 := (hb rfl).1
      exact data_l0 ds l m (fun x hx => wf_rangeD _ (hl.2 x hx).2.1) (hb rfl).2 (hc rfl).2 h60 (hc rfl).1 l.length n 0 rfl (by omega) (by omega)
end Go.Proofs.Ythpabgiicglbmaa.Pure
