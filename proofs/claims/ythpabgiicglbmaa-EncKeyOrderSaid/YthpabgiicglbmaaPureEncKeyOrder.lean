/- EncKeyOrder, the plain law. -/
import Derived.Test.YthpabgiicglbmaaPk
import Derived.Test.YthpabgiicglbmaaEx15
namespace Go.Proofs.Ythpabgiicglbmaa.Pure
set_option linter.unusedVariables false
set_option linter.unusedSimpArgs false
open Go.RowKit Go.Proofs.Ythpabgiicglbmaa.E Go.Proofs.YthpabgiicglbmaaW.PrintWords Go.Proofs.YthpabgiicglbmaaW.PrintLast

theorem keyOrder_true (k : Nat) (hk : 21 ≤ k) (l m : List S49) (ds : List Bool) : understorylaw01_EncKeyOrder.j0 k l m ds true = some true := by
  obtain ⟨k, rfl⟩ : ∃ j, k = j + 1 := ⟨k - 1, by omega⟩
  rw [understorylaw01_EncKeyOrder.j0, if_pos rfl, sane_le k (by omega)]; rfl
theorem EncKeyOrder (l m : List S49) (ds : List Bool) (hl : DataOk l) (hm : DataOk m) : ∃ k, understorylaw01_EncKeyOrder.f k l m ds = some true := by
  refine ⟨2000 + l.length + m.length, ?_⟩
  obtain ⟨b, e, hb⟩ := few_spec l (fun x hx => (hl.2 x hx).2.2) hl.1 (2000 + l.length + m.length) (by omega)
  obtain ⟨c, e2, hc⟩ := few_spec m (fun x hx => (hm.2 x hx).2.2) hm.1 (2000 + l.length + m.length) (by omega)
  rw [understorylaw01_EncKeyOrder.f, e, e2]
  simp only [Option.bind_some]
  cases b with
  | false => rw [if_neg (by simp)]; exact keyOrder_true _ (by omega) _ _ _
  | true =>
    rw [if_pos rfl]
    cases c with
    | false => rw [if_neg (by simp)]; exact keyOrder_true _ (by omega) _ _ _
    | true =>
      have b1 := hb rfl
      have c1 := hc rfl
      rw [if_pos rfl, valid_spec l (by omega) _ (by omega), valid_spec m (by omega) _ (by omega)]
      simp only [Option.bind_some]
      cases h1 : l.all validS with
      | false => rw [if_neg (by simp)]; exact keyOrder_true _ (by omega) _ _ _
      | true =>
        rw [if_pos rfl]
        cases h2 : m.all validS with
        | false => exact keyOrder_true _ (by omega) _ _ _
        | true =>
          have ol : ∀ x ∈ l, DatOk x ∧ x.f2.size ≤ 100000 := fun x hx => ⟨⟨List.all_eq_true.mp h1 x hx, wf_rangeD _ (hl.2 x hx).2.1⟩, by have := b1.2 x hx; omega⟩
          have om : ∀ x ∈ m, DatOk x ∧ x.f2.size ≤ 100000 := fun x hx => ⟨⟨List.all_eq_true.mp h2 x hx, wf_rangeD _ (hm.2 x hx).2.1⟩, by have := c1.2 x hx; omega⟩
          obtain ⟨n, hn⟩ : ∃ n, 2000 + l.length + m.length = n + 1 := ⟨1999 + l.length + m.length, by omega⟩
          rw [hn, understorylaw01_EncKeyOrder.j0, if_neg (by simp), encPutKey ds l ol (by omega), encPutKey ds m om (by omega), sane_le n (by omega)]
          simp only [Option.bind_some, if_true, encCompare, enc_CompareKeys.f, cmp_keys ds 0 l m (fun x hx => (ol x hx).1) (fun x hx => (om x hx).1)]
          simp
end Go.Proofs.Ythpabgiicglbmaa.Pure
