/- EncPrefixFree, the plain law. -/
import Derived.Test.YthpabgiicglbmaaPm
import Derived.Test.YthpabgiicglbmaaEx16
namespace Go.Proofs.Ythpabgiicglbmaa.Pure
set_option linter.unusedVariables false
set_option linter.unusedSimpArgs false
open Go.RowKit Go.Proofs.Ythpabgiicglbmaa.E Go.Proofs.YthpabgiicglbmaaW.PrintWords Go.Proofs.YthpabgiicglbmaaW.PrintLast

theorem begins_spec (a b : Bytes) (ha : a.length ≤ 1000000000) : understorylaw01_begins.f (ofL a) (ofL b) = some (decide (a.length < b.length ∧ b.take a.length = a)) := by
  rw [understorylaw01_begins.f, size_ofL, size_ofL]
  by_cases h : a.length < b.length
  · rw [if_pos (by omega), if_pos (by omega), if_pos (by omega), Int.toNat_natCast, extract_take, toList_ofL, toList_ofL]
    congr 1
    rw [Bool.eq_iff_iff, decide_eq_true_eq, beq_iff_eq]
    exact ⟨fun e => ⟨h, e⟩, fun e => e.2⟩
  · rw [if_neg (by omega), decide_eq_false (fun e => h e.1)]
theorem begins_pf (a b : Bytes) (ha : a.length ≤ 1000000000) (h : pf a b) : understorylaw01_begins.f (ofL a) (ofL b) = some false := by
  rw [begins_spec a b ha, decide_eq_false]
  rintro ⟨h1, h2⟩
  rcases h with rfl | ⟨h3, _⟩
  · omega
  · rw [lcp_take a b h2 (by omega)] at h3; omega
theorem free_j1 (k : Nat) (hk : 30 ≤ k) (dv : Bool) (x y : S49) (hx : -9223372036854775808 ≤ x.f1 ∧ x.f1 ≤ 9223372036854775807) (hy : -9223372036854775808 ≤ y.f1 ∧ y.f1 ≤ 9223372036854775807) (sx : x.f2.size ≤ 3000) (sy : y.f2.size ≤ 3000) (vx : validS x = true) :
    understorylaw01_EncPrefixFree.j1 k dv (!validS y) x.f0 x.f1 x.f2 y.f0 y.f1 y.f2 = some true := by
  obtain ⟨k, rfl⟩ : ∃ j, k = j + 1 := ⟨k - 1, by omega⟩
  rw [understorylaw01_EncPrefixFree.j1]
  cases vy : validS y with
  | false => rw [if_pos (show (!false) = true from rfl), sane_le k (by omega)]; rfl
  | true =>
    have ox : ∀ z ∈ [x], DatOk z ∧ z.f2.size ≤ 100000 := fun z hz => by
      have : z = x := by simpa using hz
      subst this; exact ⟨⟨vx, hx⟩, by omega⟩
    have oy : ∀ z ∈ [y], DatOk z ∧ z.f2.size ≤ 100000 := fun z hz => by
      have : z = y := by simpa using hz
      subst this; exact ⟨⟨vy, hy⟩, by omega⟩
    rw [if_neg (by simp), encPutKey [dv] [x] ox (by simp), encPutKey [dv] [y] oy (by simp), sane_le k (by omega)]
    have hp := (encD_pf (desc [dv] 0) x y ⟨vx, hx⟩ ⟨vy, hy⟩).1
    have e : ∀ z, encK [dv] 0 [z] = encD (desc [dv] 0) z := fun z => by simp [encK]
    rw [e, e]
    simp only [Option.bind_some, if_true]
    rw [begins_pf _ _ (by
      have hpl := payL_len x (by omega)
      obtain ⟨r, er, lr⟩ := datum_head x vx
      have hdp := datum_pay x x.f0.toNat (by have := dat_form x vx; omega) lr
      have : (encD (desc [dv] 0) x).length = (datumL x).length := by unfold encD; split; (· rw [flip_len]); (· rfl)
      rw [this, hdp]
      simp only [List.length_cons]
      omega) hp]
    rfl
theorem free_j0 (k : Nat) (hk : 31 ≤ k) (dv : Bool) (x y : S49) (hx : -9223372036854775808 ≤ x.f1 ∧ x.f1 ≤ 9223372036854775807) (hy : -9223372036854775808 ≤ y.f1 ∧ y.f1 ≤ 9223372036854775807) (sx : x.f2.size ≤ 3000) (sy : y.f2.size ≤ 3000) :
    understorylaw01_EncPrefixFree.j0 k dv false x.f0 x.f1 x.f2 y.f0 y.f1 y.f2 = some true := by
  obtain ⟨k, rfl⟩ : ∃ j, k = j + 1 := ⟨k - 1, by omega⟩
  rw [understorylaw01_EncPrefixFree.j0, if_neg (by simp), refValid, refValid]
  simp only [Option.bind_some]
  cases vx : validS x with
  | true =>
    rw [if_pos rfl]
    exact free_j1 k (by omega) dv x y hx hy sx sy vx
  | false =>
    rw [if_neg (by simp)]
    obtain ⟨k, rfl⟩ : ∃ j, k = j + 1 := ⟨k - 1, by omega⟩
    rw [understorylaw01_EncPrefixFree.j1, if_pos rfl, sane_le k (by omega)]; rfl
theorem EncPrefixFree (m n : Int) (a0 b0 : ByteArray) (x y : S49) (dv : Bool) (wm : (Lit.int .i64 m).wf = true) (wn : (Lit.int .i64 n).wf = true) (ha : a0.size ≤ 140737488351232) (hb : b0.size ≤ 140737488351232) (wx0 : (Lit.int .i64 x.f0).wf = true) (wx : (Lit.int .i64 x.f1).wf = true) (wy0 : (Lit.int .i64 y.f0).wf = true) (wy : (Lit.int .i64 y.f1).wf = true) :
    ∃ k, understorylaw01_EncPrefixFree.f k m n a0 b0 x.f0 x.f1 x.f2 y.f0 y.f1 y.f2 dv = some true := by
  obtain ⟨a, rfl⟩ : ∃ l, a0 = ofL l := ⟨toL a0, (ofL_toL a0).symm⟩
  obtain ⟨b, rfl⟩ : ∃ l, b0 = ofL l := ⟨toL b0, (ofL_toL b0).symm⟩
  have hx := wf_rangeD _ wx
  have hy := wf_rangeD _ wy
  refine ⟨100, ?_⟩
  rw [understorylaw01_EncPrefixFree.f, short_spec _ (by simp) _ (by simp), sane_le 100 (by decide)]
  simp only [Option.bind_some]
  by_cases hs : ([ofL a, ofL b, x.f2, y.f2] : List ByteArray).all (fun s => decide (s.size ≤ 3000)) = true
  · have hs2 : a.length ≤ 3000 ∧ b.length ≤ 3000 ∧ x.f2.size ≤ 3000 ∧ y.f2.size ≤ 3000 := by
      have h2 := hs
      simp only [List.all_cons, List.all_nil, size_ofL, Bool.and_true, Bool.and_eq_true] at h2
      exact ⟨of_decide_eq_true h2.1, of_decide_eq_true h2.2.1, of_decide_eq_true h2.2.2.1, of_decide_eq_true h2.2.2.2⟩
    have h0 := free_j0 100 (by decide) dv x y hx hy hs2.2.2.1 hs2.2.2.2
    have hlen : (escL a).length ≤ 1000000000 := by have := escL_len a; omega
    have bt := begins_pf (escL a) (escL b) hlen (pf_esc a b)
    have bi := begins_pf (putIntL m) (putIntL n) (by rw [putInt_len]; decide) (pf_length _ _ (by rw [putInt_len, putInt_len]))
    rw [if_pos hs, putInt_fuel m 100 (by decide), putInt_fuel n 100 (by decide), encPutText' a (by omega), encPutText' b (by omega)]
    simp only [Option.bind_some, bt, bi]
    by_cases h1 : m < 0 ∨ 4611686018427387904 < m
    · rw [encPutUint_bad m h1 100 (by decide)]
      by_cases h3 : n < 0 ∨ 4611686018427387904 < n
      · rw [encPutUint_bad n h3 100 (by decide)]
        simp only [Option.bind_some]
        rw [if_neg (by decide), if_neg (by decide)]; exact h0
      · obtain ⟨z, rfl⟩ : ∃ z : Nat, n = z := ⟨n.toNat, by omega⟩
        rw [encPutUint_ok z (by omega) 100 (by decide)]
        simp only [Option.bind_some]
        rw [if_neg (by decide), if_neg (by decide)]; exact h0
    · obtain ⟨w, rfl⟩ : ∃ w : Nat, m = w := ⟨m.toNat, by omega⟩
      rw [encPutUint_ok w (by omega) 100 (by decide)]
      by_cases h3 : n < 0 ∨ 4611686018427387904 < n
      · rw [encPutUint_bad n h3 100 (by decide)]
        simp only [Option.bind_some]
        rw [if_pos trivial, if_neg (by decide), if_neg (by decide)]; exact h0
      · obtain ⟨z, rfl⟩ : ∃ z : Nat, n = z := ⟨n.toNat, by omega⟩
        rw [encPutUint_ok z (by omega) 100 (by decide)]
        simp only [Option.bind_some]
        have hl : (putUintL w).length ≤ 1000000000 := by
          unfold putUintL
          split
          · simp
          · have := szF_le 8 (w - 240) 1
            simp only [List.length_cons, bigL_length]; omega
        rw [if_pos trivial, if_pos trivial, begins_pf _ _ hl (pf_putUint w z (by omega) (by omega))]
        simp only [Option.bind_some]
        rw [if_neg (by decide), if_neg (by decide)]; exact h0
  · rw [if_neg hs]
end Go.Proofs.Ythpabgiicglbmaa.Pure
