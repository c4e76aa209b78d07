import Derived.Test.YthpabgiicglbmaaPe
import Derived.Test.YthpabgiicglbmaaEx17
namespace Go.Proofs.Ythpabgiicglbmaa.Pure
set_option linter.unusedVariables false
set_option linter.unusedSimpArgs false
open Go.RowKit Go.Proofs.Ythpabgiicglbmaa.E Go.Proofs.YthpabgiicglbmaaW.PrintWords Go.Proofs.YthpabgiicglbmaaW.PrintLast

/-- Between, from the first byte on -/
def btw : Bytes → Bytes → Bytes
  | [], _ => [0]
  | x :: _, [] => [x]
  | x :: a, y :: b => if x = y then x :: btw a b else [x + 1]
theorem cmpL_cons' (x y : UInt8) (a b : Bytes) : cmpL (x :: a) (y :: b) = if x.toNat < y.toNat then -1 else if y.toNat < x.toNat then 1 else cmpL a b := rfl
theorem cmpL_same' (x : UInt8) (a b : Bytes) : cmpL (x :: a) (x :: b) = cmpL a b := by rw [cmpL_cons', if_neg (by omega), if_neg (by omega)]
theorem cmpL_nil' (x : Bytes) : cmpL x [] ≠ -1 := by cases x <;> simp [cmpL]
theorem up_toNat (x y : UInt8) (h : x.toNat < y.toNat) : (x + 1).toNat = x.toNat + 1 := by
  have hlt := y.toNat_lt
  rw [UInt8.toNat_add]
  show (x.toNat + 1) % 256 = x.toNat + 1
  omega
theorem between_btw (a b : Bytes) (h : cmpL a b = -1) : betweenL a b = some (btw a b) := by
  rw [betweenL, if_pos h]
  congr 1
  fun_induction btw a b with
  | case1 b => rw [lcp_nil_left]; simp
  | case2 x a => exact absurd h (cmpL_nil' _)
  | case3 x a b ih =>
    rw [cmpL_same'] at h
    rw [lcp, if_pos rfl, ← ih h]
    simp
  | case4 x a y b hne => rw [lcp, if_neg hne]; simp
theorem btw_lcp (a b : Bytes) (h : cmpL a b = -1) : (btw a b).length = lcp a b + 1 ∧ (btw a b).take (lcp a b) = a.take (lcp a b) := by
  have := between_btw a b h
  rw [betweenL, if_pos h] at this
  have hl := (lcp_le a b).1
  obtain he := Option.some.inj this
  rw [← he]
  constructor
  · simp; omega
  · rw [List.take_append_of_le_length (by simp; omega), List.take_take, Nat.min_self]
theorem btw_gt (a b : Bytes) (h : cmpL a b = -1) : cmpL a (btw a b) = -1 := by
  fun_induction btw a b with
  | case1 b => rfl
  | case2 x a => exact absurd h (cmpL_nil' _)
  | case3 x a b ih => rw [cmpL_same'] at h ⊢; exact ih h
  | case4 x a y b hne =>
    rw [cmpL_cons'] at h
    by_cases h1 : x.toNat < y.toNat
    · rw [cmpL_cons', if_pos (by rw [up_toNat x y h1]; omega)]
    · by_cases h2 : y.toNat < x.toNat
      · rw [if_neg h1, if_pos h2] at h; exact absurd h (by decide)
      · exact absurd (UInt8.toNat_inj.mp (show x.toNat = y.toNat by omega)) hne
theorem btw_le (a b : Bytes) (h : cmpL a b = -1) : cmpL (btw a b) b ≤ 0 := by
  fun_induction btw a b with
  | case1 b =>
    cases b with
    | nil => cases h
    | cons y b =>
      rw [cmpL_cons']
      by_cases h1 : (0 : UInt8).toNat < y.toNat
      · rw [if_pos h1]; decide
      · rw [if_neg h1, if_neg (by simp)]
        cases b <;> simp [cmpL]
  | case2 x a => exact absurd h (cmpL_nil' _)
  | case3 x a b ih => rw [cmpL_same'] at h ⊢; exact ih h
  | case4 x a y b hne =>
    rw [cmpL_cons'] at h
    by_cases h1 : x.toNat < y.toNat
    · have hu := up_toNat x y h1
      rw [cmpL_cons', hu]
      by_cases h2 : x.toNat + 1 < y.toNat
      · rw [if_pos h2]; decide
      · rw [if_neg h2, if_neg (by omega)]
        cases b <;> simp [cmpL]
    · by_cases h2 : y.toNat < x.toNat
      · rw [if_neg h1, if_pos h2] at h; exact absurd h (by decide)
      · exact absurd (UInt8.toNat_inj.mp (show x.toNat = y.toNat by omega)) hne
theorem btw_least (a b z : Bytes) (h : cmpL a b = -1) (h1 : cmpL a z = -1) (h2 : cmpL z b ≤ 0) : (btw a b).length ≤ z.length ∧ ((btw a b).length = z.length → cmpL z (btw a b) ≠ -1) := by
  fun_induction btw a b generalizing z with
  | case1 b =>
    cases z with
    | nil => exact absurd h1 (by simp [cmpL])
    | cons c w =>
      refine ⟨by simp, fun hl => ?_⟩
      have : w = [] := by cases w with | nil => rfl | cons d v => simp at hl
      rw [this, cmpL_cons', if_neg (by simp)]
      split
      · decide
      · simp [cmpL]
  | case2 x a => exact absurd h (cmpL_nil' _)
  | case3 a x b ih =>
    rw [cmpL_same'] at h
    cases z with
    | nil => exact absurd h1 (cmpL_nil' _)
    | cons c w =>
      rw [cmpL_cons'] at h1 h2
      by_cases e1 : x.toNat < c.toNat
      · rw [if_neg (by omega), if_pos e1] at h2
        exact absurd h2 (by decide)
      · by_cases e2 : c.toNat < x.toNat
        · rw [if_neg e1, if_pos e2] at h1
          exact absurd h1 (by decide)
        · have : c = x := UInt8.toNat_inj.mp (by omega)
          subst this
          rw [if_neg e1, if_neg e2] at h1 h2
          have := ih w h h1 h2
          simp only [List.length_cons, cmpL_same', Nat.add_right_cancel_iff]
          exact ⟨by omega, this.2⟩
  | case4 x a y b hne =>
    cases z with
    | nil => exact absurd h1 (cmpL_nil' _)
    | cons c w =>
      refine ⟨by simp, fun hl => ?_⟩
      have hw : w = [] := by cases w with | nil => rfl | cons d v => simp at hl
      subst hw
      rw [cmpL_cons'] at h
      by_cases e0 : x.toNat < y.toNat
      · have hu := up_toNat x y e0
        rw [cmpL_cons'] at h1
        by_cases e1 : x.toNat < c.toNat
        · rw [cmpL_cons', hu, if_neg (by omega)]
          split
          · decide
          · simp [cmpL]
        · by_cases e2 : c.toNat < x.toNat
          · rw [if_neg e1, if_pos e2] at h1
            exact absurd h1 (by decide)
          · rw [if_neg e1, if_neg e2] at h1
            exact absurd h1 (cmpL_nil' _)
      · by_cases e2 : y.toNat < x.toNat
        · rw [if_neg e0, if_pos e2] at h; exact absurd h (by decide)
        · exact absurd (UInt8.toNat_inj.mp (show x.toNat = y.toNat by omega)) hne

theorem EncSeparates : understorylaw01_EncSeparates.Pure := by
  intro a0 a1 a2 _ _ _
  obtain ⟨a, rfl⟩ : ∃ l, a0 = ofL l := ⟨toL a0, (ofL_toL a0).symm⟩
  obtain ⟨b, rfl⟩ : ∃ l, a1 = ofL l := ⟨toL a1, (ofL_toL a1).symm⟩
  obtain ⟨z, rfl⟩ : ∃ l, a2 = ofL l := ⟨toL a2, (ofL_toL a2).symm⟩
  refine ⟨4000, ?_⟩
  rw [understorylaw01_EncSeparates.f, short_spec _ (by simp) _ (by simp), sane_le 4000 (by decide)]
  simp only [Option.bind_some]
  by_cases hs : ([ofL a, ofL b, ofL z] : List ByteArray).all (fun s => decide (s.size ≤ 3000)) = true
  · have hs2 : a.length ≤ 3000 ∧ b.length ≤ 3000 := by
      have h2 := hs
      simp only [List.all_cons, List.all_nil, size_ofL, Bool.and_true, Bool.and_eq_true] at h2
      exact ⟨of_decide_eq_true h2.1, of_decide_eq_true h2.2.1⟩
    have hv := cmpL_vals a b
    have hl := lcp_le a b
    rw [if_pos hs, encBetween a b (by omega) (by omega) _ (by omega), encCompare]
    simp only [Option.bind_some]
    by_cases hc : cmpL a b = -1
    · have hb := btw_lcp a b hc
      have hsz : ((ofL (btw a b)).size : Int) = (lcp a b : Int) + 1 := by rw [size_ofL, hb.1]; omega
      rw [if_neg (by omega), encPrefix a b (by omega) (by omega) _ (by omega), between_btw a b hc]
      simp only [Option.bind_some, btwR, if_true, encCompare, btw_gt a b hc]
      rw [if_neg (by decide)]
      have hle := btw_le a b hc
      rw [if_neg (by omega), w64 _ (by omega) (by omega)]
      refine (if_pos hsz).trans ?_
      refine (if_pos (by omega)).trans ?_
      refine (if_pos (show (lcp a b : Int) ≤ ((ofL (btw a b)).size : Int) by omega)).trans ?_
      refine (if_pos (show (lcp a b : Int) ≤ ((ofL a).size : Int) by rw [size_ofL]; omega)).trans ?_
      rw [Int.toNat_natCast, extract_take, extract_take, toList_ofL, toList_ofL, hb.2, bne_self_eq_false]
      unfold understorylaw01_EncSeparates.j0
      simp only [Bool.false_eq_true, if_false, encCompare, Option.bind_some, sane_le 3999 (by decide)]
      by_cases h1 : cmpL a z < 0
      · rw [if_pos h1]
        by_cases h2 : cmpL z b ≤ 0
        · have h3 := btw_least a b z hc (by have := cmpL_vals a z; omega) h2
          rw [if_pos h2, if_neg (by rw [size_ofL, size_ofL]; omega)]
          by_cases h4 : (btw a b).length = z.length
          · have h5 := h3.2 h4
            have h6 := cmpL_vals z (btw a b)
            rw [if_pos (by rw [size_ofL, size_ofL]; omega), if_neg (by omega)]
          · rw [if_neg (by rw [size_ofL, size_ofL]; omega)]
        · rw [if_neg h2]
      · rw [if_neg h1]
    · rw [if_pos (by omega), betweenL, if_neg hc]
      refine (if_pos trivial).trans ?_
      show some ((⟨#[]⟩ : ByteArray).toList == ([] : List UInt8)) = some true
      rw [show (⟨#[]⟩ : ByteArray).toList = [] from toList_ofL []]; rfl
  · rw [if_neg hs]
end Go.Proofs.Ythpabgiicglbmaa.Pure
