import Derived.Test.YthpabgiicglbmaaPe
import Derived.Test.YthpabgiicglbmaaEx18
namespace Go.Proofs.Ythpabgiicglbmaa.Pure
set_option linter.unusedVariables false
set_option linter.unusedSimpArgs false
open Go.RowKit Go.Proofs.Ythpabgiicglbmaa.E Go.Proofs.YthpabgiicglbmaaW.PrintWords Go.Proofs.YthpabgiicglbmaaW.PrintLast

/-- After, from the first byte on -/
def aft : Bytes → Option Bytes
  | [] => none
  | b :: r => match aft r with | some t => some (b :: t) | none => if b = 255 then none else some [b + 1]
theorem aft_snoc (l : Bytes) (b : UInt8) : aft (l ++ [b]) = if b = 255 then aft l else some (l ++ [b + 1]) := by
  induction l with
  | nil => simp [aft]
  | cons c r ih =>
    rw [List.cons_append, aft, ih]
    by_cases h : b = 255
    · simp [h, aft]
    · simp [h]
theorem afterL_aft (l : Bytes) : afterL l = aft l := by
  suffices h : ∀ n (l : Bytes), l.length = n → afterL l = aft l from h _ l rfl
  intro n
  induction n with
  | zero => intro l hl; rw [List.length_eq_zero_iff.mp hl]; rfl
  | succ n ih =>
    intro l hl
    rcases List.eq_nil_or_concat l with rfl | ⟨r, b, rfl⟩
    · rfl
    · rw [List.concat_eq_append] at *
      rw [afterL_snoc, aft_snoc, ih r (by simpa using hl)]
/-- does the sequence lie from p to what comes after p -/
def inside (p x : Bytes) : Prop := cmpL p x ≠ 1 ∧ match aft p with | none => True | some s => cmpL x s = -1
theorem cmpL_nil_left (x : Bytes) : cmpL [] x ≠ 1 := by cases x <;> simp [cmpL]
theorem cmpL_nil_right (x : Bytes) : cmpL x [] ≠ -1 := by cases x <;> simp [cmpL]
theorem cmpL_cons (x y : UInt8) (a b : Bytes) : cmpL (x :: a) (y :: b) = if x.toNat < y.toNat then -1 else if y.toNat < x.toNat then 1 else cmpL a b := rfl
theorem cmpL_same (x : UInt8) (a b : Bytes) : cmpL (x :: a) (x :: b) = cmpL a b := by rw [cmpL_cons, if_neg (by omega), if_neg (by omega)]
theorem succ_toNat (b : UInt8) (h : b ≠ 255) : (b + 1).toNat = b.toNat + 1 := by
  have hlt := b.toNat_lt
  have : b.toNat ≠ 255 := fun e => h (UInt8.toNat_inj.mp e)
  rw [UInt8.toNat_add]
  show (b.toNat + 1) % 256 = b.toNat + 1
  omega
theorem inside_iff (p x : Bytes) : inside p x ↔ (p.length ≤ x.length ∧ x.take p.length = p) := by
  induction p generalizing x with
  | nil => simp [inside, aft, cmpL_nil_left]
  | cons b r ih =>
    cases x with
    | nil => simp [inside, cmpL]
    | cons c y =>
      have hb := b.toNat_lt
      have hc := c.toNat_lt
      rcases Nat.lt_trichotomy b.toNat c.toNat with h | h | h
      · have hne : ¬ c = b := fun e => by rw [e] at h; omega
        constructor
        · rintro ⟨_, h2⟩
          exfalso
          rw [aft] at h2
          cases ha : aft r with
          | some t =>
            rw [ha] at h2
            simp only at h2
            rw [cmpL_cons, if_neg (by omega), if_pos h] at h2
            exact absurd h2 (by decide)
          | none =>
            rw [ha] at h2
            have hb2 : b ≠ 255 := fun e => by
              have : b.toNat = 255 := by rw [e]; rfl
              omega
            simp only [if_neg hb2] at h2
            have hs := succ_toNat b hb2
            rw [cmpL_cons, if_neg (by omega)] at h2
            by_cases h3 : (b + 1).toNat < c.toNat
            · rw [if_pos h3] at h2; exact absurd h2 (by decide)
            · rw [if_neg h3] at h2; exact cmpL_nil_right y h2
        · rintro ⟨_, h2⟩
          simp only [List.length_cons, List.take_succ_cons, List.cons.injEq] at h2
          exact absurd h2.1 hne
      · have he : b = c := UInt8.toNat_inj.mp h
        subst he
        have := ih y
        simp only [List.length_cons, List.take_succ_cons, List.cons.injEq, true_and, Nat.add_le_add_iff_right]
        rw [← this]
        simp only [inside, cmpL_same, aft]
        cases ha : aft r with
        | some t => simp only [cmpL_same]
        | none =>
          by_cases hb2 : b = 255
          · simp [hb2]
          · have hs := succ_toNat b hb2
            simp only [if_neg hb2]
            rw [cmpL_cons, if_pos (by omega)]
            simp
      · constructor
        · rintro ⟨h1, _⟩
          rw [cmpL_cons, if_neg (by omega), if_pos h] at h1
          exact absurd rfl h1
        · rintro ⟨_, h2⟩
          simp only [List.length_cons, List.take_succ_cons, List.cons.injEq] at h2
          rw [h2.1] at h
          omega
theorem inside_cmp (p x : Bytes) : (cmpL p x ≤ 0 ∧ match aft p with | none => True | some s => cmpL x s < 0) ↔ inside p x := by
  have h1 := cmpL_vals p x
  have e : cmpL p x ≤ 0 ↔ cmpL p x ≠ 1 := by omega
  rw [inside, e]
  cases aft p with
  | none => rfl
  | some s =>
    have h2 := cmpL_vals x s
    have e2 : cmpL x s < 0 ↔ cmpL x s = -1 := by omega
    simp only [e2]

theorem ranges_end (k : Nat) (p : Bytes) (L : List ByteArray) (i : Nat) (hi : i = L.length) (hk : 21 ≤ k) : understorylaw01_EncRanges.l0 k (ofL p) (aftR (aft p)).1 (aftR (aft p)).2 L (i : Int) = some true := by
  obtain ⟨k, rfl⟩ : ∃ j, k = j + 1 := ⟨k - 1, by omega⟩
  unfold understorylaw01_EncRanges.l0
  rw [if_neg (by omega), sane_le k (by omega)]
  simp only [Option.bind_some, if_true]
  cases aft p with
  | none =>
    show some ((⟨#[]⟩ : ByteArray).toList == ([] : List UInt8)) = some true
    rw [show (⟨#[]⟩ : ByteArray).toList = [] from toList_ofL []]; rfl
  | some s => rfl
theorem ranges_step (k : Nat) (p x : Bytes) (L : List ByteArray) (i : Nat) (hl : L.length ≤ 3) (hi : L[i]? = some (ofL x)) (h : understorylaw01_EncRanges.l0 k (ofL p) (aftR (aft p)).1 (aftR (aft p)).2 L ((i + 1 : Nat) : Int) = some true) :
    understorylaw01_EncRanges.l0 (k + 2) (ofL p) (aftR (aft p)).1 (aftR (aft p)).2 L (i : Int) = some true := by
  obtain ⟨hlt, hg⟩ := List.getElem?_eq_some_iff.mp hi
  have hr : rdOf ByteArray.empty L (i : Int) = ofL x := by simp [rdOf, hlt, hg]
  have hw : wrap64 ((i : Int) + 1) = ((i + 1 : Nat) : Int) := by rw [w64 _ (by omega) (by omega)]; omega
  have hin := (inside_cmp p x).trans (inside_iff p x)
  have key : understorylaw01_EncRanges.j1 (k + 1) (ofL p) (aftR (aft p)).1 (aftR (aft p)).2 L (i : Int) (decide (p.length ≤ x.length ∧ x.take p.length = p)) = some true := by
    unfold understorylaw01_EncRanges.j1
    rw [if_pos (by omega), if_pos (by omega), hr, encCompare]
    simp only [Option.bind_some]
    by_cases hc : cmpL p x ≤ 0
    · rw [if_pos hc]
      cases ha : aft p with
      | none =>
        rw [ha] at hin h
        have hd : decide (p.length ≤ x.length ∧ x.take p.length = p) = true := decide_eq_true (hin.mp ⟨hc, trivial⟩)
        rw [hd]
        simp only [aftR, Bool.false_eq_true, if_false, bne_self_eq_false]
        rw [hw]; exact h
      | some s =>
        rw [ha] at hin h
        simp only [aftR, if_true, encCompare, Option.bind_some]
        have hd : decide (p.length ≤ x.length ∧ x.take p.length = p) = decide (cmpL x s < 0) := by
          rw [Bool.eq_iff_iff, decide_eq_true_eq, decide_eq_true_eq, ← hin]
          exact ⟨fun h => h.2, fun h => ⟨hc, h⟩⟩
        rw [hd, bne_self_eq_false, if_neg (by simp), hw]
        exact h
    · rw [if_neg hc]
      have hd : decide (p.length ≤ x.length ∧ x.take p.length = p) = false := decide_eq_false (fun hh => hc (hin.mpr hh).1)
      rw [hd]
      simp only [bne_self_eq_false, Bool.false_eq_true, if_false]
      rw [hw]; exact h
  unfold understorylaw01_EncRanges.l0
  rw [if_pos (by omega), if_pos (by omega), hr, size_ofL, size_ofL]
  by_cases hs : p.length ≤ x.length
  · rw [if_pos (by omega), if_pos (by omega), if_pos (by omega), Int.toNat_natCast, extract_take, toList_ofL, toList_ofL]
    rw [show (x.take p.length == p) = decide (p.length ≤ x.length ∧ x.take p.length = p) by rw [Bool.eq_iff_iff, decide_eq_true_eq, beq_iff_eq]; exact ⟨fun h => ⟨hs, h⟩, fun h => h.2⟩]
    exact key
  · rw [if_neg (by omega)]
    rw [show false = decide (p.length ≤ x.length ∧ x.take p.length = p) from (decide_eq_false (fun h => hs h.1)).symm]
    exact key
theorem EncRanges : understorylaw01_EncRanges.Pure := by
  intro a0 a1 a2 h0 h1 h2
  obtain ⟨p, rfl⟩ : ∃ l, a0 = ofL l := ⟨toL a0, (ofL_toL a0).symm⟩
  obtain ⟨x, rfl⟩ : ∃ l, a1 = ofL l := ⟨toL a1, (ofL_toL a1).symm⟩
  obtain ⟨m, rfl⟩ : ∃ l, a2 = ofL l := ⟨toL a2, (ofL_toL a2).symm⟩
  refine ⟨4000, ?_⟩
  rw [understorylaw01_EncRanges.f, short_spec _ (by simp) _ (by simp), sane_le 4000 (by decide)]
  simp only [Option.bind_some]
  by_cases hs : ([ofL p, ofL x, ofL m] : List ByteArray).all (fun s => decide (s.size ≤ 3000)) = true
  · have hs2 : p.length ≤ 3000 := by
      have h2 := hs
      simp only [List.all_cons, List.all_nil, size_ofL, Bool.and_true, Bool.and_eq_true] at h2
      exact of_decide_eq_true h2.1
    rw [if_pos hs, encAfter p (by omega) _ (by omega), afterL_aft]
    simp only [Option.bind_some]
    rw [if_pos (by omega), append_ofL]
    refine ranges_step 3998 p x _ 0 (by simp) rfl ?_
    refine ranges_step 3996 p (p ++ m) _ 1 (by simp) rfl ?_
    refine ranges_step 3994 p p _ 2 (by simp) rfl ?_
    exact ranges_end 3994 p _ 3 rfl (by decide)
  · rw [if_neg hs]
end Go.Proofs.Ythpabgiicglbmaa.Pure
