import Derived.Test.YthpabgiicglbmaaPn
import Derived.Test.YthpabgiicglbmaaPd
namespace Go.Proofs.Ythpabgiicglbmaa.Pure
set_option linter.unusedVariables false
set_option linter.unusedSimpArgs false
open Go.RowKit Go.Proofs.Ythpabgiicglbmaa.E Go.Proofs.YthpabgiicglbmaaW.PrintWords Go.Proofs.YthpabgiicglbmaaW.PrintLast

/-- what is told of a slice of data that came in -/
def DataOk (l : List S49) : Prop := l.length ≤ 9223372036854775807 ∧ ∀ x ∈ l, (-9223372036854775808 ≤ x.f0 ∧ x.f0 ≤ 9223372036854775807) ∧ (Lit.int .i64 x.f1).wf = true ∧ x.f2.size ≤ 281474976710656
theorem wf_rangeD (n : Int) (h : (Lit.int .i64 n).wf = true) : -9223372036854775808 ≤ n ∧ n ≤ 9223372036854775807 := by
  have e1 : IntKind.i64.min = -9223372036854775808 := rfl
  have e2 : IntKind.i64.max = 9223372036854775807 := rfl
  simp [Lit.wf] at h
  omega
/-- the same, or different at a place that both have -/
def pf (X Y : Bytes) : Prop := X = Y ∨ (lcp X Y < X.length ∧ lcp X Y < Y.length)
theorem lcp_self (X : Bytes) : lcp X X = X.length := by
  induction X with
  | nil => rfl
  | cons x X ih => rw [lcp, if_pos rfl, ih]; rfl
theorem lcp_full (X Y : Bytes) (h : X.length = Y.length) (he : lcp X Y = X.length) : X = Y := by
  induction X generalizing Y with
  | nil => cases Y with | nil => rfl | cons y Y => simp at h
  | cons x X ih =>
    cases Y with
    | nil => simp at h
    | cons y Y =>
      rw [lcp] at he
      by_cases hxy : x = y
      · rw [if_pos hxy] at he
        rw [hxy, ih Y (by simpa using h) (by simpa using he)]
      · rw [if_neg hxy] at he; simp at he
theorem pf_length (X Y : Bytes) (h : X.length = Y.length) : pf X Y := by
  have hl := lcp_le X Y
  by_cases he : lcp X Y = X.length
  · exact .inl (lcp_full X Y h he)
  · exact .inr ⟨by omega, by omega⟩
theorem pf_cons (x : UInt8) (X Y : Bytes) (h : pf X Y) : pf (x :: X) (x :: Y) := by
  rcases h with rfl | ⟨h0, h1⟩
  · exact .inl rfl
  · refine .inr ?_
    rw [lcp, if_pos rfl]
    simp only [List.length_cons]
    omega
theorem pf_heads (x y : UInt8) (X Y : Bytes) (h : x ≠ y) : pf (x :: X) (y :: Y) := by
  refine .inr ?_
  rw [lcp, if_neg h]
  simp
theorem cmp_app (X Y s t : Bytes) (h0 : lcp X Y < X.length) (h1 : lcp X Y < Y.length) : cmpL (X ++ s) (Y ++ t) = cmpL X Y ∧ cmpL X Y ≠ 0 := by
  induction X generalizing Y with
  | nil => simp at h0
  | cons x X ih =>
    cases Y with
    | nil => simp at h1
    | cons y Y =>
      rw [List.cons_append, List.cons_append, cmpL_head, cmpL_head]
      by_cases e1 : x.toNat < y.toNat
      · rw [if_pos e1, if_pos e1]; exact ⟨rfl, by decide⟩
      · by_cases e2 : y.toNat < x.toNat
        · rw [if_neg e1, if_neg e1, if_pos e2, if_pos e2]; exact ⟨rfl, by decide⟩
        · have : x = y := UInt8.toNat_inj.mp (by omega)
          rw [lcp, if_pos this] at h0 h1
          rw [if_neg e1, if_neg e2, if_neg e1, if_neg e2]
          exact ih Y (by simpa using h0) (by simpa using h1)
theorem cmp_common (X s t : Bytes) : cmpL (X ++ s) (X ++ t) = cmpL s t := by
  induction X with
  | nil => rfl
  | cons x X ih => rw [List.cons_append, List.cons_append, cmpL_head, if_neg (by omega), if_neg (by omega), ih]
theorem cmp_pf (X Y s t : Bytes) (h : pf X Y) : cmpL (X ++ s) (Y ++ t) = if cmpL X Y ≠ 0 then cmpL X Y else cmpL s t := by
  rcases h with rfl | ⟨h0, h1⟩
  · rw [cmp_common, cmpL_refl, if_neg (by simp)]
  · have := cmp_app X Y s t h0 h1
    rw [this.1, if_pos this.2]
theorem lcp_flip (X Y : Bytes) : lcp (flipL X) (flipL Y) = lcp X Y := by
  induction X generalizing Y with
  | nil => rfl
  | cons x X ih =>
    cases Y with
    | nil => rfl
    | cons y Y =>
      have hx := x.toNat_lt
      have hy := y.toNat_lt
      rw [show flipL (x :: X) = (255 - x) :: flipL X from rfl, show flipL (y :: Y) = (255 - y) :: flipL Y from rfl, lcp, lcp, ih]
      by_cases h : x = y
      · rw [if_pos h, if_pos (by rw [h])]
      · rw [if_neg h, if_neg (fun e => h (UInt8.toNat_inj.mp (by have := congrArg UInt8.toNat e; rw [flip_toNat, flip_toNat] at this; omega)))]
theorem pf_flip (X Y : Bytes) (h : pf X Y) : pf (flipL X) (flipL Y) := by
  rcases h with rfl | h
  · exact .inl rfl
  · refine .inr ?_
    rw [lcp_flip, flip_len, flip_len]; exact h
theorem cmp_pf_flip (X Y : Bytes) (h : pf X Y) : cmpL (flipL X) (flipL Y) = -cmpL X Y := by
  rcases h with rfl | h
  · rw [cmpL_refl, cmpL_refl]; rfl
  · exact cmp_flip X Y h.1 h.2
theorem zero_ne (b : UInt8) (h : ¬ b = 0) : (0 : UInt8) ≠ b := fun e => h e.symm
theorem pf_esc (a b : Bytes) : pf (escL a) (escL b) := by
  induction a generalizing b with
  | nil =>
    cases b with
    | nil => exact .inl rfl
    | cons y b =>
      by_cases h : y = 0
      · subst h; exact pf_cons 0 _ _ (pf_heads 1 255 _ _ (by decide))
      · rw [escL, escL, if_neg h]; exact pf_heads _ _ _ _ (zero_ne y h)
  | cons x a ih =>
    cases b with
    | nil =>
      by_cases h : x = 0
      · subst h; exact pf_cons 0 _ _ (pf_heads 255 1 _ _ (by decide))
      · rw [show escL (x :: a) = x :: escL a from by rw [escL, if_neg h]]; exact pf_heads _ _ _ _ h
    | cons y b =>
      by_cases hx : x = 0
      · by_cases hy : y = 0
        · subst hx hy
          rw [escL, escL, if_pos rfl, if_pos rfl]
          exact pf_cons _ _ _ (pf_cons _ _ _ (ih b))
        · subst hx
          rw [escL, escL, if_pos rfl, if_neg hy]
          exact pf_heads _ _ _ _ (zero_ne y hy)
      · by_cases hy : y = 0
        · subst hy
          rw [escL, escL, if_neg hx, if_pos rfl]
          exact pf_heads _ _ _ _ hx
        · rw [escL, escL, if_neg hx, if_neg hy]
          by_cases h : x = y
          · rw [h]; exact pf_cons _ _ _ (ih b)
          · exact pf_heads _ _ _ _ h
theorem putInt_len (n : Int) : (putIntL n).length = 8 := by rw [putIntL, bigL_length]

/-- what is known of a valid datum whose int fits -/
def DatOk (x : S49) : Prop := validS x = true ∧ -9223372036854775808 ≤ x.f1 ∧ x.f1 ≤ 9223372036854775807
theorem dat_form (x : S49) (h : validS x = true) : (x.f0 = 0 ∧ x.f1 = 0 ∧ x.f2.size = 0) ∨ (x.f0 = 1 ∧ (x.f1 = 0 ∨ x.f1 = 1) ∧ x.f2.size = 0) ∨ (x.f0 = 2 ∧ x.f2.size = 0) ∨ (x.f0 = 3 ∧ x.f1 = 0) := by
  simp only [validS, validB, Bool.or_eq_true, Bool.and_eq_true, beq_iff_eq] at h
  omega
theorem datum_head (x : S49) (h : validS x = true) : ∃ r, datumL x = UInt8.ofNat (x.f0.toNat + 1) :: r ∧ x.f0.toNat ≤ 3 := by
  rcases dat_form x h with ⟨h0, _⟩ | ⟨h0, _⟩ | ⟨h0, _⟩ | ⟨h0, _⟩ <;> simp [datumL, h0]
theorem cmp_datum (x y : S49) (hx : DatOk x) (hy : DatOk y) : pf (datumL x) (datumL y) ∧ cmpL (datumL x) (datumL y) = cmpData x y := by
  by_cases hk : x.f0 = y.f0
  · have hfx := dat_form x hx.1
    have hfy := dat_form y hy.1
    have hz : ¬ cmpI x.f0 y.f0 ≠ 0 := by rw [hk, cmpI_self]; simp
    rw [cmpData, if_neg hz]
    rcases hfx with ⟨h0, h1, h2⟩ | ⟨h0, h1, h2⟩ | ⟨h0, h2⟩ | ⟨h0, h1⟩
    · have g0 : y.f0 = 0 := by omega
      have g : y.f1 = 0 ∧ y.f2.size = 0 := by omega
      have e1 : datumL x = [1] := by simp [datumL, h0]
      have e2 : datumL y = [1] := by simp [datumL, g0]
      rw [e1, e2, h1, g.1, cmpB_empty _ _ h2 g.2]
      exact ⟨.inl rfl, rfl⟩
    · have g0 : y.f0 = 1 := by omega
      have g : (y.f1 = 0 ∨ y.f1 = 1) ∧ y.f2.size = 0 := by omega
      have e1 : datumL x = [2, UInt8.ofNat x.f1.toNat] := by simp [datumL, h0]
      have e2 : datumL y = [2, UInt8.ofNat y.f1.toNat] := by simp [datumL, g0]
      refine ⟨pf_length _ _ (by rw [e1, e2]; rfl), ?_⟩
      rw [e1, e2, cmpB_empty _ _ h2 g.2]
      rcases h1 with h1 | h1 <;> rcases g.1 with g1 | g1 <;> rw [h1, g1] <;> rfl
    · have g0 : y.f0 = 2 := by omega
      have g : y.f2.size = 0 := by omega
      have e1 : datumL x = 3 :: putIntL x.f1 := by simp [datumL, h0]
      have e2 : datumL y = 3 :: putIntL y.f1 := by simp [datumL, g0]
      rw [e1, e2]
      refine ⟨pf_length _ _ (by simp [putInt_len]), ?_⟩
      rw [cmpL_head, if_neg (by omega), if_neg (by omega), cmp_putInt _ _ hx.2 hy.2, cmpB_empty _ _ h2 g]
      by_cases h : cmpI x.f1 y.f1 = 0
      · rw [h]; rfl
      · rw [if_pos h]
    · have g0 : y.f0 = 3 := by omega
      have g : y.f1 = 0 := by omega
      have e1 : datumL x = 4 :: escL (toL x.f2) := by simp [datumL, h0]
      have e2 : datumL y = 4 :: escL (toL y.f2) := by simp [datumL, g0]
      rw [e1, e2, h1, g]
      refine ⟨pf_cons _ _ _ (pf_esc _ _), ?_⟩
      rw [cmpL_head, if_neg (by omega), if_neg (by omega), cmp_escL, if_neg (by rw [cmpI_self]; simp)]
      rw [← cmpB_L, ofL_toL, ofL_toL]
  · obtain ⟨r, er, lr⟩ := datum_head x hx.1
    obtain ⟨s, es, ls⟩ := datum_head y hy.1
    have fx := dat_form x hx.1
    have fy := dat_form y hy.1
    have hne : x.f0.toNat ≠ y.f0.toNat := by omega
    rw [er, es]
    refine ⟨pf_heads _ _ _ _ (fun e => hne ?_), ?_⟩
    · have := congrArg UInt8.toNat e
      rw [ofNat_lt _ (by omega), ofNat_lt _ (by omega)] at this
      omega
    · rw [cmpData, if_pos (fun e => hk ((cmpI_zero _ _).mp e)), cmpL_head, ofNat_lt _ (by omega), ofNat_lt _ (by omega), cmpI]
      by_cases h : x.f0 < y.f0
      · rw [if_pos (by omega), if_pos h]
      · rw [if_neg (by omega), if_pos (by omega), if_neg h, if_pos (by omega)]

/-! keys -/
def encD (dv : Bool) (x : S49) : Bytes := if dv then flipL (datumL x) else datumL x
def encK (ds : List Bool) : Nat → List S49 → Bytes
  | _, [] => []
  | i, x :: l => encD (desc ds i) x ++ encK ds (i + 1) l
theorem putKey_encK (ds : List Bool) (i : Nat) (l : List S49) (h : ∀ x ∈ l, validS x = true) : putKeyL ds i l = some (encK ds i l) := by
  induction l generalizing i with
  | nil => rfl
  | cons x l ih =>
    rw [putKeyL, if_pos (show validB x.f0 x.f1 x.f2 = true from h x (.head _)), ih (i + 1) (fun y hy => h y (.tail _ hy))]
    rfl
theorem encD_pf (dv : Bool) (x y : S49) (hx : DatOk x) (hy : DatOk y) : pf (encD dv x) (encD dv y) ∧ cmpL (encD dv x) (encD dv y) = if dv then cmpData y x else cmpData x y := by
  have h := cmp_datum x y hx hy
  cases dv with
  | false => exact h
  | true => exact ⟨pf_flip _ _ h.1, by show cmpL (flipL _) (flipL _) = cmpData y x; rw [cmp_pf_flip _ _ h.1, h.2, data_neg x y]⟩
theorem encD_ne (dv : Bool) (x : S49) (h : validS x = true) : encD dv x ≠ [] := by
  obtain ⟨r, e, _⟩ := datum_head x h
  unfold encD
  rw [e]
  split <;> simp [flipL]
theorem cmp_keys (ds : List Bool) (i : Nat) (l m : List S49) (hl : ∀ x ∈ l, DatOk x) (hm : ∀ x ∈ m, DatOk x) : cmpL (encK ds i l) (encK ds i m) = cmpKeys ds i l m := by
  induction l generalizing i m with
  | nil =>
    cases m with
    | nil => rfl
    | cons y m =>
      have := encD_ne (desc ds i) y (hm y (.head _)).1
      rw [encK, encK, cmpKeys]
      cases he : encD (desc ds i) y with
      | nil => exact absurd he this
      | cons a r => rfl
  | cons x l ih =>
    cases m with
    | nil =>
      have := encD_ne (desc ds i) x (hl x (.head _)).1
      rw [encK, encK, cmpKeys]
      cases he : encD (desc ds i) x with
      | nil => exact absurd he this
      | cons a r => rfl
    | cons y m =>
      have h := encD_pf (desc ds i) x y (hl x (.head _)) (hm y (.head _))
      rw [encK, encK, cmp_pf _ _ _ _ h.1, h.2, ih (i + 1) m (fun z hz => hl z (.tail _ hz)) (fun z hz => hm z (.tail _ hz)), cmpKeys]
theorem encPutKey (ds : List Bool) (l : List S49) (h : ∀ x ∈ l, DatOk x ∧ x.f2.size ≤ 100000) (hb : l.length ≤ 100000) : enc_PutKey.f l ds = some (ofL (encK ds 0 l), 0) := by
  rw [enc_PutKey.f, if_pos ⟨hb, fun x hx => ⟨decide_eq_true (h x hx).1.2, (h x hx).2⟩⟩, putKey_encK ds 0 l (fun x hx => (h x hx).1.1)]

/-! beginnings -/
theorem lcp_take (a b : Bytes) (h : b.take a.length = a) (hl : a.length ≤ b.length) : lcp a b = a.length := by
  induction a generalizing b with
  | nil => cases b <;> rfl
  | cons x a ih =>
    cases b with
    | nil => simp at hl
    | cons y b =>
      simp only [List.length_cons, List.take_succ_cons, List.cons.injEq] at h
      rw [lcp, if_pos h.1.symm, ih b h.2 (by simpa using hl)]; rfl
theorem pf_putUint (m n : Nat) (hm : m ≤ 4611686018427387904) (hn : n ≤ 4611686018427387904) : pf (putUintL m) (putUintL n) := by
  have s1 := szF_le 8 (m - 240) 1
  have s2 := szF_le 8 (n - 240) 1
  unfold putUintL
  by_cases h1 : m < 240
  · rw [if_pos h1]
    by_cases h2 : n < 240
    · rw [if_pos h2]; exact pf_length _ _ rfl
    · rw [if_neg h2]
      refine pf_heads _ _ _ _ (fun e => ?_)
      have := congrArg UInt8.toNat e
      rw [ofNat_lt _ (by omega), ofNat_lt _ (by omega)] at this
      omega
  · rw [if_neg h1]
    by_cases h2 : n < 240
    · rw [if_pos h2]
      refine pf_heads _ _ _ _ (fun e => ?_)
      have := congrArg UInt8.toNat e
      rw [ofNat_lt _ (by omega), ofNat_lt _ (by omega)] at this
      omega
    · rw [if_neg h2]
      by_cases hs : szF 8 (m - 240) 1 = szF 8 (n - 240) 1
      · exact pf_length _ _ (by simp [bigL_length, hs])
      · refine pf_heads _ _ _ _ (fun e => ?_)
        have := congrArg UInt8.toNat e
        rw [ofNat_lt _ (by omega), ofNat_lt _ (by omega)] at this
        omega
end Go.Proofs.Ythpabgiicglbmaa.Pure
