import Derived.Test.YthpabgiicglbmaaP0
namespace Go.Proofs.Ythpabgiicglbmaa.Pure
set_option linter.unusedVariables false
set_option linter.unusedSimpArgs false
open Go.RowKit Go.Proofs.Ythpabgiicglbmaa.E Go.Proofs.YthpabgiicglbmaaW.PrintWords Go.Proofs.YthpabgiicglbmaaW.PrintLast

theorem bt_getD (l : Bytes) (n : Nat) (h : n < l.length) : bt (ofL l) n = ((l.getD n 0).toNat : Int) := by rw [bt_ofL l n h]; simp [h]
theorem inc_nums (b : UInt8) : ([((b.toNat : Int) + 1) % 256] : List Int) = numsOf [b + 1] := by
  simp [numsOf, UInt8.toNat_add]
/-- the length of the common beginning -/
def lcp : Bytes → Bytes → Nat
  | x :: a, y :: b => if x = y then lcp a b + 1 else 0
  | _, _ => 0
theorem lcp_le (a b : Bytes) : lcp a b ≤ a.length ∧ lcp a b ≤ b.length := by
  fun_induction lcp a b with
  | case1 x a b ih => simp only [List.length_cons]; omega
  | case2 => simp
  | case3 => simp
theorem lcp_nil_left (b : Bytes) : lcp [] b = 0 := by unfold lcp; rfl
theorem lcp_nil_right (a : Bytes) : lcp a [] = 0 := by cases a <;> rfl
theorem lcp_drop (a b : Bytes) (i : Nat) (h0 : i < a.length) (h1 : i < b.length) : lcp (a.drop i) (b.drop i) = if a.getD i 0 = b.getD i 0 then lcp (a.drop (i + 1)) (b.drop (i + 1)) + 1 else 0 := by
  rw [List.drop_eq_getElem_cons h0, List.drop_eq_getElem_cons h1, lcp]
  simp [h0, h1]
theorem toNat_eq (x y : UInt8) : ((x.toNat : Int) = (y.toNat : Int)) ↔ x = y := by
  rw [← UInt8.toNat_inj]; omega
theorem encPrefix_loop (a b : Bytes) (h0 : a.length ≤ 1000000) (h1 : b.length ≤ 1000000) : ∀ k i, i ≤ a.length → i ≤ b.length → a.length - i < k → enc_Prefix.l0 k (ofL a) (ofL b) (i : Int) = some ((i + lcp (a.drop i) (b.drop i) : Nat) : Int) := by
  intro k
  induction k with
  | zero => intro i _ _ h; omega
  | succ k ih =>
    intro i hi hj hk
    unfold enc_Prefix.l0
    rw [size_ofL, size_ofL]
    have hmn : mn (a.length : Int) (b.length : Int) = ((min a.length b.length : Nat) : Int) := by unfold mn; split <;> omega
    rw [hmn]
    by_cases hlt : i < a.length ∧ i < b.length
    · rw [if_pos (by omega), if_pos (by omega), if_pos (by omega), if_pos (by omega), bt_getD a i hlt.1, bt_getD b i hlt.2, lcp_drop a b i hlt.1 hlt.2]
      by_cases he : a.getD i 0 = b.getD i 0
      · rw [if_pos ((toNat_eq _ _).mpr he), if_pos he, w64 _ (by omega) (by omega), show ((i : Int) + 1) = ((i + 1 : Nat) : Int) from by omega, ih (i + 1) (by omega) (by omega) (by omega)]
        congr 2
        omega
      · rw [if_neg (fun h => he ((toNat_eq _ _).mp h)), if_neg he]; rfl
    · rw [if_neg (by omega)]
      have : lcp (a.drop i) (b.drop i) = 0 := by
        by_cases h : i = a.length
        · rw [h, List.drop_length, lcp_nil_left]
        · rw [show i = b.length by omega, List.drop_length, lcp_nil_right]
      rw [this]; rfl
theorem encPrefix (a b : Bytes) (h0 : a.length ≤ 1000000) (h1 : b.length ≤ 1000000) (k : Nat) (hk : a.length < k) : enc_Prefix.f k (ofL a) (ofL b) = some (lcp a b : Int) := by
  have := encPrefix_loop a b h0 h1 k 0 (by omega) (by omega) (by omega)
  simpa [enc_Prefix.f] using this
/-! comparisons -/
def cmpL : Bytes → Bytes → Int
  | [], [] => 0
  | [], _ :: _ => -1
  | _ :: _, [] => 1
  | x :: a, y :: b => if x.toNat < y.toNat then -1 else if y.toNat < x.toNat then 1 else cmpL a b
theorem less_cons (x y : UInt8) (a b : Bytes) : Op.bytesLess (x :: a) (y :: b) = if x.toNat < y.toNat then true else if y.toNat < x.toNat then false else Op.bytesLess a b := by
  simp only [Op.bytesLess, UInt8.lt_iff_toNat_lt]
  by_cases h : x.toNat < y.toNat
  · simp [h]
  · by_cases h2 : y.toNat < x.toNat
    · have h3 : ¬ x = y := fun e => by rw [e] at h2; omega
      simp [h, h2, h3]
    · have h3 : x = y := UInt8.toNat_inj.mp (by omega)
      simp [h3]
theorem cmpB_cmpL (a b : Bytes) : (if Op.bytesLess a b then (-1 : Int) else if Op.bytesLess b a then 1 else 0) = cmpL a b := by
  fun_induction cmpL a b with
  | case1 => rfl
  | case2 => rfl
  | case3 => rfl
  | case4 x a y b h => rw [less_cons, if_pos h]; rfl
  | case5 x a y b h h2 => rw [less_cons, less_cons, if_neg h, if_pos h2, if_pos h2]; rfl
  | case6 x a y b h h2 ih => rw [less_cons, less_cons, if_neg h, if_neg h2, if_neg h2, if_neg h]; exact ih
theorem cmpB_L (a b : Bytes) : cmpB (ofL a) (ofL b) = cmpL a b := by rw [cmpB, toList_ofL, toList_ofL]; exact cmpB_cmpL a b
theorem less_cmpL (a b : Bytes) : (Op.bytesLess a b = true) ↔ cmpL a b = -1 := by
  rw [← cmpB_cmpL]
  cases Op.bytesLess a b
  · cases Op.bytesLess b a <;> simp
  · simp
theorem cmpL_lcp (a b : Bytes) : cmpL a b = if lcp a b = a.length ∧ lcp a b = b.length then 0 else if lcp a b = a.length then -1 else if lcp a b < b.length ∧ (a.getD (lcp a b) 0).toNat < (b.getD (lcp a b) 0).toNat then -1 else 1 := by
  fun_induction cmpL a b with
  | case1 => rfl
  | case2 y b => simp [lcp_nil_left]
  | case3 x a => simp [lcp_nil_right]
  | case4 x a y b h =>
    have : ¬ x = y := fun e => by rw [e] at h; omega
    rw [lcp, if_neg this]; simp [h]
  | case5 x a y b h h2 =>
    have : ¬ x = y := fun e => by rw [e] at h2; omega
    rw [lcp, if_neg this]; simp [h]
  | case6 x a y b h h2 ih =>
    have : x = y := UInt8.toNat_inj.mp (by omega)
    rw [lcp, if_pos this, ih]
    simp
theorem encCompare (a b : Bytes) : enc_Compare.f (ofL a) (ofL b) = some (cmpL a b) := by
  rw [enc_Compare.f, cmpB_spec, cmpB_L]; rfl
/-! Between -/
def betweenL (a b : Bytes) : Option Bytes :=
  if cmpL a b = -1 then some (a.take (lcp a b) ++ [if lcp a b < a.length then a.getD (lcp a b) 0 + 1 else 0]) else none
def btwR (o : Option Bytes) : ByteArray × Int := match o with | some x => (ofL x, 0) | none => (⟨#[]⟩, 1)
theorem take_lcp (a b : Bytes) : b.take (lcp a b) = a.take (lcp a b) := by
  fun_induction lcp a b with
  | case1 x a b ih => simp [ih]
  | case2 => simp
  | case3 => simp
theorem zero_nums : ([0] : List Int) = numsOf [0] := by rfl
theorem encBetween (a b : Bytes) (h0 : a.length ≤ 1000000) (h1 : b.length ≤ 1000000) (k : Nat) (hk : a.length < k) : enc_Between.f k (ofL a) (ofL b) = some (btwR (betweenL a b)) := by
  have hl := lcp_le a b
  rw [enc_Between.f, toList_ofL, toList_ofL, betweenL]
  by_cases hc : cmpL a b = -1
  · rw [if_pos ((less_cmpL a b).mpr hc), if_pos hc, encPrefix a b h0 h1 _ hk]
    simp only [Option.bind_some, size_ofL, Int.toNat_natCast]
    by_cases hn : lcp a b < a.length
    · rw [if_pos (by omega), if_pos (by omega), if_pos (by omega), bt_getD a _ hn, inc_nums, strOfNums_numsOf, extract_take, append_ofL, take_lcp, if_pos (by simp only [size_ofL, List.length_take, List.length_singleton]; omega), if_pos hn]
      rfl
    · rw [if_neg (by omega), if_pos (by omega), if_pos (by omega), zero_nums, strOfNums_numsOf, extract_take, append_ofL, take_lcp, if_pos (by simp only [size_ofL, List.length_take, List.length_singleton]; omega), if_neg hn]
      rfl
  · rw [if_neg (fun h => hc ((less_cmpL a b).mp h)), if_neg hc]; rfl
theorem cmpL_vals (a b : Bytes) : cmpL a b = -1 ∨ cmpL a b = 0 ∨ cmpL a b = 1 := by
  fun_induction cmpL a b <;> simp_all
/-! After -/
/-- of the bytes from the last one to the first: those behind which nothing begins with them -/
def afterR : Bytes → Option Bytes
  | [] => none
  | b :: r => if b = 255 then afterR r else some (((b + 1) :: r).reverse)
def afterL (l : Bytes) : Option Bytes := afterR l.reverse
def aftR (o : Option Bytes) : ByteArray × Bool := match o with | some x => (ofL x, true) | none => (⟨#[]⟩, false)
theorem afterL_snoc (l : Bytes) (b : UInt8) : afterL (l ++ [b]) = if b = 255 then afterL l else some (l ++ [b + 1]) := by
  simp [afterL, afterR]
theorem snoc_get (l : Bytes) (b : UInt8) : (l ++ [b]).getD l.length 0 = b := by simp
theorem suffix_snoc (l : Bytes) (b : UInt8) (h : l.length ≤ 1000000) : strings_HasSuffix.f (ofL (l ++ [b])) (⟨#[255]⟩ : ByteArray) = some (b == 255) := by
  have e1 : ((ofL (l ++ [b])).size : Int) = (l.length : Int) + 1 := by rw [size_ofL]; simp
  have e2 : ((⟨#[255]⟩ : ByteArray).size : Int) = 1 := rfl
  have e3 : wrap64 ((l.length : Int) + 1 - 1) = l.length := by rw [w64 _ (by omega) (by omega)]; omega
  rw [strings_HasSuffix.f, stringslite_HasSuffix.f, e1, e2, if_pos (by omega), e3, if_pos (by omega), if_pos (by omega)]
  simp only [Option.bind_some, Int.toNat_natCast]
  rw [extract_drop _ _ _ (by rw [size_ofL]; exact Nat.le_refl _), toList_ofL]
  have e4 : (⟨#[255]⟩ : ByteArray).toList = [255] := toList_ofL [255]
  rw [e4]
  simp
theorem suffix_nil : strings_HasSuffix.f (ofL []) (⟨#[255]⟩ : ByteArray) = some false := by
  rw [strings_HasSuffix.f, stringslite_HasSuffix.f, if_neg (by decide)]; rfl
theorem encAfter (l : Bytes) (h : l.length ≤ 1000000) (k : Nat) (hk : l.length < k) : enc_After.f k (ofL l) = some (aftR (afterL l)) := by
  induction k generalizing l with
  | zero => omega
  | succ k ih =>
    rcases List.eq_nil_or_concat l with rfl | ⟨r, b, rfl⟩
    · rw [enc_After.f, enc_After.l0, suffix_nil]
      simp only [Option.bind_some, toList_ofL]
      rfl
    · rw [List.concat_eq_append] at *
      have hr : r.length + 1 ≤ 1000000 := by simpa using h
      have e1 : ((ofL (r ++ [b])).size : Int) = (r.length : Int) + 1 := by rw [size_ofL]; simp
      have e3 : wrap64 ((r.length : Int) + 1 - 1) = r.length := by rw [w64 _ (by omega) (by omega)]; omega
      rw [enc_After.f, enc_After.l0, suffix_snoc r b (by omega), afterL_snoc]
      simp only [Option.bind_some, e1, e3, Int.toNat_natCast, extract_take, List.take_left']
      by_cases hb : b = 255
      · rw [if_pos (by simp [hb]), if_pos (by omega), if_pos (by omega), if_pos hb]
        exact ih r (by omega) (by simp at hk; omega)
      · rw [if_neg (by simp [hb]), if_neg (by rw [toList_ofL]; simp), if_pos (by omega), if_pos (by omega), if_pos (by omega), bt_getD _ _ (by simp), snoc_get, inc_nums, strOfNums_numsOf, append_ofL, if_pos (by simp only [size_ofL, List.length_singleton]; omega), if_neg hb]
        rfl
/-! Flip -/
theorem flip_num (b : UInt8) : ((255 - (b.toNat : Int)) % 256) = ((255 - b : UInt8).toNat : Int) := by
  have := b.toNat_lt
  rw [UInt8.toNat_sub]
  show (255 - (b.toNat : Int)) % 256 = (((2 ^ 8 - b.toNat + 255) % 2 ^ 8 : Nat) : Int)
  omega
theorem encFlip (s : Bytes) (h : s.length ≤ 1000000) : enc_Flip.f (ofL s) = some (ofL (flipL s)) := by
  rw [enc_Flip.f, if_pos (by rw [size_ofL]; exact h), toL_ofL]
end Go.Proofs.Ythpabgiicglbmaa.Pure
