import Derived.Test.YthpabgiicglbmaaPe
namespace Go.Proofs.Ythpabgiicglbmaa.Pure
set_option linter.unusedVariables false
set_option linter.unusedSimpArgs false
open Go.RowKit Go.Proofs.Ythpabgiicglbmaa.E Go.Proofs.YthpabgiicglbmaaW.PrintWords Go.Proofs.YthpabgiicglbmaaW.PrintLast

/-! numbers in bytes: their order -/
theorem bigL_mod (n k : Nat) : bigL (n % 256 ^ k) k = bigL n k := by
  induction k generalizing n with
  | zero => rfl
  | succ k ih =>
    rw [bigL, bigL]
    have h1 : n % 256 ^ (k + 1) / 256 = n / 256 % 256 ^ k := by
      rw [Nat.pow_succ, Nat.mul_comm, Nat.mod_mul_right_div_self]
    have h2 : n % 256 ^ (k + 1) % 256 = n % 256 := by
      rw [Nat.pow_succ]
      exact Nat.mod_mul_left_mod n (256 ^ k) 256
    rw [h1, h2, ih]
theorem cmpL_head (x y : UInt8) (a b : Bytes) : cmpL (x :: a) (y :: b) = if x.toNat < y.toNat then -1 else if y.toNat < x.toNat then 1 else cmpL a b := rfl
theorem cmpL_refl (a : Bytes) : cmpL a a = 0 := by
  induction a with
  | nil => rfl
  | cons x a ih => rw [cmpL_head, if_neg (by omega), if_neg (by omega), ih]
theorem ofNat_lt (n : Nat) (h : n < 256) : (UInt8.ofNat n).toNat = n := by rw [UInt8.toNat_ofNat', Nat.mod_eq_of_lt (by omega)]
theorem cmp_bigL (k x y : Nat) (hx : x < 256 ^ k) (hy : y < 256 ^ k) : cmpL (bigL x k) (bigL y k) = cmpI x y := by
  induction k generalizing x y with
  | zero =>
    have : x = 0 := by simpa using hx
    have : y = 0 := by simpa using hy
    subst_vars
    rfl
  | succ k ih =>
    have hp : 0 < 256 ^ k := Nat.pow_pos (by decide)
    rw [Nat.pow_succ] at hx hy
    have qx : x / 256 ^ k < 256 := Nat.div_lt_of_lt_mul hx
    have qy : y / 256 ^ k < 256 := Nat.div_lt_of_lt_mul hy
    rw [bigL_snoc_shift, bigL_snoc_shift, cmpL_head, Nat.mod_eq_of_lt qx, Nat.mod_eq_of_lt qy, ofNat_lt _ qx, ofNat_lt _ qy]
    by_cases h1 : x / 256 ^ k < y / 256 ^ k
    · have := Nat.lt_of_div_lt_div h1
      rw [if_pos h1, cmpI, if_pos (by omega)]
    · by_cases h2 : y / 256 ^ k < x / 256 ^ k
      · have := Nat.lt_of_div_lt_div h2
        rw [if_neg h1, if_pos h2, cmpI, if_neg (by omega), if_pos (by omega)]
      · rw [if_neg h1, if_neg h2, ← bigL_mod x k, ← bigL_mod y k, ih _ _ (Nat.mod_lt _ hp) (Nat.mod_lt _ hp)]
        have hq : x / 256 ^ k = y / 256 ^ k := by omega
        have ex := Nat.div_add_mod x (256 ^ k)
        have ey := Nat.div_add_mod y (256 ^ k)
        rw [hq] at ex
        unfold cmpI
        by_cases h3 : x % 256 ^ k < y % 256 ^ k
        · rw [if_pos (by omega), if_pos (by omega)]
        · by_cases h4 : y % 256 ^ k < x % 256 ^ k
          · rw [if_neg (by omega), if_pos (by omega), if_neg (by omega), if_pos (by omega)]
          · rw [if_neg (by omega), if_neg (by omega), if_neg (by omega), if_neg (by omega)]
theorem cmp_putInt (m n : Int) (hm : -9223372036854775808 ≤ m ∧ m ≤ 9223372036854775807) (hn : -9223372036854775808 ≤ n ∧ n ≤ 9223372036854775807) : cmpL (putIntL m) (putIntL n) = cmpI m n := by
  rw [putIntL, putIntL, cmp_bigL _ _ _ (by simp; omega) (by simp; omega)]
  unfold cmpI
  by_cases h : m < n
  · rw [if_pos h, if_pos (by omega)]
  · by_cases h2 : n < m
    · rw [if_neg h, if_pos h2, if_neg (by omega), if_pos (by omega)]
    · rw [if_neg h, if_neg h2, if_neg (by omega), if_neg (by omega)]
theorem big_fuel (n m k : Nat) (hm : m ≤ 8) (hk : m + 1 ≤ k) : enc_big.f k (n : Int) (m : Int) = some (ofL (bigL n m)) := by
  obtain ⟨j, rfl⟩ : ∃ j, k = m + 1 + j := ⟨k - (m + 1), by omega⟩
  induction j with
  | zero => exact big_spec n m hm
  | succ j ih => exact enc_big.mono _ _ (m + 1 + j) _ (ih (by omega))
theorem putInt_fuel (n : Int) (k : Nat) (hk : 9 ≤ k) : enc_PutInt.f k n = some (ofL (putIntL n)) := by
  obtain ⟨j, rfl⟩ : ∃ j, k = 9 + j := ⟨k - 9, by omega⟩
  induction j with
  | zero => exact putInt_spec n
  | succ j ih => exact enc_PutInt.mono _ (9 + j) _ (ih (by omega))

/-! PutUint -/
/-- the number of bytes, from s on -/
def szF : Nat → Nat → Nat → Nat
  | 0, _, s => s
  | k + 1, x, s => if x / 256 ^ s > 0 then szF k x (s + 1) else s
def putUintL (m : Nat) : Bytes := if m < 240 then [UInt8.ofNat m] else UInt8.ofNat (239 + szF 8 (m - 240) 1) :: bigL (m - 240) (szF 8 (m - 240) 1)
theorem szF_le (k x s : Nat) : s ≤ szF k x s ∧ szF k x s ≤ s + k := by
  induction k generalizing s with
  | zero => simp [szF]
  | succ k ih =>
    rw [szF]
    split
    · have := ih (s + 1); omega
    · omega
theorem szF_low (k x s : Nat) (h : s < szF k x s) : 256 ^ (szF k x s - 1) ≤ x := by
  induction k generalizing s with
  | zero => simp [szF] at h
  | succ k ih =>
    rw [szF] at h ⊢
    split at h
    · rename_i hx
      rw [if_pos hx]
      by_cases h2 : s + 1 < szF k x (s + 1)
      · exact ih (s + 1) h2
      · have := (szF_le k x (s + 1)).1
        rw [show szF k x (s + 1) = s + 1 by omega]
        simp only [Nat.add_sub_cancel]
        have hp : 0 < 256 ^ s := Nat.pow_pos (by decide)
        exact (Nat.div_pos_iff.mp hx).2
    · omega
theorem szF_high (k x s : Nat) (h : x < 256 ^ (s + k)) (hk : 0 < k) : x < 256 ^ szF k x s := by
  induction k generalizing s with
  | zero => omega
  | succ k ih =>
    rw [szF]
    split
    · rename_i hx
      by_cases h0 : k = 0
      · subst h0
        rw [szF]; exact h
      · exact ih (s + 1) (by rw [show s + 1 + k = s + (k + 1) by omega]; exact h) (by omega)
    · rename_i hx
      have hp : 0 < 256 ^ s := Nat.pow_pos (by decide)
      refine Nat.lt_of_not_le fun hle => hx ?_
      exact Nat.div_pos hle hp
theorem shr_pow (n s : Nat) (hs : s ≤ 8) : shr .u64 (n : Int) (8 * (s : Int)) = ((n / 256 ^ s : Nat) : Int) := by
  unfold shr
  have e1 : min (8 * (s : Int)).toNat IntKind.u64.bits = 8 * s := by
    have : IntKind.u64.bits = 64 := rfl
    rw [this]; omega
  rw [e1]
  have e4 : ((2 : Int) ^ (8 * s)) = ((256 ^ s : Nat) : Int) := by rw [Int.pow_mul]; norm_cast
  rw [e4]; norm_cast
theorem size8 (x : Nat) (h : x < 18446744073709551616) (s : Nat) (hs : 8 ≤ s) : x / 256 ^ s = 0 := by
  apply Nat.div_eq_of_lt
  have : 256 ^ 8 ≤ 256 ^ s := Nat.pow_le_pow_right (by decide) hs
  have e : (256 : Nat) ^ 8 = 18446744073709551616 := by decide
  omega
theorem putUint_loop (x : Nat) (hx : x < 18446744073709551616) : ∀ (d s k : Nat), 1 ≤ d → 1 ≤ s → s + d = 9 → d + 12 ≤ k → enc_PutUint.l0 k (x : Int) (s : Int) = some (ofL (UInt8.ofNat (239 + szF d x s) :: bigL x (szF d x s)), 0) := by
  intro d
  induction d with
  | zero => intro s k h0; omega
  | succ d ih =>
    intro s k h0 h1 h2 hk
    obtain ⟨k, rfl⟩ : ∃ j, k = j + 1 := ⟨k - 1, by omega⟩
    unfold enc_PutUint.l0
    rw [w64 (8 * (s : Int)) (by omega) (by omega), if_pos (by omega), shr_pow x s (by omega), szF]
    by_cases hq : x / 256 ^ s > 0
    · have h8 : s ≤ 7 := by
        refine Nat.le_of_not_lt fun hh => ?_
        rw [size8 x hx s (by omega)] at hq
        omega
      rw [if_pos (by omega), if_pos hq, w64 _ (by omega) (by omega), show ((s : Int) + 1) = ((s + 1 : Nat) : Int) by omega]
      exact ih (s + 1) k (by omega) (by omega) (by omega) (by omega)
    · rw [if_neg (by omega), if_neg hq, w64 _ (by omega) (by omega), u64w _ (by omega) (by omega)]
      rw [show ((239 : Int) + s) = ((239 + s : Nat) : Int) by omega, show (1 : Int) = ((1 : Nat) : Int) from rfl, big_fuel _ 1 k (by decide) (by omega), big_fuel x s k (by omega) (by omega)]
      simp only [Option.bind_some]
      rw [append_ofL, if_pos (by rw [size_ofL, size_ofL, bigL_length, bigL_length]; omega)]
      rw [show bigL (239 + s) 1 = [UInt8.ofNat (239 + s)] by simp [bigL, Nat.mod_eq_of_lt (show 239 + s < 256 by omega)]]
      rfl
theorem encPutUint_ok (m : Nat) (h : m ≤ 4611686018427387904) (k : Nat) (hk : 30 ≤ k) : enc_PutUint.f k (m : Int) = some (ofL (putUintL m), 0) := by
  obtain ⟨k, rfl⟩ : ∃ j, k = j + 1 := ⟨k - 1, by omega⟩
  rw [enc_PutUint.f, if_neg (by omega), show decide ((m : Int) > 4611686018427387904) = false from decide_eq_false (by omega)]
  rw [enc_PutUint.j0, if_neg (by simp), putUintL]
  by_cases h2 : m < 240
  · rw [if_pos (by omega), if_pos h2, u64w _ (by omega) (by omega), show (1 : Int) = ((1 : Nat) : Int) from rfl, big_fuel m 1 k (by decide) (by omega)]
    simp [bigL, Nat.mod_eq_of_lt (show m < 256 by omega)]
  · rw [if_neg (by omega), if_neg h2, w64 _ (by omega) (by omega), show ((m : Int) - 240) = ((m - 240 : Nat) : Int) by omega, u64w _ (by omega) (by omega)]
    have := putUint_loop (m - 240) (by omega) 8 1 k (by decide) (by decide) (by decide) (by omega)
    exact this
theorem encPutUint_bad (m : Int) (h : m < 0 ∨ 4611686018427387904 < m) (k : Nat) (hk : 1 ≤ k) : enc_PutUint.f k m = some (⟨#[]⟩, 1) := by
  obtain ⟨k, rfl⟩ : ∃ j, k = j + 1 := ⟨k - 1, by omega⟩
  rw [enc_PutUint.f]
  by_cases h0 : m < 0
  · rw [if_pos h0]; rfl
  · rw [if_neg h0, show decide (m > 4611686018427387904) = true from decide_eq_true (by omega)]; rfl
theorem cmp_putUint (m n : Nat) (hm : m ≤ 4611686018427387904) (hn : n ≤ 4611686018427387904) : cmpL (putUintL m) (putUintL n) = cmpI m n := by
  have e9 : (256 : Nat) ^ 9 = 4722366482869645213696 := by decide
  have s1 := szF_le 8 (m - 240) 1
  have s2 := szF_le 8 (n - 240) 1
  have u1 := szF_high 8 (m - 240) 1 (by rw [show 1 + 8 = 9 from rfl, e9]; omega) (by decide)
  have u2 := szF_high 8 (n - 240) 1 (by rw [show 1 + 8 = 9 from rfl, e9]; omega) (by decide)
  have l1 := szF_low 8 (m - 240) 1
  have l2 := szF_low 8 (n - 240) 1
  unfold putUintL
  by_cases h1 : m < 240
  · rw [if_pos h1]
    by_cases h2 : n < 240
    · rw [if_pos h2, cmpL_head, ofNat_lt _ (by omega), ofNat_lt _ (by omega)]
      unfold cmpI
      by_cases h3 : m < n
      · rw [if_pos h3, if_pos (by omega)]
      · by_cases h4 : n < m
        · rw [if_neg h3, if_pos h4, if_neg (by omega), if_pos (by omega)]
        · rw [if_neg h3, if_neg h4, if_neg (by omega), if_neg (by omega)]; rfl
    · rw [if_neg h2, cmpL_head, ofNat_lt _ (by omega), ofNat_lt _ (by omega), if_pos (by omega), cmpI, if_pos (by omega)]
  · rw [if_neg h1]
    by_cases h2 : n < 240
    · rw [if_pos h2, cmpL_head, ofNat_lt _ (by omega), ofNat_lt _ (by omega), if_neg (by omega), if_pos (by omega), cmpI, if_neg (by omega), if_pos (by omega)]
    · rw [if_neg h2, cmpL_head, ofNat_lt _ (by omega), ofNat_lt _ (by omega)]
      generalize hsx : szF 8 (m - 240) 1 = sx at *
      generalize hsy : szF 8 (n - 240) 1 = sy at *
      by_cases h3 : sx < sy
      · have hl := l2 (by omega)
        have hp : 256 ^ sx ≤ 256 ^ (sy - 1) := Nat.pow_le_pow_right (by decide) (by omega)
        rw [if_pos (by omega), cmpI, if_pos (by omega)]
      · by_cases h4 : sy < sx
        · have hl := l1 (by omega)
          have hp : 256 ^ sy ≤ 256 ^ (sx - 1) := Nat.pow_le_pow_right (by decide) (by omega)
          rw [if_neg (by omega), if_pos (by omega), cmpI, if_neg (by omega), if_pos (by omega)]
        · have he : sx = sy := by omega
          subst he
          rw [if_neg (by omega), if_neg (by omega), cmp_bigL _ _ _ u1 u2]
          unfold cmpI
          by_cases h5 : m < n
          · rw [if_pos (by omega), if_pos (by omega)]
          · by_cases h6 : n < m
            · rw [if_neg (by omega), if_pos (by omega), if_neg (by omega), if_pos (by omega)]
            · rw [if_neg (by omega), if_neg (by omega), if_neg (by omega), if_neg (by omega)]

/-! texts and Flip -/
theorem cmp_escL (a b : Bytes) : cmpL (escL a) (escL b) = cmpL a b := by
  induction a generalizing b with
  | nil =>
    cases b with
    | nil => rfl
    | cons y b =>
      by_cases h : y = 0
      · subst h; rfl
      · have : y.toNat ≠ 0 := fun e => h (UInt8.toNat_inj.mp e)
        rw [escL, escL, if_neg h, cmpL_head, if_pos (show (0 : UInt8).toNat < y.toNat by simp; omega)]; rfl
  | cons x a ih =>
    cases b with
    | nil =>
      by_cases h : x = 0
      · subst h; rfl
      · have : x.toNat ≠ 0 := fun e => h (UInt8.toNat_inj.mp e)
        rw [escL, escL, if_neg h, cmpL_head, if_neg (by simp), if_pos (show (0 : UInt8).toNat < x.toNat by simp; omega)]; rfl
    | cons y b =>
      rw [cmpL_head x y a b]
      by_cases hx : x = 0
      · by_cases hy : y = 0
        · subst hx hy
          rw [escL, escL, if_pos rfl, if_pos rfl, cmpL_head, cmpL_head]
          simp [ih]
        · have : y.toNat ≠ 0 := fun e => hy (UInt8.toNat_inj.mp e)
          subst hx
          rw [escL, escL, if_pos rfl, if_neg hy, cmpL_head, if_pos (show (0 : UInt8).toNat < y.toNat by simp; omega), if_pos (show (0 : UInt8).toNat < y.toNat by simp; omega)]
      · by_cases hy : y = 0
        · have : x.toNat ≠ 0 := fun e => hx (UInt8.toNat_inj.mp e)
          subst hy
          rw [escL, escL, if_neg hx, if_pos rfl, cmpL_head, if_neg (by simp), if_pos (show (0 : UInt8).toNat < x.toNat by simp; omega), if_neg (by simp), if_pos (show (0 : UInt8).toNat < x.toNat by simp; omega)]
        · rw [escL, escL, if_neg hx, if_neg hy, cmpL_head, ih]
theorem flip_toNat (b : UInt8) : (255 - b : UInt8).toNat = 255 - b.toNat := by
  have := b.toNat_lt
  rw [UInt8.toNat_sub]
  show (2 ^ 8 - b.toNat + 255) % 2 ^ 8 = 255 - b.toNat
  omega
theorem cmp_flip (a b : Bytes) (h0 : lcp a b < a.length) (h1 : lcp a b < b.length) : cmpL (flipL a) (flipL b) = -cmpL a b := by
  induction a generalizing b with
  | nil => simp at h0
  | cons x a ih =>
    cases b with
    | nil => simp at h1
    | cons y b =>
      have hx := x.toNat_lt
      have hy := y.toNat_lt
      rw [show flipL (x :: a) = (255 - x) :: flipL a from rfl, show flipL (y :: b) = (255 - y) :: flipL b from rfl, cmpL_head, cmpL_head, flip_toNat, flip_toNat]
      by_cases e1 : x.toNat < y.toNat
      · rw [if_neg (by omega), if_pos (by omega), if_pos e1]; rfl
      · by_cases e2 : y.toNat < x.toNat
        · rw [if_pos (by omega), if_neg e1, if_pos e2]
        · have : x = y := UInt8.toNat_inj.mp (by omega)
          rw [lcp, if_pos this] at h0 h1
          rw [if_neg (by omega), if_neg (by omega), if_neg e1, if_neg e2]
          exact ih b (by simpa using h0) (by simpa using h1)
theorem encPutText' (s : Bytes) (h : s.length ≤ 1000000) : enc_PutText.f (ofL s) = some (ofL (escL s)) := by
  rw [enc_PutText.f, if_pos (by rw [size_ofL]; exact h), toL_ofL]
theorem wf_range (n : Int) (h : (Lit.int .i64 n).wf = true) : -9223372036854775808 ≤ n ∧ n ≤ 9223372036854775807 := by
  have e1 : IntKind.i64.min = -9223372036854775808 := rfl
  have e2 : IntKind.i64.max = 9223372036854775807 := rfl
  simp [Lit.wf] at h
  omega
end Go.Proofs.Ythpabgiicglbmaa.Pure
