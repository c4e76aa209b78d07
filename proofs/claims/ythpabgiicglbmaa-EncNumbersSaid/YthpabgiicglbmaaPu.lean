/- Plain facts: what the reference's PutUint, PutInt, Put32, GetUint, GetInt and Get32 compute. -/
import Derived.Test.YthpabgiicglbmaaPn
import Derived.Test.YthpabgiicglbmaaEn
namespace Go.Proofs.Ythpabgiicglbmaa.Pure
set_option linter.unusedVariables false
set_option linter.unusedSimpArgs false
open Go.RowKit Go.Proofs.Ythpabgiicglbmaa.E Go.Proofs.YthpabgiicglbmaaW.PrintWords Go.Proofs.YthpabgiicglbmaaW.PrintLast

theorem xor_low (x : Nat) (h : x < 2 ^ 63) : x ^^^ 2 ^ 63 = x + 2 ^ 63 := by
  apply Nat.eq_of_testBit_eq
  intro i
  rw [Nat.testBit_xor, Nat.testBit_two_pow, Nat.add_comm]
  by_cases hi : i = 63
  · subst hi
    rw [Nat.testBit_two_pow_add_eq]
    simp
  · by_cases h2 : i < 63
    · rw [Nat.testBit_two_pow_add_gt h2]
      simp [Ne.symm hi]
    · have h3 : x < 2 ^ i := Nat.lt_of_lt_of_le h (Nat.pow_le_pow_right (by decide) (by omega))
      have h4 : 2 ^ 63 + x < 2 ^ i := by
        have : 2 ^ 64 ≤ 2 ^ i := Nat.pow_le_pow_right (by decide) (by omega)
        omega
      rw [Nat.testBit_lt_two_pow h3, Nat.testBit_lt_two_pow h4]
      simp [Ne.symm hi]
theorem xor_top (x : Nat) (h : x < 2 ^ 64) : x ^^^ 2 ^ 63 = (x + 2 ^ 63) % 2 ^ 64 := by
  by_cases h2 : x < 2 ^ 63
  · rw [xor_low x h2, Nat.mod_eq_of_lt (by omega)]
  · obtain ⟨y, rfl⟩ : ∃ y, x = y + 2 ^ 63 := ⟨x - 2 ^ 63, by omega⟩
    rw [← xor_low y (by omega), Nat.xor_assoc, Nat.xor_self, Nat.xor_zero]
    rw [xor_low y (by omega)]
    omega
theorem bits_top (x : Nat) (h : x < 18446744073709551616) : Go.bits .xor .u64 (x : Int) 9223372036854775808 = (((x + 9223372036854775808) % 18446744073709551616 : Nat) : Int) := by
  have := bits_xor_u64_nat x 9223372036854775808 h (by decide)
  rw [show ((9223372036854775808 : Nat) : Int) = 9223372036854775808 from rfl] at this
  rw [this]
  have e := xor_top x (by omega)
  rw [show (9223372036854775808 : Nat) = 2 ^ 63 by decide, show (18446744073709551616 : Nat) = 2 ^ 64 by decide, e]
theorem wrap_nat (n : Int) : IntKind.u64.wrap n = (((n % 18446744073709551616).toNat : Nat) : Int) := by
  rw [show IntKind.u64.wrap n = n % 18446744073709551616 by simp [IntKind.wrap, IntKind.bits, IntKind.signed]]
  omega
theorem refBig_loop (x : Nat) : ∀ (j k : Nat) (out : List Int), j + out.length ≤ 8 → j < k → understoryref01_big.l0 k (x : Int) out ((j : Int) - 1) = some (strOfNums (out ++ numsOf (bigL x j))) := by
  intro j
  induction j with
  | zero =>
    intro k out _ hk
    obtain ⟨k, rfl⟩ : ∃ m, k = m + 1 := ⟨k - 1, by omega⟩
    rw [understoryref01_big.l0, if_neg (by omega)]
    simp [bigL, numsOf]
  | succ j ih =>
    intro k out hj hk
    obtain ⟨k, rfl⟩ : ∃ m, k = m + 1 := ⟨k - 1, by omega⟩
    have e1 : wrap64 (8 * (((j + 1 : Nat) : Int) - 1)) = 8 * (j : Int) := by rw [w64 _ (by omega) (by omega)]; omega
    have e2 : IntKind.u64.wrap (8 * (j : Int)) = 8 * (j : Int) := u64w _ (by omega) (by omega)
    have e3 : wrap64 ((((j + 1 : Nat) : Int) - 1) - 1) = (j : Int) - 1 := by rw [w64 _ (by omega) (by omega)]; omega
    have h256 : (((x / 256 ^ j : Nat) : Int) % 256) = ((UInt8.ofNat (x / 256 ^ j % 256)).toNat : Int) := by
      rw [ofNat_lt _ (Nat.mod_lt _ (by decide))]; omega
    rw [understoryref01_big.l0, if_pos (by omega), e1, e2, if_pos (by omega), if_pos (by omega), shr_pow x j (by omega), e3, h256]
    rw [ih k _ (by rw [List.length_append, List.length_singleton]; omega) (by omega), bigL_snoc_shift]
    simp [numsOf]
theorem refBig (x k : Nat) (hk : 9 ≤ k) : understoryref01_big.f k (x : Int) 8 = some (ofL (bigL x 8)) := by
  rw [understoryref01_big.f, show wrap64 (8 - 1) = ((8 : Nat) : Int) - 1 by unfold wrap64; omega, refBig_loop x 8 k [] (by decide) (by omega), List.nil_append, strOfNums_numsOf]
theorem refPutInt (n : Int) (k : Nat) (hk : 9 ≤ k) : understoryref01_PutInt.f k n = some (ofL (putIntL n)) := by
  rw [understoryref01_PutInt.f, wrap_nat, bits_top _ (by omega), refBig _ k hk, putIntL]
  simp only [Option.bind_some]
  rw [show ((n % 18446744073709551616).toNat + 9223372036854775808) % 18446744073709551616 = ((n + 9223372036854775808) % 18446744073709551616).toNat by omega]
theorem refUnbig_loop (l : Bytes) (hl : l.length ≤ 8) (d : Nat) : ∀ (k i : Nat), i ≤ l.length → l.length - i = d → d < k →
    understoryref01_unbig.l0 k (ofL l) (unbigL (l.take i) : Nat) (i : Int) = some (unbigL l : Int) := by
  induction d with
  | zero =>
    intro k i hi hd hk
    obtain ⟨k, rfl⟩ : ∃ m, k = m + 1 := ⟨k - 1, by omega⟩
    have e : i = l.length := by omega
    subst e
    rw [understoryref01_unbig.l0, size_ofL, if_neg (by omega), List.take_length]
  | succ d ih =>
    intro k i hi hd hk
    obtain ⟨k, rfl⟩ : ∃ m, k = m + 1 := ⟨k - 1, by omega⟩
    have hlt : i < l.length := by omega
    have hs : unbigL (l.take (i + 1)) = unbigL (l.take i) * 256 + l[i].toNat := by rw [← unbigL_snoc, List.take_succ_eq_append_getElem hlt]
    have h1 : unbigL (l.take i) < 256 ^ 7 := Nat.lt_of_lt_of_le (unbigL_lt _) (Nat.pow_le_pow_right (by omega) (by simp; omega))
    have h2 := l[i].toNat_lt
    have h3 : (256 : Nat) ^ 7 = 72057594037927936 := by decide
    rw [understoryref01_unbig.l0, size_ofL, if_pos (by omega), if_pos (by omega), bt_ofL l i hlt, u64w _ (by omega) (by omega), u64w _ (by omega) (by omega), or_byte _ _ (by omega) (by omega), ← hs, w64 _ (by omega) (by omega)]
    exact ih k (i + 1) (by omega) (by omega) (by omega)
theorem refUnbig (l : Bytes) (hl : l.length ≤ 8) (k : Nat) (hk : 9 ≤ k) : understoryref01_unbig.f k (ofL l) = some (unbigL l : Int) := by
  have := refUnbig_loop l hl l.length k 0 (by omega) (by omega) (by omega)
  simpa [understoryref01_unbig.f, unbigL] using this
theorem refBigN (x m k : Nat) (hm : m ≤ 8) (hk : m + 1 ≤ k) : understoryref01_big.f k (x : Int) (m : Int) = some (ofL (bigL x m)) := by
  rw [understoryref01_big.f, show wrap64 ((m : Int) - 1) = (m : Int) - 1 by unfold wrap64; omega, refBig_loop x m k [] (by simpa using hm) (by omega), List.nil_append, strOfNums_numsOf]
theorem one_num (n : Nat) (h : n < 256) : ([((n : Int)) % 256] : List Int) = numsOf [UInt8.ofNat n] := by
  simp only [numsOf, List.map_cons, List.map_nil, ofNat_lt n h]
  congr 1; omega
theorem put_write (x s k : Nat) (hs : s ≤ 8) (hk : 9 ≤ k) : ((some (([(wrap64 (239 + (s : Int))) % 256] : List Int) : List Int)).bind fun y => ((understoryref01_big.f k (x : Int) (s : Int)).bind fun t => (if (strOfNums y).size + t.size ≤ 9223372036854775807 then (some ((strOfNums y) ++ t, (0 : Int))) else (none)))) = some (ofL (UInt8.ofNat (239 + s) :: bigL x s), 0) := by
  rw [w64 _ (by omega) (by omega), show ((239 : Int) + s) = ((239 + s : Nat) : Int) by omega, one_num _ (by omega), refBigN x s k hs (by omega)]
  simp only [Option.bind_some, strOfNums_numsOf]
  rw [append_ofL, if_pos (by rw [size_ofL, size_ofL, bigL_length]; simp; omega)]
  rfl
theorem refPutUint_loop (x : Nat) (hx : x < 18446744073709551616) : ∀ (d s k : Nat), 1 ≤ d → 1 ≤ s → s + d = 9 → d + 12 ≤ k → understoryref01_PutUint.l0 k (x : Int) (s : Int) = some (ofL (UInt8.ofNat (239 + szF d x s) :: bigL x (szF d x s)), 0) := by
  intro d
  induction d with
  | zero => intro s k h0; omega
  | succ d ih =>
    intro s k h0 h1 h2 hk
    obtain ⟨k, rfl⟩ : ∃ j, k = j + 1 := ⟨k - 1, by omega⟩
    rw [understoryref01_PutUint.l0]
    by_cases h8 : s < 8
    · rw [if_pos (by omega), w64 (8 * (s : Int)) (by omega) (by omega), u64w (8 * (s : Int)) (by omega) (by omega), if_pos (by omega), shr_pow x s (by omega), szF]
      by_cases hq : x / 256 ^ s > 0
      · rw [if_pos (by omega), if_pos hq, w64 _ (by omega) (by omega), show ((s : Int) + 1) = ((s + 1 : Nat) : Int) by omega]
        exact ih (s + 1) k (by omega) (by omega) (by omega) (by omega)
      · rw [if_neg (by omega), if_neg hq]
        exact put_write x s k (by omega) (by omega)
    · obtain rfl : s = 8 := by omega
      obtain rfl : d = 0 := by omega
      have e8 := size8 x hx 8 (by omega)
      rw [if_neg (by omega), szF, if_neg (by omega)]
      exact put_write x 8 k (by omega) (by omega)
theorem refPutUint_ok (m : Nat) (h : m ≤ 4611686018427387904) (k : Nat) (hk : 30 ≤ k) : understoryref01_PutUint.f k (m : Int) = some (ofL (putUintL m), 0) := by
  obtain ⟨k, rfl⟩ : ∃ j, k = j + 1 := ⟨k - 1, by omega⟩
  rw [understoryref01_PutUint.f, if_neg (by omega), show decide ((m : Int) > 4611686018427387904) = false from decide_eq_false (by omega)]
  rw [understoryref01_PutUint.j0, if_neg (by simp), putUintL]
  by_cases h2 : m < 240
  · rw [if_pos (by omega), if_pos h2, one_num m (by omega), strOfNums_numsOf]
  · rw [if_neg (by omega), if_neg h2, w64 _ (by omega) (by omega), show ((m : Int) - 240) = ((m - 240 : Nat) : Int) by omega, u64w _ (by omega) (by omega)]
    exact refPutUint_loop (m - 240) (by omega) 8 1 k (by decide) (by decide) (by decide) (by omega)
theorem refPutUint_bad (m : Int) (h : m < 0 ∨ 4611686018427387904 < m) (k : Nat) (hk : 1 ≤ k) : understoryref01_PutUint.f k m = some (⟨#[]⟩, 1) := by
  obtain ⟨k, rfl⟩ : ∃ j, k = j + 1 := ⟨k - 1, by omega⟩
  rw [understoryref01_PutUint.f]
  by_cases h0 : m < 0
  · rw [if_pos h0, understoryref01_PutUint.j0, if_pos rfl]
  · rw [if_neg h0, show decide (m > 4611686018427387904) = true from decide_eq_true (by omega), understoryref01_PutUint.j0, if_pos rfl]
/-- the program's PutUint and the reference's return the same -/
theorem put_same (n : Int) : ∃ s e, enc_PutUint.f 30 n = some (s, e) ∧ understoryref01_PutUint.f 30 n = some (s, e) ∧ s.size ≤ 100 := by
  by_cases h : n < 0 ∨ 4611686018427387904 < n
  · exact ⟨_, _, encPutUint_bad n h 30 (by omega), refPutUint_bad n h 30 (by omega), by decide⟩
  · obtain ⟨m, rfl⟩ : ∃ m : Nat, n = m := ⟨n.toNat, by omega⟩
    refine ⟨_, _, encPutUint_ok m (by omega) 30 (by omega), refPutUint_ok m (by omega) 30 (by omega), ?_⟩
    rw [size_ofL, putUintL]
    split
    · simp
    · have := (szF_le 8 (m - 240) 1).2
      simp [bigL_length]; omega

theorem foldl_big (l : Bytes) (a : Nat) : l.foldl (fun a b => a * 256 + b.toNat) a = a * 256 ^ l.length + unbigL l := by
  induction l generalizing a with
  | nil => simp [unbigL]
  | cons c t ih =>
    show List.foldl (fun a b => a * 256 + b.toNat) (a * 256 + c.toNat) t = a * 256 ^ (t.length + 1) + List.foldl (fun a b => a * 256 + b.toNat) (0 * 256 + c.toNat) t
    rw [ih, ih (0 * 256 + c.toNat), Nat.add_mul, Nat.zero_mul, Nat.zero_add, Nat.pow_succ, Nat.mul_assoc, Nat.mul_comm 256, Nat.add_assoc]
theorem unbigL_cons (c : UInt8) (t : Bytes) : unbigL (c :: t) = c.toNat * 256 ^ t.length + unbigL t := by
  rw [unbigL, List.foldl_cons, foldl_big]; simp
theorem top_byte (c : UInt8) (t : Bytes) : unbigL (c :: t) / 256 ^ t.length = c.toNat := by
  have hp : 0 < 256 ^ t.length := Nat.pow_pos (by decide)
  rw [unbigL_cons, Nat.mul_comm, Nat.mul_add_div hp, Nat.div_eq_of_lt (unbigL_lt t), Nat.add_zero]
def uintR (o : Option (Nat × Nat)) : Int × Int × Int := match o with | some x => ((x.1 : Int), (x.2 : Int), 0) | none => (0, 0, 2)
theorem refGetUint (l : Bytes) (hl : l.length ≤ 1000000000000000) (k : Nat) (hk : 20 ≤ k) : understoryref01_GetUint.f k (ofL l) = some (uintR (getUintL l)) := by
  obtain ⟨k, rfl⟩ : ∃ j, k = j + 1 := ⟨k - 1, by omega⟩
  cases l with
  | nil =>
    rw [understoryref01_GetUint.f, if_pos (by rw [size_ofL]; rfl), understoryref01_GetUint.j0, if_pos rfl]
    rfl
  | cons b r =>
    have hsz : ((ofL (b :: r)).size : Int) = (r.length : Int) + 1 := by rw [size_ofL, List.length_cons]; push_cast; rfl
    have hb : bt (ofL (b :: r)) 0 = (b.toNat : Int) := bt_ofL (b :: r) 0 (by simp)
    have hlt := b.toNat_lt
    rw [List.length_cons] at hl
    rw [understoryref01_GetUint.f, hsz, if_neg (by omega), if_pos (by omega), hb]
    by_cases h7 : b.toNat > 247
    · rw [show decide ((b.toNat : Int) > 247) = true from decide_eq_true (by omega), understoryref01_GetUint.j0, if_pos rfl, getUintL, if_neg (by omega)]
      simp only
      rw [if_pos (by omega)]
      rfl
    · rw [show decide ((b.toNat : Int) > 247) = false from decide_eq_false (by omega), understoryref01_GetUint.j0, if_neg (by simp), hsz, if_pos (by omega), hb]
      by_cases h4 : b.toNat < 240
      · rw [if_pos (by omega), w64 _ (by omega) (by omega), getUintL, if_pos h4]
        rfl
      · obtain ⟨m, hm⟩ : ∃ m, b.toNat - 239 = m := ⟨_, rfl⟩
        have e1 : wrap64 (wrap64 (b.toNat : Int) - 239) = (m : Int) := by rw [w64 (b.toNat : Int) (by omega) (by omega), w64 _ (by omega) (by omega)]; omega
        have e2 : wrap64 (1 + (m : Int)) = ((1 + m : Nat) : Int) := by rw [w64 _ (by omega) (by omega)]; push_cast; rfl
        rw [if_neg (by omega), e1, e2, getUintL, if_neg h4]
        simp only
        rw [hm, if_neg (show ¬ 8 < m by omega)]
        by_cases hr : r.length < m
        · rw [if_pos (by omega), if_pos hr]
          rfl
        · have hx : (ofL (b :: r)).extract 1 (((1 + m : Nat) : Int)).toNat = ofL (r.take m) := by
            rw [extract_ofL, Int.toNat_natCast, show 1 + m - 1 = m by omega]; rfl
          have hlen : (r.take m).length = m := by rw [List.length_take]; omega
          rw [if_neg (by omega), if_pos (by omega), if_pos (by omega), if_neg hr, hx, refUnbig _ (by omega) k (by omega)]
          simp only [Option.bind_some]
          have hu : unbigL (r.take m) < 256 ^ 8 := Nat.lt_of_lt_of_le (unbigL_lt _) (Nat.pow_le_pow_right (by omega) (by omega))
          have e8 : (256 : Nat) ^ 8 = 18446744073709551616 := by decide
          have e3 : ∀ z : Nat, ((z + 240 : Nat) : Int) = (z : Int) + 240 := fun z => by omega
          have e4 : ((m + 1 : Nat) : Int) = ((1 + m : Nat) : Int) := by omega
          by_cases hm1 : m = 1
          · rw [if_neg (by omega)]
            by_cases hbig : unbigL (r.take m) ≤ 4611686018427387664
            · rw [if_neg (by omega), if_pos ⟨hbig, .inl hm1⟩, w64 (unbigL (r.take m) : Int) (by omega) (by omega), w64 _ (by omega) (by omega)]
              simp only [uintR, e3, e4]
            · rw [if_pos (by omega), if_neg (fun h => hbig h.1)]
              rfl
          · cases r with
            | nil => simp at hr; omega
            | cons c t =>
              have hc : bt (ofL (b :: c :: t)) 1 = (c.toNat : Int) := bt_ofL (b :: c :: t) 1 (by simp)
              have htop : unbigL ((c :: t).take m) / 256 ^ (m - 1) = c.toNat := by
                obtain ⟨j, rfl⟩ : ∃ j, m = j + 1 := ⟨m - 1, by omega⟩
                rw [List.take_succ_cons] at hlen ⊢
                have := top_byte c (t.take j)
                rw [List.length_cons] at hlen
                rwa [Nat.succ.inj hlen] at this
              have hl1 : (1 : Int) < ((c :: t).length : Int) + 1 := by rw [List.length_cons]; omega
              rw [if_pos (by omega), if_pos hl1, hc, htop]
              by_cases h0 : c.toNat = 0
              · rw [if_pos (by omega), if_neg (by rintro ⟨_, h | h⟩ <;> omega)]
                rfl
              · rw [if_neg (by omega)]
                by_cases hbig : unbigL ((c :: t).take m) ≤ 4611686018427387664
                · rw [if_neg (by omega), if_pos ⟨hbig, .inr (by omega)⟩, w64 (unbigL ((c :: t).take m) : Int) (by omega) (by omega), w64 _ (by omega) (by omega)]
                  simp only [uintR, e3, e4]
                · rw [if_pos (by omega), if_neg (fun h => hbig h.1)]
                  rfl
theorem encGetUint (l : Bytes) (hl : l.length ≤ 1000000000000000) : enc_GetUint.f (ofL l) = some (uintR (getUintL l)) := by
  rw [enc_GetUint.f, if_pos (by rw [size_ofL]; exact hl), toL_ofL]
  cases getUintL l <;> rfl
theorem refGetIntN (s : Bytes) (k : Nat) (hk : 9 ≤ k) : understoryref01_GetInt.f k (ofL s) = some (match getIntL s with | some n => (n, 8, 0) | none => (0, 0, 2)) := by
  rw [understoryref01_GetInt.f, size_ofL, getIntL]
  by_cases h : s.length < 8
  · rw [if_pos (by omega), if_pos h]
  · rw [if_neg (by omega), if_pos (by decide), if_pos (by omega), if_neg h]
    rw [show (ofL s).extract 0 8 = ofL (s.take 8) from extract_take s 8, refUnbig _ (by rw [List.length_take]; omega) k hk]
    have hl : unbigL (s.take 8) < 256 ^ 8 := Nat.lt_of_lt_of_le (unbigL_lt _) (Nat.pow_le_pow_right (by omega) (by rw [List.length_take]; omega))
    have e8 : (256 : Nat) ^ 8 = 18446744073709551616 := by decide
    simp only [Option.bind_some]
    rw [bits_top _ (by omega)]
    have e : wrap64 (((unbigL (s.take 8) + 9223372036854775808) % 18446744073709551616 : Nat) : Int) = (unbigL (s.take 8) : Int) - 9223372036854775808 := by unfold wrap64; omega
    rw [e]
theorem encGetInt (l : Bytes) (hl : l.length ≤ 1000000000000000) : enc_GetInt.f (ofL l) = some (match getIntL l with | some n => (n, 8, 0) | none => (0, 0, 2)) := by
  rw [enc_GetInt.f, if_pos (by rw [size_ofL]; exact hl), toL_ofL]
  cases getIntL l <;> rfl
theorem refGet32 (s : Bytes) (k : Nat) (hk : 9 ≤ k) : understoryref01_Get32.f k (ofL s) = some (match get32L s with | some n => ((n : Int), 4, 0) | none => (0, 0, 2)) := by
  rw [understoryref01_Get32.f, size_ofL, get32L]
  by_cases h : s.length < 4
  · rw [if_pos (by omega), if_pos h]
  · have hl : unbigL (s.take 4) < 256 ^ 4 := Nat.lt_of_lt_of_le (unbigL_lt _) (Nat.pow_le_pow_right (by omega) (by rw [List.length_take]; omega))
    have e4 : (256 : Nat) ^ 4 = 4294967296 := by decide
    rw [if_neg (by omega), if_pos (by decide), if_pos (by omega), if_neg h]
    rw [show (ofL s).extract 0 4 = ofL (s.take 4) from extract_take s 4, refUnbig _ (by rw [List.length_take]; omega) k hk]
    simp only [Option.bind_some]
    rw [w64 _ (by omega) (by omega)]
theorem encGet32 (l : Bytes) (hl : l.length ≤ 1000000000000000) : enc_Get32.f (ofL l) = some (match get32L l with | some n => ((n : Int), 0) | none => (0, 2)) := by
  rw [enc_Get32.f, if_pos (by rw [size_ofL]; exact hl), toL_ofL]
  cases get32L l <;> rfl
theorem put32_same (m : Int) (h : 0 ≤ m ∧ m ≤ 4294967295) : ∃ s, enc_Put32.f 20 m = some s ∧ understoryref01_Put32.f 20 m = some s := by
  obtain ⟨n, rfl⟩ : ∃ n : Nat, m = n := ⟨m.toNat, by omega⟩
  refine ⟨ofL (bigL n 4), ?_, ?_⟩
  · rw [enc_Put32.f, u64w _ (by omega) (by omega), show (4 : Int) = ((4 : Nat) : Int) from rfl, big_fuel n 4 20 (by omega) (by omega)]; rfl
  · rw [understoryref01_Put32.f, u64w _ (by omega) (by omega), show (4 : Int) = ((4 : Nat) : Int) from rfl, refBigN n 4 20 (by omega) (by omega)]; rfl
end Go.Proofs.Ythpabgiicglbmaa.Pure
