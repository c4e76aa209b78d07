import Derived.Test.YthpabgiicglbmaaPn
import Derived.Test.YthpabgiicglbmaaPt
import Derived.Test.YthpabgiicglbmaaEx13
import Derived.Test.YthpabgiicglbmaaP0
import Derived.Test.YthpabgiicglbmaaEv8
namespace Go.Proofs.Ythpabgiicglbmaa.Pure
set_option linter.unusedVariables false
set_option linter.unusedSimpArgs false
open Go.RowKit Go.Proofs.Ythpabgiicglbmaa.E Go.Proofs.YthpabgiicglbmaaW.PrintWords Go.Proofs.YthpabgiicglbmaaW.PrintLast

def txtR (acc : Bytes) (i : Nat) (o : Option (Bytes × Nat)) : ByteArray × Int × Int := match o with | some x => (ofL (acc ++ x.1), ((i + x.2 : Nat) : Int), 0) | none => (⟨#[]⟩, 0, 2)
theorem snocNums (acc : Bytes) (b : UInt8) : numsOf acc ++ [(b.toNat : Int)] = numsOf (acc ++ [b]) := by simp [numsOf]
theorem byte_eq (b : UInt8) (n : Nat) (hn : n < 256) : ((b.toNat : Int) = (n : Int)) ↔ b = UInt8.ofNat n := by
  constructor
  · intro h
    have : b.toNat = n := by omega
    rw [← this]; simp
  · intro h
    rw [h, UInt8.toNat_ofNat', Nat.mod_eq_of_lt (by omega)]
theorem byte0 (b : UInt8) : ((b.toNat : Int) = 0) ↔ b = 0 := byte_eq b 0 (by decide)
theorem byte1 (b : UInt8) : ((b.toNat : Int) = 1) ↔ b = 1 := byte_eq b 1 (by decide)
theorem byte255 (b : UInt8) : ((b.toNat : Int) = 255) ↔ b = 255 := byte_eq b 255 (by decide)
theorem refGetText_loop (s : Bytes) (h : s.length ≤ 1000000) : ∀ n k i (acc : Bytes), s.length - i ≤ n → i ≤ s.length → acc.length ≤ i → 2 * n + 2 ≤ k → understoryref01_GetText.l0 k (ofL s) (numsOf acc) (i : Int) = some (txtR acc i (unescL (s.drop i))) := by
  intro n
  induction n using Nat.strongRecOn with
  | ind n ih =>
    intro k i acc hn hi ha hk
    obtain ⟨k, rfl⟩ : ∃ j, k = j + 2 := ⟨k - 2, by omega⟩
    unfold understoryref01_GetText.l0
    rw [size_ofL]
    by_cases hlt : i < s.length
    · have ew : wrap64 ((i : Int) + 1) = ((i + 1 : Nat) : Int) := by rw [w64 _ (by omega) (by omega)]; omega
      have eq : ((((i + 1 : Nat) : Int)) = (s.length : Int)) = (i + 1 = s.length) := propext ⟨by omega, by omega⟩
      have hdr := List.drop_eq_getElem_cons hlt
      rw [if_pos (by omega), if_pos (by omega), bt_ofL s i hlt, ew, hdr]
      obtain ⟨b, hb⟩ : ∃ b, s[i] = b := ⟨_, rfl⟩
      rw [hb] at hdr ⊢
      have hacc : (numsOf acc).length < 140737488355328 := by simp [numsOf]; omega
      by_cases hz : b = 0
      · rw [if_pos ((byte0 b).mpr hz)]
        by_cases he : i + 1 = s.length
        · rw [if_pos (by omega)]
          unfold understoryref01_GetText.j1
          rw [if_pos rfl, he, List.drop_length]
          rfl
        · have hlt2 : i + 1 < s.length := by omega
          have hd2 := List.drop_eq_getElem_cons hlt2
          rw [if_neg (by omega), if_pos (by omega), if_pos (by omega), bt_ofL s (i + 1) hlt2, hd2]
          obtain ⟨c, hc⟩ : ∃ c, s[i + 1] = c := ⟨_, rfl⟩
          rw [hc]
          have e2 : wrap64 ((i : Int) + 2) = ((i + 2 : Nat) : Int) := by rw [w64 _ (by omega) (by omega)]; omega
          have e3 : wrap64 (((i + 1 : Nat) : Int) + 1) = ((i + 2 : Nat) : Int) := by rw [w64 _ (by omega) (by omega)]; omega
          by_cases h1 : c = 1
          · have hc1 : ((c.toNat : Int) = 1) := (byte1 c).mpr h1
            rw [if_neg (by omega), show ((c.toNat : Int) != 1) = false by rw [hc1]; rfl]
            unfold understoryref01_GetText.j1
            rw [if_neg (by simp), ew, if_pos (by omega), if_pos (by rw [size_ofL]; omega), bt_ofL s (i + 1) hlt2, hc, if_pos hc1, e2, strOfNums_numsOf]
            simp [unescL, hz, h1, txtR]
          · have hn1 : ¬ ((c.toNat : Int) = 1) := fun e => h1 ((byte1 c).mp e)
            by_cases h255 : c = 255
            · have hc2 : ((c.toNat : Int) = 255) := (byte255 c).mpr h255
              rw [if_pos hc2]
              unfold understoryref01_GetText.j1
              rw [if_neg (by simp), ew, if_pos (by omega), if_pos (by rw [size_ofL]; omega), bt_ofL s (i + 1) hlt2, hc, if_neg hn1, if_pos hacc, e3]
              rw [show numsOf acc ++ [(0 : Int)] = numsOf (acc ++ [0]) from snocNums acc 0]
              rw [ih (n - 2) (by omega) k (i + 2) (acc ++ [0]) (by omega) (by omega) (by simp; omega) (by omega)]
              simp only [unescL, hz, h255]
              cases unescL (s.drop (i + 2)) with
              | none => rfl
              | some x => simp [txtR]; omega
            · have hn2 : ¬ ((c.toNat : Int) = 255) := fun e => h255 ((byte255 c).mp e)
              rw [if_neg hn2, show ((c.toNat : Int) != 1) = true by simpa using hn1]
              unfold understoryref01_GetText.j1
              rw [if_pos rfl]
              simp [unescL, hz, h1, h255, txtR]
      · rw [if_neg (fun e => hz ((byte0 b).mp e)), if_pos hacc, snocNums]
        rw [ih (n - 1) (by omega) (k + 1) (i + 1) (acc ++ [b]) (by omega) (by omega) (by simp; omega) (by omega)]
        cases hd : s.drop (i + 1) with
        | nil => rfl
        | cons c r =>
          rw [show unescL (b :: c :: r) = (unescL (c :: r)).map fun x => (b :: x.1, x.2 + 1) from by rw [unescL, if_neg hz]]
          cases unescL (c :: r) with
          | none => rfl
          | some x => simp [txtR]; omega
    · rw [if_neg (by omega), List.drop_of_length_le (by omega)]; rfl
theorem refGetText (s : Bytes) (h : s.length ≤ 1000000) (k : Nat) (hk : 2 * s.length + 2 ≤ k) : understoryref01_GetText.f k (ofL s) = some (txtR [] 0 (unescL s)) := by
  have := refGetText_loop s h s.length k 0 [] (by omega) (by omega) (by simp) hk
  simpa [understoryref01_GetText.f, numsOf] using this
theorem encGetText (s : Bytes) (h : s.length ≤ 1000000) : enc_GetText.f (ofL s) = some (txtR [] 0 (unescL s)) := by
  rw [enc_GetText.f, if_pos (by rw [size_ofL]; exact h), toL_ofL]
  cases unescL s with
  | none => rfl
  | some x => simp [txtR]
theorem refPutText_loop (s : Bytes) (h : s.length ≤ 1000000) : ∀ k i, i ≤ s.length → s.length - i < k → understoryref01_PutText.l0 k (ofL s) (numsOf (escB (s.take i))) (i : Int) = some (ofL (escL s)) := by
  intro k
  induction k with
  | zero => intro i _ hk; omega
  | succ k ih =>
    intro i hi hk
    unfold understoryref01_PutText.l0
    rw [size_ofL]
    have hlen := escB_len (s.take i)
    rw [List.length_take] at hlen
    have hl2 : (numsOf (escB (s.take i))).length ≤ 2 * i := by simp [numsOf]; omega
    by_cases hlt : i < s.length
    · have ew : wrap64 ((i : Int) + 1) = ((i + 1 : Nat) : Int) := by rw [w64 _ (by omega) (by omega)]; omega
      rw [if_pos (by omega), if_pos (by omega), if_pos (by omega), bt_ofL s i hlt, ew]
      simp only [Option.bind_some]
      have ih := ih (i + 1) (by omega) (by omega)
      rw [List.take_succ_eq_append_getElem hlt, escB_snoc] at ih
      by_cases hz : s[i] = 0
      · rw [if_pos hz] at ih
        rw [if_pos ((byte0 _).mpr hz), if_pos (by simp; omega), hz]
        rw [show (numsOf (escB (s.take i)) ++ [((0 : UInt8).toNat : Int)]) ++ [(255 : Int)] = numsOf (escB (s.take i) ++ [0, 255]) by simp [numsOf]]
        exact ih
      · rw [if_neg hz] at ih
        rw [if_neg (fun e => hz ((byte0 _).mp e)), snocNums]
        exact ih
    · rw [if_neg (by omega), show i = s.length by omega, List.take_length]
      have hl3 := escB_len s
      simp only [Option.bind_some]
      rw [if_pos (by simp [numsOf]; omega)]
      rw [show numsOf (escB s) ++ ([0, 1] : List Int) = numsOf (escL s) by rw [escL_escB]; simp [numsOf], strOfNums_numsOf]
theorem refPutText (s : Bytes) (h : s.length ≤ 1000000) (k : Nat) (hk : s.length < k) : understoryref01_PutText.f k (ofL s) = some (ofL (escL s)) := by
  have := refPutText_loop s h k 0 (by omega) (by omega)
  simpa [understoryref01_PutText.f, numsOf, escB] using this
theorem encPutText (s : Bytes) (h : s.length ≤ 1000000) : enc_PutText.f (ofL s) = some (ofL (escL s)) := by
  rw [enc_PutText.f, if_pos (by rw [size_ofL]; exact h), toL_ofL]
end Go.Proofs.Ythpabgiicglbmaa.Pure

namespace Go.Proofs.Ythpabgiicglbmaa.Pure
set_option linter.unusedVariables false
set_option linter.unusedSimpArgs false
open Go.RowKit Go.Proofs.Ythpabgiicglbmaa.E Go.Proofs.YthpabgiicglbmaaW.PrintWords Go.Proofs.YthpabgiicglbmaaW.PrintLast

theorem xor_low (x : Nat) (h : x < 2 ^ 63) : x ^^^ 2 ^ 63 = x + 2 ^ 63 := by
  apply Nat.eq_of_testBit_eq
  intro i
  rw [Nat.testBit_xor, Nat.testBit_two_pow, Nat.add_comm]
  by_cases hi : i = 63
  · subst hi
    rw [Nat.testBit_two_pow_add_eq]
    simp
  · by_cases h2 : i < 63
    · rw [Nat.testBit_two_pow_add_gt h2]
      simp [Ne.symm hi]
    · have h3 : x < 2 ^ i := Nat.lt_of_lt_of_le h (Nat.pow_le_pow_right (by decide) (by omega))
      have h4 : 2 ^ 63 + x < 2 ^ i := by
        have : 2 ^ 64 ≤ 2 ^ i := Nat.pow_le_pow_right (by decide) (by omega)
        omega
      rw [Nat.testBit_lt_two_pow h3, Nat.testBit_lt_two_pow h4]
      simp [Ne.symm hi]
theorem xor_top (x : Nat) (h : x < 2 ^ 64) : x ^^^ 2 ^ 63 = (x + 2 ^ 63) % 2 ^ 64 := by
  by_cases h2 : x < 2 ^ 63
  · rw [xor_low x h2, Nat.mod_eq_of_lt (by omega)]
  · obtain ⟨y, rfl⟩ : ∃ y, x = y + 2 ^ 63 := ⟨x - 2 ^ 63, by omega⟩
    rw [← xor_low y (by omega), Nat.xor_assoc, Nat.xor_self, Nat.xor_zero]
    rw [xor_low y (by omega)]
    omega
theorem bits_top (x : Nat) (h : x < 18446744073709551616) : Go.bits .xor .u64 (x : Int) 9223372036854775808 = (((x + 9223372036854775808) % 18446744073709551616 : Nat) : Int) := by
  have := bits_xor_u64_nat x 9223372036854775808 h (by decide)
  rw [show ((9223372036854775808 : Nat) : Int) = 9223372036854775808 from rfl] at this
  rw [this]
  have e := xor_top x (by omega)
  rw [show (9223372036854775808 : Nat) = 2 ^ 63 by decide, show (18446744073709551616 : Nat) = 2 ^ 64 by decide, e]
theorem wrap_nat (n : Int) : IntKind.u64.wrap n = (((n % 18446744073709551616).toNat : Nat) : Int) := by
  rw [show IntKind.u64.wrap n = n % 18446744073709551616 by simp [IntKind.wrap, IntKind.bits, IntKind.signed]]
  omega
theorem refBig_loop (x : Nat) : ∀ (j k : Nat) (out : List Int), j + out.length ≤ 8 → j < k → understoryref01_big.l0 k (x : Int) out ((j : Int) - 1) = some (strOfNums (out ++ numsOf (bigL x j))) := by
  intro j
  induction j with
  | zero =>
    intro k out _ hk
    obtain ⟨k, rfl⟩ : ∃ m, k = m + 1 := ⟨k - 1, by omega⟩
    rw [understoryref01_big.l0, if_neg (by omega)]
    simp [bigL, numsOf]
  | succ j ih =>
    intro k out hj hk
    obtain ⟨k, rfl⟩ : ∃ m, k = m + 1 := ⟨k - 1, by omega⟩
    have e1 : wrap64 (8 * (((j + 1 : Nat) : Int) - 1)) = 8 * (j : Int) := by rw [w64 _ (by omega) (by omega)]; omega
    have e2 : IntKind.u64.wrap (8 * (j : Int)) = 8 * (j : Int) := u64w _ (by omega) (by omega)
    have e3 : wrap64 ((((j + 1 : Nat) : Int) - 1) - 1) = (j : Int) - 1 := by rw [w64 _ (by omega) (by omega)]; omega
    have h256 : (((x / 256 ^ j : Nat) : Int) % 256) = ((UInt8.ofNat (x / 256 ^ j % 256)).toNat : Int) := by
      rw [ofNat_lt _ (Nat.mod_lt _ (by decide))]; omega
    rw [understoryref01_big.l0, if_pos (by omega), e1, e2, if_pos (by omega), if_pos (by omega), shr_pow x j (by omega), e3, h256]
    rw [ih k _ (by rw [List.length_append, List.length_singleton]; omega) (by omega), bigL_snoc_shift]
    simp [numsOf]
theorem refBig (x k : Nat) (hk : 9 ≤ k) : understoryref01_big.f k (x : Int) 8 = some (ofL (bigL x 8)) := by
  rw [understoryref01_big.f, show wrap64 (8 - 1) = ((8 : Nat) : Int) - 1 by unfold wrap64; omega, refBig_loop x 8 k [] (by decide) (by omega), List.nil_append, strOfNums_numsOf]
theorem refPutInt (n : Int) (k : Nat) (hk : 9 ≤ k) : understoryref01_PutInt.f k n = some (ofL (putIntL n)) := by
  rw [understoryref01_PutInt.f, wrap_nat, bits_top _ (by omega), refBig _ k hk, putIntL]
  simp only [Option.bind_some]
  rw [show ((n % 18446744073709551616).toNat + 9223372036854775808) % 18446744073709551616 = ((n + 9223372036854775808) % 18446744073709551616).toNat by omega]
theorem nums1 (b : UInt8) : ([(b.toNat : Int)] : List Int) = numsOf [b] := rfl
theorem refDatum (x : S49) (h : validS x = true) (hs : x.f2.size ≤ 3000) (k : Nat) (hk : 3010 ≤ k) : understoryref01_datum.f k x.f0 x.f1 x.f2 = some (ofL (datumL x)) := by
  rw [understoryref01_datum.f]
  have hf : (x.f0 = 0 ∧ x.f1 = 0 ∧ x.f2.size = 0) ∨ (x.f0 = 1 ∧ (x.f1 = 0 ∨ x.f1 = 1) ∧ x.f2.size = 0) ∨ (x.f0 = 2 ∧ x.f2.size = 0) ∨ (x.f0 = 3 ∧ x.f1 = 0) := by
    simp only [validS, validB, Bool.or_eq_true, Bool.and_eq_true, beq_iff_eq] at h
    omega
  rcases hf with ⟨h0, h1, h2⟩ | ⟨h0, h1, h2⟩ | ⟨h0, h2⟩ | ⟨h0, h1⟩
  · rw [if_neg (by omega), if_neg (by omega), if_neg (by omega)]
    rw [show datumL x = [1] by simp [datumL, h0], show ([1] : List Int) = numsOf [1] from rfl, strOfNums_numsOf]
  · rw [if_pos h0]
    rcases h1 with h1 | h1
    · rw [h1, show datumL x = [2, 0] by simp [datumL, h0, h1], show ([2, 0 % 256] : List Int) = numsOf [2, 0] from rfl, strOfNums_numsOf]
    · rw [h1, show datumL x = [2, 1] by simp [datumL, h0, h1], show ([2, 1 % 256] : List Int) = numsOf [2, 1] from rfl, strOfNums_numsOf]
  · rw [if_neg (by omega), if_pos h0, refPutInt _ _ (by omega)]
    simp only [Option.bind_some]
    rw [show ([3] : List Int) = numsOf [3] from rfl, strOfNums_numsOf, append_ofL, if_pos (by rw [size_ofL, size_ofL, putIntL, bigL_length]; decide)]
    rw [show datumL x = 3 :: putIntL x.f1 by simp [datumL, h0]]; rfl
  · rw [if_neg (by omega), if_neg (by omega), if_pos h0]
    obtain ⟨l, hl⟩ : ∃ l, x.f2 = ofL l := ⟨toL x.f2, (ofL_toL _).symm⟩
    rw [hl, size_ofL] at hs
    have hle := escL_len l
    rw [hl, refPutText l (by omega) k (by omega)]
    simp only [Option.bind_some]
    rw [show ([4] : List Int) = numsOf [4] from rfl, strOfNums_numsOf, append_ofL, if_pos (by rw [size_ofL, size_ofL]; simp; omega)]
    rw [show datumL x = 4 :: escL (toL x.f2) by simp [datumL, h0], hl]; rfl
theorem refFlip_loop' (s : Bytes) (h : s.length ≤ 1000000) : ∀ k i, i ≤ s.length → s.length - i < k → understoryref01_Flip.l0 k (ofL s) (numsOf (flipL (s.take i))) (i : Int) = some (ofL (flipL s)) := by
  intro k
  induction k with
  | zero => intro i _ hk; omega
  | succ k ih =>
    intro i hi hk
    unfold understoryref01_Flip.l0
    rw [size_ofL]
    by_cases hlt : i < s.length
    · rw [if_pos (by omega), if_pos (by omega), if_pos (by simp [numsOf, flipL]; omega), bt_ofL s i hlt, flip_num, w64 _ (by omega) (by omega), show ((i : Int) + 1) = ((i + 1 : Nat) : Int) from by omega]
      rw [show numsOf (flipL (s.take i)) ++ [((255 - s[i] : UInt8).toNat : Int)] = numsOf (flipL (s.take (i + 1))) by rw [List.take_succ_eq_append_getElem hlt]; simp only [numsOf, flipL, List.map_append, List.map_cons, List.map_nil]]
      exact ih (i + 1) (by omega) (by omega)
    · rw [if_neg (by omega), show i = s.length by omega, List.take_length, strOfNums_numsOf]
theorem refFlip' (s : Bytes) (h : s.length ≤ 1000000) (k : Nat) (hk : s.length < k) : understoryref01_Flip.f k (ofL s) = some (ofL (flipL s)) := by
  have := refFlip_loop' s h k 0 (by omega) (by omega)
  simpa [understoryref01_Flip.f, numsOf, flipL] using this
theorem refPutKey_loop (ds : List Bool) (l : List S49) (hs : ∀ x ∈ l, x.f2.size ≤ 3000) (hb : l.length ≤ 60) : ∀ (d k i : Nat) (acc : Bytes), l.length - i = d → i ≤ l.length → d + 7000 < k → acc.length ≤ i * 7000 →
    understoryref01_PutKey.l0 k l ds (ofL acc) (i : Int) = some (match putKeyL ds i (l.drop i) with | some y => (ofL (acc ++ y), 0) | none => (⟨#[]⟩, 2)) := by
  intro d
  induction d with
  | zero =>
    intro k i acc hd hi hk ha
    obtain ⟨k, rfl⟩ : ∃ m, k = m + 1 := ⟨k - 1, by omega⟩
    rw [understoryref01_PutKey.l0, if_neg (by omega), List.drop_of_length_le (by omega)]
    simp [putKeyL]
  | succ d ih =>
    intro k i acc hd hi hk ha
    obtain ⟨k, rfl⟩ : ∃ m, k = m + 1 := ⟨k - 1, by omega⟩
    have hlt : i < l.length := by omega
    have hsx := hs _ (rd_mem l i hlt)
    rw [understoryref01_PutKey.l0, if_pos (by omega), if_pos (by omega), refValid, putKeyL_step ds i i l hlt]
    simp only [Option.bind_some]
    rw [show validB (rd_T49 l i).f0 (rd_T49 l i).f1 (rd_T49 l i).f2 = validS (rd_T49 l i) from rfl]
    cases hv : validS (rd_T49 l i) with
    | false => simp
    | true =>
      have hdl : (datumL (rd_T49 l i)).length ≤ 6500 := by
        unfold datumL
        have h3 := escL_len (toL (rd_T49 l i).f2)
        rw [length_toL] at h3
        split
        · simp
        · split
          · simp [putIntL, bigL_length]
          · split
            · simp only [List.length_cons]; omega
            · simp
      rw [if_pos rfl, if_pos rfl, refDatum _ hv hsx k (by omega), refDown]
      simp only [Option.bind_some]
      cases hdv : desc ds i with
      | true =>
        rw [if_pos rfl, refFlip' _ (by omega) k (by omega)]
        simp only [Option.bind_some]
        rw [if_pos (by rw [size_ofL, size_ofL, flip_len]; omega), append_ofL, w64 _ (by omega) (by omega), show ((i : Int) + 1) = ((i + 1 : Nat) : Int) by omega]
        rw [ih k (i + 1) _ (by omega) (by omega) (by omega) (by rw [List.length_append, flip_len]; omega)]
        cases putKeyL ds (i + 1) (l.drop (i + 1)) <;> simp
      | false =>
        rw [if_neg (by simp), if_pos (by rw [size_ofL, size_ofL]; omega), append_ofL, w64 _ (by omega) (by omega), show ((i : Int) + 1) = ((i + 1 : Nat) : Int) by omega]
        rw [ih k (i + 1) _ (by omega) (by omega) (by omega) (by rw [List.length_append]; omega)]
        cases putKeyL ds (i + 1) (l.drop (i + 1)) <;> simp
theorem refPutKey (ds : List Bool) (l : List S49) (hs : ∀ x ∈ l, x.f2.size ≤ 3000) (hb : l.length ≤ 60) (k : Nat) (hk : 7100 < k) :
    understoryref01_PutKey.f k l ds = some (match putKeyL ds 0 l with | some y => (ofL y, 0) | none => (⟨#[]⟩, 2)) := by
  have := refPutKey_loop ds l hs hb l.length k 0 [] rfl (by omega) (by omega) (by simp)
  rw [understoryref01_PutKey.f]
  exact this

/-! reading -/
theorem refUnbig_loop (l : Bytes) (hl : l.length ≤ 8) (d : Nat) : ∀ (k i : Nat), i ≤ l.length → l.length - i = d → d < k →
    understoryref01_unbig.l0 k (ofL l) (unbigL (l.take i) : Nat) (i : Int) = some (unbigL l : Int) := by
  induction d with
  | zero =>
    intro k i hi hd hk
    obtain ⟨k, rfl⟩ : ∃ m, k = m + 1 := ⟨k - 1, by omega⟩
    have e : i = l.length := by omega
    subst e
    rw [understoryref01_unbig.l0, size_ofL, if_neg (by omega), List.take_length]
  | succ d ih =>
    intro k i hi hd hk
    obtain ⟨k, rfl⟩ : ∃ m, k = m + 1 := ⟨k - 1, by omega⟩
    have hlt : i < l.length := by omega
    have hs : unbigL (l.take (i + 1)) = unbigL (l.take i) * 256 + l[i].toNat := by rw [← unbigL_snoc, List.take_succ_eq_append_getElem hlt]
    have h1 : unbigL (l.take i) < 256 ^ 7 := Nat.lt_of_lt_of_le (unbigL_lt _) (Nat.pow_le_pow_right (by omega) (by simp; omega))
    have h2 := l[i].toNat_lt
    have h3 : (256 : Nat) ^ 7 = 72057594037927936 := by decide
    rw [understoryref01_unbig.l0, size_ofL, if_pos (by omega), if_pos (by omega), bt_ofL l i hlt, u64w _ (by omega) (by omega), u64w _ (by omega) (by omega), or_byte _ _ (by omega) (by omega), ← hs, w64 _ (by omega) (by omega)]
    exact ih k (i + 1) (by omega) (by omega) (by omega)
theorem refUnbig (l : Bytes) (hl : l.length ≤ 8) (k : Nat) (hk : 9 ≤ k) : understoryref01_unbig.f k (ofL l) = some (unbigL l : Int) := by
  have := refUnbig_loop l hl l.length k 0 (by omega) (by omega) (by omega)
  simpa [understoryref01_unbig.f, unbigL] using this
theorem refGetInt (s : Bytes) (hs : s.length ≤ 1000000) (k : Nat) (hk : 9 ≤ k) : understoryref01_GetInt.f k (ofL s) = some (match getIntL s with | some n => (n, 8, 0) | none => (0, 0, 2)) := by
  rw [understoryref01_GetInt.f, size_ofL, getIntL]
  by_cases h : s.length < 8
  · rw [if_pos (by omega), if_pos h]
  · rw [if_neg (by omega), if_pos (by decide), if_pos (by omega), if_neg h]
    rw [show (ofL s).extract 0 8 = ofL (s.take 8) from extract_take s 8, refUnbig _ (by rw [List.length_take]; omega) k hk]
    have hl : unbigL (s.take 8) < 256 ^ 8 := Nat.lt_of_lt_of_le (unbigL_lt _) (Nat.pow_le_pow_right (by omega) (by rw [List.length_take]; omega))
    have e8 : (256 : Nat) ^ 8 = 18446744073709551616 := by decide
    simp only [Option.bind_some]
    rw [bits_top _ (by omega)]
    have e : wrap64 (((unbigL (s.take 8) + 9223372036854775808) % 18446744073709551616 : Nat) : Int) = (unbigL (s.take 8) : Int) - 9223372036854775808 := by unfold wrap64; omega
    rw [e]
def oneR (o : Option (S49 × Nat)) : Int × Int × ByteArray × Int × Int := match o with | some x => (x.1.f0, x.1.f1, x.1.f2, (x.2 : Int), 0) | none => (0, 0, ⟨#[]⟩, 0, 2)
theorem refOne (s : Bytes) (hs : s.length ≤ 1000000) (k : Nat) (hk : 2 * s.length + 10 ≤ k) : understoryref01_one.f k (ofL s) = some (oneR (oneL s)) := by
  rw [understoryref01_one.f, size_ofL]
  cases s with
  | nil => rw [if_pos (by simp)]; rfl
  | cons b r =>
    have h0 : bt (ofL (b :: r)) 0 = (b.toNat : Int) := bt_ofL (b :: r) 0 (by simp)
    have hb := b.toNat_lt
    have hlb : (b :: r).length = r.length + 1 := rfl
    rw [if_neg (by rw [hlb]; omega), if_pos (by rw [hlb]; omega), h0]
    simp only [oneL]
    by_cases h1 : b = 1
    · rw [if_pos ((byte1 b).mpr h1), if_pos h1]; rfl
    · rw [if_neg (fun e => h1 ((byte1 b).mp e)), if_neg h1]
      by_cases h2 : b = 2
      · rw [if_pos (show (b.toNat : Int) = 2 from (byte_eq b 2 (by decide)).mpr h2), if_pos h2]
        cases r with
        | nil => rw [if_pos (by simp)]; rfl
        | cons c r =>
          have hc1 : bt (ofL (b :: c :: r)) 1 = (c.toNat : Int) := bt_ofL (b :: c :: r) 1 (by simp)
          have hc := c.toNat_lt
          rw [if_neg (by simp; omega), if_pos (by simp; omega), hc1]
          by_cases hc2 : c.toNat ≤ 1
          · rw [if_neg (by omega), w64 _ (by omega) (by omega)]
            simp [hc2, oneR]
          · rw [if_pos (by omega)]
            simp [hc2, oneR]
      · rw [if_neg (show ¬ (b.toNat : Int) = 2 from fun e => h2 ((byte_eq b 2 (by decide)).mp e)), if_neg h2]
        have hd : (ofL (b :: r)).extract 1 (b :: r).length = ofL r := extract_drop (b :: r) 1 _ (Nat.le_refl _)
        have hlr : r.length + 1 = (b :: r).length := rfl
        by_cases h3 : b = 3
        · rw [if_pos (show (b.toNat : Int) = 3 from (byte_eq b 3 (by decide)).mpr h3), if_pos h3, if_pos (by simp; omega), hd, refGetInt r (by omega) k (by omega)]
          cases getIntL r with
          | none => rfl
          | some n => rfl
        · rw [if_neg (show ¬ (b.toNat : Int) = 3 from fun e => h3 ((byte_eq b 3 (by decide)).mp e)), if_neg h3]
          by_cases h4 : b = 4
          · rw [if_pos (show (b.toNat : Int) = 4 from (byte_eq b 4 (by decide)).mpr h4), if_pos h4, if_pos (by simp; omega), hd, refGetText r (by omega) k (by omega)]
            have hu := unescL_len r
            cases hx : unescL r with
            | none => rfl
            | some y =>
              have := (hu y hx).1
              simp only [txtR, Option.bind_some, if_true, List.nil_append, Option.map_some, oneR]
              rw [w64 _ (by omega) (by omega)]
              congr 5
              omega
          · rw [if_neg (show ¬ (b.toNat : Int) = 4 from fun e => h4 ((byte_eq b 4 (by decide)).mp e)), if_neg h4]; rfl
theorem one_le (s : Bytes) (x : S49 × Nat) (h : oneL s = some x) : 1 ≤ x.2 ∧ x.2 ≤ s.length := by
  have h1 := one_pos s x h
  refine ⟨h1, ?_⟩
  have hd : datL s = some (x.1, s.drop x.2) := by rw [one_dat, h]; rfl
  cases s with
  | nil => cases h
  | cons b r =>
    simp only [oneL] at h
    split at h
    · obtain rfl := Option.some.inj h; simp
    · split at h
      · cases r with
        | nil => cases h
        | cons c r =>
          simp only at h
          split at h
          · obtain rfl := Option.some.inj h; simp
          · cases h
      · split at h
        · cases hi : getIntL r with
          | none => rw [hi] at h; cases h
          | some n =>
            rw [hi] at h; obtain rfl := Option.some.inj h
            unfold getIntL at hi
            split at hi
            · cases hi
            · simp only [List.length_cons]; omega
        · split at h
          · cases hi : unescL r with
            | none => rw [hi] at h; cases h
            | some n =>
              rw [hi] at h; obtain rfl := Option.some.inj h
              have := (unescL_len r n hi).1
              simp only [List.length_cons]; omega
          · cases h
theorem refGetKey_loop (ds : List Bool) (s : Bytes) (hs : s.length ≤ 3000) : ∀ (n k f i : Nat) (xs : List S49), s.length - i ≤ n → i ≤ s.length → xs.length ≤ i → s.length - i < f → n + 7000 ≤ k →
    understoryref01_GetKey.l0 k (ofL s) ds xs (i : Int) = some (match getKeyL ds f xs.length (s.drop i) with | some ys => (xs ++ ys, 0) | none => ([], 2)) := by
  intro n
  induction n using Nat.strongRecOn with
  | ind n ih =>
    intro k f i xs hn hi hx hf hk
    obtain ⟨k, rfl⟩ : ∃ m, k = m + 1 := ⟨k - 1, by omega⟩
    obtain ⟨f, rfl⟩ : ∃ m, f = m + 1 := ⟨f - 1, by omega⟩
    rw [understoryref01_GetKey.l0, size_ofL, getKeyL]
    by_cases hlt : i < s.length
    · have hne : s.drop i ≠ [] := fun e => by have := List.drop_eq_nil_iff.mp e; omega
      have hex : (ofL s).extract (i : Int).toNat s.length = ofL (s.drop i) := by rw [Int.toNat_natCast]; exact extract_drop s i _ (Nat.le_refl _)
      rw [if_pos (by omega), if_pos (by omega), if_pos (by omega), if_neg hne, hex, refDown]
      simp only [Option.bind_some]
      have hlen : (s.drop i).length ≤ 3000 := by simp; omega
      cases hd : desc ds xs.length with
      | true =>
        simp only [if_true]
        rw [refFlip' _ (by omega) k (by omega)]
        simp only [Option.bind_some]
        rw [refOne _ (by rw [flip_len]; omega) k (by rw [flip_len]; omega)]
        cases ho : oneL (flipL (s.drop i)) with
        | none => rfl
        | some y =>
          have hy := one_le _ _ ho
          rw [flip_len, List.length_drop] at hy
          simp only [Option.bind_some, oneR, if_true]
          rw [if_pos (by omega), w64 _ (by omega) (by omega), show ((i : Int) + (y.2 : Int)) = ((i + y.2 : Nat) : Int) by omega]
          rw [ih (n - 1) (by omega) k f (i + y.2) _ (by omega) (by omega) (by simp; omega) (by omega) (by omega)]
          rw [List.drop_drop, List.length_append, List.length_singleton]
          cases getKeyL ds f (xs.length + 1) (s.drop (i + y.2)) <;> simp
      | false =>
        simp only [Bool.false_eq_true, if_false]
        rw [refOne _ (by omega) k (by omega)]
        cases ho : oneL (s.drop i) with
        | none => rfl
        | some y =>
          have hy := one_le _ _ ho
          rw [List.length_drop] at hy
          simp only [Option.bind_some, oneR, if_true]
          rw [if_pos (by omega), w64 _ (by omega) (by omega), show ((i : Int) + (y.2 : Int)) = ((i + y.2 : Nat) : Int) by omega]
          rw [ih (n - 1) (by omega) k f (i + y.2) _ (by omega) (by omega) (by simp; omega) (by omega) (by omega)]
          rw [List.drop_drop, List.length_append, List.length_singleton]
          cases getKeyL ds f (xs.length + 1) (s.drop (i + y.2)) <;> simp
    · rw [if_neg (by omega), List.drop_of_length_le (by omega), if_pos rfl]; simp
theorem refGetKey (ds : List Bool) (s : Bytes) (hs : s.length ≤ 3000) (k : Nat) (hk : 10000 ≤ k) : understoryref01_GetKey.f k (ofL s) ds = some (match getKeyL ds (s.length + 1) 0 s with | some ys => (ys, 0) | none => ([], 2)) := by
  have := refGetKey_loop ds s hs s.length k (s.length + 1) 0 [] (by omega) (by omega) (by simp) (by omega) (by omega)
  rw [understoryref01_GetKey.f]
  exact this
theorem same_loop (l : List S49) (hb : l.length ≤ 100000) : ∀ (d k i : Nat), l.length - i = d → i ≤ l.length → d < k → understoryref01_SameData.l0 k l l (i : Int) = some true := by
  intro d
  induction d with
  | zero =>
    intro k i hd hi hk
    obtain ⟨k, rfl⟩ : ∃ m, k = m + 1 := ⟨k - 1, by omega⟩
    rw [understoryref01_SameData.l0, if_neg (by omega)]
  | succ d ih =>
    intro k i hd hi hk
    obtain ⟨k, rfl⟩ : ∃ m, k = m + 1 := ⟨k - 1, by omega⟩
    rw [understoryref01_SameData.l0, if_pos (by omega), if_pos (by omega), if_pos (by omega), if_neg (by simp), w64 _ (by omega) (by omega), show ((i : Int) + 1) = ((i + 1 : Nat) : Int) by omega]
    exact ih k (i + 1) (by omega) (by omega) (by omega)
theorem same_spec (l : List S49) (hb : l.length ≤ 100000) (k : Nat) (hk : l.length < k) : understoryref01_SameData.f k l l = some true := by
  rw [understoryref01_SameData.f, if_pos rfl]
  exact same_loop l hb l.length k 0 rfl (by omega) hk
theorem getKey_len (ds : List Bool) (f i : Nat) (s : Bytes) (ys : List S49) (h : getKeyL ds f i s = some ys) : ys.length < f := by
  induction f generalizing i s ys with
  | zero => cases h
  | succ f ih =>
    rw [getKeyL] at h
    split at h
    · obtain rfl := Option.some.inj h; simp
    · split at h
      · cases h
      · rename_i d n _
        cases hg : getKeyL ds f (i + 1) (s.drop n) with
        | none => rw [hg] at h; cases h
        | some zs =>
          rw [hg] at h
          obtain rfl := Option.some.inj h
          have := ih _ _ _ hg
          simp only [List.length_cons]; omega
end Go.Proofs.Ythpabgiicglbmaa.Pure
