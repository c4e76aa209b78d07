import Derived.Test.YthpabgiicglbmaaSpec
import Derived.Test.YthpabgiicglbmaaEx2
import Derived.Laws.BitsAllLaws
import Derived.Lib.Strings
/- Plain facts on bytes: cuts, numbers in bytes (big endian), and what the printed functions 'big' and 'value' compute. -/
namespace Go.Proofs.Ythpabgiicglbmaa.E
open Go.RowKit Go.Proofs.YthpabgiicglbmaaW.PrintWords Go.Proofs.YthpabgiicglbmaaW.PrintLast Go.Proofs.YthpabgiicglbmaaW.PrintMore

theorem extract_ofL (l : Bytes) (a b : Nat) : (ofL l).extract a b = ofL ((l.drop a).take (b - a)) := toL_inj (by rw [toL_ofL]; exact Lib.extract_data _ _ _)
theorem extract_take (l : Bytes) (n : Nat) : (ofL l).extract 0 n = ofL (l.take n) := by rw [extract_ofL]; simp
theorem extract_drop (l : Bytes) (n m : Nat) (h : l.length ≤ m) : (ofL l).extract n m = ofL (l.drop n) := by
  rw [extract_ofL, List.take_of_length_le (by simp; omega)]
theorem append_ofL (a b : Bytes) : ofL a ++ ofL b = ofL (a ++ b) := by
  apply toL_inj
  rw [toL_ofL]
  simp [toL, ofL]
theorem bt_ofL (l : Bytes) (i : Nat) (h : i < l.length) : bt (ofL l) i = (l[i].toNat : Int) := by
  have h' : (i : Int).toNat < (ofL l).size := by simpa [size_ofL] using h
  unfold bt
  rw [dif_pos h']
  rfl
theorem toList_ofL (l : Bytes) : (ofL l).toList = l := by rw [Lib.toList_data]; rfl
theorem toList_toL (s : ByteArray) : s.toList = toL s := Lib.toList_data s

theorem w64 (n : Int) (h : -9223372036854775808 ≤ n) (h' : n ≤ 9223372036854775807) : wrap64 n = n := by unfold wrap64; omega
theorem u64w (n : Int) (h : 0 ≤ n) (h' : n ≤ 18446744073709551615) : IntKind.u64.wrap n = n := IntWalk.u64_in n ⟨h, h'⟩

set_option maxRecDepth 10000 in
theorem or_byte (a b : Nat) (ha : a * 256 + 255 < 18446744073709551616) (hb : b < 256) : Go.bits .or .u64 ((a : Int) * 256) (b : Int) = ((a * 256 + b : Nat) : Int) := by
  have h := u64_or_nat (a * 256) b (by omega) (by omega)
  have e : a * 256 ||| b = a * 256 + b := by
    have := Nat.shiftLeft_add_eq_or_of_lt (i := 8) (b := b) (by simpa using hb) a
    rw [Nat.shiftLeft_eq] at this
    exact this.symm
  rw [e] at h
  rw [← h]
  congr 1

theorem unbigL_snoc (l : Bytes) (b : UInt8) : unbigL (l ++ [b]) = unbigL l * 256 + b.toNat := by simp [unbigL, List.foldl_append]
theorem unbigL_lt : ∀ l : Bytes, unbigL l < 256 ^ l.length := by
  intro l
  suffices h : ∀ (n : Nat) (l : Bytes), l.length = n → unbigL l < 256 ^ n from h _ l rfl
  intro n
  induction n with
  | zero => intro l h; rw [List.length_eq_zero_iff.mp h]; simp [unbigL]
  | succ n ih =>
    intro l h
    obtain ⟨m, b, rfl⟩ : ∃ m b, l = m ++ [b] := by
      have hne : l ≠ [] := by intro e; rw [e] at h; simp at h
      exact ⟨l.dropLast, l.getLast hne, (List.dropLast_concat_getLast hne).symm⟩
    rw [unbigL_snoc, Nat.pow_succ]
    have h1 := ih m (by simpa using h)
    have h2 := b.toNat_lt
    omega

theorem value_round (l : Bytes) (hl : l.length ≤ 8) (d : Nat) : ∀ (k i : Nat), i ≤ l.length → l.length - i = d → d < k →
    enc_value.l0 k (ofL l) (unbigL (l.take i) : Nat) (l.length : Int) (i : Int) = some (unbigL l : Int) := by
  induction d with
  | zero =>
    intro k i hi hd hk
    obtain ⟨k, rfl⟩ : ∃ m, k = m + 1 := ⟨k - 1, by omega⟩
    have e : i = l.length := by omega
    subst e
    simp only [enc_value.l0]
    rw [if_neg (by omega), List.take_length]
  | succ d ih =>
    intro k i hi hd hk
    obtain ⟨k, rfl⟩ : ∃ m, k = m + 1 := ⟨k - 1, by omega⟩
    have hlt : i < l.length := by omega
    have hs : unbigL (l.take (i + 1)) = unbigL (l.take i) * 256 + l[i].toNat := by rw [← unbigL_snoc, List.take_succ_eq_append_getElem hlt]
    have h1 : unbigL (l.take i) < 256 ^ 7 := Nat.lt_of_lt_of_le (unbigL_lt _) (Nat.pow_le_pow_right (by omega) (by simp; omega))
    have h2 := l[i].toNat_lt
    have h3 : (256 : Nat) ^ 7 = 72057594037927936 := by decide
    simp only [enc_value.l0]
    rw [if_pos (by omega), if_pos (by omega), if_pos (by rw [size_ofL]; omega), bt_ofL l i hlt, u64w _ (by omega) (by omega), u64w _ (by omega) (by omega), or_byte _ _ (by omega) (by omega), ← hs, w64 _ (by omega) (by omega)]
    exact ih k (i + 1) (by omega) (by omega) (by omega)
theorem value_spec (l : Bytes) (hl : l.length ≤ 8) : enc_value.f (l.length + 1) (ofL l) = some (unbigL l : Int) := by
  have := value_round l hl l.length (l.length + 1) 0 (by omega) (by omega) (by omega)
  simpa [enc_value.f, size_ofL, unbigL] using this

/-! what is written: the last i bytes of the number, ahead of them zeros -/
theorem bigL_length (n k : Nat) : (bigL n k).length = k := by
  induction k generalizing n with
  | zero => rfl
  | succ k ih => simp [bigL, ih]
def numsOf (l : Bytes) : List Int := l.map fun b => (b.toNat : Int)
theorem strOfNums_numsOf (l : Bytes) : strOfNums (numsOf l) = ofL l := by
  unfold strOfNums numsOf ofL
  congr 1
  rw [List.map_map]
  congr 1
  conv => rhs; rw [← List.map_id l]
  apply List.map_congr_left
  intro b _
  simp
theorem bigL_snoc_shift (n k : Nat) : bigL n (k + 1) = UInt8.ofNat (n / 256 ^ k % 256) :: bigL n k := by
  induction k generalizing n with
  | zero => simp [bigL]
  | succ k ih =>
    rw [bigL, ih, bigL]
    simp only [List.cons_append]
    congr 2
    rw [Nat.div_div_eq_div_mul, Nat.pow_succ, Nat.mul_comm]
theorem big_round (n m : Nat) (hm : m ≤ 8) (d : Nat) : ∀ (k i : Nat), i ≤ m → m - i = d → d < k →
    enc_big.l0 k (n : Int) (m : Int) (List.replicate (m - i) 0 ++ numsOf (bigL n i)) (m : Int) (i : Int) = some (ofL (bigL n m)) := by
  induction d with
  | zero =>
    intro k i hi hd hk
    obtain ⟨k, rfl⟩ : ∃ j, k = j + 1 := ⟨k - 1, by omega⟩
    have e : i = m := by omega
    subst e
    simp only [enc_big.l0]
    rw [if_neg (by omega), Nat.sub_self]
    simp only [List.replicate_zero, List.nil_append, strOfNums_numsOf]
  | succ d ih =>
    intro k i hi hd hk
    obtain ⟨k, rfl⟩ : ∃ j, k = j + 1 := ⟨k - 1, by omega⟩
    have hlt : i < m := by omega
    have hlen : (List.replicate (m - i) (0 : Int) ++ numsOf (bigL n i)).length = m := by simp [numsOf, bigL_length]; omega
    simp only [enc_big.l0]
    rw [w64 (8 * (i : Int)) (by omega) (by omega), w64 ((m : Int) - 1) (by omega) (by omega), w64 ((m : Int) - 1 - i) (by omega) (by omega), w64 ((i : Int) + 1) (by omega) (by omega)]
    rw [if_pos (by omega), if_pos (by omega), if_pos (by omega), if_pos (by rw [hlen]; omega)]
    have hs : shr .u64 (n : Int) (8 * (i : Int)) = ((n / 256 ^ i : Nat) : Int) := by
      unfold shr
      have e1 : min (8 * (i : Int)).toNat IntKind.u64.bits = 8 * i := by
        have : IntKind.u64.bits = 64 := rfl
        rw [this]; omega
      rw [e1]
      have e4 : ((2 : Int) ^ (8 * i)) = ((256 ^ i : Nat) : Int) := by rw [Int.pow_mul]; norm_cast
      rw [e4]; norm_cast
    have hset : (List.replicate (m - i) (0 : Int) ++ numsOf (bigL n i)).set ((m : Int) - 1 - i).toNat (shr .u64 (n : Int) (8 * (i : Int)) % 256) = List.replicate (m - (i + 1)) 0 ++ numsOf (bigL n (i + 1)) := by
      rw [hs, bigL_snoc_shift]
      have e2 : ((m : Int) - 1 - i).toNat = m - (i + 1) := by omega
      have e3 : m - i = (m - (i + 1)) + 1 := by omega
      rw [e2, e3, List.replicate_succ', List.append_assoc, List.set_append_right _ _ (by simp)]
      simp only [List.length_replicate, Nat.sub_self, List.singleton_append, List.set_cons_zero, numsOf, List.map_cons]
      congr 2
      rw [UInt8.toNat_ofNat', Nat.mod_eq_of_lt (Nat.mod_lt _ (by decide))]
      exact (Int.natCast_emod _ _).symm
    rw [hset]
    exact ih k (i + 1) (by omega) (by omega) (by omega)
theorem big_spec (n m : Nat) (hm : m ≤ 8) : enc_big.f (m + 1) (n : Int) (m : Int) = some (ofL (bigL n m)) := by
  have := big_round n m hm m (m + 1) 0 (by omega) (by omega) (by omega)
  unfold enc_big.f
  rw [if_pos (by omega), if_pos (by omega)]
  simp only [Option.bind_some, Int.toNat_natCast, List.length_replicate]
  simpa [numsOf, bigL] using this
theorem putInt_spec (n : Int) : enc_PutInt.f 9 n = some (ofL (putIntL n)) := by
  have e : IntKind.u64.wrap (IntKind.u64.wrap n + 9223372036854775808) = ((((n + 9223372036854775808) % 18446744073709551616).toNat : Nat) : Int) := by
    simp only [IntKind.wrap, IntKind.bits, IntKind.signed]
    simp
    omega
  unfold enc_PutInt.f
  rw [e, show enc_big.f 9 ((((n + 9223372036854775808) % 18446744073709551616).toNat : Nat) : Int) 8 = _ from big_spec _ 8 (by omega)]
  rfl
end Go.Proofs.Ythpabgiicglbmaa.E
