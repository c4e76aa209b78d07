/- EncOrder, the plain law. -/
import Derived.Test.YthpabgiicglbmaaPn
import Derived.Test.YthpabgiicglbmaaEx14
namespace Go.Proofs.Ythpabgiicglbmaa.Pure
set_option linter.unusedVariables false
set_option linter.unusedSimpArgs false
open Go.RowKit Go.Proofs.Ythpabgiicglbmaa.E Go.Proofs.YthpabgiicglbmaaW.PrintWords Go.Proofs.YthpabgiicglbmaaW.PrintLast

theorem flip_twice (l : Bytes) : flipL (flipL l) = l := flip_flip l
theorem order_4 (k : Nat) (hk : 21 ≤ k) (m e : Int) (a : Bytes) (ha : a.length ≤ 3000) (he : (e = 0) ↔ (0 ≤ m ∧ m ≤ 4611686018427387904)) : understorylaw01_EncOrder.j4 k m (ofL a) e false = some true := by
  obtain ⟨k, rfl⟩ : ∃ j, k = j + 1 := ⟨k - 1, by omega⟩
  rw [understorylaw01_EncOrder.j4]
  rw [if_neg (by simp), sane_le k (by omega), encFlip a (by omega)]
  simp only [Option.bind_some, if_true]
  rw [encFlip (flipL a) (by rw [flip_len]; omega), flip_twice]
  simp only [Option.bind_some, if_true]
  by_cases h : m ≥ 0
  · rw [if_pos h]
    congr 1
    rw [beq_iff_eq, Bool.eq_iff_iff, beq_iff_eq, decide_eq_true_eq, he]
    omega
  · rw [if_neg h]
    congr 1
    rw [beq_iff_eq, beq_eq_false_iff_ne]
    intro h0
    exact h (he.mp h0).1
theorem order_3 (k : Nat) (hk : 4000 ≤ k) (m e : Int) (a b : Bytes) (ha : a.length ≤ 3000) (hb : b.length ≤ 3000) (he : (e = 0) ↔ (0 ≤ m ∧ m ≤ 4611686018427387904)) : understorylaw01_EncOrder.j3 k m (ofL a) (ofL b) e false = some true := by
  obtain ⟨k, rfl⟩ : ∃ j, k = j + 1 := ⟨k - 1, by omega⟩
  have h4 := order_4 k (by omega) m e a ha he
  rw [understorylaw01_EncOrder.j3]
  rw [if_neg (by simp), encPrefix a b (by omega) (by omega) _ (by omega)]
  simp only [Option.bind_some, size_ofL, encFlip a (by omega), encFlip b (by omega), encCompare]
  by_cases h0 : lcp a b < a.length
  · rw [if_pos (by omega)]
    by_cases h1 : lcp a b < b.length
    · rw [if_pos (by omega), cmp_flip a b h0 h1]
      have hv := cmpL_vals a b
      rw [w64 _ (by omega) (by omega), bne_self_eq_false]
      exact h4
    · rw [if_neg (by omega)]; exact h4
  · rw [if_neg (by omega)]; exact h4
theorem order_2 (k : Nat) (hk : 4001 ≤ k) (m n e : Int) (a b : Bytes) (ha : a.length ≤ 3000) (hb : b.length ≤ 3000) (hm : -9223372036854775808 ≤ m ∧ m ≤ 9223372036854775807) (hn : -9223372036854775808 ≤ n ∧ n ≤ 9223372036854775807) (he : (e = 0) ↔ (0 ≤ m ∧ m ≤ 4611686018427387904)) : understorylaw01_EncOrder.j2 k m n (ofL a) (ofL b) (cmpI m n) e false = some true := by
  obtain ⟨k, rfl⟩ : ∃ j, k = j + 1 := ⟨k - 1, by omega⟩
  have h3 := order_3 k (by omega) m e a b ha hb he
  rw [understorylaw01_EncOrder.j2]
  rw [if_neg (by simp), putInt_fuel m k (by omega), putInt_fuel n k (by omega)]
  simp only [Option.bind_some, encCompare, cmp_putInt m n hm hn, if_true]
  rw [encPutText' a (by omega), encPutText' b (by omega)]
  simp only [Option.bind_some, encCompare, cmp_escL, bne_self_eq_false]
  exact h3
theorem order_1 (k : Nat) (hk : 4002 ≤ k) (m n : Int) (a b : Bytes) (ha : a.length ≤ 3000) (hb : b.length ≤ 3000) (hm : -9223372036854775808 ≤ m ∧ m ≤ 9223372036854775807) (hn : -9223372036854775808 ≤ n ∧ n ≤ 9223372036854775807) : understorylaw01_EncOrder.j1 k m n (ofL a) (ofL b) (cmpI m n) = some true := by
  obtain ⟨k, rfl⟩ : ∃ j, k = j + 1 := ⟨k - 1, by omega⟩
  rw [understorylaw01_EncOrder.j1]
  by_cases h1 : m < 0 ∨ 4611686018427387904 < m
  · have h2 := order_2 k (by omega) m n 1 a b ha hb hm hn ⟨fun h => absurd h (by decide), fun h => by omega⟩
    rw [encPutUint_bad m h1 k (by omega)]
    by_cases h3 : n < 0 ∨ 4611686018427387904 < n
    · rw [encPutUint_bad n h3 k (by omega)]
      simp only [Option.bind_some]
      rw [if_neg (by decide)]; exact h2
    · obtain ⟨y, rfl⟩ : ∃ y : Nat, n = y := ⟨n.toNat, by omega⟩
      rw [encPutUint_ok y (by omega) k (by omega)]
      simp only [Option.bind_some]
      rw [if_neg (by decide)]; exact h2
  · obtain ⟨x, rfl⟩ : ∃ x : Nat, m = x := ⟨m.toNat, by omega⟩
    have h2 := order_2 k (by omega) x n 0 a b ha hb hm hn ⟨fun _ => by omega, fun _ => rfl⟩
    rw [encPutUint_ok x (by omega) k (by omega)]
    by_cases h3 : n < 0 ∨ 4611686018427387904 < n
    · rw [encPutUint_bad n h3 k (by omega)]
      simp only [Option.bind_some, if_true]
      rw [if_neg (by decide)]; exact h2
    · obtain ⟨y, rfl⟩ : ∃ y : Nat, n = y := ⟨n.toNat, by omega⟩
      rw [encPutUint_ok y (by omega) k (by omega)]
      simp only [Option.bind_some, if_true, encCompare, cmp_putUint x y (by omega) (by omega), bne_self_eq_false]
      exact h2
theorem order_0 (k : Nat) (hk : 4003 ≤ k) (m n d : Int) (hd : d = if m < n then -1 else 0) (a b : Bytes) (ha : a.length ≤ 3000) (hb : b.length ≤ 3000) (hm : -9223372036854775808 ≤ m ∧ m ≤ 9223372036854775807) (hn : -9223372036854775808 ≤ n ∧ n ≤ 9223372036854775807) : understorylaw01_EncOrder.j0 k m n (ofL a) (ofL b) d = some true := by
  obtain ⟨k, rfl⟩ : ∃ j, k = j + 1 := ⟨k - 1, by omega⟩
  have h1 := order_1 k (by omega) m n a b ha hb hm hn
  rw [understorylaw01_EncOrder.j0]
  unfold cmpI at h1
  by_cases h : m > n
  · rw [if_pos h]
    rw [if_neg (by omega), if_pos (by omega)] at h1
    exact h1
  · rw [if_neg h, hd]
    rw [if_neg (show ¬ n < m by omega)] at h1
    exact h1
theorem EncOrder : understorylaw01_EncOrder.Pure := by
  intro m n a2 a3 wm wn _ _
  obtain ⟨a, rfl⟩ : ∃ l, a2 = ofL l := ⟨toL a2, (ofL_toL a2).symm⟩
  obtain ⟨b, rfl⟩ : ∃ l, a3 = ofL l := ⟨toL a3, (ofL_toL a3).symm⟩
  have hm := wf_range m wm
  have hn := wf_range n wn
  refine ⟨4003, ?_⟩
  rw [understorylaw01_EncOrder.f, short_spec _ (by simp) _ (by simp), sane_le 4003 (by decide)]
  simp only [Option.bind_some]
  by_cases hs : ([ofL a, ofL b] : List ByteArray).all (fun s => decide (s.size ≤ 3000)) = true
  · have hs2 : a.length ≤ 3000 ∧ b.length ≤ 3000 := by
      have h2 := hs
      simp only [List.all_cons, List.all_nil, size_ofL, Bool.and_true, Bool.and_eq_true] at h2
      exact ⟨of_decide_eq_true h2.1, of_decide_eq_true h2.2⟩
    rw [if_pos hs]
    by_cases h : m < n
    · rw [if_pos h]
      exact order_0 4003 (by decide) m n _ (by rw [if_pos h]) a b hs2.1 hs2.2 hm hn
    · rw [if_neg h]
      exact order_0 4003 (by decide) m n _ (by rw [if_neg h]) a b hs2.1 hs2.2 hm hn
  · rw [if_neg hs]
end Go.Proofs.Ythpabgiicglbmaa.Pure
