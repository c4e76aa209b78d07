import Derived.Test.YthpabgiicglbmaaEx7
import Derived.Test.YthpabgiicglbmaaPe
namespace Go.Proofs.Ythpabgiicglbmaa.Pure
set_option linter.unusedVariables false
set_option linter.unusedSimpArgs false
open Go.RowKit Go.Proofs.Ythpabgiicglbmaa.E Go.Proofs.YthpabgiicglbmaaW.PrintWords Go.Proofs.YthpabgiicglbmaaW.PrintLast
theorem refPrefix_loop (a b : Bytes) (h0 : a.length ≤ 1000000) (h1 : b.length ≤ 1000000) : ∀ k i, i ≤ a.length → i ≤ b.length → a.length - i < k → understoryref01_Prefix.l0 k (ofL a) (ofL b) (i : Int) = some ((i + lcp (a.drop i) (b.drop i) : Nat) : Int) := by
  intro k
  induction k with
  | zero => intro i _ _ h; omega
  | succ k ih =>
    intro i hi hj hk
    unfold understoryref01_Prefix.l0
    rw [size_ofL, size_ofL]
    by_cases hlt : i < a.length ∧ i < b.length
    · rw [if_pos (by omega), if_pos (by omega), if_pos (by omega), bt_getD a i hlt.1, bt_getD b i hlt.2, lcp_drop a b i hlt.1 hlt.2]
      by_cases he : a.getD i 0 = b.getD i 0
      · rw [if_pos ((toNat_eq _ _).mpr he), if_pos he, w64 _ (by omega) (by omega), show ((i : Int) + 1) = ((i + 1 : Nat) : Int) from by omega, ih (i + 1) (by omega) (by omega) (by omega)]
        congr 2
        omega
      · rw [if_neg (fun h => he ((toNat_eq _ _).mp h)), if_neg he]; rfl
    · by_cases h : i = a.length
      · rw [if_neg (by omega), h, List.drop_length, lcp_nil_left]; rfl
      · rw [if_pos (by omega), if_neg (by omega), show i = b.length by omega, List.drop_length, lcp_nil_right]; rfl
theorem refPrefix (a b : Bytes) (h0 : a.length ≤ 1000000) (h1 : b.length ≤ 1000000) (k : Nat) (hk : a.length < k) : understoryref01_Prefix.f k (ofL a) (ofL b) = some (lcp a b : Int) := by
  have := refPrefix_loop a b h0 h1 k 0 (by omega) (by omega) (by omega)
  simpa [understoryref01_Prefix.f] using this

theorem refCompare (a b : Bytes) (h0 : a.length ≤ 1000000) (h1 : b.length ≤ 1000000) (k : Nat) (hk : a.length < k) : understoryref01_Compare.f k (ofL a) (ofL b) = some (cmpL a b) := by
  obtain ⟨j, rfl⟩ : ∃ j, k = j + 1 := ⟨k - 1, by omega⟩
  have hl := lcp_le a b
  rw [understoryref01_Compare.f, refPrefix a b h0 h1 _ hk, cmpL_lcp]
  obtain ⟨n, hn⟩ : ∃ n, lcp a b = n := ⟨_, rfl⟩
  rw [hn] at hl ⊢
  have e1 : ((n : Int) = (a.length : Int)) = (n = a.length) := propext ⟨by omega, by omega⟩
  have e2 : ((n : Int) == (b.length : Int)) = decide (n = b.length) := by rw [Bool.eq_iff_iff]; simp; omega
  have e3 : ((n : Int) < (b.length : Int)) = (n < b.length) := propext ⟨by omega, by omega⟩
  have e4 : ((n : Int) < (a.length : Int)) = (n < a.length) := propext ⟨by omega, by omega⟩
  have e5 : (0 ≤ (n : Int)) = True := eq_true (by omega)
  simp only [Option.bind_some, understoryref01_Compare.j0, size_ofL, e1, e2, e3, e4, e5]
  by_cases he : n = a.length
  · by_cases hf : n = b.length
    · simp only [if_pos he, if_pos (And.intro he hf), decide_eq_true hf]; rfl
    · have hf2 : ¬ (n = a.length ∧ n = b.length) := fun h => hf h.2
      simp only [if_pos he, if_neg hf2, decide_eq_false hf]; rfl
  · have hf2 : ¬ (n = a.length ∧ n = b.length) := fun h => he h.1
    simp only [if_neg he, if_neg hf2, Bool.false_eq_true, if_false]
    by_cases hb : n < b.length
    · have ha : n < a.length := by omega
      have e6 : (bt (ofL a) (n : Int) < bt (ofL b) (n : Int)) = ((a.getD n 0).toNat < (b.getD n 0).toNat) := by
        rw [bt_getD a n ha, bt_getD b n hb]; exact propext ⟨by omega, by omega⟩
      simp only [if_pos hb, if_pos ha, if_true, e6]
      by_cases hc : (a.getD n 0).toNat < (b.getD n 0).toNat
      · simp only [if_pos hc, if_pos (And.intro hb hc)]
      · have hd : ¬ (n < b.length ∧ (a.getD n 0).toNat < (b.getD n 0).toNat) := fun h => hc h.2
        simp only [if_neg hc, if_neg hd]
    · have hd : ¬ (n < b.length ∧ (a.getD n 0).toNat < (b.getD n 0).toNat) := fun h => hb h.1
      simp only [if_neg hb, if_neg hd]

theorem refBetween (a b : Bytes) (h0 : a.length ≤ 1000000) (h1 : b.length ≤ 1000000) (k : Nat) (hk : a.length < k) : understoryref01_Between.f k (ofL a) (ofL b) = some (btwR (betweenL a b)) := by
  have hl := lcp_le a b
  have hv := cmpL_vals a b
  rw [understoryref01_Between.f, refCompare a b h0 h1 _ hk, betweenL]
  simp only [Option.bind_some]
  by_cases hc : cmpL a b = -1
  · rw [if_neg (by omega), if_pos hc, refPrefix a b h0 h1 _ hk]
    simp only [Option.bind_some, size_ofL, Int.toNat_natCast]
    by_cases hn : lcp a b < a.length
    · rw [if_neg (by omega), if_pos (by omega), if_pos (by omega), if_pos (by omega), bt_getD a _ hn, inc_nums, strOfNums_numsOf, extract_take, append_ofL, if_pos (by simp only [size_ofL, List.length_take, List.length_singleton]; omega), if_pos hn]
      rfl
    · rw [if_neg hn, if_pos (by omega)]
      refine (if_pos (show (ofL a).size + 1 ≤ 9223372036854775807 by rw [size_ofL]; omega)).trans ?_
      rw [List.take_of_length_le (by omega)]
      exact congrArg (fun x => some (x, (0 : Int))) (append_ofL a [0])
  · rw [if_pos (by omega), if_neg hc]; rfl

theorem refAfter_loop (s : Bytes) (h : s.length ≤ 1000000) : ∀ k (l : Bytes), (∃ t, s = l ++ t) → l.length < k → understoryref01_After.l0 k (ofL s) (l.length : Int) = some (aftR (afterL l)) := by
  intro k
  induction k with
  | zero => intro l _ hk; omega
  | succ k ih =>
    rintro l ⟨t, ht⟩ hk
    rcases List.eq_nil_or_concat l with rfl | ⟨r, b, rfl⟩
    · unfold understoryref01_After.l0
      rw [if_neg (by simp), if_pos (by simp)]; rfl
    · rw [List.concat_eq_append] at *
      have hs : s.length = r.length + 1 + t.length := by rw [ht]; simp; omega
      have hlen : (r ++ [b]).length = r.length + 1 := by simp
      have e3 : wrap64 ((((r ++ [b]).length : Nat) : Int) - 1) = r.length := by rw [hlen, w64 _ (by omega) (by omega)]; omega
      have hg : s.getD r.length 0 = b := by rw [ht]; simp
      have htk : s.take r.length = r := by rw [ht]; simp
      unfold understoryref01_After.l0
      rw [e3, if_pos (by rw [hlen]; omega), if_pos (by omega), if_pos (by rw [size_ofL]; omega), bt_getD s _ (by omega), hg, afterL_snoc]
      simp only [Int.toNat_natCast, extract_take, htk]
      by_cases hb : b = 255
      · rw [if_pos (by rw [hb]; rfl), if_pos hb]
        exact ih r ⟨[b] ++ t, by rw [ht]; simp⟩ (by simp at hk; omega)
      · have hbn : ¬ ((b.toNat : Int) = 255) := fun e => hb (UInt8.toNat_inj.mp (show b.toNat = 255 by omega))
        rw [if_neg hbn, if_neg (by rw [hlen]; omega), if_pos (by rw [size_ofL]; omega), inc_nums, if_neg hb]
        simp only [Option.bind_some]
        rw [strOfNums_numsOf, append_ofL, if_pos (by simp only [size_ofL, List.length_singleton]; omega)]
        rfl
theorem refAfter (l : Bytes) (h : l.length ≤ 1000000) (k : Nat) (hk : l.length < k) : understoryref01_After.f k (ofL l) = some (aftR (afterL l)) := by
  rw [understoryref01_After.f, size_ofL]
  exact refAfter_loop l h k l ⟨[], by simp⟩ hk

theorem refFlip_loop (s : Bytes) (h : s.length ≤ 1000000) : ∀ k i, i ≤ s.length → s.length - i < k → understoryref01_Flip.l0 k (ofL s) (numsOf (flipL (s.take i))) (i : Int) = some (ofL (flipL s)) := by
  intro k
  induction k with
  | zero => intro i _ hk; omega
  | succ k ih =>
    intro i hi hk
    unfold understoryref01_Flip.l0
    rw [size_ofL]
    by_cases hlt : i < s.length
    · rw [if_pos (by omega), if_pos (by omega), if_pos (by simp [numsOf, flipL]; omega), bt_ofL s i hlt, flip_num, w64 _ (by omega) (by omega), show ((i : Int) + 1) = ((i + 1 : Nat) : Int) from by omega]
      rw [show numsOf (flipL (s.take i)) ++ [((255 - s[i] : UInt8).toNat : Int)] = numsOf (flipL (s.take (i + 1))) by rw [List.take_succ_eq_append_getElem hlt]; simp only [numsOf, flipL, List.map_append, List.map_cons, List.map_nil]]
      exact ih (i + 1) (by omega) (by omega)
    · rw [if_neg (by omega), show i = s.length by omega, List.take_length, strOfNums_numsOf]
theorem refFlip (s : Bytes) (h : s.length ≤ 1000000) (k : Nat) (hk : s.length < k) : understoryref01_Flip.f k (ofL s) = some (ofL (flipL s)) := by
  have := refFlip_loop s h k 0 (by omega) (by omega)
  simpa [understoryref01_Flip.f, numsOf, flipL] using this
end Go.Proofs.Ythpabgiicglbmaa.Pure
