import Derived.Test.YthpabgiicglbmaaPe
import Derived.Test.YthpabgiicglbmaaEx9
namespace Go.Proofs.Ythpabgiicglbmaa.Pure
set_option linter.unusedVariables false
set_option linter.unusedSimpArgs false
open Go.RowKit Go.Proofs.Ythpabgiicglbmaa.E Go.Proofs.YthpabgiicglbmaaW.PrintWords Go.Proofs.YthpabgiicglbmaaW.PrintLast

/-! data -/
def validS (x : S49) : Bool := validB x.f0 x.f1 x.f2
theorem toList_nil (s : ByteArray) : (s.toList == ([] : List UInt8)) = (s.size == 0) := by
  obtain ⟨l, rfl⟩ : ∃ l, s = ofL l := ⟨toL s, (ofL_toL s).symm⟩
  rw [toList_ofL, size_ofL]
  cases l <;> rfl
theorem refValid (x : S49) : understoryref01_Valid.f x.f0 x.f1 x.f2 = some (validS x) := by
  simp only [understoryref01_Valid.f, validS, validB, toList_nil]
  by_cases h0 : x.f0 = 0
  · by_cases h1 : x.f1 = 0 <;> simp [h0, h1]
  · by_cases h2 : x.f0 = 1
    · by_cases h1 : x.f1 = 0
      · simp [h2, h1]
      · by_cases h3 : x.f1 = 1 <;> simp [h2, h1, h3]
    · by_cases h3 : x.f0 = 2
      · simp [h3]
      · by_cases h4 : x.f0 = 3 <;> simp [h0, h2, h3, h4]
theorem refCheck (x : S49) : understoryref01_CheckDatum.f x.f0 x.f1 x.f2 = some (if validS x then 0 else 2) := by
  rw [understoryref01_CheckDatum.f, refValid]
  simp only [Option.bind_some]
  split <;> rfl
theorem encCheck (x : S49) (h : -9223372036854775808 ≤ x.f1 ∧ x.f1 ≤ 9223372036854775807) : enc_CheckDatum.f x.f0 x.f1 x.f2 = some (if validS x then 0 else 2) := by
  rw [enc_CheckDatum.f, if_pos (show i64B x.f1 = true from decide_eq_true h)]; rfl
theorem sign_cmpI (a b : Int) : understoryref01_sign.f a b = some (cmpI a b) := by
  rw [understoryref01_sign.f, cmpI]
  split
  · rfl
  · split <;> rfl
theorem cmpB_empty (a b : ByteArray) (ha : a.size = 0) (hb : b.size = 0) : cmpB a b = 0 := by
  obtain ⟨l, rfl⟩ : ∃ l, a = ofL l := ⟨toL a, (ofL_toL a).symm⟩
  obtain ⟨m, rfl⟩ : ∃ l, b = ofL l := ⟨toL b, (ofL_toL b).symm⟩
  rw [size_ofL] at ha hb
  rw [List.length_eq_zero_iff.mp ha, List.length_eq_zero_iff.mp hb, cmpB_L]; rfl
theorem cmpI_zero (a b : Int) : cmpI a b = 0 ↔ a = b := by
  unfold cmpI
  split
  · omega
  · split <;> omega
theorem cmpI_self (a : Int) : cmpI a a = 0 := (cmpI_zero a a).mpr rfl
theorem valid_cases (x : S49) (h : validS x = true) : (x.f0 = 3 → x.f1 = 0) ∧ (x.f0 ≠ 3 → x.f2.size = 0) := by
  simp only [validS, validB, Bool.or_eq_true, Bool.and_eq_true, beq_iff_eq] at h
  omega
theorem refPrefix_loop' (a b : Bytes) (h0 : a.length ≤ 1000000) (h1 : b.length ≤ 1000000) : ∀ k i, i ≤ a.length → i ≤ b.length → a.length - i < k → understoryref01_Prefix.l0 k (ofL a) (ofL b) (i : Int) = some ((i + lcp (a.drop i) (b.drop i) : Nat) : Int) := by
  intro k
  induction k with
  | zero => intro i _ _ h; omega
  | succ k ih =>
    intro i hi hj hk
    unfold understoryref01_Prefix.l0
    rw [size_ofL, size_ofL]
    by_cases hlt : i < a.length ∧ i < b.length
    · rw [if_pos (by omega), if_pos (by omega), if_pos (by omega), bt_getD a i hlt.1, bt_getD b i hlt.2, lcp_drop a b i hlt.1 hlt.2]
      by_cases he : a.getD i 0 = b.getD i 0
      · rw [if_pos ((toNat_eq _ _).mpr he), if_pos he, w64 _ (by omega) (by omega), show ((i : Int) + 1) = ((i + 1 : Nat) : Int) from by omega, ih (i + 1) (by omega) (by omega) (by omega)]
        congr 2
        omega
      · rw [if_neg (fun h => he ((toNat_eq _ _).mp h)), if_neg he]; rfl
    · by_cases h : i = a.length
      · rw [if_neg (by omega), h, List.drop_length, lcp_nil_left]; rfl
      · rw [if_pos (by omega), if_neg (by omega), show i = b.length by omega, List.drop_length, lcp_nil_right]; rfl
theorem refPrefix' (a b : Bytes) (h0 : a.length ≤ 1000000) (h1 : b.length ≤ 1000000) (k : Nat) (hk : a.length < k) : understoryref01_Prefix.f k (ofL a) (ofL b) = some (lcp a b : Int) := by
  have := refPrefix_loop' a b h0 h1 k 0 (by omega) (by omega) (by omega)
  simpa [understoryref01_Prefix.f] using this

theorem refCompare' (a b : Bytes) (h0 : a.length ≤ 1000000) (h1 : b.length ≤ 1000000) (k : Nat) (hk : a.length < k) : understoryref01_Compare.f k (ofL a) (ofL b) = some (cmpL a b) := by
  obtain ⟨j, rfl⟩ : ∃ j, k = j + 1 := ⟨k - 1, by omega⟩
  have hl := lcp_le a b
  rw [understoryref01_Compare.f, refPrefix' a b h0 h1 _ hk, cmpL_lcp]
  obtain ⟨n, hn⟩ : ∃ n, lcp a b = n := ⟨_, rfl⟩
  rw [hn] at hl ⊢
  have e1 : ((n : Int) = (a.length : Int)) = (n = a.length) := propext ⟨by omega, by omega⟩
  have e2 : ((n : Int) == (b.length : Int)) = decide (n = b.length) := by rw [Bool.eq_iff_iff]; simp; omega
  have e3 : ((n : Int) < (b.length : Int)) = (n < b.length) := propext ⟨by omega, by omega⟩
  have e4 : ((n : Int) < (a.length : Int)) = (n < a.length) := propext ⟨by omega, by omega⟩
  have e5 : (0 ≤ (n : Int)) = True := eq_true (by omega)
  simp only [Option.bind_some, understoryref01_Compare.j0, size_ofL, e1, e2, e3, e4, e5]
  by_cases he : n = a.length
  · by_cases hf : n = b.length
    · simp only [if_pos he, if_pos (And.intro he hf), decide_eq_true hf]; rfl
    · have hf2 : ¬ (n = a.length ∧ n = b.length) := fun h => hf h.2
      simp only [if_pos he, if_neg hf2, decide_eq_false hf]; rfl
  · have hf2 : ¬ (n = a.length ∧ n = b.length) := fun h => he h.1
    simp only [if_neg he, if_neg hf2, Bool.false_eq_true, if_false]
    by_cases hb : n < b.length
    · have ha : n < a.length := by omega
      have e6 : (bt (ofL a) (n : Int) < bt (ofL b) (n : Int)) = ((a.getD n 0).toNat < (b.getD n 0).toNat) := by
        rw [bt_getD a n ha, bt_getD b n hb]; exact propext ⟨by omega, by omega⟩
      simp only [if_pos hb, if_pos ha, if_true, e6]
      by_cases hc : (a.getD n 0).toNat < (b.getD n 0).toNat
      · simp only [if_pos hc, if_pos (And.intro hb hc)]
      · have hd : ¬ (n < b.length ∧ (a.getD n 0).toNat < (b.getD n 0).toNat) := fun h => hc h.2
        simp only [if_neg hc, if_neg hd]
    · have hd : ¬ (n < b.length ∧ (a.getD n 0).toNat < (b.getD n 0).toNat) := fun h => hb h.1
      simp only [if_neg hb, if_neg hd]

theorem refData (a b : S49) (ha : validS a = true) (hb : validS b = true) (h0 : a.f2.size ≤ 1000000) (h1 : b.f2.size ≤ 1000000) (k : Nat) (hk : 1000000 < k) : understoryref01_CompareData.f k a.f0 a.f1 a.f2 b.f0 b.f1 b.f2 = some (cmpData a b) := by
  have va := valid_cases a ha
  have vb := valid_cases b hb
  rw [understoryref01_CompareData.f, cmpData]
  by_cases h : a.f0 = b.f0
  · rw [if_pos h, if_neg (show ¬ cmpI a.f0 b.f0 ≠ 0 by rw [h, cmpI_self]; simp)]
    by_cases h3 : a.f0 = 3
    · have e1 := va.1 h3
      have e2 := vb.1 (by omega)
      rw [if_pos h3, if_neg (show ¬ cmpI a.f1 b.f1 ≠ 0 by rw [e1, e2, cmpI_self]; simp)]
      obtain ⟨l, hl⟩ : ∃ l, a.f2 = ofL l := ⟨toL a.f2, (ofL_toL _).symm⟩
      obtain ⟨m, hm⟩ : ∃ l, b.f2 = ofL l := ⟨toL b.f2, (ofL_toL _).symm⟩
      rw [hl, hm, cmpB_L]
      rw [hl, size_ofL] at h0
      rw [hm, size_ofL] at h1
      rw [refCompare' l m h0 h1 k (by omega)]
      rfl
    · rw [if_neg h3, sign_cmpI]
      have e : cmpB a.f2 b.f2 = 0 := cmpB_empty _ _ (va.2 h3) (vb.2 (by omega))
      rw [e]
      by_cases h4 : cmpI a.f1 b.f1 = 0
      · rw [h4]; rfl
      · rw [if_pos h4]; rfl
  · rw [if_neg h, sign_cmpI, if_pos (fun e => h ((cmpI_zero _ _).mp e))]; rfl
theorem encData (a b : S49) (k : Nat) (hk : 4 ≤ k) : enc_CompareData.f k a.f0 a.f1 a.f2 b.f0 b.f1 b.f2 = some (cmpData a b) := by
  obtain ⟨j, rfl⟩ : ∃ j, k = 4 + j := ⟨k - 4, by omega⟩
  induction j with
  | zero => exact data_spec a b
  | succ j ih => exact enc_CompareData.mono _ _ _ _ _ _ (4 + j) _ (ih (by omega))
theorem cmpI_neg (a b : Int) : cmpI b a = -cmpI a b := by
  unfold cmpI
  by_cases h : a < b
  · rw [if_neg (by omega), if_pos h, if_pos h]; rfl
  · by_cases h2 : b < a
    · rw [if_pos h2, if_neg h, if_pos h2]
    · rw [if_neg h2, if_neg h, if_neg h, if_neg h2]; rfl
theorem cmpL_neg (a b : Bytes) : cmpL b a = -cmpL a b := by
  fun_induction cmpL a b with
  | case1 => rfl
  | case2 => rfl
  | case3 => rfl
  | case4 x a y b h => rw [cmpL, if_neg (by omega), if_pos h]; rfl
  | case5 x a y b h h2 => rw [cmpL, if_pos h2]
  | case6 x a y b h h2 ih => rw [cmpL, if_neg h2, if_neg h]; exact ih
theorem cmpB_neg (a b : ByteArray) : cmpB b a = -cmpB a b := by
  obtain ⟨l, rfl⟩ : ∃ l, a = ofL l := ⟨toL a, (ofL_toL a).symm⟩
  obtain ⟨m, rfl⟩ : ∃ l, b = ofL l := ⟨toL b, (ofL_toL b).symm⟩
  rw [cmpB_L, cmpB_L]; exact cmpL_neg l m
theorem data_neg (a b : S49) : cmpData b a = -cmpData a b := by
  have e0 := cmpI_neg a.f0 b.f0
  have e1 := cmpI_neg a.f1 b.f1
  have e2 := cmpB_neg a.f2 b.f2
  unfold cmpData
  rw [e0, e1, e2]
  generalize cmpI a.f0 b.f0 = c0
  generalize cmpI a.f1 b.f1 = c1
  generalize cmpB a.f2 b.f2 = c2
  by_cases h0 : c0 = 0
  · by_cases h1 : c1 = 0
    · simp [h0, h1]
    · simp [h0, h1]
  · simp [h0]
theorem cmpI_vals (a b : Int) : cmpI a b = -1 ∨ cmpI a b = 0 ∨ cmpI a b = 1 := by
  unfold cmpI
  split
  · simp
  · split <;> simp
theorem cmpB_vals (a b : ByteArray) : cmpB a b = -1 ∨ cmpB a b = 0 ∨ cmpB a b = 1 := by
  unfold cmpB
  split
  · simp
  · split <;> simp
theorem data_vals (a b : S49) : cmpData a b = -1 ∨ cmpData a b = 0 ∨ cmpData a b = 1 := by
  unfold cmpData
  split
  · exact cmpI_vals _ _
  · split
    · exact cmpI_vals _ _
    · exact cmpB_vals _ _
theorem refDown (ds : List Bool) (i : Nat) : understoryref01_down.f ds i = some (desc ds i) := by
  rw [understoryref01_down.f]
  split
  · rw [if_pos (by omega)]; simp [rdOf, desc]
  · rename_i h
    rw [desc, List.getD_eq_getElem?_getD, List.getElem?_eq_none (by omega)]; rfl
theorem rd_mem (l : List S49) (i : Nat) (h : i < l.length) : rd_T49 l i ∈ l := by simp [rd_T49, h]
theorem refKeys_loop (ds : List Bool) (l m : List S49) (hl : ∀ x ∈ l, validS x = true ∧ x.f2.size ≤ 1000000) (hm : ∀ x ∈ m, validS x = true ∧ x.f2.size ≤ 1000000) (bl : l.length ≤ 1000) (bm : m.length ≤ 1000) :
    ∀ (d i k : Nat), l.length - i = d → i ≤ l.length → i ≤ m.length → 1000010 + 4 * d ≤ k → understoryref01_CompareKeys.l0 k l m ds (i : Int) = some (cmpKeys ds i (l.drop i) (m.drop i)) := by
  intro d
  induction d using Nat.strongRecOn with
  | ind d ih =>
    intro i k hd hi hj hk
    obtain ⟨k, rfl⟩ : ∃ j, k = j + 3 := ⟨k - 3, by omega⟩
    rw [understoryref01_CompareKeys.l0]
    have key : understoryref01_CompareKeys.j1 (k + 2) l m ds (i : Int) (decide (i < l.length ∧ i < m.length)) = some (cmpKeys ds i (l.drop i) (m.drop i)) := by
      rw [understoryref01_CompareKeys.j1]
      by_cases hlt : i < l.length ∧ i < m.length
      · have va := hl _ (rd_mem l i hlt.1)
        have vb := hm _ (rd_mem m i hlt.2)
        rw [if_pos (decide_eq_true hlt), if_pos (by omega), if_pos (by omega), if_pos (by omega), refData _ _ va.1 vb.1 va.2 vb.2 _ (by omega), cmpKeys_step ds i i l m hlt.1 hlt.2]
        simp only [Option.bind_some]
        have hv := data_vals (rd_T49 l i) (rd_T49 m i)
        have hng := data_neg (rd_T49 l i) (rd_T49 m i)
        obtain ⟨c, hc⟩ : ∃ c, cmpData (rd_T49 l i) (rd_T49 m i) = c := ⟨_, rfl⟩
        have hone : cmpOne ds i (rd_T49 l i) (rd_T49 m i) = if desc ds i then -c else c := by
          rw [cmpOne, hng, hc]
        rw [hone]
        rw [hc] at hv ⊢
        by_cases hz : c = 0
        · rw [if_pos hz, understoryref01_CompareKeys.j2, if_neg (by simp), if_pos hz, w64 _ (by omega) (by omega), show ((i : Int) + 1) = ((i + 1 : Nat) : Int) by omega]
          rw [ih (l.length - (i + 1)) (by omega) (i + 1) k rfl (by omega) (by omega) (by omega)]
          rw [if_neg (by rw [hz]; split <;> simp)]
        · rw [if_neg hz, refDown]
          simp only [Option.bind_some]
          rw [understoryref01_CompareKeys.j2]
          cases hdv : desc ds i with
          | true => simp only [if_true]; rw [if_pos (by omega), w64 _ (by omega) (by omega)]
          | false => simp only [Bool.false_eq_true, if_false]; rw [if_neg hz, if_pos hz]
      · rw [if_neg (by simpa using hlt), sign_cmpI, cmpKeys_end ds i l m i hi hj (by omega)]
        rfl
    by_cases h1 : i < l.length
    · rw [if_pos (by omega)]
      have e : decide ((i : Int) < (m.length : Int)) = decide (i < l.length ∧ i < m.length) := by
        rw [Bool.eq_iff_iff, decide_eq_true_eq, decide_eq_true_eq]; omega
      rw [e]; exact key
    · rw [if_neg (by omega)]
      rw [show false = decide (i < l.length ∧ i < m.length) from (decide_eq_false (by omega)).symm]
      exact key
theorem refKeys (ds : List Bool) (l m : List S49) (hl : ∀ x ∈ l, validS x = true ∧ x.f2.size ≤ 1000000) (hm : ∀ x ∈ m, validS x = true ∧ x.f2.size ≤ 1000000) (bl : l.length ≤ 1000) (bm : m.length ≤ 1000) (k : Nat) (hk : 1000010 + 4 * l.length ≤ k) : understoryref01_CompareKeys.f k l m ds = some (cmpKeys ds 0 l m) := by
  have := refKeys_loop ds l m hl hm bl bm l.length 0 k rfl (by omega) (by omega) hk
  simpa [understoryref01_CompareKeys.f] using this

/-! the law's own words -/
theorem few_loop (l : List S49) (hs : ∀ x ∈ l, x.f2.size ≤ 281474976710656) (hb : l.length ≤ 9223372036854775807) : ∀ (d k i n : Nat), l.length - i = d → i ≤ l.length → d < k → n ≤ 281474976713656 → (n ≤ 3000 → ∀ x ∈ l.take i, x.f2.size ≤ n) →
    ∃ b, understorylaw01_few.l0 k l (n : Int) (i : Int) = some b ∧ (b = true → l.length ≤ 60 ∧ ∀ x ∈ l, x.f2.size ≤ 3000) := by
  intro d
  induction d with
  | zero =>
    intro k i n hd hi hk hn hx
    obtain ⟨k, rfl⟩ : ∃ j, k = j + 1 := ⟨k - 1, by omega⟩
    have he : i = l.length := by omega
    rw [understorylaw01_few.l0, if_neg (by omega)]
    by_cases h60 : (l.length : Int) ≤ 60
    · rw [if_pos h60]
      refine ⟨_, rfl, fun h => ⟨by omega, fun x hxm => ?_⟩⟩
      have h3 : (n : Int) ≤ 3000 := of_decide_eq_true h
      have := hx (by omega) x (by rw [he, List.take_length]; exact hxm)
      omega
    · rw [if_neg h60]; exact ⟨_, rfl, fun h => by cases h⟩
  | succ d ih =>
    intro k i n hd hi hk hn hx
    obtain ⟨k, rfl⟩ : ∃ j, k = j + 1 := ⟨k - 1, by omega⟩
    have hlt : i < l.length := by omega
    rw [understorylaw01_few.l0, if_pos (by omega)]
    by_cases h3 : (n : Int) ≤ 3000
    · have hsz := hs _ (rd_mem l i hlt)
      rw [if_pos h3, if_pos (by omega), w64 _ (by omega) (by omega), w64 _ (by omega) (by omega), show ((i : Int) + 1) = ((i + 1 : Nat) : Int) by omega, show ((n : Int) + ((rd_T49 l i).f2.size : Int)) = ((n + (rd_T49 l i).f2.size : Nat) : Int) by omega]
      refine ih k (i + 1) _ (by omega) (by omega) (by omega) (by omega) (fun hn3 x hxm => ?_)
      rw [List.take_succ_eq_append_getElem hlt, List.mem_append] at hxm
      rcases hxm with hxm | hxm
      · have := hx (by omega) x hxm; omega
      · have : x = rd_T49 l i := by simpa [rd_T49, hlt] using hxm
        rw [this]; omega
    · rw [if_neg h3]
      by_cases h60 : (l.length : Int) ≤ 60
      · rw [if_pos h60]
        exact ⟨_, rfl, fun h => absurd (of_decide_eq_true h) h3⟩
      · rw [if_neg h60]; exact ⟨_, rfl, fun h => by cases h⟩
theorem few_spec (l : List S49) (hs : ∀ x ∈ l, x.f2.size ≤ 281474976710656) (hb : l.length ≤ 9223372036854775807) (k : Nat) (hk : l.length < k) : ∃ b, understorylaw01_few.f k l = some b ∧ (b = true → l.length ≤ 60 ∧ ∀ x ∈ l, x.f2.size ≤ 3000) :=
  few_loop l hs hb l.length k 0 0 rfl (by omega) hk (by omega) (fun _ x hx => by simp at hx)
theorem valid_loop (l : List S49) (hb : l.length ≤ 1000) : ∀ (d k i : Nat), l.length - i = d → i ≤ l.length → d < k → understorylaw01_valid.l0 k l (i : Int) = some ((l.drop i).all validS) := by
  intro d
  induction d with
  | zero =>
    intro k i hd hi hk
    obtain ⟨k, rfl⟩ : ∃ j, k = j + 1 := ⟨k - 1, by omega⟩
    rw [understorylaw01_valid.l0, if_neg (by omega), List.drop_of_length_le (by omega)]; rfl
  | succ d ih =>
    intro k i hd hi hk
    obtain ⟨k, rfl⟩ : ∃ j, k = j + 1 := ⟨k - 1, by omega⟩
    have hlt : i < l.length := by omega
    have hg : rd_T49 l (i : Int) = l[i] := by simp [rd_T49, hlt]
    rw [understorylaw01_valid.l0, if_pos (by omega), if_pos (by omega), refValid, hg, List.drop_eq_getElem_cons hlt, List.all_cons]
    simp only [Option.bind_some]
    cases hv : validS l[i] with
    | true =>
      rw [if_pos rfl, w64 _ (by omega) (by omega), show ((i : Int) + 1) = ((i + 1 : Nat) : Int) by omega, ih k (i + 1) (by omega) (by omega) (by omega)]
      simp
    | false => simp
theorem valid_spec (l : List S49) (hb : l.length ≤ 1000) (k : Nat) (hk : l.length < k) : understorylaw01_valid.f k l = some (l.all validS) := by
  have := valid_loop l hb l.length k 0 rfl (by omega) hk
  simpa [understorylaw01_valid.f] using this
end Go.Proofs.Ythpabgiicglbmaa.Pure
