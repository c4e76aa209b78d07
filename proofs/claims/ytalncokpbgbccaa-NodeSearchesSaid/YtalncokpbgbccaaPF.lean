/- Searching: what the program computes is what the reference computes. -/
import Derived.Test.YtalncokpbgbccaaPA
import Derived.Test.YtalncokpbgbccaaMd
import Derived.Test.YtalncokpbgbccaaRc
import Derived.Test.YtalncokpbgbccaaRe
import Derived.Test.YtalncokpbgbccaaRf
namespace Go.Proofs.Ytalncokpbgbccaa.E
set_option linter.unusedVariables false
set_option linter.unusedSimpArgs false
open Go.RowKit Go.Proofs.YtalncokpbgbccaaW.PrintWords Go.Proofs.YtalncokpbgbccaaW.PrintLast Go.Proofs.YtalncokpbgbccaaW.PrintMore
theorem less_irr : ∀ a : List UInt8, Op.bytesLess a a = false
  | [] => by simp [Op.bytesLess]
  | x :: a => by rw [less_cons, if_neg (by omega), if_neg (by omega)]; exact less_irr a
theorem less_nil2 (a : List UInt8) (h : Op.bytesLess a [] = true) : False := by cases a <;> simp [Op.bytesLess] at h
theorem less_tr : ∀ a b c : List UInt8, Op.bytesLess a b = true → Op.bytesLess b c = true → Op.bytesLess a c = true
  | _, _, [], h1, h2 => (less_nil2 _ h2).elim
  | _, [], _ :: _, h1, h2 => (less_nil2 _ h1).elim
  | [], _ :: _, _ :: _, h1, h2 => by simp [Op.bytesLess]
  | x :: a, y :: b, z :: c, h1, h2 => by
    rw [less_cons] at h1 h2 ⊢
    by_cases k1 : x.toNat < y.toNat
    · by_cases k2 : y.toNat < z.toNat
      · rw [if_pos (by omega)]
      · rw [if_neg k2] at h2
        by_cases k3 : z.toNat < y.toNat
        · rw [if_pos k3] at h2; cases h2
        · rw [if_pos (by omega)]
    · rw [if_neg k1] at h1
      by_cases k2 : y.toNat < x.toNat
      · rw [if_pos k2] at h1; cases h1
      · rw [if_neg k2] at h1
        by_cases k3 : y.toNat < z.toNat
        · rw [if_pos (by omega)]
        · rw [if_neg k3] at h2
          by_cases k4 : z.toNat < y.toNat
          · rw [if_pos k4] at h2; cases h2
          · rw [if_neg k4] at h2
            rw [if_neg (by omega), if_neg (by omega)]
            exact less_tr a b c h1 h2
/-- the keys increase -/
def IncL (l : List S77) : Prop := ∀ j, 0 < j → j < l.length → Op.bytesLess (l.getD (j - 1) z77).f0.toList (l.getD j z77).f0.toList = true
theorem inc_lt {l : List S77} (h : IncL l) (i : Nat) : ∀ d, 0 < d → i + d < l.length → Op.bytesLess (l.getD i z77).f0.toList (l.getD (i + d) z77).f0.toList = true
  | 0, h0, _ => by omega
  | 1, _, h1 => h (i + 1) (by omega) h1
  | d + 2, _, h1 => less_tr _ _ _ (inc_lt h i (d + 1) (by omega) (by omega)) (h (i + (d + 2)) (by omega) h1)
theorem ord_inc (l : List S77) (level : Int) (hl : l.length ≤ 100) : ∀ m i k, i + m = l.length → understoryref06_Ordered.l0 k l level i = some true → ∀ j, i ≤ j → 0 < j → j < l.length → Op.bytesLess (l.getD (j - 1) z77).f0.toList (l.getD j z77).f0.toList = true
  | 0, i, k, h, _ => fun j h1 h2 h3 => by omega
  | m + 1, i, 0, h, hk => by simp [understoryref06_Ordered.l0] at hk
  | m + 1, i, k + 1, h, hk => by
    have hJ : ∀ q, understoryref06_Ordered.j1 k l level i (rd_T77 l i).f0 q = some true → (q = true → i = 0) → (0 < i → Op.bytesLess (l.getD (i - 1) z77).f0.toList (l.getD i z77).f0.toList = true) ∧ ∃ k2, understoryref06_Ordered.l0 k2 l level ((i + 1 : Nat) : Int) = some true := by
      intro q hq hqi
      cases k with
      | zero => simp [understoryref06_Ordered.j1] at hq
      | succ k =>
        rw [understoryref06_Ordered.j1, wsuc i (by omega)] at hq
        by_cases h0 : q = true
        · rw [if_pos h0] at hq
          have hi := hqi h0
          split at hq
          · exact ⟨fun h => by omega, _, hq⟩
          · cases hq
        · rw [if_neg h0] at hq
          split at hq
          · cases hq
          split at hq
          · cases hq
          by_cases h3 : (i : Int) > 0
          · have hw : wrap64 ((i : Int) - 1) = ((i - 1 : Nat) : Int) := by rw [w64 _ (by omega) (by omega)]; omega
            rw [if_pos h3, hw, if_pos (by omega), if_pos (by omega)] at hq
            split at hq
            · rename_i h4
              refine ⟨fun _ => ?_, _, hq⟩
              simpa [rd_T77] using h4
            · cases hq
          · rw [if_neg h3] at hq
            exact ⟨fun h => by omega, _, hq⟩
    have hK : (0 < i → Op.bytesLess (l.getD (i - 1) z77).f0.toList (l.getD i z77).f0.toList = true) ∧ ∃ k2, understoryref06_Ordered.l0 k2 l level ((i + 1 : Nat) : Int) = some true := by
      rw [understoryref06_Ordered.l0, if_pos (by omega), if_pos (by omega)] at hk
      by_cases h0 : (i : Int) = 0
      · rw [if_pos h0] at hk
        exact hJ _ hk (fun _ => by omega)
      · rw [if_neg h0] at hk
        exact hJ _ hk (fun h => by cases h)
    obtain ⟨h1, k2, hk2⟩ := hK
    intro j hj j0 jn
    by_cases e : j = i
    · subst e; exact h1 j0
    · exact ord_inc l level hl m (i + 1) k2 (by omega) hk2 j (by omega) j0 jn
theorem ordered_inc (l : List S77) (level : Int) (hl : l.length ≤ 100) (k : Nat) (h : understoryref06_Ordered.f k l level = some true) : IncL l := by
  unfold understoryref06_Ordered.f at h
  cases hq : understoryref06_inLevel.f level with
  | none => rw [hq] at h; cases h
  | some t =>
    rw [hq] at h
    cases t
    · simp at h
    · have h : understoryref06_Ordered.l0 k l level 0 = some true := by simpa using h
      exact fun j h1 h2 => ord_inc l level hl _ 0 k (Nat.zero_add _) h j (Nat.zero_le _) h1 h2
/-- the binary search, where the predicate is false, then true -/
theorem bsF_spec (p : Nat → Bool) (n : Nat) (mono : ∀ i j, i ≤ j → j < n → p i = true → p j = true) : ∀ k a b, a ≤ b → b ≤ n → b - a ≤ k → (∀ i, i < a → p i = false) → (∀ i, b ≤ i → i < n → p i = true) →
    (∀ i, i < bsF p k a b → p i = false) ∧ (∀ i, bsF p k a b ≤ i → i < n → p i = true)
  | 0, a, b, h1, h2, h3, hA, hB => by
    obtain rfl : a = b := by omega
    exact ⟨hA, hB⟩
  | k + 1, a, b, h1, h2, h3, hA, hB => by
    rw [bsF]
    by_cases hab : a < b
    · rw [if_pos hab]
      by_cases hp : p ((a + b) / 2) = true
      · rw [if_pos hp]
        exact bsF_spec p n mono k a _ (by omega) (by omega) (by omega) hA (fun i hi hn => mono _ i hi hn hp)
      · rw [if_neg hp]
        refine bsF_spec p n mono k _ b (by omega) h2 (by omega) (fun i hi => ?_) hB
        cases hpi : p i with
        | false => rfl
        | true => exact absurd (mono i _ (by omega) (by omega) hpi) hp
    · rw [if_neg hab]
      obtain rfl : a = b := by omega
      exact ⟨hA, hB⟩
theorem same_end (p : Nat → Bool) (n r s : Nat) (hr : r ≤ n) (hs : s ≤ n) (h1 : ∀ i, i < r → p i = false) (h2 : ∀ i, r ≤ i → i < n → p i = true) (h3 : ∀ i, i < s → p i = false) (h4 : s < n → p s = true) : r = s := by
  rcases Nat.lt_trichotomy r s with h | h | h
  · have := h2 r (Nat.le_refl _) (by omega); rw [h3 r h] at this; cases this
  · exact h
  · have := h4 (by omega); rw [h1 s h] at this; cases this
theorem rsearch_go (l : List S77) (key : ByteArray) (hl : l.length ≤ 100) : ∀ m i, i + m = l.length → (∀ j, j < i → q64 l key j = false) →
    ∃ (k r : Nat), understoryref06_Search.l0 k l key i = some ((r : Int), decide (r < l.length) && ((l.getD r z77).f0.toList == key.toList)) ∧ r ≤ l.length ∧ (∀ j, j < r → q64 l key j = false) ∧ (r < l.length → q64 l key r = true)
  | 0, i, h, hj => by
    refine ⟨1, i, ?_, by omega, hj, fun h => by omega⟩
    rw [understoryref06_Search.l0, if_neg (by omega)]
    simp [show ¬ i < l.length by omega]
  | m + 1, i, h, hj => by
    by_cases hp : Op.bytesLess (rd_T77 l i).f0.toList key.toList = true
    · obtain ⟨k, r, hk, h1, h2, h3⟩ := rsearch_go l key hl m (i + 1) (by omega) (fun j hj2 => by
        by_cases e : j = i
        · subst e; simp only [rd_T77, Int.toNat_natCast] at hp; rw [q64, hp]; rfl
        · exact hj j (by omega))
      refine ⟨k + 1, r, ?_, h1, h2, h3⟩
      rw [understoryref06_Search.l0, if_pos (by omega), if_pos (by omega), if_pos hp, wsuc i (by omega)]
      exact hk
    · refine ⟨1, i, ?_, by omega, hj, fun _ => ?_⟩
      · rw [understoryref06_Search.l0, if_pos (by omega), if_pos (by omega), if_neg hp]
        simp [rd_T77, show i < l.length by omega]
      · simp only [rd_T77, Int.toNat_natCast] at hp; rw [q64, Bool.eq_false_iff.mpr hp]; rfl
theorem q64_mono {l : List S77} (h : IncL l) (key : ByteArray) (i j : Nat) (hij : i ≤ j) (hj : j < l.length) (hp : q64 l key i = true) : q64 l key j = true := by
  by_cases e : i = j
  · subst e; exact hp
  simp only [q64, Bool.not_eq_true'] at hp ⊢
  cases hq : Op.bytesLess (l.getD j z77).f0.toList key.toList with
  | false => rfl
  | true =>
    have := inc_lt h i (j - i) (by omega) (by omega)
    rw [show i + (j - i) = j by omega] at this
    rw [less_tr _ _ _ this hq] at hp
    cases hp
theorem search_eq (l : List S77) (key : ByteArray) (hl : l.length ≤ 100) : ∃ k a b, understoryref06_Search.f k l key = some (a, b) ∧ (IncL l → a = (searchP l key : Int) ∧ b = searchB l key) := by
  obtain ⟨k, r, hk, h1, h2, h3⟩ := rsearch_go l key hl _ 0 (Nat.zero_add _) (fun j hj => by omega)
  refine ⟨k, _, _, hk, fun hi => ?_⟩
  have hs := bsF_spec (q64 l key) l.length (fun i j => q64_mono hi key i j) l.length 0 l.length (Nat.zero_le _) (Nat.le_refl _) (by omega) (fun i hi => by omega) (fun i h1 h2 => by omega)
  have e : searchP l key = r := same_end (q64 l key) l.length _ r (searchP_le l key) h1 hs.1 hs.2 h2 h3
  rw [searchB, e]
  exact ⟨rfl, rfl⟩
theorem rchild_go (l : List S77) (key : ByteArray) (hl : l.length ≤ 100) (r : Nat) (hr : r ≤ l.length - 1) (h1 : ∀ j, j < r → q65 (l.drop 1) key j = false) (h2 : ∀ j, r ≤ j → j < l.length - 1 → q65 (l.drop 1) key j = true) :
    ∀ m i, i + m = l.length → 1 ≤ i → ∃ k, understoryref06_Child.l0 k l key ((min (i - 1) r : Nat) : Int) i = some (r : Int)
  | 0, i, h, hi => ⟨1, by rw [understoryref06_Child.l0, if_neg (by omega)]; congr 2; omega⟩
  | m + 1, i, h, hi => by
    obtain ⟨k, hk⟩ := rchild_go l key hl r hr h1 h2 m (i + 1) (by omega) (by omega)
    refine ⟨k + 1, ?_⟩
    rw [understoryref06_Child.l0, if_pos (by omega), if_neg (by omega), if_pos (by omega), wsuc i (by omega)]
    have hq : q65 (l.drop 1) key (i - 1) = Op.bytesLess key.toList (rd_T77 l i).f0.toList := by
      simp only [q65, rd_T77, Int.toNat_natCast, List.getD, List.getElem?_drop]
      rw [show 1 + (i - 1) = i by omega]
    by_cases hp : Op.bytesLess key.toList (rd_T77 l i).f0.toList = true
    · rw [if_pos hp]
      have : r ≤ i - 1 := by
        rcases Nat.lt_or_ge (i - 1) r with hh | hh
        · have := h1 (i - 1) hh; rw [hq, hp] at this; cases this
        · exact hh
      rw [show min (i - 1) r = min (i + 1 - 1) r by omega]
      exact hk
    · rw [if_neg hp]
      have : i - 1 < r := by
        rcases Nat.lt_or_ge (i - 1) r with hh | hh
        · exact hh
        · have := h2 (i - 1) hh (by omega); rw [hq] at this; exact absurd this hp
      rw [show ((min (i + 1 - 1) r : Nat) : Int) = (i : Int) by omega] at hk
      exact hk
theorem child_eq (l : List S77) (key : ByteArray) (hl : l.length ≤ 100) (hi : IncL l) : ∃ k, understoryref06_Child.f k l key = some (childI l key) := by
  by_cases h0 : l.length = 0
  · exact ⟨1, by rw [understoryref06_Child.f, understoryref06_Child.l0, if_neg (by omega), childI, if_pos h0]⟩
  · have hd : (l.drop 1).length = l.length - 1 := by simp
    have hs := bsF_spec (q65 (l.drop 1) key) (l.length - 1) (fun i j hij hj hp => by
      by_cases e : i = j
      · subst e; exact hp
      simp only [q65, List.getD, List.getElem?_drop] at hp ⊢
      have := inc_lt hi (1 + i) (j - i) (by omega) (by omega)
      rw [show 1 + i + (j - i) = 1 + j by omega] at this
      exact less_tr _ _ _ hp this) (l.length - 1) 0 (l.length - 1) (Nat.zero_le _) (Nat.le_refl _) (by omega) (fun i hi => by omega) (fun i h1 h2 => by omega)
    have hle := bsF_le (q65 (l.drop 1) key) (l.length - 1) 0 (l.length - 1) (Nat.zero_le _)
    obtain ⟨k, hk⟩ := rchild_go l key hl _ hle hs.1 hs.2 (l.length - 1) 1 (by omega) (Nat.le_refl _)
    refine ⟨k + 1, ?_⟩
    rw [understoryref06_Child.f, understoryref06_Child.l0, if_pos (by omega), if_pos rfl, childI, if_neg h0, hd]
    have hk2 := hk
    simp only [Nat.sub_self, Nat.zero_min] at hk2
    rw [show wrap64 ((0 : Int) + 1) = ((1 : Nat) : Int) from wsuc 0 (by omega)]
    exact hk2
theorem before_go (l : List S77) (x : Int) (hl : l.length ≤ 100) : ∀ m i, i + m = cutI x l.length → ∃ k, understoryref06_Before.l0 k l x (befL (l.take i)) i = some (befL (l.take (cutI x l.length)))
  | 0, i, h => by
    obtain rfl : i = cutI x l.length := by omega
    refine ⟨1, ?_⟩
    rw [understoryref06_Before.l0]
    by_cases h1 : ((cutI x l.length : Nat) : Int) < (l.length : Int)
    · rw [if_pos h1, if_neg (by unfold cutI at h1 ⊢; omega)]
    · rw [if_neg h1]
  | m + 1, i, h => by
    obtain ⟨k, hk⟩ := before_go l x hl m (i + 1) (by omega)
    have hi : i < l.length := by unfold cutI at h; omega
    have hx : (i : Int) < x := by unfold cutI at h; omega
    refine ⟨k + 1, ?_⟩
    rw [understoryref06_Before.l0, if_pos (by omega), if_pos hx, if_pos (by omega), wsuc i (by omega)]
    rw [befL_snoc l i hi] at hk
    simpa [rd_T77] using hk
theorem before_eq (l : List S77) (x : Int) (hl : l.length ≤ 100) : ∃ k, understoryref06_Before.f k l x = some (befL (l.take (cutI x l.length))) := by
  obtain ⟨k, hk⟩ := before_go l x hl _ 0 (Nat.zero_add _)
  exact ⟨k, by rw [understoryref06_Before.f]; exact hk⟩
theorem locate_go (l : List S77) (hl : l.length ≤ 100) : ∀ m i q, i + m = l.length → ∃ k, understoryref06_Locate.l0 k l q i = some (locF (l.drop i) i q)
  | 0, i, q, h => ⟨1, by rw [understoryref06_Locate.l0, if_neg (by omega), List.drop_of_length_le (by omega), locF]⟩
  | m + 1, i, q, h => by
    obtain ⟨k, hk⟩ := locate_go l hl m (i + 1) (wrap64 (q - (rd_T77 l i).f5)) (by omega)
    refine ⟨k + 1, ?_⟩
    rw [understoryref06_Locate.l0, if_pos (by omega), if_pos (by omega), wsuc i (by omega), locF_drop l i q (by omega), hk]
    have e : rd_T77 l i = l.getD i z77 := by simp [rd_T77]
    rw [e]
    split <;> rfl
theorem locate_eq (l : List S77) (q : Int) (hl : l.length ≤ 100) : ∃ k, understoryref06_Locate.f k l q = some (locR l q) := by
  by_cases h0 : q < 0
  · exact ⟨0, by rw [understoryref06_Locate.f, if_pos h0, locR, if_pos h0]⟩
  · obtain ⟨k, hk⟩ := locate_go l hl _ 0 q (Nat.zero_add _)
    refine ⟨k, ?_⟩
    rw [understoryref06_Locate.f, if_neg h0, locR, if_neg h0]
    exact hk
end Go.Proofs.Ytalncokpbgbccaa.E
