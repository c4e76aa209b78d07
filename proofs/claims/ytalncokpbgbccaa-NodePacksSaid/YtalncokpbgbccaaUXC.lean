-- A slim copy of XC, written by wip/tools/prune2.py.
import Derived.Test.YtalncokpbgbccaaUDP
import Derived.Test.YtalncokpbgbccaaUNU
import Derived.Test.YtalncokpbgbccaaURh
import Derived.Test.YtalncokpbgbccaaUTA
import Derived.Test.YtalncokpbgbccaaUXA
/- The reference's Between and Separator, plainly; and the reference's Cut against the program's. -/
namespace Go.Proofs.Ytalncokpbgbccaa.E
open Go.RowKit Go.Proofs.YtalncokpbgbccaaW.PrintWords Go.Proofs.YtalncokpbgbccaaW.PrintLast Go.Proofs.YtalncokpbgbccaaW.PrintMore
set_option linter.unusedVariables false
set_option linter.unusedSimpArgs false
theorem refPrefix_loop (a b : Bytes) (h0 : a.length ≤ 1000000) (h1 : b.length ≤ 1000000) : ∀ k i, i ≤ a.length → i ≤ b.length → a.length - i < k → understoryref01_Prefix.l0 k (ofL a) (ofL b) (i : Int) = some ((i + lcp (a.drop i) (b.drop i) : Nat) : Int) := by
  intro k
  induction k with
  | zero => intro i _ _ h; omega
  | succ k ih =>
    intro i hi hj hk
    unfold understoryref01_Prefix.l0
    rw [size_ofL, size_ofL]
    by_cases hlt : i < a.length ∧ i < b.length
    · rw [if_pos (by omega), if_pos (by omega), if_pos (by omega), bt_getD a i hlt.1, bt_getD b i hlt.2, lcp_drop a b i hlt.1 hlt.2]
      by_cases he : a.getD i 0 = b.getD i 0
      · rw [if_pos ((toNat_eq _ _).mpr he), if_pos he, w64 _ (by omega) (by omega), show ((i : Int) + 1) = ((i + 1 : Nat) : Int) from by omega, ih (i + 1) (by omega) (by omega) (by omega)]
        congr 2
        omega
      · rw [if_neg (fun h => he ((toNat_eq _ _).mp h)), if_neg he]; rfl
    · by_cases h : i = a.length
      · rw [if_neg (by omega), h, List.drop_length, lcp_nil_left]; rfl
      · rw [if_pos (by omega), if_neg (by omega), show i = b.length by omega, List.drop_length, lcp_nil_right]; rfl
theorem refPrefix (a b : Bytes) (h0 : a.length ≤ 1000000) (h1 : b.length ≤ 1000000) (k : Nat) (hk : a.length < k) : understoryref01_Prefix.f k (ofL a) (ofL b) = some (lcp a b : Int) := by
  have := refPrefix_loop a b h0 h1 k 0 (by omega) (by omega) (by omega)
  simpa [understoryref01_Prefix.f] using this

theorem refCompare (a b : Bytes) (h0 : a.length ≤ 1000000) (h1 : b.length ≤ 1000000) (k : Nat) (hk : a.length < k) : understoryref01_Compare.f k (ofL a) (ofL b) = some (cmpL a b) := by
  obtain ⟨j, rfl⟩ : ∃ j, k = j + 1 := ⟨k - 1, by omega⟩
  have hl := lcp_le a b
  rw [understoryref01_Compare.f, refPrefix a b h0 h1 _ hk, cmpL_lcp]
  obtain ⟨n, hn⟩ : ∃ n, lcp a b = n := ⟨_, rfl⟩
  rw [hn] at hl ⊢
  have e1 : ((n : Int) = (a.length : Int)) = (n = a.length) := propext ⟨by omega, by omega⟩
  have e2 : ((n : Int) == (b.length : Int)) = decide (n = b.length) := by rw [Bool.eq_iff_iff]; simp; omega
  have e3 : ((n : Int) < (b.length : Int)) = (n < b.length) := propext ⟨by omega, by omega⟩
  have e4 : ((n : Int) < (a.length : Int)) = (n < a.length) := propext ⟨by omega, by omega⟩
  have e5 : (0 ≤ (n : Int)) = True := eq_true (by omega)
  simp only [Option.bind_some, understoryref01_Compare.j0, size_ofL, e1, e2, e3, e4, e5]
  by_cases he : n = a.length
  · by_cases hf : n = b.length
    · simp only [if_pos he, if_pos (And.intro he hf), decide_eq_true hf]; rfl
    · have hf2 : ¬ (n = a.length ∧ n = b.length) := fun h => hf h.2
      simp only [if_pos he, if_neg hf2, decide_eq_false hf]; rfl
  · have hf2 : ¬ (n = a.length ∧ n = b.length) := fun h => he h.1
    simp only [if_neg he, if_neg hf2, Bool.false_eq_true, if_false]
    by_cases hb : n < b.length
    · have ha : n < a.length := by omega
      have e6 : (bt (ofL a) (n : Int) < bt (ofL b) (n : Int)) = ((a.getD n 0).toNat < (b.getD n 0).toNat) := by
        rw [bt_getD a n ha, bt_getD b n hb]; exact propext ⟨by omega, by omega⟩
      simp only [if_pos hb, if_pos ha, if_true, e6]
      by_cases hc : (a.getD n 0).toNat < (b.getD n 0).toNat
      · simp only [if_pos hc, if_pos (And.intro hb hc)]
      · have hd : ¬ (n < b.length ∧ (a.getD n 0).toNat < (b.getD n 0).toNat) := fun h => hc h.2
        simp only [if_neg hc, if_neg hd]
    · have hd : ¬ (n < b.length ∧ (a.getD n 0).toNat < (b.getD n 0).toNat) := fun h => hb h.1
      simp only [if_neg hb, if_neg hd]

theorem refBetween (a b : Bytes) (h0 : a.length ≤ 1000000) (h1 : b.length ≤ 1000000) (k : Nat) (hk : a.length < k) : understoryref01_Between.f k (ofL a) (ofL b) = some (btwR (betweenL a b)) := by
  have hl := lcp_le a b
  have hv := cmpL_vals a b
  rw [understoryref01_Between.f, refCompare a b h0 h1 _ hk, betweenL]
  simp only [Option.bind_some]
  by_cases hc : cmpL a b = -1
  · rw [if_neg (by omega), if_pos hc, refPrefix a b h0 h1 _ hk]
    simp only [Option.bind_some, size_ofL, Int.toNat_natCast]
    by_cases hn : lcp a b < a.length
    · rw [if_neg (by omega), if_pos (by omega), if_pos (by omega), if_pos (by omega), bt_getD a _ hn, inc_nums, strOfNums_numsOf, extract_take, append_ofL, if_pos (by simp only [size_ofL, List.length_take, List.length_singleton]; omega), if_pos hn]
      rfl
    · rw [if_neg hn, if_pos (by omega)]
      refine (if_pos (show (ofL a).size + 1 ≤ 9223372036854775807 by rw [size_ofL]; omega)).trans ?_
      rw [List.take_of_length_le (by omega)]
      exact congrArg (fun x => some (x, (0 : Int))) (append_ofL a [0])
  · rw [if_pos (by omega), if_neg hc]; rfl

theorem refSeparator (a b : Bytes) (h0 : a.length ≤ 1000000) (h1 : b.length ≤ 1000000) (k : Nat) (hk : a.length < k) : understoryref06_Separator.f k (ofL a) (ofL b) = some (btwR (betweenL a b)) := by
  rw [understoryref06_Separator.f, refBetween a b h0 h1 k hk]; rfl
theorem nodeSeparator (a b : Bytes) (h0 : a.length ≤ 1000000) (h1 : b.length ≤ 1000000) (k : Nat) (hk : a.length < k) : node_Separator.f k (ofL a) (ofL b) = some (btwR (betweenL a b)) := by
  rw [node_Separator.f, encBetween a b h0 h1 k hk]; rfl
/-- the reference's weights of a list that is in order -/
theorem packable_ord {l : List S77} {level : Int} (h : packable l level = true) : ordL l level = true := by
  unfold packable at h; rw [Bool.and_eq_true] at h; exact h.1
theorem packable_bare {l : List S77} {level : Int} (h : packable l level = true) : bare level l = l := ord_bare (packable_ord h)
theorem one_weight (x : S77) (level : Int) (hl : inB level 0 20 = true) : weightO [x] level = if okB level x = true then some (6 + (weighI x level).1) else none := by
  rw [weightO_eq level _ hl]
  simp [wt]
theorem packable_ws (l : List S77) (level : Int) : packable l level = (ordL l level && wsOk l level) := by
  cases ho : ordL l level with
  | false =>
    cases hp : packable l level with
    | false => rfl
    | true => rw [packable_ord hp] at ho; cases ho
  | true =>
    have hl := ord_level ho
    unfold packable
    rw [ho, Bool.true_and, Bool.true_and, ord_bare ho, weightO_eq level _ hl, wsOk]
    have : (fun x : S77 => (weightO [x] level).isSome) = okB level := by
      funext x
      rw [one_weight x level hl]
      cases okB level x <;> rfl
    rw [this]
    cases l.all (okB level) <;> rfl
theorem ws_sum {level : Int} (hl : inB level 0 20 = true) : ∀ (m : List S77), m.all (okB level) = true → (m.map (wOne level)).sum = wt level m := by
  intro m
  induction m with
  | nil => intro _; rfl
  | cons x r ih =>
    intro h
    rw [List.all_cons, Bool.and_eq_true] at h
    rw [List.map_cons, List.sum_cons, ih h.2]
    have : wOne level x = (weighI x level).1 := by
      rw [wOne, one_weight x level hl, if_pos h.1]
      show (6 + (weighI x level).1) - 6 = _
      omega
    rw [this]
    simp [wt]
theorem ws_take {l : List S77} {level : Int} (h : packable l level = true) (k : Nat) : ((l.map (wOne level)).take k).sum = wt level (l.take k) := by
  rw [← List.map_take]
  have h3 := ((packable_iff l level).mp h).2.2
  rw [packable_bare h] at h3
  exact ws_sum (packable_level h) _ (all_take h3 k)
theorem ws_all {l : List S77} {level : Int} (h : packable l level = true) : (l.map (wOne level)).sum = wt level l := by
  have := ws_take h l.length
  rwa [List.take_of_length_le (by simp), List.take_of_length_le (Nat.le_refl _)] at this
theorem ws_ok {l : List S77} {level : Int} (h : packable l level = true) (hf : Fine l) : WsOk (l.map (wOne level)) := by
  intro k hk
  rw [ws_take h]
  rw [List.length_map] at hk
  have h3 := ((packable_iff l level).mp h).2.2
  rw [packable_bare h] at h3
  refine ⟨wt_nonneg _ _, ?_⟩
  by_cases h0 : k = 0
  · subst h0; simp [wt]
  · have := (packable_ahOk h hf (k - 1) (by omega)).2
    rw [ahA_eq h (k - 1) (by omega), packable_bare h, show k - 1 + 1 = k by omega] at this
    omega
theorem larg_eq {l : List S77} {level : Int} (h : packable l level = true) (i : Nat) (hi : i + 1 < l.length) : largA l level i = 6 + rLarg l (l.map (wOne level)) level i := by
  unfold largA rLarg
  rw [ahA_eq h i (by omega), ahA_eq h (l.length - 1) (by omega), packable_bare h, ws_take h, ws_all h, show l.length - 1 + 1 = l.length by omega, List.take_of_length_le (Nat.le_refl _)]
  unfold mx
  split <;> split <;> omega
theorem best_eq {l : List S77} {level : Int} (h : packable l level = true) : ∀ k, k < l.length → (bestP (cutsL l level k)).1 = (bestP (rCuts l (l.map (wOne level)) level k)).1 ∧ (k = 0 ∨ (bestP (cutsL l level k)).2 = 6 + (bestP (rCuts l (l.map (wOne level)) level k)).2) ∧ ((bestP (cutsL l level k)).1 = 0 → k = 0) := by
  intro k
  induction k with
  | zero => intro _; exact ⟨rfl, Or.inl rfl, fun _ => rfl⟩
  | succ k ih =>
    intro hk
    obtain ⟨h1, h2, h3⟩ := ih (by omega)
    rw [cutsL_snoc, bestP_snoc, rCuts_snoc, bestP_snoc, larg_eq h k hk]
    unfold bestStep
    rw [← h1]
    by_cases hz : (bestP (cutsL l level k)).1 = 0
    · rw [if_pos (Or.inl hz), if_pos (Or.inl hz)]
      exact ⟨rfl, Or.inr rfl, fun hc => by simp at hc; omega⟩
    · have h2' := h2.resolve_left (fun e => hz (by rw [e]; rfl))
      by_cases hlt : 6 + rLarg l (l.map (wOne level)) level k < (bestP (cutsL l level k)).2
      · rw [if_pos (Or.inr hlt), if_pos (Or.inr (by show rLarg l (l.map (wOne level)) level k < _; omega))]
        exact ⟨rfl, Or.inr rfl, fun hc => by simp at hc; omega⟩
      · rw [if_neg (fun hc => hc.elim hz hlt), if_neg (fun hc => hc.elim hz (fun hc => hlt (by have hc : rLarg l (l.map (wOne level)) level k < _ := hc; omega)))]
        exact ⟨h1, Or.inr h2', fun hc => absurd hc hz⟩
theorem rBest_eq {l : List S77} {level : Int} (h : packable l level = true) (h2 : 2 ≤ l.length) : rBest l (l.map (wOne level)) level = bestA l level := ((best_eq h (l.length - 1) (by omega)).1).symm
end Go.Proofs.Ytalncokpbgbccaa.E

