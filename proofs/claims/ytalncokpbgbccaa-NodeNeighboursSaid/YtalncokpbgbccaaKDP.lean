-- A slim copy of DP, CB, written by wip/tools/prune2.py.
import Derived.Test.YtalncokpbgbccaaKSP
import Derived.Test.YtalncokpbgbccaaUMj
import Derived.Test.YtalncokpbgbccaaUPG
/- What Pack answers: each part is valid, fits, is not small if there are more; put together again they are the list. -/
namespace Go.Proofs.Ytalncokpbgbccaa.E
set_option linter.unusedVariables false
set_option linter.unusedSimpArgs false
open Go.RowKit Go.Proofs.YtalncokpbgbccaaW.PrintWords Go.Proofs.YtalncokpbgbccaaW.PrintLast Go.Proofs.YtalncokpbgbccaaW.PrintMore
/-- the best cut is no worse than any other -/
theorem best_min (l : List S77) (level : Int) : ∀ k, 1 ≤ k → ∃ j : Nat, j < k ∧ bestP (cutsL l level k) = ((j : Int) + 1, largA l level j) ∧ ∀ i, i < k → largA l level j ≤ largA l level i := by
  intro k
  induction k with
  | zero => intro h; omega
  | succ k ih =>
    intro _
    rw [cutsL_snoc, bestP_snoc, bestStep]
    by_cases hk : k = 0
    · subst hk
      rw [if_pos (Or.inl (by simp [cutsL, bestP]))]
      exact ⟨0, by omega, rfl, fun i hi => by rw [show i = 0 by omega]; exact Int.le_refl _⟩
    · obtain ⟨j, h1, h2, h3⟩ := ih (by omega)
      rw [h2]
      by_cases hlt : largA l level k < largA l level j
      · rw [if_pos (Or.inr hlt)]
        refine ⟨k, by omega, rfl, fun i hi => ?_⟩
        by_cases e : i = k
        · rw [e]; exact Int.le_refl _
        · have := h3 i (by omega); omega
      · rw [if_neg (fun h => by rcases h with h | h <;> first | exact hlt h | (simp at h; omega))]
        refine ⟨j, by omega, rfl, fun i hi => ?_⟩
        by_cases e : i = k
        · rw [e]; omega
        · exact h3 i (by omega)
theorem wt_append (level : Int) (a b : List S77) : wt level (a ++ b) = wt level a + wt level b := by simp [wt]
theorem wt_take_succ (level : Int) (m : List S77) (i : Nat) (h : i < m.length) : wt level (m.take (i + 1)) = wt level (m.take i) + (weighI (m.getD i z77) level).1 := by
  rw [List.take_succ_eq_append_getElem h, wt_append]
  simp [wt, h]
theorem wt_split (level : Int) (m : List S77) (i : Nat) : wt level (m.take i) + wt level (m.drop i) = wt level m := by
  rw [← wt_append, List.take_append_drop]
/-- the weight of a valid entry of a branch, of a leaf -/
theorem okB_up {x : S77} {level : Int} (hl : level > 0) (h : okB level x = true) : (weighI x level).1 = (x.f0.size : Int) + 27 ∧ x.f0.size ≤ 48 := by
  unfold okB weighI at *
  rw [if_pos hl] at *
  have h2 : brB x = true := h
  unfold brB at h2
  simp only [Bool.and_eq_true, decide_eq_true_eq] at h2
  exact ⟨rfl, h2.1⟩
theorem okB_low {x : S77} {level : Int} (hl : ¬ level > 0) (h : okB level x = true) : 5 ≤ (weighI x level).1 := by
  unfold okB weighI at *
  rw [if_neg hl] at *
  by_cases h1 : formI x = 1
  · rw [if_pos h1]; show 5 ≤ (x.f0.size : Int) + (x.f1.size : Int) + 5; omega
  rw [if_neg h1] at h ⊢
  by_cases h2 : formI x = 2
  · rw [if_pos h2]; show 5 ≤ (x.f0.size : Int) + 27; omega
  rw [if_neg h2] at h ⊢
  by_cases h3 : formI x = 3
  · rw [if_pos h3]; show 5 ≤ (x.f0.size : Int) + 29; omega
  rw [if_neg h3] at h
  cases h
theorem all_at {p : S77 → Bool} {m : List S77} (h : m.all p = true) (i : Nat) (hi : i < m.length) : p (m.getD i z77) = true := by
  have := List.all_eq_true.1 h (m[i]) (List.getElem_mem _)
  rwa [show m.getD i z77 = m[i] by simp [hi]]
theorem keyA_bare (l : List S77) (level : Int) (i : Nat) (h : 1 ≤ i) (hl : level > 0) : keyA l level i = (((bare level l).getD i z77).f0.size : Int) := by
  rw [keyA, if_pos hl, bare_getD level l i h]
/-- both sides of the best cut of a list that doesn't fit have at least a third of the capacity -/
theorem cut_big {l : List S77} {level : Int} (hp : packable l level = true) (hW : 490 < wt level (bare level l)) (h2 : 2 ≤ l.length) :
    166 ≤ 6 + wt level ((bare level l).take (bestN l level)) ∧ 166 ≤ 6 + (wt level (bare level l) - wt level ((bare level l).take (bestN l level)) - keyA l level (bestN l level)) := by
  have hok := ((packable_iff l level).mp hp).2.2
  have hlen := bare_length level l
  obtain ⟨j, hj, hb, hmin⟩ := best_min l level (l.length - 1) (by omega)
  have hbn : bestN l level = j + 1 := by unfold bestN bestA; rw [hb]; simp
  rw [hbn]
  have hA : ∀ i, i < l.length → ahA l level i = 6 + wt level ((bare level l).take (i + 1)) := fun i hi => ahA_eq hp i hi
  have hT : ahA l level (l.length - 1) = 6 + wt level (bare level l) := by rw [hA _ (by omega), show l.length - 1 + 1 = (bare level l).length by omega, List.take_length]
  have hlarg : ∀ i, i < l.length - 1 → largA l level i = mx (6 + wt level ((bare level l).take (i + 1))) (6 + (wt level (bare level l) - wt level ((bare level l).take (i + 1)) - keyA l level (i + 1))) := by
    intro i hi
    unfold largA
    rw [hA i (by omega), hT]
    congr 1
    omega
  have hkey : ∀ i, 1 ≤ i → i < l.length → 0 ≤ keyA l level i ∧ keyA l level i ≤ 48 ∧ (level > 0 → (weighI ((bare level l).getD i z77) level).1 = keyA l level i + 27) ∧ (¬ level > 0 → keyA l level i = 0) := by
    intro i h1 hi
    by_cases hl : level > 0
    · have := okB_up hl (all_at hok i (by omega))
      have e := keyA_bare l level i h1 hl
      refine ⟨by omega, by omega, fun _ => by omega, fun h => absurd hl h⟩
    · have e : keyA l level i = 0 := by rw [keyA, if_neg hl]
      exact ⟨by omega, by omega, fun h => absurd h hl, fun _ => e⟩
  have hent : ∀ i, i < l.length → (weighI ((bare level l).getD i z77) level).1 ≤ 117 ∧ 5 ≤ (weighI ((bare level l).getD i z77) level).1 ∧ (level > 0 → (weighI ((bare level l).getD i z77) level).1 ≤ 75) := by
    intro i hi
    have h := all_at hok i (by omega)
    refine ⟨okB_small h, ?_, fun hl => by have := okB_up hl h; omega⟩
    by_cases hl : level > 0
    · have := okB_up hl h; omega
    · exact okB_low hl h
  have hstep : ∀ i, i < l.length → wt level ((bare level l).take (i + 1)) = wt level ((bare level l).take i) + (weighI ((bare level l).getD i z77) level).1 := fun i hi => wt_take_succ level _ i (by omega)
  have hall : wt level ((bare level l).take l.length) = wt level (bare level l) := by rw [← hlen, List.take_length]
  have hnil : wt level ((bare level l).take 0) = 0 := by simp [wt]
  generalize wt level (bare level l) = T at *
  generalize hc : (fun i => wt level ((bare level l).take i)) = c
  have ec : ∀ i, wt level ((bare level l).take i) = c i := fun i => congrFun hc i
  generalize he : (fun i => (weighI ((bare level l).getD i z77) level).1) = e
  have ee : ∀ i, (weighI ((bare level l).getD i z77) level).1 = e i := fun i => congrFun he i
  generalize hk : keyA l level = K at *
  simp only [ec, ee] at *
  have kj := hkey (j + 1) (by omega) (by omega)
  have lj := hlarg j hj
  unfold mx at lj hlarg
  constructor
  · apply Classical.byContradiction
    intro hs
    have s1 : c (j + 1) ≤ 159 := by omega
    -- the next cut is better
    have n1 : j + 2 < l.length := by
      apply Classical.byContradiction
      intro hn
      have h1 := hstep (j + 1) (by omega)
      have h2 := (hent (j + 1) (by omega)).1
      rw [show j + 1 + 1 = l.length by omega] at h1
      omega
    have h1 := hstep (j + 1) (by omega)
    have h2 := hent (j + 1) (by omega)
    have k2 := hkey (j + 2) (by omega) (by omega)
    have l2 := hlarg (j + 1) (by omega)
    have hm := hmin (j + 1) (by omega)
    rw [show j + 1 + 1 = j + 2 from rfl] at h1 l2
    by_cases hl : level > 0
    · have q1 := kj.2.2.1 hl
      have q2 := h2.2.2 hl
      split at lj <;> split at l2 <;> omega
    · have q1 := kj.2.2.2 hl
      have q2 := k2.2.2.2 hl
      split at lj <;> split at l2 <;> omega
  · apply Classical.byContradiction
    intro hs
    -- the cut ahead is better
    have n1 : 1 ≤ j := by
      apply Classical.byContradiction
      intro hn
      have hj0 : j = 0 := by omega
      subst hj0
      have h1 := hstep 0 (by omega)
      have h2 := (hent 0 (by omega)).1
      omega
    obtain ⟨i, rfl⟩ : ∃ i, j = i + 1 := ⟨j - 1, by omega⟩
    have h1 := hstep (i + 1) (by omega)
    have h2 := hent (i + 1) (by omega)
    have k2 := hkey (i + 1) (by omega) (by omega)
    have l2 := hlarg i (by omega)
    have hm := hmin i (by omega)
    by_cases hl : level > 0
    · have q1 := k2.2.2.1 hl
      have q2 := h2.2.2 hl
      split at lj <;> split at l2 <;> omega
    · have q1 := kj.2.2.2 hl
      have q2 := k2.2.2.2 hl
      split at lj <;> split at l2 <;> omega
theorem bare_bare (level : Int) (l : List S77) : bare level (bare level l) = bare level l := by
  unfold bare
  split
  · cases l <;> rfl
  · rfl
theorem wt_bare (l : List S77) (level : Int) (h : 0 < l.length) : wt level (bare level l) = wt level l - (if level > 0 then ((l.getD 0 z77).f0.size : Int) else 0) := by
  unfold bare
  by_cases hl : level > 0
  · rw [if_pos hl, if_pos hl]
    cases l with
    | nil => simp at h
    | cons x r =>
      simp only [wt, List.map_cons, List.sum_cons, weighI, if_pos hl]
      show ((0 : Nat) : Int) + 27 + _ = _
      simp
      omega
  · rw [if_neg hl, if_neg hl]; omega
theorem ord_bare {l : List S77} {level : Int} (ho : ordL l level = true) : bare level l = l := by
  by_cases h : level > 0 ∧ 0 < l.length
  · rw [ordL, Bool.and_eq_true] at ho
    have h2 : okAt l level 0 = true := by simpa using (List.all_eq_true.1 ho.2 0 (by simpa using h.2))
    rw [okAt, if_pos ⟨h.1, rfl⟩] at h2
    have h3 : (l.getD 0 z77).f0 = ⟨#[]⟩ := by
      have e : (l.getD 0 z77).f0.toList = [] := by simpa using h2
      rw [← ofL_toL (l.getD 0 z77).f0]
      have e2 : toL (l.getD 0 z77).f0 = [] := by rw [← e]; exact (Lib.toList_data _).symm
      rw [e2]; rfl
    rw [← bare_set level h.1 l h.2, ← h3]
    cases l with
    | nil => rfl
    | cons x r => rfl
  · exact bare_no level l h
/-- what Pack's parts are -/
structure PartOk (l : List S77) (level : Int) (x : List (List S77) × List ByteArray) (i : Nat) : Prop where
  pack : packable (x.1.getD i []) level = true
  bar : bare level (x.1.getD i []) = x.1.getD i []
  len : 1 ≤ (x.1.getD i []).length
  fits : 6 + wt level (x.1.getD i []) ≤ 496
  big : (2 ≤ x.1.length ∨ 166 ≤ 6 + wt level l) → 166 ≤ 6 + wt level (x.1.getD i [])
  is : x.1.getD i [] = bare level ((l.drop (atP x.1 i)).take (x.1.getD i []).length)
theorem atP_le (p : List (List S77)) (i j : Nat) (h : i ≤ j) (hj : j ≤ p.length) : atP p i ≤ atP p j := by
  induction j with
  | zero => rw [show i = 0 by omega]; exact Nat.le_refl _
  | succ j ih =>
    by_cases e : i = j + 1
    · rw [e]; exact Nat.le_refl _
    · have := ih (by omega) (by omega)
      rw [atP_succ p j (by omega)]
      omega
theorem getD_left (p q : List (List S77)) (i : Nat) (h : i < p.length) : (p ++ q).getD i [] = p.getD i [] := by simp [List.getD, List.getElem?_append, h]
theorem getD_right (p q : List (List S77)) (i : Nat) : (p ++ q).getD (p.length + i) [] = q.getD i [] := by
  rw [List.getD, List.getD, List.getElem?_append_right (by omega), Nat.add_sub_cancel_left]
theorem packO_parts (level : Int) : ∀ (f : Nat) (l : List S77) (x : List (List S77) × List ByteArray), 1 ≤ l.length → packable l level = true → bare level l = l → packO f l level = some x →
    ∀ i, i < x.1.length → PartOk l level x i := by
  intro f
  induction f with
  | zero => intro l x _ _ _ h; cases h
  | succ f ih =>
    intro l x hl hp hbr h
    rw [packO, hbr] at h
    split at h
    · rename_i hfit
      cases h
      intro i hi
      have hi0 : i = 0 := by simpa using hi
      subst hi0
      exact ⟨hp, hbr, hl, hfit, fun hh => by rcases hh with hh | hh <;> first | exact hh | (simp at hh), by show l = bare level ((l.drop (atP [l] 0)).take l.length); simp [atP, hbr]⟩
    rename_i hnf
    split at h
    · cases h
    obtain ⟨_, hb1, hb2⟩ := bestN_spec l level (by omega)
    obtain ⟨cb1, cb2⟩ := cut_big hp (by rw [hbr]; omega) (by omega)
    rw [hbr] at cb1 cb2
    have hpt := packable_take (i := bestN l level) (by omega) hp
    have hpd := packable_drop hb1 (by omega) hp
    generalize bestN l level = b at h hb1 hb2 cb1 cb2 hpt hpd
    obtain ⟨y, hy, h⟩ := Option.bind_eq_some_iff.mp h
    obtain ⟨z, hz, h⟩ := Option.bind_eq_some_iff.mp h
    cases h
    have ly : (l.take b).length = b := by simp; omega
    have lz : (bare level (l.drop b)).length = l.length - b := by rw [bare_length]; simp
    have by_ : bare level (l.take b) = l.take b := by rw [bare_take, hbr]
    have wz : 6 + (wt level l - wt level (l.take b) - keyA l level b) = 6 + wt level (bare level (l.drop b)) := by
      rw [wt_bare _ _ (by simp; omega), getD_drop, Nat.add_zero, keyA]
      have := wt_split level l b
      omega
    rw [wz] at cb2
    have ky := ih _ _ (by omega) hpt by_ hy
    have kz := ih _ _ (by omega) hpd (bare_bare level _) hz
    have sy := (packO_seps level f _ _ (by omega) hy).1
    have sz := (packO_seps level f _ _ (by omega) hz).1
    rw [ly] at sy
    rw [lz] at sz
    intro i hi
    have hi' : i < y.1.length + z.1.length := by simpa using hi
    by_cases c1 : i < y.1.length
    · obtain ⟨p1, p2, p3, p4, p5, p6⟩ := ky i c1
      have e : (y.1 ++ z.1, y.2 ++ [sepF l level b] ++ z.2).1.getD i [] = y.1.getD i [] := getD_left _ _ _ c1
      have ea : atP (y.1 ++ z.1, y.2 ++ [sepF l level b] ++ z.2).1 i = atP y.1 i := atP_left _ _ _ (by omega)
      refine ⟨by rw [e]; exact p1, by rw [e]; exact p2, by rw [e]; exact p3, by rw [e]; exact p4, fun _ => by rw [e]; exact p5 (Or.inr cb1), ?_⟩
      rw [e, ea]
      have hs := atP_succ y.1 i c1
      have hle := atP_le y.1 (i + 1) y.1.length (by omega) (Nat.le_refl _)
      rw [p6]
      have hn : (bare level (((l.take b).drop (atP y.1 i)).take (y.1.getD i []).length)).length = (y.1.getD i []).length := by rw [← p6]
      rw [hn, List.drop_take, List.take_take, Nat.min_eq_left (by omega)]
    · obtain ⟨j, rfl⟩ : ∃ j, i = y.1.length + j := ⟨i - y.1.length, by omega⟩
      obtain ⟨p1, p2, p3, p4, p5, p6⟩ := kz j (by omega)
      have e : (y.1 ++ z.1, y.2 ++ [sepF l level b] ++ z.2).1.getD (y.1.length + j) [] = z.1.getD j [] := getD_right _ _ _
      have ea : atP (y.1 ++ z.1, y.2 ++ [sepF l level b] ++ z.2).1 (y.1.length + j) = b + atP z.1 j := by rw [← sy]; exact atP_right _ _ _
      refine ⟨by rw [e]; exact p1, by rw [e]; exact p2, by rw [e]; exact p3, by rw [e]; exact p4, fun _ => by rw [e]; exact p5 (Or.inr cb2), ?_⟩
      rw [e, ea]
      have hn : (bare level (((bare level (l.drop b)).drop (atP z.1 j)).take (z.1.getD j []).length)).length = (z.1.getD j []).length := by rw [← p6]
      conv => lhs; rw [p6]
      by_cases h0 : atP z.1 j = 0
      · rw [h0, List.drop_zero, Nat.add_zero, ← bare_take, bare_bare]
      · rw [bare_drop level _ _ (by omega), List.drop_drop]
theorem wt_single (level : Int) (p : List S77) (h : p.length = 1) : wt level p = (weighI (p.getD 0 z77) level).1 := by
  cases p with
  | nil => simp at h
  | cons y r =>
    cases r with
    | nil => show (weighI y level).1 + 0 = (weighI y level).1; omega
    | cons a b => simp at h
/-- two neighbours with the key between them -/
def combL (a b : List S77) (sep : ByteArray) (level : Int) : List S77 := if level > 0 ∧ 0 < a.length ∧ 0 < b.length then (a ++ b).set a.length (setKey ((a ++ b).getD a.length z77) sep) else a ++ b
end Go.Proofs.Ytalncokpbgbccaa.E

/- Combine: two lists of entries, one behind the other, with the key between them. -/
namespace Go.Proofs.Ytalncokpbgbccaa.E
set_option linter.unusedVariables false
set_option linter.unusedSimpArgs false
open Go.RowKit Go.Proofs.YtalncokpbgbccaaW.PrintWords Go.Proofs.YtalncokpbgbccaaW.PrintLast Go.Proofs.YtalncokpbgbccaaW.PrintMore
set_option maxRecDepth 100000 in
set_option maxHeartbeats 8000000 in
theorem combine_c (a b : List S77) (A B : Option Addr) (c d : Nat) (sep : ByteArray) (level : Int) (w : World) (ha : Kd.C k77 w A a.length a) (hca : a.length ≤ c) (hb : Kd.C k77 w B b.length b) (hcb : b.length ≤ d) (hla : a.length ≤ 100000) (hlb : b.length ≤ 100000) :
    Calls Try.prog 48 #[.slice A a.length c, .slice B b.length d, .string sep, .int .i64 level] w fun e w' => ∃ v, e = .returned v ∧ Ow w' w.heap.size v (combL a b sep level) ∧ Below w.heap.size w w' := by
  obtain ⟨RL, hRL⟩ : ∃ RL, a ++ b = RL := ⟨_, rfl⟩
  have hlr : RL.length = a.length + b.length := by rw [← hRL, List.length_append]
  have HCAT := Aside0.mk (fun (W : World) (g : Nat) (hW : Below w.heap.size w W) (hg : W.heap[g]? = some (.cells #[.slice A a.length c, .slice B b.length d] 22 (0, 0))) => (show Calls Try.prog 69 #[.slice (some ⟨g, 0, none⟩) 2 2] W fun e w2 => ∃ v, e = .returned v ∧ Ow w2 W.heap.size v RL ∧ Below W.heap.size W w2 from by
    have hC : kN.C W (some ⟨g, 0, none⟩) 2 [a, b] := C_rows (cells := [.slice A a.length c, .slice B b.length d]) [a, b] hg (by simp) (by
      intro j x hx
      match j, hx with
      | 0, hx =>
        simp only [List.getElem?_cons_zero, Option.some.injEq] at hx
        subst hx
        exact ⟨A, c, rfl, hca, Kd.C_below ha hW⟩
      | 1, hx =>
        simp only [List.getElem?_cons_succ, List.getElem?_cons_zero, Option.some.injEq] at hx
        subst hx
        exact ⟨B, d, rfl, hcb, Kd.C_below hb hW⟩
      | j + 2, hx => simp at hx)
    have := concat_c [a, b] (some ⟨g, 0, none⟩) 2 W hC (by simp) (by intro x hx; simp at hx; rcases hx with rfl | rfl <;> omega)
    rw [show [a, b].flatten = RL by simp [hRL]] at this
    exact this))
  have HRL := Aside0.mk hRL
  have HLL := Aside0.mk (show a.length ≤ 100000 ∧ b.length ≤ 100000 from ⟨hla, hlb⟩)
  have HLEN := Aside0.mk hlr
  clear ha hca hb hcb hla hlb hRL hlr
  by_cases g0 : level > 0
  · have d11 : decide (level > 0) = true := decide_eq_true (by omega)
    have d12 : decide (0 < level) = true := decide_eq_true (by omega)
    by_cases g1 : 0 < a.length
    · have d13 : decide ((a.length : Int) > 0) = true := decide_eq_true (by omega)
      have d14 : decide (0 < (a.length : Int)) = true := decide_eq_true (by omega)
      have d15 : decide (0 < a.length) = true := decide_eq_true (by omega)
      by_cases g2 : 0 < b.length
      · have d8 : decide ((b.length : Int) > 0) = true := decide_eq_true (by omega)
        have d9 : decide (0 < (b.length : Int)) = true := decide_eq_true (by omega)
        have d10 : decide (0 < b.length) = true := decide_eq_true (by omega)
        have HLR := Aside0.mk (show a.length < RL.length by have := HLEN.out; omega)
        rw [show combL a b sep level = RL.set a.length (setKey (RL.getD a.length z77) sep) from by unfold combL; rw [if_pos ⟨g0, g1, g2⟩, HRL.out]]
        have m1 : (a.length : Int) < (RL.length : Int) := by have := HLR.out; omega
        have m2 : a.length < RL.length := HLR.out
        have m3 : (0 : Int) ≤ (a.length : Int) := by omega
        clear g0 g1 g2
        go_enter Try.func48, Try.ntmps48
        go_wp2_with (first | ((go_at_call 69); (with_reducible refine (HCAT.out _ _ ?hb ?hg).mono ?_); (case hb => exact below_alloc (Below.refl _ _) _); (case hg => exact blk_new _ _); rintro e w2 ⟨v, rfl, ho, hb⟩; have HB := Aside0.mk (below_tr2 (w := w) (below_alloc (Below.refl _ _) _) hb); have HO := Aside0.mk (show Ow w2 w.heap.size v RL from Kd.R_lower ho (below_alloc (Below.refl _ _) _).size); clear ho hb; obtain ⟨Ao, co, rfl⟩ := Kd.R_slice HO.out; obtain ⟨go, c9, hv, hg1, hg2⟩ := ow_addr HO.out (Nat.lt_of_le_of_lt (Nat.zero_le _) HLR.out); obtain ⟨rfl, rfl⟩ : Ao = some ⟨go, 0, none⟩ ∧ co = c9 := (by injection hv with h1 _ h3; exact ⟨h1, h3⟩); have hk := ow_key HO.out a.length HLR.out sep; obtain ⟨hk1, hk2, hk3⟩ := hk; have HO8 := Aside0.mk hk3; have HG1 := Aside0.mk hg1; clear hk3 hv hg1 hg2))
        go_ret
        exact ⟨_, rfl, HO8.out, HB.out.setCell (p := ⟨go, a.length * 22, none⟩) HG1.out _⟩
      · have d5 : decide ((b.length : Int) > 0) = false := decide_eq_false (by omega)
        have d6 : decide (0 < (b.length : Int)) = false := decide_eq_false (by omega)
        have d7 : decide (0 < b.length) = false := decide_eq_false (by omega)
        rw [show combL a b sep level = RL from by unfold combL; rw [if_neg (fun h => g2 h.2.2)]; exact HRL.out]
        clear g0 g1 g2
        go_enter Try.func48, Try.ntmps48
        go_wp2_with (first | ((go_at_call 69); (with_reducible refine (HCAT.out _ _ ?hb ?hg).mono ?_); (case hb => exact below_alloc (Below.refl _ _) _); (case hg => exact blk_new _ _); rintro e w2 ⟨v, rfl, ho, hb⟩; have HB := Aside0.mk (below_tr2 (w := w) (below_alloc (Below.refl _ _) _) hb); have HO := Aside0.mk (show Ow w2 w.heap.size v RL from Kd.R_lower ho (below_alloc (Below.refl _ _) _).size); clear ho hb; obtain ⟨Ao, co, rfl⟩ := Kd.R_slice HO.out; skip))
        go_ret
        exact ⟨_, rfl, HO.out, HB.out⟩
    · have d2 : decide ((a.length : Int) > 0) = false := decide_eq_false (by omega)
      have d3 : decide (0 < (a.length : Int)) = false := decide_eq_false (by omega)
      have d4 : decide (0 < a.length) = false := decide_eq_false (by omega)
      rw [show combL a b sep level = RL from by unfold combL; rw [if_neg (fun h => g1 h.2.1)]; exact HRL.out]
      clear g0 g1
      go_enter Try.func48, Try.ntmps48
      go_wp2_with (first | ((go_at_call 69); (with_reducible refine (HCAT.out _ _ ?hb ?hg).mono ?_); (case hb => exact below_alloc (Below.refl _ _) _); (case hg => exact blk_new _ _); rintro e w2 ⟨v, rfl, ho, hb⟩; have HB := Aside0.mk (below_tr2 (w := w) (below_alloc (Below.refl _ _) _) hb); have HO := Aside0.mk (show Ow w2 w.heap.size v RL from Kd.R_lower ho (below_alloc (Below.refl _ _) _).size); clear ho hb; obtain ⟨Ao, co, rfl⟩ := Kd.R_slice HO.out; skip))
      go_ret
      exact ⟨_, rfl, HO.out, HB.out⟩
  · have d0 : decide (level > 0) = false := decide_eq_false (by omega)
    have d1 : decide (0 < level) = false := decide_eq_false (by omega)
    rw [show combL a b sep level = RL from by unfold combL; rw [if_neg (fun h => g0 h.1)]; exact HRL.out]
    clear g0
    go_enter Try.func48, Try.ntmps48
    go_wp2_with (first | ((go_at_call 69); (with_reducible refine (HCAT.out _ _ ?hb ?hg).mono ?_); (case hb => exact below_alloc (Below.refl _ _) _); (case hg => exact blk_new _ _); rintro e w2 ⟨v, rfl, ho, hb⟩; have HB := Aside0.mk (below_tr2 (w := w) (below_alloc (Below.refl _ _) _) hb); have HO := Aside0.mk (show Ow w2 w.heap.size v RL from Kd.R_lower ho (below_alloc (Below.refl _ _) _).size); clear ho hb; obtain ⟨Ao, co, rfl⟩ := Kd.R_slice HO.out; skip))
    go_ret
    exact ⟨_, rfl, HO.out, HB.out⟩
end Go.Proofs.Ytalncokpbgbccaa.E

