-- A slim copy of SP, SR, written by wip/tools/prune2.py.
import Derived.Test.YtalncokpbgbccaaKPO
import Derived.Test.YtalncokpbgbccaaKRV
import Derived.Test.YtalncokpbgbccaaUMh
import Derived.Test.YtalncokpbgbccaaURh
/- What Pack answers: it divides whatever is right, and each separator is the one of its place. -/
namespace Go.Proofs.Ytalncokpbgbccaa.E
set_option linter.unusedVariables false
set_option linter.unusedSimpArgs false
open Go.RowKit Go.Proofs.YtalncokpbgbccaaW.PrintWords Go.Proofs.YtalncokpbgbccaaW.PrintLast Go.Proofs.YtalncokpbgbccaaW.PrintMore
/-- whether the entries of a list are valid for a level, but for their weight -/
def rightB (l : List S77) (level : Int) : Bool := ordL l level && (((decide (level = 0) && decide (0 < l.length)) || (decide (0 < level) && decide (1 < l.length))) && validL l level)
theorem form_short {x : S77} (h : formI x = 1) : x.f0.size ≤ 48 ∧ x.f1.size ≤ 64 := by
  unfold formI at h
  split at h
  · cases h
  · rename_i h0
    have hk : x.f0.size ≤ 48 := by unfold inB at h0; simp at h0; omega
    refine ⟨hk, ?_⟩
    cases hs : shortB x with
    | true => unfold shortB at hs; simp at hs; omega
    | false =>
      rw [hs] at h
      exfalso
      revert h
      repeat' split
      all_goals simp_all
theorem form_key {x : S77} (h : formI x ≠ 0) : x.f0.size ≤ 48 := by
  unfold formI at h
  split at h
  · exact absurd rfl h
  · rename_i h0
    unfold inB at h0; simp at h0; omega
/-- a valid entry fits into a node by itself -/
theorem okB_small {x : S77} {level : Int} (h : okB level x = true) : (weighI x level).1 ≤ 117 := by
  unfold okB weighI at *
  split
  · rename_i hl
    rw [if_pos hl] at h
    have h2 : brB x = true := h
    unfold brB at h2
    simp only [Bool.and_eq_true, decide_eq_true_eq] at h2
    show (x.f0.size : Int) + 27 ≤ 117
    have := h2.1
    omega
  · rename_i hl
    rw [if_neg hl] at h
    split
    · rename_i h1
      have := form_short h1
      show (x.f0.size : Int) + (x.f1.size : Int) + 5 ≤ 117
      omega
    · rename_i h1
      rw [if_neg h1] at h
      split
      · rename_i h2
        have := form_key (x := x) (by omega)
        show (x.f0.size : Int) + 27 ≤ 117
        omega
      · rename_i h2
        rw [if_neg h2] at h
        split
        · rename_i h3
          have := form_key (x := x) (by omega)
          show (x.f0.size : Int) + 29 ≤ 117
          omega
        · show (0 : Int) ≤ 117
          omega
theorem valid_okB {l : List S77} {level : Int} (hv : validL l level = true) : l.all (okB level) = true := by
  unfold validL at hv
  simp only [Bool.and_eq_true] at hv
  have h0 : 0 ≤ level := by have := hv.1; unfold inB at this; simp at this; omega
  have hall := hv.2.2.2
  rw [List.all_eq_true]
  intro x hx
  obtain ⟨j, hj, rfl⟩ := List.getElem_of_mem hx
  have h1 : vAt l level j = true := List.all_eq_true.1 hall j (by simpa using hj)
  have e : l.getD j z77 = l[j] := by simp [hj]
  unfold vAt at h1
  rw [e, Bool.and_eq_true] at h1
  have h2 := h1.1
  unfold okB weighI
  by_cases hz : level = 0
  · subst hz
    rw [if_pos rfl] at h2
    rw [if_neg (by omega)]
    have h3 : formI l[j] ≠ 0 := by simpa using h2
    rcases form_cases l[j] with h | h | h | h
    · exact absurd h h3
    · rw [if_pos h]
    · rw [if_neg (by omega), if_pos h]
    · rw [if_neg (by omega), if_neg (by omega), if_pos h]
  · rw [if_neg hz, Bool.and_eq_true] at h2
    rw [if_pos (by omega)]
    exact h2.1
theorem wt_one {l : List S77} {level : Int} (h : (bare level l).all (okB level) = true) (h1 : l.length ≤ 1) : 6 + wt level (bare level l) ≤ 496 := by
  have hb := bare_length level l
  generalize bare level l = m at h hb
  match m, h, hb with
  | [], _, _ => simp [wt]
  | [x], h, _ =>
    have := okB_small (level := level) (x := x) (by simpa using h)
    simp [wt]; omega
  | _ :: _ :: _, _, hb => simp at hb; omega
theorem packO_some (level : Int) : ∀ (f : Nat) (l : List S77), l.length < f → packable l level = true → ∃ x, packO f l level = some x := by
  intro f
  induction f with
  | zero => intro l h; omega
  | succ f ih =>
    intro l hl hp
    rw [packO]
    by_cases h1 : 6 + wt level (bare level l) ≤ 496
    · exact ⟨_, if_pos h1⟩
    rw [if_neg h1]
    by_cases h2 : l.length ≤ 1
    · exact absurd (wt_one ((packable_iff l level).mp hp).2.2 h2) h1
    rw [if_neg h2]
    obtain ⟨_, hb1, hb2⟩ := bestN_spec l level (by omega)
    obtain ⟨y, hy⟩ := ih (l.take (bestN l level)) (by simp; omega) (packable_take (by omega) hp)
    obtain ⟨z, hz⟩ := ih (bare level (l.drop (bestN l level))) (by rw [bare_length]; simp; omega) (packable_drop hb1 (by omega) hp)
    exact ⟨_, by rw [hy, Option.bind_some, hz, Option.bind_some]⟩
/-- how many entries lie in the first parts -/
def atP (p : List (List S77)) (i : Nat) : Nat := ((p.take i).map List.length).sum
theorem atP_succ (p : List (List S77)) (i : Nat) (h : i < p.length) : atP p (i + 1) = atP p i + (p.getD i []).length := by
  unfold atP
  rw [List.take_succ_eq_append_getElem h, List.map_append, List.sum_append]
  simp [List.getD, h]
theorem atP_left (p q : List (List S77)) (i : Nat) (h : i ≤ p.length) : atP (p ++ q) i = atP p i := by
  unfold atP
  rw [List.take_append_of_le_length h]
theorem atP_right (p q : List (List S77)) (i : Nat) : atP (p ++ q) (p.length + i) = atP p p.length + atP q i := by
  unfold atP
  rw [List.take_append, List.take_of_length_le (by omega), Nat.add_sub_cancel_left, List.map_append, List.sum_append, List.take_length]
theorem take_getD (l : List S77) (b k : Nat) (h : k < b) : (l.take b).getD k z77 = l.getD k z77 := by simp [List.getD, List.getElem?_take, h]
theorem sepF_take (l : List S77) (level : Int) (b k : Nat) (h : k < b) : sepF (l.take b) level k = sepF l level k := by
  unfold sepF
  rw [take_getD l b k h, take_getD l b (k - 1) (by omega)]
theorem sepF_drop (l : List S77) (level : Int) (b k : Nat) (h : 1 ≤ k) : sepF (bare level (l.drop b)) level k = sepF l level (b + k) := by
  unfold sepF
  by_cases hl : level > 0
  · rw [if_pos hl, if_pos hl, bare_getD level _ k h, getD_drop]
  · rw [if_neg hl, if_neg hl, bare_no level _ (fun e => hl e.1), getD_drop, getD_drop, show b + (k - 1) = b + k - 1 by omega]
theorem packO_seps (level : Int) : ∀ (f : Nat) (l : List S77) (x : List (List S77) × List ByteArray), 1 ≤ l.length → packO f l level = some x →
    atP x.1 x.1.length = l.length ∧ ∀ i, i < x.2.length → 1 ≤ atP x.1 (i + 1) ∧ atP x.1 (i + 1) < l.length ∧ x.2.getD i ByteArray.empty = sepF l level (atP x.1 (i + 1)) := by
  intro f
  induction f with
  | zero => intro l x _ h; cases h
  | succ f ih =>
    intro l x hl h
    rw [packO] at h
    split at h
    · cases h
      exact ⟨by simp [atP], fun i hi => by simp at hi⟩
    split at h
    · cases h
    obtain ⟨_, hb1, hb2⟩ := bestN_spec l level (by omega)
    generalize bestN l level = b at h hb1 hb2
    obtain ⟨y, hy, h⟩ := Option.bind_eq_some_iff.mp h
    obtain ⟨z, hz, h⟩ := Option.bind_eq_some_iff.mp h
    cases h
    have ly : (l.take b).length = b := by simp; omega
    have lz : (bare level (l.drop b)).length = l.length - b := by rw [bare_length]; simp
    obtain ⟨k1, k2⟩ := ih _ _ (by omega) hy
    obtain ⟨m1, m2⟩ := ih _ _ (by omega) hz
    have e1 := (packO_len f _ level _ (by omega) hy).2
    have e2 := (packO_len f _ level _ (by omega) hz).2
    rw [ly] at k1 k2
    rw [lz] at m1 m2
    refine ⟨?_, fun i hi => ?_⟩
    · show atP (y.1 ++ z.1) (y.1 ++ z.1).length = l.length
      rw [List.length_append, atP_right, k1, m1]; omega
    · have hi' : i < y.2.length + 1 + z.2.length := by have := hi; simp at this; omega
      show 1 ≤ atP (y.1 ++ z.1) (i + 1) ∧ atP (y.1 ++ z.1) (i + 1) < l.length ∧ (y.2 ++ [sepF l level b] ++ z.2).getD i ByteArray.empty = sepF l level (atP (y.1 ++ z.1) (i + 1))
      by_cases c1 : i < y.2.length
      · obtain ⟨g1, g2, g3⟩ := k2 i c1
        rw [atP_left _ _ _ (by omega)]
        refine ⟨g1, by omega, ?_⟩
        rw [← sepF_take l level b _ g2, ← g3]
        simp [List.getD, List.getElem?_append, c1, show i < y.2.length + 1 by omega]
      · by_cases c2 : i = y.2.length
        · subst c2
          rw [show y.2.length + 1 = y.1.length + 0 by omega, atP_right, k1]
          have : atP z.1 0 = 0 := by simp [atP]
          rw [this]
          refine ⟨by omega, by omega, ?_⟩
          simp [List.getD, List.getElem?_append]
        · obtain ⟨j, rfl⟩ : ∃ j, i = y.2.length + 1 + j := ⟨i - (y.2.length + 1), by omega⟩
          obtain ⟨g1, g2, g3⟩ := m2 j (by omega)
          rw [show y.2.length + 1 + j + 1 = y.1.length + (j + 1) by omega, atP_right, k1]
          refine ⟨by omega, by omega, ?_⟩
          rw [← sepF_drop l level b _ g1, ← g3]
          have hlen : (y.2 ++ [sepF l level b]).length = y.2.length + 1 := by simp
          rw [List.getD, List.getD, List.getElem?_append_right (by rw [hlen]; omega), hlen, show y.2.length + 1 + j - (y.2.length + 1) = j by omega]
end Go.Proofs.Ytalncokpbgbccaa.E

/- right: the law's own test. -/
namespace Go.Proofs.Ytalncokpbgbccaa.E
set_option linter.unusedVariables false
set_option linter.unusedSimpArgs false
open Go.RowKit Go.Proofs.YtalncokpbgbccaaW.PrintWords Go.Proofs.YtalncokpbgbccaaW.PrintLast Go.Proofs.YtalncokpbgbccaaW.PrintMore
set_option maxRecDepth 100000 in
set_option maxHeartbeats 4000000 in
theorem right_1 (l : List S77) (A : Option Addr) (c : Nat) (level : Int) (w : World) (H16 : Aside0 (Say w 16 #[.slice A l.length c, .int .i64 level] (.bool false))) :
    Calls Try.prog 46 #[.slice A l.length c, .int .i64 level] w fun e w' => e = .returned (.bool false) ∧ Below w.heap.size w w' := by
  go_enter Try.func46, Try.ntmps46
  go_wp2_with (first
    | ((go_at_call 16); (with_reducible refine (H16.out _ (by repeat (first | exact HB.out | exact Below.refl _ _ | apply below_alloc | apply pw_below_drewN | apply below_drew1))).mono ?_); rintro e w9 ⟨rfl, hbl⟩; have HBn := Aside0.mk (below_tr2 (w := w) (by repeat (first | exact HB.out | exact Below.refl _ _ | apply below_alloc | apply pw_below_drewN | apply below_drew1)) hbl); (try clear HB); have HB := HBn; clear HBn hbl)
    )
  go_ret
  exact ⟨rfl, HB.out⟩
set_option maxRecDepth 100000 in
set_option maxHeartbeats 4000000 in
theorem right_2 (l : List S77) (A : Option Addr) (c : Nat) (level : Int) (w : World) (H16 : Aside0 (Say w 16 #[.slice A l.length c, .int .i64 level] (.bool true))) (h0 : level = 0) (hn : l.length = 0) :
    Calls Try.prog 46 #[.slice A l.length c, .int .i64 level] w fun e w' => e = .returned (.bool false) ∧ Below w.heap.size w w' := by
  have k4 : (level == 0) = true := beq_iff_eq.mpr (by omega)
  have d0 : decide (0 < level) = false := decide_eq_false (by omega)
  have d1 : decide (level > 0) = false := decide_eq_false (by omega)
  have d2 : decide (0 < (l.length : Int)) = false := decide_eq_false (by omega)
  have d3 : decide ((l.length : Int) > 0) = false := decide_eq_false (by omega)
  have d4 : decide (0 < l.length) = false := decide_eq_false (by omega)
  clear h0 hn
  go_enter Try.func46, Try.ntmps46
  go_wp2_with (first
    | ((go_at_call 16); (with_reducible refine (H16.out _ (by repeat (first | exact HB.out | exact Below.refl _ _ | apply below_alloc | apply pw_below_drewN | apply below_drew1))).mono ?_); rintro e w9 ⟨rfl, hbl⟩; have HBn := Aside0.mk (below_tr2 (w := w) (by repeat (first | exact HB.out | exact Below.refl _ _ | apply below_alloc | apply pw_below_drewN | apply below_drew1)) hbl); (try clear HB); have HB := HBn; clear HBn hbl)
    )
  go_ret
  exact ⟨rfl, HB.out⟩
set_option maxRecDepth 100000 in
set_option maxHeartbeats 4000000 in
theorem right_3 (l : List S77) (A : Option Addr) (c : Nat) (level : Int) (w : World) (H16 : Aside0 (Say w 16 #[.slice A l.length c, .int .i64 level] (.bool true))) (h0 : 0 < level) (hn : ¬ 1 < l.length) :
    Calls Try.prog 46 #[.slice A l.length c, .int .i64 level] w fun e w' => e = .returned (.bool false) ∧ Below w.heap.size w w' := by
  have k4 : (level == 0) = false := beq_eq_false_iff_ne.mpr (by omega)
  have d5 : decide (0 < level) = true := decide_eq_true (by omega)
  have d6 : decide (level > 0) = true := decide_eq_true (by omega)
  have d7 : decide (1 < (l.length : Int)) = false := decide_eq_false (by omega)
  have d8 : decide ((l.length : Int) > 1) = false := decide_eq_false (by omega)
  have d9 : decide (1 < l.length) = false := decide_eq_false (by omega)
  clear h0 hn
  go_enter Try.func46, Try.ntmps46
  go_wp2_with (first
    | ((go_at_call 16); (with_reducible refine (H16.out _ (by repeat (first | exact HB.out | exact Below.refl _ _ | apply below_alloc | apply pw_below_drewN | apply below_drew1))).mono ?_); rintro e w9 ⟨rfl, hbl⟩; have HBn := Aside0.mk (below_tr2 (w := w) (by repeat (first | exact HB.out | exact Below.refl _ _ | apply below_alloc | apply pw_below_drewN | apply below_drew1)) hbl); (try clear HB); have HB := HBn; clear HBn hbl)
    )
  go_ret
  exact ⟨rfl, HB.out⟩
set_option maxRecDepth 100000 in
set_option maxHeartbeats 4000000 in
theorem right_4 (l : List S77) (A : Option Addr) (c : Nat) (level : Int) (w : World) (H16 : Aside0 (Say w 16 #[.slice A l.length c, .int .i64 level] (.bool true))) (v : Bool) (H81 : Aside0 (Say w 81 #[.slice A l.length c, .int .i64 level] (.bool v))) (h0 : level = 0) (hn : 0 < l.length) :
    Calls Try.prog 46 #[.slice A l.length c, .int .i64 level] w fun e w' => e = .returned (.bool v) ∧ Below w.heap.size w w' := by
  have k4 : (level == 0) = true := beq_iff_eq.mpr (by omega)
  have d10 : decide (0 < level) = false := decide_eq_false (by omega)
  have d11 : decide (level > 0) = false := decide_eq_false (by omega)
  have d12 : decide (0 < (l.length : Int)) = true := decide_eq_true (by omega)
  have d13 : decide ((l.length : Int) > 0) = true := decide_eq_true (by omega)
  have d14 : decide (0 < l.length) = true := decide_eq_true (by omega)
  clear h0 hn
  go_enter Try.func46, Try.ntmps46
  go_wp2_with (first
    | ((go_at_call 16); (with_reducible refine (H16.out _ (by repeat (first | exact HB.out | exact Below.refl _ _ | apply below_alloc | apply pw_below_drewN | apply below_drew1))).mono ?_); rintro e w9 ⟨rfl, hbl⟩; have HBn := Aside0.mk (below_tr2 (w := w) (by repeat (first | exact HB.out | exact Below.refl _ _ | apply below_alloc | apply pw_below_drewN | apply below_drew1)) hbl); (try clear HB); have HB := HBn; clear HBn hbl)
    | ((go_at_call 81); (with_reducible refine (H81.out _ (by repeat (first | exact HB.out | exact Below.refl _ _ | apply below_alloc | apply pw_below_drewN | apply below_drew1))).mono ?_); rintro e w9 ⟨rfl, hbl⟩; have HBn := Aside0.mk (below_tr2 (w := w) (by repeat (first | exact HB.out | exact Below.refl _ _ | apply below_alloc | apply pw_below_drewN | apply below_drew1)) hbl); (try clear HB); have HB := HBn; clear HBn hbl)
    )
  go_ret
  exact ⟨rfl, HB.out⟩
set_option maxRecDepth 100000 in
set_option maxHeartbeats 4000000 in
theorem right_5 (l : List S77) (A : Option Addr) (c : Nat) (level : Int) (w : World) (H16 : Aside0 (Say w 16 #[.slice A l.length c, .int .i64 level] (.bool true))) (v : Bool) (H81 : Aside0 (Say w 81 #[.slice A l.length c, .int .i64 level] (.bool v))) (h0 : 0 < level) (hn : 1 < l.length) :
    Calls Try.prog 46 #[.slice A l.length c, .int .i64 level] w fun e w' => e = .returned (.bool v) ∧ Below w.heap.size w w' := by
  have k4 : (level == 0) = false := beq_eq_false_iff_ne.mpr (by omega)
  have d15 : decide (0 < level) = true := decide_eq_true (by omega)
  have d16 : decide (level > 0) = true := decide_eq_true (by omega)
  have d17 : decide (1 < (l.length : Int)) = true := decide_eq_true (by omega)
  have d18 : decide ((l.length : Int) > 1) = true := decide_eq_true (by omega)
  have d19 : decide (1 < l.length) = true := decide_eq_true (by omega)
  clear h0 hn
  go_enter Try.func46, Try.ntmps46
  go_wp2_with (first
    | ((go_at_call 16); (with_reducible refine (H16.out _ (by repeat (first | exact HB.out | exact Below.refl _ _ | apply below_alloc | apply pw_below_drewN | apply below_drew1))).mono ?_); rintro e w9 ⟨rfl, hbl⟩; have HBn := Aside0.mk (below_tr2 (w := w) (by repeat (first | exact HB.out | exact Below.refl _ _ | apply below_alloc | apply pw_below_drewN | apply below_drew1)) hbl); (try clear HB); have HB := HBn; clear HBn hbl)
    | ((go_at_call 81); (with_reducible refine (H81.out _ (by repeat (first | exact HB.out | exact Below.refl _ _ | apply below_alloc | apply pw_below_drewN | apply below_drew1))).mono ?_); rintro e w9 ⟨rfl, hbl⟩; have HBn := Aside0.mk (below_tr2 (w := w) (by repeat (first | exact HB.out | exact Below.refl _ _ | apply below_alloc | apply pw_below_drewN | apply below_drew1)) hbl); (try clear HB); have HB := HBn; clear HBn hbl)
    )
  go_ret
  exact ⟨rfl, HB.out⟩
theorem right_c (l : List S77) (A : Option Addr) (c : Nat) (level : Int) (w : World) (hr : Kd.C k77 w A l.length l) (hc : l.length ≤ c) (hl : l.length ≤ 100) :
    Calls Try.prog 46 #[.slice A l.length c, .int .i64 level] w fun e w' => e = .returned (.bool (rightB l level)) ∧ Below w.heap.size w w' := by
  obtain ⟨k0, e0⟩ := ordered_eq l level hl
  have H16 := Aside0.mk (say_drawn (w := w) fun w1 b => understoryref06_Ordered.calls k0 A c l level _ w1 (Kd.C_below hr b) hc e0)
  have H81 := Aside0.mk (show Say w 81 #[.slice A l.length c, .int .i64 level] _ from fun w1 b => rvalid_c l A c level w1 (Kd.C_below hr b) (by omega))
  unfold rightB
  cases ho : ordL l level with
  | false => rw [ho] at H16; exact right_1 l A c level w H16
  | true =>
    rw [ho] at H16
    have hlv : 0 ≤ level := by
      have := ord_level ho
      unfold inB at this; simp at this; omega
    rw [Bool.true_and]
    by_cases h0 : level = 0
    · by_cases hn : l.length = 0
      · rw [decide_eq_false (show ¬ 0 < l.length by omega), decide_eq_false (show ¬ 0 < level by omega)]
        simpa using right_2 l A c level w H16 h0 hn
      · rw [decide_eq_true h0, decide_eq_true (show 0 < l.length by omega)]
        simpa using right_4 l A c level w H16 _ H81 h0 (by omega)
    · by_cases hn : 1 < l.length
      · rw [decide_eq_true (show 0 < level by omega), decide_eq_true hn, Bool.true_and, Bool.or_true, Bool.true_and]
        exact right_5 l A c level w H16 _ H81 (by omega) hn
      · rw [decide_eq_false h0, decide_eq_false hn]
        simpa using right_3 l A c level w H16 (by omega) hn
end Go.Proofs.Ytalncokpbgbccaa.E

