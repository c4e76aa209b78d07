-- A slim copy of PO, SR, SW, OI, written by wip/tools/prune.py.
import Derived.Test.YtalncokpbgbccaaVSA
import Derived.Test.YtalncokpbgbccaaVRe
import Derived.Test.YtalncokpbgbccaaVNx0
import Derived.Deep.Slices
import Derived.Deep.Fields
import Derived.ChangeSame
import Derived.OpenShut
/- NodeOrders: plain laws, the walk, and the join: it returns true. -/
namespace Go.Proofs.Ytalncokpbgbccaa.E
set_option linter.unusedVariables false
set_option linter.unusedSimpArgs false
open Go.RowKit Go.Proofs.YtalncokpbgbccaaW.PrintWords Go.Proofs.YtalncokpbgbccaaW.PrintLast Go.Proofs.YtalncokpbgbccaaW.PrintMore
theorem ord_go (l : List S77) (level : Int) (hl : l.length ≤ 100) : ∀ m i, i + m = l.length → ∃ k, understoryref06_Ordered.l0 k l level i = some ((List.range' i m).all (okAt l level))
  | 0, i, h => ⟨1, by rw [understoryref06_Ordered.l0, if_neg (by omega)]; rfl⟩
  | m + 1, i, h => by
    obtain ⟨k, hk⟩ := ord_go l level hl m (i + 1) (by omega)
    have e : rd_T77 l i = l.getD i z77 := by simp [rd_T77]
    rw [List.range'_succ, List.all_cons]
    have hF : ∀ (hn : ¬ (level > 0 ∧ i = 0)), ∃ k, understoryref06_Ordered.j1 k l level i (rd_T77 l i).f0 false = some (okAt l level i && (List.range' (i + 1) m).all (okAt l level)) := by
      intro hn
      rw [okAt, if_neg hn, e]
      by_cases h1 : ((l.getD i z77).f0.size : Int) < 1
      · exact ⟨1, by rw [understoryref06_Ordered.j1, if_neg (by decide), if_pos h1, decide_eq_false (by omega)]; rfl⟩
      rw [decide_eq_true (show 1 ≤ (l.getD i z77).f0.size by omega)]
      by_cases h2 : ((l.getD i z77).f0.size : Int) > 48
      · exact ⟨1, by rw [understoryref06_Ordered.j1, if_neg (by decide), if_neg h1, if_pos h2, decide_eq_false (by omega)]; rfl⟩
      rw [decide_eq_true (show (l.getD i z77).f0.size ≤ 48 by omega)]
      by_cases h3 : (i : Int) > 0
      · have hw : wrap64 ((i : Int) - 1) = ((i - 1 : Nat) : Int) := by rw [w64 _ (by omega) (by omega)]; omega
        have e1 : rd_T77 l ((i - 1 : Nat) : Int) = l.getD (i - 1) z77 := by simp [rd_T77]
        rw [decide_eq_false (show ¬ i = 0 by omega)]
        by_cases h4 : Op.bytesLess (l.getD (i - 1) z77).f0.toList (l.getD i z77).f0.toList = true
        · refine ⟨k + 1, ?_⟩
          rw [understoryref06_Ordered.j1, if_neg (by decide), if_neg h1, if_neg h2, if_pos h3, hw, e1, if_pos (by omega), if_pos (by omega), if_pos h4, wsuc i (by omega), hk, h4]; rfl
        · refine ⟨1, ?_⟩
          rw [understoryref06_Ordered.j1, if_neg (by decide), if_neg h1, if_neg h2, if_pos h3, hw, e1, if_pos (by omega), if_pos (by omega), if_neg h4]
          have h5 := h4
          rw [Bool.not_eq_true] at h5
          rw [h5]; rfl
      · refine ⟨k + 1, ?_⟩
        rw [decide_eq_true (show i = 0 by omega), understoryref06_Ordered.j1, if_neg (by decide), if_neg h1, if_neg h2, if_neg h3, wsuc i (by omega), hk]; rfl
    by_cases h0 : (i : Int) = 0
    · by_cases hp : level > 0
      · have hi : i = 0 := by omega
        by_cases h5 : (rd_T77 l i).f0.toList = ([] : List UInt8)
        · refine ⟨k + 2, ?_⟩
          rw [understoryref06_Ordered.l0, if_pos (by omega), if_pos (by omega), if_pos h0, understoryref06_Ordered.j1, if_pos (decide_eq_true hp), if_pos h5, wsuc i (by omega), hk, okAt, if_pos ⟨hp, hi⟩, ← e, h5]
          rfl
        · refine ⟨2, ?_⟩
          rw [understoryref06_Ordered.l0, if_pos (by omega), if_pos (by omega), if_pos h0, understoryref06_Ordered.j1, if_pos (decide_eq_true hp), if_neg h5, okAt, if_pos ⟨hp, hi⟩, ← e]
          cases hq : (rd_T77 l i).f0.toList with
          | nil => exact absurd hq h5
          | cons a b => rfl
      · obtain ⟨k2, hk2⟩ := hF (by omega)
        exact ⟨k2 + 1, by rw [understoryref06_Ordered.l0, if_pos (by omega), if_pos (by omega), if_pos h0, decide_eq_false hp]; exact hk2⟩
    · obtain ⟨k2, hk2⟩ := hF (by omega)
      exact ⟨k2 + 1, by rw [understoryref06_Ordered.l0, if_pos (by omega), if_pos (by omega), if_neg h0]; exact hk2⟩
/-- the reference's Ordered says what the program's says -/
theorem ordered_eq (l : List S77) (level : Int) (hl : l.length ≤ 100) : ∃ k, understoryref06_Ordered.f k l level = some (ordL l level) := by
  obtain ⟨k, hk⟩ := ord_go l level hl _ 0 (Nat.zero_add _)
  rw [← List.range_eq_range'] at hk
  refine ⟨k, ?_⟩
  unfold understoryref06_Ordered.f understoryref06_inLevel.f ordL inB
  by_cases h0 : level ≥ 0
  · rw [if_pos h0, decide_eq_true (show 0 ≤ level from h0)]
    by_cases h1 : level ≤ 20
    · rw [decide_eq_true h1]; simpa using hk
    · rw [decide_eq_false h1]; simp
  · rw [if_neg h0, decide_eq_false (show ¬ 0 ≤ level from h0)]; simp
end Go.Proofs.Ytalncokpbgbccaa.E

/- right: the law's own test. -/
namespace Go.Proofs.Ytalncokpbgbccaa.E
set_option linter.unusedVariables false
set_option linter.unusedSimpArgs false
open Go.RowKit Go.Proofs.YtalncokpbgbccaaW.PrintWords Go.Proofs.YtalncokpbgbccaaW.PrintLast Go.Proofs.YtalncokpbgbccaaW.PrintMore
set_option maxRecDepth 100000 in
set_option maxHeartbeats 4000000 in
theorem right_1 (l : List S77) (A : Option Addr) (c : Nat) (level : Int) (w : World) (H16 : Aside0 (Say w 16 #[.slice A l.length c, .int .i64 level] (.bool false))) :
    Calls Try.prog 46 #[.slice A l.length c, .int .i64 level] w fun e w' => e = .returned (.bool false) ∧ Below w.heap.size w w' := by
  go_enter Try.func46, Try.ntmps46
  go_wp2_with (first
    | ((go_at_call 16); (with_reducible refine (H16.out _ (by repeat (first | exact HB.out | exact Below.refl _ _ | apply below_alloc | apply pw_below_drewN | apply below_drew1))).mono ?_); rintro e w9 ⟨rfl, hbl⟩; have HBn := Aside0.mk (below_tr2 (w := w) (by repeat (first | exact HB.out | exact Below.refl _ _ | apply below_alloc | apply pw_below_drewN | apply below_drew1)) hbl); (try clear HB); have HB := HBn; clear HBn hbl)
    )
  go_ret
  exact ⟨rfl, HB.out⟩
set_option maxRecDepth 100000 in
set_option maxHeartbeats 4000000 in
theorem right_2 (l : List S77) (A : Option Addr) (c : Nat) (level : Int) (w : World) (H16 : Aside0 (Say w 16 #[.slice A l.length c, .int .i64 level] (.bool true))) (h0 : level = 0) (hn : l.length = 0) :
    Calls Try.prog 46 #[.slice A l.length c, .int .i64 level] w fun e w' => e = .returned (.bool false) ∧ Below w.heap.size w w' := by
  have k4 : (level == 0) = true := beq_iff_eq.mpr (by omega)
  have d0 : decide (0 < level) = false := decide_eq_false (by omega)
  have d1 : decide (level > 0) = false := decide_eq_false (by omega)
  have d2 : decide (0 < (l.length : Int)) = false := decide_eq_false (by omega)
  have d3 : decide ((l.length : Int) > 0) = false := decide_eq_false (by omega)
  have d4 : decide (0 < l.length) = false := decide_eq_false (by omega)
  clear h0 hn
  go_enter Try.func46, Try.ntmps46
  go_wp2_with (first
    | ((go_at_call 16); (with_reducible refine (H16.out _ (by repeat (first | exact HB.out | exact Below.refl _ _ | apply below_alloc | apply pw_below_drewN | apply below_drew1))).mono ?_); rintro e w9 ⟨rfl, hbl⟩; have HBn := Aside0.mk (below_tr2 (w := w) (by repeat (first | exact HB.out | exact Below.refl _ _ | apply below_alloc | apply pw_below_drewN | apply below_drew1)) hbl); (try clear HB); have HB := HBn; clear HBn hbl)
    )
  go_ret
  exact ⟨rfl, HB.out⟩
set_option maxRecDepth 100000 in
set_option maxHeartbeats 4000000 in
theorem right_3 (l : List S77) (A : Option Addr) (c : Nat) (level : Int) (w : World) (H16 : Aside0 (Say w 16 #[.slice A l.length c, .int .i64 level] (.bool true))) (h0 : 0 < level) (hn : ¬ 1 < l.length) :
    Calls Try.prog 46 #[.slice A l.length c, .int .i64 level] w fun e w' => e = .returned (.bool false) ∧ Below w.heap.size w w' := by
  have k4 : (level == 0) = false := beq_eq_false_iff_ne.mpr (by omega)
  have d5 : decide (0 < level) = true := decide_eq_true (by omega)
  have d6 : decide (level > 0) = true := decide_eq_true (by omega)
  have d7 : decide (1 < (l.length : Int)) = false := decide_eq_false (by omega)
  have d8 : decide ((l.length : Int) > 1) = false := decide_eq_false (by omega)
  have d9 : decide (1 < l.length) = false := decide_eq_false (by omega)
  clear h0 hn
  go_enter Try.func46, Try.ntmps46
  go_wp2_with (first
    | ((go_at_call 16); (with_reducible refine (H16.out _ (by repeat (first | exact HB.out | exact Below.refl _ _ | apply below_alloc | apply pw_below_drewN | apply below_drew1))).mono ?_); rintro e w9 ⟨rfl, hbl⟩; have HBn := Aside0.mk (below_tr2 (w := w) (by repeat (first | exact HB.out | exact Below.refl _ _ | apply below_alloc | apply pw_below_drewN | apply below_drew1)) hbl); (try clear HB); have HB := HBn; clear HBn hbl)
    )
  go_ret
  exact ⟨rfl, HB.out⟩
set_option maxRecDepth 100000 in
set_option maxHeartbeats 4000000 in
theorem right_4 (l : List S77) (A : Option Addr) (c : Nat) (level : Int) (w : World) (H16 : Aside0 (Say w 16 #[.slice A l.length c, .int .i64 level] (.bool true))) (v : Bool) (H81 : Aside0 (Say w 81 #[.slice A l.length c, .int .i64 level] (.bool v))) (h0 : level = 0) (hn : 0 < l.length) :
    Calls Try.prog 46 #[.slice A l.length c, .int .i64 level] w fun e w' => e = .returned (.bool v) ∧ Below w.heap.size w w' := by
  have k4 : (level == 0) = true := beq_iff_eq.mpr (by omega)
  have d10 : decide (0 < level) = false := decide_eq_false (by omega)
  have d11 : decide (level > 0) = false := decide_eq_false (by omega)
  have d12 : decide (0 < (l.length : Int)) = true := decide_eq_true (by omega)
  have d13 : decide ((l.length : Int) > 0) = true := decide_eq_true (by omega)
  have d14 : decide (0 < l.length) = true := decide_eq_true (by omega)
  clear h0 hn
  go_enter Try.func46, Try.ntmps46
  go_wp2_with (first
    | ((go_at_call 16); (with_reducible refine (H16.out _ (by repeat (first | exact HB.out | exact Below.refl _ _ | apply below_alloc | apply pw_below_drewN | apply below_drew1))).mono ?_); rintro e w9 ⟨rfl, hbl⟩; have HBn := Aside0.mk (below_tr2 (w := w) (by repeat (first | exact HB.out | exact Below.refl _ _ | apply below_alloc | apply pw_below_drewN | apply below_drew1)) hbl); (try clear HB); have HB := HBn; clear HBn hbl)
    | ((go_at_call 81); (with_reducible refine (H81.out _ (by repeat (first | exact HB.out | exact Below.refl _ _ | apply below_alloc | apply pw_below_drewN | apply below_drew1))).mono ?_); rintro e w9 ⟨rfl, hbl⟩; have HBn := Aside0.mk (below_tr2 (w := w) (by repeat (first | exact HB.out | exact Below.refl _ _ | apply below_alloc | apply pw_below_drewN | apply below_drew1)) hbl); (try clear HB); have HB := HBn; clear HBn hbl)
    )
  go_ret
  exact ⟨rfl, HB.out⟩
set_option maxRecDepth 100000 in
set_option maxHeartbeats 4000000 in
theorem right_5 (l : List S77) (A : Option Addr) (c : Nat) (level : Int) (w : World) (H16 : Aside0 (Say w 16 #[.slice A l.length c, .int .i64 level] (.bool true))) (v : Bool) (H81 : Aside0 (Say w 81 #[.slice A l.length c, .int .i64 level] (.bool v))) (h0 : 0 < level) (hn : 1 < l.length) :
    Calls Try.prog 46 #[.slice A l.length c, .int .i64 level] w fun e w' => e = .returned (.bool v) ∧ Below w.heap.size w w' := by
  have k4 : (level == 0) = false := beq_eq_false_iff_ne.mpr (by omega)
  have d15 : decide (0 < level) = true := decide_eq_true (by omega)
  have d16 : decide (level > 0) = true := decide_eq_true (by omega)
  have d17 : decide (1 < (l.length : Int)) = true := decide_eq_true (by omega)
  have d18 : decide ((l.length : Int) > 1) = true := decide_eq_true (by omega)
  have d19 : decide (1 < l.length) = true := decide_eq_true (by omega)
  clear h0 hn
  go_enter Try.func46, Try.ntmps46
  go_wp2_with (first
    | ((go_at_call 16); (with_reducible refine (H16.out _ (by repeat (first | exact HB.out | exact Below.refl _ _ | apply below_alloc | apply pw_below_drewN | apply below_drew1))).mono ?_); rintro e w9 ⟨rfl, hbl⟩; have HBn := Aside0.mk (below_tr2 (w := w) (by repeat (first | exact HB.out | exact Below.refl _ _ | apply below_alloc | apply pw_below_drewN | apply below_drew1)) hbl); (try clear HB); have HB := HBn; clear HBn hbl)
    | ((go_at_call 81); (with_reducible refine (H81.out _ (by repeat (first | exact HB.out | exact Below.refl _ _ | apply below_alloc | apply pw_below_drewN | apply below_drew1))).mono ?_); rintro e w9 ⟨rfl, hbl⟩; have HBn := Aside0.mk (below_tr2 (w := w) (by repeat (first | exact HB.out | exact Below.refl _ _ | apply below_alloc | apply pw_below_drewN | apply below_drew1)) hbl); (try clear HB); have HB := HBn; clear HBn hbl)
    )
  go_ret
  exact ⟨rfl, HB.out⟩
theorem right_c (l : List S77) (A : Option Addr) (c : Nat) (level : Int) (w : World) (hr : Kd.C k77 w A l.length l) (hc : l.length ≤ c) (hl : l.length ≤ 100) :
    Calls Try.prog 46 #[.slice A l.length c, .int .i64 level] w fun e w' => e = .returned (.bool (rightB l level)) ∧ Below w.heap.size w w' := by
  obtain ⟨k0, e0⟩ := ordered_eq l level hl
  have H16 := Aside0.mk (say_drawn (w := w) fun w1 b => understoryref06_Ordered.calls k0 A c l level _ w1 (Kd.C_below hr b) hc e0)
  have H81 := Aside0.mk (show Say w 81 #[.slice A l.length c, .int .i64 level] _ from fun w1 b => rvalid_c l A c level w1 (Kd.C_below hr b) (by omega))
  unfold rightB
  cases ho : ordL l level with
  | false => rw [ho] at H16; exact right_1 l A c level w H16
  | true =>
    rw [ho] at H16
    have hlv : 0 ≤ level := by
      have := ord_level ho
      unfold inB at this; simp at this; omega
    rw [Bool.true_and]
    by_cases h0 : level = 0
    · by_cases hn : l.length = 0
      · rw [decide_eq_false (show ¬ 0 < l.length by omega), decide_eq_false (show ¬ 0 < level by omega)]
        simpa using right_2 l A c level w H16 h0 hn
      · rw [decide_eq_true h0, decide_eq_true (show 0 < l.length by omega)]
        simpa using right_4 l A c level w H16 _ H81 h0 (by omega)
    · by_cases hn : 1 < l.length
      · rw [decide_eq_true (show 0 < level by omega), decide_eq_true hn, Bool.true_and, Bool.or_true, Bool.true_and]
        exact right_5 l A c level w H16 _ H81 (by omega) hn
      · rw [decide_eq_false h0, decide_eq_false hn]
        simpa using right_3 l A c level w H16 (by omega) hn
end Go.Proofs.Ytalncokpbgbccaa.E

/- NodeSeparates, walked and joined: whatever the entries, it returns true. -/
namespace Go.Proofs.Ytalncokpbgbccaa.E
set_option linter.unusedVariables false
set_option linter.unusedSimpArgs false
open Go.RowKit Go.Proofs.YtalncokpbgbccaaW.PrintWords Go.Proofs.YtalncokpbgbccaaW.PrintLast Go.Proofs.YtalncokpbgbccaaW.PrintMore
set_option maxRecDepth 100000 in
set_option maxHeartbeats 4000000 in
theorem separates_1 (l : List S77) (A : Option Addr) (c : Nat) (level : Int) (w : World) (HSANE : Aside0 (Say w 15 #[] (.bool true))) (HFEW : Aside0 (Ans1 w A l.length c false)) :
    Calls Try.prog 7 #[.slice A l.length c, .int .i64 level] w fun e w' => e = .returned (.bool true) ∧ Below w.heap.size w w' := by
  go_enter Try.func7, Try.ntmps7
  go_wp2_with (first
    | ((go_at_call 14); (with_reducible refine (HFEW.out _ _ (by repeat (first | exact HB.out | exact Below.refl _ _ | apply below_alloc | apply pw_below_drewN | apply below_drew1)) ?hg).mono ?_); (case hg => first | exact blk_new _ _ | exact heap_alloc_new _ _); rintro e w9 ⟨rfl, hb9⟩; (try clear HB); have HB := Aside0.mk hb9; clear hb9)
    | ((go_at_call 15); (with_reducible refine (HSANE.out _ (by repeat (first | exact HB.out | exact Below.refl _ _ | apply below_alloc | apply pw_below_drewN | apply below_drew1))).mono ?_); rintro e w9 ⟨rfl, hbl⟩; have HBn := Aside0.mk (below_tr2 (w := w) (by repeat (first | exact HB.out | exact Below.refl _ _ | apply below_alloc | apply pw_below_drewN | apply below_drew1)) hbl); (try clear HB); have HB := HBn; clear HBn hbl)
    )
  go_ret
  exact ⟨rfl, HB.out⟩
set_option maxRecDepth 100000 in
set_option maxHeartbeats 4000000 in
theorem separates_2 (l : List S77) (A : Option Addr) (c : Nat) (level : Int) (w : World) (HSANE : Aside0 (Say w 15 #[] (.bool true))) (HFEW : Aside0 (Ans1 w A l.length c true)) (H46 : Aside0 (Say w 46 #[.slice A l.length c, .int .i64 level] (.bool false))) :
    Calls Try.prog 7 #[.slice A l.length c, .int .i64 level] w fun e w' => e = .returned (.bool true) ∧ Below w.heap.size w w' := by
  go_enter Try.func7, Try.ntmps7
  go_wp2_with (first
    | ((go_at_call 14); (with_reducible refine (HFEW.out _ _ (by repeat (first | exact HB.out | exact Below.refl _ _ | apply below_alloc | apply pw_below_drewN | apply below_drew1)) ?hg).mono ?_); (case hg => first | exact blk_new _ _ | exact heap_alloc_new _ _); rintro e w9 ⟨rfl, hb9⟩; (try clear HB); have HB := Aside0.mk hb9; clear hb9)
    | ((go_at_call 15); (with_reducible refine (HSANE.out _ (by repeat (first | exact HB.out | exact Below.refl _ _ | apply below_alloc | apply pw_below_drewN | apply below_drew1))).mono ?_); rintro e w9 ⟨rfl, hbl⟩; have HBn := Aside0.mk (below_tr2 (w := w) (by repeat (first | exact HB.out | exact Below.refl _ _ | apply below_alloc | apply pw_below_drewN | apply below_drew1)) hbl); (try clear HB); have HB := HBn; clear HBn hbl)
    | ((go_at_call 46); (with_reducible refine (H46.out _ (by repeat (first | exact HB.out | exact Below.refl _ _ | apply below_alloc | apply pw_below_drewN | apply below_drew1))).mono ?_); rintro e w9 ⟨rfl, hbl⟩; have HBn := Aside0.mk (below_tr2 (w := w) (by repeat (first | exact HB.out | exact Below.refl _ _ | apply below_alloc | apply pw_below_drewN | apply below_drew1)) hbl); (try clear HB); have HB := HBn; clear HBn hbl)
    )
  go_ret
  exact ⟨rfl, HB.out⟩
theorem w_add (r m q : Nat) (h : q = r + m) (hq : q ≤ 1000000) : wrap64 ((r : Int) + (m : Int)) = (q : Int) := by rw [w64 _ (by omega) (by omega)]; omega
theorem w_pred (q p : Nat) (h : q = p + 1) (hq : q ≤ 1000000) : wrap64 ((q : Int) - 1) = (p : Int) := by rw [w64 _ (by omega) (by omega)]; omega
theorem w_succ (k : Nat) (h : k ≤ 1000000) : wrap64 ((k : Int) + 1) = (k : Int) + 1 := w64 _ (by omega) (by omega)
theorem mn_at (b s : Nat) (hs : 1 ≤ s) (h1 : s ≤ 1000000) : ∃ n : Nat, mn (b : Int) ((s : Int) - 1) = (n : Int) ∧ n ≤ b ∧ n < s := by
  unfold mn
  split
  · exact ⟨s - 1, by omega, by omega, by omega⟩
  · exact ⟨b, rfl, by omega, by omega⟩
theorem extract_list (b : ByteArray) (n : Nat) : (b.extract 0 n).toList = (toL b).take n := by
  have := extract_take (toL b) n
  rw [ofL_toL] at this
  rw [this, toList_ofL]
theorem min2_mn (k k' : IntKind) (x y : Int) : Builtin.min2 (.int k x) (.int k' y) = pure (.int k (mn x y)) := min2_int k k' x y
attribute [local go_sem] min2_mn min_two
/-- what the law reads of the parts and the separators -/
def SepOk (l : List S77) (level : Int) (P : List (List S77)) (S : List ByteArray) (k : Nat) : Prop :=
  1 ≤ atP P (k + 1) ∧ atP P (k + 1) < l.length ∧ (S.getD k ByteArray.empty).size ≤ 48
  ∧ Op.bytesLess (l.getD (atP P (k + 1) - 1) z77).f0.toList (S.getD k ByteArray.empty).toList = true
  ∧ Op.bytesLess (l.getD (atP P (k + 1)) z77).f0.toList (S.getD k ByteArray.empty).toList = false
  ∧ (level = 0 → ∀ n, n < (S.getD k ByteArray.empty).size → Op.bytesLess (l.getD (atP P (k + 1) - 1) z77).f0.toList ((toL (l.getD (atP P (k + 1)) z77).f0).take n) = false)
set_option maxRecDepth 100000 in
set_option maxHeartbeats 4000000 in
theorem separates_3 (l : List S77) (A : Option Addr) (c : Nat) (level : Int) (w : World) (HSANE : Aside0 (Say w 15 #[] (.bool true))) (HFEW : Aside0 (Ans1 w A l.length c true)) (H46 : Aside0 (Say w 46 #[.slice A l.length c, .int .i64 level] (.bool true))) (P : List (List S77)) (S : List ByteArray) (hr : Kd.C k77 w A l.length l) (hll : l.length ≤ 100) (hlen : S.length + 1 = P.length) (hlen2 : S.length ≤ 100) (hso : ∀ k, k < S.length → SepOk l level P S k)
    (HPK : Aside0 (∀ w1, Below w.heap.size w w1 → Calls Try.prog 39 #[.slice A l.length c, .int .i64 level] w1 fun e w2 => ∃ A1 c1 A2 c2, e = .returned (.tuple #[.slice A1 P.length c1, .slice A2 S.length c2, .int .i64 0]) ∧ kN.C w2 A1 P.length P ∧ Kd.string.C w2 A2 S.length S ∧ Below w1.heap.size w1 w2)) :
    Calls Try.prog 7 #[.slice A l.length c, .int .i64 level] w fun e w' => e = .returned (.bool true) ∧ Below w.heap.size w w' := by
  have HR := Aside0.mk (fun (W : World) (hb : Below w.heap.size w W) => Kd.C_below hr hb)
  have HLL := Aside0.mk hll
  have HLEN := Aside0.mk hlen
  have HLEN2 := Aside0.mk hlen2
  have HSO := Aside0.mk hso
  have hwp : wrap64 ((P.length : Int) - 1) = (S.length : Int) := by rw [w64 _ (by omega) (by omega)]; omega
  clear hr hll hlen hlen2 hso
  go_enter Try.func7, Try.ntmps7
  go_wp2_with (first
    | ((go_at_call 14); (with_reducible refine (HFEW.out _ _ (by repeat (first | exact HB.out | exact Below.refl _ _ | apply below_alloc | apply pw_below_drewN | apply below_drew1)) ?hg).mono ?_); (case hg => first | exact blk_new _ _ | exact heap_alloc_new _ _); rintro e w9 ⟨rfl, hb9⟩; (try clear HB); have HB := Aside0.mk hb9; clear hb9)
    | ((go_at_call 46); (with_reducible refine (H46.out _ (by repeat (first | exact HB.out | exact Below.refl _ _ | apply below_alloc | apply pw_below_drewN | apply below_drew1))).mono ?_); rintro e w9 ⟨rfl, hbl⟩; have HBn := Aside0.mk (below_tr2 (w := w) (by repeat (first | exact HB.out | exact Below.refl _ _ | apply below_alloc | apply pw_below_drewN | apply below_drew1)) hbl); (try clear HB); have HB := HBn; clear HBn hbl)
    | ((go_at_call 39); (with_reducible refine (HPK.out _ HB.out).mono ?_); rintro e w5 ⟨A1, c1, A2, c2, rfl, hP, hS, hbl⟩; have HP := Aside0.mk (fun (W : World) (hb : Below w5.heap.size w5 W) => Kd.C_below hP hb); have HS := Aside0.mk (fun (W : World) (hb : Below w5.heap.size w5 W) => Kd.C_below hS hb); have HB5 := Aside0.mk (below_tr2 (w := w) HB.out hbl); clear hP hS hbl HB)
    )
  clear hwp HFEW H46 HPK
  go_loopw [8, 9] (fun av iv wr => ∃ k : Nat, k ≤ S.length ∧ iv = .int .i64 k ∧ av = .int .i64 (atP P k : Nat) ∧ Aside0 (Below w5.heap.size w5 wr)) (fun _ iv _ => S.length - (intOf iv).toNat)
  case atStart => exact ⟨0, Nat.zero_le _, rfl, rfl, ⟨Below.refl _ _⟩⟩
  case round =>
    obtain ⟨k, hk, rfl, rfl, HBr⟩ := hrel
    by_cases hlt : k < S.length
    · have HLT := Aside0.mk hlt
      obtain ⟨g1, g2, g3, g4, g5, g6⟩ := HSO.out k hlt
      obtain ⟨ad, A0, c0, rfl, hc, hl0, _⟩ := at_L5 (HP.out wr HBr.out) (k : Int) (by omega) (by have := HLEN.out; omega)
      simp only [rd_L5, Int.toNat_natCast] at hc
      have hsum := atP_succ P k (by have := HLEN.out; omega)
      generalize (P.getD k []).length = m at hc hsum
      obtain ⟨q, hq⟩ : ∃ q, atP P (k + 1) = q := ⟨_, rfl⟩
      rw [hq] at g1 g2 g4 g5 g6 hsum
      have HQ := Aside0.mk hq
      clear hq hl0
      obtain ⟨p, hp⟩ : ∃ p, q = p + 1 := ⟨q - 1, by omega⟩
      have hp1 : q - 1 = p := by omega
      rw [hp1] at g4 g6
      generalize atP P k = r at hsum ⊢
      obtain ⟨al, ela, _⟩ := elem_at (HR.out wr (below_tr2 (w := w) HB5.out HBr.out)) q g2
      subst ela
      have hkq := prev_key (HR.out wr (below_tr2 (w := w) HB5.out HBr.out)) q g2
      have hkp := prev_key (HR.out wr (below_tr2 (w := w) HB5.out HBr.out)) p (by omega)
      obtain ⟨asp, rfl, hcs⟩ := Kd.at_string (HS.out wr HBr.out) (k : Int) (by omega) (by omega)
      simp only [Int.toNat_natCast] at hcs
      have hcs2 : wr.cell? (asp.add k) = some (.string (S.getD k ByteArray.empty)) := hcs
      clear hcs
      generalize S.getD k ByteArray.empty = s at g3 g4 g5 g6 hcs2
      generalize (l.getD q z77).f0 = b at g5 g6 hkq
      generalize (l.getD p z77).f0 = a at g4 g6 hkp
      have i1 : (k : Int) < (P.length : Int) := by have := HLEN.out; omega
      have i2 : (k : Int) < (S.length : Int) := by omega
      have i3 : (0 : Int) ≤ (k : Int) := by omega
      have i4 : (q : Int) < (l.length : Int) := by omega
      have i5 : (0 : Int) ≤ (q : Int) := by omega
      have i6 : (p : Int) < (l.length : Int) := by omega
      have i7 : (0 : Int) ≤ (p : Int) := by omega
      have d20 : decide ((q : Int) < 1) = false := decide_eq_false (by omega)
      have d21 : decide (1 > (q : Int)) = false := decide_eq_false (by omega)
      have d22 : decide ((q : Int) ≥ (l.length : Int)) = false := decide_eq_false (by omega)
      have d23 : decide ((l.length : Int) ≤ (q : Int)) = false := decide_eq_false (by omega)
      have d24 : decide (l.length ≤ q) = false := decide_eq_false (by omega)
      have d25 : decide (q < 1) = false := decide_eq_false (by omega)
      have d26 : decide (q = 0) = false := decide_eq_false (by omega)
      have d27 : decide (48 < (s.size : Int)) = false := decide_eq_false (by omega)
      have d28 : decide ((s.size : Int) > 48) = false := decide_eq_false (by omega)
      have d29 : decide (48 < s.size) = false := decide_eq_false (by omega)
      have hq6 : q ≤ 1000000 := by have := HLL.out; omega
      have hk6 : k ≤ 1000000 := by have := HLEN2.out; omega
      have hwq := w_add r m q hsum hq6
      have hwm := w_pred q p hp hq6
      have hkw := w_succ k hk6
      clear hq6 hk6
      by_cases h0 : level = 0
      · by_cases h1 : 1 < s.size
        · have k4 : (level == 0) = true := beq_iff_eq.mpr h0
          have d33 : decide ((1 : Int) < (s.size : Int)) = true := decide_eq_true (by clear hwq hwm hkw; omega)
          have d34 : decide ((s.size : Int) > 1) = true := decide_eq_true (by clear hwq hwm hkw; omega)
          have d35 : decide (1 < s.size) = true := decide_eq_true (by clear hwq hwm hkw; omega)
          have HG6 := Aside0.mk (g6 h0)
          obtain ⟨n, hmn, hn1, hn2⟩ := mn_at b.size s.size (by clear hwq hwm hkw; omega) (by clear hwq hwm hkw; omega)
          have hws : wrap64 ((s.size : Int) - 1) = (s.size : Int) - 1 := w64 _ (by clear hwq hwm hkw; omega) (by clear hwq hwm hkw; omega)
          have hsh : Op.bytesLess a.toList (b.extract 0 n).toList = false := by rw [extract_list]; exact HG6.out n hn2
          have j1 : (n : Int) ≤ (b.size : Int) := by clear hwq hwm hkw hws; omega
          have j2 : (0 : Int) ≤ (n : Int) := by clear hwq hwm hkw hws; omega
          clear hn1 hn2 HG6
          clear h0 h1 g6 hlt hk hsum hp hp1 g1 g2 g3
          go_wp2_with fail
          repeat (go_quiet (fail); try go_wp2)
          go_roundw
          case rel => exact ⟨k + 1, HLT.out, by rw [hkw]; simp, by rw [hwq, HQ.out], ⟨by first | exact HBr.out | exact below_drew1 HBr.out | exact pw_below_drewN HBr.out _⟩⟩
          case measure => (have h9 := HLT.out; rw [hkw]; clear hkw; show S.length - ((k : Int) + 1).toNat < S.length - (k : Int).toNat; omega)
        · have k4 : (level == 0) = true := beq_iff_eq.mpr h0
          have d30 : decide ((1 : Int) < (s.size : Int)) = false := decide_eq_false (by clear hwq hwm hkw; omega)
          have d31 : decide ((s.size : Int) > 1) = false := decide_eq_false (by clear hwq hwm hkw; omega)
          have d32 : decide (1 < s.size) = false := decide_eq_false (by clear hwq hwm hkw; omega)
          clear h0 h1 g6 hlt hk hsum hp hp1 g1 g2 g3
          go_wp2_with fail
          repeat (go_quiet (fail); try go_wp2)
          go_roundw
          case rel => exact ⟨k + 1, HLT.out, by rw [hkw]; simp, by rw [hwq, HQ.out], ⟨by first | exact HBr.out | exact below_drew1 HBr.out | exact pw_below_drewN HBr.out _⟩⟩
          case measure => (have h9 := HLT.out; rw [hkw]; clear hkw; show S.length - ((k : Int) + 1).toNat < S.length - (k : Int).toNat; omega)
      · have k4 : (level == 0) = false := beq_eq_false_iff_ne.mpr h0
        clear h0 g6 hlt hk hsum hp hp1 g1 g2 g3
        go_wp2_with fail
        repeat (go_quiet (fail); try go_wp2)
        go_roundw
        case rel => exact ⟨k + 1, HLT.out, by rw [hkw]; simp, by rw [hwq, HQ.out], ⟨by first | exact HBr.out | exact below_drew1 HBr.out | exact pw_below_drewN HBr.out _⟩⟩
        case measure => (have h9 := HLT.out; rw [hkw]; clear hkw; show S.length - ((k : Int) + 1).toNat < S.length - (k : Int).toNat; omega)
    · obtain rfl : k = S.length := by omega
      have HB := Aside0.mk (below_tr2 (w := w) HB5.out HBr.out)
      go_wp2_with (first
        | ((go_at_call 15); (with_reducible refine (HSANE.out _ (by repeat (first | exact HB.out | exact Below.refl _ _ | apply below_alloc | apply pw_below_drewN | apply below_drew1))).mono ?_); rintro e w9 ⟨rfl, hbl⟩; have HBn := Aside0.mk (below_tr2 (w := w) (by repeat (first | exact HB.out | exact Below.refl _ _ | apply below_alloc | apply pw_below_drewN | apply below_drew1)) hbl); (try clear HB); have HB := HBn; clear HBn hbl)
        )
      go_ret
      exact ⟨rfl, HB.out⟩
theorem separates_c (l : List S77) (A : Option Addr) (c : Nat) (level : Int) (w : World) (hr : Kd.C k77 w A l.length l) (hc : l.length ≤ c) :
    Calls Try.prog 7 #[.slice A l.length c, .int .i64 level] w fun e w' => e = .returned (.bool true) ∧ Below w.heap.size w w' := by
  obtain ⟨bf, hf, HF⟩ := few_one l
  have HFEW := Aside0.mk (HF w A c hr hc)
  have HS := Aside0.mk (show Say w 15 #[] (.bool true) from fun w1 _ => sane_c w1)
  cases bf with
  | false => exact separates_1 l A c level w HS HFEW
  | true =>
  have hl := (hf rfl).1
  have hfine : Fine l := by
    refine ⟨by omega, fun x hx => ?_⟩
    obtain ⟨j, hj, rfl⟩ := List.getElem_of_mem hx
    have := (hf rfl).2 j hj
    rw [show l.getD j z77 = l[j] by simp [hj]] at this
    omega
  have hks : ∀ x ∈ l, x.f0.size ≤ 1000000 := by
    intro x hx
    obtain ⟨j, hj, rfl⟩ := List.getElem_of_mem hx
    have := (hf rfl).2 j hj
    rw [show l.getD j z77 = l[j] by simp [hj]] at this
    omega
  have H46 := Aside0.mk (show Say w 46 #[.slice A l.length c, .int .i64 level] _ from fun w1 b => right_c l A c level w1 (Kd.C_below hr b) hc hl)
  cases hrt : rightB l level with
  | false => rw [hrt] at H46; exact separates_2 l A c level w HS HFEW H46
  | true =>
    rw [hrt] at H46
    have hp := right_packable hrt
    have ho : ordL l level = true := by unfold rightB at hrt; rw [Bool.and_eq_true] at hrt; exact hrt.1
    have hne : 1 ≤ l.length := by
      unfold rightB at hrt
      simp only [Bool.and_eq_true, Bool.or_eq_true, decide_eq_true_eq] at hrt
      omega
    obtain ⟨x, hx⟩ := packO_some level (l.length + 1) l (by omega) hp
    have e1 := packO_len _ l level x hne hx
    have e2 := packO_seps level _ l x hne hx
    have hR : packR l level = (x, 0) := by rw [packR, if_pos hp, if_neg (by omega), hx]
    refine separates_3 l A c level w HS HFEW H46 x.1 x.2 hr hl e1.2 (by omega) (fun k hk => ?_) ⟨fun w1 b => ?_⟩
    · obtain ⟨g1, g2, g3⟩ := e2.2 k hk
      obtain ⟨s1, s2, s3, s4⟩ := sepF_good ho _ g1 g2
      unfold SepOk
      rw [g3]
      exact ⟨g1, g2, s1, s2, s3, s4⟩
    · have := packs_c l A c level w1 (Kd.C_below hr b) hc hfine hks
      rw [hR] at this
      refine this.mono ?_
      rintro e w2 ⟨A1, c1, A2, c2, rfl, ⟨_, q1⟩, ⟨_, q2⟩, q3⟩
      exact ⟨A1, c1, A2, c2, rfl, q1, q2, q3⟩
end Go.Proofs.Ytalncokpbgbccaa.E

/- What a slice of entries that came in reads as. -/
namespace Go.Proofs.Ytalncokpbgbccaa.E
set_option linter.unusedVariables false
set_option linter.unusedSimpArgs false
open Go.ChangeShapes Go.WideShapes Go.Deep Go.RowKit Go.Proofs.YtalncokpbgbccaaW.PrintWords Go.Proofs.YtalncokpbgbccaaW.PrintLast Go.Proofs.YtalncokpbgbccaaW.PrintMore
section
variable {H : Type} {enc : TypeId × Value → H} {w : World} {base : Nat} {spare : Nat → Bool} {held : Bool}
theorem cells77 : Try.prog.cellsOf 77 = 22 := by kernel_rfl
theorem cells75 : Try.prog.cellsOf 75 = 16 := by kernel_rfl
theorem cells3 : Try.prog.cellsOf 3 = 1 := by kernel_rfl
theorem cellsU8 : Try.prog.cellsOf 5 = 1 := by kernel_rfl
theorem cells9 : Try.prog.cellsOf 9 = 1 := by kernel_rfl
theorem wf_int (n : Int) (h : (Lit.int .i64 n).wf = true) : -9223372036854775808 ≤ n ∧ n ≤ 9223372036854775807 := by
  have e1 : IntKind.i64.min = -9223372036854775808 := rfl
  have e2 : IntKind.i64.max = 9223372036854775807 := rfl
  simp [Lit.wf] at h
  omega
def I64 (n : Int) : Prop := -9223372036854775808 ≤ n ∧ n ≤ 9223372036854775807
def WfE (y : S77) : Prop := I64 y.f2 ∧ I64 y.f3 ∧ I64 y.f4 ∧ I64 y.f5
theorem open_byte {n : Nat} {c : Value} {x : DataW H × List MemPlace} (h : DataW.trod enc Try.prog w base spare held n 5 [c] = some x) : ∃ k : Int, c = .int .u8 k := by
  obtain ⟨k, e, _, _⟩ := DataW.trod_int Try.underlying5 h
  exact ⟨k, by simpa using e⟩
set_option maxRecDepth 100000 in
theorem open_digest {fuel : Nat} {cs : List Value} {x : DataW H × List MemPlace} (h : DataW.trod enc Try.prog w base spare held fuel 75 cs = some x) :
    ∃ y : S75, cs = [.int .u8 y.f0, .int .u8 y.f1, .int .u8 y.f2, .int .u8 y.f3, .int .u8 y.f4, .int .u8 y.f5, .int .u8 y.f6, .int .u8 y.f7, .int .u8 y.f8, .int .u8 y.f9, .int .u8 y.f10, .int .u8 y.f11, .int .u8 y.f12, .int .u8 y.f13, .int .u8 y.f14, .int .u8 y.f15] := by
  obtain ⟨xs, n, _, _, hlen, hxl, hf⟩ := DataW.trod_array Try.underlying75 h
  rw [cells75] at hlen
  rw [cellsU8] at hf
  match cs, hlen with
  | [c0, c1, c2, c3, c4, c5, c6, c7, c8, c9, c10, c11, c12, c13, c14, c15], _ =>
    have h0 : DataW.trod enc Try.prog w base spare held n 5 [c0] = xs[0]? := hf 0 (by decide)
    rw [List.getElem?_eq_getElem (by omega)] at h0
    obtain ⟨k0, rfl⟩ := open_byte h0
    have h1 : DataW.trod enc Try.prog w base spare held n 5 [c1] = xs[1]? := hf 1 (by decide)
    rw [List.getElem?_eq_getElem (by omega)] at h1
    obtain ⟨k1, rfl⟩ := open_byte h1
    have h2 : DataW.trod enc Try.prog w base spare held n 5 [c2] = xs[2]? := hf 2 (by decide)
    rw [List.getElem?_eq_getElem (by omega)] at h2
    obtain ⟨k2, rfl⟩ := open_byte h2
    have h3 : DataW.trod enc Try.prog w base spare held n 5 [c3] = xs[3]? := hf 3 (by decide)
    rw [List.getElem?_eq_getElem (by omega)] at h3
    obtain ⟨k3, rfl⟩ := open_byte h3
    have h4 : DataW.trod enc Try.prog w base spare held n 5 [c4] = xs[4]? := hf 4 (by decide)
    rw [List.getElem?_eq_getElem (by omega)] at h4
    obtain ⟨k4, rfl⟩ := open_byte h4
    have h5 : DataW.trod enc Try.prog w base spare held n 5 [c5] = xs[5]? := hf 5 (by decide)
    rw [List.getElem?_eq_getElem (by omega)] at h5
    obtain ⟨k5, rfl⟩ := open_byte h5
    have h6 : DataW.trod enc Try.prog w base spare held n 5 [c6] = xs[6]? := hf 6 (by decide)
    rw [List.getElem?_eq_getElem (by omega)] at h6
    obtain ⟨k6, rfl⟩ := open_byte h6
    have h7 : DataW.trod enc Try.prog w base spare held n 5 [c7] = xs[7]? := hf 7 (by decide)
    rw [List.getElem?_eq_getElem (by omega)] at h7
    obtain ⟨k7, rfl⟩ := open_byte h7
    have h8 : DataW.trod enc Try.prog w base spare held n 5 [c8] = xs[8]? := hf 8 (by decide)
    rw [List.getElem?_eq_getElem (by omega)] at h8
    obtain ⟨k8, rfl⟩ := open_byte h8
    have h9 : DataW.trod enc Try.prog w base spare held n 5 [c9] = xs[9]? := hf 9 (by decide)
    rw [List.getElem?_eq_getElem (by omega)] at h9
    obtain ⟨k9, rfl⟩ := open_byte h9
    have h10 : DataW.trod enc Try.prog w base spare held n 5 [c10] = xs[10]? := hf 10 (by decide)
    rw [List.getElem?_eq_getElem (by omega)] at h10
    obtain ⟨k10, rfl⟩ := open_byte h10
    have h11 : DataW.trod enc Try.prog w base spare held n 5 [c11] = xs[11]? := hf 11 (by decide)
    rw [List.getElem?_eq_getElem (by omega)] at h11
    obtain ⟨k11, rfl⟩ := open_byte h11
    have h12 : DataW.trod enc Try.prog w base spare held n 5 [c12] = xs[12]? := hf 12 (by decide)
    rw [List.getElem?_eq_getElem (by omega)] at h12
    obtain ⟨k12, rfl⟩ := open_byte h12
    have h13 : DataW.trod enc Try.prog w base spare held n 5 [c13] = xs[13]? := hf 13 (by decide)
    rw [List.getElem?_eq_getElem (by omega)] at h13
    obtain ⟨k13, rfl⟩ := open_byte h13
    have h14 : DataW.trod enc Try.prog w base spare held n 5 [c14] = xs[14]? := hf 14 (by decide)
    rw [List.getElem?_eq_getElem (by omega)] at h14
    obtain ⟨k14, rfl⟩ := open_byte h14
    have h15 : DataW.trod enc Try.prog w base spare held n 5 [c15] = xs[15]? := hf 15 (by decide)
    rw [List.getElem?_eq_getElem (by omega)] at h15
    obtain ⟨k15, rfl⟩ := open_byte h15
    exact ⟨⟨k0, k1, k2, k3, k4, k5, k6, k7, k8, k9, k10, k11, k12, k13, k14, k15⟩, rfl⟩
set_option maxRecDepth 100000 in
theorem open_entry {fuel : Nat} {cs : List Value} {x : DataW H × List MemPlace} (h : DataW.trod enc Try.prog w base spare held fuel 77 cs = some x) :
    ∃ y : S77, cs = (entC y).toList ∧ WfE y := by
  obtain ⟨xs, n, _, hx, hlen, hxl, hf⟩ := DataW.trod_struct Try.underlying77 h
  rw [cells77] at hlen
  have hxl' : xs.length = 7 := hxl
  match cs, hlen with
  | [c0, c1, c2, c3, c4, c5, c6, c7, c8, c9, c10, c11, c12, c13, c14, c15, c16, c17, c18, c19, c20, c21], _ =>
    have g0 : DataW.trod enc Try.prog w base spare held n 9 (([c0, c1, c2, c3, c4, c5, c6, c7, c8, c9, c10, c11, c12, c13, c14, c15, c16, c17, c18, c19, c20, c21].drop 0).take (Try.prog.cellsOf 9)) = xs[0]? := hf 0 _ rfl
    have g1 : DataW.trod enc Try.prog w base spare held n 9 (([c0, c1, c2, c3, c4, c5, c6, c7, c8, c9, c10, c11, c12, c13, c14, c15, c16, c17, c18, c19, c20, c21].drop 1).take (Try.prog.cellsOf 9)) = xs[1]? := hf 1 _ rfl
    have g2 : DataW.trod enc Try.prog w base spare held n 3 (([c0, c1, c2, c3, c4, c5, c6, c7, c8, c9, c10, c11, c12, c13, c14, c15, c16, c17, c18, c19, c20, c21].drop 2).take (Try.prog.cellsOf 3)) = xs[2]? := hf 2 _ rfl
    have g3 : DataW.trod enc Try.prog w base spare held n 3 (([c0, c1, c2, c3, c4, c5, c6, c7, c8, c9, c10, c11, c12, c13, c14, c15, c16, c17, c18, c19, c20, c21].drop 3).take (Try.prog.cellsOf 3)) = xs[3]? := hf 3 _ rfl
    have g4 : DataW.trod enc Try.prog w base spare held n 3 (([c0, c1, c2, c3, c4, c5, c6, c7, c8, c9, c10, c11, c12, c13, c14, c15, c16, c17, c18, c19, c20, c21].drop 4).take (Try.prog.cellsOf 3)) = xs[4]? := hf 4 _ rfl
    have g5 : DataW.trod enc Try.prog w base spare held n 3 (([c0, c1, c2, c3, c4, c5, c6, c7, c8, c9, c10, c11, c12, c13, c14, c15, c16, c17, c18, c19, c20, c21].drop 5).take (Try.prog.cellsOf 3)) = xs[5]? := hf 5 _ rfl
    have g6 : DataW.trod enc Try.prog w base spare held n 75 (([c0, c1, c2, c3, c4, c5, c6, c7, c8, c9, c10, c11, c12, c13, c14, c15, c16, c17, c18, c19, c20, c21].drop 6).take (Try.prog.cellsOf 75)) = xs[6]? := hf 6 _ rfl
    rw [List.getElem?_eq_getElem (by omega), cells9] at g0 g1
    rw [List.getElem?_eq_getElem (by omega), cells3] at g2 g3 g4 g5
    rw [List.getElem?_eq_getElem (by omega), cells75] at g6
    simp only [List.drop_zero, List.drop_succ_cons, List.take_succ_cons, List.take_zero, List.take_nil] at g0 g1 g2 g3 g4 g5 g6
    obtain ⟨s0, e0, _, _⟩ := DataW.trod_string Try.underlying9 g0
    obtain ⟨s1, e1, _, _⟩ := DataW.trod_string Try.underlying9 g1
    obtain ⟨n2, e2, _, w2⟩ := DataW.trod_int Try.underlying3 g2
    obtain ⟨n3, e3, _, w3⟩ := DataW.trod_int Try.underlying3 g3
    obtain ⟨n4, e4, _, w4⟩ := DataW.trod_int Try.underlying3 g4
    obtain ⟨n5, e5, _, w5⟩ := DataW.trod_int Try.underlying3 g5
    obtain ⟨d, e6⟩ := open_digest g6
    cases e0; cases e1; cases e2; cases e3; cases e4; cases e5; cases e6
    exact ⟨⟨s0, s1, n2, n3, n4, n5, d⟩, rfl, wf_int _ w2, wf_int _ w3, wf_int _ w4, wf_int _ w5⟩
theorem open_entries {fuel : Nat} {A : Option Addr} {len cap : Nat} {x : DataW H × List MemPlace} (h : DataW.trod enc Try.prog w base spare held fuel 22 [.slice A len cap] = some x) :
    ∃ l : List S77, l.length = len ∧ len ≤ cap ∧ Kd.C k77 w A len l ∧ ∀ j, j < l.length → WfE (l.getD j z77) := by
  rcases open_slice Try.underlying22 h with ⟨e, _⟩ | ⟨a, len', cap', m, n, D, Pl, e, hb, hl, hm, hmm, hx, hi⟩
  · cases e
    exact ⟨[], rfl, Nat.le_refl _, Kd.C_nil _ _, fun j hj => by simp at hj⟩
  · cases e
    rw [cells77] at hi
    have hlm : len ≤ m := by rw [hmm]; split <;> omega
    have hone : ∀ i, i < len → ∃ y : S77, (∀ (j : Nat) (u : Value), (entC y).toList[j]? = some u → w.cell? (a.add (i * 22 + j)) = some u) ∧ WfE y := by
      intro i hil
      obtain ⟨cs', h1, h2⟩ := hi i (by omega)
      obtain ⟨y, rfl, hwf⟩ := open_entry h2
      obtain ⟨_, _, hat⟩ := World.cells?_some h1
      refine ⟨y, fun j u hj => ?_, hwf⟩
      have hj3 : j < 22 := (List.getElem?_eq_some_iff.mp hj).1
      rw [← Go.Deep.add_add, hat j hj3]
      exact hj
    have : Inhabited S77 := ⟨z77⟩
    obtain ⟨f, hf⟩ := choose_lt hone
    refine ⟨(List.range len).map f, by simp, hl, ⟨by simp, ?_, fun _ => ⟨a, rfl, ?_⟩⟩, ?_⟩
    · unfold maxLen at hm; omega
    · intro j p hp
      obtain ⟨hjl, hjg⟩ := List.getElem?_eq_some_iff.mp hp
      have hjl' : j < len := by simpa using hjl
      have hpf : f j = p := by simpa using hjg
      subst hpf
      exact ⟨_, rfl, k77_mk w (f j), (hf j hjl').1⟩
    · intro j hj
      have hj' : j < len := by simpa using hj
      have : ((List.range len).map f).getD j z77 = f j := by simp [List.getD, hj']
      rw [this]
      exact (hf j hj').2
end
end Go.Proofs.Ytalncokpbgbccaa.E

