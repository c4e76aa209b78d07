-- A slim copy of PO, OI, written by wip/tools/prune.py.
import Derived.Test.YtalncokpbgbccaaVRf
import Derived.Test.YtalncokpbgbccaaVRV
import Derived.Test.YtalncokpbgbccaaVNx0
import Derived.Deep.Slices
import Derived.Deep.Fields
import Derived.ChangeSame
import Derived.OpenShut
/- NodeOrders: plain laws, the walk, and the join: it returns true. -/
namespace Go.Proofs.Ytalncokpbgbccaa.E
set_option linter.unusedVariables false
set_option linter.unusedSimpArgs false
open Go.RowKit Go.Proofs.YtalncokpbgbccaaW.PrintWords Go.Proofs.YtalncokpbgbccaaW.PrintLast Go.Proofs.YtalncokpbgbccaaW.PrintMore
theorem ord_go (l : List S77) (level : Int) (hl : l.length ≤ 100) : ∀ m i, i + m = l.length → ∃ k, understoryref06_Ordered.l0 k l level i = some ((List.range' i m).all (okAt l level))
  | 0, i, h => ⟨1, by rw [understoryref06_Ordered.l0, if_neg (by omega)]; rfl⟩
  | m + 1, i, h => by
    obtain ⟨k, hk⟩ := ord_go l level hl m (i + 1) (by omega)
    have e : rd_T77 l i = l.getD i z77 := by simp [rd_T77]
    rw [List.range'_succ, List.all_cons]
    have hF : ∀ (hn : ¬ (level > 0 ∧ i = 0)), ∃ k, understoryref06_Ordered.j1 k l level i (rd_T77 l i).f0 false = some (okAt l level i && (List.range' (i + 1) m).all (okAt l level)) := by
      intro hn
      rw [okAt, if_neg hn, e]
      by_cases h1 : ((l.getD i z77).f0.size : Int) < 1
      · exact ⟨1, by rw [understoryref06_Ordered.j1, if_neg (by decide), if_pos h1, decide_eq_false (by omega)]; rfl⟩
      rw [decide_eq_true (show 1 ≤ (l.getD i z77).f0.size by omega)]
      by_cases h2 : ((l.getD i z77).f0.size : Int) > 48
      · exact ⟨1, by rw [understoryref06_Ordered.j1, if_neg (by decide), if_neg h1, if_pos h2, decide_eq_false (by omega)]; rfl⟩
      rw [decide_eq_true (show (l.getD i z77).f0.size ≤ 48 by omega)]
      by_cases h3 : (i : Int) > 0
      · have hw : wrap64 ((i : Int) - 1) = ((i - 1 : Nat) : Int) := by rw [w64 _ (by omega) (by omega)]; omega
        have e1 : rd_T77 l ((i - 1 : Nat) : Int) = l.getD (i - 1) z77 := by simp [rd_T77]
        rw [decide_eq_false (show ¬ i = 0 by omega)]
        by_cases h4 : Op.bytesLess (l.getD (i - 1) z77).f0.toList (l.getD i z77).f0.toList = true
        · refine ⟨k + 1, ?_⟩
          rw [understoryref06_Ordered.j1, if_neg (by decide), if_neg h1, if_neg h2, if_pos h3, hw, e1, if_pos (by omega), if_pos (by omega), if_pos h4, wsuc i (by omega), hk, h4]; rfl
        · refine ⟨1, ?_⟩
          rw [understoryref06_Ordered.j1, if_neg (by decide), if_neg h1, if_neg h2, if_pos h3, hw, e1, if_pos (by omega), if_pos (by omega), if_neg h4]
          have h5 := h4
          rw [Bool.not_eq_true] at h5
          rw [h5]; rfl
      · refine ⟨k + 1, ?_⟩
        rw [decide_eq_true (show i = 0 by omega), understoryref06_Ordered.j1, if_neg (by decide), if_neg h1, if_neg h2, if_neg h3, wsuc i (by omega), hk]; rfl
    by_cases h0 : (i : Int) = 0
    · by_cases hp : level > 0
      · have hi : i = 0 := by omega
        by_cases h5 : (rd_T77 l i).f0.toList = ([] : List UInt8)
        · refine ⟨k + 2, ?_⟩
          rw [understoryref06_Ordered.l0, if_pos (by omega), if_pos (by omega), if_pos h0, understoryref06_Ordered.j1, if_pos (decide_eq_true hp), if_pos h5, wsuc i (by omega), hk, okAt, if_pos ⟨hp, hi⟩, ← e, h5]
          rfl
        · refine ⟨2, ?_⟩
          rw [understoryref06_Ordered.l0, if_pos (by omega), if_pos (by omega), if_pos h0, understoryref06_Ordered.j1, if_pos (decide_eq_true hp), if_neg h5, okAt, if_pos ⟨hp, hi⟩, ← e]
          cases hq : (rd_T77 l i).f0.toList with
          | nil => exact absurd hq h5
          | cons a b => rfl
      · obtain ⟨k2, hk2⟩ := hF (by omega)
        exact ⟨k2 + 1, by rw [understoryref06_Ordered.l0, if_pos (by omega), if_pos (by omega), if_pos h0, decide_eq_false hp]; exact hk2⟩
    · obtain ⟨k2, hk2⟩ := hF (by omega)
      exact ⟨k2 + 1, by rw [understoryref06_Ordered.l0, if_pos (by omega), if_pos (by omega), if_neg h0]; exact hk2⟩
/-- the reference's Ordered says what the program's says -/
theorem ordered_eq (l : List S77) (level : Int) (hl : l.length ≤ 100) : ∃ k, understoryref06_Ordered.f k l level = some (ordL l level) := by
  obtain ⟨k, hk⟩ := ord_go l level hl _ 0 (Nat.zero_add _)
  rw [← List.range_eq_range'] at hk
  refine ⟨k, ?_⟩
  unfold understoryref06_Ordered.f understoryref06_inLevel.f ordL inB
  by_cases h0 : level ≥ 0
  · rw [if_pos h0, decide_eq_true (show 0 ≤ level from h0)]
    by_cases h1 : level ≤ 20
    · rw [decide_eq_true h1]; simpa using hk
    · rw [decide_eq_false h1]; simp
  · rw [if_neg h0, decide_eq_false (show ¬ 0 ≤ level from h0)]; simp
theorem count_go (l : List S77) (hl : l.length ≤ 100) : ∀ m i, i + m = l.length → ∃ k, understoryref06_CountOf.l0 k l (befL (l.take i)) i = some (befL l)
  | 0, i, h => by
    obtain rfl : i = l.length := by omega
    exact ⟨1, by rw [understoryref06_CountOf.l0, if_neg (by omega), List.take_length]⟩
  | m + 1, i, h => by
    obtain ⟨k, hk⟩ := count_go l hl m (i + 1) (by omega)
    refine ⟨k + 1, ?_⟩
    rw [understoryref06_CountOf.l0, if_pos (by omega), if_pos (by omega), wsuc i (by omega)]
    rw [befL_snoc l i (by omega)] at hk
    simpa [rd_T77] using hk
theorem countOf_eq (l : List S77) (level : Int) (hl : l.length ≤ 100) : ∃ k, understoryref06_CountOf.f k l level = some (countI l level) := by
  obtain ⟨k, hk⟩ := count_go l hl _ 0 (Nat.zero_add _)
  refine ⟨k, ?_⟩
  unfold understoryref06_CountOf.f countI
  split
  · rfl
  · simpa [befL] using hk
set_option maxRecDepth 100000 in
set_option maxHeartbeats 4000000 in
theorem orders_1 (A : Option Addr) (n c : Nat) (level : Int) (lo hi : ByteArray) (w : World) (HSANE : Aside0 (Say w 15 #[] (.bool true))) (HFEW : Aside0 (Ans1 w A n c false)) :
    Calls Try.prog 3 #[.slice A n c, .int .i64 level, .string lo, .string hi] w fun e w' => e = .returned (.bool true) ∧ Below w.heap.size w w' := by
  go_enter Try.func3, Try.ntmps3
  go_wp2_with (first
    | ((go_at_call 14); (with_reducible refine (HFEW.out _ _ (by repeat (first | exact HB.out | exact Below.refl _ _ | apply below_alloc | apply pw_below_drewN | apply below_drew1)) ?hg).mono ?_); (case hg => first | exact blk_new _ _ | exact heap_alloc_new _ _); rintro e w9 ⟨rfl, hb9⟩; (try clear HB); have HB := Aside0.mk hb9; clear hb9)
    | ((go_at_call 15); (with_reducible refine (HSANE.out _ (by repeat (first | exact HB.out | apply below_alloc))).mono ?_); rintro e w9 ⟨rfl, hbl⟩; have HBn := Aside0.mk (below_tr2 (w := w) (by repeat (first | exact HB.out | apply below_alloc)) hbl); (try clear HB); have HB := HBn; clear HBn hbl))
  go_ret
  exact ⟨rfl, HB.out⟩
set_option maxRecDepth 100000 in
set_option maxHeartbeats 4000000 in
theorem orders_2 (A : Option Addr) (n c : Nat) (level : Int) (lo hi : ByteArray) (w : World) (HSANE : Aside0 (Say w 15 #[] (.bool true))) (HFEW : Aside0 (Ans1 w A n c true)) (klo : 100 < lo.size) :
    Calls Try.prog 3 #[.slice A n c, .int .i64 level, .string lo, .string hi] w fun e w' => e = .returned (.bool true) ∧ Below w.heap.size w w' := by
  have hlo : decide ((100 : Int) < (lo.size : Int)) = true := decide_eq_true (by omega)
  have hlo' : decide (100 < lo.size) = true := decide_eq_true (by omega)
  clear klo
  go_enter Try.func3, Try.ntmps3
  go_wp2_with (first
    | ((go_at_call 14); (with_reducible refine (HFEW.out _ _ (by repeat (first | exact HB.out | exact Below.refl _ _ | apply below_alloc | apply pw_below_drewN | apply below_drew1)) ?hg).mono ?_); (case hg => first | exact blk_new _ _ | exact heap_alloc_new _ _); rintro e w9 ⟨rfl, hb9⟩; (try clear HB); have HB := Aside0.mk hb9; clear hb9)
    | ((go_at_call 15); (with_reducible refine (HSANE.out _ (by repeat (first | exact HB.out | apply below_alloc))).mono ?_); rintro e w9 ⟨rfl, hbl⟩; have HBn := Aside0.mk (below_tr2 (w := w) (by repeat (first | exact HB.out | apply below_alloc)) hbl); (try clear HB); have HB := HBn; clear HBn hbl))
  go_ret
  exact ⟨rfl, HB.out⟩
set_option maxRecDepth 100000 in
set_option maxHeartbeats 4000000 in
theorem orders_3 (A : Option Addr) (n c : Nat) (level : Int) (lo hi : ByteArray) (w : World) (HSANE : Aside0 (Say w 15 #[] (.bool true))) (HFEW : Aside0 (Ans1 w A n c true)) (klo : ¬ 100 < lo.size) (khi : 100 < hi.size) :
    Calls Try.prog 3 #[.slice A n c, .int .i64 level, .string lo, .string hi] w fun e w' => e = .returned (.bool true) ∧ Below w.heap.size w w' := by
  have hlo : decide ((100 : Int) < (lo.size : Int)) = false := decide_eq_false (by omega)
  have hlo' : decide (100 < lo.size) = false := decide_eq_false (by omega)
  clear klo
  have hhi : decide ((100 : Int) < (hi.size : Int)) = true := decide_eq_true (by omega)
  have hhi' : decide (100 < hi.size) = true := decide_eq_true (by omega)
  clear khi
  go_enter Try.func3, Try.ntmps3
  go_wp2_with (first
    | ((go_at_call 14); (with_reducible refine (HFEW.out _ _ (by repeat (first | exact HB.out | exact Below.refl _ _ | apply below_alloc | apply pw_below_drewN | apply below_drew1)) ?hg).mono ?_); (case hg => first | exact blk_new _ _ | exact heap_alloc_new _ _); rintro e w9 ⟨rfl, hb9⟩; (try clear HB); have HB := Aside0.mk hb9; clear hb9)
    | ((go_at_call 15); (with_reducible refine (HSANE.out _ (by repeat (first | exact HB.out | apply below_alloc))).mono ?_); rintro e w9 ⟨rfl, hbl⟩; have HBn := Aside0.mk (below_tr2 (w := w) (by repeat (first | exact HB.out | apply below_alloc)) hbl); (try clear HB); have HB := HBn; clear HBn hbl))
  go_ret
  exact ⟨rfl, HB.out⟩
set_option maxRecDepth 100000 in
set_option maxHeartbeats 4000000 in
theorem orders_4 (A : Option Addr) (n c : Nat) (level : Int) (lo hi : ByteArray) (w : World) (ch : Int) (sm : Bool) (n1 : Int) (HSANE : Aside0 (Say w 15 #[] (.bool true))) (HFEW : Aside0 (Ans1 w A n c true)) (klo : ¬ 100 < lo.size) (khi : ¬ 100 < hi.size)
    (H16 : Aside0 (Say w 16 #[.slice A n c, .int .i64 level] (.bool false))) (H20 : Aside0 (Say w 20 #[.slice A n c, .int .i64 level] (.bool sm))) (H21 : Aside0 (Say w 21 #[.slice A n c, .int .i64 level] (.bool false))) (H22 : Aside0 (Say w 22 #[.slice A n c, .int .i64 level, .string lo, .string hi] (.int .i64 ch))) (H23 : Aside0 (Say w 23 #[.slice A n c, .int .i64 level, .string lo, .string hi] (.int .i64 ch))) :
    Calls Try.prog 3 #[.slice A n c, .int .i64 level, .string lo, .string hi] w fun e w' => e = .returned (.bool true) ∧ Below w.heap.size w w' := by
  have hlo : decide ((100 : Int) < (lo.size : Int)) = false := decide_eq_false (by omega)
  have hlo' : decide (100 < lo.size) = false := decide_eq_false (by omega)
  clear klo
  have hhi : decide ((100 : Int) < (hi.size : Int)) = false := decide_eq_false (by omega)
  have hhi' : decide (100 < hi.size) = false := decide_eq_false (by omega)
  clear khi
  go_enter Try.func3, Try.ntmps3
  go_wp2_with (first
    | ((go_at_call 14); (with_reducible refine (HFEW.out _ _ (by repeat (first | exact HB.out | exact Below.refl _ _ | apply below_alloc | apply pw_below_drewN | apply below_drew1)) ?hg).mono ?_); (case hg => first | exact blk_new _ _ | exact heap_alloc_new _ _); rintro e w9 ⟨rfl, hb9⟩; (try clear HB); have HB := Aside0.mk hb9; clear hb9)
    | ((go_at_call 15); (with_reducible refine (HSANE.out _ (by repeat (first | exact HB.out | apply below_alloc))).mono ?_); rintro e w9 ⟨rfl, hbl⟩; have HBn := Aside0.mk (below_tr2 (w := w) (by repeat (first | exact HB.out | apply below_alloc)) hbl); (try clear HB); have HB := HBn; clear HBn hbl)
    | ((go_at_call 16); (with_reducible refine (H16.out _ (by repeat (first | exact HB.out | apply below_alloc))).mono ?_); rintro e w9 ⟨rfl, hbl⟩; have HBn := Aside0.mk (below_tr2 (w := w) (by repeat (first | exact HB.out | apply below_alloc)) hbl); (try clear HB); have HB := HBn; clear HBn hbl)
    | ((go_at_call 20); (with_reducible refine (H20.out _ (by repeat (first | exact HB.out | apply below_alloc))).mono ?_); rintro e w9 ⟨rfl, hbl⟩; have HBn := Aside0.mk (below_tr2 (w := w) (by repeat (first | exact HB.out | apply below_alloc)) hbl); (try clear HB); have HB := HBn; clear HBn hbl)
    | ((go_at_call 21); (with_reducible refine (H21.out _ (by repeat (first | exact HB.out | apply below_alloc))).mono ?_); rintro e w9 ⟨rfl, hbl⟩; have HBn := Aside0.mk (below_tr2 (w := w) (by repeat (first | exact HB.out | apply below_alloc)) hbl); (try clear HB); have HB := HBn; clear HBn hbl)
    | ((go_at_call 22); (with_reducible refine (H22.out _ (by repeat (first | exact HB.out | apply below_alloc))).mono ?_); rintro e w9 ⟨rfl, hbl⟩; have HBn := Aside0.mk (below_tr2 (w := w) (by repeat (first | exact HB.out | apply below_alloc)) hbl); (try clear HB); have HB := HBn; clear HBn hbl)
    | ((go_at_call 23); (with_reducible refine (H23.out _ (by repeat (first | exact HB.out | apply below_alloc))).mono ?_); rintro e w9 ⟨rfl, hbl⟩; have HBn := Aside0.mk (below_tr2 (w := w) (by repeat (first | exact HB.out | apply below_alloc)) hbl); (try clear HB); have HB := HBn; clear HBn hbl))
  go_ret
  exact ⟨rfl, HB.out⟩
set_option maxRecDepth 100000 in
set_option maxHeartbeats 4000000 in
theorem orders_5 (A : Option Addr) (n c : Nat) (level : Int) (lo hi : ByteArray) (w : World) (ch : Int) (sm : Bool) (n1 : Int) (HSANE : Aside0 (Say w 15 #[] (.bool true))) (HFEW : Aside0 (Ans1 w A n c true)) (klo : ¬ 100 < lo.size) (khi : ¬ 100 < hi.size)
    (H16 : Aside0 (Say w 16 #[.slice A n c, .int .i64 level] (.bool true))) (H20 : Aside0 (Say w 20 #[.slice A n c, .int .i64 level] (.bool sm))) (H21 : Aside0 (Say w 21 #[.slice A n c, .int .i64 level] (.bool true))) (H22 : Aside0 (Say w 22 #[.slice A n c, .int .i64 level, .string lo, .string hi] (.int .i64 ch))) (H23 : Aside0 (Say w 23 #[.slice A n c, .int .i64 level, .string lo, .string hi] (.int .i64 ch))) (H24 : Aside0 (Say w 24 #[.slice A n c, .int .i64 level] (.bool sm))) (H17 : Aside0 (Say w 17 #[.slice A n c] (.bool false))) :
    Calls Try.prog 3 #[.slice A n c, .int .i64 level, .string lo, .string hi] w fun e w' => e = .returned (.bool true) ∧ Below w.heap.size w w' := by
  have hlo : decide ((100 : Int) < (lo.size : Int)) = false := decide_eq_false (by omega)
  have hlo' : decide (100 < lo.size) = false := decide_eq_false (by omega)
  clear klo
  have hhi : decide ((100 : Int) < (hi.size : Int)) = false := decide_eq_false (by omega)
  have hhi' : decide (100 < hi.size) = false := decide_eq_false (by omega)
  clear khi
  go_enter Try.func3, Try.ntmps3
  go_wp2_with (first
    | ((go_at_call 14); (with_reducible refine (HFEW.out _ _ (by repeat (first | exact HB.out | exact Below.refl _ _ | apply below_alloc | apply pw_below_drewN | apply below_drew1)) ?hg).mono ?_); (case hg => first | exact blk_new _ _ | exact heap_alloc_new _ _); rintro e w9 ⟨rfl, hb9⟩; (try clear HB); have HB := Aside0.mk hb9; clear hb9)
    | ((go_at_call 15); (with_reducible refine (HSANE.out _ (by repeat (first | exact HB.out | apply below_alloc))).mono ?_); rintro e w9 ⟨rfl, hbl⟩; have HBn := Aside0.mk (below_tr2 (w := w) (by repeat (first | exact HB.out | apply below_alloc)) hbl); (try clear HB); have HB := HBn; clear HBn hbl)
    | ((go_at_call 16); (with_reducible refine (H16.out _ (by repeat (first | exact HB.out | apply below_alloc))).mono ?_); rintro e w9 ⟨rfl, hbl⟩; have HBn := Aside0.mk (below_tr2 (w := w) (by repeat (first | exact HB.out | apply below_alloc)) hbl); (try clear HB); have HB := HBn; clear HBn hbl)
    | ((go_at_call 20); (with_reducible refine (H20.out _ (by repeat (first | exact HB.out | apply below_alloc))).mono ?_); rintro e w9 ⟨rfl, hbl⟩; have HBn := Aside0.mk (below_tr2 (w := w) (by repeat (first | exact HB.out | apply below_alloc)) hbl); (try clear HB); have HB := HBn; clear HBn hbl)
    | ((go_at_call 21); (with_reducible refine (H21.out _ (by repeat (first | exact HB.out | apply below_alloc))).mono ?_); rintro e w9 ⟨rfl, hbl⟩; have HBn := Aside0.mk (below_tr2 (w := w) (by repeat (first | exact HB.out | apply below_alloc)) hbl); (try clear HB); have HB := HBn; clear HBn hbl)
    | ((go_at_call 22); (with_reducible refine (H22.out _ (by repeat (first | exact HB.out | apply below_alloc))).mono ?_); rintro e w9 ⟨rfl, hbl⟩; have HBn := Aside0.mk (below_tr2 (w := w) (by repeat (first | exact HB.out | apply below_alloc)) hbl); (try clear HB); have HB := HBn; clear HBn hbl)
    | ((go_at_call 23); (with_reducible refine (H23.out _ (by repeat (first | exact HB.out | apply below_alloc))).mono ?_); rintro e w9 ⟨rfl, hbl⟩; have HBn := Aside0.mk (below_tr2 (w := w) (by repeat (first | exact HB.out | apply below_alloc)) hbl); (try clear HB); have HB := HBn; clear HBn hbl)
    | ((go_at_call 24); (with_reducible refine (H24.out _ (by repeat (first | exact HB.out | apply below_alloc))).mono ?_); rintro e w9 ⟨rfl, hbl⟩; have HBn := Aside0.mk (below_tr2 (w := w) (by repeat (first | exact HB.out | apply below_alloc)) hbl); (try clear HB); have HB := HBn; clear HBn hbl)
    | ((go_at_call 17); (with_reducible refine (H17.out _ (by repeat (first | exact HB.out | apply below_alloc))).mono ?_); rintro e w9 ⟨rfl, hbl⟩; have HBn := Aside0.mk (below_tr2 (w := w) (by repeat (first | exact HB.out | apply below_alloc)) hbl); (try clear HB); have HB := HBn; clear HBn hbl))
  go_ret
  exact ⟨rfl, HB.out⟩
set_option maxRecDepth 100000 in
set_option maxHeartbeats 4000000 in
theorem orders_6 (A : Option Addr) (n c : Nat) (level : Int) (lo hi : ByteArray) (w : World) (ch : Int) (sm : Bool) (n1 : Int) (HSANE : Aside0 (Say w 15 #[] (.bool true))) (HFEW : Aside0 (Ans1 w A n c true)) (klo : ¬ 100 < lo.size) (khi : ¬ 100 < hi.size)
    (H16 : Aside0 (Say w 16 #[.slice A n c, .int .i64 level] (.bool true))) (H20 : Aside0 (Say w 20 #[.slice A n c, .int .i64 level] (.bool sm))) (H21 : Aside0 (Say w 21 #[.slice A n c, .int .i64 level] (.bool true))) (H22 : Aside0 (Say w 22 #[.slice A n c, .int .i64 level, .string lo, .string hi] (.int .i64 ch))) (H23 : Aside0 (Say w 23 #[.slice A n c, .int .i64 level, .string lo, .string hi] (.int .i64 ch))) (H24 : Aside0 (Say w 24 #[.slice A n c, .int .i64 level] (.bool sm))) (H17 : Aside0 (Say w 17 #[.slice A n c] (.bool true))) (H18 : Aside0 (Say w 18 #[.slice A n c, .int .i64 level] (.int .i64 n1))) (H19 : Aside0 (Say w 19 #[.slice A n c, .int .i64 level] (.int .i64 n1))) :
    Calls Try.prog 3 #[.slice A n c, .int .i64 level, .string lo, .string hi] w fun e w' => e = .returned (.bool true) ∧ Below w.heap.size w w' := by
  have hlo : decide ((100 : Int) < (lo.size : Int)) = false := decide_eq_false (by omega)
  have hlo' : decide (100 < lo.size) = false := decide_eq_false (by omega)
  clear klo
  have hhi : decide ((100 : Int) < (hi.size : Int)) = false := decide_eq_false (by omega)
  have hhi' : decide (100 < hi.size) = false := decide_eq_false (by omega)
  clear khi
  go_enter Try.func3, Try.ntmps3
  go_wp2_with (first
    | ((go_at_call 14); (with_reducible refine (HFEW.out _ _ (by repeat (first | exact HB.out | exact Below.refl _ _ | apply below_alloc | apply pw_below_drewN | apply below_drew1)) ?hg).mono ?_); (case hg => first | exact blk_new _ _ | exact heap_alloc_new _ _); rintro e w9 ⟨rfl, hb9⟩; (try clear HB); have HB := Aside0.mk hb9; clear hb9)
    | ((go_at_call 15); (with_reducible refine (HSANE.out _ (by repeat (first | exact HB.out | apply below_alloc))).mono ?_); rintro e w9 ⟨rfl, hbl⟩; have HBn := Aside0.mk (below_tr2 (w := w) (by repeat (first | exact HB.out | apply below_alloc)) hbl); (try clear HB); have HB := HBn; clear HBn hbl)
    | ((go_at_call 16); (with_reducible refine (H16.out _ (by repeat (first | exact HB.out | apply below_alloc))).mono ?_); rintro e w9 ⟨rfl, hbl⟩; have HBn := Aside0.mk (below_tr2 (w := w) (by repeat (first | exact HB.out | apply below_alloc)) hbl); (try clear HB); have HB := HBn; clear HBn hbl)
    | ((go_at_call 20); (with_reducible refine (H20.out _ (by repeat (first | exact HB.out | apply below_alloc))).mono ?_); rintro e w9 ⟨rfl, hbl⟩; have HBn := Aside0.mk (below_tr2 (w := w) (by repeat (first | exact HB.out | apply below_alloc)) hbl); (try clear HB); have HB := HBn; clear HBn hbl)
    | ((go_at_call 21); (with_reducible refine (H21.out _ (by repeat (first | exact HB.out | apply below_alloc))).mono ?_); rintro e w9 ⟨rfl, hbl⟩; have HBn := Aside0.mk (below_tr2 (w := w) (by repeat (first | exact HB.out | apply below_alloc)) hbl); (try clear HB); have HB := HBn; clear HBn hbl)
    | ((go_at_call 22); (with_reducible refine (H22.out _ (by repeat (first | exact HB.out | apply below_alloc))).mono ?_); rintro e w9 ⟨rfl, hbl⟩; have HBn := Aside0.mk (below_tr2 (w := w) (by repeat (first | exact HB.out | apply below_alloc)) hbl); (try clear HB); have HB := HBn; clear HBn hbl)
    | ((go_at_call 23); (with_reducible refine (H23.out _ (by repeat (first | exact HB.out | apply below_alloc))).mono ?_); rintro e w9 ⟨rfl, hbl⟩; have HBn := Aside0.mk (below_tr2 (w := w) (by repeat (first | exact HB.out | apply below_alloc)) hbl); (try clear HB); have HB := HBn; clear HBn hbl)
    | ((go_at_call 24); (with_reducible refine (H24.out _ (by repeat (first | exact HB.out | apply below_alloc))).mono ?_); rintro e w9 ⟨rfl, hbl⟩; have HBn := Aside0.mk (below_tr2 (w := w) (by repeat (first | exact HB.out | apply below_alloc)) hbl); (try clear HB); have HB := HBn; clear HBn hbl)
    | ((go_at_call 17); (with_reducible refine (H17.out _ (by repeat (first | exact HB.out | apply below_alloc))).mono ?_); rintro e w9 ⟨rfl, hbl⟩; have HBn := Aside0.mk (below_tr2 (w := w) (by repeat (first | exact HB.out | apply below_alloc)) hbl); (try clear HB); have HB := HBn; clear HBn hbl)
    | ((go_at_call 18); (with_reducible refine (H18.out _ (by repeat (first | exact HB.out | apply below_alloc))).mono ?_); rintro e w9 ⟨rfl, hbl⟩; have HBn := Aside0.mk (below_tr2 (w := w) (by repeat (first | exact HB.out | apply below_alloc)) hbl); (try clear HB); have HB := HBn; clear HBn hbl)
    | ((go_at_call 19); (with_reducible refine (H19.out _ (by repeat (first | exact HB.out | apply below_alloc))).mono ?_); rintro e w9 ⟨rfl, hbl⟩; have HBn := Aside0.mk (below_tr2 (w := w) (by repeat (first | exact HB.out | apply below_alloc)) hbl); (try clear HB); have HB := HBn; clear HBn hbl))
  go_ret
  exact ⟨rfl, HB.out⟩
theorem orders_c (l : List S77) (A : Option Addr) (c : Nat) (level : Int) (lo hi : ByteArray) (w : World) (hr : Kd.C k77 w A l.length l) (hc : l.length ≤ c) :
    Calls Try.prog 3 #[.slice A l.length c, .int .i64 level, .string lo, .string hi] w fun e w' => e = .returned (.bool true) ∧ Below w.heap.size w w' := by
  obtain ⟨bf, hf, HF⟩ := few_one l
  have HFEW := Aside0.mk (HF w A c hr hc)
  have HS := Aside0.mk (show Say w 15 #[] (.bool true) from fun w1 _ => sane_c w1)
  cases bf with
  | false => exact orders_1 A l.length c level lo hi w HS HFEW
  | true =>
  by_cases klo : 100 < lo.size
  · exact orders_2 A l.length c level lo hi w HS HFEW klo
  by_cases khi : 100 < hi.size
  · exact orders_3 A l.length c level lo hi w HS HFEW klo khi
  have hl := (hf rfl).1
  have hlen : l.length ≤ 1000000 := by omega
  have hfine : Fine l := by
    refine ⟨hlen, fun x hx => ?_⟩
    obtain ⟨j, hj, rfl⟩ := List.getElem_of_mem hx
    have := (hf rfl).2 j hj
    rw [show l.getD j z77 = l[j] by simp [hj]] at this
    omega
  obtain ⟨k0, e0⟩ := ordered_eq l level hl
  obtain ⟨kc, bc, ec, _⟩ := counted_t l hl
  obtain ⟨kn, en⟩ := countOf_eq l level hl
  have H16 := Aside0.mk (say_drawn (w := w) fun w1 b => understoryref06_Ordered.calls k0 A c l level _ w1 (Kd.C_below hr b) hc e0)
  have H17 := Aside0.mk (say_drawn (w := w) fun w1 b => understorylaw06_counted.calls kc A c l bc w1 (Kd.C_below hr b) hc ec)
  have H18 := Aside0.mk (show Say w 18 #[.slice A l.length c, .int .i64 level] _ from fun w1 b => countOf_c l A c level w1 (Kd.C_below hr b) hc hlen)
  have H19 := Aside0.mk (say_drawn (w := w) fun w1 b => understoryref06_CountOf.calls kn A c l level _ w1 (Kd.C_below hr b) hc en)
  have H20 := Aside0.mk (show Say w 20 #[.slice A l.length c, .int .i64 level] _ from fun w1 b => small_c l A c level w1 (Kd.C_below hr b) hfine)
  have H21 := Aside0.mk (show Say w 21 #[.slice A l.length c, .int .i64 level] _ from fun w1 b => ordered_c l A c level w1 (Kd.C_below hr b) hlen)
  have H22 := Aside0.mk (show Say w 22 #[.slice A l.length c, .int .i64 level, .string lo, .string hi] _ from fun w1 b => check_c l A c level lo hi w1 (Kd.C_below hr b) hfine)
  have H23 := Aside0.mk (show Say w 23 #[.slice A l.length c, .int .i64 level, .string lo, .string hi] _ from fun w1 b => rcheck_c l A c level lo hi w1 (Kd.C_below hr b) hfine)
  have H24 := Aside0.mk (show Say w 24 #[.slice A l.length c, .int .i64 level] _ from fun w1 b => rsmall_c l A c level w1 (Kd.C_below hr b) hfine)
  generalize ordL l level = o at H16 H21
  cases o with
  | false => exact orders_4 A l.length c level lo hi w _ _ 0 HS HFEW klo khi H16 H20 H21 H22 H23
  | true =>
    cases bc with
    | false => exact orders_5 A l.length c level lo hi w _ _ 0 HS HFEW klo khi H16 H20 H21 H22 H23 H24 H17
    | true => exact orders_6 A l.length c level lo hi w _ _ _ HS HFEW klo khi H16 H20 H21 H22 H23 H24 H17 H18 H19
end Go.Proofs.Ytalncokpbgbccaa.E

/- What a slice of entries that came in reads as. -/
namespace Go.Proofs.Ytalncokpbgbccaa.E
set_option linter.unusedVariables false
set_option linter.unusedSimpArgs false
open Go.ChangeShapes Go.WideShapes Go.Deep Go.RowKit Go.Proofs.YtalncokpbgbccaaW.PrintWords Go.Proofs.YtalncokpbgbccaaW.PrintLast Go.Proofs.YtalncokpbgbccaaW.PrintMore
section
variable {H : Type} {enc : TypeId × Value → H} {w : World} {base : Nat} {spare : Nat → Bool} {held : Bool}
theorem cells77 : Try.prog.cellsOf 77 = 22 := by kernel_rfl
theorem cells75 : Try.prog.cellsOf 75 = 16 := by kernel_rfl
theorem cells3 : Try.prog.cellsOf 3 = 1 := by kernel_rfl
theorem cellsU8 : Try.prog.cellsOf 5 = 1 := by kernel_rfl
theorem cells9 : Try.prog.cellsOf 9 = 1 := by kernel_rfl
theorem wf_int (n : Int) (h : (Lit.int .i64 n).wf = true) : -9223372036854775808 ≤ n ∧ n ≤ 9223372036854775807 := by
  have e1 : IntKind.i64.min = -9223372036854775808 := rfl
  have e2 : IntKind.i64.max = 9223372036854775807 := rfl
  simp [Lit.wf] at h
  omega
def I64 (n : Int) : Prop := -9223372036854775808 ≤ n ∧ n ≤ 9223372036854775807
def WfE (y : S77) : Prop := I64 y.f2 ∧ I64 y.f3 ∧ I64 y.f4 ∧ I64 y.f5
theorem open_byte {n : Nat} {c : Value} {x : DataW H × List MemPlace} (h : DataW.trod enc Try.prog w base spare held n 5 [c] = some x) : ∃ k : Int, c = .int .u8 k := by
  obtain ⟨k, e, _, _⟩ := DataW.trod_int Try.underlying5 h
  exact ⟨k, by simpa using e⟩
set_option maxRecDepth 100000 in
theorem open_digest {fuel : Nat} {cs : List Value} {x : DataW H × List MemPlace} (h : DataW.trod enc Try.prog w base spare held fuel 75 cs = some x) :
    ∃ y : S75, cs = [.int .u8 y.f0, .int .u8 y.f1, .int .u8 y.f2, .int .u8 y.f3, .int .u8 y.f4, .int .u8 y.f5, .int .u8 y.f6, .int .u8 y.f7, .int .u8 y.f8, .int .u8 y.f9, .int .u8 y.f10, .int .u8 y.f11, .int .u8 y.f12, .int .u8 y.f13, .int .u8 y.f14, .int .u8 y.f15] := by
  obtain ⟨xs, n, _, _, hlen, hxl, hf⟩ := DataW.trod_array Try.underlying75 h
  rw [cells75] at hlen
  rw [cellsU8] at hf
  match cs, hlen with
  | [c0, c1, c2, c3, c4, c5, c6, c7, c8, c9, c10, c11, c12, c13, c14, c15], _ =>
    have h0 : DataW.trod enc Try.prog w base spare held n 5 [c0] = xs[0]? := hf 0 (by decide)
    rw [List.getElem?_eq_getElem (by omega)] at h0
    obtain ⟨k0, rfl⟩ := open_byte h0
    have h1 : DataW.trod enc Try.prog w base spare held n 5 [c1] = xs[1]? := hf 1 (by decide)
    rw [List.getElem?_eq_getElem (by omega)] at h1
    obtain ⟨k1, rfl⟩ := open_byte h1
    have h2 : DataW.trod enc Try.prog w base spare held n 5 [c2] = xs[2]? := hf 2 (by decide)
    rw [List.getElem?_eq_getElem (by omega)] at h2
    obtain ⟨k2, rfl⟩ := open_byte h2
    have h3 : DataW.trod enc Try.prog w base spare held n 5 [c3] = xs[3]? := hf 3 (by decide)
    rw [List.getElem?_eq_getElem (by omega)] at h3
    obtain ⟨k3, rfl⟩ := open_byte h3
    have h4 : DataW.trod enc Try.prog w base spare held n 5 [c4] = xs[4]? := hf 4 (by decide)
    rw [List.getElem?_eq_getElem (by omega)] at h4
    obtain ⟨k4, rfl⟩ := open_byte h4
    have h5 : DataW.trod enc Try.prog w base spare held n 5 [c5] = xs[5]? := hf 5 (by decide)
    rw [List.getElem?_eq_getElem (by omega)] at h5
    obtain ⟨k5, rfl⟩ := open_byte h5
    have h6 : DataW.trod enc Try.prog w base spare held n 5 [c6] = xs[6]? := hf 6 (by decide)
    rw [List.getElem?_eq_getElem (by omega)] at h6
    obtain ⟨k6, rfl⟩ := open_byte h6
    have h7 : DataW.trod enc Try.prog w base spare held n 5 [c7] = xs[7]? := hf 7 (by decide)
    rw [List.getElem?_eq_getElem (by omega)] at h7
    obtain ⟨k7, rfl⟩ := open_byte h7
    have h8 : DataW.trod enc Try.prog w base spare held n 5 [c8] = xs[8]? := hf 8 (by decide)
    rw [List.getElem?_eq_getElem (by omega)] at h8
    obtain ⟨k8, rfl⟩ := open_byte h8
    have h9 : DataW.trod enc Try.prog w base spare held n 5 [c9] = xs[9]? := hf 9 (by decide)
    rw [List.getElem?_eq_getElem (by omega)] at h9
    obtain ⟨k9, rfl⟩ := open_byte h9
    have h10 : DataW.trod enc Try.prog w base spare held n 5 [c10] = xs[10]? := hf 10 (by decide)
    rw [List.getElem?_eq_getElem (by omega)] at h10
    obtain ⟨k10, rfl⟩ := open_byte h10
    have h11 : DataW.trod enc Try.prog w base spare held n 5 [c11] = xs[11]? := hf 11 (by decide)
    rw [List.getElem?_eq_getElem (by omega)] at h11
    obtain ⟨k11, rfl⟩ := open_byte h11
    have h12 : DataW.trod enc Try.prog w base spare held n 5 [c12] = xs[12]? := hf 12 (by decide)
    rw [List.getElem?_eq_getElem (by omega)] at h12
    obtain ⟨k12, rfl⟩ := open_byte h12
    have h13 : DataW.trod enc Try.prog w base spare held n 5 [c13] = xs[13]? := hf 13 (by decide)
    rw [List.getElem?_eq_getElem (by omega)] at h13
    obtain ⟨k13, rfl⟩ := open_byte h13
    have h14 : DataW.trod enc Try.prog w base spare held n 5 [c14] = xs[14]? := hf 14 (by decide)
    rw [List.getElem?_eq_getElem (by omega)] at h14
    obtain ⟨k14, rfl⟩ := open_byte h14
    have h15 : DataW.trod enc Try.prog w base spare held n 5 [c15] = xs[15]? := hf 15 (by decide)
    rw [List.getElem?_eq_getElem (by omega)] at h15
    obtain ⟨k15, rfl⟩ := open_byte h15
    exact ⟨⟨k0, k1, k2, k3, k4, k5, k6, k7, k8, k9, k10, k11, k12, k13, k14, k15⟩, rfl⟩
set_option maxRecDepth 100000 in
theorem open_entry {fuel : Nat} {cs : List Value} {x : DataW H × List MemPlace} (h : DataW.trod enc Try.prog w base spare held fuel 77 cs = some x) :
    ∃ y : S77, cs = (entC y).toList ∧ WfE y := by
  obtain ⟨xs, n, _, hx, hlen, hxl, hf⟩ := DataW.trod_struct Try.underlying77 h
  rw [cells77] at hlen
  have hxl' : xs.length = 7 := hxl
  match cs, hlen with
  | [c0, c1, c2, c3, c4, c5, c6, c7, c8, c9, c10, c11, c12, c13, c14, c15, c16, c17, c18, c19, c20, c21], _ =>
    have g0 : DataW.trod enc Try.prog w base spare held n 9 (([c0, c1, c2, c3, c4, c5, c6, c7, c8, c9, c10, c11, c12, c13, c14, c15, c16, c17, c18, c19, c20, c21].drop 0).take (Try.prog.cellsOf 9)) = xs[0]? := hf 0 _ rfl
    have g1 : DataW.trod enc Try.prog w base spare held n 9 (([c0, c1, c2, c3, c4, c5, c6, c7, c8, c9, c10, c11, c12, c13, c14, c15, c16, c17, c18, c19, c20, c21].drop 1).take (Try.prog.cellsOf 9)) = xs[1]? := hf 1 _ rfl
    have g2 : DataW.trod enc Try.prog w base spare held n 3 (([c0, c1, c2, c3, c4, c5, c6, c7, c8, c9, c10, c11, c12, c13, c14, c15, c16, c17, c18, c19, c20, c21].drop 2).take (Try.prog.cellsOf 3)) = xs[2]? := hf 2 _ rfl
    have g3 : DataW.trod enc Try.prog w base spare held n 3 (([c0, c1, c2, c3, c4, c5, c6, c7, c8, c9, c10, c11, c12, c13, c14, c15, c16, c17, c18, c19, c20, c21].drop 3).take (Try.prog.cellsOf 3)) = xs[3]? := hf 3 _ rfl
    have g4 : DataW.trod enc Try.prog w base spare held n 3 (([c0, c1, c2, c3, c4, c5, c6, c7, c8, c9, c10, c11, c12, c13, c14, c15, c16, c17, c18, c19, c20, c21].drop 4).take (Try.prog.cellsOf 3)) = xs[4]? := hf 4 _ rfl
    have g5 : DataW.trod enc Try.prog w base spare held n 3 (([c0, c1, c2, c3, c4, c5, c6, c7, c8, c9, c10, c11, c12, c13, c14, c15, c16, c17, c18, c19, c20, c21].drop 5).take (Try.prog.cellsOf 3)) = xs[5]? := hf 5 _ rfl
    have g6 : DataW.trod enc Try.prog w base spare held n 75 (([c0, c1, c2, c3, c4, c5, c6, c7, c8, c9, c10, c11, c12, c13, c14, c15, c16, c17, c18, c19, c20, c21].drop 6).take (Try.prog.cellsOf 75)) = xs[6]? := hf 6 _ rfl
    rw [List.getElem?_eq_getElem (by omega), cells9] at g0 g1
    rw [List.getElem?_eq_getElem (by omega), cells3] at g2 g3 g4 g5
    rw [List.getElem?_eq_getElem (by omega), cells75] at g6
    simp only [List.drop_zero, List.drop_succ_cons, List.take_succ_cons, List.take_zero, List.take_nil] at g0 g1 g2 g3 g4 g5 g6
    obtain ⟨s0, e0, _, _⟩ := DataW.trod_string Try.underlying9 g0
    obtain ⟨s1, e1, _, _⟩ := DataW.trod_string Try.underlying9 g1
    obtain ⟨n2, e2, _, w2⟩ := DataW.trod_int Try.underlying3 g2
    obtain ⟨n3, e3, _, w3⟩ := DataW.trod_int Try.underlying3 g3
    obtain ⟨n4, e4, _, w4⟩ := DataW.trod_int Try.underlying3 g4
    obtain ⟨n5, e5, _, w5⟩ := DataW.trod_int Try.underlying3 g5
    obtain ⟨d, e6⟩ := open_digest g6
    cases e0; cases e1; cases e2; cases e3; cases e4; cases e5; cases e6
    exact ⟨⟨s0, s1, n2, n3, n4, n5, d⟩, rfl, wf_int _ w2, wf_int _ w3, wf_int _ w4, wf_int _ w5⟩
theorem open_entries {fuel : Nat} {A : Option Addr} {len cap : Nat} {x : DataW H × List MemPlace} (h : DataW.trod enc Try.prog w base spare held fuel 22 [.slice A len cap] = some x) :
    ∃ l : List S77, l.length = len ∧ len ≤ cap ∧ Kd.C k77 w A len l ∧ ∀ j, j < l.length → WfE (l.getD j z77) := by
  rcases open_slice Try.underlying22 h with ⟨e, _⟩ | ⟨a, len', cap', m, n, D, Pl, e, hb, hl, hm, hmm, hx, hi⟩
  · cases e
    exact ⟨[], rfl, Nat.le_refl _, Kd.C_nil _ _, fun j hj => by simp at hj⟩
  · cases e
    rw [cells77] at hi
    have hlm : len ≤ m := by rw [hmm]; split <;> omega
    have hone : ∀ i, i < len → ∃ y : S77, (∀ (j : Nat) (u : Value), (entC y).toList[j]? = some u → w.cell? (a.add (i * 22 + j)) = some u) ∧ WfE y := by
      intro i hil
      obtain ⟨cs', h1, h2⟩ := hi i (by omega)
      obtain ⟨y, rfl, hwf⟩ := open_entry h2
      obtain ⟨_, _, hat⟩ := World.cells?_some h1
      refine ⟨y, fun j u hj => ?_, hwf⟩
      have hj3 : j < 22 := (List.getElem?_eq_some_iff.mp hj).1
      rw [← Go.Deep.add_add, hat j hj3]
      exact hj
    have : Inhabited S77 := ⟨z77⟩
    obtain ⟨f, hf⟩ := choose_lt hone
    refine ⟨(List.range len).map f, by simp, hl, ⟨by simp, ?_, fun _ => ⟨a, rfl, ?_⟩⟩, ?_⟩
    · unfold maxLen at hm; omega
    · intro j p hp
      obtain ⟨hjl, hjg⟩ := List.getElem?_eq_some_iff.mp hp
      have hjl' : j < len := by simpa using hjl
      have hpf : f j = p := by simpa using hjg
      subst hpf
      exact ⟨_, rfl, k77_mk w (f j), (hf j hjl').1⟩
    · intro j hj
      have hj' : j < len := by simpa using hj
      have : ((List.range len).map f).getD j z77 = f j := by simp [List.getD, hj']
      rw [this]
      exact (hf j hj').2
end
end Go.Proofs.Ytalncokpbgbccaa.E

