-- Printed by this session's wip/tools/oracle.py, which runs the kit's print program; Lean checks it.
import Derived.Test.YtalncokpbgbccaaNx0
import Derived.Test.YtalncokpbgbccaaMa
namespace Go.Proofs.Ytalncokpbgbccaa.E
open Go.RowKit Go.Proofs.YtalncokpbgbccaaW.PrintWords Go.Proofs.YtalncokpbgbccaaW.PrintLast Go.Proofs.YtalncokpbgbccaaW.PrintMore
attribute [local go_sem] max2_int min2_int max_two min_two max_three min_three max_four min_four   -- for this text's walks alone
set_option linter.unusedVariables false
set_option linter.unusedSimpArgs false

/-! ### understoryref06_Search: function 30 -/
def understoryref06_Search.l0 : Nat → List (S77) → ByteArray → Int → Option (Int × Bool)
  | 0, _, _, _ => none
  | k + 1, x0, x1, x5 => if x5 < (x0.length : Int) then (if 0 ≤ x5 then (if (Op.bytesLess (((rd_T77 x0 x5).f0).toList) x1.toList) = true then (understoryref06_Search.l0 k x0 x1 (wrap64 (x5 + 1))) else (some (x5, (((rd_T77 x0 x5).f0).toList == x1.toList)))) else (none)) else (some (x5, false))
def understoryref06_Search.f (k : Nat) (l0 : List (S77)) (a1 : ByteArray) : Option (Int × Bool) := understoryref06_Search.l0 k l0 a1 0
theorem understoryref06_Search.mono_l : ∀ k, (∀ y0 y1 y2, LeO (understoryref06_Search.l0 k y0 y1 y2) (understoryref06_Search.l0 (k + 1) y0 y1 y2))
  | 0 => fun _ _ _ r h => by simp [understoryref06_Search.l0] at h
  | k + 1 => by
    have ih0 := understoryref06_Search.mono_l k
    · intro y0 y1 y2
      unfold understoryref06_Search.l0
      repeat' first
      | (with_reducible exact ih0 _ _ _)
      | (with_reducible exact LeO.refl _)
      | (with_reducible exact LeO.none _)
      | (with_reducible refine LeO.ite ?_ ?_)
      | (with_reducible refine LeO.bind ?_ (fun _ => ?_))
      | exact ih0 _ _ _
      | exact LeO.none _
      | refine LeO.ite ?_ ?_
      | refine LeO.bind ?_ (fun _ => ?_)
theorem understoryref06_Search.mono : ∀ a0 a1 k, LeO (understoryref06_Search.f k a0 a1) (understoryref06_Search.f (k + 1) a0 a1) := by
  intro a0 a1 k
  have ih0 := understoryref06_Search.mono_l k
  unfold understoryref06_Search.f
  repeat' first
      | (with_reducible exact ih0 _ _ _)
      | (with_reducible exact LeO.refl _)
      | (with_reducible exact LeO.none _)
      | (with_reducible refine LeO.ite ?_ ?_)
      | (with_reducible refine LeO.bind ?_ (fun _ => ?_))
      | exact ih0 _ _ _
      | exact LeO.none _
      | refine LeO.ite ?_ ?_
      | refine LeO.bind ?_ (fun _ => ?_)
set_option maxHeartbeats 8000000 in
set_option maxRecDepth 100000 in
theorem understoryref06_Search.calls (k : Nat) (A0 : Option Addr) (c0 : Nat) (l0 : List (S77)) (a1 : ByteArray) (r1 : Int) (r2 : Bool) (w : World) (hr0 : Kd.C k77 w A0 l0.length l0) (hc0 : l0.length ≤ c0) (h : understoryref06_Search.f k l0 a1 = some (r1, r2)) :
    Calls Try.prog 30 #[.slice A0 l0.length c0, .string a1] w fun e w' => e = .returned (.agg #[.int .i64 r1, .bool r2]) ∧ Below w.heap.size w w' := by
  have hu39 := Try.underlying39
  have HR0 := Aside0.mk hr0
  have HC0 := Aside0.mk hc0
  clear hr0 hc0
  have HB := Aside0.mk (Below.refl w.heap.size w)
  have H : (understoryref06_Search.l0 k l0 a1 0) = some (r1, r2) := h
  clear h
  have H' := Aside0.mk H
  clear H
  go_enter Try.func30, Try.ntmps30
  go_wp2_with (first | ((with_reducible refine gate_dst (N := 4) rfl ?_); refine box_event ?hg (N := 4) ?hd (cs := #[.int .i64 0, .bool false]) (t := 39) ?hr ?_; (case hd => rfl); (case hg => rfl); (case hr => first | (go_simp; done) | (go_simp; rfl)); intro gb301 hg w3 hbox hb; have n0_ := Aside0.mk (below_step (by repeat (first | (with_reducible first | exact HB.out | apply below_alloc | apply pw_below_drewN | apply below_drew1) | exact HB.out)) hb); have n1_ := Aside0.mk (hbox); have n2_ := Aside0.mk ((by rw [hg]; exact (below_size (by repeat (first | (with_reducible first | exact HB.out | apply below_alloc | apply pw_below_drewN | apply below_drew1) | exact HB.out))) : w.heap.size ≤ gb301)); have n3_ := Aside0.mk ((by rw [hg]; exact (below_size (by repeat (first | (with_reducible first | exact HB.out | apply below_alloc | apply pw_below_drewN | apply below_drew1) | exact HB.out))) : w.heap.size ≤ gb301)); clear HB; have HB := n0_; have BK301 := n1_; have GW301 := n2_; have GE301 := n3_; clear n0_ n1_ n2_ n3_; clear hb hbox hg))
  go_loopg [5] k (fun kq v5 w' => ∃ (x5_1 : Int), v5 = .int .i64 x5_1 ∧ Aside0 (understoryref06_Search.l0 kq l0 a1 x5_1 = some (r1, r2)) ∧ Aside0 (kq ≤ k) ∧ Aside0 (w'.heap[gb301]? = some (.cells #[.int .i64 0, .bool false] 39 (0, 0))) ∧ Aside0 (Below w.heap.size w w'))
  case atStart => exact ⟨(0), (by first | rfl | (simp; done) | (simp [*]; done)), H', ⟨Nat.le_refl _⟩, ⟨by (with_reducible repeat (first | refine blk_drewN ?_ _ | refine blk_drew ?_ | refine blk_alloc ?_ _)); exact BK301.out⟩, ⟨by repeat (first | (with_reducible first | exact HB.out | apply below_alloc | apply pw_below_drewN | apply below_drew1 | refine below_set ?_ GE301.out) | exact HB.out)⟩⟩
  case round =>
    clear H'
    try clear p2
    try clear c3
    obtain ⟨x5_1, rfl, HA, HK1, BK301, HB⟩ := hrel
    cases gk with
    | zero => exact absurd HA.out (by simp [understoryref06_Search.l0])
    | succ k1 =>
      have H := HA.out
      clear HA
      simp only [understoryref06_Search.l0] at H
      by_cases c4 : x5_1 < (l0.length : Int)
      · rw [if_pos c4] at H
        have c4b0 : decide (x5_1 < (l0.length : Int)) = true := decide_eq_true c4
        clear c4
        by_cases c5 : 0 ≤ x5_1
        · rw [if_pos c5] at H
          have c5b0 : decide (0 ≤ x5_1) = true := decide_eq_true c5
          clear c5
          by_cases c6 : (Op.bytesLess (((rd_T77 l0 x5_1).f0).toList) a1.toList) = true
          · rw [if_pos c6] at H
            have c6b0 : (Op.bytesLess (((rd_T77 l0 x5_1).f0).toList) a1.toList) = true := c6
            clear c6
            have H' := Aside0.mk H
            clear H
            have p302 : 0 ≤ (x5_1 : Int) := of_decide_eq_true (by first | (with_reducible assumption) | assumption)
            have q302 : x5_1 < (l0.length : Int) := of_decide_eq_true (by first | (with_reducible assumption) | assumption)
            obtain ⟨ad302, e302, hx302_0, hx302_1, hx302_2, hx302_3, hx302_4, hx302_5, hx302_6, hx302_7, hx302_8, hx302_9, hx302_10, hx302_11, hx302_12, hx302_13, hx302_14, hx302_15, hx302_16, hx302_17, hx302_18, hx302_19, hx302_20, hx302_21⟩ := at_T77 HR0.out x5_1 p302 q302
            cases e302
            replace hx302_0 := (HB.out.cell (World.block_lt_of_cell? w _ hx302_0)).trans hx302_0
            replace hx302_1 := (HB.out.cell (World.block_lt_of_cell? w _ hx302_1)).trans hx302_1
            replace hx302_2 := (HB.out.cell (World.block_lt_of_cell? w _ hx302_2)).trans hx302_2
            replace hx302_3 := (HB.out.cell (World.block_lt_of_cell? w _ hx302_3)).trans hx302_3
            replace hx302_4 := (HB.out.cell (World.block_lt_of_cell? w _ hx302_4)).trans hx302_4
            replace hx302_5 := (HB.out.cell (World.block_lt_of_cell? w _ hx302_5)).trans hx302_5
            replace hx302_6 := (HB.out.cell (World.block_lt_of_cell? w _ hx302_6)).trans hx302_6
            replace hx302_7 := (HB.out.cell (World.block_lt_of_cell? w _ hx302_7)).trans hx302_7
            replace hx302_8 := (HB.out.cell (World.block_lt_of_cell? w _ hx302_8)).trans hx302_8
            replace hx302_9 := (HB.out.cell (World.block_lt_of_cell? w _ hx302_9)).trans hx302_9
            replace hx302_10 := (HB.out.cell (World.block_lt_of_cell? w _ hx302_10)).trans hx302_10
            replace hx302_11 := (HB.out.cell (World.block_lt_of_cell? w _ hx302_11)).trans hx302_11
            replace hx302_12 := (HB.out.cell (World.block_lt_of_cell? w _ hx302_12)).trans hx302_12
            replace hx302_13 := (HB.out.cell (World.block_lt_of_cell? w _ hx302_13)).trans hx302_13
            replace hx302_14 := (HB.out.cell (World.block_lt_of_cell? w _ hx302_14)).trans hx302_14
            replace hx302_15 := (HB.out.cell (World.block_lt_of_cell? w _ hx302_15)).trans hx302_15
            replace hx302_16 := (HB.out.cell (World.block_lt_of_cell? w _ hx302_16)).trans hx302_16
            replace hx302_17 := (HB.out.cell (World.block_lt_of_cell? w _ hx302_17)).trans hx302_17
            replace hx302_18 := (HB.out.cell (World.block_lt_of_cell? w _ hx302_18)).trans hx302_18
            replace hx302_19 := (HB.out.cell (World.block_lt_of_cell? w _ hx302_19)).trans hx302_19
            replace hx302_20 := (HB.out.cell (World.block_lt_of_cell? w _ hx302_20)).trans hx302_20
            replace hx302_21 := (HB.out.cell (World.block_lt_of_cell? w _ hx302_21)).trans hx302_21
            replace p302 := eq_true p302
            replace q302 := eq_true q302
            go_wp2
            go_roundg k1
            case measure => have := HK1.out; omega
            case rel => exact ⟨(wrap64 (x5_1 + 1)), (by first | rfl | (simp; done) | (simp [*]; done)), H', ⟨by have := HK1.out; omega⟩, ⟨by (with_reducible repeat (first | refine blk_drewN ?_ _ | refine blk_drew ?_ | refine blk_alloc ?_ _)); exact BK301.out⟩, ⟨by repeat (first | (with_reducible first | exact HB.out | apply below_alloc | apply pw_below_drewN | apply below_drew1 | refine below_set ?_ GE301.out) | exact HB.out)⟩⟩
          · rw [if_neg c6] at H
            have c6b0 : (Op.bytesLess (((rd_T77 l0 x5_1).f0).toList) a1.toList) = false := by simpa using c6
            clear c6
            simp only [Option.some.injEq, Prod.mk.injEq] at H
            obtain ⟨rfl, rfl⟩ := H
            have p302 : 0 ≤ (x5_1 : Int) := of_decide_eq_true (by first | (with_reducible assumption) | assumption)
            have q302 : x5_1 < (l0.length : Int) := of_decide_eq_true (by first | (with_reducible assumption) | assumption)
            obtain ⟨ad302, e302, hx302_0, hx302_1, hx302_2, hx302_3, hx302_4, hx302_5, hx302_6, hx302_7, hx302_8, hx302_9, hx302_10, hx302_11, hx302_12, hx302_13, hx302_14, hx302_15, hx302_16, hx302_17, hx302_18, hx302_19, hx302_20, hx302_21⟩ := at_T77 HR0.out x5_1 p302 q302
            cases e302
            replace hx302_0 := (HB.out.cell (World.block_lt_of_cell? w _ hx302_0)).trans hx302_0
            replace hx302_1 := (HB.out.cell (World.block_lt_of_cell? w _ hx302_1)).trans hx302_1
            replace hx302_2 := (HB.out.cell (World.block_lt_of_cell? w _ hx302_2)).trans hx302_2
            replace hx302_3 := (HB.out.cell (World.block_lt_of_cell? w _ hx302_3)).trans hx302_3
            replace hx302_4 := (HB.out.cell (World.block_lt_of_cell? w _ hx302_4)).trans hx302_4
            replace hx302_5 := (HB.out.cell (World.block_lt_of_cell? w _ hx302_5)).trans hx302_5
            replace hx302_6 := (HB.out.cell (World.block_lt_of_cell? w _ hx302_6)).trans hx302_6
            replace hx302_7 := (HB.out.cell (World.block_lt_of_cell? w _ hx302_7)).trans hx302_7
            replace hx302_8 := (HB.out.cell (World.block_lt_of_cell? w _ hx302_8)).trans hx302_8
            replace hx302_9 := (HB.out.cell (World.block_lt_of_cell? w _ hx302_9)).trans hx302_9
            replace hx302_10 := (HB.out.cell (World.block_lt_of_cell? w _ hx302_10)).trans hx302_10
            replace hx302_11 := (HB.out.cell (World.block_lt_of_cell? w _ hx302_11)).trans hx302_11
            replace hx302_12 := (HB.out.cell (World.block_lt_of_cell? w _ hx302_12)).trans hx302_12
            replace hx302_13 := (HB.out.cell (World.block_lt_of_cell? w _ hx302_13)).trans hx302_13
            replace hx302_14 := (HB.out.cell (World.block_lt_of_cell? w _ hx302_14)).trans hx302_14
            replace hx302_15 := (HB.out.cell (World.block_lt_of_cell? w _ hx302_15)).trans hx302_15
            replace hx302_16 := (HB.out.cell (World.block_lt_of_cell? w _ hx302_16)).trans hx302_16
            replace hx302_17 := (HB.out.cell (World.block_lt_of_cell? w _ hx302_17)).trans hx302_17
            replace hx302_18 := (HB.out.cell (World.block_lt_of_cell? w _ hx302_18)).trans hx302_18
            replace hx302_19 := (HB.out.cell (World.block_lt_of_cell? w _ hx302_19)).trans hx302_19
            replace hx302_20 := (HB.out.cell (World.block_lt_of_cell? w _ hx302_20)).trans hx302_20
            replace hx302_21 := (HB.out.cell (World.block_lt_of_cell? w _ hx302_21)).trans hx302_21
            replace p302 := eq_true p302
            replace q302 := eq_true q302
            have p303 : 0 ≤ (x5_1 : Int) := of_decide_eq_true (by first | (with_reducible assumption) | assumption)
            have q303 : x5_1 < (l0.length : Int) := of_decide_eq_true (by first | (with_reducible assumption) | assumption)
            obtain ⟨ad303, e303, hx303_0, hx303_1, hx303_2, hx303_3, hx303_4, hx303_5, hx303_6, hx303_7, hx303_8, hx303_9, hx303_10, hx303_11, hx303_12, hx303_13, hx303_14, hx303_15, hx303_16, hx303_17, hx303_18, hx303_19, hx303_20, hx303_21⟩ := at_T77 HR0.out x5_1 p303 q303
            obtain rfl : ad302 = ad303 := (by injection e303)
            replace hx303_0 := (HB.out.cell (World.block_lt_of_cell? w _ hx303_0)).trans hx303_0
            replace hx303_1 := (HB.out.cell (World.block_lt_of_cell? w _ hx303_1)).trans hx303_1
            replace hx303_2 := (HB.out.cell (World.block_lt_of_cell? w _ hx303_2)).trans hx303_2
            replace hx303_3 := (HB.out.cell (World.block_lt_of_cell? w _ hx303_3)).trans hx303_3
            replace hx303_4 := (HB.out.cell (World.block_lt_of_cell? w _ hx303_4)).trans hx303_4
            replace hx303_5 := (HB.out.cell (World.block_lt_of_cell? w _ hx303_5)).trans hx303_5
            replace hx303_6 := (HB.out.cell (World.block_lt_of_cell? w _ hx303_6)).trans hx303_6
            replace hx303_7 := (HB.out.cell (World.block_lt_of_cell? w _ hx303_7)).trans hx303_7
            replace hx303_8 := (HB.out.cell (World.block_lt_of_cell? w _ hx303_8)).trans hx303_8
            replace hx303_9 := (HB.out.cell (World.block_lt_of_cell? w _ hx303_9)).trans hx303_9
            replace hx303_10 := (HB.out.cell (World.block_lt_of_cell? w _ hx303_10)).trans hx303_10
            replace hx303_11 := (HB.out.cell (World.block_lt_of_cell? w _ hx303_11)).trans hx303_11
            replace hx303_12 := (HB.out.cell (World.block_lt_of_cell? w _ hx303_12)).trans hx303_12
            replace hx303_13 := (HB.out.cell (World.block_lt_of_cell? w _ hx303_13)).trans hx303_13
            replace hx303_14 := (HB.out.cell (World.block_lt_of_cell? w _ hx303_14)).trans hx303_14
            replace hx303_15 := (HB.out.cell (World.block_lt_of_cell? w _ hx303_15)).trans hx303_15
            replace hx303_16 := (HB.out.cell (World.block_lt_of_cell? w _ hx303_16)).trans hx303_16
            replace hx303_17 := (HB.out.cell (World.block_lt_of_cell? w _ hx303_17)).trans hx303_17
            replace hx303_18 := (HB.out.cell (World.block_lt_of_cell? w _ hx303_18)).trans hx303_18
            replace hx303_19 := (HB.out.cell (World.block_lt_of_cell? w _ hx303_19)).trans hx303_19
            replace hx303_20 := (HB.out.cell (World.block_lt_of_cell? w _ hx303_20)).trans hx303_20
            replace hx303_21 := (HB.out.cell (World.block_lt_of_cell? w _ hx303_21)).trans hx303_21
            replace p303 := eq_true p303
            replace q303 := eq_true q303
            have hcz7_0 : wr.cell? ⟨gb301, 0, none⟩ = some (.int .i64 0) := (blk_cell BK301.out 0).trans rfl
            have hcz7_1 : wr.cell? ⟨gb301, 1, none⟩ = some (.bool false) := (blk_cell BK301.out 1).trans rfl
            have hfz7_0 := blk_frozen BK301.out 0
            have hfz7_1 := blk_frozen BK301.out 1
            go_wp2
            refine bodyPost_ret (results_cell_row rfl _ _ gb301 39 #[.int .i64 x5_1, .bool (((rd_T77 l0 x5_1).f0).toList == a1.toList)] (0, 0) _ rfl (by (with_reducible repeat (first | refine blk_drewN ?_ _ | refine blk_drew ?_ | refine blk_alloc ?_ _)); refine blk_put (cs := #[.int .i64 x5_1, .bool false]) ?_ 1 _ rfl; (with_reducible repeat (first | refine blk_drewN ?_ _ | refine blk_drew ?_ | refine blk_alloc ?_ _)); refine blk_put (cs := #[.int .i64 0, .bool false]) ?_ 0 _ rfl; (with_reducible repeat (first | refine blk_drewN ?_ _ | refine blk_drew ?_ | refine blk_alloc ?_ _)); exact BK301.out) Try.underlying39 rfl (by kernel_rfl)) rfl ?_
            exact ⟨by first | rfl | (simp [errW_none, errW_some] <;> rfl) | (simp [*, errW_none, errW_some] <;> rfl), by repeat (first | (with_reducible first | exact HB.out | apply below_alloc | apply pw_below_drewN | apply below_drew1 | refine below_set ?_ GE301.out) | exact HB.out)⟩
        · rw [if_neg c5] at H
          exact absurd H (by simp)
      · rw [if_neg c4] at H
        have c4b0 : decide (x5_1 < (l0.length : Int)) = false := decide_eq_false c4
        clear c4
        simp only [Option.some.injEq, Prod.mk.injEq] at H
        obtain ⟨rfl, rfl⟩ := H
        have hcz8_0 : wr.cell? ⟨gb301, 0, none⟩ = some (.int .i64 0) := (blk_cell BK301.out 0).trans rfl
        have hcz8_1 : wr.cell? ⟨gb301, 1, none⟩ = some (.bool false) := (blk_cell BK301.out 1).trans rfl
        have hfz8_0 := blk_frozen BK301.out 0
        have hfz8_1 := blk_frozen BK301.out 1
        go_wp2
        refine bodyPost_ret (results_cell_row rfl _ _ gb301 39 #[.int .i64 x5_1, .bool false] (0, 0) _ rfl (by (with_reducible repeat (first | refine blk_drewN ?_ _ | refine blk_drew ?_ | refine blk_alloc ?_ _)); refine blk_put (cs := #[.int .i64 x5_1, .bool false]) ?_ 1 _ rfl; (with_reducible repeat (first | refine blk_drewN ?_ _ | refine blk_drew ?_ | refine blk_alloc ?_ _)); refine blk_put (cs := #[.int .i64 0, .bool false]) ?_ 0 _ rfl; (with_reducible repeat (first | refine blk_drewN ?_ _ | refine blk_drew ?_ | refine blk_alloc ?_ _)); exact BK301.out) Try.underlying39 rfl (by kernel_rfl)) rfl ?_
        exact ⟨by first | rfl | (simp [errW_none, errW_some] <;> rfl) | (simp [*, errW_none, errW_some] <;> rfl), by repeat (first | (with_reducible first | exact HB.out | apply below_alloc | apply pw_below_drewN | apply below_drew1 | refine below_set ?_ GE301.out) | exact HB.out)⟩

end Go.Proofs.Ytalncokpbgbccaa.E
