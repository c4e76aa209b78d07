-- Printed by this session's wip/tools/oracle.py, which runs the kit's print program; Lean checks it.
import Derived.Test.YtalncokpbgbccaaNx0
import Derived.Test.YtalncokpbgbccaaMa
namespace Go.Proofs.Ytalncokpbgbccaa.E
open Go.RowKit Go.Proofs.YtalncokpbgbccaaW.PrintWords Go.Proofs.YtalncokpbgbccaaW.PrintLast Go.Proofs.YtalncokpbgbccaaW.PrintMore
attribute [local go_sem] max2_int min2_int max_two min_two max_three min_three max_four min_four   -- for this text's walks alone
set_option linter.unusedVariables false
set_option linter.unusedSimpArgs false

/-! ### understoryref06_Locate: function 32 -/
def understoryref06_Locate.l0 : Nat → List (S77) → Int → Int → Option (Int × Int × Int)
  | 0, _, _, _ => none
  | k + 1, x0, x1, x5 => if x5 < (x0.length : Int) then (if 0 ≤ x5 then (if x1 < ((rd_T77 x0 x5).f5) then (some (x5, x1, 0)) else (understoryref06_Locate.l0 k x0 (wrap64 (x1 - ((rd_T77 x0 x5).f5))) (wrap64 (x5 + 1)))) else (none)) else (some (0, 0, 4))
def understoryref06_Locate.f (k : Nat) (l0 : List (S77)) (a1 : Int) : Option (Int × Int × Int) := if a1 < 0 then (some (0, 0, 4)) else (understoryref06_Locate.l0 k l0 a1 0)
theorem understoryref06_Locate.mono_l : ∀ k, (∀ y0 y1 y2, LeO (understoryref06_Locate.l0 k y0 y1 y2) (understoryref06_Locate.l0 (k + 1) y0 y1 y2))
  | 0 => fun _ _ _ r h => by simp [understoryref06_Locate.l0] at h
  | k + 1 => by
    have ih0 := understoryref06_Locate.mono_l k
    · intro y0 y1 y2
      unfold understoryref06_Locate.l0
      repeat' first
      | (with_reducible exact ih0 _ _ _)
      | (with_reducible exact LeO.refl _)
      | (with_reducible exact LeO.none _)
      | (with_reducible refine LeO.ite ?_ ?_)
      | (with_reducible refine LeO.bind ?_ (fun _ => ?_))
      | exact ih0 _ _ _
      | exact LeO.none _
      | refine LeO.ite ?_ ?_
      | refine LeO.bind ?_ (fun _ => ?_)
theorem understoryref06_Locate.mono : ∀ a0 a1 k, LeO (understoryref06_Locate.f k a0 a1) (understoryref06_Locate.f (k + 1) a0 a1) := by
  intro a0 a1 k
  have ih0 := understoryref06_Locate.mono_l k
  unfold understoryref06_Locate.f
  repeat' first
      | (with_reducible exact ih0 _ _ _)
      | (with_reducible exact LeO.refl _)
      | (with_reducible exact LeO.none _)
      | (with_reducible refine LeO.ite ?_ ?_)
      | (with_reducible refine LeO.bind ?_ (fun _ => ?_))
      | exact ih0 _ _ _
      | exact LeO.none _
      | refine LeO.ite ?_ ?_
      | refine LeO.bind ?_ (fun _ => ?_)
set_option maxHeartbeats 8000000 in
set_option maxRecDepth 100000 in
theorem understoryref06_Locate.calls (k : Nat) (A0 : Option Addr) (c0 : Nat) (l0 : List (S77)) (a1 : Int) (r1 : Int) (r2 : Int) (r3 : Int) (w : World) (hr0 : Kd.C k77 w A0 l0.length l0) (hc0 : l0.length ≤ c0) (h : understoryref06_Locate.f k l0 a1 = some (r1, r2, r3)) :
    Calls Try.prog 32 #[.slice A0 l0.length c0, .int .i64 a1] w fun e w' => e = .returned (.agg #[.int .i64 r1, .int .i64 r2, .int .i64 r3]) ∧ Below w.heap.size w w' := by
  have hu45 := Try.underlying45
  have HR0 := Aside0.mk hr0
  have HC0 := Aside0.mk hc0
  clear hr0 hc0
  have HB := Aside0.mk (Below.refl w.heap.size w)
  have H : (if a1 < 0 then (some (0, 0, 4)) else (understoryref06_Locate.l0 k l0 a1 0)) = some (r1, r2, r3) := h
  clear h
  by_cases c3 : a1 < 0
  · rw [if_pos c3] at H
    have c3b0 : decide (a1 < 0) = true := decide_eq_true c3
    clear c3
    simp only [Option.some.injEq, Prod.mk.injEq] at H
    obtain ⟨rfl, rfl, rfl⟩ := H
    go_enter Try.func32, Try.ntmps32
    go_wp2_with (first | ((with_reducible refine gate_dst (N := 4) rfl ?_); refine box_event ?hg (N := 4) ?hd (cs := #[.int .i64 0, .int .i64 0, .int .i64 0]) (t := 45) ?hr ?_; (case hd => rfl); (case hg => rfl); (case hr => first | (go_simp; done) | (go_simp; rfl)); intro gb308 hg w4 hbox hb; have n0_ := Aside0.mk (below_step (by repeat (first | (with_reducible first | exact HB.out | apply below_alloc | apply pw_below_drewN | apply below_drew1) | exact HB.out)) hb); have n1_ := Aside0.mk (hbox); have n2_ := Aside0.mk ((by rw [hg]; exact (below_size (by repeat (first | (with_reducible first | exact HB.out | apply below_alloc | apply pw_below_drewN | apply below_drew1) | exact HB.out))) : w.heap.size ≤ gb308)); have n3_ := Aside0.mk ((by rw [hg]; exact (below_size (by repeat (first | (with_reducible first | exact HB.out | apply below_alloc | apply pw_below_drewN | apply below_drew1) | exact HB.out))) : w.heap.size ≤ gb308)); clear HB; have HB := n0_; have BK308 := n1_; have GW308 := n2_; have GE308 := n3_; clear n0_ n1_ n2_ n3_; clear hb hbox hg; have hcz5_0 : w4.cell? ⟨gb308, 0, none⟩ = some (.int .i64 0) := (blk_cell BK308.out 0).trans rfl; have hcz5_1 : w4.cell? ⟨gb308, 1, none⟩ = some (.int .i64 0) := (blk_cell BK308.out 1).trans rfl; have hcz5_2 : w4.cell? ⟨gb308, 2, none⟩ = some (.int .i64 0) := (blk_cell BK308.out 2).trans rfl; have hfz5_0 := blk_frozen BK308.out 0; have hfz5_1 := blk_frozen BK308.out 1; have hfz5_2 := blk_frozen BK308.out 2))
    refine bodyPost_ret (results_cell_row rfl _ _ gb308 45 #[.int .i64 0, .int .i64 0, .int .i64 4] (0, 0) _ rfl (by (with_reducible repeat (first | refine blk_drewN ?_ _ | refine blk_drew ?_ | refine blk_alloc ?_ _)); refine blk_put (cs := #[.int .i64 0, .int .i64 0, .int .i64 0]) ?_ 2 _ rfl; (with_reducible repeat (first | refine blk_drewN ?_ _ | refine blk_drew ?_ | refine blk_alloc ?_ _)); refine blk_put (cs := #[.int .i64 0, .int .i64 0, .int .i64 0]) ?_ 1 _ rfl; (with_reducible repeat (first | refine blk_drewN ?_ _ | refine blk_drew ?_ | refine blk_alloc ?_ _)); refine blk_put (cs := #[.int .i64 0, .int .i64 0, .int .i64 0]) ?_ 0 _ rfl; (with_reducible repeat (first | refine blk_drewN ?_ _ | refine blk_drew ?_ | refine blk_alloc ?_ _)); exact BK308.out) Try.underlying45 rfl (by kernel_rfl)) rfl ?_
    exact ⟨by first | rfl | (simp [errW_none, errW_some] <;> rfl) | (simp [*, errW_none, errW_some] <;> rfl), by repeat (first | (with_reducible first | exact HB.out | apply below_alloc | apply pw_below_drewN | apply below_drew1 | refine below_set ?_ GE308.out) | exact HB.out)⟩
  · rw [if_neg c3] at H
    have c3b0 : decide (a1 < 0) = false := decide_eq_false c3
    clear c3
    have H' := Aside0.mk H
    clear H
    go_enter Try.func32, Try.ntmps32
    go_wp2_with (first | ((with_reducible refine gate_dst (N := 4) rfl ?_); refine box_event ?hg (N := 4) ?hd (cs := #[.int .i64 0, .int .i64 0, .int .i64 0]) (t := 45) ?hr ?_; (case hd => rfl); (case hg => rfl); (case hr => first | (go_simp; done) | (go_simp; rfl)); intro gb308 hg w6 hbox hb; have n0_ := Aside0.mk (below_step (by repeat (first | (with_reducible first | exact HB.out | apply below_alloc | apply pw_below_drewN | apply below_drew1) | exact HB.out)) hb); have n1_ := Aside0.mk (hbox); have n2_ := Aside0.mk ((by rw [hg]; exact (below_size (by repeat (first | (with_reducible first | exact HB.out | apply below_alloc | apply pw_below_drewN | apply below_drew1) | exact HB.out))) : w.heap.size ≤ gb308)); have n3_ := Aside0.mk ((by rw [hg]; exact (below_size (by repeat (first | (with_reducible first | exact HB.out | apply below_alloc | apply pw_below_drewN | apply below_drew1) | exact HB.out))) : w.heap.size ≤ gb308)); clear HB; have HB := n0_; have BK308 := n1_; have GW308 := n2_; have GE308 := n3_; clear n0_ n1_ n2_ n3_; clear hb hbox hg))
    go_loopg [1, 5] k (fun kq v1 v5 w' => ∃ (x1_1 : Int) (x5_1 : Int) (x309000_1 : Int) (x309001_1 : Int) (x309002_1 : Int), v1 = .int .i64 x1_1 ∧ v5 = .int .i64 x5_1 ∧ Aside0 (understoryref06_Locate.l0 kq l0 x1_1 x5_1 = some (r1, r2, r3)) ∧ Aside0 (kq ≤ k) ∧ Aside0 (w'.heap[gb308]? = some (.cells #[.int .i64 x309000_1, .int .i64 x309001_1, .int .i64 x309002_1] 45 (0, 0))) ∧ Aside0 (Below w.heap.size w w'))
    case atStart => exact ⟨(a1), (0), (0), (0), (0), (by first | rfl | (simp; done) | (simp [*]; done)), (by first | rfl | (simp; done) | (simp [*]; done)), H', ⟨Nat.le_refl _⟩, ⟨by (with_reducible repeat (first | refine blk_drewN ?_ _ | refine blk_drew ?_ | refine blk_alloc ?_ _)); exact BK308.out⟩, ⟨by repeat (first | (with_reducible first | exact HB.out | apply below_alloc | apply pw_below_drewN | apply below_drew1 | refine below_set ?_ GE308.out) | exact HB.out)⟩⟩
    case round =>
      clear H'
      try clear p2
      try clear c3
      try clear c3b0
      try clear hcz5_0
      try clear hcz5_1
      try clear hcz5_2
      try clear hfz5_0
      try clear hfz5_1
      try clear hfz5_2
      obtain ⟨x1_1, x5_1, x309000_1, x309001_1, x309002_1, rfl, rfl, HA, HK1, BK308, HB⟩ := hrel
      cases gk with
      | zero => exact absurd HA.out (by simp [understoryref06_Locate.l0])
      | succ k1 =>
        have H := HA.out
        clear HA
        simp only [understoryref06_Locate.l0] at H
        by_cases c7 : x5_1 < (l0.length : Int)
        · rw [if_pos c7] at H
          have c7b0 : decide (x5_1 < (l0.length : Int)) = true := decide_eq_true c7
          clear c7
          by_cases c8 : 0 ≤ x5_1
          · rw [if_pos c8] at H
            have c8b0 : decide (0 ≤ x5_1) = true := decide_eq_true c8
            clear c8
            by_cases c9 : x1_1 < ((rd_T77 l0 x5_1).f5)
            · rw [if_pos c9] at H
              have c9b0 : decide (x1_1 < ((rd_T77 l0 x5_1).f5)) = true := decide_eq_true c9
              clear c9
              simp only [Option.some.injEq, Prod.mk.injEq] at H
              obtain ⟨rfl, rfl, rfl⟩ := H
              have p309 : 0 ≤ (x5_1 : Int) := of_decide_eq_true (by first | (with_reducible assumption) | assumption)
              have q309 : x5_1 < (l0.length : Int) := of_decide_eq_true (by first | (with_reducible assumption) | assumption)
              obtain ⟨ad309, e309, hx309_0, hx309_1, hx309_2, hx309_3, hx309_4, hx309_5, hx309_6, hx309_7, hx309_8, hx309_9, hx309_10, hx309_11, hx309_12, hx309_13, hx309_14, hx309_15, hx309_16, hx309_17, hx309_18, hx309_19, hx309_20, hx309_21⟩ := at_T77 HR0.out x5_1 p309 q309
              cases e309
              replace hx309_0 := (HB.out.cell (World.block_lt_of_cell? w _ hx309_0)).trans hx309_0
              replace hx309_1 := (HB.out.cell (World.block_lt_of_cell? w _ hx309_1)).trans hx309_1
              replace hx309_2 := (HB.out.cell (World.block_lt_of_cell? w _ hx309_2)).trans hx309_2
              replace hx309_3 := (HB.out.cell (World.block_lt_of_cell? w _ hx309_3)).trans hx309_3
              replace hx309_4 := (HB.out.cell (World.block_lt_of_cell? w _ hx309_4)).trans hx309_4
              replace hx309_5 := (HB.out.cell (World.block_lt_of_cell? w _ hx309_5)).trans hx309_5
              replace hx309_6 := (HB.out.cell (World.block_lt_of_cell? w _ hx309_6)).trans hx309_6
              replace hx309_7 := (HB.out.cell (World.block_lt_of_cell? w _ hx309_7)).trans hx309_7
              replace hx309_8 := (HB.out.cell (World.block_lt_of_cell? w _ hx309_8)).trans hx309_8
              replace hx309_9 := (HB.out.cell (World.block_lt_of_cell? w _ hx309_9)).trans hx309_9
              replace hx309_10 := (HB.out.cell (World.block_lt_of_cell? w _ hx309_10)).trans hx309_10
              replace hx309_11 := (HB.out.cell (World.block_lt_of_cell? w _ hx309_11)).trans hx309_11
              replace hx309_12 := (HB.out.cell (World.block_lt_of_cell? w _ hx309_12)).trans hx309_12
              replace hx309_13 := (HB.out.cell (World.block_lt_of_cell? w _ hx309_13)).trans hx309_13
              replace hx309_14 := (HB.out.cell (World.block_lt_of_cell? w _ hx309_14)).trans hx309_14
              replace hx309_15 := (HB.out.cell (World.block_lt_of_cell? w _ hx309_15)).trans hx309_15
              replace hx309_16 := (HB.out.cell (World.block_lt_of_cell? w _ hx309_16)).trans hx309_16
              replace hx309_17 := (HB.out.cell (World.block_lt_of_cell? w _ hx309_17)).trans hx309_17
              replace hx309_18 := (HB.out.cell (World.block_lt_of_cell? w _ hx309_18)).trans hx309_18
              replace hx309_19 := (HB.out.cell (World.block_lt_of_cell? w _ hx309_19)).trans hx309_19
              replace hx309_20 := (HB.out.cell (World.block_lt_of_cell? w _ hx309_20)).trans hx309_20
              replace hx309_21 := (HB.out.cell (World.block_lt_of_cell? w _ hx309_21)).trans hx309_21
              replace p309 := eq_true p309
              replace q309 := eq_true q309
              have hcz10_0 : wr.cell? ⟨gb308, 0, none⟩ = some (.int .i64 x309000_1) := (blk_cell BK308.out 0).trans rfl
              have hcz10_1 : wr.cell? ⟨gb308, 1, none⟩ = some (.int .i64 x309001_1) := (blk_cell BK308.out 1).trans rfl
              have hcz10_2 : wr.cell? ⟨gb308, 2, none⟩ = some (.int .i64 x309002_1) := (blk_cell BK308.out 2).trans rfl
              have hfz10_0 := blk_frozen BK308.out 0
              have hfz10_1 := blk_frozen BK308.out 1
              have hfz10_2 := blk_frozen BK308.out 2
              go_wp2
              refine bodyPost_ret (results_cell_row rfl _ _ gb308 45 #[.int .i64 x5_1, .int .i64 x1_1, .int .i64 0] (0, 0) _ rfl (by (with_reducible repeat (first | refine blk_drewN ?_ _ | refine blk_drew ?_ | refine blk_alloc ?_ _)); refine blk_put (cs := #[.int .i64 x5_1, .int .i64 x1_1, .int .i64 x309002_1]) ?_ 2 _ rfl; (with_reducible repeat (first | refine blk_drewN ?_ _ | refine blk_drew ?_ | refine blk_alloc ?_ _)); refine blk_put (cs := #[.int .i64 x5_1, .int .i64 x309001_1, .int .i64 x309002_1]) ?_ 1 _ rfl; (with_reducible repeat (first | refine blk_drewN ?_ _ | refine blk_drew ?_ | refine blk_alloc ?_ _)); refine blk_put (cs := #[.int .i64 x309000_1, .int .i64 x309001_1, .int .i64 x309002_1]) ?_ 0 _ rfl; (with_reducible repeat (first | refine blk_drewN ?_ _ | refine blk_drew ?_ | refine blk_alloc ?_ _)); exact BK308.out) Try.underlying45 rfl (by kernel_rfl)) rfl ?_
              exact ⟨by first | rfl | (simp [errW_none, errW_some] <;> rfl) | (simp [*, errW_none, errW_some] <;> rfl), by repeat (first | (with_reducible first | exact HB.out | apply below_alloc | apply pw_below_drewN | apply below_drew1 | refine below_set ?_ GE308.out) | exact HB.out)⟩
            · rw [if_neg c9] at H
              have c9b0 : decide (x1_1 < ((rd_T77 l0 x5_1).f5)) = false := decide_eq_false c9
              clear c9
              have H' := Aside0.mk H
              clear H
              have p309 : 0 ≤ (x5_1 : Int) := of_decide_eq_true (by first | (with_reducible assumption) | assumption)
              have q309 : x5_1 < (l0.length : Int) := of_decide_eq_true (by first | (with_reducible assumption) | assumption)
              obtain ⟨ad309, e309, hx309_0, hx309_1, hx309_2, hx309_3, hx309_4, hx309_5, hx309_6, hx309_7, hx309_8, hx309_9, hx309_10, hx309_11, hx309_12, hx309_13, hx309_14, hx309_15, hx309_16, hx309_17, hx309_18, hx309_19, hx309_20, hx309_21⟩ := at_T77 HR0.out x5_1 p309 q309
              cases e309
              replace hx309_0 := (HB.out.cell (World.block_lt_of_cell? w _ hx309_0)).trans hx309_0
              replace hx309_1 := (HB.out.cell (World.block_lt_of_cell? w _ hx309_1)).trans hx309_1
              replace hx309_2 := (HB.out.cell (World.block_lt_of_cell? w _ hx309_2)).trans hx309_2
              replace hx309_3 := (HB.out.cell (World.block_lt_of_cell? w _ hx309_3)).trans hx309_3
              replace hx309_4 := (HB.out.cell (World.block_lt_of_cell? w _ hx309_4)).trans hx309_4
              replace hx309_5 := (HB.out.cell (World.block_lt_of_cell? w _ hx309_5)).trans hx309_5
              replace hx309_6 := (HB.out.cell (World.block_lt_of_cell? w _ hx309_6)).trans hx309_6
              replace hx309_7 := (HB.out.cell (World.block_lt_of_cell? w _ hx309_7)).trans hx309_7
              replace hx309_8 := (HB.out.cell (World.block_lt_of_cell? w _ hx309_8)).trans hx309_8
              replace hx309_9 := (HB.out.cell (World.block_lt_of_cell? w _ hx309_9)).trans hx309_9
              replace hx309_10 := (HB.out.cell (World.block_lt_of_cell? w _ hx309_10)).trans hx309_10
              replace hx309_11 := (HB.out.cell (World.block_lt_of_cell? w _ hx309_11)).trans hx309_11
              replace hx309_12 := (HB.out.cell (World.block_lt_of_cell? w _ hx309_12)).trans hx309_12
              replace hx309_13 := (HB.out.cell (World.block_lt_of_cell? w _ hx309_13)).trans hx309_13
              replace hx309_14 := (HB.out.cell (World.block_lt_of_cell? w _ hx309_14)).trans hx309_14
              replace hx309_15 := (HB.out.cell (World.block_lt_of_cell? w _ hx309_15)).trans hx309_15
              replace hx309_16 := (HB.out.cell (World.block_lt_of_cell? w _ hx309_16)).trans hx309_16
              replace hx309_17 := (HB.out.cell (World.block_lt_of_cell? w _ hx309_17)).trans hx309_17
              replace hx309_18 := (HB.out.cell (World.block_lt_of_cell? w _ hx309_18)).trans hx309_18
              replace hx309_19 := (HB.out.cell (World.block_lt_of_cell? w _ hx309_19)).trans hx309_19
              replace hx309_20 := (HB.out.cell (World.block_lt_of_cell? w _ hx309_20)).trans hx309_20
              replace hx309_21 := (HB.out.cell (World.block_lt_of_cell? w _ hx309_21)).trans hx309_21
              replace p309 := eq_true p309
              replace q309 := eq_true q309
              have p310 : 0 ≤ (x5_1 : Int) := of_decide_eq_true (by first | (with_reducible assumption) | assumption)
              have q310 : x5_1 < (l0.length : Int) := of_decide_eq_true (by first | (with_reducible assumption) | assumption)
              obtain ⟨ad310, e310, hx310_0, hx310_1, hx310_2, hx310_3, hx310_4, hx310_5, hx310_6, hx310_7, hx310_8, hx310_9, hx310_10, hx310_11, hx310_12, hx310_13, hx310_14, hx310_15, hx310_16, hx310_17, hx310_18, hx310_19, hx310_20, hx310_21⟩ := at_T77 HR0.out x5_1 p310 q310
              obtain rfl : ad309 = ad310 := (by injection e310)
              replace hx310_0 := (HB.out.cell (World.block_lt_of_cell? w _ hx310_0)).trans hx310_0
              replace hx310_1 := (HB.out.cell (World.block_lt_of_cell? w _ hx310_1)).trans hx310_1
              replace hx310_2 := (HB.out.cell (World.block_lt_of_cell? w _ hx310_2)).trans hx310_2
              replace hx310_3 := (HB.out.cell (World.block_lt_of_cell? w _ hx310_3)).trans hx310_3
              replace hx310_4 := (HB.out.cell (World.block_lt_of_cell? w _ hx310_4)).trans hx310_4
              replace hx310_5 := (HB.out.cell (World.block_lt_of_cell? w _ hx310_5)).trans hx310_5
              replace hx310_6 := (HB.out.cell (World.block_lt_of_cell? w _ hx310_6)).trans hx310_6
              replace hx310_7 := (HB.out.cell (World.block_lt_of_cell? w _ hx310_7)).trans hx310_7
              replace hx310_8 := (HB.out.cell (World.block_lt_of_cell? w _ hx310_8)).trans hx310_8
              replace hx310_9 := (HB.out.cell (World.block_lt_of_cell? w _ hx310_9)).trans hx310_9
              replace hx310_10 := (HB.out.cell (World.block_lt_of_cell? w _ hx310_10)).trans hx310_10
              replace hx310_11 := (HB.out.cell (World.block_lt_of_cell? w _ hx310_11)).trans hx310_11
              replace hx310_12 := (HB.out.cell (World.block_lt_of_cell? w _ hx310_12)).trans hx310_12
              replace hx310_13 := (HB.out.cell (World.block_lt_of_cell? w _ hx310_13)).trans hx310_13
              replace hx310_14 := (HB.out.cell (World.block_lt_of_cell? w _ hx310_14)).trans hx310_14
              replace hx310_15 := (HB.out.cell (World.block_lt_of_cell? w _ hx310_15)).trans hx310_15
              replace hx310_16 := (HB.out.cell (World.block_lt_of_cell? w _ hx310_16)).trans hx310_16
              replace hx310_17 := (HB.out.cell (World.block_lt_of_cell? w _ hx310_17)).trans hx310_17
              replace hx310_18 := (HB.out.cell (World.block_lt_of_cell? w _ hx310_18)).trans hx310_18
              replace hx310_19 := (HB.out.cell (World.block_lt_of_cell? w _ hx310_19)).trans hx310_19
              replace hx310_20 := (HB.out.cell (World.block_lt_of_cell? w _ hx310_20)).trans hx310_20
              replace hx310_21 := (HB.out.cell (World.block_lt_of_cell? w _ hx310_21)).trans hx310_21
              replace p310 := eq_true p310
              replace q310 := eq_true q310
              go_wp2
              go_roundg k1
              case measure => have := HK1.out; omega
              case rel => exact ⟨(wrap64 (x1_1 - ((rd_T77 l0 x5_1).f5))), (wrap64 (x5_1 + 1)), (x309000_1), (x309001_1), (x309002_1), (by first | rfl | (simp; done) | (simp [*]; done)), (by first | rfl | (simp; done) | (simp [*]; done)), H', ⟨by have := HK1.out; omega⟩, ⟨by (with_reducible repeat (first | refine blk_drewN ?_ _ | refine blk_drew ?_ | refine blk_alloc ?_ _)); exact BK308.out⟩, ⟨by repeat (first | (with_reducible first | exact HB.out | apply below_alloc | apply pw_below_drewN | apply below_drew1 | refine below_set ?_ GE308.out) | exact HB.out)⟩⟩
          · rw [if_neg c8] at H
            exact absurd H (by simp)
        · rw [if_neg c7] at H
          have c7b0 : decide (x5_1 < (l0.length : Int)) = false := decide_eq_false c7
          clear c7
          simp only [Option.some.injEq, Prod.mk.injEq] at H
          obtain ⟨rfl, rfl, rfl⟩ := H
          have hcz11_0 : wr.cell? ⟨gb308, 0, none⟩ = some (.int .i64 x309000_1) := (blk_cell BK308.out 0).trans rfl
          have hcz11_1 : wr.cell? ⟨gb308, 1, none⟩ = some (.int .i64 x309001_1) := (blk_cell BK308.out 1).trans rfl
          have hcz11_2 : wr.cell? ⟨gb308, 2, none⟩ = some (.int .i64 x309002_1) := (blk_cell BK308.out 2).trans rfl
          have hfz11_0 := blk_frozen BK308.out 0
          have hfz11_1 := blk_frozen BK308.out 1
          have hfz11_2 := blk_frozen BK308.out 2
          go_wp2
          refine bodyPost_ret (results_cell_row rfl _ _ gb308 45 #[.int .i64 0, .int .i64 0, .int .i64 4] (0, 0) _ rfl (by (with_reducible repeat (first | refine blk_drewN ?_ _ | refine blk_drew ?_ | refine blk_alloc ?_ _)); refine blk_put (cs := #[.int .i64 0, .int .i64 0, .int .i64 x309002_1]) ?_ 2 _ rfl; (with_reducible repeat (first | refine blk_drewN ?_ _ | refine blk_drew ?_ | refine blk_alloc ?_ _)); refine blk_put (cs := #[.int .i64 0, .int .i64 x309001_1, .int .i64 x309002_1]) ?_ 1 _ rfl; (with_reducible repeat (first | refine blk_drewN ?_ _ | refine blk_drew ?_ | refine blk_alloc ?_ _)); refine blk_put (cs := #[.int .i64 x309000_1, .int .i64 x309001_1, .int .i64 x309002_1]) ?_ 0 _ rfl; (with_reducible repeat (first | refine blk_drewN ?_ _ | refine blk_drew ?_ | refine blk_alloc ?_ _)); exact BK308.out) Try.underlying45 rfl (by kernel_rfl)) rfl ?_
          exact ⟨by first | rfl | (simp [errW_none, errW_some] <;> rfl) | (simp [*, errW_none, errW_some] <;> rfl), by repeat (first | (with_reducible first | exact HB.out | apply below_alloc | apply pw_below_drewN | apply below_drew1 | refine below_set ?_ GE308.out) | exact HB.out)⟩

end Go.Proofs.Ytalncokpbgbccaa.E
