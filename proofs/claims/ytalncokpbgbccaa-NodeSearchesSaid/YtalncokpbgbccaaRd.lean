-- Printed by this session's wip/tools/oracle.py, which runs the kit's print program; Lean checks it.
import Derived.Test.YtalncokpbgbccaaNx0
import Derived.Test.YtalncokpbgbccaaMa
namespace Go.Proofs.Ytalncokpbgbccaa.E
open Go.RowKit Go.Proofs.YtalncokpbgbccaaW.PrintWords Go.Proofs.YtalncokpbgbccaaW.PrintLast Go.Proofs.YtalncokpbgbccaaW.PrintMore
attribute [local go_sem] max2_int min2_int max_two min_two max_three min_three max_four min_four   -- for this text's walks alone
set_option linter.unusedVariables false
set_option linter.unusedSimpArgs false

/-! ### understoryref06_Bounds: function 31 -/
def understoryref06_Bounds.j0 : Nat → List (S77) → Int → ByteArray → ByteArray → Bool → Option (ByteArray × ByteArray × Int)
  | 0, _, _, _, _, _ => none
  | k + 1, x0, x1, x2, x3, x16 => if x16 = true then (some ((⟨#[]⟩ : ByteArray), (⟨#[]⟩ : ByteArray), 1)) else (if x1 > 0 then (if 0 ≤ x1 then (if x1 < (x0.length : Int) then (if (wrap64 (x1 + 1)) < (x0.length : Int) then (if 0 ≤ (wrap64 (x1 + 1)) then (some ((rd_T77 x0 x1).f0, (rd_T77 x0 (wrap64 (x1 + 1))).f0, 0)) else (none)) else (some ((rd_T77 x0 x1).f0, x3, 0))) else (none)) else (none)) else (if (wrap64 (x1 + 1)) < (x0.length : Int) then (if 0 ≤ (wrap64 (x1 + 1)) then (some (x2, (rd_T77 x0 (wrap64 (x1 + 1))).f0, 0)) else (none)) else (some (x2, x3, 0))))
def understoryref06_Bounds.f (k : Nat) (l0 : List (S77)) (a1 : Int) (a2 : ByteArray) (a3 : ByteArray) : Option (ByteArray × ByteArray × Int) := if a1 < 0 then (understoryref06_Bounds.j0 k l0 a1 a2 a3 true) else (understoryref06_Bounds.j0 k l0 a1 a2 a3 (decide (a1 ≥ (l0.length : Int))))
theorem understoryref06_Bounds.mono_l : ∀ k, (∀ y0 y1 y2 y3 y4, LeO (understoryref06_Bounds.j0 k y0 y1 y2 y3 y4) (understoryref06_Bounds.j0 (k + 1) y0 y1 y2 y3 y4))
  | 0 => fun _ _ _ _ _ r h => by simp [understoryref06_Bounds.j0] at h
  | k + 1 => by
    have ih0 := understoryref06_Bounds.mono_l k
    · intro y0 y1 y2 y3 y4
      unfold understoryref06_Bounds.j0
      repeat' first
      | (with_reducible exact ih0 _ _ _ _ _)
      | (with_reducible exact LeO.refl _)
      | (with_reducible exact LeO.none _)
      | (with_reducible refine LeO.ite ?_ ?_)
      | (with_reducible refine LeO.bind ?_ (fun _ => ?_))
      | exact ih0 _ _ _ _ _
      | exact LeO.none _
      | refine LeO.ite ?_ ?_
      | refine LeO.bind ?_ (fun _ => ?_)
theorem understoryref06_Bounds.mono : ∀ a0 a1 a2 a3 k, LeO (understoryref06_Bounds.f k a0 a1 a2 a3) (understoryref06_Bounds.f (k + 1) a0 a1 a2 a3) := by
  intro a0 a1 a2 a3 k
  have ih0 := understoryref06_Bounds.mono_l k
  unfold understoryref06_Bounds.f
  repeat' first
      | (with_reducible exact ih0 _ _ _ _ _)
      | (with_reducible exact LeO.refl _)
      | (with_reducible exact LeO.none _)
      | (with_reducible refine LeO.ite ?_ ?_)
      | (with_reducible refine LeO.bind ?_ (fun _ => ?_))
      | exact ih0 _ _ _ _ _
      | exact LeO.none _
      | refine LeO.ite ?_ ?_
      | refine LeO.bind ?_ (fun _ => ?_)
set_option maxHeartbeats 8000000 in
set_option maxRecDepth 100000 in
theorem understoryref06_Bounds.calls (k : Nat) (A0 : Option Addr) (c0 : Nat) (l0 : List (S77)) (a1 : Int) (a2 : ByteArray) (a3 : ByteArray) (r1 : ByteArray) (r2 : ByteArray) (r3 : Int) (w : World) (hr0 : Kd.C k77 w A0 l0.length l0) (hc0 : l0.length ≤ c0) (h : understoryref06_Bounds.f k l0 a1 a2 a3 = some (r1, r2, r3)) :
    Calls Try.prog 31 #[.slice A0 l0.length c0, .int .i64 a1, .string a2, .string a3] w fun e w' => e = .returned (.agg #[.string r1, .string r2, .int .i64 r3]) ∧ Below w.heap.size w w' := by
  have hu42 := Try.underlying42
  have HR0 := Aside0.mk hr0
  have HC0 := Aside0.mk hc0
  clear hr0 hc0
  have HB := Aside0.mk (Below.refl w.heap.size w)
  have H : (if a1 < 0 then (understoryref06_Bounds.j0 k l0 a1 a2 a3 true) else (understoryref06_Bounds.j0 k l0 a1 a2 a3 (decide (a1 ≥ (l0.length : Int))))) = some (r1, r2, r3) := h
  clear h
  have HC5 := Aside0.mk H
  clear H
  go_enter Try.func31, Try.ntmps31
  go_upto_region 1 with (first | ((with_reducible refine gate_dst (N := 8) rfl ?_); (try (refine gate_guard (by rfl) ?_; dsimp only)); refine box_event ?hg (N := 8) ?hd (cs := #[.string (⟨#[]⟩ : ByteArray), .string (⟨#[]⟩ : ByteArray), .int .i64 0]) (t := 42) ?hr ?_; (case hd => rfl); (case hg => rfl); (case hr => first | (go_simp; done) | (go_simp; rfl)); intro gb304 hg w6 hbox hb; have n0_ := Aside0.mk (below_step (by repeat (first | (with_reducible first | exact HB.out | apply below_alloc | apply pw_below_drewN | apply below_drew1) | exact HB.out)) hb); have n1_ := Aside0.mk (hbox); have n2_ := Aside0.mk ((by rw [hg]; exact (below_size (by repeat (first | (with_reducible first | exact HB.out | apply below_alloc | apply pw_below_drewN | apply below_drew1) | exact HB.out))) : w.heap.size ≤ gb304)); have n3_ := Aside0.mk ((by rw [hg]; exact (below_size (by repeat (first | (with_reducible first | exact HB.out | apply below_alloc | apply pw_below_drewN | apply below_drew1) | exact HB.out))) : w.heap.size ≤ gb304)); clear HB; have HB := n0_; have BK304 := n1_; have GW304 := n2_; have GE304 := n3_; clear n0_ n1_ n2_ n3_; clear hb hbox hg))
  (try simp only [Act.put, List.setIfInBounds_toArray, List.set_cons_zero, List.set_cons_succ])
  go_cut [16] (fun v16 wc => ∃ (kq : Nat) (x16_4 : Bool), v16 = .bool x16_4 ∧ Aside0 (understoryref06_Bounds.j0 kq l0 a1 a2 a3 x16_4 = some (r1, r2, r3)) ∧ Aside0 (kq ≤ k) ∧ Aside0 (wc.heap[gb304]? = some (.cells #[.string (⟨#[]⟩ : ByteArray), .string (⟨#[]⟩ : ByteArray), .int .i64 0] 42 (0, 0))) ∧ Aside0 (Below w.heap.size w wc))
  case first =>
    have H := HC5.out
    clear HC5
    by_cases c7 : a1 < 0
    · rw [if_pos c7] at H
      have c7b0 : decide (a1 < 0) = true := decide_eq_true c7
      clear c7
      (first | rw [c7b0] | (simp only [i64_w, i32_w]; rw [c7b0]) | skip)
      have H' := Aside0.mk H
      clear H
      go_wp2
      go_meet
      case rel => exact ⟨_, (true), (by first | rfl | (simp; done) | (simp [*]; done)), H', ⟨by first | omega | exact Nat.le_refl _⟩, ⟨by (with_reducible repeat (first | refine blk_drewN ?_ _ | refine blk_drew ?_ | refine blk_alloc ?_ _)); exact BK304.out⟩, ⟨by repeat (first | (with_reducible first | exact HB.out | apply below_alloc | apply pw_below_drewN | apply below_drew1 | refine below_set ?_ GE304.out) | exact HB.out)⟩⟩
    · rw [if_neg c7] at H
      have c7b0 : decide (a1 < 0) = false := decide_eq_false c7
      clear c7
      (first | rw [c7b0] | (simp only [i64_w, i32_w]; rw [c7b0]) | skip)
      have H' := Aside0.mk H
      clear H
      go_wp2
      go_meet
      case rel => exact ⟨_, (decide (a1 ≥ (l0.length : Int))), (by first | rfl | (simp; done) | (simp [*]; done)), H', ⟨by first | omega | exact Nat.le_refl _⟩, ⟨by (with_reducible repeat (first | refine blk_drewN ?_ _ | refine blk_drew ?_ | refine blk_alloc ?_ _)); exact BK304.out⟩, ⟨by repeat (first | (with_reducible first | exact HB.out | apply below_alloc | apply pw_below_drewN | apply below_drew1 | refine below_set ?_ GE304.out) | exact HB.out)⟩⟩
  case rest =>
    clear HC5
    try clear p2
    try clear c3
    try clear c7
    try clear c7b0
    obtain ⟨kq, x16_4, rfl, HA, HJ4, BK304, HB⟩ := hcut
    cases kq with
    | zero => exact absurd HA.out (by simp [understoryref06_Bounds.j0])
    | succ kj4 =>
      have H := HA.out
      clear HA
      simp only [understoryref06_Bounds.j0] at H
      by_cases c8 : x16_4 = true
      · subst c8
        have H1 : (some ((⟨#[]⟩ : ByteArray), (⟨#[]⟩ : ByteArray), 1)) = some (r1, r2, r3) := by rw [if_pos rfl] at H; exact H
        clear H
        have H := H1
        clear H1
        simp only [Option.some.injEq, Prod.mk.injEq] at H
        obtain ⟨rfl, rfl, rfl⟩ := H
        have hcz9_0 : wc.cell? ⟨gb304, 0, none⟩ = some (.string (⟨#[]⟩ : ByteArray)) := (blk_cell BK304.out 0).trans rfl
        have hcz9_1 : wc.cell? ⟨gb304, 1, none⟩ = some (.string (⟨#[]⟩ : ByteArray)) := (blk_cell BK304.out 1).trans rfl
        have hcz9_2 : wc.cell? ⟨gb304, 2, none⟩ = some (.int .i64 0) := (blk_cell BK304.out 2).trans rfl
        have hfz9_0 := blk_frozen BK304.out 0
        have hfz9_1 := blk_frozen BK304.out 1
        have hfz9_2 := blk_frozen BK304.out 2
        go_wp2
        refine bodyPost_ret (results_cell_row rfl _ _ gb304 42 #[.string (⟨#[]⟩ : ByteArray), .string (⟨#[]⟩ : ByteArray), .int .i64 1] (0, 0) _ rfl (by (with_reducible repeat (first | refine blk_drewN ?_ _ | refine blk_drew ?_ | refine blk_alloc ?_ _)); refine blk_put (cs := #[.string (⟨#[]⟩ : ByteArray), .string (⟨#[]⟩ : ByteArray), .int .i64 0]) ?_ 2 _ rfl; (with_reducible repeat (first | refine blk_drewN ?_ _ | refine blk_drew ?_ | refine blk_alloc ?_ _)); refine blk_put (cs := #[.string (⟨#[]⟩ : ByteArray), .string (⟨#[]⟩ : ByteArray), .int .i64 0]) ?_ 1 _ rfl; (with_reducible repeat (first | refine blk_drewN ?_ _ | refine blk_drew ?_ | refine blk_alloc ?_ _)); refine blk_put (cs := #[.string (⟨#[]⟩ : ByteArray), .string (⟨#[]⟩ : ByteArray), .int .i64 0]) ?_ 0 _ rfl; (with_reducible repeat (first | refine blk_drewN ?_ _ | refine blk_drew ?_ | refine blk_alloc ?_ _)); exact BK304.out) Try.underlying42 rfl (by kernel_rfl)) rfl ?_
        exact ⟨by first | rfl | (simp [errW_none, errW_some] <;> rfl) | (simp [*, errW_none, errW_some] <;> rfl), by repeat (first | (with_reducible first | exact HB.out | apply below_alloc | apply pw_below_drewN | apply below_drew1 | refine below_set ?_ GE304.out) | exact HB.out)⟩
      · replace c8 := Bool.eq_false_iff.mpr c8
        subst c8
        have H1 : (if a1 > 0 then (if 0 ≤ a1 then (if a1 < (l0.length : Int) then (if (wrap64 (a1 + 1)) < (l0.length : Int) then (if 0 ≤ (wrap64 (a1 + 1)) then (some ((rd_T77 l0 a1).f0, (rd_T77 l0 (wrap64 (a1 + 1))).f0, 0)) else (none)) else (some ((rd_T77 l0 a1).f0, a3, 0))) else (none)) else (none)) else (if (wrap64 (a1 + 1)) < (l0.length : Int) then (if 0 ≤ (wrap64 (a1 + 1)) then (some (a2, (rd_T77 l0 (wrap64 (a1 + 1))).f0, 0)) else (none)) else (some (a2, a3, 0)))) = some (r1, r2, r3) := by rw [if_neg (show ¬ (false = true) by decide)] at H; exact H
        clear H
        have H := H1
        clear H1
        by_cases c10 : a1 > 0
        · rw [if_pos c10] at H
          have c10b0 : decide (0 < a1) = true := decide_eq_true c10
          clear c10
          by_cases c11 : 0 ≤ a1
          · rw [if_pos c11] at H
            have c11b0 : decide (0 ≤ a1) = true := decide_eq_true c11
            clear c11
            by_cases c12 : a1 < (l0.length : Int)
            · rw [if_pos c12] at H
              have c12b0 : decide (a1 < (l0.length : Int)) = true := decide_eq_true c12
              clear c12
              by_cases c13 : (wrap64 (a1 + 1)) < (l0.length : Int)
              · rw [if_pos c13] at H
                have c13b0 : decide ((wrap64 (a1 + 1)) < (l0.length : Int)) = true := decide_eq_true c13
                clear c13
                obtain ⟨ji14, hji14⟩ : ∃ j_ : Int, (wrap64 (a1 + 1)) = j_ := ⟨_, rfl⟩
                replace H : (if 0 ≤ (ji14) then (some ((rd_T77 l0 a1).f0, (rd_T77 l0 (ji14)).f0, 0)) else (none)) = some (r1, r2, r3) := by first | (rw [hji14] at H; exact H) | (simp only [hji14] at H ⊢; exact H)
                (try rw [hji14] at c13b0)
                have hji14w : (IntKind.i64.wrap (a1 + 1)) = ji14 := (i64_w _).trans hji14
                by_cases c15 : 0 ≤ (ji14)
                · rw [if_pos c15] at H
                  have c15b0 : decide (0 ≤ (ji14)) = true := decide_eq_true c15
                  clear c15
                  simp only [Option.some.injEq, Prod.mk.injEq] at H
                  obtain ⟨rfl, rfl, rfl⟩ := H
                  have p305 : 0 ≤ (a1 : Int) := of_decide_eq_true (by first | (with_reducible assumption) | assumption)
                  have q305 : a1 < (l0.length : Int) := of_decide_eq_true (by first | (with_reducible assumption) | assumption)
                  obtain ⟨ad305, e305, hx305_0, hx305_1, hx305_2, hx305_3, hx305_4, hx305_5, hx305_6, hx305_7, hx305_8, hx305_9, hx305_10, hx305_11, hx305_12, hx305_13, hx305_14, hx305_15, hx305_16, hx305_17, hx305_18, hx305_19, hx305_20, hx305_21⟩ := at_T77 HR0.out a1 p305 q305
                  cases e305
                  replace hx305_0 := (HB.out.cell (World.block_lt_of_cell? w _ hx305_0)).trans hx305_0
                  replace hx305_1 := (HB.out.cell (World.block_lt_of_cell? w _ hx305_1)).trans hx305_1
                  replace hx305_2 := (HB.out.cell (World.block_lt_of_cell? w _ hx305_2)).trans hx305_2
                  replace hx305_3 := (HB.out.cell (World.block_lt_of_cell? w _ hx305_3)).trans hx305_3
                  replace hx305_4 := (HB.out.cell (World.block_lt_of_cell? w _ hx305_4)).trans hx305_4
                  replace hx305_5 := (HB.out.cell (World.block_lt_of_cell? w _ hx305_5)).trans hx305_5
                  replace hx305_6 := (HB.out.cell (World.block_lt_of_cell? w _ hx305_6)).trans hx305_6
                  replace hx305_7 := (HB.out.cell (World.block_lt_of_cell? w _ hx305_7)).trans hx305_7
                  replace hx305_8 := (HB.out.cell (World.block_lt_of_cell? w _ hx305_8)).trans hx305_8
                  replace hx305_9 := (HB.out.cell (World.block_lt_of_cell? w _ hx305_9)).trans hx305_9
                  replace hx305_10 := (HB.out.cell (World.block_lt_of_cell? w _ hx305_10)).trans hx305_10
                  replace hx305_11 := (HB.out.cell (World.block_lt_of_cell? w _ hx305_11)).trans hx305_11
                  replace hx305_12 := (HB.out.cell (World.block_lt_of_cell? w _ hx305_12)).trans hx305_12
                  replace hx305_13 := (HB.out.cell (World.block_lt_of_cell? w _ hx305_13)).trans hx305_13
                  replace hx305_14 := (HB.out.cell (World.block_lt_of_cell? w _ hx305_14)).trans hx305_14
                  replace hx305_15 := (HB.out.cell (World.block_lt_of_cell? w _ hx305_15)).trans hx305_15
                  replace hx305_16 := (HB.out.cell (World.block_lt_of_cell? w _ hx305_16)).trans hx305_16
                  replace hx305_17 := (HB.out.cell (World.block_lt_of_cell? w _ hx305_17)).trans hx305_17
                  replace hx305_18 := (HB.out.cell (World.block_lt_of_cell? w _ hx305_18)).trans hx305_18
                  replace hx305_19 := (HB.out.cell (World.block_lt_of_cell? w _ hx305_19)).trans hx305_19
                  replace hx305_20 := (HB.out.cell (World.block_lt_of_cell? w _ hx305_20)).trans hx305_20
                  replace hx305_21 := (HB.out.cell (World.block_lt_of_cell? w _ hx305_21)).trans hx305_21
                  replace p305 := eq_true p305
                  replace q305 := eq_true q305
                  have p306 : 0 ≤ ((ji14) : Int) := of_decide_eq_true (by first | (with_reducible assumption) | assumption)
                  have q306 : (ji14) < (l0.length : Int) := of_decide_eq_true (by first | (with_reducible assumption) | assumption)
                  obtain ⟨ad306, e306, hx306_0, hx306_1, hx306_2, hx306_3, hx306_4, hx306_5, hx306_6, hx306_7, hx306_8, hx306_9, hx306_10, hx306_11, hx306_12, hx306_13, hx306_14, hx306_15, hx306_16, hx306_17, hx306_18, hx306_19, hx306_20, hx306_21⟩ := at_T77 HR0.out (ji14) p306 q306
                  obtain rfl : ad305 = ad306 := (by injection e306)
                  replace hx306_0 := (HB.out.cell (World.block_lt_of_cell? w _ hx306_0)).trans hx306_0
                  replace hx306_1 := (HB.out.cell (World.block_lt_of_cell? w _ hx306_1)).trans hx306_1
                  replace hx306_2 := (HB.out.cell (World.block_lt_of_cell? w _ hx306_2)).trans hx306_2
                  replace hx306_3 := (HB.out.cell (World.block_lt_of_cell? w _ hx306_3)).trans hx306_3
                  replace hx306_4 := (HB.out.cell (World.block_lt_of_cell? w _ hx306_4)).trans hx306_4
                  replace hx306_5 := (HB.out.cell (World.block_lt_of_cell? w _ hx306_5)).trans hx306_5
                  replace hx306_6 := (HB.out.cell (World.block_lt_of_cell? w _ hx306_6)).trans hx306_6
                  replace hx306_7 := (HB.out.cell (World.block_lt_of_cell? w _ hx306_7)).trans hx306_7
                  replace hx306_8 := (HB.out.cell (World.block_lt_of_cell? w _ hx306_8)).trans hx306_8
                  replace hx306_9 := (HB.out.cell (World.block_lt_of_cell? w _ hx306_9)).trans hx306_9
                  replace hx306_10 := (HB.out.cell (World.block_lt_of_cell? w _ hx306_10)).trans hx306_10
                  replace hx306_11 := (HB.out.cell (World.block_lt_of_cell? w _ hx306_11)).trans hx306_11
                  replace hx306_12 := (HB.out.cell (World.block_lt_of_cell? w _ hx306_12)).trans hx306_12
                  replace hx306_13 := (HB.out.cell (World.block_lt_of_cell? w _ hx306_13)).trans hx306_13
                  replace hx306_14 := (HB.out.cell (World.block_lt_of_cell? w _ hx306_14)).trans hx306_14
                  replace hx306_15 := (HB.out.cell (World.block_lt_of_cell? w _ hx306_15)).trans hx306_15
                  replace hx306_16 := (HB.out.cell (World.block_lt_of_cell? w _ hx306_16)).trans hx306_16
                  replace hx306_17 := (HB.out.cell (World.block_lt_of_cell? w _ hx306_17)).trans hx306_17
                  replace hx306_18 := (HB.out.cell (World.block_lt_of_cell? w _ hx306_18)).trans hx306_18
                  replace hx306_19 := (HB.out.cell (World.block_lt_of_cell? w _ hx306_19)).trans hx306_19
                  replace hx306_20 := (HB.out.cell (World.block_lt_of_cell? w _ hx306_20)).trans hx306_20
                  replace hx306_21 := (HB.out.cell (World.block_lt_of_cell? w _ hx306_21)).trans hx306_21
                  replace p306 := eq_true p306
                  replace q306 := eq_true q306
                  have hcz16_0 : wc.cell? ⟨gb304, 0, none⟩ = some (.string (⟨#[]⟩ : ByteArray)) := (blk_cell BK304.out 0).trans rfl
                  have hcz16_1 : wc.cell? ⟨gb304, 1, none⟩ = some (.string (⟨#[]⟩ : ByteArray)) := (blk_cell BK304.out 1).trans rfl
                  have hcz16_2 : wc.cell? ⟨gb304, 2, none⟩ = some (.int .i64 0) := (blk_cell BK304.out 2).trans rfl
                  have hfz16_0 := blk_frozen BK304.out 0
                  have hfz16_1 := blk_frozen BK304.out 1
                  have hfz16_2 := blk_frozen BK304.out 2
                  go_wp2
                  refine bodyPost_ret (results_cell_row rfl _ _ gb304 42 #[.string ((rd_T77 l0 a1).f0), .string ((rd_T77 l0 (ji14)).f0), .int .i64 0] (0, 0) _ rfl (by (with_reducible repeat (first | refine blk_drewN ?_ _ | refine blk_drew ?_ | refine blk_alloc ?_ _)); refine blk_put (cs := #[.string ((rd_T77 l0 a1).f0), .string ((rd_T77 l0 (ji14)).f0), .int .i64 0]) ?_ 2 _ rfl; (with_reducible repeat (first | refine blk_drewN ?_ _ | refine blk_drew ?_ | refine blk_alloc ?_ _)); refine blk_put (cs := #[.string ((rd_T77 l0 a1).f0), .string (⟨#[]⟩ : ByteArray), .int .i64 0]) ?_ 1 _ rfl; (with_reducible repeat (first | refine blk_drewN ?_ _ | refine blk_drew ?_ | refine blk_alloc ?_ _)); refine blk_put (cs := #[.string (⟨#[]⟩ : ByteArray), .string (⟨#[]⟩ : ByteArray), .int .i64 0]) ?_ 0 _ rfl; (with_reducible repeat (first | refine blk_drewN ?_ _ | refine blk_drew ?_ | refine blk_alloc ?_ _)); exact BK304.out) Try.underlying42 rfl (by kernel_rfl)) rfl ?_
                  exact ⟨by first | rfl | (simp [errW_none, errW_some] <;> rfl) | (simp only [← hji14]; first | rfl | (simp [errW_none, errW_some] <;> rfl)) | (simp [*, errW_none, errW_some] <;> rfl), by repeat (first | (with_reducible first | exact HB.out | apply below_alloc | apply pw_below_drewN | apply below_drew1 | refine below_set ?_ GE304.out) | exact HB.out)⟩
                · rw [if_neg c15] at H
                  exact absurd H (by simp)
              · rw [if_neg c13] at H
                have c13b0 : decide ((wrap64 (a1 + 1)) < (l0.length : Int)) = false := decide_eq_false c13
                clear c13
                simp only [Option.some.injEq, Prod.mk.injEq] at H
                obtain ⟨rfl, rfl, rfl⟩ := H
                have p305 : 0 ≤ (a1 : Int) := of_decide_eq_true (by first | (with_reducible assumption) | assumption)
                have q305 : a1 < (l0.length : Int) := of_decide_eq_true (by first | (with_reducible assumption) | assumption)
                obtain ⟨ad305, e305, hx305_0, hx305_1, hx305_2, hx305_3, hx305_4, hx305_5, hx305_6, hx305_7, hx305_8, hx305_9, hx305_10, hx305_11, hx305_12, hx305_13, hx305_14, hx305_15, hx305_16, hx305_17, hx305_18, hx305_19, hx305_20, hx305_21⟩ := at_T77 HR0.out a1 p305 q305
                cases e305
                replace hx305_0 := (HB.out.cell (World.block_lt_of_cell? w _ hx305_0)).trans hx305_0
                replace hx305_1 := (HB.out.cell (World.block_lt_of_cell? w _ hx305_1)).trans hx305_1
                replace hx305_2 := (HB.out.cell (World.block_lt_of_cell? w _ hx305_2)).trans hx305_2
                replace hx305_3 := (HB.out.cell (World.block_lt_of_cell? w _ hx305_3)).trans hx305_3
                replace hx305_4 := (HB.out.cell (World.block_lt_of_cell? w _ hx305_4)).trans hx305_4
                replace hx305_5 := (HB.out.cell (World.block_lt_of_cell? w _ hx305_5)).trans hx305_5
                replace hx305_6 := (HB.out.cell (World.block_lt_of_cell? w _ hx305_6)).trans hx305_6
                replace hx305_7 := (HB.out.cell (World.block_lt_of_cell? w _ hx305_7)).trans hx305_7
                replace hx305_8 := (HB.out.cell (World.block_lt_of_cell? w _ hx305_8)).trans hx305_8
                replace hx305_9 := (HB.out.cell (World.block_lt_of_cell? w _ hx305_9)).trans hx305_9
                replace hx305_10 := (HB.out.cell (World.block_lt_of_cell? w _ hx305_10)).trans hx305_10
                replace hx305_11 := (HB.out.cell (World.block_lt_of_cell? w _ hx305_11)).trans hx305_11
                replace hx305_12 := (HB.out.cell (World.block_lt_of_cell? w _ hx305_12)).trans hx305_12
                replace hx305_13 := (HB.out.cell (World.block_lt_of_cell? w _ hx305_13)).trans hx305_13
                replace hx305_14 := (HB.out.cell (World.block_lt_of_cell? w _ hx305_14)).trans hx305_14
                replace hx305_15 := (HB.out.cell (World.block_lt_of_cell? w _ hx305_15)).trans hx305_15
                replace hx305_16 := (HB.out.cell (World.block_lt_of_cell? w _ hx305_16)).trans hx305_16
                replace hx305_17 := (HB.out.cell (World.block_lt_of_cell? w _ hx305_17)).trans hx305_17
                replace hx305_18 := (HB.out.cell (World.block_lt_of_cell? w _ hx305_18)).trans hx305_18
                replace hx305_19 := (HB.out.cell (World.block_lt_of_cell? w _ hx305_19)).trans hx305_19
                replace hx305_20 := (HB.out.cell (World.block_lt_of_cell? w _ hx305_20)).trans hx305_20
                replace hx305_21 := (HB.out.cell (World.block_lt_of_cell? w _ hx305_21)).trans hx305_21
                replace p305 := eq_true p305
                replace q305 := eq_true q305
                have hcz17_0 : wc.cell? ⟨gb304, 0, none⟩ = some (.string (⟨#[]⟩ : ByteArray)) := (blk_cell BK304.out 0).trans rfl
                have hcz17_1 : wc.cell? ⟨gb304, 1, none⟩ = some (.string (⟨#[]⟩ : ByteArray)) := (blk_cell BK304.out 1).trans rfl
                have hcz17_2 : wc.cell? ⟨gb304, 2, none⟩ = some (.int .i64 0) := (blk_cell BK304.out 2).trans rfl
                have hfz17_0 := blk_frozen BK304.out 0
                have hfz17_1 := blk_frozen BK304.out 1
                have hfz17_2 := blk_frozen BK304.out 2
                go_wp2
                refine bodyPost_ret (results_cell_row rfl _ _ gb304 42 #[.string ((rd_T77 l0 a1).f0), .string a3, .int .i64 0] (0, 0) _ rfl (by (with_reducible repeat (first | refine blk_drewN ?_ _ | refine blk_drew ?_ | refine blk_alloc ?_ _)); refine blk_put (cs := #[.string ((rd_T77 l0 a1).f0), .string a3, .int .i64 0]) ?_ 2 _ rfl; (with_reducible repeat (first | refine blk_drewN ?_ _ | refine blk_drew ?_ | refine blk_alloc ?_ _)); refine blk_put (cs := #[.string ((rd_T77 l0 a1).f0), .string (⟨#[]⟩ : ByteArray), .int .i64 0]) ?_ 1 _ rfl; (with_reducible repeat (first | refine blk_drewN ?_ _ | refine blk_drew ?_ | refine blk_alloc ?_ _)); refine blk_put (cs := #[.string (⟨#[]⟩ : ByteArray), .string (⟨#[]⟩ : ByteArray), .int .i64 0]) ?_ 0 _ rfl; (with_reducible repeat (first | refine blk_drewN ?_ _ | refine blk_drew ?_ | refine blk_alloc ?_ _)); exact BK304.out) Try.underlying42 rfl (by kernel_rfl)) rfl ?_
                exact ⟨by first | rfl | (simp [errW_none, errW_some] <;> rfl) | (simp [*, errW_none, errW_some] <;> rfl), by repeat (first | (with_reducible first | exact HB.out | apply below_alloc | apply pw_below_drewN | apply below_drew1 | refine below_set ?_ GE304.out) | exact HB.out)⟩
            · rw [if_neg c12] at H
              exact absurd H (by simp)
          · rw [if_neg c11] at H
            exact absurd H (by simp)
        · rw [if_neg c10] at H
          have c10b0 : decide (0 < a1) = false := decide_eq_false c10
          clear c10
          by_cases c18 : (wrap64 (a1 + 1)) < (l0.length : Int)
          · rw [if_pos c18] at H
            have c18b0 : decide ((wrap64 (a1 + 1)) < (l0.length : Int)) = true := decide_eq_true c18
            clear c18
            obtain ⟨ji19, hji19⟩ : ∃ j_ : Int, (wrap64 (a1 + 1)) = j_ := ⟨_, rfl⟩
            replace H : (if 0 ≤ (ji19) then (some (a2, (rd_T77 l0 (ji19)).f0, 0)) else (none)) = some (r1, r2, r3) := by first | (rw [hji19] at H; exact H) | (simp only [hji19] at H ⊢; exact H)
            (try rw [hji19] at c18b0)
            have hji19w : (IntKind.i64.wrap (a1 + 1)) = ji19 := (i64_w _).trans hji19
            by_cases c20 : 0 ≤ (ji19)
            · rw [if_pos c20] at H
              have c20b0 : decide (0 ≤ (ji19)) = true := decide_eq_true c20
              clear c20
              simp only [Option.some.injEq, Prod.mk.injEq] at H
              obtain ⟨rfl, rfl, rfl⟩ := H
              have p307 : 0 ≤ ((ji19) : Int) := of_decide_eq_true (by first | (with_reducible assumption) | assumption)
              have q307 : (ji19) < (l0.length : Int) := of_decide_eq_true (by first | (with_reducible assumption) | assumption)
              obtain ⟨ad307, e307, hx307_0, hx307_1, hx307_2, hx307_3, hx307_4, hx307_5, hx307_6, hx307_7, hx307_8, hx307_9, hx307_10, hx307_11, hx307_12, hx307_13, hx307_14, hx307_15, hx307_16, hx307_17, hx307_18, hx307_19, hx307_20, hx307_21⟩ := at_T77 HR0.out (ji19) p307 q307
              cases e307
              replace hx307_0 := (HB.out.cell (World.block_lt_of_cell? w _ hx307_0)).trans hx307_0
              replace hx307_1 := (HB.out.cell (World.block_lt_of_cell? w _ hx307_1)).trans hx307_1
              replace hx307_2 := (HB.out.cell (World.block_lt_of_cell? w _ hx307_2)).trans hx307_2
              replace hx307_3 := (HB.out.cell (World.block_lt_of_cell? w _ hx307_3)).trans hx307_3
              replace hx307_4 := (HB.out.cell (World.block_lt_of_cell? w _ hx307_4)).trans hx307_4
              replace hx307_5 := (HB.out.cell (World.block_lt_of_cell? w _ hx307_5)).trans hx307_5
              replace hx307_6 := (HB.out.cell (World.block_lt_of_cell? w _ hx307_6)).trans hx307_6
              replace hx307_7 := (HB.out.cell (World.block_lt_of_cell? w _ hx307_7)).trans hx307_7
              replace hx307_8 := (HB.out.cell (World.block_lt_of_cell? w _ hx307_8)).trans hx307_8
              replace hx307_9 := (HB.out.cell (World.block_lt_of_cell? w _ hx307_9)).trans hx307_9
              replace hx307_10 := (HB.out.cell (World.block_lt_of_cell? w _ hx307_10)).trans hx307_10
              replace hx307_11 := (HB.out.cell (World.block_lt_of_cell? w _ hx307_11)).trans hx307_11
              replace hx307_12 := (HB.out.cell (World.block_lt_of_cell? w _ hx307_12)).trans hx307_12
              replace hx307_13 := (HB.out.cell (World.block_lt_of_cell? w _ hx307_13)).trans hx307_13
              replace hx307_14 := (HB.out.cell (World.block_lt_of_cell? w _ hx307_14)).trans hx307_14
              replace hx307_15 := (HB.out.cell (World.block_lt_of_cell? w _ hx307_15)).trans hx307_15
              replace hx307_16 := (HB.out.cell (World.block_lt_of_cell? w _ hx307_16)).trans hx307_16
              replace hx307_17 := (HB.out.cell (World.block_lt_of_cell? w _ hx307_17)).trans hx307_17
              replace hx307_18 := (HB.out.cell (World.block_lt_of_cell? w _ hx307_18)).trans hx307_18
              replace hx307_19 := (HB.out.cell (World.block_lt_of_cell? w _ hx307_19)).trans hx307_19
              replace hx307_20 := (HB.out.cell (World.block_lt_of_cell? w _ hx307_20)).trans hx307_20
              replace hx307_21 := (HB.out.cell (World.block_lt_of_cell? w _ hx307_21)).trans hx307_21
              replace p307 := eq_true p307
              replace q307 := eq_true q307
              have hcz21_0 : wc.cell? ⟨gb304, 0, none⟩ = some (.string (⟨#[]⟩ : ByteArray)) := (blk_cell BK304.out 0).trans rfl
              have hcz21_1 : wc.cell? ⟨gb304, 1, none⟩ = some (.string (⟨#[]⟩ : ByteArray)) := (blk_cell BK304.out 1).trans rfl
              have hcz21_2 : wc.cell? ⟨gb304, 2, none⟩ = some (.int .i64 0) := (blk_cell BK304.out 2).trans rfl
              have hfz21_0 := blk_frozen BK304.out 0
              have hfz21_1 := blk_frozen BK304.out 1
              have hfz21_2 := blk_frozen BK304.out 2
              go_wp2
              refine bodyPost_ret (results_cell_row rfl _ _ gb304 42 #[.string a2, .string ((rd_T77 l0 (ji19)).f0), .int .i64 0] (0, 0) _ rfl (by (with_reducible repeat (first | refine blk_drewN ?_ _ | refine blk_drew ?_ | refine blk_alloc ?_ _)); refine blk_put (cs := #[.string a2, .string ((rd_T77 l0 (ji19)).f0), .int .i64 0]) ?_ 2 _ rfl; (with_reducible repeat (first | refine blk_drewN ?_ _ | refine blk_drew ?_ | refine blk_alloc ?_ _)); refine blk_put (cs := #[.string a2, .string (⟨#[]⟩ : ByteArray), .int .i64 0]) ?_ 1 _ rfl; (with_reducible repeat (first | refine blk_drewN ?_ _ | refine blk_drew ?_ | refine blk_alloc ?_ _)); refine blk_put (cs := #[.string (⟨#[]⟩ : ByteArray), .string (⟨#[]⟩ : ByteArray), .int .i64 0]) ?_ 0 _ rfl; (with_reducible repeat (first | refine blk_drewN ?_ _ | refine blk_drew ?_ | refine blk_alloc ?_ _)); exact BK304.out) Try.underlying42 rfl (by kernel_rfl)) rfl ?_
              exact ⟨by first | rfl | (simp [errW_none, errW_some] <;> rfl) | (simp only [← hji19]; first | rfl | (simp [errW_none, errW_some] <;> rfl)) | (simp [*, errW_none, errW_some] <;> rfl), by repeat (first | (with_reducible first | exact HB.out | apply below_alloc | apply pw_below_drewN | apply below_drew1 | refine below_set ?_ GE304.out) | exact HB.out)⟩
            · rw [if_neg c20] at H
              exact absurd H (by simp)
          · rw [if_neg c18] at H
            have c18b0 : decide ((wrap64 (a1 + 1)) < (l0.length : Int)) = false := decide_eq_false c18
            clear c18
            simp only [Option.some.injEq, Prod.mk.injEq] at H
            obtain ⟨rfl, rfl, rfl⟩ := H
            have hcz22_0 : wc.cell? ⟨gb304, 0, none⟩ = some (.string (⟨#[]⟩ : ByteArray)) := (blk_cell BK304.out 0).trans rfl
            have hcz22_1 : wc.cell? ⟨gb304, 1, none⟩ = some (.string (⟨#[]⟩ : ByteArray)) := (blk_cell BK304.out 1).trans rfl
            have hcz22_2 : wc.cell? ⟨gb304, 2, none⟩ = some (.int .i64 0) := (blk_cell BK304.out 2).trans rfl
            have hfz22_0 := blk_frozen BK304.out 0
            have hfz22_1 := blk_frozen BK304.out 1
            have hfz22_2 := blk_frozen BK304.out 2
            go_wp2
            refine bodyPost_ret (results_cell_row rfl _ _ gb304 42 #[.string a2, .string a3, .int .i64 0] (0, 0) _ rfl (by (with_reducible repeat (first | refine blk_drewN ?_ _ | refine blk_drew ?_ | refine blk_alloc ?_ _)); refine blk_put (cs := #[.string a2, .string a3, .int .i64 0]) ?_ 2 _ rfl; (with_reducible repeat (first | refine blk_drewN ?_ _ | refine blk_drew ?_ | refine blk_alloc ?_ _)); refine blk_put (cs := #[.string a2, .string (⟨#[]⟩ : ByteArray), .int .i64 0]) ?_ 1 _ rfl; (with_reducible repeat (first | refine blk_drewN ?_ _ | refine blk_drew ?_ | refine blk_alloc ?_ _)); refine blk_put (cs := #[.string (⟨#[]⟩ : ByteArray), .string (⟨#[]⟩ : ByteArray), .int .i64 0]) ?_ 0 _ rfl; (with_reducible repeat (first | refine blk_drewN ?_ _ | refine blk_drew ?_ | refine blk_alloc ?_ _)); exact BK304.out) Try.underlying42 rfl (by kernel_rfl)) rfl ?_
            exact ⟨by first | rfl | (simp [errW_none, errW_some] <;> rfl) | (simp [*, errW_none, errW_some] <;> rfl), by repeat (first | (with_reducible first | exact HB.out | apply below_alloc | apply pw_below_drewN | apply below_drew1 | refine below_set ?_ GE304.out) | exact HB.out)⟩

end Go.Proofs.Ytalncokpbgbccaa.E
