-- A slim copy of Re, Rf, PF, SP, written by wip/tools/prune.py.
import Derived.Test.YtalncokpbgbccaaVNx0
import Derived.Test.YtalncokpbgbccaaVMb
import Derived.Test.YtalncokpbgbccaaVRh
import Derived.Test.YtalncokpbgbccaaVMd
import Derived.Test.YtalncokpbgbccaaVMh
-- Printed by this session's wip/tools/oracle.py, which runs the kit's print program; Lean checks it.
namespace Go.Proofs.Ytalncokpbgbccaa.E
open Go.RowKit Go.Proofs.YtalncokpbgbccaaW.PrintWords Go.Proofs.YtalncokpbgbccaaW.PrintLast Go.Proofs.YtalncokpbgbccaaW.PrintMore
attribute [local go_sem] max2_int min2_int max_two min_two max_three min_three max_four min_four   -- for this text's walks alone
set_option linter.unusedVariables false
set_option linter.unusedSimpArgs false

/-! ### understoryref06_Before: function 33 -/
def understoryref06_Before.l0 : Nat → List (S77) → Int → Int → Int → Option (Int)
  | 0, _, _, _, _ => none
  | k + 1, x0, x1, x5, x6 => if x6 < (x0.length : Int) then (if x6 < x1 then (if 0 ≤ x6 then (understoryref06_Before.l0 k x0 x1 (wrap64 (x5 + ((rd_T77 x0 x6).f5))) (wrap64 (x6 + 1))) else (none)) else (some x5)) else (some x5)
def understoryref06_Before.f (k : Nat) (l0 : List (S77)) (a1 : Int) : Option (Int) := understoryref06_Before.l0 k l0 a1 0 0
theorem understoryref06_Before.mono_l : ∀ k, (∀ y0 y1 y2 y3, LeO (understoryref06_Before.l0 k y0 y1 y2 y3) (understoryref06_Before.l0 (k + 1) y0 y1 y2 y3))
  | 0 => fun _ _ _ _ r h => by simp [understoryref06_Before.l0] at h
  | k + 1 => by
    have ih0 := understoryref06_Before.mono_l k
    · intro y0 y1 y2 y3
      unfold understoryref06_Before.l0
      repeat' first
      | (with_reducible exact ih0 _ _ _ _)
      | (with_reducible exact LeO.refl _)
      | (with_reducible exact LeO.none _)
      | (with_reducible refine LeO.ite ?_ ?_)
      | (with_reducible refine LeO.bind ?_ (fun _ => ?_))
      | exact ih0 _ _ _ _
      | exact LeO.none _
      | refine LeO.ite ?_ ?_
      | refine LeO.bind ?_ (fun _ => ?_)
theorem understoryref06_Before.mono : ∀ a0 a1 k, LeO (understoryref06_Before.f k a0 a1) (understoryref06_Before.f (k + 1) a0 a1) := by
  intro a0 a1 k
  have ih0 := understoryref06_Before.mono_l k
  unfold understoryref06_Before.f
  repeat' first
      | (with_reducible exact ih0 _ _ _ _)
      | (with_reducible exact LeO.refl _)
      | (with_reducible exact LeO.none _)
      | (with_reducible refine LeO.ite ?_ ?_)
      | (with_reducible refine LeO.bind ?_ (fun _ => ?_))
      | exact ih0 _ _ _ _
      | exact LeO.none _
      | refine LeO.ite ?_ ?_
      | refine LeO.bind ?_ (fun _ => ?_)
set_option maxHeartbeats 8000000 in
set_option maxRecDepth 100000 in
theorem understoryref06_Before.calls (k : Nat) (A0 : Option Addr) (c0 : Nat) (l0 : List (S77)) (a1 : Int) (r : Int) (w : World) (hr0 : Kd.C k77 w A0 l0.length l0) (hc0 : l0.length ≤ c0) (h : understoryref06_Before.f k l0 a1 = some r) :
    Calls Try.prog 33 #[.slice A0 l0.length c0, .int .i64 a1] w fun e w' => e = .returned (.int .i64 r) ∧ Drawn0 w w' := by
  have HR0 := Aside0.mk hr0
  have HC0 := Aside0.mk hc0
  clear hr0 hc0
  have H : (understoryref06_Before.l0 k l0 a1 0 0) = some r := h
  clear h
  have H' := Aside0.mk H
  clear H
  go_enter Try.func33, Try.ntmps33
  go_wp2
  go_loopg [5, 6] k (fun kq v5 v6 w' => ∃ (x5_1 : Int) (x6_1 : Int), v5 = .int .i64 x5_1 ∧ v6 = .int .i64 x6_1 ∧ Aside0 (understoryref06_Before.l0 kq l0 a1 x5_1 x6_1 = some r) ∧ Aside0 (kq ≤ k) ∧ Drawn0 w w')
  case atStart => exact ⟨(0), (0), (by first | rfl | (simp; done) | (simp [*]; done)), (by first | rfl | (simp; done) | (simp [*]; done)), H', ⟨Nat.le_refl _⟩, by repeat (first | exact Drawn0.refl _ | apply Drawn0.step)⟩
  case round =>
    clear H'
    try clear p2
    obtain ⟨x5_1, x6_1, rfl, rfl, HA, HK1, ⟨m1, rfl⟩⟩ := hrel
    cases gk with
    | zero => exact absurd HA.out (by simp [understoryref06_Before.l0])
    | succ k1 =>
      have H := HA.out
      clear HA
      simp only [understoryref06_Before.l0] at H
      by_cases c3 : x6_1 < (l0.length : Int)
      · rw [if_pos c3] at H
        have c3b0 : decide (x6_1 < (l0.length : Int)) = true := decide_eq_true c3
        clear c3
        by_cases c4 : x6_1 < a1
        · rw [if_pos c4] at H
          have c4b0 : decide (x6_1 < a1) = true := decide_eq_true c4
          clear c4
          by_cases c5 : 0 ≤ x6_1
          · rw [if_pos c5] at H
            have c5b0 : decide (0 ≤ x6_1) = true := decide_eq_true c5
            clear c5
            have H' := Aside0.mk H
            clear H
            have p311 : 0 ≤ (x6_1 : Int) := of_decide_eq_true (by first | (with_reducible assumption) | assumption)
            have q311 : x6_1 < (l0.length : Int) := of_decide_eq_true (by first | (with_reducible assumption) | assumption)
            obtain ⟨ad311, e311, hx311_0, hx311_1, hx311_2, hx311_3, hx311_4, hx311_5, hx311_6, hx311_7, hx311_8, hx311_9, hx311_10, hx311_11, hx311_12, hx311_13, hx311_14, hx311_15, hx311_16, hx311_17, hx311_18, hx311_19, hx311_20, hx311_21⟩ := at_T77 HR0.out x6_1 p311 q311
            cases e311
            replace p311 := eq_true p311
            replace q311 := eq_true q311
            go_wp2
            go_roundg k1
            case measure => have := HK1.out; omega
            case rel => exact ⟨(wrap64 (x5_1 + ((rd_T77 l0 x6_1).f5))), (wrap64 (x6_1 + 1)), (by first | rfl | (simp; done) | (simp [*]; done)), (by first | rfl | (simp; done) | (simp [*]; done)), H', ⟨by have := HK1.out; omega⟩, by repeat (first | exact Drawn0.refl _ | apply Drawn0.step)⟩
          · rw [if_neg c5] at H
            exact absurd H (by simp)
        · rw [if_neg c4] at H
          have c4b0 : decide (x6_1 < a1) = false := decide_eq_false c4
          clear c4
          obtain rfl := Option.some.inj H
          go_wp2
          go_ret
          exact ⟨by first | rfl | (simp; done) | (simp [*]; done), by repeat (first | exact Drawn0.refl _ | apply Drawn0.step)⟩
      · rw [if_neg c3] at H
        have c3b0 : decide (x6_1 < (l0.length : Int)) = false := decide_eq_false c3
        clear c3
        obtain rfl := Option.some.inj H
        go_wp2
        go_ret
        exact ⟨by first | rfl | (simp; done) | (simp [*]; done), by repeat (first | exact Drawn0.refl _ | apply Drawn0.step)⟩

/-! ### understoryref06_Child: function 34 -/
def understoryref06_Child.l0 : Nat → List (S77) → ByteArray → Int → Int → Option (Int)
  | 0, _, _, _, _ => none
  | k + 1, x0, x1, x5, x6 => if x6 < (x0.length : Int) then (if x6 = 0 then (understoryref06_Child.l0 k x0 x1 x6 (wrap64 (x6 + 1))) else (if 0 ≤ x6 then (if ((Op.bytesLess x1.toList (((rd_T77 x0 x6).f0).toList)) = true) then (understoryref06_Child.l0 k x0 x1 x5 (wrap64 (x6 + 1))) else (understoryref06_Child.l0 k x0 x1 x6 (wrap64 (x6 + 1)))) else (none))) else (some x5)
def understoryref06_Child.f (k : Nat) (l0 : List (S77)) (a1 : ByteArray) : Option (Int) := understoryref06_Child.l0 k l0 a1 (-1) 0
theorem understoryref06_Child.mono_l : ∀ k, (∀ y0 y1 y2 y3, LeO (understoryref06_Child.l0 k y0 y1 y2 y3) (understoryref06_Child.l0 (k + 1) y0 y1 y2 y3))
  | 0 => fun _ _ _ _ r h => by simp [understoryref06_Child.l0] at h
  | k + 1 => by
    have ih0 := understoryref06_Child.mono_l k
    · intro y0 y1 y2 y3
      unfold understoryref06_Child.l0
      repeat' first
      | (with_reducible exact ih0 _ _ _ _)
      | (with_reducible exact LeO.refl _)
      | (with_reducible exact LeO.none _)
      | (with_reducible refine LeO.ite ?_ ?_)
      | (with_reducible refine LeO.bind ?_ (fun _ => ?_))
      | exact ih0 _ _ _ _
      | exact LeO.none _
      | refine LeO.ite ?_ ?_
      | refine LeO.bind ?_ (fun _ => ?_)
theorem understoryref06_Child.mono : ∀ a0 a1 k, LeO (understoryref06_Child.f k a0 a1) (understoryref06_Child.f (k + 1) a0 a1) := by
  intro a0 a1 k
  have ih0 := understoryref06_Child.mono_l k
  unfold understoryref06_Child.f
  repeat' first
      | (with_reducible exact ih0 _ _ _ _)
      | (with_reducible exact LeO.refl _)
      | (with_reducible exact LeO.none _)
      | (with_reducible refine LeO.ite ?_ ?_)
      | (with_reducible refine LeO.bind ?_ (fun _ => ?_))
      | exact ih0 _ _ _ _
      | exact LeO.none _
      | refine LeO.ite ?_ ?_
      | refine LeO.bind ?_ (fun _ => ?_)
set_option maxHeartbeats 8000000 in
set_option maxRecDepth 100000 in
theorem understoryref06_Child.calls (k : Nat) (A0 : Option Addr) (c0 : Nat) (l0 : List (S77)) (a1 : ByteArray) (r : Int) (w : World) (hr0 : Kd.C k77 w A0 l0.length l0) (hc0 : l0.length ≤ c0) (h : understoryref06_Child.f k l0 a1 = some r) :
    Calls Try.prog 34 #[.slice A0 l0.length c0, .string a1] w fun e w' => e = .returned (.int .i64 r) ∧ Drawn0 w w' := by
  have HR0 := Aside0.mk hr0
  have HC0 := Aside0.mk hc0
  clear hr0 hc0
  have H : (understoryref06_Child.l0 k l0 a1 (-1) 0) = some r := h
  clear h
  have H' := Aside0.mk H
  clear H
  go_enter Try.func34, Try.ntmps34
  go_wp2
  go_loopg [5, 6] k (fun kq v5 v6 w' => ∃ (x5_1 : Int) (x6_1 : Int), v5 = .int .i64 x5_1 ∧ v6 = .int .i64 x6_1 ∧ Aside0 (understoryref06_Child.l0 kq l0 a1 x5_1 x6_1 = some r) ∧ Aside0 (kq ≤ k) ∧ Drawn0 w w')
  case atStart => exact ⟨((-1)), (0), (by first | rfl | (simp; done) | (simp [*]; done)), (by first | rfl | (simp; done) | (simp [*]; done)), H', ⟨Nat.le_refl _⟩, by repeat (first | exact Drawn0.refl _ | apply Drawn0.step)⟩
  case round =>
    clear H'
    try clear p2
    obtain ⟨x5_1, x6_1, rfl, rfl, HA, HK1, ⟨m1, rfl⟩⟩ := hrel
    cases gk with
    | zero => exact absurd HA.out (by simp [understoryref06_Child.l0])
    | succ k1 =>
      have H := HA.out
      clear HA
      simp only [understoryref06_Child.l0] at H
      by_cases c3 : x6_1 < (l0.length : Int)
      · rw [if_pos c3] at H
        have c3b0 : decide (x6_1 < (l0.length : Int)) = true := decide_eq_true c3
        clear c3
        by_cases c4 : x6_1 = 0
        · rw [if_pos c4] at H
          have c4b0 : (x6_1 == 0) = true := beq_iff_eq.mpr c4
          have c4b1 : (x6_1 != 0) = false := bne_eq_false_iff_eq.mpr c4
          clear c4
          have H' := Aside0.mk H
          clear H
          go_wp2
          go_roundg k1
          case measure => have := HK1.out; omega
          case rel => exact ⟨(x6_1), (wrap64 (x6_1 + 1)), (by first | rfl | (simp; done) | (simp [*]; done)), (by first | rfl | (simp; done) | (simp [*]; done)), H', ⟨by have := HK1.out; omega⟩, by repeat (first | exact Drawn0.refl _ | apply Drawn0.step)⟩
        · rw [if_neg c4] at H
          have c4b0 : (x6_1 == 0) = false := beq_eq_false_iff_ne.mpr c4
          have c4b1 : (x6_1 != 0) = true := bne_iff_ne.mpr c4
          by_cases c5 : 0 ≤ x6_1
          · rw [if_pos c5] at H
            have c5b0 : decide (0 ≤ x6_1) = true := decide_eq_true c5
            clear c5
            by_cases c6 : ((Op.bytesLess a1.toList (((rd_T77 l0 x6_1).f0).toList)) = true)
            · rw [if_pos c6] at H
              have c6b0 : (Op.bytesLess a1.toList (((rd_T77 l0 x6_1).f0).toList)) = true := c6
              clear c6
              have H' := Aside0.mk H
              clear H
              have p312 : 0 ≤ (x6_1 : Int) := of_decide_eq_true (by first | (with_reducible assumption) | assumption)
              have q312 : x6_1 < (l0.length : Int) := of_decide_eq_true (by first | (with_reducible assumption) | assumption)
              obtain ⟨ad312, e312, hx312_0, hx312_1, hx312_2, hx312_3, hx312_4, hx312_5, hx312_6, hx312_7, hx312_8, hx312_9, hx312_10, hx312_11, hx312_12, hx312_13, hx312_14, hx312_15, hx312_16, hx312_17, hx312_18, hx312_19, hx312_20, hx312_21⟩ := at_T77 HR0.out x6_1 p312 q312
              cases e312
              replace p312 := eq_true p312
              replace q312 := eq_true q312
              go_wp2
              go_roundg k1
              case measure => have := HK1.out; omega
              case rel => exact ⟨(x5_1), (wrap64 (x6_1 + 1)), (by first | rfl | (simp; done) | (simp [*]; done)), (by first | rfl | (simp; done) | (simp [*]; done)), H', ⟨by have := HK1.out; omega⟩, by repeat (first | exact Drawn0.refl _ | apply Drawn0.step)⟩
            · rw [if_neg c6] at H
              have c6b0 : (Op.bytesLess a1.toList (((rd_T77 l0 x6_1).f0).toList)) = false := by simpa using c6
              clear c6
              have H' := Aside0.mk H
              clear H
              have p312 : 0 ≤ (x6_1 : Int) := of_decide_eq_true (by first | (with_reducible assumption) | assumption)
              have q312 : x6_1 < (l0.length : Int) := of_decide_eq_true (by first | (with_reducible assumption) | assumption)
              obtain ⟨ad312, e312, hx312_0, hx312_1, hx312_2, hx312_3, hx312_4, hx312_5, hx312_6, hx312_7, hx312_8, hx312_9, hx312_10, hx312_11, hx312_12, hx312_13, hx312_14, hx312_15, hx312_16, hx312_17, hx312_18, hx312_19, hx312_20, hx312_21⟩ := at_T77 HR0.out x6_1 p312 q312
              cases e312
              replace p312 := eq_true p312
              replace q312 := eq_true q312
              go_wp2
              go_roundg k1
              case measure => have := HK1.out; omega
              case rel => exact ⟨(x6_1), (wrap64 (x6_1 + 1)), (by first | rfl | (simp; done) | (simp [*]; done)), (by first | rfl | (simp; done) | (simp [*]; done)), H', ⟨by have := HK1.out; omega⟩, by repeat (first | exact Drawn0.refl _ | apply Drawn0.step)⟩
          · rw [if_neg c5] at H
            exact absurd H (by simp)
      · rw [if_neg c3] at H
        have c3b0 : decide (x6_1 < (l0.length : Int)) = false := decide_eq_false c3
        clear c3
        obtain rfl := Option.some.inj H
        go_wp2
        go_ret
        exact ⟨by first | rfl | (simp; done) | (simp [*]; done), by repeat (first | exact Drawn0.refl _ | apply Drawn0.step)⟩

-- NOT PRINTED: function 4 (understorylaw06_NodeSearches)

-- NOT PRINTED: function 36 (understoryref06_Replace)

end Go.Proofs.Ytalncokpbgbccaa.E

-- Printed by this session's wip/tools/oracle.py, which runs the kit's print program; Lean checks it.
namespace Go.Proofs.Ytalncokpbgbccaa.E
open Go.RowKit Go.Proofs.YtalncokpbgbccaaW.PrintWords Go.Proofs.YtalncokpbgbccaaW.PrintLast Go.Proofs.YtalncokpbgbccaaW.PrintMore
attribute [local go_sem] max2_int min2_int max_two min_two max_three min_three max_four min_four   -- for this text's walks alone
set_option linter.unusedVariables false
set_option linter.unusedSimpArgs false

/-! ### understoryref06_Locate: function 32 -/
def understoryref06_Locate.l0 : Nat → List (S77) → Int → Int → Option (Int × Int × Int)
  | 0, _, _, _ => none
  | k + 1, x0, x1, x5 => if x5 < (x0.length : Int) then (if 0 ≤ x5 then (if x1 < ((rd_T77 x0 x5).f5) then (some (x5, x1, 0)) else (understoryref06_Locate.l0 k x0 (wrap64 (x1 - ((rd_T77 x0 x5).f5))) (wrap64 (x5 + 1)))) else (none)) else (some (0, 0, 4))
def understoryref06_Locate.f (k : Nat) (l0 : List (S77)) (a1 : Int) : Option (Int × Int × Int) := if a1 < 0 then (some (0, 0, 4)) else (understoryref06_Locate.l0 k l0 a1 0)
theorem understoryref06_Locate.mono_l : ∀ k, (∀ y0 y1 y2, LeO (understoryref06_Locate.l0 k y0 y1 y2) (understoryref06_Locate.l0 (k + 1) y0 y1 y2))
  | 0 => fun _ _ _ r h => by simp [understoryref06_Locate.l0] at h
  | k + 1 => by
    have ih0 := understoryref06_Locate.mono_l k
    · intro y0 y1 y2
      unfold understoryref06_Locate.l0
      repeat' first
      | (with_reducible exact ih0 _ _ _)
      | (with_reducible exact LeO.refl _)
      | (with_reducible exact LeO.none _)
      | (with_reducible refine LeO.ite ?_ ?_)
      | (with_reducible refine LeO.bind ?_ (fun _ => ?_))
      | exact ih0 _ _ _
      | exact LeO.none _
      | refine LeO.ite ?_ ?_
      | refine LeO.bind ?_ (fun _ => ?_)
theorem understoryref06_Locate.mono : ∀ a0 a1 k, LeO (understoryref06_Locate.f k a0 a1) (understoryref06_Locate.f (k + 1) a0 a1) := by
  intro a0 a1 k
  have ih0 := understoryref06_Locate.mono_l k
  unfold understoryref06_Locate.f
  repeat' first
      | (with_reducible exact ih0 _ _ _)
      | (with_reducible exact LeO.refl _)
      | (with_reducible exact LeO.none _)
      | (with_reducible refine LeO.ite ?_ ?_)
      | (with_reducible refine LeO.bind ?_ (fun _ => ?_))
      | exact ih0 _ _ _
      | exact LeO.none _
      | refine LeO.ite ?_ ?_
      | refine LeO.bind ?_ (fun _ => ?_)
set_option maxHeartbeats 8000000 in
set_option maxRecDepth 100000 in
theorem understoryref06_Locate.calls (k : Nat) (A0 : Option Addr) (c0 : Nat) (l0 : List (S77)) (a1 : Int) (r1 : Int) (r2 : Int) (r3 : Int) (w : World) (hr0 : Kd.C k77 w A0 l0.length l0) (hc0 : l0.length ≤ c0) (h : understoryref06_Locate.f k l0 a1 = some (r1, r2, r3)) :
    Calls Try.prog 32 #[.slice A0 l0.length c0, .int .i64 a1] w fun e w' => e = .returned (.agg #[.int .i64 r1, .int .i64 r2, .int .i64 r3]) ∧ Below w.heap.size w w' := by
  have hu45 := Try.underlying45
  have HR0 := Aside0.mk hr0
  have HC0 := Aside0.mk hc0
  clear hr0 hc0
  have HB := Aside0.mk (Below.refl w.heap.size w)
  have H : (if a1 < 0 then (some (0, 0, 4)) else (understoryref06_Locate.l0 k l0 a1 0)) = some (r1, r2, r3) := h
  clear h
  by_cases c3 : a1 < 0
  · rw [if_pos c3] at H
    have c3b0 : decide (a1 < 0) = true := decide_eq_true c3
    clear c3
    simp only [Option.some.injEq, Prod.mk.injEq] at H
    obtain ⟨rfl, rfl, rfl⟩ := H
    go_enter Try.func32, Try.ntmps32
    go_wp2_with (first | ((with_reducible refine gate_dst (N := 4) rfl ?_); refine box_event ?hg (N := 4) ?hd (cs := #[.int .i64 0, .int .i64 0, .int .i64 0]) (t := 45) ?hr ?_; (case hd => rfl); (case hg => rfl); (case hr => first | (go_simp; done) | (go_simp; rfl)); intro gb308 hg w4 hbox hb; have n0_ := Aside0.mk (below_step (by repeat (first | (with_reducible first | exact HB.out | apply below_alloc | apply pw_below_drewN | apply below_drew1) | exact HB.out)) hb); have n1_ := Aside0.mk (hbox); have n2_ := Aside0.mk ((by rw [hg]; exact (below_size (by repeat (first | (with_reducible first | exact HB.out | apply below_alloc | apply pw_below_drewN | apply below_drew1) | exact HB.out))) : w.heap.size ≤ gb308)); have n3_ := Aside0.mk ((by rw [hg]; exact (below_size (by repeat (first | (with_reducible first | exact HB.out | apply below_alloc | apply pw_below_drewN | apply below_drew1) | exact HB.out))) : w.heap.size ≤ gb308)); clear HB; have HB := n0_; have BK308 := n1_; have GW308 := n2_; have GE308 := n3_; clear n0_ n1_ n2_ n3_; clear hb hbox hg; have hcz5_0 : w4.cell? ⟨gb308, 0, none⟩ = some (.int .i64 0) := (blk_cell BK308.out 0).trans rfl; have hcz5_1 : w4.cell? ⟨gb308, 1, none⟩ = some (.int .i64 0) := (blk_cell BK308.out 1).trans rfl; have hcz5_2 : w4.cell? ⟨gb308, 2, none⟩ = some (.int .i64 0) := (blk_cell BK308.out 2).trans rfl; have hfz5_0 := blk_frozen BK308.out 0; have hfz5_1 := blk_frozen BK308.out 1; have hfz5_2 := blk_frozen BK308.out 2))
    refine bodyPost_ret (results_cell_row rfl _ _ gb308 45 #[.int .i64 0, .int .i64 0, .int .i64 4] (0, 0) _ rfl (by (with_reducible repeat (first | refine blk_drewN ?_ _ | refine blk_drew ?_ | refine blk_alloc ?_ _)); refine blk_put (cs := #[.int .i64 0, .int .i64 0, .int .i64 0]) ?_ 2 _ rfl; (with_reducible repeat (first | refine blk_drewN ?_ _ | refine blk_drew ?_ | refine blk_alloc ?_ _)); refine blk_put (cs := #[.int .i64 0, .int .i64 0, .int .i64 0]) ?_ 1 _ rfl; (with_reducible repeat (first | refine blk_drewN ?_ _ | refine blk_drew ?_ | refine blk_alloc ?_ _)); refine blk_put (cs := #[.int .i64 0, .int .i64 0, .int .i64 0]) ?_ 0 _ rfl; (with_reducible repeat (first | refine blk_drewN ?_ _ | refine blk_drew ?_ | refine blk_alloc ?_ _)); exact BK308.out) Try.underlying45 rfl (by kernel_rfl)) rfl ?_
    exact ⟨by first | rfl | (simp [errW_none, errW_some] <;> rfl) | (simp [*, errW_none, errW_some] <;> rfl), by repeat (first | (with_reducible first | exact HB.out | apply below_alloc | apply pw_below_drewN | apply below_drew1 | refine below_set ?_ GE308.out) | exact HB.out)⟩
  · rw [if_neg c3] at H
    have c3b0 : decide (a1 < 0) = false := decide_eq_false c3
    clear c3
    have H' := Aside0.mk H
    clear H
    go_enter Try.func32, Try.ntmps32
    go_wp2_with (first | ((with_reducible refine gate_dst (N := 4) rfl ?_); refine box_event ?hg (N := 4) ?hd (cs := #[.int .i64 0, .int .i64 0, .int .i64 0]) (t := 45) ?hr ?_; (case hd => rfl); (case hg => rfl); (case hr => first | (go_simp; done) | (go_simp; rfl)); intro gb308 hg w6 hbox hb; have n0_ := Aside0.mk (below_step (by repeat (first | (with_reducible first | exact HB.out | apply below_alloc | apply pw_below_drewN | apply below_drew1) | exact HB.out)) hb); have n1_ := Aside0.mk (hbox); have n2_ := Aside0.mk ((by rw [hg]; exact (below_size (by repeat (first | (with_reducible first | exact HB.out | apply below_alloc | apply pw_below_drewN | apply below_drew1) | exact HB.out))) : w.heap.size ≤ gb308)); have n3_ := Aside0.mk ((by rw [hg]; exact (below_size (by repeat (first | (with_reducible first | exact HB.out | apply below_alloc | apply pw_below_drewN | apply below_drew1) | exact HB.out))) : w.heap.size ≤ gb308)); clear HB; have HB := n0_; have BK308 := n1_; have GW308 := n2_; have GE308 := n3_; clear n0_ n1_ n2_ n3_; clear hb hbox hg))
    go_loopg [1, 5] k (fun kq v1 v5 w' => ∃ (x1_1 : Int) (x5_1 : Int) (x309000_1 : Int) (x309001_1 : Int) (x309002_1 : Int), v1 = .int .i64 x1_1 ∧ v5 = .int .i64 x5_1 ∧ Aside0 (understoryref06_Locate.l0 kq l0 x1_1 x5_1 = some (r1, r2, r3)) ∧ Aside0 (kq ≤ k) ∧ Aside0 (w'.heap[gb308]? = some (.cells #[.int .i64 x309000_1, .int .i64 x309001_1, .int .i64 x309002_1] 45 (0, 0))) ∧ Aside0 (Below w.heap.size w w'))
    case atStart => exact ⟨(a1), (0), (0), (0), (0), (by first | rfl | (simp; done) | (simp [*]; done)), (by first | rfl | (simp; done) | (simp [*]; done)), H', ⟨Nat.le_refl _⟩, ⟨by (with_reducible repeat (first | refine blk_drewN ?_ _ | refine blk_drew ?_ | refine blk_alloc ?_ _)); exact BK308.out⟩, ⟨by repeat (first | (with_reducible first | exact HB.out | apply below_alloc | apply pw_below_drewN | apply below_drew1 | refine below_set ?_ GE308.out) | exact HB.out)⟩⟩
    case round =>
      clear H'
      try clear p2
      try clear c3
      try clear c3b0
      try clear hcz5_0
      try clear hcz5_1
      try clear hcz5_2
      try clear hfz5_0
      try clear hfz5_1
      try clear hfz5_2
      obtain ⟨x1_1, x5_1, x309000_1, x309001_1, x309002_1, rfl, rfl, HA, HK1, BK308, HB⟩ := hrel
      cases gk with
      | zero => exact absurd HA.out (by simp [understoryref06_Locate.l0])
      | succ k1 =>
        have H := HA.out
        clear HA
        simp only [understoryref06_Locate.l0] at H
        by_cases c7 : x5_1 < (l0.length : Int)
        · rw [if_pos c7] at H
          have c7b0 : decide (x5_1 < (l0.length : Int)) = true := decide_eq_true c7
          clear c7
          by_cases c8 : 0 ≤ x5_1
          · rw [if_pos c8] at H
            have c8b0 : decide (0 ≤ x5_1) = true := decide_eq_true c8
            clear c8
            by_cases c9 : x1_1 < ((rd_T77 l0 x5_1).f5)
            · rw [if_pos c9] at H
              have c9b0 : decide (x1_1 < ((rd_T77 l0 x5_1).f5)) = true := decide_eq_true c9
              clear c9
              simp only [Option.some.injEq, Prod.mk.injEq] at H
              obtain ⟨rfl, rfl, rfl⟩ := H
              have p309 : 0 ≤ (x5_1 : Int) := of_decide_eq_true (by first | (with_reducible assumption) | assumption)
              have q309 : x5_1 < (l0.length : Int) := of_decide_eq_true (by first | (with_reducible assumption) | assumption)
              obtain ⟨ad309, e309, hx309_0, hx309_1, hx309_2, hx309_3, hx309_4, hx309_5, hx309_6, hx309_7, hx309_8, hx309_9, hx309_10, hx309_11, hx309_12, hx309_13, hx309_14, hx309_15, hx309_16, hx309_17, hx309_18, hx309_19, hx309_20, hx309_21⟩ := at_T77 HR0.out x5_1 p309 q309
              cases e309
              replace hx309_0 := (HB.out.cell (World.block_lt_of_cell? w _ hx309_0)).trans hx309_0
              replace hx309_1 := (HB.out.cell (World.block_lt_of_cell? w _ hx309_1)).trans hx309_1
              replace hx309_2 := (HB.out.cell (World.block_lt_of_cell? w _ hx309_2)).trans hx309_2
              replace hx309_3 := (HB.out.cell (World.block_lt_of_cell? w _ hx309_3)).trans hx309_3
              replace hx309_4 := (HB.out.cell (World.block_lt_of_cell? w _ hx309_4)).trans hx309_4
              replace hx309_5 := (HB.out.cell (World.block_lt_of_cell? w _ hx309_5)).trans hx309_5
              replace hx309_6 := (HB.out.cell (World.block_lt_of_cell? w _ hx309_6)).trans hx309_6
              replace hx309_7 := (HB.out.cell (World.block_lt_of_cell? w _ hx309_7)).trans hx309_7
              replace hx309_8 := (HB.out.cell (World.block_lt_of_cell? w _ hx309_8)).trans hx309_8
              replace hx309_9 := (HB.out.cell (World.block_lt_of_cell? w _ hx309_9)).trans hx309_9
              replace hx309_10 := (HB.out.cell (World.block_lt_of_cell? w _ hx309_10)).trans hx309_10
              replace hx309_11 := (HB.out.cell (World.block_lt_of_cell? w _ hx309_11)).trans hx309_11
              replace hx309_12 := (HB.out.cell (World.block_lt_of_cell? w _ hx309_12)).trans hx309_12
              replace hx309_13 := (HB.out.cell (World.block_lt_of_cell? w _ hx309_13)).trans hx309_13
              replace hx309_14 := (HB.out.cell (World.block_lt_of_cell? w _ hx309_14)).trans hx309_14
              replace hx309_15 := (HB.out.cell (World.block_lt_of_cell? w _ hx309_15)).trans hx309_15
              replace hx309_16 := (HB.out.cell (World.block_lt_of_cell? w _ hx309_16)).trans hx309_16
              replace hx309_17 := (HB.out.cell (World.block_lt_of_cell? w _ hx309_17)).trans hx309_17
              replace hx309_18 := (HB.out.cell (World.block_lt_of_cell? w _ hx309_18)).trans hx309_18
              replace hx309_19 := (HB.out.cell (World.block_lt_of_cell? w _ hx309_19)).trans hx309_19
              replace hx309_20 := (HB.out.cell (World.block_lt_of_cell? w _ hx309_20)).trans hx309_20
              replace hx309_21 := (HB.out.cell (World.block_lt_of_cell? w _ hx309_21)).trans hx309_21
              replace p309 := eq_true p309
              replace q309 := eq_true q309
              have hcz10_0 : wr.cell? ⟨gb308, 0, none⟩ = some (.int .i64 x309000_1) := (blk_cell BK308.out 0).trans rfl
              have hcz10_1 : wr.cell? ⟨gb308, 1, none⟩ = some (.int .i64 x309001_1) := (blk_cell BK308.out 1).trans rfl
              have hcz10_2 : wr.cell? ⟨gb308, 2, none⟩ = some (.int .i64 x309002_1) := (blk_cell BK308.out 2).trans rfl
              have hfz10_0 := blk_frozen BK308.out 0
              have hfz10_1 := blk_frozen BK308.out 1
              have hfz10_2 := blk_frozen BK308.out 2
              go_wp2
              refine bodyPost_ret (results_cell_row rfl _ _ gb308 45 #[.int .i64 x5_1, .int .i64 x1_1, .int .i64 0] (0, 0) _ rfl (by (with_reducible repeat (first | refine blk_drewN ?_ _ | refine blk_drew ?_ | refine blk_alloc ?_ _)); refine blk_put (cs := #[.int .i64 x5_1, .int .i64 x1_1, .int .i64 x309002_1]) ?_ 2 _ rfl; (with_reducible repeat (first | refine blk_drewN ?_ _ | refine blk_drew ?_ | refine blk_alloc ?_ _)); refine blk_put (cs := #[.int .i64 x5_1, .int .i64 x309001_1, .int .i64 x309002_1]) ?_ 1 _ rfl; (with_reducible repeat (first | refine blk_drewN ?_ _ | refine blk_drew ?_ | refine blk_alloc ?_ _)); refine blk_put (cs := #[.int .i64 x309000_1, .int .i64 x309001_1, .int .i64 x309002_1]) ?_ 0 _ rfl; (with_reducible repeat (first | refine blk_drewN ?_ _ | refine blk_drew ?_ | refine blk_alloc ?_ _)); exact BK308.out) Try.underlying45 rfl (by kernel_rfl)) rfl ?_
              exact ⟨by first | rfl | (simp [errW_none, errW_some] <;> rfl) | (simp [*, errW_none, errW_some] <;> rfl), by repeat (first | (with_reducible first | exact HB.out | apply below_alloc | apply pw_below_drewN | apply below_drew1 | refine below_set ?_ GE308.out) | exact HB.out)⟩
            · rw [if_neg c9] at H
              have c9b0 : decide (x1_1 < ((rd_T77 l0 x5_1).f5)) = false := decide_eq_false c9
              clear c9
              have H' := Aside0.mk H
              clear H
              have p309 : 0 ≤ (x5_1 : Int) := of_decide_eq_true (by first | (with_reducible assumption) | assumption)
              have q309 : x5_1 < (l0.length : Int) := of_decide_eq_true (by first | (with_reducible assumption) | assumption)
              obtain ⟨ad309, e309, hx309_0, hx309_1, hx309_2, hx309_3, hx309_4, hx309_5, hx309_6, hx309_7, hx309_8, hx309_9, hx309_10, hx309_11, hx309_12, hx309_13, hx309_14, hx309_15, hx309_16, hx309_17, hx309_18, hx309_19, hx309_20, hx309_21⟩ := at_T77 HR0.out x5_1 p309 q309
              cases e309
              replace hx309_0 := (HB.out.cell (World.block_lt_of_cell? w _ hx309_0)).trans hx309_0
              replace hx309_1 := (HB.out.cell (World.block_lt_of_cell? w _ hx309_1)).trans hx309_1
              replace hx309_2 := (HB.out.cell (World.block_lt_of_cell? w _ hx309_2)).trans hx309_2
              replace hx309_3 := (HB.out.cell (World.block_lt_of_cell? w _ hx309_3)).trans hx309_3
              replace hx309_4 := (HB.out.cell (World.block_lt_of_cell? w _ hx309_4)).trans hx309_4
              replace hx309_5 := (HB.out.cell (World.block_lt_of_cell? w _ hx309_5)).trans hx309_5
              replace hx309_6 := (HB.out.cell (World.block_lt_of_cell? w _ hx309_6)).trans hx309_6
              replace hx309_7 := (HB.out.cell (World.block_lt_of_cell? w _ hx309_7)).trans hx309_7
              replace hx309_8 := (HB.out.cell (World.block_lt_of_cell? w _ hx309_8)).trans hx309_8
              replace hx309_9 := (HB.out.cell (World.block_lt_of_cell? w _ hx309_9)).trans hx309_9
              replace hx309_10 := (HB.out.cell (World.block_lt_of_cell? w _ hx309_10)).trans hx309_10
              replace hx309_11 := (HB.out.cell (World.block_lt_of_cell? w _ hx309_11)).trans hx309_11
              replace hx309_12 := (HB.out.cell (World.block_lt_of_cell? w _ hx309_12)).trans hx309_12
              replace hx309_13 := (HB.out.cell (World.block_lt_of_cell? w _ hx309_13)).trans hx309_13
              replace hx309_14 := (HB.out.cell (World.block_lt_of_cell? w _ hx309_14)).trans hx309_14
              replace hx309_15 := (HB.out.cell (World.block_lt_of_cell? w _ hx309_15)).trans hx309_15
              replace hx309_16 := (HB.out.cell (World.block_lt_of_cell? w _ hx309_16)).trans hx309_16
              replace hx309_17 := (HB.out.cell (World.block_lt_of_cell? w _ hx309_17)).trans hx309_17
              replace hx309_18 := (HB.out.cell (World.block_lt_of_cell? w _ hx309_18)).trans hx309_18
              replace hx309_19 := (HB.out.cell (World.block_lt_of_cell? w _ hx309_19)).trans hx309_19
              replace hx309_20 := (HB.out.cell (World.block_lt_of_cell? w _ hx309_20)).trans hx309_20
              replace hx309_21 := (HB.out.cell (World.block_lt_of_cell? w _ hx309_21)).trans hx309_21
              replace p309 := eq_true p309
              replace q309 := eq_true q309
              have p310 : 0 ≤ (x5_1 : Int) := of_decide_eq_true (by first | (with_reducible assumption) | assumption)
              have q310 : x5_1 < (l0.length : Int) := of_decide_eq_true (by first | (with_reducible assumption) | assumption)
              obtain ⟨ad310, e310, hx310_0, hx310_1, hx310_2, hx310_3, hx310_4, hx310_5, hx310_6, hx310_7, hx310_8, hx310_9, hx310_10, hx310_11, hx310_12, hx310_13, hx310_14, hx310_15, hx310_16, hx310_17, hx310_18, hx310_19, hx310_20, hx310_21⟩ := at_T77 HR0.out x5_1 p310 q310
              obtain rfl : ad309 = ad310 := (by injection e310)
              replace hx310_0 := (HB.out.cell (World.block_lt_of_cell? w _ hx310_0)).trans hx310_0
              replace hx310_1 := (HB.out.cell (World.block_lt_of_cell? w _ hx310_1)).trans hx310_1
              replace hx310_2 := (HB.out.cell (World.block_lt_of_cell? w _ hx310_2)).trans hx310_2
              replace hx310_3 := (HB.out.cell (World.block_lt_of_cell? w _ hx310_3)).trans hx310_3
              replace hx310_4 := (HB.out.cell (World.block_lt_of_cell? w _ hx310_4)).trans hx310_4
              replace hx310_5 := (HB.out.cell (World.block_lt_of_cell? w _ hx310_5)).trans hx310_5
              replace hx310_6 := (HB.out.cell (World.block_lt_of_cell? w _ hx310_6)).trans hx310_6
              replace hx310_7 := (HB.out.cell (World.block_lt_of_cell? w _ hx310_7)).trans hx310_7
              replace hx310_8 := (HB.out.cell (World.block_lt_of_cell? w _ hx310_8)).trans hx310_8
              replace hx310_9 := (HB.out.cell (World.block_lt_of_cell? w _ hx310_9)).trans hx310_9
              replace hx310_10 := (HB.out.cell (World.block_lt_of_cell? w _ hx310_10)).trans hx310_10
              replace hx310_11 := (HB.out.cell (World.block_lt_of_cell? w _ hx310_11)).trans hx310_11
              replace hx310_12 := (HB.out.cell (World.block_lt_of_cell? w _ hx310_12)).trans hx310_12
              replace hx310_13 := (HB.out.cell (World.block_lt_of_cell? w _ hx310_13)).trans hx310_13
              replace hx310_14 := (HB.out.cell (World.block_lt_of_cell? w _ hx310_14)).trans hx310_14
              replace hx310_15 := (HB.out.cell (World.block_lt_of_cell? w _ hx310_15)).trans hx310_15
              replace hx310_16 := (HB.out.cell (World.block_lt_of_cell? w _ hx310_16)).trans hx310_16
              replace hx310_17 := (HB.out.cell (World.block_lt_of_cell? w _ hx310_17)).trans hx310_17
              replace hx310_18 := (HB.out.cell (World.block_lt_of_cell? w _ hx310_18)).trans hx310_18
              replace hx310_19 := (HB.out.cell (World.block_lt_of_cell? w _ hx310_19)).trans hx310_19
              replace hx310_20 := (HB.out.cell (World.block_lt_of_cell? w _ hx310_20)).trans hx310_20
              replace hx310_21 := (HB.out.cell (World.block_lt_of_cell? w _ hx310_21)).trans hx310_21
              replace p310 := eq_true p310
              replace q310 := eq_true q310
              go_wp2
              go_roundg k1
              case measure => have := HK1.out; omega
              case rel => exact ⟨(wrap64 (x1_1 - ((rd_T77 l0 x5_1).f5))), (wrap64 (x5_1 + 1)), (x309000_1), (x309001_1), (x309002_1), (by first | rfl | (simp; done) | (simp [*]; done)), (by first | rfl | (simp; done) | (simp [*]; done)), H', ⟨by have := HK1.out; omega⟩, ⟨by (with_reducible repeat (first | refine blk_drewN ?_ _ | refine blk_drew ?_ | refine blk_alloc ?_ _)); exact BK308.out⟩, ⟨by repeat (first | (with_reducible first | exact HB.out | apply below_alloc | apply pw_below_drewN | apply below_drew1 | refine below_set ?_ GE308.out) | exact HB.out)⟩⟩
          · rw [if_neg c8] at H
            exact absurd H (by simp)
        · rw [if_neg c7] at H
          have c7b0 : decide (x5_1 < (l0.length : Int)) = false := decide_eq_false c7
          clear c7
          simp only [Option.some.injEq, Prod.mk.injEq] at H
          obtain ⟨rfl, rfl, rfl⟩ := H
          have hcz11_0 : wr.cell? ⟨gb308, 0, none⟩ = some (.int .i64 x309000_1) := (blk_cell BK308.out 0).trans rfl
          have hcz11_1 : wr.cell? ⟨gb308, 1, none⟩ = some (.int .i64 x309001_1) := (blk_cell BK308.out 1).trans rfl
          have hcz11_2 : wr.cell? ⟨gb308, 2, none⟩ = some (.int .i64 x309002_1) := (blk_cell BK308.out 2).trans rfl
          have hfz11_0 := blk_frozen BK308.out 0
          have hfz11_1 := blk_frozen BK308.out 1
          have hfz11_2 := blk_frozen BK308.out 2
          go_wp2
          refine bodyPost_ret (results_cell_row rfl _ _ gb308 45 #[.int .i64 0, .int .i64 0, .int .i64 4] (0, 0) _ rfl (by (with_reducible repeat (first | refine blk_drewN ?_ _ | refine blk_drew ?_ | refine blk_alloc ?_ _)); refine blk_put (cs := #[.int .i64 0, .int .i64 0, .int .i64 x309002_1]) ?_ 2 _ rfl; (with_reducible repeat (first | refine blk_drewN ?_ _ | refine blk_drew ?_ | refine blk_alloc ?_ _)); refine blk_put (cs := #[.int .i64 0, .int .i64 x309001_1, .int .i64 x309002_1]) ?_ 1 _ rfl; (with_reducible repeat (first | refine blk_drewN ?_ _ | refine blk_drew ?_ | refine blk_alloc ?_ _)); refine blk_put (cs := #[.int .i64 x309000_1, .int .i64 x309001_1, .int .i64 x309002_1]) ?_ 0 _ rfl; (with_reducible repeat (first | refine blk_drewN ?_ _ | refine blk_drew ?_ | refine blk_alloc ?_ _)); exact BK308.out) Try.underlying45 rfl (by kernel_rfl)) rfl ?_
          exact ⟨by first | rfl | (simp [errW_none, errW_some] <;> rfl) | (simp [*, errW_none, errW_some] <;> rfl), by repeat (first | (with_reducible first | exact HB.out | apply below_alloc | apply pw_below_drewN | apply below_drew1 | refine below_set ?_ GE308.out) | exact HB.out)⟩

end Go.Proofs.Ytalncokpbgbccaa.E

/- Searching: what the program computes is what the reference computes. -/
namespace Go.Proofs.Ytalncokpbgbccaa.E
set_option linter.unusedVariables false
set_option linter.unusedSimpArgs false
open Go.RowKit Go.Proofs.YtalncokpbgbccaaW.PrintWords Go.Proofs.YtalncokpbgbccaaW.PrintLast Go.Proofs.YtalncokpbgbccaaW.PrintMore
theorem less_irr : ∀ a : List UInt8, Op.bytesLess a a = false
  | [] => by simp [Op.bytesLess]
  | x :: a => by rw [less_cons, if_neg (by omega), if_neg (by omega)]; exact less_irr a
theorem less_nil2 (a : List UInt8) (h : Op.bytesLess a [] = true) : False := by cases a <;> simp [Op.bytesLess] at h
theorem less_tr : ∀ a b c : List UInt8, Op.bytesLess a b = true → Op.bytesLess b c = true → Op.bytesLess a c = true
  | _, _, [], h1, h2 => (less_nil2 _ h2).elim
  | _, [], _ :: _, h1, h2 => (less_nil2 _ h1).elim
  | [], _ :: _, _ :: _, h1, h2 => by simp [Op.bytesLess]
  | x :: a, y :: b, z :: c, h1, h2 => by
    rw [less_cons] at h1 h2 ⊢
    by_cases k1 : x.toNat < y.toNat
    · by_cases k2 : y.toNat < z.toNat
      · rw [if_pos (by omega)]
      · rw [if_neg k2] at h2
        by_cases k3 : z.toNat < y.toNat
        · rw [if_pos k3] at h2; cases h2
        · rw [if_pos (by omega)]
    · rw [if_neg k1] at h1
      by_cases k2 : y.toNat < x.toNat
      · rw [if_pos k2] at h1; cases h1
      · rw [if_neg k2] at h1
        by_cases k3 : y.toNat < z.toNat
        · rw [if_pos (by omega)]
        · rw [if_neg k3] at h2
          by_cases k4 : z.toNat < y.toNat
          · rw [if_pos k4] at h2; cases h2
          · rw [if_neg k4] at h2
            rw [if_neg (by omega), if_neg (by omega)]
            exact less_tr a b c h1 h2
end Go.Proofs.Ytalncokpbgbccaa.E

/- What Pack answers: it divides whatever is right, and each separator is the one of its place. -/
namespace Go.Proofs.Ytalncokpbgbccaa.E
set_option linter.unusedVariables false
set_option linter.unusedSimpArgs false
open Go.RowKit Go.Proofs.YtalncokpbgbccaaW.PrintWords Go.Proofs.YtalncokpbgbccaaW.PrintLast Go.Proofs.YtalncokpbgbccaaW.PrintMore
/-- whether the entries of a list are valid for a level, but for their weight -/
def rightB (l : List S77) (level : Int) : Bool := ordL l level && (((decide (level = 0) && decide (0 < l.length)) || (decide (0 < level) && decide (1 < l.length))) && validL l level)
theorem form_short {x : S77} (h : formI x = 1) : x.f0.size ≤ 48 ∧ x.f1.size ≤ 64 := by
  unfold formI at h
  split at h
  · cases h
  · rename_i h0
    have hk : x.f0.size ≤ 48 := by unfold inB at h0; simp at h0; omega
    refine ⟨hk, ?_⟩
    cases hs : shortB x with
    | true => unfold shortB at hs; simp at hs; omega
    | false =>
      rw [hs] at h
      exfalso
      revert h
      repeat' split
      all_goals simp_all
theorem form_key {x : S77} (h : formI x ≠ 0) : x.f0.size ≤ 48 := by
  unfold formI at h
  split at h
  · exact absurd rfl h
  · rename_i h0
    unfold inB at h0; simp at h0; omega
/-- a valid entry fits into a node by itself -/
theorem okB_small {x : S77} {level : Int} (h : okB level x = true) : (weighI x level).1 ≤ 117 := by
  unfold okB weighI at *
  split
  · rename_i hl
    rw [if_pos hl] at h
    have h2 : brB x = true := h
    unfold brB at h2
    simp only [Bool.and_eq_true, decide_eq_true_eq] at h2
    show (x.f0.size : Int) + 27 ≤ 117
    have := h2.1
    omega
  · rename_i hl
    rw [if_neg hl] at h
    split
    · rename_i h1
      have := form_short h1
      show (x.f0.size : Int) + (x.f1.size : Int) + 5 ≤ 117
      omega
    · rename_i h1
      rw [if_neg h1] at h
      split
      · rename_i h2
        have := form_key (x := x) (by omega)
        show (x.f0.size : Int) + 27 ≤ 117
        omega
      · rename_i h2
        rw [if_neg h2] at h
        split
        · rename_i h3
          have := form_key (x := x) (by omega)
          show (x.f0.size : Int) + 29 ≤ 117
          omega
        · show (0 : Int) ≤ 117
          omega
theorem valid_okB {l : List S77} {level : Int} (hv : validL l level = true) : l.all (okB level) = true := by
  unfold validL at hv
  simp only [Bool.and_eq_true] at hv
  have h0 : 0 ≤ level := by have := hv.1; unfold inB at this; simp at this; omega
  have hall := hv.2.2.2
  rw [List.all_eq_true]
  intro x hx
  obtain ⟨j, hj, rfl⟩ := List.getElem_of_mem hx
  have h1 : vAt l level j = true := List.all_eq_true.1 hall j (by simpa using hj)
  have e : l.getD j z77 = l[j] := by simp [hj]
  unfold vAt at h1
  rw [e, Bool.and_eq_true] at h1
  have h2 := h1.1
  unfold okB weighI
  by_cases hz : level = 0
  · subst hz
    rw [if_pos rfl] at h2
    rw [if_neg (by omega)]
    have h3 : formI l[j] ≠ 0 := by simpa using h2
    rcases form_cases l[j] with h | h | h | h
    · exact absurd h h3
    · rw [if_pos h]
    · rw [if_neg (by omega), if_pos h]
    · rw [if_neg (by omega), if_neg (by omega), if_pos h]
  · rw [if_neg hz, Bool.and_eq_true] at h2
    rw [if_pos (by omega)]
    exact h2.1
theorem right_packable {l : List S77} {level : Int} (h : rightB l level = true) : packable l level = true := by
  unfold rightB at h
  simp only [Bool.and_eq_true] at h
  have h1 := h.1
  rw [packable_iff]
  refine ⟨ord_level h1, ?_, all_bare (valid_okB h.2.2)⟩
  have := h1
  rw [ordL, Bool.and_eq_true] at this
  simpa using this.2
theorem wt_one {l : List S77} {level : Int} (h : (bare level l).all (okB level) = true) (h1 : l.length ≤ 1) : 6 + wt level (bare level l) ≤ 496 := by
  have hb := bare_length level l
  generalize bare level l = m at h hb
  match m, h, hb with
  | [], _, _ => simp [wt]
  | [x], h, _ =>
    have := okB_small (level := level) (x := x) (by simpa using h)
    simp [wt]; omega
  | _ :: _ :: _, _, hb => simp at hb; omega
theorem packO_some (level : Int) : ∀ (f : Nat) (l : List S77), l.length < f → packable l level = true → ∃ x, packO f l level = some x := by
  intro f
  induction f with
  | zero => intro l h; omega
  | succ f ih =>
    intro l hl hp
    rw [packO]
    by_cases h1 : 6 + wt level (bare level l) ≤ 496
    · exact ⟨_, if_pos h1⟩
    rw [if_neg h1]
    by_cases h2 : l.length ≤ 1
    · exact absurd (wt_one ((packable_iff l level).mp hp).2.2 h2) h1
    rw [if_neg h2]
    obtain ⟨_, hb1, hb2⟩ := bestN_spec l level (by omega)
    obtain ⟨y, hy⟩ := ih (l.take (bestN l level)) (by simp; omega) (packable_take (by omega) hp)
    obtain ⟨z, hz⟩ := ih (bare level (l.drop (bestN l level))) (by rw [bare_length]; simp; omega) (packable_drop hb1 (by omega) hp)
    exact ⟨_, by rw [hy, Option.bind_some, hz, Option.bind_some]⟩
/-- how many entries lie in the first parts -/
def atP (p : List (List S77)) (i : Nat) : Nat := ((p.take i).map List.length).sum
theorem atP_succ (p : List (List S77)) (i : Nat) (h : i < p.length) : atP p (i + 1) = atP p i + (p.getD i []).length := by
  unfold atP
  rw [List.take_succ_eq_append_getElem h, List.map_append, List.sum_append]
  simp [List.getD, h]
theorem atP_left (p q : List (List S77)) (i : Nat) (h : i ≤ p.length) : atP (p ++ q) i = atP p i := by
  unfold atP
  rw [List.take_append_of_le_length h]
theorem atP_right (p q : List (List S77)) (i : Nat) : atP (p ++ q) (p.length + i) = atP p p.length + atP q i := by
  unfold atP
  rw [List.take_append, List.take_of_length_le (by omega), Nat.add_sub_cancel_left, List.map_append, List.sum_append, List.take_length]
theorem take_getD (l : List S77) (b k : Nat) (h : k < b) : (l.take b).getD k z77 = l.getD k z77 := by simp [List.getD, List.getElem?_take, h]
theorem sepF_take (l : List S77) (level : Int) (b k : Nat) (h : k < b) : sepF (l.take b) level k = sepF l level k := by
  unfold sepF
  rw [take_getD l b k h, take_getD l b (k - 1) (by omega)]
theorem sepF_drop (l : List S77) (level : Int) (b k : Nat) (h : 1 ≤ k) : sepF (bare level (l.drop b)) level k = sepF l level (b + k) := by
  unfold sepF
  by_cases hl : level > 0
  · rw [if_pos hl, if_pos hl, bare_getD level _ k h, getD_drop]
  · rw [if_neg hl, if_neg hl, bare_no level _ (fun e => hl e.1), getD_drop, getD_drop, show b + (k - 1) = b + k - 1 by omega]
theorem packO_seps (level : Int) : ∀ (f : Nat) (l : List S77) (x : List (List S77) × List ByteArray), 1 ≤ l.length → packO f l level = some x →
    atP x.1 x.1.length = l.length ∧ ∀ i, i < x.2.length → 1 ≤ atP x.1 (i + 1) ∧ atP x.1 (i + 1) < l.length ∧ x.2.getD i ByteArray.empty = sepF l level (atP x.1 (i + 1)) := by
  intro f
  induction f with
  | zero => intro l x _ h; cases h
  | succ f ih =>
    intro l x hl h
    rw [packO] at h
    split at h
    · cases h
      exact ⟨by simp [atP], fun i hi => by simp at hi⟩
    split at h
    · cases h
    obtain ⟨_, hb1, hb2⟩ := bestN_spec l level (by omega)
    generalize bestN l level = b at h hb1 hb2
    obtain ⟨y, hy, h⟩ := Option.bind_eq_some_iff.mp h
    obtain ⟨z, hz, h⟩ := Option.bind_eq_some_iff.mp h
    cases h
    have ly : (l.take b).length = b := by simp; omega
    have lz : (bare level (l.drop b)).length = l.length - b := by rw [bare_length]; simp
    obtain ⟨k1, k2⟩ := ih _ _ (by omega) hy
    obtain ⟨m1, m2⟩ := ih _ _ (by omega) hz
    have e1 := (packO_len f _ level _ (by omega) hy).2
    have e2 := (packO_len f _ level _ (by omega) hz).2
    rw [ly] at k1 k2
    rw [lz] at m1 m2
    refine ⟨?_, fun i hi => ?_⟩
    · show atP (y.1 ++ z.1) (y.1 ++ z.1).length = l.length
      rw [List.length_append, atP_right, k1, m1]; omega
    · have hi' : i < y.2.length + 1 + z.2.length := by have := hi; simp at this; omega
      show 1 ≤ atP (y.1 ++ z.1) (i + 1) ∧ atP (y.1 ++ z.1) (i + 1) < l.length ∧ (y.2 ++ [sepF l level b] ++ z.2).getD i ByteArray.empty = sepF l level (atP (y.1 ++ z.1) (i + 1))
      by_cases c1 : i < y.2.length
      · obtain ⟨g1, g2, g3⟩ := k2 i c1
        rw [atP_left _ _ _ (by omega)]
        refine ⟨g1, by omega, ?_⟩
        rw [← sepF_take l level b _ g2, ← g3]
        simp [List.getD, List.getElem?_append, c1, show i < y.2.length + 1 by omega]
      · by_cases c2 : i = y.2.length
        · subst c2
          rw [show y.2.length + 1 = y.1.length + 0 by omega, atP_right, k1]
          have : atP z.1 0 = 0 := by simp [atP]
          rw [this]
          refine ⟨by omega, by omega, ?_⟩
          simp [List.getD, List.getElem?_append]
        · obtain ⟨j, rfl⟩ : ∃ j, i = y.2.length + 1 + j := ⟨i - (y.2.length + 1), by omega⟩
          obtain ⟨g1, g2, g3⟩ := m2 j (by omega)
          rw [show y.2.length + 1 + j + 1 = y.1.length + (j + 1) by omega, atP_right, k1]
          refine ⟨by omega, by omega, ?_⟩
          rw [← sepF_drop l level b _ g1, ← g3]
          have hlen : (y.2 ++ [sepF l level b]).length = y.2.length + 1 := by simp
          rw [List.getD, List.getD, List.getElem?_append_right (by rw [hlen]; omega), hlen, show y.2.length + 1 + j - (y.2.length + 1) = j by omega]
theorem ord_lt {l : List S77} {level : Int} (h : ordL l level = true) (i : Nat) (h1 : 1 ≤ i) (hi : i < l.length) :
    Op.bytesLess (l.getD (i - 1) z77).f0.toList (l.getD i z77).f0.toList = true ∧ (l.getD i z77).f0.size ≤ 48 := by
  rw [ordL, Bool.and_eq_true] at h
  have h2 : okAt l level i = true := by simpa using (List.all_eq_true.1 h.2 i (by simpa using hi))
  rw [okAt, if_neg (by omega)] at h2
  simp only [Bool.and_eq_true, Bool.or_eq_true, decide_eq_true_eq] at h2
  exact ⟨by rcases h2.2.2 with h | h; omega; exact h, h2.2.1⟩
/-- what a separator between two keys is -/
theorem sep_good (a b : ByteArray) (h : Op.bytesLess a.toList b.toList = true) (hb : b.size ≤ 48) :
    (ofL (btw (toL a) (toL b))).size ≤ 48 ∧ Op.bytesLess a.toList (ofL (btw (toL a) (toL b))).toList = true ∧ Op.bytesLess b.toList (ofL (btw (toL a) (toL b))).toList = false := by
  have ea : a.toList = toL a := Lib.toList_data a
  have eb : b.toList = toL b := Lib.toList_data b
  rw [ea, eb] at h
  rw [ea, eb, toList_ofL, size_ofL]
  have hab := (less_cmpL _ _).1 h
  have h1 := btw_gt _ _ hab
  have h2 := btw_le _ _ hab
  have h3 := (btw_least _ _ (toL b) hab hab (by
    have : cmpL (toL b) (toL b) = 0 := by
      generalize toL b = l
      induction l with
      | nil => rfl
      | cons x l ih => rw [cmpL_same']; exact ih
    omega)).1
  refine ⟨by rw [length_toL] at h3; omega, (less_cmpL _ _).2 h1, ?_⟩
  cases hq : Op.bytesLess (toL b) (btw (toL a) (toL b)) with
  | false => rfl
  | true =>
    have h4 := (less_cmpL _ _).1 hq
    have h5 := less_tr _ _ _ ((less_cmpL _ _).2 h4) ((less_cmpL _ _).2 (show cmpL (btw (toL a) (toL b)) (toL b) = -1 by
      rcases cmpL_vals (btw (toL a) (toL b)) (toL b) with h6 | h6 | h6
      · exact h6
      · exfalso
        have h7 := less_total (toL b) (btw (toL a) (toL b))
        rw [hq, Bool.true_or] at h7
        have h8 : Op.bytesLess (btw (toL a) (toL b)) (toL b) = false := by simpa using h7.symm
        have h9 := cmpB_cmpL (btw (toL a) (toL b)) (toL b)
        rw [h8, hq, h6] at h9
        simp at h9
      · omega))
    rw [less_irr] at h5
    cases h5
/-- no key that is shorter than the separator lies behind the key to the left -/
theorem sep_short (a b : ByteArray) (h : Op.bytesLess a.toList b.toList = true) (n : Nat) (hn : n < (ofL (btw (toL a) (toL b))).size) : Op.bytesLess a.toList ((toL b).take n) = false := by
  have ea : a.toList = toL a := Lib.toList_data a
  have eb : b.toList = toL b := Lib.toList_data b
  rw [ea, eb] at h
  rw [ea]
  have hab := (less_cmpL _ _).1 h
  rw [size_ofL, (btw_lcp _ _ hab).1] at hn
  have ht : (toL b).take n = (toL a).take n := by
    have h1 := take_lcp (toL a) (toL b)
    have h2 := congrArg (List.take n) h1
    rwa [List.take_take, List.take_take, Nat.min_eq_left (by omega)] at h2
  rw [ht]
  generalize toL a = l
  clear ht hn hab h ea eb
  induction l generalizing n with
  | nil => simp [Op.bytesLess]
  | cons x l ih =>
    cases n with
    | zero => simp [Op.bytesLess]
    | succ n => rw [List.take_succ_cons, less_cons, if_neg (by omega), if_neg (by omega)]; exact ih n
/-- what the law asks of the separator ahead of entry i -/
theorem sepF_good {l : List S77} {level : Int} (h : ordL l level = true) (i : Nat) (h1 : 1 ≤ i) (hi : i < l.length) :
    (sepF l level i).size ≤ 48 ∧ Op.bytesLess (l.getD (i - 1) z77).f0.toList (sepF l level i).toList = true ∧ Op.bytesLess (l.getD i z77).f0.toList (sepF l level i).toList = false
    ∧ (level = 0 → ∀ n, n < (sepF l level i).size → Op.bytesLess (l.getD (i - 1) z77).f0.toList ((toL (l.getD i z77).f0).take n) = false) := by
  obtain ⟨g1, g2⟩ := ord_lt h i h1 hi
  unfold sepF
  by_cases hl : level > 0
  · rw [if_pos hl]
    exact ⟨g2, g1, less_irr _, fun h0 => by omega⟩
  · rw [if_neg hl]
    obtain ⟨s1, s2, s3⟩ := sep_good _ _ g1 g2
    exact ⟨s1, s2, s3, fun _ n hn => sep_short _ _ g1 n hn⟩
end Go.Proofs.Ytalncokpbgbccaa.E

