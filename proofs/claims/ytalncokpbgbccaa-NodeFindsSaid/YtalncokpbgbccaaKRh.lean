-- A slim copy of Rk, Rh, PA, PF, PS, written by wip/tools/prune2.py.
import Derived.Test.YtalncokpbgbccaaKMb
import Derived.Test.YtalncokpbgbccaaKMd
import Derived.Test.YtalncokpbgbccaaKMk
import Derived.Test.YtalncokpbgbccaaKNx0
import Derived.Test.YtalncokpbgbccaaKRc
-- Printed by this session's wip/tools/oracle.py, which runs the kit's print program; Lean checks it.
namespace Go.Proofs.Ytalncokpbgbccaa.E
open Go.RowKit Go.Proofs.YtalncokpbgbccaaW.PrintWords Go.Proofs.YtalncokpbgbccaaW.PrintLast Go.Proofs.YtalncokpbgbccaaW.PrintMore
attribute [local go_sem] max2_int min2_int max_two min_two max_three min_three max_four min_four   -- for this text's walks alone
set_option linter.unusedVariables false
set_option linter.unusedSimpArgs false

/-! ### understorylaw06_few: function 14 -/
mutual
def understorylaw06_few.l0 : Nat → List (List (S77)) → Int → Option (Bool)
  | 0, _, _ => none
  | k + 1, x0, x3 => if x3 < (x0.length : Int) then (if 0 ≤ x3 then (if ((rd_L5 x0 x3).length : Int) > 100 then (some false) else (understorylaw06_few.l1 k x0 x3 0)) else (none)) else (some true)
def understorylaw06_few.l1 : Nat → List (List (S77)) → Int → Int → Option (Bool)
  | 0, _, _, _ => none
  | k + 1, x0, x3, x4 => if 0 ≤ x3 then (if x3 < (x0.length : Int) then (if x4 < ((rd_L5 x0 x3).length : Int) then (if 0 ≤ x4 then (if (((rd_T77 (rd_L5 x0 x3) x4).f0).size : Int) > 100 then (some false) else (if (((rd_T77 (rd_L5 x0 x3) x4).f1).size : Int) > 200 then (some false) else (understorylaw06_few.l1 k x0 x3 (wrap64 (x4 + 1))))) else (none)) else (understorylaw06_few.l0 k x0 (wrap64 (x3 + 1)))) else (none)) else (none)
end
def understorylaw06_few.f (k : Nat) (l0 : List (List (S77))) : Option (Bool) := understorylaw06_few.l0 k l0 0
theorem understorylaw06_few.mono_l : ∀ k, (∀ y0 y1, LeO (understorylaw06_few.l0 k y0 y1) (understorylaw06_few.l0 (k + 1) y0 y1)) ∧ (∀ y0 y1 y2, LeO (understorylaw06_few.l1 k y0 y1 y2) (understorylaw06_few.l1 (k + 1) y0 y1 y2))
  | 0 => ⟨fun _ _ r h => by simp [understorylaw06_few.l0] at h, fun _ _ _ r h => by simp [understorylaw06_few.l1] at h⟩
  | k + 1 => by
    obtain ⟨ih0, ih1⟩ := understorylaw06_few.mono_l k
    refine ⟨?_, ?_⟩
    · intro y0 y1
      unfold understorylaw06_few.l0
      repeat' first
      | (with_reducible exact ih0 _ _)
      | (with_reducible exact ih1 _ _ _)
      | (with_reducible exact LeO.refl _)
      | (with_reducible exact LeO.none _)
      | (with_reducible refine LeO.ite ?_ ?_)
      | (with_reducible refine LeO.bind ?_ (fun _ => ?_))
      | exact ih0 _ _
      | exact ih1 _ _ _
      | exact LeO.none _
      | refine LeO.ite ?_ ?_
      | refine LeO.bind ?_ (fun _ => ?_)
    · intro y0 y1 y2
      unfold understorylaw06_few.l1
      repeat' first
      | (with_reducible exact ih0 _ _)
      | (with_reducible exact ih1 _ _ _)
      | (with_reducible exact LeO.refl _)
      | (with_reducible exact LeO.none _)
      | (with_reducible refine LeO.ite ?_ ?_)
      | (with_reducible refine LeO.bind ?_ (fun _ => ?_))
      | exact ih0 _ _
      | exact ih1 _ _ _
      | exact LeO.none _
      | refine LeO.ite ?_ ?_
      | refine LeO.bind ?_ (fun _ => ?_)
theorem understorylaw06_few.mono : ∀ a0 k, LeO (understorylaw06_few.f k a0) (understorylaw06_few.f (k + 1) a0) := by
  intro a0 k
  obtain ⟨ih0, ih1⟩ := understorylaw06_few.mono_l k
  unfold understorylaw06_few.f
  repeat' first
      | (with_reducible exact ih0 _ _)
      | (with_reducible exact ih1 _ _ _)
      | (with_reducible exact LeO.refl _)
      | (with_reducible exact LeO.none _)
      | (with_reducible refine LeO.ite ?_ ?_)
      | (with_reducible refine LeO.bind ?_ (fun _ => ?_))
      | exact ih0 _ _
      | exact ih1 _ _ _
      | exact LeO.none _
      | refine LeO.ite ?_ ?_
      | refine LeO.bind ?_ (fun _ => ?_)
set_option maxHeartbeats 8000000 in
set_option maxRecDepth 100000 in
theorem understorylaw06_few.calls (k : Nat) (A0 : Option Addr) (c0 : Nat) (l0 : List (List (S77))) (r : Bool) (w : World) (hr0 : Kd.C (Kd.slice 77 k77) w A0 l0.length l0) (hc0 : l0.length ≤ c0) (h : understorylaw06_few.f k l0 = some r) :
    Calls Try.prog 14 #[.slice A0 l0.length c0] w fun e w' => e = .returned (.bool r) ∧ Drawn0 w w' := by
  have HR0 := Aside0.mk hr0
  have HC0 := Aside0.mk hc0
  clear hr0 hc0
  have H : (understorylaw06_few.l0 k l0 0) = some r := h
  clear h
  have H' := Aside0.mk H
  clear H
  go_enter Try.func14, Try.ntmps14
  go_wp2
  go_loopg [3] k (fun kq v3 w' => ∃ (x3_1 : Int), v3 = .int .i64 x3_1 ∧ Aside0 (understorylaw06_few.l0 kq l0 x3_1 = some r) ∧ Aside0 (kq ≤ k) ∧ Drawn0 w w')
  case atStart => exact ⟨(0), (by first | rfl | (simp; done) | (simp [*]; done)), H', ⟨Nat.le_refl _⟩, by repeat (first | exact Drawn0.refl _ | apply Drawn0.step)⟩
  case round =>
    clear H'
    try clear c1
    obtain ⟨x3_1, rfl, HA, HK1, ⟨m1, rfl⟩⟩ := hrel
    cases gk with
    | zero => exact absurd HA.out (by simp [understorylaw06_few.l0])
    | succ k1 =>
      have H := HA.out
      clear HA
      simp only [understorylaw06_few.l0] at H
      by_cases c2 : x3_1 < (l0.length : Int)
      · rw [if_pos c2] at H
        have c2b0 : decide (x3_1 < (l0.length : Int)) = true := decide_eq_true c2
        clear c2
        by_cases c3 : 0 ≤ x3_1
        · rw [if_pos c3] at H
          have c3b0 : decide (0 ≤ x3_1) = true := decide_eq_true c3
          clear c3
          by_cases c4 : ((rd_L5 l0 x3_1).length : Int) > 100
          · rw [if_pos c4] at H
            have c4b0 : decide (100 < ((rd_L5 l0 x3_1).length : Int)) = true := decide_eq_true c4
            have c4b1 : decide (100 < (rd_L5 l0 x3_1).length) = true := decide_eq_true (by omega)
            clear c4
            obtain rfl := Option.some.inj H
            have p132 : 0 ≤ (x3_1 : Int) := of_decide_eq_true (by first | (with_reducible assumption) | assumption)
            have q132 : x3_1 < (l0.length : Int) := of_decide_eq_true (by first | (with_reducible assumption) | assumption)
            obtain ⟨ad132, A132_0, c132_0, e132, hx132_0, hl132_0, hi132_0⟩ := at_L5 HR0.out x3_1 p132 q132
            cases e132
            have HR132_0 := Aside0.mk hi132_0
            have HC132_0 := Aside0.mk hl132_0
            clear hi132_0 hl132_0
            replace p132 := eq_true p132
            replace q132 := eq_true q132
            go_wp2
            go_ret
            exact ⟨by first | rfl | (simp; done) | (simp [*]; done), by repeat (first | exact Drawn0.refl _ | apply Drawn0.step)⟩
          · rw [if_neg c4] at H
            have c4b0 : decide (100 < ((rd_L5 l0 x3_1).length : Int)) = false := decide_eq_false c4
            have c4b1 : decide (100 < (rd_L5 l0 x3_1).length) = false := decide_eq_false (by omega)
            clear c4
            have H' := Aside0.mk H
            clear H
            have p132 : 0 ≤ (x3_1 : Int) := of_decide_eq_true (by first | (with_reducible assumption) | assumption)
            have q132 : x3_1 < (l0.length : Int) := of_decide_eq_true (by first | (with_reducible assumption) | assumption)
            obtain ⟨ad132, A132_0, c132_0, e132, hx132_0, hl132_0, hi132_0⟩ := at_L5 HR0.out x3_1 p132 q132
            cases e132
            have HR132_0 := Aside0.mk hi132_0
            have HC132_0 := Aside0.mk hl132_0
            clear hi132_0 hl132_0
            replace p132 := eq_true p132
            replace q132 := eq_true q132
            go_wp2
            go_loopg [4] k1 (fun kq v4 w' => ∃ (x4_2 : Int), v4 = .int .i64 x4_2 ∧ Aside0 (understorylaw06_few.l1 kq l0 x3_1 x4_2 = some r) ∧ Aside0 (kq ≤ k1) ∧ Drawn0 w w')
            case atStart => exact ⟨(0), (by first | rfl | (simp; done) | (simp [*]; done)), H', ⟨Nat.le_refl _⟩, by repeat (first | exact Drawn0.refl _ | apply Drawn0.step)⟩
            case round =>
              clear H'
              try clear c1
              try clear p1
              try clear q1
              try clear hx1
              try clear c2
              try clear c2b0
              try clear p2
              try clear c3
              try clear c3b0
              try clear c4
              try clear c4b0
              try clear c4b1
              try clear hx132_0
              try clear p132
              try clear q132
              obtain ⟨x4_2, rfl, HA, HK2, ⟨m2, rfl⟩⟩ := hrel
              cases gk with
              | zero => exact absurd HA.out (by simp [understorylaw06_few.l1])
              | succ k2 =>
                have H := HA.out
                clear HA
                simp only [understorylaw06_few.l1] at H
                by_cases c5 : 0 ≤ x3_1
                · rw [if_pos c5] at H
                  have c5b0 : decide (0 ≤ x3_1) = true := decide_eq_true c5
                  clear c5
                  by_cases c6 : x3_1 < (l0.length : Int)
                  · rw [if_pos c6] at H
                    have c6b0 : decide (x3_1 < (l0.length : Int)) = true := decide_eq_true c6
                    clear c6
                    by_cases c7 : x4_2 < ((rd_L5 l0 x3_1).length : Int)
                    · rw [if_pos c7] at H
                      have c7b0 : decide (x4_2 < ((rd_L5 l0 x3_1).length : Int)) = true := decide_eq_true c7
                      clear c7
                      by_cases c8 : 0 ≤ x4_2
                      · rw [if_pos c8] at H
                        have c8b0 : decide (0 ≤ x4_2) = true := decide_eq_true c8
                        clear c8
                        by_cases c9 : (((rd_T77 (rd_L5 l0 x3_1) x4_2).f0).size : Int) > 100
                        · rw [if_pos c9] at H
                          have c9b0 : decide (100 < (((rd_T77 (rd_L5 l0 x3_1) x4_2).f0).size : Int)) = true := decide_eq_true c9
                          have c9b1 : decide (100 < ((rd_T77 (rd_L5 l0 x3_1) x4_2).f0).size) = true := decide_eq_true (by omega)
                          clear c9
                          obtain rfl := Option.some.inj H
                          have p133 : 0 ≤ (x3_1 : Int) := of_decide_eq_true (by first | (with_reducible assumption) | assumption)
                          have q133 : x3_1 < (l0.length : Int) := of_decide_eq_true (by first | (with_reducible assumption) | assumption)
                          obtain ⟨ad133, A133_0, c133_0, e133, hx133_0, hl133_0, hi133_0⟩ := at_L5 HR0.out x3_1 p133 q133
                          obtain rfl : ad132 = ad133 := (by injection e133)
                          have HR133_0 := Aside0.mk hi133_0
                          have HC133_0 := Aside0.mk hl133_0
                          clear hi133_0 hl133_0
                          replace p133 := eq_true p133
                          replace q133 := eq_true q133
                          have p134 : 0 ≤ (x3_1 : Int) := of_decide_eq_true (by first | (with_reducible assumption) | assumption)
                          have q134 : x3_1 < (l0.length : Int) := of_decide_eq_true (by first | (with_reducible assumption) | assumption)
                          obtain ⟨ad134, A134_0, c134_0, e134, hx134_0, hl134_0, hi134_0⟩ := at_L5 HR0.out x3_1 p134 q134
                          obtain rfl : ad132 = ad134 := (by injection e134)
                          have HR134_0 := Aside0.mk hi134_0
                          have HC134_0 := Aside0.mk hl134_0
                          clear hi134_0 hl134_0
                          replace p134 := eq_true p134
                          replace q134 := eq_true q134
                          have ea_ := Option.some.inj (hx133_0.symm.trans hx134_0)
                          injection ea_ with ea_ en_ ec_
                          subst ea_
                          subst ec_
                          clear en_
                          have p135 : 0 ≤ (x4_2 : Int) := of_decide_eq_true (by first | (with_reducible assumption) | assumption)
                          have q135 : x4_2 < ((rd_L5 l0 x3_1).length : Int) := of_decide_eq_true (by first | (with_reducible assumption) | assumption)
                          obtain ⟨ad135, e135, hx135_0, hx135_1, hx135_2, hx135_3, hx135_4, hx135_5, hx135_6, hx135_7, hx135_8, hx135_9, hx135_10, hx135_11, hx135_12, hx135_13, hx135_14, hx135_15, hx135_16, hx135_17, hx135_18, hx135_19, hx135_20, hx135_21⟩ := at_T77 HR134_0.out x4_2 p135 q135
                          cases e135
                          replace p135 := eq_true p135
                          replace q135 := eq_true q135
                          go_wp2
                          go_ret
                          exact ⟨by first | rfl | (simp; done) | (simp [*]; done), by repeat (first | exact Drawn0.refl _ | apply Drawn0.step)⟩
                        · rw [if_neg c9] at H
                          have c9b0 : decide (100 < (((rd_T77 (rd_L5 l0 x3_1) x4_2).f0).size : Int)) = false := decide_eq_false c9
                          have c9b1 : decide (100 < ((rd_T77 (rd_L5 l0 x3_1) x4_2).f0).size) = false := decide_eq_false (by omega)
                          clear c9
                          by_cases c10 : (((rd_T77 (rd_L5 l0 x3_1) x4_2).f1).size : Int) > 200
                          · rw [if_pos c10] at H
                            have c10b0 : decide (200 < (((rd_T77 (rd_L5 l0 x3_1) x4_2).f1).size : Int)) = true := decide_eq_true c10
                            have c10b1 : decide (200 < ((rd_T77 (rd_L5 l0 x3_1) x4_2).f1).size) = true := decide_eq_true (by omega)
                            clear c10
                            obtain rfl := Option.some.inj H
                            have p133 : 0 ≤ (x3_1 : Int) := of_decide_eq_true (by first | (with_reducible assumption) | assumption)
                            have q133 : x3_1 < (l0.length : Int) := of_decide_eq_true (by first | (with_reducible assumption) | assumption)
                            obtain ⟨ad133, A133_0, c133_0, e133, hx133_0, hl133_0, hi133_0⟩ := at_L5 HR0.out x3_1 p133 q133
                            obtain rfl : ad132 = ad133 := (by injection e133)
                            have HR133_0 := Aside0.mk hi133_0
                            have HC133_0 := Aside0.mk hl133_0
                            clear hi133_0 hl133_0
                            replace p133 := eq_true p133
                            replace q133 := eq_true q133
                            have p134 : 0 ≤ (x3_1 : Int) := of_decide_eq_true (by first | (with_reducible assumption) | assumption)
                            have q134 : x3_1 < (l0.length : Int) := of_decide_eq_true (by first | (with_reducible assumption) | assumption)
                            obtain ⟨ad134, A134_0, c134_0, e134, hx134_0, hl134_0, hi134_0⟩ := at_L5 HR0.out x3_1 p134 q134
                            obtain rfl : ad132 = ad134 := (by injection e134)
                            have HR134_0 := Aside0.mk hi134_0
                            have HC134_0 := Aside0.mk hl134_0
                            clear hi134_0 hl134_0
                            replace p134 := eq_true p134
                            replace q134 := eq_true q134
                            have ea_ := Option.some.inj (hx133_0.symm.trans hx134_0)
                            injection ea_ with ea_ en_ ec_
                            subst ea_
                            subst ec_
                            clear en_
                            have p135 : 0 ≤ (x4_2 : Int) := of_decide_eq_true (by first | (with_reducible assumption) | assumption)
                            have q135 : x4_2 < ((rd_L5 l0 x3_1).length : Int) := of_decide_eq_true (by first | (with_reducible assumption) | assumption)
                            obtain ⟨ad135, e135, hx135_0, hx135_1, hx135_2, hx135_3, hx135_4, hx135_5, hx135_6, hx135_7, hx135_8, hx135_9, hx135_10, hx135_11, hx135_12, hx135_13, hx135_14, hx135_15, hx135_16, hx135_17, hx135_18, hx135_19, hx135_20, hx135_21⟩ := at_T77 HR134_0.out x4_2 p135 q135
                            cases e135
                            replace p135 := eq_true p135
                            replace q135 := eq_true q135
                            have p136 : 0 ≤ (x3_1 : Int) := of_decide_eq_true (by first | (with_reducible assumption) | assumption)
                            have q136 : x3_1 < (l0.length : Int) := of_decide_eq_true (by first | (with_reducible assumption) | assumption)
                            obtain ⟨ad136, A136_0, c136_0, e136, hx136_0, hl136_0, hi136_0⟩ := at_L5 HR0.out x3_1 p136 q136
                            obtain rfl : ad132 = ad136 := (by injection e136)
                            have HR136_0 := Aside0.mk hi136_0
                            have HC136_0 := Aside0.mk hl136_0
                            clear hi136_0 hl136_0
                            replace p136 := eq_true p136
                            replace q136 := eq_true q136
                            have ea_ := Option.some.inj (hx133_0.symm.trans hx136_0)
                            injection ea_ with ea_ en_ ec_
                            subst ea_
                            subst ec_
                            clear en_
                            have p137 : 0 ≤ (x4_2 : Int) := of_decide_eq_true (by first | (with_reducible assumption) | assumption)
                            have q137 : x4_2 < ((rd_L5 l0 x3_1).length : Int) := of_decide_eq_true (by first | (with_reducible assumption) | assumption)
                            obtain ⟨ad137, e137, hx137_0, hx137_1, hx137_2, hx137_3, hx137_4, hx137_5, hx137_6, hx137_7, hx137_8, hx137_9, hx137_10, hx137_11, hx137_12, hx137_13, hx137_14, hx137_15, hx137_16, hx137_17, hx137_18, hx137_19, hx137_20, hx137_21⟩ := at_T77 HR136_0.out x4_2 p137 q137
                            cases e137
                            replace p137 := eq_true p137
                            replace q137 := eq_true q137
                            go_wp2
                            go_ret
                            exact ⟨by first | rfl | (simp; done) | (simp [*]; done), by repeat (first | exact Drawn0.refl _ | apply Drawn0.step)⟩
                          · rw [if_neg c10] at H
                            have c10b0 : decide (200 < (((rd_T77 (rd_L5 l0 x3_1) x4_2).f1).size : Int)) = false := decide_eq_false c10
                            have c10b1 : decide (200 < ((rd_T77 (rd_L5 l0 x3_1) x4_2).f1).size) = false := decide_eq_false (by omega)
                            clear c10
                            have H' := Aside0.mk H
                            clear H
                            have p133 : 0 ≤ (x3_1 : Int) := of_decide_eq_true (by first | (with_reducible assumption) | assumption)
                            have q133 : x3_1 < (l0.length : Int) := of_decide_eq_true (by first | (with_reducible assumption) | assumption)
                            obtain ⟨ad133, A133_0, c133_0, e133, hx133_0, hl133_0, hi133_0⟩ := at_L5 HR0.out x3_1 p133 q133
                            obtain rfl : ad132 = ad133 := (by injection e133)
                            have HR133_0 := Aside0.mk hi133_0
                            have HC133_0 := Aside0.mk hl133_0
                            clear hi133_0 hl133_0
                            replace p133 := eq_true p133
                            replace q133 := eq_true q133
                            have p134 : 0 ≤ (x3_1 : Int) := of_decide_eq_true (by first | (with_reducible assumption) | assumption)
                            have q134 : x3_1 < (l0.length : Int) := of_decide_eq_true (by first | (with_reducible assumption) | assumption)
                            obtain ⟨ad134, A134_0, c134_0, e134, hx134_0, hl134_0, hi134_0⟩ := at_L5 HR0.out x3_1 p134 q134
                            obtain rfl : ad132 = ad134 := (by injection e134)
                            have HR134_0 := Aside0.mk hi134_0
                            have HC134_0 := Aside0.mk hl134_0
                            clear hi134_0 hl134_0
                            replace p134 := eq_true p134
                            replace q134 := eq_true q134
                            have ea_ := Option.some.inj (hx133_0.symm.trans hx134_0)
                            injection ea_ with ea_ en_ ec_
                            subst ea_
                            subst ec_
                            clear en_
                            have p135 : 0 ≤ (x4_2 : Int) := of_decide_eq_true (by first | (with_reducible assumption) | assumption)
                            have q135 : x4_2 < ((rd_L5 l0 x3_1).length : Int) := of_decide_eq_true (by first | (with_reducible assumption) | assumption)
                            obtain ⟨ad135, e135, hx135_0, hx135_1, hx135_2, hx135_3, hx135_4, hx135_5, hx135_6, hx135_7, hx135_8, hx135_9, hx135_10, hx135_11, hx135_12, hx135_13, hx135_14, hx135_15, hx135_16, hx135_17, hx135_18, hx135_19, hx135_20, hx135_21⟩ := at_T77 HR134_0.out x4_2 p135 q135
                            cases e135
                            replace p135 := eq_true p135
                            replace q135 := eq_true q135
                            have p136 : 0 ≤ (x3_1 : Int) := of_decide_eq_true (by first | (with_reducible assumption) | assumption)
                            have q136 : x3_1 < (l0.length : Int) := of_decide_eq_true (by first | (with_reducible assumption) | assumption)
                            obtain ⟨ad136, A136_0, c136_0, e136, hx136_0, hl136_0, hi136_0⟩ := at_L5 HR0.out x3_1 p136 q136
                            obtain rfl : ad132 = ad136 := (by injection e136)
                            have HR136_0 := Aside0.mk hi136_0
                            have HC136_0 := Aside0.mk hl136_0
                            clear hi136_0 hl136_0
                            replace p136 := eq_true p136
                            replace q136 := eq_true q136
                            have ea_ := Option.some.inj (hx133_0.symm.trans hx136_0)
                            injection ea_ with ea_ en_ ec_
                            subst ea_
                            subst ec_
                            clear en_
                            have p137 : 0 ≤ (x4_2 : Int) := of_decide_eq_true (by first | (with_reducible assumption) | assumption)
                            have q137 : x4_2 < ((rd_L5 l0 x3_1).length : Int) := of_decide_eq_true (by first | (with_reducible assumption) | assumption)
                            obtain ⟨ad137, e137, hx137_0, hx137_1, hx137_2, hx137_3, hx137_4, hx137_5, hx137_6, hx137_7, hx137_8, hx137_9, hx137_10, hx137_11, hx137_12, hx137_13, hx137_14, hx137_15, hx137_16, hx137_17, hx137_18, hx137_19, hx137_20, hx137_21⟩ := at_T77 HR136_0.out x4_2 p137 q137
                            cases e137
                            replace p137 := eq_true p137
                            replace q137 := eq_true q137
                            go_wp2
                            go_roundg k2
                            case measure => have := HK1.out; have := HK2.out; omega
                            case rel => exact ⟨(wrap64 (x4_2 + 1)), (by first | rfl | (simp; done) | (simp [*]; done)), H', ⟨by have := HK1.out; have := HK2.out; omega⟩, by repeat (first | exact Drawn0.refl _ | apply Drawn0.step)⟩
                      · rw [if_neg c8] at H
                        exact absurd H (by simp)
                    · rw [if_neg c7] at H
                      have c7b0 : decide (x4_2 < ((rd_L5 l0 x3_1).length : Int)) = false := decide_eq_false c7
                      clear c7
                      have H' := Aside0.mk H
                      clear H
                      have p133 : 0 ≤ (x3_1 : Int) := of_decide_eq_true (by first | (with_reducible assumption) | assumption)
                      have q133 : x3_1 < (l0.length : Int) := of_decide_eq_true (by first | (with_reducible assumption) | assumption)
                      obtain ⟨ad133, A133_0, c133_0, e133, hx133_0, hl133_0, hi133_0⟩ := at_L5 HR0.out x3_1 p133 q133
                      obtain rfl : ad132 = ad133 := (by injection e133)
                      have HR133_0 := Aside0.mk hi133_0
                      have HC133_0 := Aside0.mk hl133_0
                      clear hi133_0 hl133_0
                      replace p133 := eq_true p133
                      replace q133 := eq_true q133
                      go_wp2
                      go_roundg k2
                      case measure => have := HK1.out; have := HK2.out; omega
                      case rel => exact ⟨(wrap64 (x3_1 + 1)), (by first | rfl | (simp; done) | (simp [*]; done)), H', ⟨by have := HK1.out; have := HK2.out; omega⟩, by repeat (first | exact Drawn0.refl _ | apply Drawn0.step)⟩
                  · rw [if_neg c6] at H
                    exact absurd H (by simp)
                · rw [if_neg c5] at H
                  exact absurd H (by simp)
        · rw [if_neg c3] at H
          exact absurd H (by simp)
      · rw [if_neg c2] at H
        have c2b0 : decide (x3_1 < (l0.length : Int)) = false := decide_eq_false c2
        clear c2
        obtain rfl := Option.some.inj H
        go_wp2
        go_ret
        exact ⟨by first | rfl | (simp; done) | (simp [*]; done), by repeat (first | exact Drawn0.refl _ | apply Drawn0.step)⟩

end Go.Proofs.Ytalncokpbgbccaa.E

-- Printed by this session's wip/tools/oracle.py, which runs the kit's print program; Lean checks it.
namespace Go.Proofs.Ytalncokpbgbccaa.E
open Go.RowKit Go.Proofs.YtalncokpbgbccaaW.PrintWords Go.Proofs.YtalncokpbgbccaaW.PrintLast Go.Proofs.YtalncokpbgbccaaW.PrintMore
attribute [local go_sem] max2_int min2_int max_two min_two max_three min_three max_four min_four   -- for this text's walks alone
set_option linter.unusedVariables false
set_option linter.unusedSimpArgs false

/-! ### understoryref06_Ordered: function 16 -/
mutual
def understoryref06_Ordered.l0 : Nat → List (S77) → Int → Int → Option (Bool)
  | 0, _, _, _ => none
  | k + 1, x0, x1, x5 => if x5 < (x0.length : Int) then (if 0 ≤ x5 then (if x5 = 0 then (understoryref06_Ordered.j1 k x0 x1 x5 ((rd_T77 x0 x5).f0) (decide (x1 > 0))) else (understoryref06_Ordered.j1 k x0 x1 x5 ((rd_T77 x0 x5).f0) false)) else (none)) else (some true)
def understoryref06_Ordered.j1 : Nat → List (S77) → Int → Int → ByteArray → Bool → Option (Bool)
  | 0, _, _, _, _, _ => none
  | k + 1, x0, x1, x5, x6, x26 => if x26 = true then (if x6.toList = ([] : List UInt8) then (understoryref06_Ordered.l0 k x0 x1 (wrap64 (x5 + 1))) else (some false)) else (if (x6.size : Int) < 1 then (some false) else (if (x6.size : Int) > 48 then (some false) else (if x5 > 0 then (if 0 ≤ (wrap64 (x5 - 1)) then (if (wrap64 (x5 - 1)) < (x0.length : Int) then (if ((Op.bytesLess (((rd_T77 x0 (wrap64 (x5 - 1))).f0).toList) x6.toList) = true) then (understoryref06_Ordered.l0 k x0 x1 (wrap64 (x5 + 1))) else (some false)) else (none)) else (none)) else (understoryref06_Ordered.l0 k x0 x1 (wrap64 (x5 + 1))))))
end
def understoryref06_Ordered.f (k : Nat) (l0 : List (S77)) (a1 : Int) : Option (Bool) := (understoryref06_inLevel.f a1).bind fun t229 => (if t229 = true then (understoryref06_Ordered.l0 k l0 a1 0) else (some false))
theorem understoryref06_Ordered.mono_l : ∀ k, (∀ y0 y1 y2, LeO (understoryref06_Ordered.l0 k y0 y1 y2) (understoryref06_Ordered.l0 (k + 1) y0 y1 y2)) ∧ (∀ y0 y1 y2 y3 y4, LeO (understoryref06_Ordered.j1 k y0 y1 y2 y3 y4) (understoryref06_Ordered.j1 (k + 1) y0 y1 y2 y3 y4))
  | 0 => ⟨fun _ _ _ r h => by simp [understoryref06_Ordered.l0] at h, fun _ _ _ _ _ r h => by simp [understoryref06_Ordered.j1] at h⟩
  | k + 1 => by
    obtain ⟨ih0, ih1⟩ := understoryref06_Ordered.mono_l k
    refine ⟨?_, ?_⟩
    · intro y0 y1 y2
      unfold understoryref06_Ordered.l0
      repeat' first
      | (with_reducible exact ih0 _ _ _)
      | (with_reducible exact ih1 _ _ _ _ _)
      | (with_reducible exact LeO.refl _)
      | (with_reducible exact LeO.none _)
      | (with_reducible refine LeO.ite ?_ ?_)
      | (with_reducible refine LeO.bind ?_ (fun _ => ?_))
      | exact ih0 _ _ _
      | exact ih1 _ _ _ _ _
      | exact LeO.none _
      | refine LeO.ite ?_ ?_
      | refine LeO.bind ?_ (fun _ => ?_)
    · intro y0 y1 y2 y3 y4
      unfold understoryref06_Ordered.j1
      repeat' first
      | (with_reducible exact ih0 _ _ _)
      | (with_reducible exact ih1 _ _ _ _ _)
      | (with_reducible exact LeO.refl _)
      | (with_reducible exact LeO.none _)
      | (with_reducible refine LeO.ite ?_ ?_)
      | (with_reducible refine LeO.bind ?_ (fun _ => ?_))
      | exact ih0 _ _ _
      | exact ih1 _ _ _ _ _
      | exact LeO.none _
      | refine LeO.ite ?_ ?_
      | refine LeO.bind ?_ (fun _ => ?_)
theorem understoryref06_Ordered.mono : ∀ a0 a1 k, LeO (understoryref06_Ordered.f k a0 a1) (understoryref06_Ordered.f (k + 1) a0 a1) := by
  intro a0 a1 k
  obtain ⟨ih0, ih1⟩ := understoryref06_Ordered.mono_l k
  unfold understoryref06_Ordered.f
  repeat' first
      | (with_reducible exact ih0 _ _ _)
      | (with_reducible exact ih1 _ _ _ _ _)
      | (with_reducible exact LeO.refl _)
      | (with_reducible exact LeO.none _)
      | (with_reducible refine LeO.ite ?_ ?_)
      | (with_reducible refine LeO.bind ?_ (fun _ => ?_))
      | exact ih0 _ _ _
      | exact ih1 _ _ _ _ _
      | exact LeO.none _
      | refine LeO.ite ?_ ?_
      | refine LeO.bind ?_ (fun _ => ?_)
set_option maxHeartbeats 8000000 in
set_option maxRecDepth 100000 in
theorem understoryref06_Ordered.calls (k : Nat) (A0 : Option Addr) (c0 : Nat) (l0 : List (S77)) (a1 : Int) (r : Bool) (w : World) (hr0 : Kd.C k77 w A0 l0.length l0) (hc0 : l0.length ≤ c0) (h : understoryref06_Ordered.f k l0 a1 = some r) :
    Calls Try.prog 16 #[.slice A0 l0.length c0, .int .i64 a1] w fun e w' => e = .returned (.bool r) ∧ Drawn0 w w' := by
  have HR0 := Aside0.mk hr0
  have HC0 := Aside0.mk hc0
  clear hr0 hc0
  have H : ((understoryref06_inLevel.f a1).bind fun t229 => (if t229 = true then (understoryref06_Ordered.l0 k l0 a1 0) else (some false))) = some r := h
  clear h
  replace H := Option.bind_eq_some_iff.mp H
  obtain ⟨t229, A30, H⟩ := H
  replace H : (if t229 = true then (understoryref06_Ordered.l0 k l0 a1 0) else (some false)) = some r := H
  have A3 := Aside0.mk A30
  clear A30
  by_cases c4 : t229 = true
  · subst c4
    have H1 : (understoryref06_Ordered.l0 k l0 a1 0) = some r := by rw [if_pos rfl] at H; exact H
    clear H
    have H := H1
    clear H1
    have H' := Aside0.mk H
    clear H
    go_enter Try.func16, Try.ntmps16
    go_wp2_with (first | ((with_reducible refine gate_callee (f := 58) rfl ?_); refine goesL_ (some 8) rfl rfl Try.func58 (by kernel_rfl) rfl #[.int .i64 a1] rfl (by (try simp only [List.map_toArray, List.map_cons, List.map_nil]); first | done | rfl | (simp only [List.length_drop, List.length_take]; rfl)) ?_; (with_reducible refine (understoryref06_inLevel.calls a1 true _ A3.out).mono ?_); rintro e w' ⟨rfl, ⟨nd, rfl⟩⟩; refine ⟨_, rfl, ?_⟩))
    go_loopg [5] k (fun kq v5 w' => ∃ (x5_1 : Int), v5 = .int .i64 x5_1 ∧ Aside0 (understoryref06_Ordered.l0 kq l0 a1 x5_1 = some r) ∧ Aside0 (kq ≤ k) ∧ Drawn0 w w')
    case atStart => exact ⟨(0), (by first | rfl | (simp; done) | (simp [*]; done)), H', ⟨Nat.le_refl _⟩, by repeat (first | exact Drawn0.refl _ | apply Drawn0.step)⟩
    case round =>
      clear H'
      try clear c1
      try clear p2
      try clear c4
      obtain ⟨x5_1, rfl, HA, HK1, ⟨m1, rfl⟩⟩ := hrel
      cases gk with
      | zero => exact absurd HA.out (by simp [understoryref06_Ordered.l0])
      | succ k1 =>
        have H := HA.out
        clear HA
        simp only [understoryref06_Ordered.l0] at H
        by_cases c5 : x5_1 < (l0.length : Int)
        · rw [if_pos c5] at H
          have c5b0 : decide (x5_1 < (l0.length : Int)) = true := decide_eq_true c5
          clear c5
          by_cases c6 : 0 ≤ x5_1
          · rw [if_pos c6] at H
            have c6b0 : decide (0 ≤ x5_1) = true := decide_eq_true c6
            clear c6
            have HC7 := Aside0.mk H
            clear H
            have p230 : 0 ≤ (x5_1 : Int) := of_decide_eq_true (by first | (with_reducible assumption) | assumption)
            have q230 : x5_1 < (l0.length : Int) := of_decide_eq_true (by first | (with_reducible assumption) | assumption)
            obtain ⟨ad230, e230, hx230_0, hx230_1, hx230_2, hx230_3, hx230_4, hx230_5, hx230_6, hx230_7, hx230_8, hx230_9, hx230_10, hx230_11, hx230_12, hx230_13, hx230_14, hx230_15, hx230_16, hx230_17, hx230_18, hx230_19, hx230_20, hx230_21⟩ := at_T77 HR0.out x5_1 p230 q230
            cases e230
            replace p230 := eq_true p230
            replace q230 := eq_true q230
            go_upto_region 7 with (fail)
            go_cut [26] (fun v26 wc => ∃ (kq : Nat) (x26_6 : Bool), v26 = .bool x26_6 ∧ Aside0 (understoryref06_Ordered.j1 kq l0 a1 x5_1 ((rd_T77 l0 x5_1).f0) x26_6 = some r) ∧ Aside0 (kq ≤ k1) ∧ Drawn0 w wc)
            case first =>
              have H := HC7.out
              clear HC7
              by_cases c8 : x5_1 = 0
              · rw [if_pos c8] at H
                have c8b0 : (x5_1 == 0) = true := beq_iff_eq.mpr c8
                have c8b1 : (x5_1 != 0) = false := bne_eq_false_iff_eq.mpr c8
                clear c8
                (first | rw [c8b0] | (simp only [i64_w, i32_w]; rw [c8b0]) | skip)
                have H' := Aside0.mk H
                clear H
                go_wp2
                go_meet
                case rel => exact ⟨_, (decide (a1 > 0)), (by first | rfl | (simp; done) | (simp [*]; done)), H', ⟨by have := HK1.out; first | omega | exact Nat.le_refl _⟩, by repeat (first | exact Drawn0.refl _ | apply Drawn0.step)⟩
              · rw [if_neg c8] at H
                have c8b0 : (x5_1 == 0) = false := beq_eq_false_iff_ne.mpr c8
                have c8b1 : (x5_1 != 0) = true := bne_iff_ne.mpr c8
                (first | rw [c8b0] | (simp only [i64_w, i32_w]; rw [c8b0]) | skip)
                have H' := Aside0.mk H
                clear H
                go_wp2
                go_meet
                case rel => exact ⟨_, (false), (by first | rfl | (simp; done) | (simp [*]; done)), H', ⟨by have := HK1.out; first | omega | exact Nat.le_refl _⟩, by repeat (first | exact Drawn0.refl _ | apply Drawn0.step)⟩
            case rest =>
              clear HC7
              try clear c1
              try clear p2
              try clear q2
              try clear hx2
              try clear c4
              try clear c5
              try clear c5b0
              try clear c6
              try clear c6b0
              try clear c8
              try clear c8b0
              try clear c8b1
              try clear hx230_0
              try clear hx230_1
              try clear hx230_10
              try clear hx230_11
              try clear hx230_12
              try clear hx230_13
              try clear hx230_14
              try clear hx230_15
              try clear hx230_16
              try clear hx230_17
              try clear hx230_18
              try clear hx230_19
              try clear hx230_2
              try clear hx230_20
              try clear hx230_21
              try clear hx230_3
              try clear hx230_4
              try clear hx230_5
              try clear hx230_6
              try clear hx230_7
              try clear hx230_8
              try clear hx230_9
              try clear p2
              try clear p230
              try clear q230
              obtain ⟨kq, x26_6, rfl, HA, HJ6, ⟨mc6, rfl⟩⟩ := hcut
              cases kq with
              | zero => exact absurd HA.out (by simp [understoryref06_Ordered.j1])
              | succ kj6 =>
                have H := HA.out
                clear HA
                simp only [understoryref06_Ordered.j1] at H
                by_cases c9 : x26_6 = true
                · subst c9
                  have H1 : (if ((rd_T77 l0 x5_1).f0).toList = ([] : List UInt8) then (understoryref06_Ordered.l0 kj6 l0 a1 (wrap64 (x5_1 + 1))) else (some false)) = some r := by rw [if_pos rfl] at H; exact H
                  clear H
                  have H := H1
                  clear H1
                  by_cases c10 : ((rd_T77 l0 x5_1).f0).toList = ([] : List UInt8)
                  · rw [if_pos c10] at H
                    have c10b0 : (((rd_T77 l0 x5_1).f0).toList == ([] : List UInt8)) = true := beq_iff_eq.mpr c10
                    have c10b1 : (((rd_T77 l0 x5_1).f0).toList != ([] : List UInt8)) = false := bne_eq_false_iff_eq.mpr c10
                    clear c10
                    have H' := Aside0.mk H
                    clear H
                    go_wp2
                    go_roundg kj6
                    case measure => have := HK1.out; have := HJ6.out; omega
                    case rel => exact ⟨(wrap64 (x5_1 + 1)), (by first | rfl | (simp; done) | (simp [*]; done)), H', ⟨by have := HK1.out; have := HJ6.out; omega⟩, by repeat (first | exact Drawn0.refl _ | apply Drawn0.step)⟩
                  · rw [if_neg c10] at H
                    have c10b0 : (((rd_T77 l0 x5_1).f0).toList == ([] : List UInt8)) = false := beq_eq_false_iff_ne.mpr c10
                    have c10b1 : (((rd_T77 l0 x5_1).f0).toList != ([] : List UInt8)) = true := bne_iff_ne.mpr c10
                    obtain rfl := Option.some.inj H
                    go_wp2
                    go_ret
                    exact ⟨by first | rfl | (simp; done) | (simp [*]; done), by repeat (first | exact Drawn0.refl _ | apply Drawn0.step)⟩
                · replace c9 := Bool.eq_false_iff.mpr c9
                  subst c9
                  have H1 : (if (((rd_T77 l0 x5_1).f0).size : Int) < 1 then (some false) else (if (((rd_T77 l0 x5_1).f0).size : Int) > 48 then (some false) else (if x5_1 > 0 then (if 0 ≤ (wrap64 (x5_1 - 1)) then (if (wrap64 (x5_1 - 1)) < (l0.length : Int) then (if ((Op.bytesLess (((rd_T77 l0 (wrap64 (x5_1 - 1))).f0).toList) ((rd_T77 l0 x5_1).f0).toList) = true) then (understoryref06_Ordered.l0 kj6 l0 a1 (wrap64 (x5_1 + 1))) else (some false)) else (none)) else (none)) else (understoryref06_Ordered.l0 kj6 l0 a1 (wrap64 (x5_1 + 1)))))) = some r := by rw [if_neg (show ¬ (false = true) by decide)] at H; exact H
                  clear H
                  have H := H1
                  clear H1
                  by_cases c11 : (((rd_T77 l0 x5_1).f0).size : Int) < 1
                  · rw [if_pos c11] at H
                    have c11b0 : decide ((((rd_T77 l0 x5_1).f0).size : Int) < 1) = true := decide_eq_true c11
                    have c11b1 : decide (((rd_T77 l0 x5_1).f0).size < 1) = true := decide_eq_true (by omega)
                    clear c11
                    obtain rfl := Option.some.inj H
                    go_wp2
                    go_ret
                    exact ⟨by first | rfl | (simp; done) | (simp [*]; done), by repeat (first | exact Drawn0.refl _ | apply Drawn0.step)⟩
                  · rw [if_neg c11] at H
                    have c11b0 : decide ((((rd_T77 l0 x5_1).f0).size : Int) < 1) = false := decide_eq_false c11
                    have c11b1 : decide (((rd_T77 l0 x5_1).f0).size < 1) = false := decide_eq_false (by omega)
                    clear c11
                    by_cases c12 : (((rd_T77 l0 x5_1).f0).size : Int) > 48
                    · rw [if_pos c12] at H
                      have c12b0 : decide (48 < (((rd_T77 l0 x5_1).f0).size : Int)) = true := decide_eq_true c12
                      have c12b1 : decide (48 < ((rd_T77 l0 x5_1).f0).size) = true := decide_eq_true (by omega)
                      clear c12
                      obtain rfl := Option.some.inj H
                      go_wp2
                      go_ret
                      exact ⟨by first | rfl | (simp; done) | (simp [*]; done), by repeat (first | exact Drawn0.refl _ | apply Drawn0.step)⟩
                    · rw [if_neg c12] at H
                      have c12b0 : decide (48 < (((rd_T77 l0 x5_1).f0).size : Int)) = false := decide_eq_false c12
                      have c12b1 : decide (48 < ((rd_T77 l0 x5_1).f0).size) = false := decide_eq_false (by omega)
                      clear c12
                      by_cases c13 : x5_1 > 0
                      · rw [if_pos c13] at H
                        have c13b0 : decide (0 < x5_1) = true := decide_eq_true c13
                        clear c13
                        obtain ⟨ji14, hji14⟩ : ∃ j_ : Int, (wrap64 (x5_1 - 1)) = j_ := ⟨_, rfl⟩
                        replace H : (if 0 ≤ (ji14) then (if (ji14) < (l0.length : Int) then (if ((Op.bytesLess (((rd_T77 l0 (ji14)).f0).toList) ((rd_T77 l0 x5_1).f0).toList) = true) then (understoryref06_Ordered.l0 kj6 l0 a1 (wrap64 (x5_1 + 1))) else (some false)) else (none)) else (none)) = some r := by first | (rw [hji14] at H; exact H) | (simp only [hji14] at H ⊢; exact H)
                        have hji14w : (IntKind.i64.wrap (x5_1 - 1)) = ji14 := (i64_w _).trans hji14
                        by_cases c15 : 0 ≤ (ji14)
                        · rw [if_pos c15] at H
                          have c15b0 : decide (0 ≤ (ji14)) = true := decide_eq_true c15
                          clear c15
                          by_cases c16 : (ji14) < (l0.length : Int)
                          · rw [if_pos c16] at H
                            have c16b0 : decide ((ji14) < (l0.length : Int)) = true := decide_eq_true c16
                            clear c16
                            by_cases c17 : ((Op.bytesLess (((rd_T77 l0 (ji14)).f0).toList) ((rd_T77 l0 x5_1).f0).toList) = true)
                            · rw [if_pos c17] at H
                              have c17b0 : (Op.bytesLess (((rd_T77 l0 (ji14)).f0).toList) ((rd_T77 l0 x5_1).f0).toList) = true := c17
                              clear c17
                              have H' := Aside0.mk H
                              clear H
                              have p231 : 0 ≤ ((ji14) : Int) := of_decide_eq_true (by first | (with_reducible assumption) | assumption)
                              have q231 : (ji14) < (l0.length : Int) := of_decide_eq_true (by first | (with_reducible assumption) | assumption)
                              obtain ⟨ad231, e231, hx231_0, hx231_1, hx231_2, hx231_3, hx231_4, hx231_5, hx231_6, hx231_7, hx231_8, hx231_9, hx231_10, hx231_11, hx231_12, hx231_13, hx231_14, hx231_15, hx231_16, hx231_17, hx231_18, hx231_19, hx231_20, hx231_21⟩ := at_T77 HR0.out (ji14) p231 q231
                              obtain rfl : ad230 = ad231 := (by injection e231)
                              replace p231 := eq_true p231
                              replace q231 := eq_true q231
                              go_wp2
                              go_roundg kj6
                              case measure => have := HK1.out; have := HJ6.out; omega
                              case rel => exact ⟨(wrap64 (x5_1 + 1)), (by first | rfl | (simp; done) | (simp [*]; done)), H', ⟨by have := HK1.out; have := HJ6.out; omega⟩, by repeat (first | exact Drawn0.refl _ | apply Drawn0.step)⟩
                            · rw [if_neg c17] at H
                              have c17b0 : (Op.bytesLess (((rd_T77 l0 (ji14)).f0).toList) ((rd_T77 l0 x5_1).f0).toList) = false := by simpa using c17
                              clear c17
                              obtain rfl := Option.some.inj H
                              have p231 : 0 ≤ ((ji14) : Int) := of_decide_eq_true (by first | (with_reducible assumption) | assumption)
                              have q231 : (ji14) < (l0.length : Int) := of_decide_eq_true (by first | (with_reducible assumption) | assumption)
                              obtain ⟨ad231, e231, hx231_0, hx231_1, hx231_2, hx231_3, hx231_4, hx231_5, hx231_6, hx231_7, hx231_8, hx231_9, hx231_10, hx231_11, hx231_12, hx231_13, hx231_14, hx231_15, hx231_16, hx231_17, hx231_18, hx231_19, hx231_20, hx231_21⟩ := at_T77 HR0.out (ji14) p231 q231
                              obtain rfl : ad230 = ad231 := (by injection e231)
                              replace p231 := eq_true p231
                              replace q231 := eq_true q231
                              go_wp2
                              go_ret
                              exact ⟨by first | rfl | (simp; done) | (simp only [← hji14] <;> (first | rfl | simp)) | (simp [*]; done), by repeat (first | exact Drawn0.refl _ | apply Drawn0.step)⟩
                          · rw [if_neg c16] at H
                            exact absurd H (by simp)
                        · rw [if_neg c15] at H
                          exact absurd H (by simp)
                      · rw [if_neg c13] at H
                        have c13b0 : decide (0 < x5_1) = false := decide_eq_false c13
                        clear c13
                        have H' := Aside0.mk H
                        clear H
                        go_wp2
                        go_roundg kj6
                        case measure => have := HK1.out; have := HJ6.out; omega
                        case rel => exact ⟨(wrap64 (x5_1 + 1)), (by first | rfl | (simp; done) | (simp [*]; done)), H', ⟨by have := HK1.out; have := HJ6.out; omega⟩, by repeat (first | exact Drawn0.refl _ | apply Drawn0.step)⟩
          · rw [if_neg c6] at H
            exact absurd H (by simp)
        · rw [if_neg c5] at H
          have c5b0 : decide (x5_1 < (l0.length : Int)) = false := decide_eq_false c5
          clear c5
          obtain rfl := Option.some.inj H
          go_wp2
          go_ret
          exact ⟨by first | rfl | (simp; done) | (simp [*]; done), by repeat (first | exact Drawn0.refl _ | apply Drawn0.step)⟩
  · replace c4 := Bool.eq_false_iff.mpr c4
    subst c4
    have H1 : (some false) = some r := by rw [if_neg (show ¬ (false = true) by decide)] at H; exact H
    clear H
    have H := H1
    clear H1
    obtain rfl := Option.some.inj H
    go_enter Try.func16, Try.ntmps16
    go_wp2_with (first | ((with_reducible refine gate_callee (f := 58) rfl ?_); refine goesL_ (some 8) rfl rfl Try.func58 (by kernel_rfl) rfl #[.int .i64 a1] rfl (by (try simp only [List.map_toArray, List.map_cons, List.map_nil]); first | done | rfl | (simp only [List.length_drop, List.length_take]; rfl)) ?_; (with_reducible refine (understoryref06_inLevel.calls a1 false _ A3.out).mono ?_); rintro e w' ⟨rfl, ⟨nd, rfl⟩⟩; refine ⟨_, rfl, ?_⟩))
    go_ret
    exact ⟨by first | rfl | (simp; done) | (simp [*]; done), by repeat (first | exact Drawn0.refl _ | apply Drawn0.step)⟩

/-! ### understorylaw06_counted: function 17 -/
def understorylaw06_counted.l0 : Nat → List (S77) → Int → Int → Option (Bool)
  | 0, _, _, _ => none
  | k + 1, x0, x3, x4 => if x4 < (x0.length : Int) then (if 0 ≤ x4 then (if ((rd_T77 x0 x4).f5) < 1 then (some false) else (if ((rd_T77 x0 x4).f5) > (wrap64 (4611686018427387904 - x3)) then (some false) else (understorylaw06_counted.l0 k x0 (wrap64 (x3 + ((rd_T77 x0 x4).f5))) (wrap64 (x4 + 1))))) else (none)) else (some true)
def understorylaw06_counted.f (k : Nat) (l0 : List (S77)) : Option (Bool) := understorylaw06_counted.l0 k l0 0 0
theorem understorylaw06_counted.mono_l : ∀ k, (∀ y0 y1 y2, LeO (understorylaw06_counted.l0 k y0 y1 y2) (understorylaw06_counted.l0 (k + 1) y0 y1 y2))
  | 0 => fun _ _ _ r h => by simp [understorylaw06_counted.l0] at h
  | k + 1 => by
    have ih0 := understorylaw06_counted.mono_l k
    · intro y0 y1 y2
      unfold understorylaw06_counted.l0
      repeat' first
      | (with_reducible exact ih0 _ _ _)
      | (with_reducible exact LeO.refl _)
      | (with_reducible exact LeO.none _)
      | (with_reducible refine LeO.ite ?_ ?_)
      | (with_reducible refine LeO.bind ?_ (fun _ => ?_))
      | exact ih0 _ _ _
      | exact LeO.none _
      | refine LeO.ite ?_ ?_
      | refine LeO.bind ?_ (fun _ => ?_)
theorem understorylaw06_counted.mono : ∀ a0 k, LeO (understorylaw06_counted.f k a0) (understorylaw06_counted.f (k + 1) a0) := by
  intro a0 k
  have ih0 := understorylaw06_counted.mono_l k
  unfold understorylaw06_counted.f
  repeat' first
      | (with_reducible exact ih0 _ _ _)
      | (with_reducible exact LeO.refl _)
      | (with_reducible exact LeO.none _)
      | (with_reducible refine LeO.ite ?_ ?_)
      | (with_reducible refine LeO.bind ?_ (fun _ => ?_))
      | exact ih0 _ _ _
      | exact LeO.none _
      | refine LeO.ite ?_ ?_
      | refine LeO.bind ?_ (fun _ => ?_)
set_option maxHeartbeats 8000000 in
set_option maxRecDepth 100000 in
theorem understorylaw06_counted.calls (k : Nat) (A0 : Option Addr) (c0 : Nat) (l0 : List (S77)) (r : Bool) (w : World) (hr0 : Kd.C k77 w A0 l0.length l0) (hc0 : l0.length ≤ c0) (h : understorylaw06_counted.f k l0 = some r) :
    Calls Try.prog 17 #[.slice A0 l0.length c0] w fun e w' => e = .returned (.bool r) ∧ Drawn0 w w' := by
  have HR0 := Aside0.mk hr0
  have HC0 := Aside0.mk hc0
  clear hr0 hc0
  have H : (understorylaw06_counted.l0 k l0 0 0) = some r := h
  clear h
  have H' := Aside0.mk H
  clear H
  go_enter Try.func17, Try.ntmps17
  go_wp2
  go_loopg [3, 4] k (fun kq v3 v4 w' => ∃ (x3_1 : Int) (x4_1 : Int), v3 = .int .i64 x3_1 ∧ v4 = .int .i64 x4_1 ∧ Aside0 (understorylaw06_counted.l0 kq l0 x3_1 x4_1 = some r) ∧ Aside0 (kq ≤ k) ∧ Drawn0 w w')
  case atStart => exact ⟨(0), (0), (by first | rfl | (simp; done) | (simp [*]; done)), (by first | rfl | (simp; done) | (simp [*]; done)), H', ⟨Nat.le_refl _⟩, by repeat (first | exact Drawn0.refl _ | apply Drawn0.step)⟩
  case round =>
    clear H'
    try clear c1
    obtain ⟨x3_1, x4_1, rfl, rfl, HA, HK1, ⟨m1, rfl⟩⟩ := hrel
    cases gk with
    | zero => exact absurd HA.out (by simp [understorylaw06_counted.l0])
    | succ k1 =>
      have H := HA.out
      clear HA
      simp only [understorylaw06_counted.l0] at H
      by_cases c2 : x4_1 < (l0.length : Int)
      · rw [if_pos c2] at H
        have c2b0 : decide (x4_1 < (l0.length : Int)) = true := decide_eq_true c2
        clear c2
        by_cases c3 : 0 ≤ x4_1
        · rw [if_pos c3] at H
          have c3b0 : decide (0 ≤ x4_1) = true := decide_eq_true c3
          clear c3
          by_cases c4 : ((rd_T77 l0 x4_1).f5) < 1
          · rw [if_pos c4] at H
            have c4b0 : decide (((rd_T77 l0 x4_1).f5) < 1) = true := decide_eq_true c4
            clear c4
            obtain rfl := Option.some.inj H
            have p232 : 0 ≤ (x4_1 : Int) := of_decide_eq_true (by first | (with_reducible assumption) | assumption)
            have q232 : x4_1 < (l0.length : Int) := of_decide_eq_true (by first | (with_reducible assumption) | assumption)
            obtain ⟨ad232, e232, hx232_0, hx232_1, hx232_2, hx232_3, hx232_4, hx232_5, hx232_6, hx232_7, hx232_8, hx232_9, hx232_10, hx232_11, hx232_12, hx232_13, hx232_14, hx232_15, hx232_16, hx232_17, hx232_18, hx232_19, hx232_20, hx232_21⟩ := at_T77 HR0.out x4_1 p232 q232
            cases e232
            replace p232 := eq_true p232
            replace q232 := eq_true q232
            go_wp2
            go_ret
            exact ⟨by first | rfl | (simp; done) | (simp [*]; done), by repeat (first | exact Drawn0.refl _ | apply Drawn0.step)⟩
          · rw [if_neg c4] at H
            have c4b0 : decide (((rd_T77 l0 x4_1).f5) < 1) = false := decide_eq_false c4
            clear c4
            by_cases c5 : ((rd_T77 l0 x4_1).f5) > (wrap64 (4611686018427387904 - x3_1))
            · rw [if_pos c5] at H
              have c5b0 : decide ((wrap64 (4611686018427387904 - x3_1)) < ((rd_T77 l0 x4_1).f5)) = true := decide_eq_true c5
              clear c5
              obtain rfl := Option.some.inj H
              have p232 : 0 ≤ (x4_1 : Int) := of_decide_eq_true (by first | (with_reducible assumption) | assumption)
              have q232 : x4_1 < (l0.length : Int) := of_decide_eq_true (by first | (with_reducible assumption) | assumption)
              obtain ⟨ad232, e232, hx232_0, hx232_1, hx232_2, hx232_3, hx232_4, hx232_5, hx232_6, hx232_7, hx232_8, hx232_9, hx232_10, hx232_11, hx232_12, hx232_13, hx232_14, hx232_15, hx232_16, hx232_17, hx232_18, hx232_19, hx232_20, hx232_21⟩ := at_T77 HR0.out x4_1 p232 q232
              cases e232
              replace p232 := eq_true p232
              replace q232 := eq_true q232
              have p233 : 0 ≤ (x4_1 : Int) := of_decide_eq_true (by first | (with_reducible assumption) | assumption)
              have q233 : x4_1 < (l0.length : Int) := of_decide_eq_true (by first | (with_reducible assumption) | assumption)
              obtain ⟨ad233, e233, hx233_0, hx233_1, hx233_2, hx233_3, hx233_4, hx233_5, hx233_6, hx233_7, hx233_8, hx233_9, hx233_10, hx233_11, hx233_12, hx233_13, hx233_14, hx233_15, hx233_16, hx233_17, hx233_18, hx233_19, hx233_20, hx233_21⟩ := at_T77 HR0.out x4_1 p233 q233
              obtain rfl : ad232 = ad233 := (by injection e233)
              replace p233 := eq_true p233
              replace q233 := eq_true q233
              go_wp2
              go_ret
              exact ⟨by first | rfl | (simp; done) | (simp [*]; done), by repeat (first | exact Drawn0.refl _ | apply Drawn0.step)⟩
            · rw [if_neg c5] at H
              have c5b0 : decide ((wrap64 (4611686018427387904 - x3_1)) < ((rd_T77 l0 x4_1).f5)) = false := decide_eq_false c5
              clear c5
              have H' := Aside0.mk H
              clear H
              have p232 : 0 ≤ (x4_1 : Int) := of_decide_eq_true (by first | (with_reducible assumption) | assumption)
              have q232 : x4_1 < (l0.length : Int) := of_decide_eq_true (by first | (with_reducible assumption) | assumption)
              obtain ⟨ad232, e232, hx232_0, hx232_1, hx232_2, hx232_3, hx232_4, hx232_5, hx232_6, hx232_7, hx232_8, hx232_9, hx232_10, hx232_11, hx232_12, hx232_13, hx232_14, hx232_15, hx232_16, hx232_17, hx232_18, hx232_19, hx232_20, hx232_21⟩ := at_T77 HR0.out x4_1 p232 q232
              cases e232
              replace p232 := eq_true p232
              replace q232 := eq_true q232
              have p233 : 0 ≤ (x4_1 : Int) := of_decide_eq_true (by first | (with_reducible assumption) | assumption)
              have q233 : x4_1 < (l0.length : Int) := of_decide_eq_true (by first | (with_reducible assumption) | assumption)
              obtain ⟨ad233, e233, hx233_0, hx233_1, hx233_2, hx233_3, hx233_4, hx233_5, hx233_6, hx233_7, hx233_8, hx233_9, hx233_10, hx233_11, hx233_12, hx233_13, hx233_14, hx233_15, hx233_16, hx233_17, hx233_18, hx233_19, hx233_20, hx233_21⟩ := at_T77 HR0.out x4_1 p233 q233
              obtain rfl : ad232 = ad233 := (by injection e233)
              replace p233 := eq_true p233
              replace q233 := eq_true q233
              have p234 : 0 ≤ (x4_1 : Int) := of_decide_eq_true (by first | (with_reducible assumption) | assumption)
              have q234 : x4_1 < (l0.length : Int) := of_decide_eq_true (by first | (with_reducible assumption) | assumption)
              obtain ⟨ad234, e234, hx234_0, hx234_1, hx234_2, hx234_3, hx234_4, hx234_5, hx234_6, hx234_7, hx234_8, hx234_9, hx234_10, hx234_11, hx234_12, hx234_13, hx234_14, hx234_15, hx234_16, hx234_17, hx234_18, hx234_19, hx234_20, hx234_21⟩ := at_T77 HR0.out x4_1 p234 q234
              obtain rfl : ad232 = ad234 := (by injection e234)
              replace p234 := eq_true p234
              replace q234 := eq_true q234
              go_wp2
              go_roundg k1
              case measure => have := HK1.out; omega
              case rel => exact ⟨(wrap64 (x3_1 + ((rd_T77 l0 x4_1).f5))), (wrap64 (x4_1 + 1)), (by first | rfl | (simp; done) | (simp [*]; done)), (by first | rfl | (simp; done) | (simp [*]; done)), H', ⟨by have := HK1.out; omega⟩, by repeat (first | exact Drawn0.refl _ | apply Drawn0.step)⟩
        · rw [if_neg c3] at H
          exact absurd H (by simp)
      · rw [if_neg c2] at H
        have c2b0 : decide (x4_1 < (l0.length : Int)) = false := decide_eq_false c2
        clear c2
        obtain rfl := Option.some.inj H
        go_wp2
        go_ret
        exact ⟨by first | rfl | (simp; done) | (simp [*]; done), by repeat (first | exact Drawn0.refl _ | apply Drawn0.step)⟩

/-! ### understoryref06_CountOf: function 19 -/
def understoryref06_CountOf.l0 : Nat → List (S77) → Int → Int → Option (Int)
  | 0, _, _, _ => none
  | k + 1, x0, x5, x6 => if x6 < (x0.length : Int) then (if 0 ≤ x6 then (understoryref06_CountOf.l0 k x0 (wrap64 (x5 + ((rd_T77 x0 x6).f5))) (wrap64 (x6 + 1))) else (none)) else (some x5)
def understoryref06_CountOf.f (k : Nat) (l0 : List (S77)) (a1 : Int) : Option (Int) := if a1 ≤ 0 then (some (l0.length : Int)) else (understoryref06_CountOf.l0 k l0 0 0)
theorem understoryref06_CountOf.mono_l : ∀ k, (∀ y0 y1 y2, LeO (understoryref06_CountOf.l0 k y0 y1 y2) (understoryref06_CountOf.l0 (k + 1) y0 y1 y2))
  | 0 => fun _ _ _ r h => by simp [understoryref06_CountOf.l0] at h
  | k + 1 => by
    have ih0 := understoryref06_CountOf.mono_l k
    · intro y0 y1 y2
      unfold understoryref06_CountOf.l0
      repeat' first
      | (with_reducible exact ih0 _ _ _)
      | (with_reducible exact LeO.refl _)
      | (with_reducible exact LeO.none _)
      | (with_reducible refine LeO.ite ?_ ?_)
      | (with_reducible refine LeO.bind ?_ (fun _ => ?_))
      | exact ih0 _ _ _
      | exact LeO.none _
      | refine LeO.ite ?_ ?_
      | refine LeO.bind ?_ (fun _ => ?_)
theorem understoryref06_CountOf.mono : ∀ a0 a1 k, LeO (understoryref06_CountOf.f k a0 a1) (understoryref06_CountOf.f (k + 1) a0 a1) := by
  intro a0 a1 k
  have ih0 := understoryref06_CountOf.mono_l k
  unfold understoryref06_CountOf.f
  repeat' first
      | (with_reducible exact ih0 _ _ _)
      | (with_reducible exact LeO.refl _)
      | (with_reducible exact LeO.none _)
      | (with_reducible refine LeO.ite ?_ ?_)
      | (with_reducible refine LeO.bind ?_ (fun _ => ?_))
      | exact ih0 _ _ _
      | exact LeO.none _
      | refine LeO.ite ?_ ?_
      | refine LeO.bind ?_ (fun _ => ?_)
set_option maxHeartbeats 8000000 in
set_option maxRecDepth 100000 in
theorem understoryref06_CountOf.calls (k : Nat) (A0 : Option Addr) (c0 : Nat) (l0 : List (S77)) (a1 : Int) (r : Int) (w : World) (hr0 : Kd.C k77 w A0 l0.length l0) (hc0 : l0.length ≤ c0) (h : understoryref06_CountOf.f k l0 a1 = some r) :
    Calls Try.prog 19 #[.slice A0 l0.length c0, .int .i64 a1] w fun e w' => e = .returned (.int .i64 r) ∧ Drawn0 w w' := by
  have HR0 := Aside0.mk hr0
  have HC0 := Aside0.mk hc0
  clear hr0 hc0
  have H : (if a1 ≤ 0 then (some (l0.length : Int)) else (understoryref06_CountOf.l0 k l0 0 0)) = some r := h
  clear h
  by_cases c3 : a1 ≤ 0
  · rw [if_pos c3] at H
    have c3b0 : decide (a1 ≤ 0) = true := decide_eq_true c3
    clear c3
    obtain rfl := Option.some.inj H
    go_enter Try.func19, Try.ntmps19
    go_wp2
    go_ret
    exact ⟨by first | rfl | (simp; done) | (simp [*]; done), by repeat (first | exact Drawn0.refl _ | apply Drawn0.step)⟩
  · rw [if_neg c3] at H
    have c3b0 : decide (a1 ≤ 0) = false := decide_eq_false c3
    clear c3
    have H' := Aside0.mk H
    clear H
    go_enter Try.func19, Try.ntmps19
    go_wp2
    go_loopg [5, 6] k (fun kq v5 v6 w' => ∃ (x5_1 : Int) (x6_1 : Int), v5 = .int .i64 x5_1 ∧ v6 = .int .i64 x6_1 ∧ Aside0 (understoryref06_CountOf.l0 kq l0 x5_1 x6_1 = some r) ∧ Aside0 (kq ≤ k) ∧ Drawn0 w w')
    case atStart => exact ⟨(0), (0), (by first | rfl | (simp; done) | (simp [*]; done)), (by first | rfl | (simp; done) | (simp [*]; done)), H', ⟨Nat.le_refl _⟩, by repeat (first | exact Drawn0.refl _ | apply Drawn0.step)⟩
    case round =>
      clear H'
      try clear c1
      try clear p2
      try clear c3
      try clear c3b0
      obtain ⟨x5_1, x6_1, rfl, rfl, HA, HK1, ⟨m1, rfl⟩⟩ := hrel
      cases gk with
      | zero => exact absurd HA.out (by simp [understoryref06_CountOf.l0])
      | succ k1 =>
        have H := HA.out
        clear HA
        simp only [understoryref06_CountOf.l0] at H
        by_cases c4 : x6_1 < (l0.length : Int)
        · rw [if_pos c4] at H
          have c4b0 : decide (x6_1 < (l0.length : Int)) = true := decide_eq_true c4
          clear c4
          by_cases c5 : 0 ≤ x6_1
          · rw [if_pos c5] at H
            have c5b0 : decide (0 ≤ x6_1) = true := decide_eq_true c5
            clear c5
            have H' := Aside0.mk H
            clear H
            have p235 : 0 ≤ (x6_1 : Int) := of_decide_eq_true (by first | (with_reducible assumption) | assumption)
            have q235 : x6_1 < (l0.length : Int) := of_decide_eq_true (by first | (with_reducible assumption) | assumption)
            obtain ⟨ad235, e235, hx235_0, hx235_1, hx235_2, hx235_3, hx235_4, hx235_5, hx235_6, hx235_7, hx235_8, hx235_9, hx235_10, hx235_11, hx235_12, hx235_13, hx235_14, hx235_15, hx235_16, hx235_17, hx235_18, hx235_19, hx235_20, hx235_21⟩ := at_T77 HR0.out x6_1 p235 q235
            cases e235
            replace p235 := eq_true p235
            replace q235 := eq_true q235
            go_wp2
            go_roundg k1
            case measure => have := HK1.out; omega
            case rel => exact ⟨(wrap64 (x5_1 + ((rd_T77 l0 x6_1).f5))), (wrap64 (x6_1 + 1)), (by first | rfl | (simp; done) | (simp [*]; done)), (by first | rfl | (simp; done) | (simp [*]; done)), H', ⟨by have := HK1.out; omega⟩, by repeat (first | exact Drawn0.refl _ | apply Drawn0.step)⟩
          · rw [if_neg c5] at H
            exact absurd H (by simp)
        · rw [if_neg c4] at H
          have c4b0 : decide (x6_1 < (l0.length : Int)) = false := decide_eq_false c4
          clear c4
          obtain rfl := Option.some.inj H
          go_wp2
          go_ret
          exact ⟨by first | rfl | (simp; done) | (simp [*]; done), by repeat (first | exact Drawn0.refl _ | apply Drawn0.step)⟩

end Go.Proofs.Ytalncokpbgbccaa.E

/- few, Ordered (the reference's), counted: they all answer; what their yes says. -/
namespace Go.Proofs.Ytalncokpbgbccaa.E
set_option linter.unusedVariables false
set_option linter.unusedSimpArgs false
open Go.RowKit Go.Proofs.YtalncokpbgbccaaW.PrintWords Go.Proofs.YtalncokpbgbccaaW.PrintLast Go.Proofs.YtalncokpbgbccaaW.PrintMore
theorem wsuc (j : Nat) (h : j < 9223372036854775807) : wrap64 ((j : Int) + 1) = ((j + 1 : Nat) : Int) := by rw [w64 _ (by omega) (by omega)]; omega
/-- a list of entries as the laws take it -/
def FewL (l : List S77) : Prop := l.length ≤ 100 ∧ ∀ j, j < l.length → (l.getD j z77).f0.size ≤ 100 ∧ (l.getD j z77).f1.size ≤ 200
theorem few_in (L : List (List S77)) (i : Nat) (hi : i < L.length) (hL : L.length ≤ 9223372036854775807) (hlen : (L.getD i []).length ≤ 100) (G : Prop)
    (rest : ∃ k b, understorylaw06_few.l0 k L ((i + 1 : Nat) : Int) = some b ∧ (b = true → G)) :
    ∀ m j, j + m = (L.getD i []).length → ∃ k b, understorylaw06_few.l1 k L i j = some b ∧ (b = true → (∀ p, j ≤ p → p < (L.getD i []).length → ((L.getD i []).getD p z77).f0.size ≤ 100 ∧ ((L.getD i []).getD p z77).f1.size ≤ 200) ∧ G)
  | 0, j, h => by
    obtain ⟨k, b, hk, hb⟩ := rest
    refine ⟨k + 1, b, ?_, fun hbt => ⟨fun p h1 h2 => by omega, hb hbt⟩⟩
    rw [understorylaw06_few.l1, if_pos (by omega), if_pos (by omega), if_neg (by simp only [rd_L5, Int.toNat_natCast]; omega), wsuc i (by omega)]
    exact hk
  | m + 1, j, h => by
    obtain ⟨k, b, hk, hb⟩ := few_in L i hi hL hlen G rest m (j + 1) (by omega)
    by_cases h1 : ((rd_T77 (rd_L5 L i) j).f0.size : Int) > 100
    · refine ⟨1, false, ?_, fun hf => by cases hf⟩
      rw [understorylaw06_few.l1, if_pos (by omega), if_pos (by omega), if_pos (by simp only [rd_L5, Int.toNat_natCast]; omega), if_pos (by omega), if_pos h1]
    by_cases h2 : ((rd_T77 (rd_L5 L i) j).f1.size : Int) > 200
    · refine ⟨1, false, ?_, fun hf => by cases hf⟩
      rw [understorylaw06_few.l1, if_pos (by omega), if_pos (by omega), if_pos (by simp only [rd_L5, Int.toNat_natCast]; omega), if_pos (by omega), if_neg h1, if_pos h2]
    refine ⟨k + 1, b, ?_, fun hbt => ⟨fun p p1 p2 => ?_, (hb hbt).2⟩⟩
    · rw [understorylaw06_few.l1, if_pos (by omega), if_pos (by omega), if_pos (by simp only [rd_L5, Int.toNat_natCast]; omega), if_pos (by omega), if_neg h1, if_neg h2, wsuc j (by omega)]
      exact hk
    · by_cases e : p = j
      · subst e
        simp only [rd_T77, rd_L5, Int.toNat_natCast] at h1 h2
        omega
      · exact (hb hbt).1 p (by omega) p2
theorem few_out (L : List (List S77)) (hL : L.length ≤ 9223372036854775807) :
    ∀ m i, i + m = L.length → ∃ k b, understorylaw06_few.l0 k L i = some b ∧ (b = true → ∀ p, i ≤ p → p < L.length → FewL (L.getD p []))
  | 0, i, h => ⟨1, true, by rw [understorylaw06_few.l0, if_neg (by omega)], fun _ p h1 h2 => by omega⟩
  | m + 1, i, h => by
    by_cases h1 : ((rd_L5 L i).length : Int) > 100
    · refine ⟨1, false, ?_, fun hf => by cases hf⟩
      rw [understorylaw06_few.l0, if_pos (by omega), if_pos (by omega), if_pos h1]
    · have hl : (L.getD i []).length ≤ 100 := by simp only [rd_L5, Int.toNat_natCast] at h1; omega
      obtain ⟨k, b, hk, hb⟩ := few_in L i (by omega) hL hl _ (few_out L hL m (i + 1) (by omega)) _ 0 (Nat.zero_add _)
      refine ⟨k + 1, b, ?_, fun hbt p p1 p2 => ?_⟩
      · rw [understorylaw06_few.l0, if_pos (by omega), if_pos (by omega), if_neg h1]; exact hk
      · by_cases e : p = i
        · subst e
          exact ⟨hl, fun j hj => (hb hbt).1 j (Nat.zero_le _) hj⟩
        · exact (hb hbt).2 p (by omega) p2
theorem few_t (L : List (List S77)) (hL : L.length ≤ 9223372036854775807) : ∃ k b, understorylaw06_few.f k L = some b ∧ (b = true → ∀ p, p < L.length → FewL (L.getD p [])) := by
  obtain ⟨k, b, hk, hb⟩ := few_out L hL _ 0 (Nat.zero_add _)
  exact ⟨k, b, hk, fun h p hp => hb h p (Nat.zero_le _) hp⟩
end Go.Proofs.Ytalncokpbgbccaa.E

/- Searching: what the program computes is what the reference computes. -/
namespace Go.Proofs.Ytalncokpbgbccaa.E
set_option linter.unusedVariables false
set_option linter.unusedSimpArgs false
open Go.RowKit Go.Proofs.YtalncokpbgbccaaW.PrintWords Go.Proofs.YtalncokpbgbccaaW.PrintLast Go.Proofs.YtalncokpbgbccaaW.PrintMore
theorem less_irr : ∀ a : List UInt8, Op.bytesLess a a = false
  | [] => by simp [Op.bytesLess]
  | x :: a => by rw [less_cons, if_neg (by omega), if_neg (by omega)]; exact less_irr a
theorem less_nil2 (a : List UInt8) (h : Op.bytesLess a [] = true) : False := by cases a <;> simp [Op.bytesLess] at h
theorem less_tr : ∀ a b c : List UInt8, Op.bytesLess a b = true → Op.bytesLess b c = true → Op.bytesLess a c = true
  | _, _, [], h1, h2 => (less_nil2 _ h2).elim
  | _, [], _ :: _, h1, h2 => (less_nil2 _ h1).elim
  | [], _ :: _, _ :: _, h1, h2 => by simp [Op.bytesLess]
  | x :: a, y :: b, z :: c, h1, h2 => by
    rw [less_cons] at h1 h2 ⊢
    by_cases k1 : x.toNat < y.toNat
    · by_cases k2 : y.toNat < z.toNat
      · rw [if_pos (by omega)]
      · rw [if_neg k2] at h2
        by_cases k3 : z.toNat < y.toNat
        · rw [if_pos k3] at h2; cases h2
        · rw [if_pos (by omega)]
    · rw [if_neg k1] at h1
      by_cases k2 : y.toNat < x.toNat
      · rw [if_pos k2] at h1; cases h1
      · rw [if_neg k2] at h1
        by_cases k3 : y.toNat < z.toNat
        · rw [if_pos (by omega)]
        · rw [if_neg k3] at h2
          by_cases k4 : z.toNat < y.toNat
          · rw [if_pos k4] at h2; cases h2
          · rw [if_neg k4] at h2
            rw [if_neg (by omega), if_neg (by omega)]
            exact less_tr a b c h1 h2
/-- the keys increase -/
def IncL (l : List S77) : Prop := ∀ j, 0 < j → j < l.length → Op.bytesLess (l.getD (j - 1) z77).f0.toList (l.getD j z77).f0.toList = true
theorem inc_lt {l : List S77} (h : IncL l) (i : Nat) : ∀ d, 0 < d → i + d < l.length → Op.bytesLess (l.getD i z77).f0.toList (l.getD (i + d) z77).f0.toList = true
  | 0, h0, _ => by omega
  | 1, _, h1 => h (i + 1) (by omega) h1
  | d + 2, _, h1 => less_tr _ _ _ (inc_lt h i (d + 1) (by omega) (by omega)) (h (i + (d + 2)) (by omega) h1)
theorem ord_inc (l : List S77) (level : Int) (hl : l.length ≤ 100) : ∀ m i k, i + m = l.length → understoryref06_Ordered.l0 k l level i = some true → ∀ j, i ≤ j → 0 < j → j < l.length → Op.bytesLess (l.getD (j - 1) z77).f0.toList (l.getD j z77).f0.toList = true
  | 0, i, k, h, _ => fun j h1 h2 h3 => by omega
  | m + 1, i, 0, h, hk => by simp [understoryref06_Ordered.l0] at hk
  | m + 1, i, k + 1, h, hk => by
    have hJ : ∀ q, understoryref06_Ordered.j1 k l level i (rd_T77 l i).f0 q = some true → (q = true → i = 0) → (0 < i → Op.bytesLess (l.getD (i - 1) z77).f0.toList (l.getD i z77).f0.toList = true) ∧ ∃ k2, understoryref06_Ordered.l0 k2 l level ((i + 1 : Nat) : Int) = some true := by
      intro q hq hqi
      cases k with
      | zero => simp [understoryref06_Ordered.j1] at hq
      | succ k =>
        rw [understoryref06_Ordered.j1, wsuc i (by omega)] at hq
        by_cases h0 : q = true
        · rw [if_pos h0] at hq
          have hi := hqi h0
          split at hq
          · exact ⟨fun h => by omega, _, hq⟩
          · cases hq
        · rw [if_neg h0] at hq
          split at hq
          · cases hq
          split at hq
          · cases hq
          by_cases h3 : (i : Int) > 0
          · have hw : wrap64 ((i : Int) - 1) = ((i - 1 : Nat) : Int) := by rw [w64 _ (by omega) (by omega)]; omega
            rw [if_pos h3, hw, if_pos (by omega), if_pos (by omega)] at hq
            split at hq
            · rename_i h4
              refine ⟨fun _ => ?_, _, hq⟩
              simpa [rd_T77] using h4
            · cases hq
          · rw [if_neg h3] at hq
            exact ⟨fun h => by omega, _, hq⟩
    have hK : (0 < i → Op.bytesLess (l.getD (i - 1) z77).f0.toList (l.getD i z77).f0.toList = true) ∧ ∃ k2, understoryref06_Ordered.l0 k2 l level ((i + 1 : Nat) : Int) = some true := by
      rw [understoryref06_Ordered.l0, if_pos (by omega), if_pos (by omega)] at hk
      by_cases h0 : (i : Int) = 0
      · rw [if_pos h0] at hk
        exact hJ _ hk (fun _ => by omega)
      · rw [if_neg h0] at hk
        exact hJ _ hk (fun h => by cases h)
    obtain ⟨h1, k2, hk2⟩ := hK
    intro j hj j0 jn
    by_cases e : j = i
    · subst e; exact h1 j0
    · exact ord_inc l level hl m (i + 1) k2 (by omega) hk2 j (by omega) j0 jn
theorem ordered_inc (l : List S77) (level : Int) (hl : l.length ≤ 100) (k : Nat) (h : understoryref06_Ordered.f k l level = some true) : IncL l := by
  unfold understoryref06_Ordered.f at h
  cases hq : understoryref06_inLevel.f level with
  | none => rw [hq] at h; cases h
  | some t =>
    rw [hq] at h
    cases t
    · simp at h
    · have h : understoryref06_Ordered.l0 k l level 0 = some true := by simpa using h
      exact fun j h1 h2 => ord_inc l level hl _ 0 k (Nat.zero_add _) h j (Nat.zero_le _) h1 h2
/-- the binary search, where the predicate is false, then true -/
theorem bsF_spec (p : Nat → Bool) (n : Nat) (mono : ∀ i j, i ≤ j → j < n → p i = true → p j = true) : ∀ k a b, a ≤ b → b ≤ n → b - a ≤ k → (∀ i, i < a → p i = false) → (∀ i, b ≤ i → i < n → p i = true) →
    (∀ i, i < bsF p k a b → p i = false) ∧ (∀ i, bsF p k a b ≤ i → i < n → p i = true)
  | 0, a, b, h1, h2, h3, hA, hB => by
    obtain rfl : a = b := by omega
    exact ⟨hA, hB⟩
  | k + 1, a, b, h1, h2, h3, hA, hB => by
    rw [bsF]
    by_cases hab : a < b
    · rw [if_pos hab]
      by_cases hp : p ((a + b) / 2) = true
      · rw [if_pos hp]
        exact bsF_spec p n mono k a _ (by omega) (by omega) (by omega) hA (fun i hi hn => mono _ i hi hn hp)
      · rw [if_neg hp]
        refine bsF_spec p n mono k _ b (by omega) h2 (by omega) (fun i hi => ?_) hB
        cases hpi : p i with
        | false => rfl
        | true => exact absurd (mono i _ (by omega) (by omega) hpi) hp
    · rw [if_neg hab]
      obtain rfl : a = b := by omega
      exact ⟨hA, hB⟩
theorem q64_mono {l : List S77} (h : IncL l) (key : ByteArray) (i j : Nat) (hij : i ≤ j) (hj : j < l.length) (hp : q64 l key i = true) : q64 l key j = true := by
  by_cases e : i = j
  · subst e; exact hp
  simp only [q64, Bool.not_eq_true'] at hp ⊢
  cases hq : Op.bytesLess (l.getD j z77).f0.toList key.toList with
  | false => rfl
  | true =>
    have := inc_lt h i (j - i) (by omega) (by omega)
    rw [show i + (j - i) = j by omega] at this
    rw [less_tr _ _ _ this hq] at hp
    cases hp
end Go.Proofs.Ytalncokpbgbccaa.E

/- What every law asks first: few of one list; and how a contract is told to a walk. -/
namespace Go.Proofs.Ytalncokpbgbccaa.E
set_option linter.unusedVariables false
set_option linter.unusedSimpArgs false
open Go.RowKit Go.Proofs.YtalncokpbgbccaaW.PrintWords Go.Proofs.YtalncokpbgbccaaW.PrintLast Go.Proofs.YtalncokpbgbccaaW.PrintMore
/-- a call that answers so from wherever the world below is as it was -/
@[reducible] def Ans (w : World) (f : Nat) (args : Array Value) (v : Value) : Prop := ∀ w1, Below w.heap.size w w1 → Calls Try.prog f args w1 fun e w2 => e = .returned v ∧ Below w.heap.size w w2
/-- few of one list -/
@[reducible] def Ans1 (w : World) (A : Option Addr) (n c : Nat) (b : Bool) : Prop := ∀ w1 g, Below w.heap.size w w1 → w1.heap[g]? = some (.cells #[.slice A n c] 22 (0, 0)) → Calls Try.prog 14 #[.slice (some ⟨g, 0, none⟩) 1 1] w1 fun e w2 => e = .returned (.bool b) ∧ Below w.heap.size w w2
end Go.Proofs.Ytalncokpbgbccaa.E

