-- A slim copy of Rb, NU, written by wip/tools/prune2.py.
import Derived.Test.YtalncokpbgbccaaKMb
import Derived.Test.YtalncokpbgbccaaKMf
import Derived.Test.YtalncokpbgbccaaKNx0
-- Printed by this session's wip/tools/oracle.py, which runs the kit's print program; Lean checks it.
namespace Go.Proofs.Ytalncokpbgbccaa.E
open Go.RowKit Go.Proofs.YtalncokpbgbccaaW.PrintWords Go.Proofs.YtalncokpbgbccaaW.PrintLast Go.Proofs.YtalncokpbgbccaaW.PrintMore
attribute [local go_sem] max2_int min2_int max_two min_two max_three min_three max_four min_four   -- for this text's walks alone
set_option linter.unusedVariables false
set_option linter.unusedSimpArgs false

/-! ### enc_Prefix: function 94 -/
def enc_Prefix.l0 : Nat → ByteArray → ByteArray → Int → Option (Int)
  | 0, _, _, _ => none
  | k + 1, x0, x1, x5 => if x5 < (mn (x0.size : Int) (x1.size : Int)) then (if 0 ≤ x5 then (if x5 < (x0.size : Int) then (if x5 < (x1.size : Int) then (if (bt x0 x5) = (bt x1 x5) then (enc_Prefix.l0 k x0 x1 (wrap64 (x5 + 1))) else (some x5)) else (none)) else (none)) else (none)) else (some x5)
def enc_Prefix.f (k : Nat) (a0 : ByteArray) (a1 : ByteArray) : Option (Int) := enc_Prefix.l0 k a0 a1 0
theorem enc_Prefix.mono_l : ∀ k, (∀ y0 y1 y2, LeO (enc_Prefix.l0 k y0 y1 y2) (enc_Prefix.l0 (k + 1) y0 y1 y2))
  | 0 => fun _ _ _ r h => by simp [enc_Prefix.l0] at h
  | k + 1 => by
    have ih0 := enc_Prefix.mono_l k
    · intro y0 y1 y2
      unfold enc_Prefix.l0
      repeat' first
      | (with_reducible exact ih0 _ _ _)
      | (with_reducible exact LeO.refl _)
      | (with_reducible exact LeO.none _)
      | (with_reducible refine LeO.ite ?_ ?_)
      | (with_reducible refine LeO.bind ?_ (fun _ => ?_))
      | exact ih0 _ _ _
      | exact LeO.none _
      | refine LeO.ite ?_ ?_
      | refine LeO.bind ?_ (fun _ => ?_)
theorem enc_Prefix.mono : ∀ a0 a1 k, LeO (enc_Prefix.f k a0 a1) (enc_Prefix.f (k + 1) a0 a1) := by
  intro a0 a1 k
  have ih0 := enc_Prefix.mono_l k
  unfold enc_Prefix.f
  repeat' first
      | (with_reducible exact ih0 _ _ _)
      | (with_reducible exact LeO.refl _)
      | (with_reducible exact LeO.none _)
      | (with_reducible refine LeO.ite ?_ ?_)
      | (with_reducible refine LeO.bind ?_ (fun _ => ?_))
      | exact ih0 _ _ _
      | exact LeO.none _
      | refine LeO.ite ?_ ?_
      | refine LeO.bind ?_ (fun _ => ?_)
set_option maxHeartbeats 8000000 in
set_option maxRecDepth 100000 in
theorem enc_Prefix.calls (k : Nat) (a0 : ByteArray) (a1 : ByteArray) (r : Int) (w : World) (h : enc_Prefix.f k a0 a1 = some r) :
    Calls Try.prog 94 #[.string a0, .string a1] w fun e w' => e = .returned (.int .i64 r) ∧ Below w.heap.size w w' := by
  have HB := Aside0.mk (Below.refl w.heap.size w)
  have H : (enc_Prefix.l0 k a0 a1 0) = some r := h
  clear h
  have H' := Aside0.mk H
  clear H
  go_enter Try.func94, Try.ntmps94
  go_wp2
  repeat (go_quiet (fail); try go_wp2)
  go_loopg [5] k (fun kq v5 w' => ∃ (x5_1 : Int), v5 = .int .i64 x5_1 ∧ Aside0 (enc_Prefix.l0 kq a0 a1 x5_1 = some r) ∧ Aside0 (kq ≤ k) ∧ Aside0 (Below w.heap.size w w'))
  case atStart => exact ⟨(0), (by first | rfl | (simp; done) | (simp [*]; done)), H', ⟨Nat.le_refl _⟩, ⟨by repeat (first | (with_reducible first | exact HB.out | apply below_alloc | apply pw_below_drewN | apply below_drew1) | exact HB.out)⟩⟩
  case round =>
    clear H'
    try clear p2
    obtain ⟨x5_1, rfl, HA, HK1, HB⟩ := hrel
    cases gk with
    | zero => exact absurd HA.out (by simp [enc_Prefix.l0])
    | succ k1 =>
      have H := HA.out
      clear HA
      simp only [enc_Prefix.l0] at H
      obtain ⟨ji3, hji3⟩ : ∃ j_ : Int, (mn (a0.size : Int) (a1.size : Int)) = j_ := ⟨_, rfl⟩
      replace H : (if x5_1 < (ji3) then (if 0 ≤ x5_1 then (if x5_1 < (a0.size : Int) then (if x5_1 < (a1.size : Int) then (if (bt a0 x5_1) = (bt a1 x5_1) then (enc_Prefix.l0 k1 a0 a1 (wrap64 (x5_1 + 1))) else (some x5_1)) else (none)) else (none)) else (none)) else (some x5_1)) = some r := by first | (rw [hji3] at H; exact H) | (simp only [hji3] at H ⊢; exact H)
      have hji3_ : (if (a1.size : Int) < (a0.size : Int) then (a1.size : Int) else (a0.size : Int)) = ji3 := hji3
      have hji3n : (if a1.size < a0.size then (a1.size : Int) else (a0.size : Int)) = ji3 := by rw [← hji3_]; simp only [Int.ofNat_lt]
      by_cases c4 : x5_1 < (ji3)
      · rw [if_pos c4] at H
        have c4b0 : decide (x5_1 < (ji3)) = true := decide_eq_true c4
        clear c4
        by_cases c5 : 0 ≤ x5_1
        · rw [if_pos c5] at H
          have c5b0 : decide (0 ≤ x5_1) = true := decide_eq_true c5
          clear c5
          by_cases c6 : x5_1 < (a0.size : Int)
          · rw [if_pos c6] at H
            have c6b0 : decide (x5_1 < (a0.size : Int)) = true := decide_eq_true c6
            clear c6
            by_cases c8 : x5_1 < (a1.size : Int)
            · rw [if_pos c8] at H
              have c8b0 : decide (x5_1 < (a1.size : Int)) = true := decide_eq_true c8
              clear c8
              by_cases c10 : (bt a0 x5_1) = (bt a1 x5_1)
              · rw [if_pos c10] at H
                have c10b0 : ((bt a0 x5_1) == (bt a1 x5_1)) = true := beq_iff_eq.mpr c10
                have c10b1 : ((bt a0 x5_1) != (bt a1 x5_1)) = false := bne_eq_false_iff_eq.mpr c10
                clear c10
                have H' := Aside0.mk H
                clear H
                have p7 : 0 ≤ (x5_1 : Int) := of_decide_eq_true (by first | (with_reducible assumption) | assumption)
                have q7 : x5_1 < (a0.size : Int) := of_decide_eq_true (by first | (with_reducible assumption) | assumption)
                have hx7 := bt_at a0 x5_1
                replace p7 := eq_true p7
                replace q7 := eq_true q7
                have p9 : 0 ≤ (x5_1 : Int) := of_decide_eq_true (by first | (with_reducible assumption) | assumption)
                have q9 : x5_1 < (a1.size : Int) := of_decide_eq_true (by first | (with_reducible assumption) | assumption)
                have hx9 := bt_at a1 x5_1
                replace p9 := eq_true p9
                replace q9 := eq_true q9
                go_wp2
                repeat (go_quiet (fail); try go_wp2)
                go_roundg k1
                case measure => have := HK1.out; omega
                case rel => exact ⟨(wrap64 (x5_1 + 1)), (by first | rfl | (simp; done) | (simp [*]; done)), H', ⟨by have := HK1.out; omega⟩, ⟨by repeat (first | (with_reducible first | exact HB.out | apply below_alloc | apply pw_below_drewN | apply below_drew1) | exact HB.out)⟩⟩
              · rw [if_neg c10] at H
                have c10b0 : ((bt a0 x5_1) == (bt a1 x5_1)) = false := beq_eq_false_iff_ne.mpr c10
                have c10b1 : ((bt a0 x5_1) != (bt a1 x5_1)) = true := bne_iff_ne.mpr c10
                obtain rfl := Option.some.inj H
                have p7 : 0 ≤ (x5_1 : Int) := of_decide_eq_true (by first | (with_reducible assumption) | assumption)
                have q7 : x5_1 < (a0.size : Int) := of_decide_eq_true (by first | (with_reducible assumption) | assumption)
                have hx7 := bt_at a0 x5_1
                replace p7 := eq_true p7
                replace q7 := eq_true q7
                have p9 : 0 ≤ (x5_1 : Int) := of_decide_eq_true (by first | (with_reducible assumption) | assumption)
                have q9 : x5_1 < (a1.size : Int) := of_decide_eq_true (by first | (with_reducible assumption) | assumption)
                have hx9 := bt_at a1 x5_1
                replace p9 := eq_true p9
                replace q9 := eq_true q9
                go_wp2
                repeat (go_quiet (fail); try go_wp2)
                go_ret
                exact ⟨by first | rfl | (simp [errW_none, errW_some] <;> rfl) | (simp only [← hji3]; first | rfl | (simp [errW_none, errW_some] <;> rfl)) | (simp [*, errW_none, errW_some] <;> rfl), by repeat (first | (with_reducible first | exact HB.out | apply below_alloc | apply pw_below_drewN | apply below_drew1) | exact HB.out)⟩
            · rw [if_neg c8] at H
              exact absurd H (by simp)
          · rw [if_neg c6] at H
            exact absurd H (by simp)
        · rw [if_neg c5] at H
          exact absurd H (by simp)
      · rw [if_neg c4] at H
        have c4b0 : decide (x5_1 < (ji3)) = false := decide_eq_false c4
        clear c4
        obtain rfl := Option.some.inj H
        go_wp2
        repeat (go_quiet (fail); try go_wp2)
        go_ret
        exact ⟨by first | rfl | (simp [errW_none, errW_some] <;> rfl) | (simp only [← hji3]; first | rfl | (simp [errW_none, errW_some] <;> rfl)) | (simp [*, errW_none, errW_some] <;> rfl), by repeat (first | (with_reducible first | exact HB.out | apply below_alloc | apply pw_below_drewN | apply below_drew1) | exact HB.out)⟩

/-! ### enc_Between: function 76 -/
def enc_Between.f (k : Nat) (a0 : ByteArray) (a1 : ByteArray) : Option (ByteArray × Int) := if ((Op.bytesLess a0.toList a1.toList) = true) then ((enc_Prefix.f k a0 a1).bind fun t102 => (if t102 < (a0.size : Int) then (if 0 ≤ t102 then (if t102 ≤ (a1.size : Int) then ((some (([((bt a0 t102) + 1) % 256] : List Int) : List Int)).bind fun y103 => (if (a1.extract 0 (t102 : Int).toNat).size + (strOfNums y103).size ≤ 9223372036854775807 then (some ((a1.extract 0 (t102 : Int).toNat) ++ (strOfNums y103), 0)) else (none))) else (none)) else (none)) else (if 0 ≤ t102 then (if t102 ≤ (a1.size : Int) then ((some (([0] : List Int) : List Int)).bind fun y106 => (if (a1.extract 0 (t102 : Int).toNat).size + (strOfNums y106).size ≤ 9223372036854775807 then (some ((a1.extract 0 (t102 : Int).toNat) ++ (strOfNums y106), 0)) else (none))) else (none)) else (none)))) else (some ((⟨#[]⟩ : ByteArray), 1))
theorem enc_Between.mono : ∀ a0 a1 k, LeO (enc_Between.f k a0 a1) (enc_Between.f (k + 1) a0 a1) := by
  intro a0 a1 k
  unfold enc_Between.f
  repeat' first
      | (with_reducible exact enc_Prefix.mono _ _ _)
      | (with_reducible exact LeO.refl _)
      | (with_reducible exact LeO.none _)
      | (with_reducible refine LeO.ite ?_ ?_)
      | (with_reducible refine LeO.bind ?_ (fun _ => ?_))
      | exact enc_Prefix.mono _ _ _
      | exact LeO.none _
      | refine LeO.ite ?_ ?_
      | refine LeO.bind ?_ (fun _ => ?_)
def enc_Between.T7 : Bool × List (List Nat × List Nat) := (true, [([], []), ([], []), ([0, 1], [0, 1]), ([], []), ([3], [3]), ([4], [4]), ([2, 5], [2, 5]), ([6, 0, 1, 2, 3, 4, 5, 6], [6]), ([7, 0, 1, 2, 3, 4, 5, 6, 7], [])])
def enc_Between.B7 : List Nat := [0, 0, 3, 0, 8, 24, 63, 127, 255]
theorem enc_Between.tab7 : rtab .any (opsOf Try.f76 7) = enc_Between.T7 := by kernel_rfl
theorem enc_Between.bits7 : waitsOk enc_Between.T7.2 enc_Between.B7 = true := by kernel_rfl
set_option maxHeartbeats 8000000 in
set_option maxRecDepth 100000 in
theorem enc_Between.calls (k : Nat) (a0 : ByteArray) (a1 : ByteArray) (r1 : ByteArray) (r2 : Int) (w : World) (h : enc_Between.f k a0 a1 = some (r1, r2)) :
    Calls Try.prog 76 #[.string a0, .string a1] w fun e w' => e = .returned (.tuple #[.string r1, .int .i64 r2]) ∧ Below w.heap.size w w' := by
  have HB := Aside0.mk (Below.refl w.heap.size w)
  have H : (if ((Op.bytesLess a0.toList a1.toList) = true) then ((enc_Prefix.f k a0 a1).bind fun t102 => (if t102 < (a0.size : Int) then (if 0 ≤ t102 then (if t102 ≤ (a1.size : Int) then ((some (([((bt a0 t102) + 1) % 256] : List Int) : List Int)).bind fun y103 => (if (a1.extract 0 (t102 : Int).toNat).size + (strOfNums y103).size ≤ 9223372036854775807 then (some ((a1.extract 0 (t102 : Int).toNat) ++ (strOfNums y103), 0)) else (none))) else (none)) else (none)) else (if 0 ≤ t102 then (if t102 ≤ (a1.size : Int) then ((some (([0] : List Int) : List Int)).bind fun y106 => (if (a1.extract 0 (t102 : Int).toNat).size + (strOfNums y106).size ≤ 9223372036854775807 then (some ((a1.extract 0 (t102 : Int).toNat) ++ (strOfNums y106), 0)) else (none))) else (none)) else (none)))) else (some ((⟨#[]⟩ : ByteArray), 1))) = some (r1, r2) := h
  clear h
  by_cases c3 : ((Op.bytesLess a0.toList a1.toList) = true)
  · rw [if_pos c3] at H
    have c3b0 : (Op.bytesLess a0.toList a1.toList) = true := c3
    clear c3
    replace H := Option.bind_eq_some_iff.mp H
    obtain ⟨t102, A40, H⟩ := H
    replace H : (if t102 < (a0.size : Int) then (if 0 ≤ t102 then (if t102 ≤ (a1.size : Int) then ((some (([((bt a0 t102) + 1) % 256] : List Int) : List Int)).bind fun y103 => (if (a1.extract 0 (t102 : Int).toNat).size + (strOfNums y103).size ≤ 9223372036854775807 then (some ((a1.extract 0 (t102 : Int).toNat) ++ (strOfNums y103), 0)) else (none))) else (none)) else (none)) else (if 0 ≤ t102 then (if t102 ≤ (a1.size : Int) then ((some (([0] : List Int) : List Int)).bind fun y106 => (if (a1.extract 0 (t102 : Int).toNat).size + (strOfNums y106).size ≤ 9223372036854775807 then (some ((a1.extract 0 (t102 : Int).toNat) ++ (strOfNums y106), 0)) else (none))) else (none)) else (none))) = some (r1, r2) := H
    have A4 := Aside0.mk A40
    clear A40
    by_cases c5 : t102 < (a0.size : Int)
    · rw [if_pos c5] at H
      have c5b0 : decide (t102 < (a0.size : Int)) = true := decide_eq_true c5
      clear c5
      by_cases c6 : 0 ≤ t102
      · rw [if_pos c6] at H
        have c6b0 : decide (0 ≤ t102) = true := decide_eq_true c6
        clear c6
        have c8b0 := eq_true (of_decide_eq_true (by first | (with_reducible assumption) | assumption) : 0 ≤ t102)
        by_cases c9 : t102 ≤ (a1.size : Int)
        · rw [if_pos c9] at H
          have c9b0 := eq_true c9
          have c9b1 : decide (t102 ≤ (a1.size : Int)) = true := decide_eq_true c9
          clear c9
          obtain ⟨y103, hy103⟩ : ∃ y_ : List Int, y_ = (([((bt a0 t102) + 1) % 256] : List Int)) := ⟨_, rfl⟩
          replace H : (if (a1.extract 0 (t102 : Int).toNat).size + (strOfNums y103).size ≤ 9223372036854775807 then (some ((a1.extract 0 (t102 : Int).toNat) ++ (strOfNums y103), 0)) else (none)) = some (r1, r2) := by first | (rw [hy103]; with_reducible exact H) | (have H2_ := (Option.bind_some _ _).symm.trans H; rw [hy103]; with_reducible exact H2_) | (have H2_ := (Option.bind_some _ _).symm.trans H; with_reducible exact H2_) | with_reducible exact H | (rw [hy103]; exact H) | exact H
          have Ny103 := Aside0.mk hy103
          clear hy103
          by_cases c10 : (a1.extract 0 (t102 : Int).toNat).size + (strOfNums y103).size ≤ 9223372036854775807
          · rw [if_pos c10] at H
            have c10b0 := eq_true c10
            have c10b1 : decide ((a1.extract 0 (t102 : Int).toNat).size + (strOfNums y103).size ≤ 9223372036854775807) = true := decide_eq_true c10
            try have c10b2 : (9223372036854775807 < (a1.extract 0 (t102 : Int).toNat).size + (strOfNums y103).size) = False := eq_false (Nat.not_lt.2 c10)
            try have c10z : (9223372036854775807 < ((t102 : Int).toNat) + (strOfNums y103).size) = False := eq_false (by have h_ := c10; (try simp only [eq_iff_iff, iff_true, decide_eq_true_eq] at *); simp only [ByteArray.size_extract] at h_; omega)
            simp only [Option.some.injEq, Prod.mk.injEq] at H
            obtain ⟨rfl, rfl⟩ := H
            go_enter Try.func76, Try.ntmps76
            try go_wp2_with (first | ((with_reducible refine gate_callee (f := 94) rfl ?_); refine goesL_ (some 13) rfl rfl Try.func94 (by kernel_rfl) rfl #[.string a0, .string a1] rfl (by (try simp only [List.map_toArray, List.map_cons, List.map_nil]); first | done | rfl | (simp only [List.length_drop, List.length_take]; rfl)) ?_; (with_reducible refine (enc_Prefix.calls k a0 a1 t102 _ A4.out).mono ?_); rintro e w11 ⟨rfl, hb⟩; refine ⟨_, rfl, ?_⟩; have n0_ := Aside0.mk (below_step (by repeat (first | (with_reducible first | exact HB.out | apply below_alloc | apply pw_below_drewN | apply below_drew1) | exact HB.out)) hb); clear HB; have HB := n0_; clear n0_; (try clear hb); (try clear hb2); (try clear hk); (try clear hi); have p7 : 0 ≤ (t102 : Int) := of_decide_eq_true (by first | (with_reducible assumption) | assumption); have q7 : t102 < (a0.size : Int) := of_decide_eq_true (by first | (with_reducible assumption) | assumption); have hx7 := bt_at a0 t102; replace p7 := eq_true p7; replace q7 := eq_true q7))
            have n0_ := Aside0.mk (below_drew1 HB.out)
            clear HB
            have HB := n0_
            clear n0_
            refine start_ (n := 9) (S := fun w' => True) (ds := []) #[false, false, false, false, false, false, false, false, false] (by kernel_rfl) rfl rfl trivial (fun hHeld => ?_); refine with_tabW enc_Between.tab7 enc_Between.bits7 (fun HT_ HW_ => ?_)
            generalize w11.drew = w12 at HB hHeld ⊢
            refine pure_ (i := 0) (N := some 22) (v := ?_) (a' := ?_) #[true, false, false, false, false, false, false, false, false] rfl rfl (any_of HT_.out (by kernel_rfl)) (fun _ _ _ h => h) (Or.inl ⟨by rfl, ?_⟩) ?_ ?_
            rotate_left
            · intro w'
              go_simp
              with_reducible rfl
            rotate_left
            · simp only [Act.put, List.setIfInBounds_toArray, List.set_cons_zero, List.set_cons_succ, i64_w, i32_w]
              rfl
            refine pure_ (i := 1) (N := some 23) (v := ?_) (a' := ?_) #[true, true, false, false, false, false, false, false, false] rfl rfl (any_of HT_.out (by kernel_rfl)) (fun _ _ _ h => h) (Or.inl ⟨by rfl, ?_⟩) ?_ ?_
            rotate_left
            · intro w'
              go_simp
              with_reducible rfl
            rotate_left
            · simp only [Act.put, List.setIfInBounds_toArray, List.set_cons_zero, List.set_cons_succ, i64_w, i32_w]
              rfl
            refine pure_ (i := 2) (N := some 24) (v := ?_) (a' := ?_) #[true, true, true, false, false, false, false, false, false] rfl rfl (any_of HT_.out (by kernel_rfl)) (fun _ _ _ h => h) (Or.inl ⟨by rfl, ?_⟩) ?_ ?_
            rotate_left
            · intro w'
              go_simp
              with_reducible rfl
            rotate_left
            · simp only [Act.put, List.setIfInBounds_toArray, List.set_cons_zero, List.set_cons_succ, i64_w, i32_w]
              rfl
            refine pure_ (i := 3) (N := some 25) (v := ?_) (a' := ?_) #[true, true, true, true, false, false, false, false, false] rfl rfl (any_of HT_.out (by kernel_rfl)) (fun _ _ _ h => h) (Or.inl ⟨by rfl, ?_⟩) ?_ ?_
            rotate_left
            · intro w'
              go_simp
              with_reducible rfl
            rotate_left
            · simp only [Act.put, List.setIfInBounds_toArray, List.set_cons_zero, List.set_cons_succ, i64_w, i32_w]
              rfl
            refine one_ (i := 4) (N := some 26) #[true, true, true, true, true, false, false, false, false] rfl rfl (one_of HT_.out (by kernel_rfl)) (by decide) (fun K hK => ?_)
            refine Kd.R_lit_step (Kd.int .u8) _ 5 ?hg (N := 26) ?hd (xs := ([((bt a0 t102) + 1) % 256] : List Int)) (inner := [.int .u8 (((bt a0 t102) + 1) % 256)]) (ok := fun _ => True) (okp := fun _ => True) ?hr ?hp (fun _ hk => hk) trivial (Below.refl _ _) (Nat.le_refl _) (by simp) ?_; (case hd => rfl); (case hg => rfl); (case hr => first | (go_simp; done) | (go_simp; rfl)); (case hp => exact (Reps.one (show Kd.M (Kd.int .u8) _ _ _ (((bt a0 t102) + 1) % 256) [.int .u8 (((bt a0 t102) + 1) % 256)] from rfl) (Reps.none _ _)))
            intro v104 w13 ho14 hb hg_ hnew_
            clear hg_ hnew_
            (first | rw [← Ny103.out] at ho14 | (simp only [Int.reduceToNat] at ho14; rw [← Ny103.out] at ho14))
            have n0_ := Aside0.mk (Kd.R_lower ho14 (below_size (by repeat (first | (with_reducible first | exact HB.out | apply below_alloc | apply pw_below_drewN | apply below_drew1) | exact HB.out))))
            have n1_ := Aside0.mk (below_step (by repeat (first | (with_reducible first | exact HB.out | apply below_alloc | apply pw_below_drewN | apply below_drew1) | exact HB.out)) hb)
            clear HB
            have HO105 := n0_
            have HB := n1_
            clear n0_ n1_
            clear hb ho14
            refine hK.out _ _ trivial (fun hHeld => ?_)
            clear hK K
            refine norm_ (a' := ?_) ?_ ?_
            rotate_left
            · show Act.put _ (some 26) _ = _
              simp only [Act.put, List.setIfInBounds_toArray, List.set_cons_zero, List.set_cons_succ, i64_w, i32_w]
              rfl
            refine one_ (i := 5) (N := some 27) #[true, true, true, true, true, true, false, false, false] rfl rfl (one_of HT_.out (by kernel_rfl)) (by decide) (fun K hK => ?_)
            have hcv15 := own_string (P := Try.prog) Try.underlying132 Try.underlying5 Try.underlying9 (Kd.own_of_R HO105.out)
            refine value_ (w1 := ?_) (v := ?_) (by rfl) rfl ?_ ?_
            rotate_left 2
            · go_simp
              constructor
              · rfl
              · rfl
            clear hcv15
            refine hK.out _ _ trivial (fun hHeld => ?_)
            clear hK K
            refine norm_ (a' := ?_) ?_ ?_
            rotate_left
            · show Act.put _ (some 27) _ = _
              simp only [Act.put, List.setIfInBounds_toArray, List.set_cons_zero, List.set_cons_succ, i64_w, i32_w]
              rfl
            refine pure_ (i := 6) (N := some 28) (v := ?_) (a' := ?_) #[true, true, true, true, true, true, true, false, false] rfl rfl (any_of HT_.out (by kernel_rfl)) (fun _ _ _ h => h) (Or.inl ⟨by rfl, ?_⟩) ?_ ?_
            rotate_left
            · intro w'
              go_simp
              with_reducible rfl
            rotate_left
            · simp only [Act.put, List.setIfInBounds_toArray, List.set_cons_zero, List.set_cons_succ, i64_w, i32_w]
              rfl
            refine pure_ (i := 7) (N := some 4) (v := ?_) (a' := ?_) #[true, true, true, true, true, true, true, true, false] rfl rfl (any_of HT_.out (by kernel_rfl)) (fun _ _ _ h => h) (Or.inl ⟨by rfl, ?_⟩) ?_ ?_
            rotate_left
            · intro w'
              go_simp
              with_reducible rfl
            rotate_left
            · simp only [Act.put, List.setIfInBounds_toArray, List.set_cons_zero, List.set_cons_succ, i64_w, i32_w]
              rfl
            refine pure_ (i := 8) (N := some 5) (v := ?_) (a' := ?_) #[true, true, true, true, true, true, true, true, true] rfl rfl (any_of HT_.out (by kernel_rfl)) (fun _ _ _ h => h) (Or.inl ⟨by rfl, ?_⟩) ?_ ?_
            rotate_left
            · intro w'
              go_simp
              with_reducible rfl
            rotate_left
            · simp only [Act.put, List.setIfInBounds_toArray, List.set_cons_zero, List.set_cons_succ, i64_w, i32_w]
              rfl
            refine done_ (done_of HT_.out (by kernel_rfl)) ?_
            try go_wp2
            go_ret2
            exact ⟨by first | rfl | (simp [errW_none, errW_some] <;> rfl) | (simp [*, errW_none, errW_some] <;> rfl), by repeat (first | (with_reducible first | exact HB.out | apply below_alloc | apply pw_below_drewN | apply below_drew1) | exact HB.out)⟩
          · rw [if_neg c10] at H
            exact absurd H (by simp)
        · rw [if_neg c9] at H
          exact absurd H (by simp)
      · rw [if_neg c6] at H
        exact absurd H (by simp)
    · rw [if_neg c5] at H
      have c5b0 : decide (t102 < (a0.size : Int)) = false := decide_eq_false c5
      clear c5
      by_cases c16 : 0 ≤ t102
      · rw [if_pos c16] at H
        have c16b0 := eq_true c16
        have c16b1 : decide (0 ≤ t102) = true := decide_eq_true c16
        clear c16
        by_cases c17 : t102 ≤ (a1.size : Int)
        · rw [if_pos c17] at H
          have c17b0 := eq_true c17
          have c17b1 : decide (t102 ≤ (a1.size : Int)) = true := decide_eq_true c17
          clear c17
          obtain ⟨y106, hy106⟩ : ∃ y_ : List Int, y_ = (([0] : List Int)) := ⟨_, rfl⟩
          replace H : (if (a1.extract 0 (t102 : Int).toNat).size + (strOfNums y106).size ≤ 9223372036854775807 then (some ((a1.extract 0 (t102 : Int).toNat) ++ (strOfNums y106), 0)) else (none)) = some (r1, r2) := by first | (rw [hy106]; with_reducible exact H) | (have H2_ := (Option.bind_some _ _).symm.trans H; rw [hy106]; with_reducible exact H2_) | (have H2_ := (Option.bind_some _ _).symm.trans H; with_reducible exact H2_) | with_reducible exact H | (rw [hy106]; exact H) | exact H
          have Ny106 := Aside0.mk hy106
          clear hy106
          by_cases c18 : (a1.extract 0 (t102 : Int).toNat).size + (strOfNums y106).size ≤ 9223372036854775807
          · rw [if_pos c18] at H
            have c18b0 := eq_true c18
            have c18b1 : decide ((a1.extract 0 (t102 : Int).toNat).size + (strOfNums y106).size ≤ 9223372036854775807) = true := decide_eq_true c18
            try have c18b2 : (9223372036854775807 < (a1.extract 0 (t102 : Int).toNat).size + (strOfNums y106).size) = False := eq_false (Nat.not_lt.2 c18)
            try have c18z : (9223372036854775807 < ((t102 : Int).toNat) + (strOfNums y106).size) = False := eq_false (by have h_ := c18; (try simp only [eq_iff_iff, iff_true, decide_eq_true_eq] at *); simp only [ByteArray.size_extract] at h_; omega)
            simp only [Option.some.injEq, Prod.mk.injEq] at H
            obtain ⟨rfl, rfl⟩ := H
            go_enter Try.func76, Try.ntmps76
            try go_wp2_with (first | ((with_reducible refine gate_callee (f := 94) rfl ?_); refine goesL_ (some 13) rfl rfl Try.func94 (by kernel_rfl) rfl #[.string a0, .string a1] rfl (by (try simp only [List.map_toArray, List.map_cons, List.map_nil]); first | done | rfl | (simp only [List.length_drop, List.length_take]; rfl)) ?_; (with_reducible refine (enc_Prefix.calls k a0 a1 t102 _ A4.out).mono ?_); rintro e w19 ⟨rfl, hb⟩; refine ⟨_, rfl, ?_⟩; have n0_ := Aside0.mk (below_step (by repeat (first | (with_reducible first | exact HB.out | apply below_alloc | apply pw_below_drewN | apply below_drew1) | exact HB.out)) hb); clear HB; have HB := n0_; clear n0_; (try clear hb); (try clear hb2); (try clear hk); (try clear hi)))
            have n0_ := Aside0.mk (below_drew1 HB.out)
            clear HB
            have HB := n0_
            clear n0_
            refine start_ (n := 9) (S := fun w' => True) (ds := []) #[false, false, false, false, false, false, false, false, false] (by kernel_rfl) rfl rfl trivial (fun hHeld => ?_); refine with_tabW enc_Between.tab7 enc_Between.bits7 (fun HT_ HW_ => ?_)
            generalize w19.drew = w20 at HB hHeld ⊢
            refine pure_ (i := 0) (N := some 22) (v := ?_) (a' := ?_) #[true, false, false, false, false, false, false, false, false] rfl rfl (any_of HT_.out (by kernel_rfl)) (fun _ _ _ h => h) (Or.inl ⟨by rfl, ?_⟩) ?_ ?_
            rotate_left
            · intro w'
              go_simp
              with_reducible rfl
            rotate_left
            · simp only [Act.put, List.setIfInBounds_toArray, List.set_cons_zero, List.set_cons_succ, i64_w, i32_w]
              rfl
            refine pure_ (i := 1) (N := some 23) (v := ?_) (a' := ?_) #[true, true, false, false, false, false, false, false, false] rfl rfl (any_of HT_.out (by kernel_rfl)) (fun _ _ _ h => h) (Or.inl ⟨by rfl, ?_⟩) ?_ ?_
            rotate_left
            · intro w'
              go_simp
              with_reducible rfl
            rotate_left
            · simp only [Act.put, List.setIfInBounds_toArray, List.set_cons_zero, List.set_cons_succ, i64_w, i32_w]
              rfl
            refine pure_ (i := 2) (N := some 24) (v := ?_) (a' := ?_) #[true, true, true, false, false, false, false, false, false] rfl rfl (any_of HT_.out (by kernel_rfl)) (fun _ _ _ h => h) (Or.inl ⟨by rfl, ?_⟩) ?_ ?_
            rotate_left
            · intro w'
              go_simp
              with_reducible rfl
            rotate_left
            · simp only [Act.put, List.setIfInBounds_toArray, List.set_cons_zero, List.set_cons_succ, i64_w, i32_w]
              rfl
            refine pure_ (i := 3) (N := some 25) (v := ?_) (a' := ?_) #[true, true, true, true, false, false, false, false, false] rfl rfl (any_of HT_.out (by kernel_rfl)) (fun _ _ _ h => h) (Or.inl ⟨by rfl, ?_⟩) ?_ ?_
            rotate_left
            · intro w'
              go_simp
              with_reducible rfl
            rotate_left
            · simp only [Act.put, List.setIfInBounds_toArray, List.set_cons_zero, List.set_cons_succ, i64_w, i32_w]
              rfl
            refine one_ (i := 4) (N := some 26) #[true, true, true, true, true, false, false, false, false] rfl rfl (one_of HT_.out (by kernel_rfl)) (by decide) (fun K hK => ?_)
            refine Kd.R_lit_step (Kd.int .u8) _ 5 ?hg (N := 26) ?hd (xs := ([0] : List Int)) (inner := [.int .u8 0]) (ok := fun _ => True) (okp := fun _ => True) ?hr ?hp (fun _ hk => hk) trivial (Below.refl _ _) (Nat.le_refl _) (by simp) ?_; (case hd => rfl); (case hg => rfl); (case hr => first | (go_simp; done) | (go_simp; rfl)); (case hp => exact (Reps.one (show Kd.M (Kd.int .u8) _ _ _ 0 [.int .u8 0] from rfl) (Reps.none _ _)))
            intro v107 w21 ho22 hb hg_ hnew_
            clear hg_ hnew_
            (first | rw [← Ny106.out] at ho22 | (simp only [Int.reduceToNat] at ho22; rw [← Ny106.out] at ho22))
            have n0_ := Aside0.mk (Kd.R_lower ho22 (below_size (by repeat (first | (with_reducible first | exact HB.out | apply below_alloc | apply pw_below_drewN | apply below_drew1) | exact HB.out))))
            have n1_ := Aside0.mk (below_step (by repeat (first | (with_reducible first | exact HB.out | apply below_alloc | apply pw_below_drewN | apply below_drew1) | exact HB.out)) hb)
            clear HB
            have HO108 := n0_
            have HB := n1_
            clear n0_ n1_
            clear hb ho22
            refine hK.out _ _ trivial (fun hHeld => ?_)
            clear hK K
            refine norm_ (a' := ?_) ?_ ?_
            rotate_left
            · show Act.put _ (some 26) _ = _
              simp only [Act.put, List.setIfInBounds_toArray, List.set_cons_zero, List.set_cons_succ, i64_w, i32_w]
              rfl
            refine one_ (i := 5) (N := some 27) #[true, true, true, true, true, true, false, false, false] rfl rfl (one_of HT_.out (by kernel_rfl)) (by decide) (fun K hK => ?_)
            have hcv23 := own_string (P := Try.prog) Try.underlying132 Try.underlying5 Try.underlying9 (Kd.own_of_R HO108.out)
            refine value_ (w1 := ?_) (v := ?_) (by rfl) rfl ?_ ?_
            rotate_left 2
            · go_simp
              constructor
              · rfl
              · rfl
            clear hcv23
            refine hK.out _ _ trivial (fun hHeld => ?_)
            clear hK K
            refine norm_ (a' := ?_) ?_ ?_
            rotate_left
            · show Act.put _ (some 27) _ = _
              simp only [Act.put, List.setIfInBounds_toArray, List.set_cons_zero, List.set_cons_succ, i64_w, i32_w]
              rfl
            refine pure_ (i := 6) (N := some 28) (v := ?_) (a' := ?_) #[true, true, true, true, true, true, true, false, false] rfl rfl (any_of HT_.out (by kernel_rfl)) (fun _ _ _ h => h) (Or.inl ⟨by rfl, ?_⟩) ?_ ?_
            rotate_left
            · intro w'
              go_simp
              with_reducible rfl
            rotate_left
            · simp only [Act.put, List.setIfInBounds_toArray, List.set_cons_zero, List.set_cons_succ, i64_w, i32_w]
              rfl
            refine pure_ (i := 7) (N := some 4) (v := ?_) (a' := ?_) #[true, true, true, true, true, true, true, true, false] rfl rfl (any_of HT_.out (by kernel_rfl)) (fun _ _ _ h => h) (Or.inl ⟨by rfl, ?_⟩) ?_ ?_
            rotate_left
            · intro w'
              go_simp
              with_reducible rfl
            rotate_left
            · simp only [Act.put, List.setIfInBounds_toArray, List.set_cons_zero, List.set_cons_succ, i64_w, i32_w]
              rfl
            refine pure_ (i := 8) (N := some 5) (v := ?_) (a' := ?_) #[true, true, true, true, true, true, true, true, true] rfl rfl (any_of HT_.out (by kernel_rfl)) (fun _ _ _ h => h) (Or.inl ⟨by rfl, ?_⟩) ?_ ?_
            rotate_left
            · intro w'
              go_simp
              with_reducible rfl
            rotate_left
            · simp only [Act.put, List.setIfInBounds_toArray, List.set_cons_zero, List.set_cons_succ, i64_w, i32_w]
              rfl
            refine done_ (done_of HT_.out (by kernel_rfl)) ?_
            try go_wp2
            go_ret2
            exact ⟨by first | rfl | (simp [errW_none, errW_some] <;> rfl) | (simp [*, errW_none, errW_some] <;> rfl), by repeat (first | (with_reducible first | exact HB.out | apply below_alloc | apply pw_below_drewN | apply below_drew1) | exact HB.out)⟩
          · rw [if_neg c18] at H
            exact absurd H (by simp)
        · rw [if_neg c17] at H
          exact absurd H (by simp)
      · rw [if_neg c16] at H
        exact absurd H (by simp)
  · rw [if_neg c3] at H
    have c3b0 : (Op.bytesLess a0.toList a1.toList) = false := by simpa using c3
    clear c3
    simp only [Option.some.injEq, Prod.mk.injEq] at H
    obtain ⟨rfl, rfl⟩ := H
    go_enter Try.func76, Try.ntmps76
    go_wp2
    go_ret2
    exact ⟨by first | rfl | (simp [errW_none, errW_some] <;> rfl) | (simp [*, errW_none, errW_some] <;> rfl), by repeat (first | (with_reducible first | exact HB.out | apply below_alloc | apply pw_below_drewN | apply below_drew1) | exact HB.out)⟩

/-! ### node_Separator: function 40 -/
def node_Separator.f (k : Nat) (a0 : ByteArray) (a1 : ByteArray) : Option (ByteArray × Int) := (enc_Between.f k a0 a1).bind fun bt109 => (some (bt109.1, bt109.2))
theorem node_Separator.mono : ∀ a0 a1 k, LeO (node_Separator.f k a0 a1) (node_Separator.f (k + 1) a0 a1) := by
  intro a0 a1 k
  unfold node_Separator.f
  repeat' first
      | (with_reducible exact enc_Between.mono _ _ _)
      | (with_reducible exact LeO.refl _)
      | (with_reducible exact LeO.none _)
      | (with_reducible refine LeO.ite ?_ ?_)
      | (with_reducible refine LeO.bind ?_ (fun _ => ?_))
      | exact enc_Between.mono _ _ _
      | exact LeO.none _
      | refine LeO.ite ?_ ?_
      | refine LeO.bind ?_ (fun _ => ?_)
set_option maxHeartbeats 8000000 in
set_option maxRecDepth 100000 in
theorem node_Separator.calls (k : Nat) (a0 : ByteArray) (a1 : ByteArray) (r1 : ByteArray) (r2 : Int) (w : World) (h : node_Separator.f k a0 a1 = some (r1, r2)) :
    Calls Try.prog 40 #[.string a0, .string a1] w fun e w' => e = .returned (.tuple #[.string r1, .int .i64 r2]) ∧ Below w.heap.size w w' := by
  have HB := Aside0.mk (Below.refl w.heap.size w)
  have H : ((enc_Between.f k a0 a1).bind fun bt109 => (some (bt109.1, bt109.2))) = some (r1, r2) := h
  clear h
  replace H := Option.bind_eq_some_iff.mp H
  obtain ⟨⟨t109, t110⟩, A30, H⟩ := H
  replace H : (some (t109, t110)) = some (r1, r2) := H
  have A3 := Aside0.mk A30
  clear A30
  simp only [Option.some.injEq, Prod.mk.injEq] at H
  obtain ⟨rfl, rfl⟩ := H
  go_enter Try.func40, Try.ntmps40
  go_wp2_with (first | ((with_reducible refine gate_callee (f := 76) rfl ?_); refine goesL_ (some 8) rfl rfl Try.func76 (by kernel_rfl) rfl #[.string a0, .string a1] rfl (by (try simp only [List.map_toArray, List.map_cons, List.map_nil]); first | done | rfl | (simp only [List.length_drop, List.length_take]; rfl)) ?_; (with_reducible refine (enc_Between.calls k a0 a1 t109 t110 _ A3.out).mono ?_); rintro e w4 ⟨rfl, hb⟩; refine ⟨_, rfl, ?_⟩; have n0_ := Aside0.mk (below_step (by repeat (first | (with_reducible first | exact HB.out | apply below_alloc | apply pw_below_drewN | apply below_drew1) | exact HB.out)) hb); clear HB; have HB := n0_; clear n0_; (try clear hb); (try clear hb2); (try clear hk); (try clear hi)))
  go_ret2
  exact ⟨by first | rfl | (simp [errW_none, errW_some] <;> rfl) | (simp [*, errW_none, errW_some] <;> rfl), by repeat (first | (with_reducible first | exact HB.out | apply below_alloc | apply pw_below_drewN | apply below_drew1) | exact HB.out)⟩

end Go.Proofs.Ytalncokpbgbccaa.E

/- at: the parts of a cut, and the separator. -/
namespace Go.Proofs.Ytalncokpbgbccaa.E
set_option linter.unusedVariables false
set_option linter.unusedSimpArgs false
open Go.RowKit Go.Proofs.YtalncokpbgbccaaW.PrintWords Go.Proofs.YtalncokpbgbccaaW.PrintLast Go.Proofs.YtalncokpbgbccaaW.PrintMore

def rg93_1_T : Bool × List (List Nat × List Nat) := (true, [([], []), ([0], [0]), ([], []), ([], []), ([1, 2, 3], [1, 2, 3]), ([], []), ([5], [5]), ([4, 6], [4, 6]), ([], []), ([8], [8]), ([], []), ([9, 10], [9, 10]), ([11], [11]), ([], []), ([13], [13]), ([12, 14], [12, 14]), ([7, 12, 0, 1, 2, 3, 4, 5, 6, 7], [7]), ([15, 16, 0, 1, 2, 3, 4, 5, 6, 7, 8, 9, 10, 11, 12, 13, 14, 15, 16], [15])])
def rg93_1_B : List Nat := [0, 1, 0, 0, 15, 0, 32, 127, 0, 256, 0, 1792, 3840, 0, 8192, 32512, 8191, 131071]
theorem rg93_1_tab : rtab .any (opsOf Try.f93 1) = rg93_1_T := by kernel_rfl
theorem rg93_1_bits : waitsOk rg93_1_T.2 rg93_1_B = true := by kernel_rfl
def rg93_3_T : Bool × List (List Nat × List Nat) := (true, [([], []), ([0], [0]), ([], []), ([2], [2]), ([3], [3]), ([4], [4]), ([5], [5]), ([6, 2, 3, 4, 5, 6], [6]), ([1, 0, 1, 2, 3, 4, 5, 6, 7], [1]), ([8, 0, 1, 2, 3, 4, 5, 6, 7], [8]), ([9, 7, 0, 1, 2, 3, 4, 5, 6, 7], [9])])
def rg93_3_B : List Nat := [0, 1, 0, 4, 12, 28, 60, 124, 255, 511, 1023]
theorem rg93_3_tab : rtab .any (opsOf Try.f93 3) = rg93_3_T := by kernel_rfl
theorem rg93_3_bits : waitsOk rg93_3_T.2 rg93_3_B = true := by kernel_rfl
def rg93_4_T : Bool × List (List Nat × List Nat) := (true, [([], []), ([], []), ([], []), ([0, 0], [0]), ([1, 3, 0, 1, 3], [1]), ([2, 4, 0, 1, 2, 3, 4], [2])])
def rg93_4_B : List Nat := [0, 0, 0, 1, 11, 31]
theorem rg93_4_tab : rtab .any (opsOf Try.f93 4) = rg93_4_T := by kernel_rfl
theorem rg93_4_bits : waitsOk rg93_4_T.2 rg93_4_B = true := by kernel_rfl
def rg93_5_T : Bool × List (List Nat × List Nat) := (true, [([], []), ([0], [0]), ([], []), ([2], [2]), ([1, 3], [1, 3]), ([4], [4]), ([5], [5]), ([], []), ([7], [7]), ([], []), ([8, 9], [8, 9]), ([10], [10]), ([11], [11]), ([6, 12], [6, 12]), ([13], [13]), ([14], [14]), ([14], [14]), ([15, 13, 0, 1, 2, 3, 4, 5, 6, 7, 8, 9, 10, 11, 12, 13, 14, 15], [15]), ([16, 17, 0, 1, 2, 3, 4, 5, 6, 7, 8, 9, 10, 11, 12, 13, 14, 15, 16, 17], [16])])
def rg93_5_B : List Nat := [0, 1, 0, 4, 15, 31, 63, 0, 128, 0, 896, 1920, 3968, 8191, 16383, 32767, 32767, 65535, 262143]
theorem rg93_5_tab : rtab .any (opsOf Try.f93 5) = rg93_5_T := by kernel_rfl
theorem rg93_5_bits : waitsOk rg93_5_T.2 rg93_5_B = true := by kernel_rfl
def rg93_7_T : Bool × List (List Nat × List Nat) := (true, [([], []), ([], []), ([], []), ([0, 0], [0]), ([1, 3, 0, 1, 3], [1]), ([2, 4, 0, 1, 2, 3, 4], [2])])
def rg93_7_B : List Nat := [0, 0, 0, 1, 11, 31]
theorem rg93_7_tab : rtab .any (opsOf Try.f93 7) = rg93_7_T := by kernel_rfl
theorem rg93_7_bits : waitsOk rg93_7_T.2 rg93_7_B = true := by kernel_rfl
theorem size103 : (Try.prog.info? 103).map (·.size) = some 2 := by kernel_rfl
theorem cells2 (A : Option Addr) (n c : Nat) (k : Int) : (#[.slice A n c, .int .i64 k] : Array Value).all (·.oneCell') = true := by simp [Value.oneCell']
theorem store_box {W : World} (o : Oper) (a : Act) (p q : Operand) (ho : o.op = .store 103 p q) (g : Nat) (hx : a.eval p = .pointer (some ⟨g, 0, none⟩)) (x y : Value) (hy : a.eval q = .agg #[x, y]) (old : Array Value) (hg : W.heap[g]? = some (.cells old 103 (0, 0))) (hz : old.size = 2) (h1 : (#[x, y] : Array Value).all (·.oneCell') = true) :
    (execOp a.eval o).run Try.prog W = .ok .skip (W.setRow g #[x, y]) := by
  have hl := run_storeVar_row (P := Try.prog) W g 103 103 old #[x, y] hg (by rw [size103]; rfl) (by rw [hz]; rfl) h1
  unfold execOp
  simp only [ho, hx, hy, Instr.storeAt, Instr.sureAddr, Sem.run_bind, Sem.run_pure, Result.andThen_ok, hl]
theorem load_box {W : World} (o : Oper) (a : Act) (p : Operand) (ho : o.op = .load 103 p) (g : Nat) (hx : a.eval p = .pointer (some ⟨g, 0, none⟩)) (x y : Value) (hg : W.heap[g]? = some (.cells #[x, y] 103 (0, 0))) :
    (execOp a.eval o).run Try.prog W = .ok (.value (.agg #[x, y])) W := by
  have hl := run_loadVar_row (P := Try.prog) W g 103 103 #[x, y] (0, 0) _ hg Try.underlying103 rfl (by rw [size103]; rfl)
  unfold execOp
  simp only [ho, hx, Instr.loadAt, Instr.sureAddr, Sem.run_bind, Sem.run_pure, Result.andThen_ok, hl]
theorem cut_cap (A : Option Addr) (n c i : Nat) (hi : i ≤ n) (hc : n ≤ c) (W : World) : (Instr.slice 22 (.slice A n c) none (some (.int .i64 (i : Int))) (some (.int .i64 (i : Int)))).run Try.prog W = .ok (.slice A i i) W := by
  obtain ⟨i77, hi77, hsz⟩ := info77'
  have hu : Try.prog.underlying 22 = some (.slice (Try.prog.elem 22)) := by
    have hel : Try.prog.elem 22 = 77 := by simp [Program.elem, Try.underlying22]
    rw [hel]; exact Try.underlying22
  have hel : Try.prog.elem 22 = 77 := by simp [Program.elem, Try.underlying22]
  have ha : (A.map fun x => x.add 0) = A := by cases A <;> simp [Addr.add]
  rw [run_slice_hm W 22 A n c hu .i64 .i64 (i : Int) (i : Int) (by omega) (by omega) (by omega), hel]
  simp [sizeOf, typeInfo, hi77, sliced, Result.andThen, ha]
/-- the separator ahead of entry i -/
def sepIs (l : List S77) (level : Int) (i : Nat) (s : ByteArray) : Prop := if level > 0 then s = (l.getD i z77).f0 else ∃ k, node_Separator.f k (l.getD (i - 1) z77).f0 (l.getD i z77).f0 = some (s, 0)
theorem bare_cons (level : Int) (hl : level > 0) (p : List S77) (hp : 0 < p.length) : bare level p = p.set 0 (setKey (p.getD 0 z77) ⟨#[]⟩) := (bare_set level hl p hp).symm
theorem rows_only {t : Nat} (ht : 77 ≠ t) : ∀ q, q ∈ 77 :: k77.E → q ≠ t := by
  intro q hq
  rcases List.mem_cons.mp hq with rfl | h
  · exact ht
  · exact absurd (show q ∈ ([] : List Nat) from h) List.not_mem_nil
theorem own_far {W : World} {base g : Nat} {v : Value} {xs : List S77} {old cs : Array Value} (h : Ow W base v xs) (hg : W.heap[g]? = some (.cells old 103 (0, 0))) : Ow (W.setRow g cs) base v xs := by
  have h2 := Kd.R_types h hg (rows_only (by decide))
  exact Kd.R_mono (Kd.R_step h2 (fun k hk _ => setRow_other _ _ _ _ hk.2)) (fun _ _ => trivial)
set_option maxRecDepth 100000 in
set_option maxHeartbeats 8000000 in
theorem at_c (l : List S77) (A : Option Addr) (c : Nat) (level : Int) (w : World) (hr : Kd.C k77 w A l.length l) (hc : l.length ≤ c) (hf : Fine l) (i : Nat) (h1 : 1 ≤ i) (hi : i < l.length) (s : ByteArray) (hs : sepIs l level i s) :
    Calls Try.prog 93 #[.agg #[.slice A l.length c, .int .i64 level], .int .i64 i] w fun e w' => ∃ v, e = .returned (.tuple #[.agg #[.slice A i i, .int .i64 level], .agg #[v, .int .i64 level], .string s]) ∧ Ow w' w.heap.size v (bare level (l.drop i)) ∧ Below w.heap.size w w' := by
  obtain ⟨i77, hi77, hsz⟩ := info77'
  have hcutR := cut_from (P := Try.prog) 22 77 .i64 Try.underlying22 hi77 22 hsz A l.length c (i : Int) (by omega) (by omega)
  simp only [Int.toNat_natCast] at hcutR
  have hcutL := cut_cap A l.length c i (by omega) hc
  have hp := C_drop hr (show i ≤ l.length by omega) hc
  have hdl : (l.drop i).length = l.length - i := by simp
  rw [← hdl] at hp hcutR
  generalize (if c = i then A else A.map (·.add (i * 22))) = A1 at hcutR hp
  generalize c - i = c1 at hcutR
  have hdle : (l.drop i).length ≤ 1000000 := by have := hf.1; omega
  have hdpos : 0 < (l.drop i).length := by omega
  have hd0 : (l.drop i).getD 0 z77 = l.getD i z77 := by simp [List.getD]
  have HKI := Aside0.mk (fun (W : World) (hb : Below w.heap.size w W) (j : Nat) (hj : j < l.length) => elem_at (Kd.C_below hr hb) j hj)
  have HEK := Aside0.mk (fun (W : World) (hb : Below w.heap.size w W) => Kd.C_below hr hb)
  have HBL := Aside0.mk (fun (hl : level > 0) => bare_cons level hl (l.drop i) hdpos)
  have HBN := Aside0.mk (fun (hl : ¬ level > 0) => bare_no level (l.drop i) (fun h => hl h.1))
  have HS := Aside0.mk hs
  have HLI := Aside0.mk hi
  have HL1 := Aside0.mk h1
  obtain ⟨n, hnl⟩ : ∃ n, l.length = n := ⟨_, rfl⟩
  rw [hnl] at hcutR hcutL HKI HEK HLI ⊢
  have HNL := Aside0.mk hnl
  have hii : (i : Int) < (n : Int) := by omega
  have hi1 : (1 : Int) ≤ (i : Int) := by omega
  have hnle : (n : Int) ≤ 1000000 := by have := hf.1; omega
  have hB0 : Below w.heap.size w (((w.alloc (.cells #[.slice A n c, .int .i64 level] 103)).alloc (.cells #[.slice none 0 0, .int .i64 0] 103)).alloc (.cells #[.slice none 0 0, .int .i64 0] 103)) := below_alloc (below_alloc (below_alloc (Below.refl _ _) _) _) _
  have hG2 : (((w.alloc (.cells #[.slice A n c, .int .i64 level] 103)).alloc (.cells #[.slice none 0 0, .int .i64 0] 103)).alloc (.cells #[.slice none 0 0, .int .i64 0] 103)).heap[w.heap.size]? = some (.cells #[.slice A n c, .int .i64 level] 103 (0, 0)) := blk_alloc (blk_alloc (blk_new w _) _) _
  have hG4 : (((w.alloc (.cells #[.slice A n c, .int .i64 level] 103)).alloc (.cells #[.slice none 0 0, .int .i64 0] 103)).alloc (.cells #[.slice none 0 0, .int .i64 0] 103)).heap[w.heap.size + 1]? = some (.cells #[.slice none 0 0, .int .i64 0] 103 (0, 0)) := by
    have := blk_new (w.alloc (.cells #[.slice A n c, .int .i64 level] 103)) (.cells #[.slice none 0 0, .int .i64 0] 103)
    rw [World.size_alloc] at this
    exact blk_alloc this _
  have hG5 : (((w.alloc (.cells #[.slice A n c, .int .i64 level] 103)).alloc (.cells #[.slice none 0 0, .int .i64 0] 103)).alloc (.cells #[.slice none 0 0, .int .i64 0] 103)).heap[w.heap.size + 2]? = some (.cells #[.slice none 0 0, .int .i64 0] 103 (0, 0)) := by
    have := blk_new ((w.alloc (.cells #[.slice A n c, .int .i64 level] 103)).alloc (.cells #[.slice none 0 0, .int .i64 0] 103)) (.cells #[.slice none 0 0, .int .i64 0] 103)
    rw [World.size_alloc, World.size_alloc] at this
    exact this
  have hsz0 : (((w.alloc (.cells #[.slice A n c, .int .i64 level] 103)).alloc (.cells #[.slice none 0 0, .int .i64 0] 103)).alloc (.cells #[.slice none 0 0, .int .i64 0] 103)).heap.size = w.heap.size + 3 := by simp
  clear hr hc hf hi h1 hs hi77 hsz hnl
  go_enter Try.func93, Try.ntmps93
  go_wp2_with fail
  generalize ((w.alloc (.cells #[.slice A n c, .int .i64 level] 103)).alloc (.cells #[.slice none 0 0, .int .i64 0] 103)).alloc (.cells #[.slice none 0 0, .int .i64 0] 103) = W0 at hB0 hG2 hG4 hG5 hsz0 ⊢
  obtain ⟨g2, hg2⟩ : ∃ g2, w.heap.size = g2 := ⟨_, rfl⟩
  obtain ⟨g4, hg4⟩ : ∃ g4, g2 + 1 = g4 := ⟨_, rfl⟩
  obtain ⟨g5, hg5⟩ : ∃ g5, g4 + 1 = g5 := ⟨_, rfl⟩
  rw [hg2] at hG2
  rw [hg2, hg4] at hG4
  rw [show w.heap.size + 2 = g5 by omega] at hG5
  simp only [hg2]
  simp only [hg4]
  simp only [hg5]
  have h45 : ¬ g4 = g5 := by omega
  have h54 : ¬ g5 = g4 := by omega
  have h24 : ¬ g2 = g4 := by omega
  have h25 : ¬ g2 = g5 := by omega
  have HG4 := Aside0.mk (show w.heap.size ≤ g4 by omega)
  have HG5 := Aside0.mk (show w.heap.size ≤ g5 by omega)
  have HSZ := Aside0.mk hsz0
  have HG2 := Aside0.mk hg2
  have HCL := Aside0.mk (fun (W : World) (h : Kd.C k77 W A1 (l.drop i).length (l.drop i)) => clone_c (l.drop i) A1 c1 W h hdle)
  have HPD := Aside0.mk (fun (W : World) (hb : Below w.heap.size w W) => Kd.C_below hp hb)
  have HDP := Aside0.mk hdpos
  have HD0 := Aside0.mk hd0
  generalize hdd : l.drop i = d at HCL HPD HBL HBN HDP HD0 hcutR ⊢
  have HDD := Aside0.mk hdd
  clear hdd
  generalize hdn : d.length = dn at HCL HPD HDP hcutR
  have HDN := Aside0.mk hdn
  clear hg2 hg4 hg5 hsz0 hp hdl hdle hdpos hd0 hdn
  refine start_ (n := 18) (S := fun W => W.heap[g2]? = some (.cells #[.slice A n c, .int .i64 level] 103 (0, 0))) (ds := []) #[false, false, false, false, false, false, false, false, false, false, false, false, false, false, false, false, false, false] (by kernel_rfl) rfl rfl (blk_drew hG2) (fun hHeld => ?_)
  refine with_tabW rg93_1_tab rg93_1_bits (fun HT_ HW_ => ?_)
  have G2 := Aside0.mk (blk_drew hG2)
  have G4 := Aside0.mk (blk_drew hG4)
  have G5 := Aside0.mk (blk_drew hG5)
  have GW := Aside0.mk (below_drew1 hB0)
  clear hG2 hG4 hG5 hB0
  generalize W0.drew = w1 at G2 G4 G5 GW hHeld ⊢
  refine pure_ (i := 0) (N := some 8) (v := ?_) (a' := ?_) #[true, false, false, false, false, false, false, false, false, false, false, false, false, false, false, false, false, false] rfl rfl (any_of HT_.out (by kernel_rfl)) (fun _ _ _ h => h) (Or.inl ⟨by rfl, ?_⟩) ?_ ?_
  rotate_left
  · intro w'
    go_simp
    with_reducible rfl
  rotate_left
  · simp only [Act.put, List.setIfInBounds_toArray, List.set_cons_zero, List.set_cons_succ, i64_w, i32_w]
    rfl
  refine take_ (i := 1) (N := some 9) (v := ?_) (a' := ?_) #[true, true, false, false, false, false, false, false, false, false, false, false, false, false, false, false, false, false] rfl rfl (take_ofW HT_.out HW_.out (by kernel_rfl)) (fun _ _ _ h => h) (Or.inl ⟨by rfl, ?_⟩) hHeld ?_ ?_
  rotate_left
  · intro w' hW
    have q0 : w'.cell? ⟨g2, 0, none⟩ = some (.slice A n c) := by rw [blk_cell hW]; rfl
    have q1 : w'.cell? ⟨g2, 1, none⟩ = some (.int .i64 level) := by rw [blk_cell hW]; rfl
    go_simp
    with_reducible rfl
  rotate_left
  · simp only [Act.put, List.setIfInBounds_toArray, List.set_cons_zero, List.set_cons_succ, i64_w, i32_w]
    rfl
  refine pure_ (i := 2) (N := some 10) (v := ?_) (a' := ?_) #[true, true, true, false, false, false, false, false, false, false, false, false, false, false, false, false, false, false] rfl rfl (any_of HT_.out (by kernel_rfl)) (fun _ _ _ h => h) (Or.inl ⟨by rfl, ?_⟩) ?_ ?_
  rotate_left
  · intro w'
    go_simp
    with_reducible rfl
  rotate_left
  · simp only [Act.put, List.setIfInBounds_toArray, List.set_cons_zero, List.set_cons_succ, i64_w, i32_w]
    rfl
  refine pure_ (i := 3) (N := some 11) (v := ?_) (a' := ?_) #[true, true, true, true, false, false, false, false, false, false, false, false, false, false, false, false, false, false] rfl rfl (any_of HT_.out (by kernel_rfl)) (fun _ _ _ h => h) (Or.inl ⟨by rfl, ?_⟩) ?_ ?_
  rotate_left
  · intro w'
    go_simp
    with_reducible rfl
  rotate_left
  · simp only [Act.put, List.setIfInBounds_toArray, List.set_cons_zero, List.set_cons_succ, i64_w, i32_w]
    rfl
  refine pure_ (i := 4) (N := some 12) (v := ?_) (a' := ?_) #[true, true, true, true, true, false, false, false, false, false, false, false, false, false, false, false, false, false] rfl rfl (any_of HT_.out (by kernel_rfl)) (fun _ _ _ h => h) (Or.inl ⟨by rfl, ?_⟩) ?_ ?_
  rotate_left
  · intro w'
    go_simp
    with_reducible rfl
  rotate_left
  · simp only [Act.put, List.setIfInBounds_toArray, List.set_cons_zero, List.set_cons_succ, i64_w, i32_w]
    rfl
  refine pure_ (i := 5) (N := some 13) (v := ?_) (a' := ?_) #[true, true, true, true, true, true, false, false, false, false, false, false, false, false, false, false, false, false] rfl rfl (any_of HT_.out (by kernel_rfl)) (fun _ _ _ h => h) (Or.inl ⟨by rfl, ?_⟩) ?_ ?_
  rotate_left
  · intro w'
    go_simp
    with_reducible rfl
  rotate_left
  · simp only [Act.put, List.setIfInBounds_toArray, List.set_cons_zero, List.set_cons_succ, i64_w, i32_w]
    rfl
  refine take_ (i := 6) (N := some 14) (v := ?_) (a' := ?_) #[true, true, true, true, true, true, true, false, false, false, false, false, false, false, false, false, false, false] rfl rfl (take_ofW HT_.out HW_.out (by kernel_rfl)) (fun _ _ _ h => h) (Or.inl ⟨by rfl, ?_⟩) hHeld ?_ ?_
  rotate_left
  · intro w' hW
    have q0 : w'.cell? ⟨g2, 0, none⟩ = some (.slice A n c) := by rw [blk_cell hW]; rfl
    have q1 : w'.cell? ⟨g2, 1, none⟩ = some (.int .i64 level) := by rw [blk_cell hW]; rfl
    go_simp
    with_reducible rfl
  rotate_left
  · simp only [Act.put, List.setIfInBounds_toArray, List.set_cons_zero, List.set_cons_succ, i64_w, i32_w]
    rfl
  refine pure_ (i := 7) (N := some 15) (v := ?_) (a' := ?_) #[true, true, true, true, true, true, true, true, false, false, false, false, false, false, false, false, false, false] rfl rfl (any_of HT_.out (by kernel_rfl)) (fun _ _ _ h => h) (Or.inl ⟨by rfl, ?_⟩) ?_ ?_
  rotate_left
  · intro w'
    go_simp
    with_reducible rfl
  rotate_left
  · simp only [Act.put, List.setIfInBounds_toArray, List.set_cons_zero, List.set_cons_succ, i64_w, i32_w]
    rfl
  refine pure_ (i := 8) (N := some 16) (v := ?_) (a' := ?_) #[true, true, true, true, true, true, true, true, true, false, false, false, false, false, false, false, false, false] rfl rfl (any_of HT_.out (by kernel_rfl)) (fun _ _ _ h => h) (Or.inl ⟨by rfl, ?_⟩) ?_ ?_
  rotate_left
  · intro w'
    go_simp
    with_reducible rfl
  rotate_left
  · simp only [Act.put, List.setIfInBounds_toArray, List.set_cons_zero, List.set_cons_succ, i64_w, i32_w]
    rfl
  refine take_ (i := 9) (N := some 17) (v := ?_) (a' := ?_) #[true, true, true, true, true, true, true, true, true, true, false, false, false, false, false, false, false, false] rfl rfl (take_ofW HT_.out HW_.out (by kernel_rfl)) (fun _ _ _ h => h) (Or.inl ⟨by rfl, ?_⟩) hHeld ?_ ?_
  rotate_left
  · intro w' hW
    have q0 : w'.cell? ⟨g2, 0, none⟩ = some (.slice A n c) := by rw [blk_cell hW]; rfl
    have q1 : w'.cell? ⟨g2, 1, none⟩ = some (.int .i64 level) := by rw [blk_cell hW]; rfl
    go_simp
    with_reducible rfl
  rotate_left
  · simp only [Act.put, List.setIfInBounds_toArray, List.set_cons_zero, List.set_cons_succ, i64_w, i32_w]
    rfl
  refine pure_ (i := 10) (N := some 18) (v := ?_) (a' := ?_) #[true, true, true, true, true, true, true, true, true, true, true, false, false, false, false, false, false, false] rfl rfl (any_of HT_.out (by kernel_rfl)) (fun _ _ _ h => h) (Or.inl ⟨by rfl, ?_⟩) ?_ ?_
  rotate_left
  · intro w'
    go_simp
    with_reducible rfl
  rotate_left
  · simp only [Act.put, List.setIfInBounds_toArray, List.set_cons_zero, List.set_cons_succ, i64_w, i32_w]
    rfl
  refine pure_ (i := 11) (N := some 19) (v := ?_) (a' := ?_) #[true, true, true, true, true, true, true, true, true, true, true, true, false, false, false, false, false, false] rfl rfl (any_of HT_.out (by kernel_rfl)) (fun _ _ _ h => h) (Or.inl ⟨by rfl, ?_⟩) ?_ ?_
  rotate_left
  · intro w'
    go_simp
    with_reducible rfl
  rotate_left
  · simp only [Act.put, List.setIfInBounds_toArray, List.set_cons_zero, List.set_cons_succ, i64_w, i32_w]
    rfl
  refine pure_ (i := 13) (N := some 21) (v := ?_) (a' := ?_) #[true, true, true, true, true, true, true, true, true, true, true, true, false, true, false, false, false, false] rfl rfl (any_of HT_.out (by kernel_rfl)) (fun _ _ _ h => h) (Or.inl ⟨by rfl, ?_⟩) ?_ ?_
  rotate_left
  · intro w'
    go_simp
    with_reducible rfl
  rotate_left
  · simp only [Act.put, List.setIfInBounds_toArray, List.set_cons_zero, List.set_cons_succ, i64_w, i32_w]
    rfl
  refine take_ (i := 14) (N := some 22) (v := ?_) (a' := ?_) #[true, true, true, true, true, true, true, true, true, true, true, true, false, true, true, false, false, false] rfl rfl (take_ofW HT_.out HW_.out (by kernel_rfl)) (fun _ _ _ h => h) (Or.inl ⟨by rfl, ?_⟩) hHeld ?_ ?_
  rotate_left
  · intro w' hW
    have q0 : w'.cell? ⟨g2, 0, none⟩ = some (.slice A n c) := by rw [blk_cell hW]; rfl
    have q1 : w'.cell? ⟨g2, 1, none⟩ = some (.int .i64 level) := by rw [blk_cell hW]; rfl
    go_simp
    with_reducible rfl
  rotate_left
  · simp only [Act.put, List.setIfInBounds_toArray, List.set_cons_zero, List.set_cons_succ, i64_w, i32_w]
    rfl
  refine one_ (i := 12) (N := some 20) #[true, true, true, true, true, true, true, true, true, true, true, true, true, true, true, false, false, false] rfl rfl (one_of HT_.out (by kernel_rfl)) (by decide) (fun K hK => ?_)
  refine goes_ Try.func68 (by kernel_rfl) rfl #[.slice A1 dn c1] (by rfl) rfl rfl (by (try simp only [List.map_toArray, List.map_cons, List.map_nil]); first | done | rfl) ?_
  refine (HCL.out _ (HPD.out _ GW.out)).mono ?_
  rintro e w2 ⟨v, rfl, how, hb⟩
  refine ⟨_, rfl, ?_⟩
  obtain ⟨gr, c5, rfl, hgr1, hgr2⟩ := ow_addr how (by rw [HDN.out]; exact HDP.out)
  rw [HDN.out] at how
  have GR2 := Aside0.mk (Kd.R_lower how GW.out.size)
  have HGR := Aside0.mk (show w.heap.size ≤ gr from Nat.le_trans GW.out.size hgr1)
  have G22 := Aside0.mk (blk_below G2.out hb)
  have G42 := Aside0.mk (blk_below G4.out hb)
  have G52 := Aside0.mk (blk_below G5.out hb)
  have GW2 := Aside0.mk (GW.out.trans (hb.mono GW.out.size))
  clear hb how hgr1 hgr2 G2 G4 G5 GW
  (try rw [HDN.out])
  refine hK.out _ _ (G22.out) (fun hHeld => ?_)
  clear hK K
  refine norm_ (a' := ?_) ?_ ?_
  rotate_left
  · show Act.put _ (some 20) _ = _
    simp only [Act.put, List.setIfInBounds_toArray, List.set_cons_zero, List.set_cons_succ, i64_w, i32_w]
    rfl
  refine pure_ (i := 15) (N := some 23) (v := ?_) (a' := ?_) #[true, true, true, true, true, true, true, true, true, true, true, true, true, true, true, true, false, false] rfl rfl (any_of HT_.out (by kernel_rfl)) (fun _ _ _ h => h) (Or.inl ⟨by rfl, ?_⟩) ?_ ?_
  rotate_left
  · intro w'
    go_simp
    with_reducible rfl
  rotate_left
  · simp only [Act.put, List.setIfInBounds_toArray, List.set_cons_zero, List.set_cons_succ, i64_w, i32_w]
    rfl
  refine one_ (i := 16) (N := none) #[true, true, true, true, true, true, true, true, true, true, true, true, true, true, true, true, true, false] rfl rfl (one_of HT_.out (by kernel_rfl)) (by decide) (fun K hK => ?_)
  refine skip_ (w1 := w2.setRow g4 #[.slice A i i, .int .i64 level]) (by rfl) rfl (store_box _ _ (.tmp 4) (.tmp 15) rfl g4 rfl _ _ rfl _ G42.out rfl (cells2 _ _ _ _)) ?_
  have G23 := Aside0.mk ((setRow_other w2 g4 g2 #[.slice A i i, .int .i64 level] h24).trans G22.out)
  have G43 := Aside0.mk (setRow_heap w2 g4 _ #[.slice A i i, .int .i64 level] _ _ G42.out)
  have G53 := Aside0.mk ((setRow_other w2 g4 g5 #[.slice A i i, .int .i64 level] h54).trans G52.out)
  have GR3 := Aside0.mk (own_far GR2.out G42.out (cs := #[.slice A i i, .int .i64 level]))
  have GW3 := Aside0.mk (below_setRow GW2.out HG4.out #[.slice A i i, .int .i64 level])
  clear G22 G42 G52 GR2 GW2
  generalize w2.setRow g4 #[.slice A i i, .int .i64 level] = w3 at G23 G43 G53 GR3 GW3 ⊢
  refine hK.out _ _ G23.out (fun hHeld => ?_)
  clear hK K
  refine one_ (i := 17) (N := none) #[true, true, true, true, true, true, true, true, true, true, true, true, true, true, true, true, true, true] rfl rfl (one_of HT_.out (by kernel_rfl)) (by decide) (fun K hK => ?_)
  refine skip_ (w1 := w3.setRow g5 #[.slice (some ⟨gr, 0, none⟩) dn c5, .int .i64 level]) (by rfl) rfl (store_box _ _ (.tmp 5) (.tmp 23) rfl g5 rfl _ _ rfl _ G53.out rfl (cells2 _ _ _ _)) ?_
  have G2 := Aside0.mk ((setRow_other w3 g5 g2 #[.slice (some ⟨gr, 0, none⟩) dn c5, .int .i64 level] h25).trans G23.out)
  have G4 := Aside0.mk ((setRow_other w3 g5 g4 #[.slice (some ⟨gr, 0, none⟩) dn c5, .int .i64 level] h45).trans G43.out)
  have G5 := Aside0.mk (setRow_heap w3 g5 _ #[.slice (some ⟨gr, 0, none⟩) dn c5, .int .i64 level] _ _ G53.out)
  have GR0 := Aside0.mk (own_far GR3.out G53.out (cs := #[.slice (some ⟨gr, 0, none⟩) dn c5, .int .i64 level]))
  have GW0 := Aside0.mk (below_setRow GW3.out HG5.out #[.slice (some ⟨gr, 0, none⟩) dn c5, .int .i64 level])
  clear G23 G43 G53 GR3 GW3
  generalize w3.setRow g5 #[.slice (some ⟨gr, 0, none⟩) dn c5, .int .i64 level] = wy at G2 G4 G5 GR0 GW0 ⊢
  refine hK.out _ _ G2.out (fun hHeld => ?_)
  clear hK K
  refine done_ (done_of HT_.out (by kernel_rfl)) ?_
  by_cases hlv : level > 0
  · skip
    have HBL := Aside0.mk (HBL.out hlv)
    have HD0 := Aside0.mk HD0.out
    have k1 : decide (level > 0) = true := decide_eq_true hlv
    have k1' : decide (0 < level) = true := decide_eq_true hlv
    have hse : s = (l.getD i z77).f0 := by have := HS.out; unfold sepIs at this; rw [if_pos hlv] at this; exact this
    have HKC := Aside0.mk (show wy.drew.cell? ⟨gr, 0, none⟩ = some (.string s) by have h := (ow_key GR0.out 0 HDP.out ⟨#[]⟩).1; rw [Nat.zero_mul, HD0.out, ← hse] at h; exact h)
    have HNE4 := Aside0.mk (show g4 ≠ gr by obtain ⟨cs, hcs⟩ := Kd.R_typed GR0.out gr (by simp [Value.ownBlock]); exact blk_ne G4.out hcs (by decide))
    have HNE5 := Aside0.mk (show g5 ≠ gr by obtain ⟨cs, hcs⟩ := Kd.R_typed GR0.out gr (by simp [Value.ownBlock]); exact blk_ne G5.out hcs (by decide))
    have q21 : wy.cell? ⟨g2, 1, none⟩ = some (.int .i64 level) := by rw [blk_cell G2.out]; rfl
    have hdp : 0 < dn := HDP.out
    clear hlv hse G2 hHeld
    go_wp2_with fail
    refine start_ (n := 11) (S := fun W => W.heap[g5]? = some (.cells #[.slice (some ⟨gr, 0, none⟩) dn c5, .int .i64 level] 103 (0, 0)) ∧ W.cell? ⟨gr, 0, none⟩ = some (.string s)) (ds := [10]) #[false, false, false, false, false, false, false, false, false, false, false] (by kernel_rfl) rfl rfl (⟨blk_drew G5.out, HKC.out⟩) (fun hHeld => ?_)
    refine with_tabW rg93_3_tab rg93_3_bits (fun HT_ HW_ => ?_)
    have G48 := Aside0.mk (blk_drew G4.out)
    have G58 := Aside0.mk (blk_drew G5.out)
    have GR8 := Aside0.mk (Kd.R_drew GR0.out)
    have GW8 := Aside0.mk (below_drew1 GW0.out)
    clear G4 G5 GR0 GW0 HKC
    generalize wy.drew = w8 at G48 G58 GR8 GW8 hHeld ⊢
    refine pure_ (i := 0) (N := some 27) (v := ?_) (a' := ?_) #[true, false, false, false, false, false, false, false, false, false, false] rfl rfl (any_of HT_.out (by kernel_rfl)) (fun _ _ _ h => h) (Or.inl ⟨by rfl, ?_⟩) ?_ ?_
    rotate_left
    · intro w'
      go_simp
      with_reducible rfl
    rotate_left
    · simp only [Act.put, List.setIfInBounds_toArray, List.set_cons_zero, List.set_cons_succ, i64_w, i32_w]
      rfl
    refine take_ (i := 1) (N := some 28) (v := ?_) (a' := ?_) #[true, true, false, false, false, false, false, false, false, false, false] rfl rfl (take_ofW HT_.out HW_.out (by kernel_rfl)) (fun _ _ _ h => h) (Or.inl ⟨by rfl, ?_⟩) hHeld ?_ ?_
    rotate_left
    · intro w' hW
      have q0 : w'.cell? ⟨g5, 0, none⟩ = some (.slice (some ⟨gr, 0, none⟩) dn c5) := by rw [blk_cell hW.1]; rfl
      have q1 := hW.2
      go_simp
      with_reducible rfl
    rotate_left
    · simp only [Act.put, List.setIfInBounds_toArray, List.set_cons_zero, List.set_cons_succ, i64_w, i32_w]
      rfl
    refine pure_ (i := 2) (N := some 29) (v := ?_) (a' := ?_) #[true, true, true, false, false, false, false, false, false, false, false] rfl rfl (any_of HT_.out (by kernel_rfl)) (fun _ _ _ h => h) (Or.inl ⟨by rfl, ?_⟩) ?_ ?_
    rotate_left
    · intro w'
      go_simp
      with_reducible rfl
    rotate_left
    · simp only [Act.put, List.setIfInBounds_toArray, List.set_cons_zero, List.set_cons_succ, i64_w, i32_w]
      rfl
    refine take_ (i := 3) (N := some 30) (v := ?_) (a' := ?_) #[true, true, true, true, false, false, false, false, false, false, false] rfl rfl (take_ofW HT_.out HW_.out (by kernel_rfl)) (fun _ _ _ h => h) (Or.inl ⟨by rfl, ?_⟩) hHeld ?_ ?_
    rotate_left
    · intro w' hW
      have q0 : w'.cell? ⟨g5, 0, none⟩ = some (.slice (some ⟨gr, 0, none⟩) dn c5) := by rw [blk_cell hW.1]; rfl
      have q1 := hW.2
      go_simp
      with_reducible rfl
    rotate_left
    · simp only [Act.put, List.setIfInBounds_toArray, List.set_cons_zero, List.set_cons_succ, i64_w, i32_w]
      rfl
    refine pure_ (i := 4) (N := some 31) (v := ?_) (a' := ?_) #[true, true, true, true, true, false, false, false, false, false, false] rfl rfl (any_of HT_.out (by kernel_rfl)) (fun _ _ _ h => h) (Or.inl ⟨by rfl, ?_⟩) ?_ ?_
    rotate_left
    · intro w'
      go_simp
      with_reducible rfl
    rotate_left
    · simp only [Act.put, List.setIfInBounds_toArray, List.set_cons_zero, List.set_cons_succ, i64_w, i32_w]
      rfl
    refine pure_ (i := 5) (N := some 32) (v := ?_) (a' := ?_) #[true, true, true, true, true, true, false, false, false, false, false] rfl rfl (any_of HT_.out (by kernel_rfl)) (fun _ _ _ h => h) (Or.inl ⟨by rfl, ?_⟩) ?_ ?_
    rotate_left
    · intro w'
      go_simp
      with_reducible rfl
    rotate_left
    · simp only [Act.put, List.setIfInBounds_toArray, List.set_cons_zero, List.set_cons_succ, i64_w, i32_w]
      rfl
    refine take_ (i := 6) (N := some 33) (v := ?_) (a' := ?_) #[true, true, true, true, true, true, true, false, false, false, false] rfl rfl (take_ofW HT_.out HW_.out (by kernel_rfl)) (fun _ _ _ h => h) (Or.inl ⟨by rfl, ?_⟩) hHeld ?_ ?_
    rotate_left
    · intro w' hW
      have q0 : w'.cell? ⟨g5, 0, none⟩ = some (.slice (some ⟨gr, 0, none⟩) dn c5) := by rw [blk_cell hW.1]; rfl
      have q1 := hW.2
      go_simp
      with_reducible rfl
    rotate_left
    · simp only [Act.put, List.setIfInBounds_toArray, List.set_cons_zero, List.set_cons_succ, i64_w, i32_w]
      rfl
    refine pure_ (i := 7) (N := some 6) (v := ?_) (a' := ?_) #[true, true, true, true, true, true, true, true, false, false, false] rfl rfl (any_of HT_.out (by kernel_rfl)) (fun _ _ _ h => h) (Or.inl ⟨by rfl, ?_⟩) ?_ ?_
    rotate_left
    · intro w'
      go_simp
      with_reducible rfl
    rotate_left
    · simp only [Act.put, List.setIfInBounds_toArray, List.set_cons_zero, List.set_cons_succ, i64_w, i32_w]
      rfl
    refine pure_ (i := 8) (N := some 34) (v := ?_) (a' := ?_) #[true, true, true, true, true, true, true, true, true, false, false] rfl rfl (any_of HT_.out (by kernel_rfl)) (fun _ _ _ h => h) (Or.inl ⟨by rfl, ?_⟩) ?_ ?_
    rotate_left
    · intro w'
      go_simp
      with_reducible rfl
    rotate_left
    · simp only [Act.put, List.setIfInBounds_toArray, List.set_cons_zero, List.set_cons_succ, i64_w, i32_w]
      rfl
    refine pure_ (i := 9) (N := some 35) (v := ?_) (a' := ?_) #[true, true, true, true, true, true, true, true, true, true, false] rfl rfl (any_of HT_.out (by kernel_rfl)) (fun _ _ _ h => h) (Or.inl ⟨by rfl, ?_⟩) ?_ ?_
    rotate_left
    · intro w'
      go_simp
      with_reducible rfl
    rotate_left
    · simp only [Act.put, List.setIfInBounds_toArray, List.set_cons_zero, List.set_cons_succ, i64_w, i32_w]
      rfl
    refine last_ (i := 10) (N := none) #[true, true, true, true, true, true, true, true, true, true, true] rfl rfl (one_of HT_.out (by kernel_rfl)) (by decide) (fun K hK => ?_)
    have hk0 := ow_key GR8.out 0 HDP.out ⟨#[]⟩
    rw [Nat.zero_mul, ← HBL.out] at hk0
    obtain ⟨hk1, hk2, hk3⟩ := hk0
    refine skip_ (w1 := w8.setCell ⟨gr, 0, none⟩ (.string ⟨#[]⟩)) (by rfl) rfl (by go_simp; first | done | rfl) ?_
    have G4b := Aside0.mk (blk_far G48.out (p := ⟨gr, 0, none⟩) HNE4.out (.string ⟨#[]⟩))
    have G5b := Aside0.mk (blk_far G58.out (p := ⟨gr, 0, none⟩) HNE5.out (.string ⟨#[]⟩))
    have GRb := Aside0.mk hk3
    have GWb := Aside0.mk (GW8.out.setCell (p := ⟨gr, 0, none⟩) HGR.out (.string ⟨#[]⟩))
    clear hk1 hk2 hk3 G48 G58 GR8 GW8
    generalize w8.setCell ⟨gr, 0, none⟩ (.string ⟨#[]⟩) = wz at G4b G5b GRb GWb ⊢
    refine hK.out _ _ ?_
    clear hK K
    refine done_ (done_of HT_.out (by kernel_rfl)) ?_
    go_wp2_with fail
    have G4 := G4b
    have G5 := G5b
    have GR := GRb
    have GW := GWb
    clear G4b G5b GRb GWb
    refine start_ (n := 6) (S := fun W => W.heap[g4]? = some (.cells #[.slice A i i, .int .i64 level] 103 (0, 0)) ∧ W.heap[g5]? = some (.cells #[.slice (some ⟨gr, 0, none⟩) dn c5, .int .i64 level] 103 (0, 0))) (ds := []) #[false, false, false, false, false, false] (by kernel_rfl) rfl rfl (⟨blk_drew G4.out, blk_drew G5.out⟩) (fun hHeld => ?_)
    refine with_tabW rg93_4_tab rg93_4_bits (fun HT_ HW_ => ?_)
    have GR8 := Aside0.mk (Kd.R_drew GR.out)
    have GW8 := Aside0.mk (below_drew1 GW.out)
    clear G4 G5 GR GW
    generalize wz.drew = w8 at GR8 GW8 hHeld ⊢
    refine take_ (i := 0) (N := some 36) (v := ?_) (a' := ?_) #[true, false, false, false, false, false] rfl rfl (take_ofW HT_.out HW_.out (by kernel_rfl)) (fun _ _ _ h => h) (Or.inl ⟨by rfl, ?_⟩) hHeld ?_ ?_
    rotate_left
    · intro w' hW
      refine load_box _ _ (.tmp 4) ?_ g4 ?_ _ _ hW.1 <;> rfl
    rotate_left
    · simp only [Act.put, List.setIfInBounds_toArray, List.set_cons_zero, List.set_cons_succ, i64_w, i32_w]
      rfl
    refine take_ (i := 1) (N := some 37) (v := ?_) (a' := ?_) #[true, true, false, false, false, false] rfl rfl (take_ofW HT_.out HW_.out (by kernel_rfl)) (fun _ _ _ h => h) (Or.inl ⟨by rfl, ?_⟩) hHeld ?_ ?_
    rotate_left
    · intro w' hW
      refine load_box _ _ (.tmp 5) ?_ g5 ?_ _ _ hW.2 <;> rfl
    rotate_left
    · simp only [Act.put, List.setIfInBounds_toArray, List.set_cons_zero, List.set_cons_succ, i64_w, i32_w]
      rfl
    refine pure_ (i := 2) (N := some 38) (v := ?_) (a' := ?_) #[true, true, true, false, false, false] rfl rfl (any_of HT_.out (by kernel_rfl)) (fun _ _ _ h => h) (Or.inl ⟨by rfl, ?_⟩) ?_ ?_
    rotate_left
    · intro w'
      go_simp
      with_reducible rfl
    rotate_left
    · simp only [Act.put, List.setIfInBounds_toArray, List.set_cons_zero, List.set_cons_succ, i64_w, i32_w]
      rfl
    refine one_ (i := 3) (N := none) #[true, true, true, true, false, false] rfl rfl (one_of HT_.out (by kernel_rfl)) (by decide) (fun K hK => ?_)
    refine skip_ (w1 := w8.setRow g4 #[.slice A i i, .int .i64 level]) (by rfl) rfl (store_box _ _ (.tmp 4) (.tmp 36) rfl g4 rfl _ _ rfl _ hHeld.1 rfl (cells2 _ _ _ _)) ?_
    have hS9 : (w8.setRow g4 #[.slice A i i, .int .i64 level]).heap[g4]? = some (.cells #[.slice A i i, .int .i64 level] 103 (0, 0)) ∧ (w8.setRow g4 #[.slice A i i, .int .i64 level]).heap[g5]? = some (.cells #[.slice (some ⟨gr, 0, none⟩) dn c5, .int .i64 level] 103 (0, 0)) := ⟨setRow_heap _ _ _ _ _ _ hHeld.1, (setRow_other _ _ _ _ h54).trans hHeld.2⟩
    have GR9 := Aside0.mk (own_far GR8.out hHeld.1 (cs := #[.slice A i i, .int .i64 level]))
    have GW9 := Aside0.mk (below_setRow GW8.out HG4.out #[.slice A i i, .int .i64 level])
    clear GR8 GW8
    generalize w8.setRow g4 #[.slice A i i, .int .i64 level] = w9 at hS9 GR9 GW9 ⊢
    refine hK.out _ _ hS9 (fun hHeld => ?_)
    clear hS9
    clear hK K
    refine one_ (i := 4) (N := none) #[true, true, true, true, true, false] rfl rfl (one_of HT_.out (by kernel_rfl)) (by decide) (fun K hK => ?_)
    refine skip_ (w1 := w9.setRow g5 #[.slice (some ⟨gr, 0, none⟩) dn c5, .int .i64 level]) (by rfl) rfl (store_box _ _ (.tmp 5) (.tmp 37) rfl g5 rfl _ _ rfl _ hHeld.2 rfl (cells2 _ _ _ _)) ?_
    have hS9 : (w9.setRow g5 #[.slice (some ⟨gr, 0, none⟩) dn c5, .int .i64 level]).heap[g4]? = some (.cells #[.slice A i i, .int .i64 level] 103 (0, 0)) ∧ (w9.setRow g5 #[.slice (some ⟨gr, 0, none⟩) dn c5, .int .i64 level]).heap[g5]? = some (.cells #[.slice (some ⟨gr, 0, none⟩) dn c5, .int .i64 level] 103 (0, 0)) := ⟨(setRow_other _ _ _ _ h45).trans hHeld.1, setRow_heap _ _ _ _ _ _ hHeld.2⟩
    have GR10 := Aside0.mk (own_far GR9.out hHeld.2 (cs := #[.slice (some ⟨gr, 0, none⟩) dn c5, .int .i64 level]))
    have GW10 := Aside0.mk (below_setRow GW9.out HG5.out #[.slice (some ⟨gr, 0, none⟩) dn c5, .int .i64 level])
    clear GR9 GW9
    generalize w9.setRow g5 #[.slice (some ⟨gr, 0, none⟩) dn c5, .int .i64 level] = w10 at hS9 GR10 GW10 ⊢
    refine hK.out _ _ hS9 (fun hHeld => ?_)
    clear hS9
    clear hK K
    refine pure_ (i := 5) (N := some 6) (v := ?_) (a' := ?_) #[true, true, true, true, true, true] rfl rfl (any_of HT_.out (by kernel_rfl)) (fun _ _ _ h => h) (Or.inl ⟨by rfl, ?_⟩) ?_ ?_
    rotate_left
    · intro w'
      go_simp
      with_reducible rfl
    rotate_left
    · simp only [Act.put, List.setIfInBounds_toArray, List.set_cons_zero, List.set_cons_succ, i64_w, i32_w]
      rfl
    refine done_ (done_of HT_.out (by kernel_rfl)) ?_
    try go_wp2
    have q40 : w10.cell? ⟨g4, 0, none⟩ = some (.slice A i i) := by rw [blk_cell hHeld.1]; rfl
    have q41 : w10.cell? ⟨g4, 1, none⟩ = some (.int .i64 level) := by rw [blk_cell hHeld.1]; rfl
    have q50 : w10.cell? ⟨g5, 0, none⟩ = some (.slice (some ⟨gr, 0, none⟩) dn c5) := by rw [blk_cell hHeld.2]; rfl
    have q51 : w10.cell? ⟨g5, 1, none⟩ = some (.int .i64 level) := by rw [blk_cell hHeld.2]; rfl
    exact bodyPost_ret (v := .tuple #[.agg #[.slice A i i, .int .i64 level], .agg #[.slice (some ⟨gr, 0, none⟩) dn c5, .int .i64 level], .string s]) (by simp [results, Try.results93, go_sem, q40, q41, q50, q51]) rfl ⟨_, rfl, by rw [HDD.out]; exact GR10.out, GW10.out⟩
  · skip
    have HBN := Aside0.mk (HBN.out (by omega))
    rw [← HBN.out] at GR0
    have k1 : decide (level > 0) = false := decide_eq_false hlv
    have k1' : decide (0 < level) = false := decide_eq_false hlv
    obtain ⟨ks, hks⟩ : ∃ k, node_Separator.f k (l.getD (i - 1) z77).f0 (l.getD i z77).f0 = some (s, 0) := by have := HS.out; unfold sepIs at this; rw [if_neg hlv] at this; exact this
    obtain ⟨p, hp⟩ : ∃ p, i = p + 1 := ⟨i - 1, by omega⟩
    have hw1 : IntKind.i64.wrap ((i : Int) - 1) = (p : Int) := by rw [i64w _ (by omega) (by omega)]; omega
    have hw2 : wrap64 ((i : Int) - 1) = (p : Int) := by rw [w64 _ (by omega) (by omega)]; omega
    have hp0 : (0 : Int) ≤ (p : Int) := by omega
    have hp1 : (p : Int) < (n : Int) := by omega
    have hi0 : (0 : Int) ≤ (i : Int) := by omega
    rw [show i - 1 = p by omega] at hks
    obtain ⟨ad, rfl, _⟩ := HKI.out wy GW0.out i HLI.out
    have HCa := Aside0.mk (fun (W : World) (hb : Below w.heap.size w W) => prev_key (HEK.out W hb) p (by have := HLI.out; omega))
    have HCb := Aside0.mk (fun (W : World) (hb : Below w.heap.size w W) => prev_key (HEK.out W hb) i HLI.out)
    generalize (l.getD p z77).f0 = ka at hks HCa
    generalize (l.getD i z77).f0 = kb at hks HCb
    have HKS := Aside0.mk hks
    have q21 : wy.cell? ⟨g2, 1, none⟩ = some (.int .i64 level) := by rw [blk_cell G2.out]; rfl
    clear hlv hks hp hHeld HKI HEK
    go_wp2_with fail
    refine start_ (n := 19) (S := fun W => W.heap[g2]? = some (.cells #[.slice (some ad) n c, .int .i64 level] 103 (0, 0)) ∧ Below w.heap.size w W) (ds := []) #[false, false, false, false, false, false, false, false, false, false, false, false, false, false, false, false, false, false, false] (by kernel_rfl) rfl rfl (⟨blk_drew G2.out, below_drew1 GW0.out⟩) (fun hHeld => ?_)
    refine with_tabW rg93_5_tab rg93_5_bits (fun HT_ HW_ => ?_)
    have G28 := Aside0.mk (blk_drew G2.out)
    have G48 := Aside0.mk (blk_drew G4.out)
    have G58 := Aside0.mk (blk_drew G5.out)
    have GR8 := Aside0.mk (Kd.R_drew GR0.out)
    have GW8 := Aside0.mk (below_drew1 GW0.out)
    clear G2 G4 G5 GR0 GW0
    generalize wy.drew = w8 at G28 G48 G58 GR8 GW8 hHeld ⊢
    refine pure_ (i := 0) (N := some 40) (v := ?_) (a' := ?_) #[true, false, false, false, false, false, false, false, false, false, false, false, false, false, false, false, false, false, false] rfl rfl (any_of HT_.out (by kernel_rfl)) (fun _ _ _ h => h) (Or.inl ⟨by rfl, ?_⟩) ?_ ?_
    rotate_left
    · intro w'
      go_simp
      with_reducible rfl
    rotate_left
    · simp only [Act.put, List.setIfInBounds_toArray, List.set_cons_zero, List.set_cons_succ, i64_w, i32_w]
      rfl
    refine take_ (i := 1) (N := some 41) (v := ?_) (a' := ?_) #[true, true, false, false, false, false, false, false, false, false, false, false, false, false, false, false, false, false, false] rfl rfl (take_ofW HT_.out HW_.out (by kernel_rfl)) (fun _ _ _ h => h) (Or.inl ⟨by rfl, ?_⟩) hHeld ?_ ?_
    rotate_left
    · intro w' hW
      have q0 : w'.cell? ⟨g2, 0, none⟩ = some (.slice (some ad) n c) := by rw [blk_cell hW.1]; rfl
      have q1 := HCa.out w' hW.2
      have q2 := HCb.out w' hW.2
      go_simp
      with_reducible rfl
    rotate_left
    · simp only [Act.put, List.setIfInBounds_toArray, List.set_cons_zero, List.set_cons_succ, i64_w, i32_w]
      rfl
    refine pure_ (i := 2) (N := some 42) (v := ?_) (a' := ?_) #[true, true, true, false, false, false, false, false, false, false, false, false, false, false, false, false, false, false, false] rfl rfl (any_of HT_.out (by kernel_rfl)) (fun _ _ _ h => h) (Or.inl ⟨by rfl, ?_⟩) ?_ ?_
    rotate_left
    · intro w'
      go_simp
      with_reducible rfl
    rotate_left
    · simp only [Act.put, List.setIfInBounds_toArray, List.set_cons_zero, List.set_cons_succ, i64_w, i32_w]
      rfl
    refine pure_ (i := 3) (N := some 43) (v := ?_) (a' := ?_) #[true, true, true, true, false, false, false, false, false, false, false, false, false, false, false, false, false, false, false] rfl rfl (any_of HT_.out (by kernel_rfl)) (fun _ _ _ h => h) (Or.inl ⟨by rfl, ?_⟩) ?_ ?_
    rotate_left
    · intro w'
      go_simp
      with_reducible rfl
    rotate_left
    · simp only [Act.put, List.setIfInBounds_toArray, List.set_cons_zero, List.set_cons_succ, i64_w, i32_w]
      rfl
    refine pure_ (i := 4) (N := some 44) (v := ?_) (a' := ?_) #[true, true, true, true, true, false, false, false, false, false, false, false, false, false, false, false, false, false, false] rfl rfl (any_of HT_.out (by kernel_rfl)) (fun _ _ _ h => h) (Or.inl ⟨by rfl, ?_⟩) ?_ ?_
    rotate_left
    · intro w'
      go_simp
      with_reducible rfl
    rotate_left
    · simp only [Act.put, List.setIfInBounds_toArray, List.set_cons_zero, List.set_cons_succ, i64_w, i32_w]
      rfl
    refine pure_ (i := 5) (N := some 45) (v := ?_) (a' := ?_) #[true, true, true, true, true, true, false, false, false, false, false, false, false, false, false, false, false, false, false] rfl rfl (any_of HT_.out (by kernel_rfl)) (fun _ _ _ h => h) (Or.inl ⟨by rfl, ?_⟩) ?_ ?_
    rotate_left
    · intro w'
      go_simp
      with_reducible rfl
    rotate_left
    · simp only [Act.put, List.setIfInBounds_toArray, List.set_cons_zero, List.set_cons_succ, i64_w, i32_w]
      rfl
    refine take_ (i := 6) (N := some 46) (v := ?_) (a' := ?_) #[true, true, true, true, true, true, true, false, false, false, false, false, false, false, false, false, false, false, false] rfl rfl (take_ofW HT_.out HW_.out (by kernel_rfl)) (fun _ _ _ h => h) (Or.inl ⟨by rfl, ?_⟩) hHeld ?_ ?_
    rotate_left
    · intro w' hW
      have q0 : w'.cell? ⟨g2, 0, none⟩ = some (.slice (some ad) n c) := by rw [blk_cell hW.1]; rfl
      have q1 := HCa.out w' hW.2
      have q2 := HCb.out w' hW.2
      go_simp
      with_reducible rfl
    rotate_left
    · simp only [Act.put, List.setIfInBounds_toArray, List.set_cons_zero, List.set_cons_succ, i64_w, i32_w]
      rfl
    refine pure_ (i := 7) (N := some 47) (v := ?_) (a' := ?_) #[true, true, true, true, true, true, true, true, false, false, false, false, false, false, false, false, false, false, false] rfl rfl (any_of HT_.out (by kernel_rfl)) (fun _ _ _ h => h) (Or.inl ⟨by rfl, ?_⟩) ?_ ?_
    rotate_left
    · intro w'
      go_simp
      with_reducible rfl
    rotate_left
    · simp only [Act.put, List.setIfInBounds_toArray, List.set_cons_zero, List.set_cons_succ, i64_w, i32_w]
      rfl
    refine take_ (i := 8) (N := some 48) (v := ?_) (a' := ?_) #[true, true, true, true, true, true, true, true, true, false, false, false, false, false, false, false, false, false, false] rfl rfl (take_ofW HT_.out HW_.out (by kernel_rfl)) (fun _ _ _ h => h) (Or.inl ⟨by rfl, ?_⟩) hHeld ?_ ?_
    rotate_left
    · intro w' hW
      have q0 : w'.cell? ⟨g2, 0, none⟩ = some (.slice (some ad) n c) := by rw [blk_cell hW.1]; rfl
      have q1 := HCa.out w' hW.2
      have q2 := HCb.out w' hW.2
      go_simp
      with_reducible rfl
    rotate_left
    · simp only [Act.put, List.setIfInBounds_toArray, List.set_cons_zero, List.set_cons_succ, i64_w, i32_w]
      rfl
    refine pure_ (i := 9) (N := some 49) (v := ?_) (a' := ?_) #[true, true, true, true, true, true, true, true, true, true, false, false, false, false, false, false, false, false, false] rfl rfl (any_of HT_.out (by kernel_rfl)) (fun _ _ _ h => h) (Or.inl ⟨by rfl, ?_⟩) ?_ ?_
    rotate_left
    · intro w'
      go_simp
      with_reducible rfl
    rotate_left
    · simp only [Act.put, List.setIfInBounds_toArray, List.set_cons_zero, List.set_cons_succ, i64_w, i32_w]
      rfl
    refine pure_ (i := 10) (N := some 50) (v := ?_) (a' := ?_) #[true, true, true, true, true, true, true, true, true, true, true, false, false, false, false, false, false, false, false] rfl rfl (any_of HT_.out (by kernel_rfl)) (fun _ _ _ h => h) (Or.inl ⟨by rfl, ?_⟩) ?_ ?_
    rotate_left
    · intro w'
      go_simp
      with_reducible rfl
    rotate_left
    · simp only [Act.put, List.setIfInBounds_toArray, List.set_cons_zero, List.set_cons_succ, i64_w, i32_w]
      rfl
    refine pure_ (i := 11) (N := some 51) (v := ?_) (a' := ?_) #[true, true, true, true, true, true, true, true, true, true, true, true, false, false, false, false, false, false, false] rfl rfl (any_of HT_.out (by kernel_rfl)) (fun _ _ _ h => h) (Or.inl ⟨by rfl, ?_⟩) ?_ ?_
    rotate_left
    · intro w'
      go_simp
      with_reducible rfl
    rotate_left
    · simp only [Act.put, List.setIfInBounds_toArray, List.set_cons_zero, List.set_cons_succ, i64_w, i32_w]
      rfl
    refine take_ (i := 12) (N := some 52) (v := ?_) (a' := ?_) #[true, true, true, true, true, true, true, true, true, true, true, true, true, false, false, false, false, false, false] rfl rfl (take_ofW HT_.out HW_.out (by kernel_rfl)) (fun _ _ _ h => h) (Or.inl ⟨by rfl, ?_⟩) hHeld ?_ ?_
    rotate_left
    · intro w' hW
      have q0 : w'.cell? ⟨g2, 0, none⟩ = some (.slice (some ad) n c) := by rw [blk_cell hW.1]; rfl
      have q1 := HCa.out w' hW.2
      have q2 := HCb.out w' hW.2
      go_simp
      with_reducible rfl
    rotate_left
    · simp only [Act.put, List.setIfInBounds_toArray, List.set_cons_zero, List.set_cons_succ, i64_w, i32_w]
      rfl
    refine one_ (i := 13) (N := some 53) #[true, true, true, true, true, true, true, true, true, true, true, true, true, true, false, false, false, false, false] rfl rfl (one_of HT_.out (by kernel_rfl)) (by decide) (fun K hK => ?_)
    refine goes_ Try.func40 (by kernel_rfl) rfl #[.string ka, .string kb] (by rfl) rfl rfl (by (try simp only [List.map_toArray, List.map_cons, List.map_nil]); first | done | rfl) ?_
    refine (node_Separator.calls ks ka kb s 0 _ HKS.out).mono ?_
    rintro e wq ⟨rfl, hb⟩
    refine ⟨_, rfl, ?_⟩
    have G2b := Aside0.mk (blk_below G28.out hb)
    have G4b := Aside0.mk (blk_below G48.out hb)
    have G5b := Aside0.mk (blk_below G58.out hb)
    have GRb := Aside0.mk (Kd.R_below GR8.out hb)
    have GWb := Aside0.mk (GW8.out.trans (hb.mono GW8.out.size))
    clear hb G28 G48 G58 GR8 GW8
    refine hK.out _ _ (⟨G2b.out, GWb.out⟩) (fun hHeld => ?_)
    clear hK K
    refine norm_ (a' := ?_) ?_ ?_
    rotate_left
    · show Act.put _ (some 53) _ = _
      simp only [Act.put, List.setIfInBounds_toArray, List.set_cons_zero, List.set_cons_succ, i64_w, i32_w]
      rfl
    refine pure_ (i := 14) (N := some 39) (v := ?_) (a' := ?_) #[true, true, true, true, true, true, true, true, true, true, true, true, true, true, true, false, false, false, false] rfl rfl (any_of HT_.out (by kernel_rfl)) (fun _ _ _ h => h) (Or.inl ⟨by rfl, ?_⟩) ?_ ?_
    rotate_left
    · intro w'
      go_simp
      with_reducible rfl
    rotate_left
    · simp only [Act.put, List.setIfInBounds_toArray, List.set_cons_zero, List.set_cons_succ, i64_w, i32_w]
      rfl
    refine pure_ (i := 15) (N := some 54) (v := ?_) (a' := ?_) #[true, true, true, true, true, true, true, true, true, true, true, true, true, true, true, true, false, false, false] rfl rfl (any_of HT_.out (by kernel_rfl)) (fun _ _ _ h => h) (Or.inl ⟨by rfl, ?_⟩) ?_ ?_
    rotate_left
    · intro w'
      go_simp
      with_reducible rfl
    rotate_left
    · simp only [Act.put, List.setIfInBounds_toArray, List.set_cons_zero, List.set_cons_succ, i64_w, i32_w]
      rfl
    refine pure_ (i := 16) (N := some 55) (v := ?_) (a' := ?_) #[true, true, true, true, true, true, true, true, true, true, true, true, true, true, true, true, true, false, false] rfl rfl (any_of HT_.out (by kernel_rfl)) (fun _ _ _ h => h) (Or.inl ⟨by rfl, ?_⟩) ?_ ?_
    rotate_left
    · intro w'
      go_simp
      with_reducible rfl
    rotate_left
    · simp only [Act.put, List.setIfInBounds_toArray, List.set_cons_zero, List.set_cons_succ, i64_w, i32_w]
      rfl
    refine pure_ (i := 17) (N := some 6) (v := ?_) (a' := ?_) #[true, true, true, true, true, true, true, true, true, true, true, true, true, true, true, true, true, true, false] rfl rfl (any_of HT_.out (by kernel_rfl)) (fun _ _ _ h => h) (Or.inl ⟨by rfl, ?_⟩) ?_ ?_
    rotate_left
    · intro w'
      go_simp
      with_reducible rfl
    rotate_left
    · simp only [Act.put, List.setIfInBounds_toArray, List.set_cons_zero, List.set_cons_succ, i64_w, i32_w]
      rfl
    refine pure_ (i := 18) (N := some 7) (v := ?_) (a' := ?_) #[true, true, true, true, true, true, true, true, true, true, true, true, true, true, true, true, true, true, true] rfl rfl (any_of HT_.out (by kernel_rfl)) (fun _ _ _ h => h) (Or.inl ⟨by rfl, ?_⟩) ?_ ?_
    rotate_left
    · intro w'
      go_simp
      with_reducible rfl
    rotate_left
    · simp only [Act.put, List.setIfInBounds_toArray, List.set_cons_zero, List.set_cons_succ, i64_w, i32_w]
      rfl
    refine done_ (done_of HT_.out (by kernel_rfl)) ?_
    go_wp2_with (go_at_call 67; refine (must_yes _ _).mono ?_; rintro e w4 ⟨rfl, rfl⟩)
    have G4 := G4b
    have G5 := G5b
    have GR := GRb
    have GW := GWb
    clear G2b G4b G5b GRb GWb
    refine start_ (n := 6) (S := fun W => W.heap[g4]? = some (.cells #[.slice (some ad) i i, .int .i64 level] 103 (0, 0)) ∧ W.heap[g5]? = some (.cells #[.slice (some ⟨gr, 0, none⟩) dn c5, .int .i64 level] 103 (0, 0))) (ds := []) #[false, false, false, false, false, false] (by kernel_rfl) rfl rfl (⟨blk_drew G4.out, blk_drew G5.out⟩) (fun hHeld => ?_)
    refine with_tabW rg93_7_tab rg93_7_bits (fun HT_ HW_ => ?_)
    have GR8 := Aside0.mk (Kd.R_drew GR.out)
    have GW8 := Aside0.mk (below_drew1 GW.out)
    clear G4 G5 GR GW
    generalize w4.drew = w8 at GR8 GW8 hHeld ⊢
    refine take_ (i := 0) (N := some 60) (v := ?_) (a' := ?_) #[true, false, false, false, false, false] rfl rfl (take_ofW HT_.out HW_.out (by kernel_rfl)) (fun _ _ _ h => h) (Or.inl ⟨by rfl, ?_⟩) hHeld ?_ ?_
    rotate_left
    · intro w' hW
      refine load_box _ _ (.tmp 4) ?_ g4 ?_ _ _ hW.1 <;> rfl
    rotate_left
    · simp only [Act.put, List.setIfInBounds_toArray, List.set_cons_zero, List.set_cons_succ, i64_w, i32_w]
      rfl
    refine take_ (i := 1) (N := some 61) (v := ?_) (a' := ?_) #[true, true, false, false, false, false] rfl rfl (take_ofW HT_.out HW_.out (by kernel_rfl)) (fun _ _ _ h => h) (Or.inl ⟨by rfl, ?_⟩) hHeld ?_ ?_
    rotate_left
    · intro w' hW
      refine load_box _ _ (.tmp 5) ?_ g5 ?_ _ _ hW.2 <;> rfl
    rotate_left
    · simp only [Act.put, List.setIfInBounds_toArray, List.set_cons_zero, List.set_cons_succ, i64_w, i32_w]
      rfl
    refine pure_ (i := 2) (N := some 62) (v := ?_) (a' := ?_) #[true, true, true, false, false, false] rfl rfl (any_of HT_.out (by kernel_rfl)) (fun _ _ _ h => h) (Or.inl ⟨by rfl, ?_⟩) ?_ ?_
    rotate_left
    · intro w'
      go_simp
      with_reducible rfl
    rotate_left
    · simp only [Act.put, List.setIfInBounds_toArray, List.set_cons_zero, List.set_cons_succ, i64_w, i32_w]
      rfl
    refine one_ (i := 3) (N := none) #[true, true, true, true, false, false] rfl rfl (one_of HT_.out (by kernel_rfl)) (by decide) (fun K hK => ?_)
    refine skip_ (w1 := w8.setRow g4 #[.slice (some ad) i i, .int .i64 level]) (by rfl) rfl (store_box _ _ (.tmp 4) (.tmp 60) rfl g4 rfl _ _ rfl _ hHeld.1 rfl (cells2 _ _ _ _)) ?_
    have hS9 : (w8.setRow g4 #[.slice (some ad) i i, .int .i64 level]).heap[g4]? = some (.cells #[.slice (some ad) i i, .int .i64 level] 103 (0, 0)) ∧ (w8.setRow g4 #[.slice (some ad) i i, .int .i64 level]).heap[g5]? = some (.cells #[.slice (some ⟨gr, 0, none⟩) dn c5, .int .i64 level] 103 (0, 0)) := ⟨setRow_heap _ _ _ _ _ _ hHeld.1, (setRow_other _ _ _ _ h54).trans hHeld.2⟩
    have GR9 := Aside0.mk (own_far GR8.out hHeld.1 (cs := #[.slice (some ad) i i, .int .i64 level]))
    have GW9 := Aside0.mk (below_setRow GW8.out HG4.out #[.slice (some ad) i i, .int .i64 level])
    clear GR8 GW8
    generalize w8.setRow g4 #[.slice (some ad) i i, .int .i64 level] = w9 at hS9 GR9 GW9 ⊢
    refine hK.out _ _ hS9 (fun hHeld => ?_)
    clear hS9
    clear hK K
    refine one_ (i := 4) (N := none) #[true, true, true, true, true, false] rfl rfl (one_of HT_.out (by kernel_rfl)) (by decide) (fun K hK => ?_)
    refine skip_ (w1 := w9.setRow g5 #[.slice (some ⟨gr, 0, none⟩) dn c5, .int .i64 level]) (by rfl) rfl (store_box _ _ (.tmp 5) (.tmp 61) rfl g5 rfl _ _ rfl _ hHeld.2 rfl (cells2 _ _ _ _)) ?_
    have hS9 : (w9.setRow g5 #[.slice (some ⟨gr, 0, none⟩) dn c5, .int .i64 level]).heap[g4]? = some (.cells #[.slice (some ad) i i, .int .i64 level] 103 (0, 0)) ∧ (w9.setRow g5 #[.slice (some ⟨gr, 0, none⟩) dn c5, .int .i64 level]).heap[g5]? = some (.cells #[.slice (some ⟨gr, 0, none⟩) dn c5, .int .i64 level] 103 (0, 0)) := ⟨(setRow_other _ _ _ _ h45).trans hHeld.1, setRow_heap _ _ _ _ _ _ hHeld.2⟩
    have GR10 := Aside0.mk (own_far GR9.out hHeld.2 (cs := #[.slice (some ⟨gr, 0, none⟩) dn c5, .int .i64 level]))
    have GW10 := Aside0.mk (below_setRow GW9.out HG5.out #[.slice (some ⟨gr, 0, none⟩) dn c5, .int .i64 level])
    clear GR9 GW9
    generalize w9.setRow g5 #[.slice (some ⟨gr, 0, none⟩) dn c5, .int .i64 level] = w10 at hS9 GR10 GW10 ⊢
    refine hK.out _ _ hS9 (fun hHeld => ?_)
    clear hS9
    clear hK K
    refine pure_ (i := 5) (N := some 6) (v := ?_) (a' := ?_) #[true, true, true, true, true, true] rfl rfl (any_of HT_.out (by kernel_rfl)) (fun _ _ _ h => h) (Or.inl ⟨by rfl, ?_⟩) ?_ ?_
    rotate_left
    · intro w'
      go_simp
      with_reducible rfl
    rotate_left
    · simp only [Act.put, List.setIfInBounds_toArray, List.set_cons_zero, List.set_cons_succ, i64_w, i32_w]
      rfl
    refine done_ (done_of HT_.out (by kernel_rfl)) ?_
    try go_wp2
    have q40 : w10.cell? ⟨g4, 0, none⟩ = some (.slice (some ad) i i) := by rw [blk_cell hHeld.1]; rfl
    have q41 : w10.cell? ⟨g4, 1, none⟩ = some (.int .i64 level) := by rw [blk_cell hHeld.1]; rfl
    have q50 : w10.cell? ⟨g5, 0, none⟩ = some (.slice (some ⟨gr, 0, none⟩) dn c5) := by rw [blk_cell hHeld.2]; rfl
    have q51 : w10.cell? ⟨g5, 1, none⟩ = some (.int .i64 level) := by rw [blk_cell hHeld.2]; rfl
    exact bodyPost_ret (v := .tuple #[.agg #[.slice (some ad) i i, .int .i64 level], .agg #[.slice (some ⟨gr, 0, none⟩) dn c5, .int .i64 level], .string s]) (by simp [results, Try.results93, go_sem, q40, q41, q50, q51]) rfl ⟨_, rfl, by rw [HDD.out]; exact GR10.out, GW10.out⟩
end Go.Proofs.Ytalncokpbgbccaa.E

