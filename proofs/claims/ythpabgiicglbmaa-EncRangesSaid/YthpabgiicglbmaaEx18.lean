-- Printed by this session's wip/tools/oracle.py, which runs the kit's print program; Lean checks it.
import Derived.Test.YthpabgiicglbmaaEx0
import Derived.Test.YthpabgiicglbmaaEx3
import Derived.Test.YthpabgiicglbmaaEx4
import Derived.Test.YthpabgiicglbmaaEx5
import Derived.Test.YthpabgiicglbmaaHand
namespace Go.Proofs.Ythpabgiicglbmaa.E
open Go.RowKit Go.Proofs.YthpabgiicglbmaaW.PrintWords Go.Proofs.YthpabgiicglbmaaW.PrintLast Go.Proofs.YthpabgiicglbmaaW.PrintMore
attribute [local go_sem] max2_int min2_int max_two min_two max_three min_three max_four min_four   -- for this text's walks alone
set_option linter.unusedVariables false
set_option linter.unusedSimpArgs false

/-! ### understorylaw01_EncRanges: function 12 -/
mutual
def understorylaw01_EncRanges.l0 : Nat → ByteArray → ByteArray → Bool → List ByteArray → Int → Option (Bool)
  | 0, _, _, _, _, _ => none
  | k + 1, x0, x7, x8, x9, x10 => if x10 < (x9.length : Int) then (if 0 ≤ x10 then (if ((rdOf ByteArray.empty x9 x10).size : Int) ≥ (x0.size : Int) then (if 0 ≤ (x0.size : Int) then (if (x0.size : Int) ≤ ((rdOf ByteArray.empty x9 x10).size : Int) then (understorylaw01_EncRanges.j1 k x0 x7 x8 x9 x10 (((rdOf ByteArray.empty x9 x10).extract 0 ((x0.size : Int) : Int).toNat).toList == x0.toList)) else (none)) else (none)) else (understorylaw01_EncRanges.j1 k x0 x7 x8 x9 x10 false)) else (none)) else ((understorylaw01_sane.f k).bind fun t503 => (if t503 = true then (if x8 = true then (some true) else (some (x7.toList == ([] : List UInt8)))) else (some false)))
def understorylaw01_EncRanges.j1 : Nat → ByteArray → ByteArray → Bool → List ByteArray → Int → Bool → Option (Bool)
  | 0, _, _, _, _, _, _ => none
  | k + 1, x0, x7, x8, x9, x10, x11 => if 0 ≤ x10 then (if x10 < (x9.length : Int) then ((enc_Compare.f x0 (rdOf ByteArray.empty x9 x10)).bind fun t507 => (if t507 ≤ 0 then (if x8 = true then ((enc_Compare.f (rdOf ByteArray.empty x9 x10) x7).bind fun t509 => (if (x11 != (decide (t509 < 0))) = true then (some false) else (understorylaw01_EncRanges.l0 k x0 x7 x8 x9 (wrap64 (x10 + 1))))) else (if (x11 != true) = true then (some false) else (understorylaw01_EncRanges.l0 k x0 x7 x8 x9 (wrap64 (x10 + 1))))) else (if (x11 != false) = true then (some false) else (understorylaw01_EncRanges.l0 k x0 x7 x8 x9 (wrap64 (x10 + 1)))))) else (none)) else (none)
end
def understorylaw01_EncRanges.f (k : Nat) (a0 : ByteArray) (a1 : ByteArray) (a2 : ByteArray) : Option (Bool) := (understorylaw01_short.f k (([a0, a1, a2] : List ByteArray))).bind fun t496 => (if t496 = true then ((enc_After.f k a0).bind fun bt498 => (if a0.size + a2.size ≤ 9223372036854775807 then (understorylaw01_EncRanges.l0 k a0 bt498.1 bt498.2 (([a1, a0 ++ a2, a0] : List ByteArray)) 0) else (none))) else ((understorylaw01_sane.f k).bind fun t497 => (some t497)))
theorem understorylaw01_EncRanges.mono_l : ∀ k, (∀ y0 y1 y2 y3 y4, LeO (understorylaw01_EncRanges.l0 k y0 y1 y2 y3 y4) (understorylaw01_EncRanges.l0 (k + 1) y0 y1 y2 y3 y4)) ∧ (∀ y0 y1 y2 y3 y4 y5, LeO (understorylaw01_EncRanges.j1 k y0 y1 y2 y3 y4 y5) (understorylaw01_EncRanges.j1 (k + 1) y0 y1 y2 y3 y4 y5))
  | 0 => ⟨fun _ _ _ _ _ r h => by simp [understorylaw01_EncRanges.l0] at h, fun _ _ _ _ _ _ r h => by simp [understorylaw01_EncRanges.j1] at h⟩
  | k + 1 => by
    obtain ⟨ih0, ih1⟩ := understorylaw01_EncRanges.mono_l k
    refine ⟨?_, ?_⟩
    · intro y0 y1 y2 y3 y4
      unfold understorylaw01_EncRanges.l0
      repeat' first
      | (with_reducible exact ih0 _ _ _ _ _)
      | (with_reducible exact ih1 _ _ _ _ _ _)
      | (with_reducible exact enc_After.mono _ _)
      | (with_reducible exact understorylaw01_sane.mono _)
      | (with_reducible exact understorylaw01_short.mono _ _)
      | (with_reducible exact LeO.refl _)
      | (with_reducible exact LeO.none _)
      | (with_reducible refine LeO.ite ?_ ?_)
      | (with_reducible refine LeO.bind ?_ (fun _ => ?_))
      | exact ih0 _ _ _ _ _
      | exact ih1 _ _ _ _ _ _
      | exact enc_After.mono _ _
      | exact understorylaw01_sane.mono _
      | exact understorylaw01_short.mono _ _
      | exact LeO.none _
      | refine LeO.ite ?_ ?_
      | refine LeO.bind ?_ (fun _ => ?_)
    · intro y0 y1 y2 y3 y4 y5
      unfold understorylaw01_EncRanges.j1
      repeat' first
      | (with_reducible exact ih0 _ _ _ _ _)
      | (with_reducible exact ih1 _ _ _ _ _ _)
      | (with_reducible exact enc_After.mono _ _)
      | (with_reducible exact understorylaw01_sane.mono _)
      | (with_reducible exact understorylaw01_short.mono _ _)
      | (with_reducible exact LeO.refl _)
      | (with_reducible exact LeO.none _)
      | (with_reducible refine LeO.ite ?_ ?_)
      | (with_reducible refine LeO.bind ?_ (fun _ => ?_))
      | exact ih0 _ _ _ _ _
      | exact ih1 _ _ _ _ _ _
      | exact enc_After.mono _ _
      | exact understorylaw01_sane.mono _
      | exact understorylaw01_short.mono _ _
      | exact LeO.none _
      | refine LeO.ite ?_ ?_
      | refine LeO.bind ?_ (fun _ => ?_)
theorem understorylaw01_EncRanges.mono : ∀ a0 a1 a2 k, LeO (understorylaw01_EncRanges.f k a0 a1 a2) (understorylaw01_EncRanges.f (k + 1) a0 a1 a2) := by
  intro a0 a1 a2 k
  obtain ⟨ih0, ih1⟩ := understorylaw01_EncRanges.mono_l k
  unfold understorylaw01_EncRanges.f
  repeat' first
      | (with_reducible exact ih0 _ _ _ _ _)
      | (with_reducible exact ih1 _ _ _ _ _ _)
      | (with_reducible exact enc_After.mono _ _)
      | (with_reducible exact understorylaw01_sane.mono _)
      | (with_reducible exact understorylaw01_short.mono _ _)
      | (with_reducible exact LeO.refl _)
      | (with_reducible exact LeO.none _)
      | (with_reducible refine LeO.ite ?_ ?_)
      | (with_reducible refine LeO.bind ?_ (fun _ => ?_))
      | exact ih0 _ _ _ _ _
      | exact ih1 _ _ _ _ _ _
      | exact enc_After.mono _ _
      | exact understorylaw01_sane.mono _
      | exact understorylaw01_short.mono _ _
      | exact LeO.none _
      | refine LeO.ite ?_ ?_
      | refine LeO.bind ?_ (fun _ => ?_)
set_option maxHeartbeats 8000000 in
set_option maxRecDepth 100000 in
theorem understorylaw01_EncRanges.calls (k : Nat) (a0 : ByteArray) (a1 : ByteArray) (a2 : ByteArray) (r : Bool) (w : World) (h : understorylaw01_EncRanges.f k a0 a1 a2 = some r) :
    Calls Try.prog 12 #[.string a0, .string a1, .string a2] w fun e w' => e = .returned (.bool r) ∧ Below w.heap.size w w' := by
  have HB := Aside0.mk (Below.refl w.heap.size w)
  have H : ((understorylaw01_short.f k (([a0, a1, a2] : List ByteArray))).bind fun t496 => (if t496 = true then ((enc_After.f k a0).bind fun bt498 => (if a0.size + a2.size ≤ 9223372036854775807 then (understorylaw01_EncRanges.l0 k a0 bt498.1 bt498.2 (([a1, a0 ++ a2, a0] : List ByteArray)) 0) else (none))) else ((understorylaw01_sane.f k).bind fun t497 => (some t497)))) = some r := h
  clear h
  obtain ⟨y493, hy493⟩ : ∃ y_ : List ByteArray, y_ = (([a0, a1, a2] : List ByteArray)) := ⟨_, rfl⟩
  replace H : ((understorylaw01_short.f k y493).bind fun t496 => (if t496 = true then ((enc_After.f k a0).bind fun bt498 => (if a0.size + a2.size ≤ 9223372036854775807 then (understorylaw01_EncRanges.l0 k a0 bt498.1 bt498.2 (([a1, a0 ++ a2, a0] : List ByteArray)) 0) else (none))) else ((understorylaw01_sane.f k).bind fun t497 => (some t497)))) = some r := by first | (rw [hy493]; with_reducible exact H) | (have H2_ := (Option.bind_some _ _).symm.trans H; rw [hy493]; with_reducible exact H2_) | (have H2_ := (Option.bind_some _ _).symm.trans H; with_reducible exact H2_) | with_reducible exact H | (rw [hy493]; exact H) | exact H
  have Ny493 := Aside0.mk hy493
  clear hy493
  replace H := Option.bind_eq_some_iff.mp H
  obtain ⟨t496, A40, H⟩ := H
  replace H : (if t496 = true then ((enc_After.f k a0).bind fun bt498 => (if a0.size + a2.size ≤ 9223372036854775807 then (understorylaw01_EncRanges.l0 k a0 bt498.1 bt498.2 (([a1, a0 ++ a2, a0] : List ByteArray)) 0) else (none))) else ((understorylaw01_sane.f k).bind fun t497 => (some t497))) = some r := H
  have A4 := Aside0.mk A40
  clear A40
  by_cases c5 : t496 = true
  · subst c5
    have H1 : ((enc_After.f k a0).bind fun bt498 => (if a0.size + a2.size ≤ 9223372036854775807 then (understorylaw01_EncRanges.l0 k a0 bt498.1 bt498.2 (([a1, a0 ++ a2, a0] : List ByteArray)) 0) else (none))) = some r := by rw [if_pos rfl] at H; exact H
    clear H
    have H := H1
    clear H1
    replace H := Option.bind_eq_some_iff.mp H
    obtain ⟨⟨t498, t499⟩, A60, H⟩ := H
    replace H : (if a0.size + a2.size ≤ 9223372036854775807 then (understorylaw01_EncRanges.l0 k a0 t498 t499 (([a1, a0 ++ a2, a0] : List ByteArray)) 0) else (none)) = some r := H
    have A6 := Aside0.mk A60
    clear A60
    by_cases c7 : a0.size + a2.size ≤ 9223372036854775807
    · rw [if_pos c7] at H
      have c7b0 := eq_true c7
      have c7b1 : decide (a0.size + a2.size ≤ 9223372036854775807) = true := decide_eq_true c7
      try have c7b2 : (9223372036854775807 < a0.size + a2.size) = False := eq_false (Nat.not_lt.2 c7)
      obtain ⟨y500, hy500⟩ : ∃ y_ : List ByteArray, y_ = (([a1, a0 ++ a2, a0] : List ByteArray)) := ⟨_, rfl⟩
      replace H : (understorylaw01_EncRanges.l0 k a0 t498 t499 y500 0) = some r := by first | (rw [hy500]; with_reducible exact H) | (have H2_ := (Option.bind_some _ _).symm.trans H; rw [hy500]; with_reducible exact H2_) | (have H2_ := (Option.bind_some _ _).symm.trans H; with_reducible exact H2_) | with_reducible exact H | (rw [hy500]; exact H) | exact H
      have Ny500 := Aside0.mk hy500
      clear hy500
      have H' := Aside0.mk H
      clear H
      go_enter Try.func12, Try.ntmps12
      go_wp2_with (first | ((with_reducible refine gate_dst (N := 16) rfl ?_); (try (refine gate_guard (by rfl) ?_; dsimp only)); refine Kd.R_lit Kd.string _ 9 ?hg (N := 16) ?hd (xs := ([a0, a1, a2] : List ByteArray)) (inner := [.string a0, .string a1, .string a2]) (ok := fun _ => True) (okp := fun _ => True) ?hr ?hp (fun _ hk => hk) trivial (Below.refl _ _) (Nat.le_refl _) (by simp) ?_; (case hd => rfl); (case hg => rfl); (case hr => first | (go_simp; done) | (go_simp; rfl)); (case hp => exact (Reps.one (show Kd.M Kd.string _ _ _ a0 [.string a0] from rfl) (Reps.one (show Kd.M Kd.string _ _ _ a1 [.string a1] from rfl) (Reps.one (show Kd.M Kd.string _ _ _ a2 [.string a2] from rfl) (Reps.none _ _))))); intro v494 w8 ho9 hb hg_ hnew_; clear hg_ hnew_; (first | rw [← Ny493.out] at ho9 | (simp only [Int.reduceToNat] at ho9; rw [← Ny493.out] at ho9)); have n0_ := Aside0.mk (Kd.R_lower ho9 (below_size (by repeat (first | (with_reducible first | exact HB.out | apply below_alloc | apply pw_below_drewN | apply below_drew1) | exact HB.out)))); have n1_ := Aside0.mk (below_step (by repeat (first | (with_reducible first | exact HB.out | apply below_alloc | apply pw_below_drewN | apply below_drew1) | exact HB.out)) hb); clear HB; have HO495 := n0_; have HB := n1_; clear n0_ n1_; clear hb ho9; obtain ⟨Ao10, co10, eo10⟩ := Kd.R_slice HO495.out; subst eo10) | ((with_reducible refine gate_callee (f := 15) rfl ?_); refine goesL_ (some 17) rfl rfl Try.func15 (by kernel_rfl) rfl #[.slice Ao10 y493.length co10] rfl (by (try simp only [List.map_toArray, List.map_cons, List.map_nil]); first | done | rfl | (simp only [List.length_drop, List.length_take]; rfl)) ?_; (with_reducible refine (understorylaw01_short.calls k _ _ y493 true _ ?side1 ?side2 A4.out).mono ?_); (case side1 => repeat (first | exact (Kd.R_reads' HO495.out).2.2 | (with_reducible refine Kd.C_alloc ?_ _) | (with_reducible refine Kd.C_drewN ?_ _) | (with_reducible refine Kd.C_drew ?_))); (case side2 => exact (Kd.R_reads' HO495.out).2.1); rintro e w' ⟨rfl, ⟨nd, rfl⟩⟩; refine ⟨_, rfl, ?_⟩) | ((with_reducible refine gate_callee (f := 17) rfl ?_); refine goesL_ (some 22) rfl rfl Try.func17 (by kernel_rfl) rfl #[.string a0] rfl (by (try simp only [List.map_toArray, List.map_cons, List.map_nil]); first | done | rfl | (simp only [List.length_drop, List.length_take]; rfl)) ?_; (with_reducible refine (enc_After.calls k a0 t498 t499 _ A6.out).mono ?_); rintro e w11 ⟨rfl, hb⟩; refine ⟨_, rfl, ?_⟩; have n0_ := Aside0.mk (Kd.R_below (by (with_reducible repeat (first | apply Kd.R_alloc | apply Kd.R_drewN | apply Kd.R_drew)); exact HO495.out) hb); have n1_ := Aside0.mk (below_step (by repeat (first | (with_reducible first | exact HB.out | apply below_alloc | apply pw_below_drewN | apply below_drew1) | exact HB.out)) hb); clear HO495; clear HB; have HO495 := n0_; have HB := n1_; clear n0_ n1_; (try clear hb); (try clear hb2); (try clear hk); (try clear hi)) | ((with_reducible refine gate_dst (N := 30) rfl ?_); (try (refine gate_guard (by rfl) ?_; dsimp only)); refine Kd.R_lit Kd.string _ 9 ?hg (N := 30) ?hd (xs := ([a1, a0 ++ a2, a0] : List ByteArray)) (inner := [.string a1, .string (a0 ++ a2), .string a0]) (ok := fun _ => True) (okp := fun _ => True) ?hr ?hp (fun _ hk => hk) trivial (Below.refl _ _) (Nat.le_refl _) (by simp) ?_; (case hd => rfl); (case hg => rfl); (case hr => first | (go_simp; done) | (go_simp; rfl)); (case hp => exact (Reps.one (show Kd.M Kd.string _ _ _ a1 [.string a1] from rfl) (Reps.one (show Kd.M Kd.string _ _ _ (a0 ++ a2) [.string (a0 ++ a2)] from rfl) (Reps.one (show Kd.M Kd.string _ _ _ a0 [.string a0] from rfl) (Reps.none _ _))))); intro v501 w12 ho13 hb hg_ hnew_; clear hg_ hnew_; (first | rw [← Ny500.out] at ho13 | (simp only [Int.reduceToNat] at ho13; rw [← Ny500.out] at ho13)); have n0_ := Aside0.mk (Kd.R_elder' (by (with_reducible repeat (first | apply Kd.R_alloc | apply Kd.R_drewN | apply Kd.R_drew)); exact HO495.out) (Kd.R_base ho13) hb); have n1_ := Aside0.mk (Kd.R_lower (Kd.R_new' ho13 (Kd.R_lt (by (with_reducible repeat (first | apply Kd.R_alloc | apply Kd.R_drewN | apply Kd.R_drew)); exact HO495.out))) (below_size (by repeat (first | (with_reducible first | exact HB.out | apply below_alloc | apply pw_below_drewN | apply below_drew1) | exact HB.out)))); have n2_ := Aside0.mk (below_step (by repeat (first | (with_reducible first | exact HB.out | apply below_alloc | apply pw_below_drewN | apply below_drew1) | exact HB.out)) hb); clear HO495; clear HB; have HO495 := n0_; have HO502 := n1_; have HB := n2_; clear n0_ n1_ n2_; clear hb ho13))
      go_loopg [10] k (fun kq v10 w' => ∃ (x10_1 : Int), v10 = .int .i64 x10_1 ∧ Aside0 (understorylaw01_EncRanges.l0 kq a0 t498 t499 y500 x10_1 = some r) ∧ Aside0 (kq ≤ k) ∧ Aside0 (Kd.R Kd.string 9 w' w.heap.size (fun _ => True) v501 y500) ∧ Aside0 (Below w.heap.size w w'))
      case atStart => exact ⟨(0), (by first | rfl | (simp; done) | (simp [*]; done)), H', ⟨Nat.le_refl _⟩, ⟨by (with_reducible repeat (first | apply Kd.R_alloc | apply Kd.R_drewN | apply Kd.R_drew)); exact Kd.R_mono HO502.out (fun _ hk => trivial)⟩, ⟨by repeat (first | (with_reducible first | exact HB.out | apply below_alloc | apply pw_below_drewN | apply below_drew1) | exact HB.out)⟩⟩
      case round =>
        clear H'
        try clear c1
        try clear p2
        try clear c5
        try clear c7
        try clear c7b0
        try clear c7b1
        try clear c7b2
        try clear c12
        obtain ⟨x10_1, rfl, HA, HK1, HO_9, HB⟩ := hrel
        cases gk with
        | zero => exact absurd HA.out (by simp [understorylaw01_EncRanges.l0])
        | succ k1 =>
          have H := HA.out
          clear HA
          simp only [understorylaw01_EncRanges.l0] at H
          by_cases c14 : x10_1 < (y500.length : Int)
          · rw [if_pos c14] at H
            have c14b0 : decide (x10_1 < (y500.length : Int)) = true := decide_eq_true c14
            clear c14
            have HC15 := Aside0.mk H
            clear H
            obtain ⟨Ao16, co16, eo16⟩ := Kd.R_slice HO_9.out
            subst eo16
            go_upto_region 8 with (fail)
            go_cut [11] (fun v11 wc => ∃ (kq : Nat) (x11_14 : Bool), v11 = .bool x11_14 ∧ Aside0 (understorylaw01_EncRanges.j1 kq a0 t498 t499 y500 x10_1 x11_14 = some r) ∧ Aside0 (kq ≤ k1) ∧ Aside0 (Kd.R Kd.string 9 wc w.heap.size (fun _ => True) (.slice Ao16 y500.length co16) y500) ∧ Aside0 (Below w.heap.size w wc))
            case first =>
              have H := HC15.out
              clear HC15
              by_cases c17 : 0 ≤ x10_1
              · rw [if_pos c17] at H
                have c17b0 : decide (0 ≤ x10_1) = true := decide_eq_true c17
                clear c17
                (first | rw [c17b0] | (simp only [i64_w, i32_w]; rw [c17b0]) | skip)
                by_cases c18 : ((rdOf ByteArray.empty y500 x10_1).size : Int) ≥ (a0.size : Int)
                · rw [if_pos c18] at H
                  have c18b0 : decide ((a0.size : Int) ≤ ((rdOf ByteArray.empty y500 x10_1).size : Int)) = true := decide_eq_true c18
                  have c18b1 : decide (a0.size ≤ (rdOf ByteArray.empty y500 x10_1).size) = true := decide_eq_true (Int.ofNat_le.mp c18)
                  clear c18
                  by_cases c19 : 0 ≤ (a0.size : Int)
                  · rw [if_pos c19] at H
                    have c19b0 := eq_true c19
                    have c19b1 : decide (0 ≤ (a0.size : Int)) = true := decide_eq_true c19
                    clear c19
                    by_cases c20 : (a0.size : Int) ≤ ((rdOf ByteArray.empty y500 x10_1).size : Int)
                    · rw [if_pos c20] at H
                      have c20b0 := eq_true c20
                      have c20b1 : decide ((a0.size : Int) ≤ ((rdOf ByteArray.empty y500 x10_1).size : Int)) = true := decide_eq_true c20
                      clear c20
                      have H' := Aside0.mk H
                      clear H
                      have p504 : 0 ≤ (x10_1 : Int) := of_decide_eq_true (by first | (with_reducible assumption) | assumption)
                      have q504 : x10_1 < (y500.length : Int) := of_decide_eq_true (by first | (with_reducible assumption) | assumption)
                      obtain ⟨ad504, e504, hx504_0⟩ := Kd.at_string (Kd.R_reads' HO_9.out).2.2 x10_1 p504 q504
                      cases e504
                      replace p504 := eq_true p504
                      replace q504 := eq_true q504
                      have p505 : 0 ≤ (x10_1 : Int) := of_decide_eq_true (by first | (with_reducible assumption) | assumption)
                      have q505 : x10_1 < (y500.length : Int) := of_decide_eq_true (by first | (with_reducible assumption) | assumption)
                      obtain ⟨ad505, e505, hx505_0⟩ := Kd.at_string (Kd.R_reads' HO_9.out).2.2 x10_1 p505 q505
                      obtain rfl : ad504 = ad505 := (by injection e505)
                      replace p505 := eq_true p505
                      replace q505 := eq_true q505
                      go_wp2
                      go_meet
                      case rel => exact ⟨_, ((((rdOf ByteArray.empty y500 x10_1).extract 0 ((a0.size : Int) : Int).toNat).toList == a0.toList)), (by first | rfl | (simp; done) | (simp [*]; done)), H', ⟨by have := HK1.out; first | omega | exact Nat.le_refl _⟩, ⟨by (with_reducible repeat (first | apply Kd.R_alloc | apply Kd.R_drewN | apply Kd.R_drew)); exact HO_9.out⟩, ⟨by repeat (first | (with_reducible first | exact HB.out | apply below_alloc | apply pw_below_drewN | apply below_drew1) | exact HB.out)⟩⟩
                    · rw [if_neg c20] at H
                      exact absurd H (by simp)
                  · rw [if_neg c19] at H
                    exact absurd H (by simp)
                · rw [if_neg c18] at H
                  have c18b0 : decide ((a0.size : Int) ≤ ((rdOf ByteArray.empty y500 x10_1).size : Int)) = false := decide_eq_false c18
                  have c18b1 : decide (a0.size ≤ (rdOf ByteArray.empty y500 x10_1).size) = false := decide_eq_false (fun h => c18 (Int.ofNat_le.mpr h))
                  clear c18
                  have H' := Aside0.mk H
                  clear H
                  have p504 : 0 ≤ (x10_1 : Int) := of_decide_eq_true (by first | (with_reducible assumption) | assumption)
                  have q504 : x10_1 < (y500.length : Int) := of_decide_eq_true (by first | (with_reducible assumption) | assumption)
                  obtain ⟨ad504, e504, hx504_0⟩ := Kd.at_string (Kd.R_reads' HO_9.out).2.2 x10_1 p504 q504
                  cases e504
                  replace p504 := eq_true p504
                  replace q504 := eq_true q504
                  go_wp2
                  go_meet
                  case rel => exact ⟨_, (false), (by first | rfl | (simp; done) | (simp [*]; done)), H', ⟨by have := HK1.out; first | omega | exact Nat.le_refl _⟩, ⟨by (with_reducible repeat (first | apply Kd.R_alloc | apply Kd.R_drewN | apply Kd.R_drew)); exact HO_9.out⟩, ⟨by repeat (first | (with_reducible first | exact HB.out | apply below_alloc | apply pw_below_drewN | apply below_drew1) | exact HB.out)⟩⟩
              · rw [if_neg c17] at H
                exact absurd H (by simp)
            case rest =>
              clear HC15
              try clear c1
              try clear c2
              try clear p2
              try clear c5
              try clear p5
              try clear q5
              try clear hx5
              try clear c7
              try clear c7b0
              try clear c7b1
              try clear c7b2
              try clear c12
              try clear c14
              try clear c14b0
              try clear c15
              try clear c17
              try clear c17b0
              try clear c18
              try clear c18b0
              try clear c18b1
              try clear c19
              try clear c19b0
              try clear c19b1
              try clear c20
              try clear c20b0
              try clear c20b1
              try clear hx504_0
              try clear hx505_0
              try clear p2
              try clear p504
              try clear p505
              try clear q504
              try clear q505
              obtain ⟨kq, x11_14, rfl, HA, HJ14, HO_9, HB⟩ := hcut
              cases kq with
              | zero => exact absurd HA.out (by simp [understorylaw01_EncRanges.j1])
              | succ kj14 =>
                have H := HA.out
                clear HA
                simp only [understorylaw01_EncRanges.j1] at H
                by_cases c21 : 0 ≤ x10_1
                · rw [if_pos c21] at H
                  have c21b0 : decide (0 ≤ x10_1) = true := decide_eq_true c21
                  clear c21
                  by_cases c22 : x10_1 < (y500.length : Int)
                  · rw [if_pos c22] at H
                    have c22b0 : decide (x10_1 < (y500.length : Int)) = true := decide_eq_true c22
                    clear c22
                    replace H := Option.bind_eq_some_iff.mp H
                    obtain ⟨t507, A230, H⟩ := H
                    replace H : (if t507 ≤ 0 then (if t499 = true then ((enc_Compare.f (rdOf ByteArray.empty y500 x10_1) t498).bind fun t509 => (if (x11_14 != (decide (t509 < 0))) = true then (some false) else (understorylaw01_EncRanges.l0 kj14 a0 t498 t499 y500 (wrap64 (x10_1 + 1))))) else (if (x11_14 != true) = true then (some false) else (understorylaw01_EncRanges.l0 kj14 a0 t498 t499 y500 (wrap64 (x10_1 + 1))))) else (if (x11_14 != false) = true then (some false) else (understorylaw01_EncRanges.l0 kj14 a0 t498 t499 y500 (wrap64 (x10_1 + 1))))) = some r := H
                    have A23 := Aside0.mk A230
                    clear A230
                    by_cases c24 : t507 ≤ 0
                    · rw [if_pos c24] at H
                      have c24b0 : decide (t507 ≤ 0) = true := decide_eq_true c24
                      clear c24
                      by_cases c25 : t499 = true
                      · subst c25
                        have H1 : ((enc_Compare.f (rdOf ByteArray.empty y500 x10_1) t498).bind fun t509 => (if (x11_14 != (decide (t509 < 0))) = true then (some false) else (understorylaw01_EncRanges.l0 kj14 a0 t498 true y500 (wrap64 (x10_1 + 1))))) = some r := by rw [if_pos rfl] at H; exact H
                        clear H
                        have H := H1
                        clear H1
                        replace H := Option.bind_eq_some_iff.mp H
                        obtain ⟨t509, A260, H⟩ := H
                        replace H : (if (x11_14 != (decide (t509 < 0))) = true then (some false) else (understorylaw01_EncRanges.l0 kj14 a0 t498 true y500 (wrap64 (x10_1 + 1)))) = some r := H
                        have A26 := Aside0.mk A260
                        clear A260
                        by_cases c27 : (x11_14 != (decide (t509 < 0))) = true
                        · rw [if_pos c27] at H
                          have c27b0 : (x11_14 != (decide (t509 < 0))) = true := c27
                          (try (have c27b1 : decide (x11_14 = (decide (t509 < 0))) = false := by simpa using c27))
                          (try (have c27b2 : (x11_14 == (decide (t509 < 0))) = false := by simpa using c27))
                          (try (have c27b3 : ¬ (x11_14 = (decide (t509 < 0))) := by simpa using c27))
                          clear c27
                          obtain rfl := Option.some.inj H
                          have p506 : 0 ≤ (x10_1 : Int) := of_decide_eq_true (by first | (with_reducible assumption) | assumption)
                          have q506 : x10_1 < (y500.length : Int) := of_decide_eq_true (by first | (with_reducible assumption) | assumption)
                          obtain ⟨ad506, e506, hx506_0⟩ := Kd.at_string (Kd.R_reads' HO_9.out).2.2 x10_1 p506 q506
                          cases e506
                          replace p506 := eq_true p506
                          replace q506 := eq_true q506
                          go_wp2_with (first | ((with_reducible refine gate_callee (f := 21) rfl ?_); refine goesL_ (some 61) rfl rfl Try.func21 (by kernel_rfl) rfl #[.string a0, .string (rdOf ByteArray.empty y500 x10_1)] rfl (by (try simp only [List.map_toArray, List.map_cons, List.map_nil]); first | done | rfl | (simp only [List.length_drop, List.length_take]; rfl)) ?_; (with_reducible refine (enc_Compare.calls a0 (rdOf ByteArray.empty y500 x10_1) t507 _ A23.out).mono ?_); rintro e w' ⟨rfl, ⟨nd, rfl⟩⟩; refine ⟨_, rfl, ?_⟩; have p508 : 0 ≤ (x10_1 : Int) := of_decide_eq_true (by first | (with_reducible assumption) | assumption); have q508 : x10_1 < (y500.length : Int) := of_decide_eq_true (by first | (with_reducible assumption) | assumption); obtain ⟨ad508, e508, hx508_0⟩ := Kd.at_string (Kd.R_reads' HO_9.out).2.2 x10_1 p508 q508; obtain rfl : ad506 = ad508 := (by injection e508); replace p508 := eq_true p508; replace q508 := eq_true q508) | (go_at_call 21; (with_reducible refine (enc_Compare.calls (rdOf ByteArray.empty y500 x10_1) t498 t509 _ A26.out).mono ?_); rintro e w' ⟨rfl, ⟨nd, rfl⟩⟩))
                          go_ret
                          exact ⟨by first | rfl | (simp [errW_none, errW_some] <;> rfl) | (simp [*, errW_none, errW_some] <;> rfl), by repeat (first | (with_reducible first | exact HB.out | apply below_alloc | apply pw_below_drewN | apply below_drew1) | exact HB.out)⟩
                        · rw [if_neg c27] at H
                          have c27b0 : (x11_14 != (decide (t509 < 0))) = false := by simpa using c27
                          (try (have c27b1 : decide (x11_14 = (decide (t509 < 0))) = true := by simpa using c27))
                          (try (have c27b2 : (x11_14 == (decide (t509 < 0))) = true := by simpa using c27))
                          clear c27
                          have H' := Aside0.mk H
                          clear H
                          have p506 : 0 ≤ (x10_1 : Int) := of_decide_eq_true (by first | (with_reducible assumption) | assumption)
                          have q506 : x10_1 < (y500.length : Int) := of_decide_eq_true (by first | (with_reducible assumption) | assumption)
                          obtain ⟨ad506, e506, hx506_0⟩ := Kd.at_string (Kd.R_reads' HO_9.out).2.2 x10_1 p506 q506
                          cases e506
                          replace p506 := eq_true p506
                          replace q506 := eq_true q506
                          go_wp2_with (first | ((with_reducible refine gate_callee (f := 21) rfl ?_); refine goesL_ (some 61) rfl rfl Try.func21 (by kernel_rfl) rfl #[.string a0, .string (rdOf ByteArray.empty y500 x10_1)] rfl (by (try simp only [List.map_toArray, List.map_cons, List.map_nil]); first | done | rfl | (simp only [List.length_drop, List.length_take]; rfl)) ?_; (with_reducible refine (enc_Compare.calls a0 (rdOf ByteArray.empty y500 x10_1) t507 _ A23.out).mono ?_); rintro e w' ⟨rfl, ⟨nd, rfl⟩⟩; refine ⟨_, rfl, ?_⟩; have p508 : 0 ≤ (x10_1 : Int) := of_decide_eq_true (by first | (with_reducible assumption) | assumption); have q508 : x10_1 < (y500.length : Int) := of_decide_eq_true (by first | (with_reducible assumption) | assumption); obtain ⟨ad508, e508, hx508_0⟩ := Kd.at_string (Kd.R_reads' HO_9.out).2.2 x10_1 p508 q508; obtain rfl : ad506 = ad508 := (by injection e508); replace p508 := eq_true p508; replace q508 := eq_true q508) | (go_at_call 21; (with_reducible refine (enc_Compare.calls (rdOf ByteArray.empty y500 x10_1) t498 t509 _ A26.out).mono ?_); rintro e w' ⟨rfl, ⟨nd, rfl⟩⟩))
                          go_roundg kj14
                          case measure => have := HK1.out; have := HJ14.out; omega
                          case rel => exact ⟨(wrap64 (x10_1 + 1)), (by first | rfl | (simp; done) | (simp [*]; done)), H', ⟨by have := HK1.out; have := HJ14.out; omega⟩, ⟨by (with_reducible repeat (first | apply Kd.R_alloc | apply Kd.R_drewN | apply Kd.R_drew)); exact HO_9.out⟩, ⟨by repeat (first | (with_reducible first | exact HB.out | apply below_alloc | apply pw_below_drewN | apply below_drew1) | exact HB.out)⟩⟩
                      · replace c25 := Bool.eq_false_iff.mpr c25
                        subst c25
                        have H1 : (if (x11_14 != true) = true then (some false) else (understorylaw01_EncRanges.l0 kj14 a0 t498 false y500 (wrap64 (x10_1 + 1)))) = some r := by rw [if_neg (show ¬ (false = true) by decide)] at H; exact H
                        clear H
                        have H := H1
                        clear H1
                        by_cases c28 : (x11_14 != true) = true
                        · rw [if_pos c28] at H
                          have c28b0 : (x11_14 != true) = true := c28
                          (try (have c28b1 : decide (x11_14 = true) = false := by simpa using c28))
                          (try (have c28b2 : (x11_14 == true) = false := by simpa using c28))
                          (try (have c28b3 : ¬ (x11_14 = true) := by simpa using c28))
                          clear c28
                          obtain rfl := Option.some.inj H
                          have p506 : 0 ≤ (x10_1 : Int) := of_decide_eq_true (by first | (with_reducible assumption) | assumption)
                          have q506 : x10_1 < (y500.length : Int) := of_decide_eq_true (by first | (with_reducible assumption) | assumption)
                          obtain ⟨ad506, e506, hx506_0⟩ := Kd.at_string (Kd.R_reads' HO_9.out).2.2 x10_1 p506 q506
                          cases e506
                          replace p506 := eq_true p506
                          replace q506 := eq_true q506
                          go_wp2_with (first | ((with_reducible refine gate_callee (f := 21) rfl ?_); refine goesL_ (some 61) rfl rfl Try.func21 (by kernel_rfl) rfl #[.string a0, .string (rdOf ByteArray.empty y500 x10_1)] rfl (by (try simp only [List.map_toArray, List.map_cons, List.map_nil]); first | done | rfl | (simp only [List.length_drop, List.length_take]; rfl)) ?_; (with_reducible refine (enc_Compare.calls a0 (rdOf ByteArray.empty y500 x10_1) t507 _ A23.out).mono ?_); rintro e w' ⟨rfl, ⟨nd, rfl⟩⟩; refine ⟨_, rfl, ?_⟩))
                          go_ret
                          exact ⟨by first | rfl | (simp [errW_none, errW_some] <;> rfl) | (simp [*, errW_none, errW_some] <;> rfl), by repeat (first | (with_reducible first | exact HB.out | apply below_alloc | apply pw_below_drewN | apply below_drew1) | exact HB.out)⟩
                        · rw [if_neg c28] at H
                          have c28b0 : (x11_14 != true) = false := by simpa using c28
                          (try (have c28b1 : decide (x11_14 = true) = true := by simpa using c28))
                          (try (have c28b2 : (x11_14 == true) = true := by simpa using c28))
                          clear c28
                          have H' := Aside0.mk H
                          clear H
                          have p506 : 0 ≤ (x10_1 : Int) := of_decide_eq_true (by first | (with_reducible assumption) | assumption)
                          have q506 : x10_1 < (y500.length : Int) := of_decide_eq_true (by first | (with_reducible assumption) | assumption)
                          obtain ⟨ad506, e506, hx506_0⟩ := Kd.at_string (Kd.R_reads' HO_9.out).2.2 x10_1 p506 q506
                          cases e506
                          replace p506 := eq_true p506
                          replace q506 := eq_true q506
                          go_wp2_with (first | ((with_reducible refine gate_callee (f := 21) rfl ?_); refine goesL_ (some 61) rfl rfl Try.func21 (by kernel_rfl) rfl #[.string a0, .string (rdOf ByteArray.empty y500 x10_1)] rfl (by (try simp only [List.map_toArray, List.map_cons, List.map_nil]); first | done | rfl | (simp only [List.length_drop, List.length_take]; rfl)) ?_; (with_reducible refine (enc_Compare.calls a0 (rdOf ByteArray.empty y500 x10_1) t507 _ A23.out).mono ?_); rintro e w' ⟨rfl, ⟨nd, rfl⟩⟩; refine ⟨_, rfl, ?_⟩))
                          go_roundg kj14
                          case measure => have := HK1.out; have := HJ14.out; omega
                          case rel => exact ⟨(wrap64 (x10_1 + 1)), (by first | rfl | (simp; done) | (simp [*]; done)), H', ⟨by have := HK1.out; have := HJ14.out; omega⟩, ⟨by (with_reducible repeat (first | apply Kd.R_alloc | apply Kd.R_drewN | apply Kd.R_drew)); exact HO_9.out⟩, ⟨by repeat (first | (with_reducible first | exact HB.out | apply below_alloc | apply pw_below_drewN | apply below_drew1) | exact HB.out)⟩⟩
                    · rw [if_neg c24] at H
                      have c24b0 : decide (t507 ≤ 0) = false := decide_eq_false c24
                      clear c24
                      by_cases c29 : (x11_14 != false) = true
                      · rw [if_pos c29] at H
                        have c29b0 : (x11_14 != false) = true := c29
                        (try (have c29b1 : decide (x11_14 = false) = false := by simpa using c29))
                        (try (have c29b2 : (x11_14 == false) = false := by simpa using c29))
                        (try (have c29b3 : ¬ (x11_14 = false) := by simpa using c29))
                        clear c29
                        obtain rfl := Option.some.inj H
                        have p506 : 0 ≤ (x10_1 : Int) := of_decide_eq_true (by first | (with_reducible assumption) | assumption)
                        have q506 : x10_1 < (y500.length : Int) := of_decide_eq_true (by first | (with_reducible assumption) | assumption)
                        obtain ⟨ad506, e506, hx506_0⟩ := Kd.at_string (Kd.R_reads' HO_9.out).2.2 x10_1 p506 q506
                        cases e506
                        replace p506 := eq_true p506
                        replace q506 := eq_true q506
                        go_wp2_with (first | ((with_reducible refine gate_callee (f := 21) rfl ?_); refine goesL_ (some 61) rfl rfl Try.func21 (by kernel_rfl) rfl #[.string a0, .string (rdOf ByteArray.empty y500 x10_1)] rfl (by (try simp only [List.map_toArray, List.map_cons, List.map_nil]); first | done | rfl | (simp only [List.length_drop, List.length_take]; rfl)) ?_; (with_reducible refine (enc_Compare.calls a0 (rdOf ByteArray.empty y500 x10_1) t507 _ A23.out).mono ?_); rintro e w' ⟨rfl, ⟨nd, rfl⟩⟩; refine ⟨_, rfl, ?_⟩))
                        go_ret
                        exact ⟨by first | rfl | (simp [errW_none, errW_some] <;> rfl) | (simp [*, errW_none, errW_some] <;> rfl), by repeat (first | (with_reducible first | exact HB.out | apply below_alloc | apply pw_below_drewN | apply below_drew1) | exact HB.out)⟩
                      · rw [if_neg c29] at H
                        have c29b0 : (x11_14 != false) = false := by simpa using c29
                        (try (have c29b1 : decide (x11_14 = false) = true := by simpa using c29))
                        (try (have c29b2 : (x11_14 == false) = true := by simpa using c29))
                        clear c29
                        have H' := Aside0.mk H
                        clear H
                        have p506 : 0 ≤ (x10_1 : Int) := of_decide_eq_true (by first | (with_reducible assumption) | assumption)
                        have q506 : x10_1 < (y500.length : Int) := of_decide_eq_true (by first | (with_reducible assumption) | assumption)
                        obtain ⟨ad506, e506, hx506_0⟩ := Kd.at_string (Kd.R_reads' HO_9.out).2.2 x10_1 p506 q506
                        cases e506
                        replace p506 := eq_true p506
                        replace q506 := eq_true q506
                        go_wp2_with (first | ((with_reducible refine gate_callee (f := 21) rfl ?_); refine goesL_ (some 61) rfl rfl Try.func21 (by kernel_rfl) rfl #[.string a0, .string (rdOf ByteArray.empty y500 x10_1)] rfl (by (try simp only [List.map_toArray, List.map_cons, List.map_nil]); first | done | rfl | (simp only [List.length_drop, List.length_take]; rfl)) ?_; (with_reducible refine (enc_Compare.calls a0 (rdOf ByteArray.empty y500 x10_1) t507 _ A23.out).mono ?_); rintro e w' ⟨rfl, ⟨nd, rfl⟩⟩; refine ⟨_, rfl, ?_⟩))
                        go_roundg kj14
                        case measure => have := HK1.out; have := HJ14.out; omega
                        case rel => exact ⟨(wrap64 (x10_1 + 1)), (by first | rfl | (simp; done) | (simp [*]; done)), H', ⟨by have := HK1.out; have := HJ14.out; omega⟩, ⟨by (with_reducible repeat (first | apply Kd.R_alloc | apply Kd.R_drewN | apply Kd.R_drew)); exact HO_9.out⟩, ⟨by repeat (first | (with_reducible first | exact HB.out | apply below_alloc | apply pw_below_drewN | apply below_drew1) | exact HB.out)⟩⟩
                  · rw [if_neg c22] at H
                    exact absurd H (by simp)
                · rw [if_neg c21] at H
                  exact absurd H (by simp)
          · rw [if_neg c14] at H
            have c14b0 : decide (x10_1 < (y500.length : Int)) = false := decide_eq_false c14
            clear c14
            replace H := Option.bind_eq_some_iff.mp H
            obtain ⟨t503, A300, H⟩ := H
            replace H : (if t503 = true then (if t499 = true then (some true) else (some (t498.toList == ([] : List UInt8)))) else (some false)) = some r := H
            have A30 := Aside0.mk A300
            clear A300
            by_cases c31 : t503 = true
            · subst c31
              have H1 : (if t499 = true then (some true) else (some (t498.toList == ([] : List UInt8)))) = some r := by rw [if_pos rfl] at H; exact H
              clear H
              have H := H1
              clear H1
              by_cases c32 : t499 = true
              · subst c32
                have H1 : (some true) = some r := by rw [if_pos rfl] at H; exact H
                clear H
                have H := H1
                clear H1
                obtain rfl := Option.some.inj H
                obtain ⟨Ao33, co33, eo33⟩ := Kd.R_slice HO_9.out
                subst eo33
                go_wp2_with (first | ((with_reducible refine gate_callee (f := 16) rfl ?_); refine goesL_ (some 79) rfl rfl Try.func16 (by kernel_rfl) rfl #[] rfl (by (try simp only [List.map_toArray, List.map_cons, List.map_nil]); first | done | rfl | (simp only [List.length_drop, List.length_take]; rfl)) ?_; (with_reducible refine (understorylaw01_sane.calls k1  true _ A30.out).mono ?_); rintro e w34 ⟨rfl, hb⟩; refine ⟨_, rfl, ?_⟩; have n0_ := Aside0.mk (Kd.R_below (by (with_reducible repeat (first | apply Kd.R_alloc | apply Kd.R_drewN | apply Kd.R_drew)); exact HO_9.out) hb); have n1_ := Aside0.mk (below_step (by repeat (first | (with_reducible first | exact HB.out | apply below_alloc | apply pw_below_drewN | apply below_drew1) | exact HB.out)) hb); clear HO_9; clear HB; have HO_9 := n0_; have HB := n1_; clear n0_ n1_; (try clear hb); (try clear hb2); (try clear hk); (try clear hi)))
                go_ret
                exact ⟨by first | rfl | (simp [errW_none, errW_some] <;> rfl) | (simp [*, errW_none, errW_some] <;> rfl), by repeat (first | (with_reducible first | exact HB.out | apply below_alloc | apply pw_below_drewN | apply below_drew1) | exact HB.out)⟩
              · replace c32 := Bool.eq_false_iff.mpr c32
                subst c32
                have H1 : (some (t498.toList == ([] : List UInt8))) = some r := by rw [if_neg (show ¬ (false = true) by decide)] at H; exact H
                clear H
                have H := H1
                clear H1
                obtain rfl := Option.some.inj H
                obtain ⟨Ao35, co35, eo35⟩ := Kd.R_slice HO_9.out
                subst eo35
                go_wp2_with (first | ((with_reducible refine gate_callee (f := 16) rfl ?_); refine goesL_ (some 79) rfl rfl Try.func16 (by kernel_rfl) rfl #[] rfl (by (try simp only [List.map_toArray, List.map_cons, List.map_nil]); first | done | rfl | (simp only [List.length_drop, List.length_take]; rfl)) ?_; (with_reducible refine (understorylaw01_sane.calls k1  true _ A30.out).mono ?_); rintro e w36 ⟨rfl, hb⟩; refine ⟨_, rfl, ?_⟩; have n0_ := Aside0.mk (Kd.R_below (by (with_reducible repeat (first | apply Kd.R_alloc | apply Kd.R_drewN | apply Kd.R_drew)); exact HO_9.out) hb); have n1_ := Aside0.mk (below_step (by repeat (first | (with_reducible first | exact HB.out | apply below_alloc | apply pw_below_drewN | apply below_drew1) | exact HB.out)) hb); clear HO_9; clear HB; have HO_9 := n0_; have HB := n1_; clear n0_ n1_; (try clear hb); (try clear hb2); (try clear hk); (try clear hi)))
                go_ret
                exact ⟨by first | rfl | (simp [errW_none, errW_some] <;> rfl) | (simp [*, errW_none, errW_some] <;> rfl), by repeat (first | (with_reducible first | exact HB.out | apply below_alloc | apply pw_below_drewN | apply below_drew1) | exact HB.out)⟩
            · replace c31 := Bool.eq_false_iff.mpr c31
              subst c31
              have H1 : (some false) = some r := by rw [if_neg (show ¬ (false = true) by decide)] at H; exact H
              clear H
              have H := H1
              clear H1
              obtain rfl := Option.some.inj H
              obtain ⟨Ao37, co37, eo37⟩ := Kd.R_slice HO_9.out
              subst eo37
              go_wp2_with (first | ((with_reducible refine gate_callee (f := 16) rfl ?_); refine goesL_ (some 79) rfl rfl Try.func16 (by kernel_rfl) rfl #[] rfl (by (try simp only [List.map_toArray, List.map_cons, List.map_nil]); first | done | rfl | (simp only [List.length_drop, List.length_take]; rfl)) ?_; (with_reducible refine (understorylaw01_sane.calls k1  false _ A30.out).mono ?_); rintro e w38 ⟨rfl, hb⟩; refine ⟨_, rfl, ?_⟩; have n0_ := Aside0.mk (Kd.R_below (by (with_reducible repeat (first | apply Kd.R_alloc | apply Kd.R_drewN | apply Kd.R_drew)); exact HO_9.out) hb); have n1_ := Aside0.mk (below_step (by repeat (first | (with_reducible first | exact HB.out | apply below_alloc | apply pw_below_drewN | apply below_drew1) | exact HB.out)) hb); clear HO_9; clear HB; have HO_9 := n0_; have HB := n1_; clear n0_ n1_; (try clear hb); (try clear hb2); (try clear hk); (try clear hi)))
              go_ret
              exact ⟨by first | rfl | (simp [errW_none, errW_some] <;> rfl) | (simp [*, errW_none, errW_some] <;> rfl), by repeat (first | (with_reducible first | exact HB.out | apply below_alloc | apply pw_below_drewN | apply below_drew1) | exact HB.out)⟩
    · rw [if_neg c7] at H
      exact absurd H (by simp)
  · replace c5 := Bool.eq_false_iff.mpr c5
    subst c5
    have H1 : ((understorylaw01_sane.f k).bind fun t497 => (some t497)) = some r := by rw [if_neg (show ¬ (false = true) by decide)] at H; exact H
    clear H
    have H := H1
    clear H1
    replace H := Option.bind_eq_some_iff.mp H
    obtain ⟨t497, A390, H⟩ := H
    replace H : (some t497) = some r := H
    have A39 := Aside0.mk A390
    clear A390
    obtain rfl := Option.some.inj H
    go_enter Try.func12, Try.ntmps12
    go_wp2_with (first | ((with_reducible refine gate_dst (N := 16) rfl ?_); (try (refine gate_guard (by rfl) ?_; dsimp only)); refine Kd.R_lit Kd.string _ 9 ?hg (N := 16) ?hd (xs := ([a0, a1, a2] : List ByteArray)) (inner := [.string a0, .string a1, .string a2]) (ok := fun _ => True) (okp := fun _ => True) ?hr ?hp (fun _ hk => hk) trivial (Below.refl _ _) (Nat.le_refl _) (by simp) ?_; (case hd => rfl); (case hg => rfl); (case hr => first | (go_simp; done) | (go_simp; rfl)); (case hp => exact (Reps.one (show Kd.M Kd.string _ _ _ a0 [.string a0] from rfl) (Reps.one (show Kd.M Kd.string _ _ _ a1 [.string a1] from rfl) (Reps.one (show Kd.M Kd.string _ _ _ a2 [.string a2] from rfl) (Reps.none _ _))))); intro v494 w40 ho41 hb hg_ hnew_; clear hg_ hnew_; (first | rw [← Ny493.out] at ho41 | (simp only [Int.reduceToNat] at ho41; rw [← Ny493.out] at ho41)); have n0_ := Aside0.mk (Kd.R_lower ho41 (below_size (by repeat (first | (with_reducible first | exact HB.out | apply below_alloc | apply pw_below_drewN | apply below_drew1) | exact HB.out)))); have n1_ := Aside0.mk (below_step (by repeat (first | (with_reducible first | exact HB.out | apply below_alloc | apply pw_below_drewN | apply below_drew1) | exact HB.out)) hb); clear HB; have HO495 := n0_; have HB := n1_; clear n0_ n1_; clear hb ho41; obtain ⟨Ao42, co42, eo42⟩ := Kd.R_slice HO495.out; subst eo42) | ((with_reducible refine gate_callee (f := 15) rfl ?_); refine goesL_ (some 17) rfl rfl Try.func15 (by kernel_rfl) rfl #[.slice Ao42 y493.length co42] rfl (by (try simp only [List.map_toArray, List.map_cons, List.map_nil]); first | done | rfl | (simp only [List.length_drop, List.length_take]; rfl)) ?_; (with_reducible refine (understorylaw01_short.calls k _ _ y493 false _ ?side1 ?side2 A4.out).mono ?_); (case side1 => repeat (first | exact (Kd.R_reads' HO495.out).2.2 | (with_reducible refine Kd.C_alloc ?_ _) | (with_reducible refine Kd.C_drewN ?_ _) | (with_reducible refine Kd.C_drew ?_))); (case side2 => exact (Kd.R_reads' HO495.out).2.1); rintro e w' ⟨rfl, ⟨nd, rfl⟩⟩; refine ⟨_, rfl, ?_⟩) | ((with_reducible refine gate_callee (f := 16) rfl ?_); refine goesL_ (some 19) rfl rfl Try.func16 (by kernel_rfl) rfl #[] rfl (by (try simp only [List.map_toArray, List.map_cons, List.map_nil]); first | done | rfl | (simp only [List.length_drop, List.length_take]; rfl)) ?_; (with_reducible refine (understorylaw01_sane.calls k  t497 _ A39.out).mono ?_); rintro e w43 ⟨rfl, hb⟩; refine ⟨_, rfl, ?_⟩; have n0_ := Aside0.mk (Kd.R_below (by (with_reducible repeat (first | apply Kd.R_alloc | apply Kd.R_drewN | apply Kd.R_drew)); exact HO495.out) hb); have n1_ := Aside0.mk (below_step (by repeat (first | (with_reducible first | exact HB.out | apply below_alloc | apply pw_below_drewN | apply below_drew1) | exact HB.out)) hb); clear HO495; clear HB; have HO495 := n0_; have HB := n1_; clear n0_ n1_; (try clear hb); (try clear hb2); (try clear hk); (try clear hi)))
    go_ret
    exact ⟨by first | rfl | (simp [errW_none, errW_some] <;> rfl) | (simp [*, errW_none, errW_some] <;> rfl), by repeat (first | (with_reducible first | exact HB.out | apply below_alloc | apply pw_below_drewN | apply below_drew1) | exact HB.out)⟩

/-- THE ONE PURE STATEMENT of understorylaw01_EncRanges: yours. -/
def understorylaw01_EncRanges.Pure : Prop := ∀ (a0 : ByteArray) (a1 : ByteArray) (a2 : ByteArray), a0.size ≤ 140737488351232 → a1.size ≤ 140737488351232 → a2.size ≤ 140737488351232 → ∃ k, understorylaw01_EncRanges.f k a0 a1 a2 = some true
theorem understorylaw01_EncRanges.walk (P : understorylaw01_EncRanges.Pure) (a0 : ByteArray) (a1 : ByteArray) (a2 : ByteArray) (w : World) (w0 : a0.size ≤ 140737488351232) (w1 : a1.size ≤ 140737488351232) (w2 : a2.size ≤ 140737488351232) :
    Calls Try.prog 12 #[.string a0, .string a1, .string a2] w fun e w' => e = .returned (.bool true) ∧ Below w.heap.size w w' := by
  obtain ⟨k, h⟩ := P a0 a1 a2 w0 w1 w2
  refine (understorylaw01_EncRanges.calls k a0 a1 a2 true w h).mono ?_
  rintro e w' ⟨rfl, hd⟩
  exact ⟨rfl, hd⟩

end Go.Proofs.Ythpabgiicglbmaa.E
