-- A slim copy of QB, written by wip/tools/prune2.py.
import Derived.Test.YtalncokpbgbccaaUPG
import Derived.Test.YtalncokpbgbccaaURh
/- The reference's Number and rest: they answer; how long their strings are. -/
namespace Go.Proofs.Ytalncokpbgbccaa.E
set_option linter.unusedVariables false
set_option linter.unusedSimpArgs false
open Go.RowKit Go.Proofs.YtalncokpbgbccaaW.PrintWords Go.Proofs.YtalncokpbgbccaaW.PrintLast Go.Proofs.YtalncokpbgbccaaW.PrintMore
theorem below_tr3 {w X Y : World} (hb : Below w.heap.size w X) (h : Below X.heap.size X Y) : Below w.heap.size w Y := hb.trans (h.mono hb.size)
theorem num_go : ∀ (i : Nat) (n : Int) (xs : List Int), i ≤ xs.length → xs.length ≤ 100 → ∃ k s, understoryref04_Number.l0 k n xs ((i : Int) - 1) = some s ∧ s.size = xs.length
  | 0, n, xs, h, hl => ⟨1, _, by rw [understoryref04_Number.l0, if_neg (by omega)], strOfNums_size xs⟩
  | i + 1, n, xs, h, hl => by
    obtain ⟨k, s, hk, hs⟩ := num_go i (wrap64 (Int.tdiv n 256)) (xs.set i ((Int.tmod n 256) % 256)) (by simp; omega) (by simp; omega)
    refine ⟨k + 1, s, ?_, by simpa using hs⟩
    have e : ((i + 1 : Nat) : Int) - 1 = (i : Int) := by omega
    rw [e, understoryref04_Number.l0, if_pos (by omega), if_pos (by omega), if_pos (by omega), w64 ((i : Int) - 1) (by omega) (by omega), Int.toNat_natCast]
    exact hk
theorem number_c (n : Int) (k : Nat) (hk : k ≤ 100) : ∃ s : ByteArray, s.size = k ∧ ∀ w, Calls Try.prog 104 #[.int .i64 n, .int .i64 (k : Int)] w fun e w' => e = .returned (.string s) ∧ Below w.heap.size w w' := by
  obtain ⟨f, s, hf, hs⟩ := num_go k n (List.replicate k 0) (by simp) (by simpa using hk)
  refine ⟨s, by simpa using hs, fun w => understoryref04_Number.calls f n (k : Int) s w ?_⟩
  rw [understoryref04_Number.f, if_pos (by omega), if_pos (by omega), w64 _ (by omega) (by omega)]
  exact hf
def restI (x : S77) (level : Int) : Int := if level > 0 then 24 else if (x.f4 == 0) = false then 26 else if (x.f2 == 0) = false then 24 else 2 + x.f1.size
def rg89_2_T : Bool × List (List Nat × List Nat) := (true, [([], []), ([0], [0]), ([1], [1]), ([], []), ([3], [3]), ([4, 2], [4]), ([2, 5], [2, 5]), ([], []), ([7], [7]), ([8, 5], [8]), ([6, 9], [6, 9]), ([10, 9, 0, 1, 2, 3, 4, 5, 6, 7, 8, 9, 10], [10])])
def rg89_2_B : List Nat := [0, 1, 3, 0, 8, 31, 63, 0, 128, 447, 1023, 2047]
theorem rg89_2_tab : rtab .any (opsOf Try.f89 2) = rg89_2_T := by kernel_rfl
theorem rg89_2_bits : waitsOk rg89_2_T.2 rg89_2_B = true := by kernel_rfl
set_option maxRecDepth 100000 in
set_option maxHeartbeats 4000000 in
theorem rest_1 (x : S77) (level : Int) (w : World) (s1 s2 s3 : ByteArray) (hl : 0 < level) (hsz : s1.size ≤ 100 ∧ s2.size ≤ 100 ∧ s3.size ≤ 100) (H1 : Aside0 (∀ w, Calls Try.prog 104 #[.int .i64 x.f4, .int .i64 4] w fun e w' => e = .returned (.string s1) ∧ Below w.heap.size w w')) (H2 : Aside0 (∀ w, Calls Try.prog 104 #[.int .i64 x.f5, .int .i64 4] w fun e w' => e = .returned (.string s2) ∧ Below w.heap.size w w')) (H3 : Aside0 (∀ w, Calls Try.prog 105 #[.agg #[.int .u8 x.f6.f0, .int .u8 x.f6.f1, .int .u8 x.f6.f2, .int .u8 x.f6.f3, .int .u8 x.f6.f4, .int .u8 x.f6.f5, .int .u8 x.f6.f6, .int .u8 x.f6.f7, .int .u8 x.f6.f8, .int .u8 x.f6.f9, .int .u8 x.f6.f10, .int .u8 x.f6.f11, .int .u8 x.f6.f12, .int .u8 x.f6.f13, .int .u8 x.f6.f14, .int .u8 x.f6.f15]] w fun e w' => e = .returned (.string s3) ∧ Below w.heap.size w w'))
    : Calls Try.prog 89 #[.agg (entC x), .int .i64 level] w fun e w' => e = .returned (.string ((s1 ++ s2) ++ s3)) ∧ Below w.heap.size w w' := by
  have hl1 : decide (0 < level) = true := decide_eq_true hl
  clear hl
  have b0 : (9223372036854775807 < s1.size + s2.size) = False := eq_false (by omega)
  have b1 : (9223372036854775807 < s1.size + s2.size + s3.size) = False := eq_false (by omega)
  clear hsz
  unfold entC
  go_enter Try.func89, Try.ntmps89
  go_wp2_with fail
  have GX := Aside0.mk (blk_drew (blk_new w (.cells #[.string x.f0, .string x.f1, .int .i64 x.f2, .int .i64 x.f3, .int .i64 x.f4, .int .i64 x.f5, .int .u8 x.f6.f0, .int .u8 x.f6.f1, .int .u8 x.f6.f2, .int .u8 x.f6.f3, .int .u8 x.f6.f4, .int .u8 x.f6.f5, .int .u8 x.f6.f6, .int .u8 x.f6.f7, .int .u8 x.f6.f8, .int .u8 x.f6.f9, .int .u8 x.f6.f10, .int .u8 x.f6.f11, .int .u8 x.f6.f12, .int .u8 x.f6.f13, .int .u8 x.f6.f14, .int .u8 x.f6.f15] 77)))
  have GB := Aside0.mk (below_drew1 (below_alloc (Below.refl w.heap.size w) (.cells #[.string x.f0, .string x.f1, .int .i64 x.f2, .int .i64 x.f3, .int .i64 x.f4, .int .i64 x.f5, .int .u8 x.f6.f0, .int .u8 x.f6.f1, .int .u8 x.f6.f2, .int .u8 x.f6.f3, .int .u8 x.f6.f4, .int .u8 x.f6.f5, .int .u8 x.f6.f6, .int .u8 x.f6.f7, .int .u8 x.f6.f8, .int .u8 x.f6.f9, .int .u8 x.f6.f10, .int .u8 x.f6.f11, .int .u8 x.f6.f12, .int .u8 x.f6.f13, .int .u8 x.f6.f14, .int .u8 x.f6.f15] 77)))
  generalize w.alloc (.cells #[.string x.f0, .string x.f1, .int .i64 x.f2, .int .i64 x.f3, .int .i64 x.f4, .int .i64 x.f5, .int .u8 x.f6.f0, .int .u8 x.f6.f1, .int .u8 x.f6.f2, .int .u8 x.f6.f3, .int .u8 x.f6.f4, .int .u8 x.f6.f5, .int .u8 x.f6.f6, .int .u8 x.f6.f7, .int .u8 x.f6.f8, .int .u8 x.f6.f9, .int .u8 x.f6.f10, .int .u8 x.f6.f11, .int .u8 x.f6.f12, .int .u8 x.f6.f13, .int .u8 x.f6.f14, .int .u8 x.f6.f15] 77) = W0 at GX GB ⊢
  refine start_ (n := 12) (S := fun W => W.heap[w.heap.size]? = some (.cells #[.string x.f0, .string x.f1, .int .i64 x.f2, .int .i64 x.f3, .int .i64 x.f4, .int .i64 x.f5, .int .u8 x.f6.f0, .int .u8 x.f6.f1, .int .u8 x.f6.f2, .int .u8 x.f6.f3, .int .u8 x.f6.f4, .int .u8 x.f6.f5, .int .u8 x.f6.f6, .int .u8 x.f6.f7, .int .u8 x.f6.f8, .int .u8 x.f6.f9, .int .u8 x.f6.f10, .int .u8 x.f6.f11, .int .u8 x.f6.f12, .int .u8 x.f6.f13, .int .u8 x.f6.f14, .int .u8 x.f6.f15] 77 (0, 0))) (ds := []) #[false, false, false, false, false, false, false, false, false, false, false, false] (by kernel_rfl) rfl rfl (GX.out) (fun hHeld => ?_)
  refine with_tabW rg89_2_tab rg89_2_bits (fun HT_ HW_ => ?_)
  generalize W0.drew = w1 at GX GB hHeld ⊢
  refine pure_ (i := 0) (N := some 7) (v := ?_) (a' := ?_) #[true, false, false, false, false, false, false, false, false, false, false, false] rfl rfl (any_of HT_.out (by kernel_rfl)) (fun _ _ _ h => h) (Or.inl ⟨by rfl, ?_⟩) ?_ ?_
  rotate_left
  · intro w'
    go_simp
    with_reducible rfl
  rotate_left
  · simp only [Act.put, List.setIfInBounds_toArray, List.set_cons_zero, List.set_cons_succ, i64_w, i32_w]
    rfl
  refine take_ (i := 1) (N := some 8) (v := ?_) (a' := ?_) #[true, true, false, false, false, false, false, false, false, false, false, false] rfl rfl (take_ofW HT_.out HW_.out (by kernel_rfl)) (fun _ _ _ h => h) (Or.inl ⟨by rfl, ?_⟩) hHeld ?_ ?_
  rotate_left
  · intro w' hW
    have q0 : w'.cell? ⟨w.heap.size, 0, none⟩ = some (.string x.f0) := by rw [blk_cell hW]; rfl
    have q1 : w'.cell? ⟨w.heap.size, 1, none⟩ = some (.string x.f1) := by rw [blk_cell hW]; rfl
    have q2 : w'.cell? ⟨w.heap.size, 2, none⟩ = some (.int .i64 x.f2) := by rw [blk_cell hW]; rfl
    have q3 : w'.cell? ⟨w.heap.size, 3, none⟩ = some (.int .i64 x.f3) := by rw [blk_cell hW]; rfl
    have q4 : w'.cell? ⟨w.heap.size, 4, none⟩ = some (.int .i64 x.f4) := by rw [blk_cell hW]; rfl
    have q5 : w'.cell? ⟨w.heap.size, 5, none⟩ = some (.int .i64 x.f5) := by rw [blk_cell hW]; rfl
    have q6 : w'.cell? ⟨w.heap.size, 6, none⟩ = some (.int .u8 x.f6.f0) := by rw [blk_cell hW]; rfl
    have q7 : w'.cell? ⟨w.heap.size, 7, none⟩ = some (.int .u8 x.f6.f1) := by rw [blk_cell hW]; rfl
    have q8 : w'.cell? ⟨w.heap.size, 8, none⟩ = some (.int .u8 x.f6.f2) := by rw [blk_cell hW]; rfl
    have q9 : w'.cell? ⟨w.heap.size, 9, none⟩ = some (.int .u8 x.f6.f3) := by rw [blk_cell hW]; rfl
    have q10 : w'.cell? ⟨w.heap.size, 10, none⟩ = some (.int .u8 x.f6.f4) := by rw [blk_cell hW]; rfl
    have q11 : w'.cell? ⟨w.heap.size, 11, none⟩ = some (.int .u8 x.f6.f5) := by rw [blk_cell hW]; rfl
    have q12 : w'.cell? ⟨w.heap.size, 12, none⟩ = some (.int .u8 x.f6.f6) := by rw [blk_cell hW]; rfl
    have q13 : w'.cell? ⟨w.heap.size, 13, none⟩ = some (.int .u8 x.f6.f7) := by rw [blk_cell hW]; rfl
    have q14 : w'.cell? ⟨w.heap.size, 14, none⟩ = some (.int .u8 x.f6.f8) := by rw [blk_cell hW]; rfl
    have q15 : w'.cell? ⟨w.heap.size, 15, none⟩ = some (.int .u8 x.f6.f9) := by rw [blk_cell hW]; rfl
    have q16 : w'.cell? ⟨w.heap.size, 16, none⟩ = some (.int .u8 x.f6.f10) := by rw [blk_cell hW]; rfl
    have q17 : w'.cell? ⟨w.heap.size, 17, none⟩ = some (.int .u8 x.f6.f11) := by rw [blk_cell hW]; rfl
    have q18 : w'.cell? ⟨w.heap.size, 18, none⟩ = some (.int .u8 x.f6.f12) := by rw [blk_cell hW]; rfl
    have q19 : w'.cell? ⟨w.heap.size, 19, none⟩ = some (.int .u8 x.f6.f13) := by rw [blk_cell hW]; rfl
    have q20 : w'.cell? ⟨w.heap.size, 20, none⟩ = some (.int .u8 x.f6.f14) := by rw [blk_cell hW]; rfl
    have q21 : w'.cell? ⟨w.heap.size, 21, none⟩ = some (.int .u8 x.f6.f15) := by rw [blk_cell hW]; rfl
    go_simp
    with_reducible rfl
  rotate_left
  · simp only [Act.put, List.setIfInBounds_toArray, List.set_cons_zero, List.set_cons_succ, i64_w, i32_w]
    rfl
  refine pure_ (i := 3) (N := some 10) (v := ?_) (a' := ?_) #[true, true, false, true, false, false, false, false, false, false, false, false] rfl rfl (any_of HT_.out (by kernel_rfl)) (fun _ _ _ h => h) (Or.inl ⟨by rfl, ?_⟩) ?_ ?_
  rotate_left
  · intro w'
    go_simp
    with_reducible rfl
  rotate_left
  · simp only [Act.put, List.setIfInBounds_toArray, List.set_cons_zero, List.set_cons_succ, i64_w, i32_w]
    rfl
  refine take_ (i := 4) (N := some 11) (v := ?_) (a' := ?_) #[true, true, false, true, true, false, false, false, false, false, false, false] rfl rfl (take_ofW HT_.out HW_.out (by kernel_rfl)) (fun _ _ _ h => h) (Or.inl ⟨by rfl, ?_⟩) hHeld ?_ ?_
  rotate_left
  · intro w' hW
    have q0 : w'.cell? ⟨w.heap.size, 0, none⟩ = some (.string x.f0) := by rw [blk_cell hW]; rfl
    have q1 : w'.cell? ⟨w.heap.size, 1, none⟩ = some (.string x.f1) := by rw [blk_cell hW]; rfl
    have q2 : w'.cell? ⟨w.heap.size, 2, none⟩ = some (.int .i64 x.f2) := by rw [blk_cell hW]; rfl
    have q3 : w'.cell? ⟨w.heap.size, 3, none⟩ = some (.int .i64 x.f3) := by rw [blk_cell hW]; rfl
    have q4 : w'.cell? ⟨w.heap.size, 4, none⟩ = some (.int .i64 x.f4) := by rw [blk_cell hW]; rfl
    have q5 : w'.cell? ⟨w.heap.size, 5, none⟩ = some (.int .i64 x.f5) := by rw [blk_cell hW]; rfl
    have q6 : w'.cell? ⟨w.heap.size, 6, none⟩ = some (.int .u8 x.f6.f0) := by rw [blk_cell hW]; rfl
    have q7 : w'.cell? ⟨w.heap.size, 7, none⟩ = some (.int .u8 x.f6.f1) := by rw [blk_cell hW]; rfl
    have q8 : w'.cell? ⟨w.heap.size, 8, none⟩ = some (.int .u8 x.f6.f2) := by rw [blk_cell hW]; rfl
    have q9 : w'.cell? ⟨w.heap.size, 9, none⟩ = some (.int .u8 x.f6.f3) := by rw [blk_cell hW]; rfl
    have q10 : w'.cell? ⟨w.heap.size, 10, none⟩ = some (.int .u8 x.f6.f4) := by rw [blk_cell hW]; rfl
    have q11 : w'.cell? ⟨w.heap.size, 11, none⟩ = some (.int .u8 x.f6.f5) := by rw [blk_cell hW]; rfl
    have q12 : w'.cell? ⟨w.heap.size, 12, none⟩ = some (.int .u8 x.f6.f6) := by rw [blk_cell hW]; rfl
    have q13 : w'.cell? ⟨w.heap.size, 13, none⟩ = some (.int .u8 x.f6.f7) := by rw [blk_cell hW]; rfl
    have q14 : w'.cell? ⟨w.heap.size, 14, none⟩ = some (.int .u8 x.f6.f8) := by rw [blk_cell hW]; rfl
    have q15 : w'.cell? ⟨w.heap.size, 15, none⟩ = some (.int .u8 x.f6.f9) := by rw [blk_cell hW]; rfl
    have q16 : w'.cell? ⟨w.heap.size, 16, none⟩ = some (.int .u8 x.f6.f10) := by rw [blk_cell hW]; rfl
    have q17 : w'.cell? ⟨w.heap.size, 17, none⟩ = some (.int .u8 x.f6.f11) := by rw [blk_cell hW]; rfl
    have q18 : w'.cell? ⟨w.heap.size, 18, none⟩ = some (.int .u8 x.f6.f12) := by rw [blk_cell hW]; rfl
    have q19 : w'.cell? ⟨w.heap.size, 19, none⟩ = some (.int .u8 x.f6.f13) := by rw [blk_cell hW]; rfl
    have q20 : w'.cell? ⟨w.heap.size, 20, none⟩ = some (.int .u8 x.f6.f14) := by rw [blk_cell hW]; rfl
    have q21 : w'.cell? ⟨w.heap.size, 21, none⟩ = some (.int .u8 x.f6.f15) := by rw [blk_cell hW]; rfl
    go_simp
    with_reducible rfl
  rotate_left
  · simp only [Act.put, List.setIfInBounds_toArray, List.set_cons_zero, List.set_cons_succ, i64_w, i32_w]
    rfl
  refine pure_ (i := 7) (N := some 14) (v := ?_) (a' := ?_) #[true, true, false, true, true, false, false, true, false, false, false, false] rfl rfl (any_of HT_.out (by kernel_rfl)) (fun _ _ _ h => h) (Or.inl ⟨by rfl, ?_⟩) ?_ ?_
  rotate_left
  · intro w'
    go_simp
    with_reducible rfl
  rotate_left
  · simp only [Act.put, List.setIfInBounds_toArray, List.set_cons_zero, List.set_cons_succ, i64_w, i32_w]
    rfl
  refine take_ (i := 8) (N := some 15) (v := ?_) (a' := ?_) #[true, true, false, true, true, false, false, true, true, false, false, false] rfl rfl (take_ofW HT_.out HW_.out (by kernel_rfl)) (fun _ _ _ h => h) (Or.inl ⟨by rfl, ?_⟩) hHeld ?_ ?_
  rotate_left
  · intro w' hW
    have q0 : w'.cell? ⟨w.heap.size, 0, none⟩ = some (.string x.f0) := by rw [blk_cell hW]; rfl
    have q1 : w'.cell? ⟨w.heap.size, 1, none⟩ = some (.string x.f1) := by rw [blk_cell hW]; rfl
    have q2 : w'.cell? ⟨w.heap.size, 2, none⟩ = some (.int .i64 x.f2) := by rw [blk_cell hW]; rfl
    have q3 : w'.cell? ⟨w.heap.size, 3, none⟩ = some (.int .i64 x.f3) := by rw [blk_cell hW]; rfl
    have q4 : w'.cell? ⟨w.heap.size, 4, none⟩ = some (.int .i64 x.f4) := by rw [blk_cell hW]; rfl
    have q5 : w'.cell? ⟨w.heap.size, 5, none⟩ = some (.int .i64 x.f5) := by rw [blk_cell hW]; rfl
    have q6 : w'.cell? ⟨w.heap.size, 6, none⟩ = some (.int .u8 x.f6.f0) := by rw [blk_cell hW]; rfl
    have q7 : w'.cell? ⟨w.heap.size, 7, none⟩ = some (.int .u8 x.f6.f1) := by rw [blk_cell hW]; rfl
    have q8 : w'.cell? ⟨w.heap.size, 8, none⟩ = some (.int .u8 x.f6.f2) := by rw [blk_cell hW]; rfl
    have q9 : w'.cell? ⟨w.heap.size, 9, none⟩ = some (.int .u8 x.f6.f3) := by rw [blk_cell hW]; rfl
    have q10 : w'.cell? ⟨w.heap.size, 10, none⟩ = some (.int .u8 x.f6.f4) := by rw [blk_cell hW]; rfl
    have q11 : w'.cell? ⟨w.heap.size, 11, none⟩ = some (.int .u8 x.f6.f5) := by rw [blk_cell hW]; rfl
    have q12 : w'.cell? ⟨w.heap.size, 12, none⟩ = some (.int .u8 x.f6.f6) := by rw [blk_cell hW]; rfl
    have q13 : w'.cell? ⟨w.heap.size, 13, none⟩ = some (.int .u8 x.f6.f7) := by rw [blk_cell hW]; rfl
    have q14 : w'.cell? ⟨w.heap.size, 14, none⟩ = some (.int .u8 x.f6.f8) := by rw [blk_cell hW]; rfl
    have q15 : w'.cell? ⟨w.heap.size, 15, none⟩ = some (.int .u8 x.f6.f9) := by rw [blk_cell hW]; rfl
    have q16 : w'.cell? ⟨w.heap.size, 16, none⟩ = some (.int .u8 x.f6.f10) := by rw [blk_cell hW]; rfl
    have q17 : w'.cell? ⟨w.heap.size, 17, none⟩ = some (.int .u8 x.f6.f11) := by rw [blk_cell hW]; rfl
    have q18 : w'.cell? ⟨w.heap.size, 18, none⟩ = some (.int .u8 x.f6.f12) := by rw [blk_cell hW]; rfl
    have q19 : w'.cell? ⟨w.heap.size, 19, none⟩ = some (.int .u8 x.f6.f13) := by rw [blk_cell hW]; rfl
    have q20 : w'.cell? ⟨w.heap.size, 20, none⟩ = some (.int .u8 x.f6.f14) := by rw [blk_cell hW]; rfl
    have q21 : w'.cell? ⟨w.heap.size, 21, none⟩ = some (.int .u8 x.f6.f15) := by rw [blk_cell hW]; rfl
    go_simp
    with_reducible rfl
  rotate_left
  · simp only [Act.put, List.setIfInBounds_toArray, List.set_cons_zero, List.set_cons_succ, i64_w, i32_w]
    rfl
  refine one_ (i := 2) (N := some 9) #[true, true, true, true, true, false, false, true, true, false, false, false] rfl rfl (one_of HT_.out (by kernel_rfl)) (by decide) (fun K hK => ?_)
  refine goes_ Try.func104 (by kernel_rfl) rfl #[.int .i64 x.f4, .int .i64 4] (by rfl) rfl rfl (by (try simp only [List.map_toArray, List.map_cons, List.map_nil]); first | done | go_simp) ?_
  refine (H1.out _).mono ?_
  rintro e w2 ⟨rfl, hb⟩
  refine ⟨_, rfl, ?_⟩
  have GX0 := Aside0.mk (blk_below GX.out hb)
  have GB0 := Aside0.mk (below_tr3 (w := w) GB.out hb)
  clear hb GX GB hHeld
  refine hK.out _ _ (GX0.out) (fun hHeld => ?_)
  clear hK K
  refine norm_ (a' := ?_) ?_ ?_
  rotate_left
  · show Act.put _ (some 9) _ = _
    simp only [Act.put, List.setIfInBounds_toArray, List.set_cons_zero, List.set_cons_succ, i64_w, i32_w]
    rfl
  refine one_ (i := 5) (N := some 12) #[true, true, true, true, true, true, false, true, true, false, false, false] rfl rfl (one_of HT_.out (by kernel_rfl)) (by decide) (fun K hK => ?_)
  refine goes_ Try.func104 (by kernel_rfl) rfl #[.int .i64 x.f5, .int .i64 4] (by rfl) rfl rfl (by (try simp only [List.map_toArray, List.map_cons, List.map_nil]); first | done | go_simp) ?_
  refine (H2.out _).mono ?_
  rintro e w3 ⟨rfl, hb⟩
  refine ⟨_, rfl, ?_⟩
  have GX1 := Aside0.mk (blk_below GX0.out hb)
  have GB1 := Aside0.mk (below_tr3 (w := w) GB0.out hb)
  clear hb GX0 GB0 hHeld
  refine hK.out _ _ (GX1.out) (fun hHeld => ?_)
  clear hK K
  refine norm_ (a' := ?_) ?_ ?_
  rotate_left
  · show Act.put _ (some 12) _ = _
    simp only [Act.put, List.setIfInBounds_toArray, List.set_cons_zero, List.set_cons_succ, i64_w, i32_w]
    rfl
  refine pure_ (i := 6) (N := some 13) (v := ?_) (a' := ?_) #[true, true, true, true, true, true, true, true, true, false, false, false] rfl rfl (any_of HT_.out (by kernel_rfl)) (fun _ _ _ h => h) (Or.inl ⟨by rfl, ?_⟩) ?_ ?_
  rotate_left
  · intro w'
    go_simp
    with_reducible rfl
  rotate_left
  · simp only [Act.put, List.setIfInBounds_toArray, List.set_cons_zero, List.set_cons_succ, i64_w, i32_w]
    rfl
  refine one_ (i := 9) (N := some 16) #[true, true, true, true, true, true, true, true, true, true, false, false] rfl rfl (one_of HT_.out (by kernel_rfl)) (by decide) (fun K hK => ?_)
  refine goes_ Try.func105 (by kernel_rfl) rfl #[.agg #[.int .u8 x.f6.f0, .int .u8 x.f6.f1, .int .u8 x.f6.f2, .int .u8 x.f6.f3, .int .u8 x.f6.f4, .int .u8 x.f6.f5, .int .u8 x.f6.f6, .int .u8 x.f6.f7, .int .u8 x.f6.f8, .int .u8 x.f6.f9, .int .u8 x.f6.f10, .int .u8 x.f6.f11, .int .u8 x.f6.f12, .int .u8 x.f6.f13, .int .u8 x.f6.f14, .int .u8 x.f6.f15]] (by rfl) rfl rfl (by (try simp only [List.map_toArray, List.map_cons, List.map_nil]); first | done | go_simp) ?_
  refine (H3.out _).mono ?_
  rintro e w4 ⟨rfl, hb⟩
  refine ⟨_, rfl, ?_⟩
  have GX2 := Aside0.mk (blk_below GX1.out hb)
  have GB2 := Aside0.mk (below_tr3 (w := w) GB1.out hb)
  clear hb GX1 GB1 hHeld
  refine hK.out _ _ (GX2.out) (fun hHeld => ?_)
  clear hK K
  refine norm_ (a' := ?_) ?_ ?_
  rotate_left
  · show Act.put _ (some 16) _ = _
    simp only [Act.put, List.setIfInBounds_toArray, List.set_cons_zero, List.set_cons_succ, i64_w, i32_w]
    rfl
  refine pure_ (i := 10) (N := some 17) (v := ?_) (a' := ?_) #[true, true, true, true, true, true, true, true, true, true, true, false] rfl rfl (any_of HT_.out (by kernel_rfl)) (fun _ _ _ h => h) (Or.inl ⟨by rfl, ?_⟩) ?_ ?_
  rotate_left
  · intro w'
    go_simp
    with_reducible rfl
  rotate_left
  · simp only [Act.put, List.setIfInBounds_toArray, List.set_cons_zero, List.set_cons_succ, i64_w, i32_w]
    rfl
  refine pure_ (i := 11) (N := some 4) (v := ?_) (a' := ?_) #[true, true, true, true, true, true, true, true, true, true, true, true] rfl rfl (any_of HT_.out (by kernel_rfl)) (fun _ _ _ h => h) (Or.inl ⟨by rfl, ?_⟩) ?_ ?_
  rotate_left
  · intro w'
    go_simp
    with_reducible rfl
  rotate_left
  · simp only [Act.put, List.setIfInBounds_toArray, List.set_cons_zero, List.set_cons_succ, i64_w, i32_w]
    rfl
  refine done_ (done_of HT_.out (by kernel_rfl)) ?_
  go_wp2_with fail
  go_ret
  exact ⟨by simp, GB2.out⟩
def rg89_4_T : Bool × List (List Nat × List Nat) := (true, [([], []), ([], []), ([1], [1]), ([2, 0], [2]), ([0, 3], [0, 3]), ([], []), ([5], [5]), ([6, 3], [6]), ([4, 7], [4, 7]), ([], []), ([9], [9]), ([10, 7], [10]), ([8, 11], [8, 11]), ([12, 11, 0, 1, 2, 3, 4, 5, 6, 7, 8, 9, 10, 11, 12], [12])])
def rg89_4_B : List Nat := [0, 0, 2, 7, 15, 0, 32, 111, 255, 0, 512, 1775, 4095, 8191]
theorem rg89_4_tab : rtab .any (opsOf Try.f89 4) = rg89_4_T := by kernel_rfl
theorem rg89_4_bits : waitsOk rg89_4_T.2 rg89_4_B = true := by kernel_rfl
set_option maxRecDepth 100000 in
set_option maxHeartbeats 4000000 in
theorem rest_2 (x : S77) (level : Int) (w : World) (s0 s1 s2 s3 : ByteArray) (hl : ¬ 0 < level) (h4 : (x.f4 == 0) = false) (hsz : s0.size ≤ 100 ∧ s1.size ≤ 100 ∧ s2.size ≤ 100 ∧ s3.size ≤ 100) (H0 : Aside0 (∀ w, Calls Try.prog 104 #[.int .i64 65534, .int .i64 2] w fun e w' => e = .returned (.string s0) ∧ Below w.heap.size w w')) (H1 : Aside0 (∀ w, Calls Try.prog 104 #[.int .i64 x.f4, .int .i64 4] w fun e w' => e = .returned (.string s1) ∧ Below w.heap.size w w')) (H2 : Aside0 (∀ w, Calls Try.prog 104 #[.int .i64 x.f5, .int .i64 4] w fun e w' => e = .returned (.string s2) ∧ Below w.heap.size w w')) (H3 : Aside0 (∀ w, Calls Try.prog 105 #[.agg #[.int .u8 x.f6.f0, .int .u8 x.f6.f1, .int .u8 x.f6.f2, .int .u8 x.f6.f3, .int .u8 x.f6.f4, .int .u8 x.f6.f5, .int .u8 x.f6.f6, .int .u8 x.f6.f7, .int .u8 x.f6.f8, .int .u8 x.f6.f9, .int .u8 x.f6.f10, .int .u8 x.f6.f11, .int .u8 x.f6.f12, .int .u8 x.f6.f13, .int .u8 x.f6.f14, .int .u8 x.f6.f15]] w fun e w' => e = .returned (.string s3) ∧ Below w.heap.size w w'))
    : Calls Try.prog 89 #[.agg (entC x), .int .i64 level] w fun e w' => e = .returned (.string (((s0 ++ s1) ++ s2) ++ s3)) ∧ Below w.heap.size w w' := by
  have hl1 : decide (0 < level) = false := decide_eq_false hl
  clear hl
  have b0 : (9223372036854775807 < s0.size + s1.size) = False := eq_false (by omega)
  have b1 : (9223372036854775807 < s0.size + s1.size + s2.size) = False := eq_false (by omega)
  have b2 : (9223372036854775807 < s0.size + s1.size + s2.size + s3.size) = False := eq_false (by omega)
  clear hsz
  unfold entC
  go_enter Try.func89, Try.ntmps89
  go_wp2_with fail
  have GX := Aside0.mk (blk_drew (blk_new w (.cells #[.string x.f0, .string x.f1, .int .i64 x.f2, .int .i64 x.f3, .int .i64 x.f4, .int .i64 x.f5, .int .u8 x.f6.f0, .int .u8 x.f6.f1, .int .u8 x.f6.f2, .int .u8 x.f6.f3, .int .u8 x.f6.f4, .int .u8 x.f6.f5, .int .u8 x.f6.f6, .int .u8 x.f6.f7, .int .u8 x.f6.f8, .int .u8 x.f6.f9, .int .u8 x.f6.f10, .int .u8 x.f6.f11, .int .u8 x.f6.f12, .int .u8 x.f6.f13, .int .u8 x.f6.f14, .int .u8 x.f6.f15] 77)))
  have GB := Aside0.mk (below_drew1 (below_alloc (Below.refl w.heap.size w) (.cells #[.string x.f0, .string x.f1, .int .i64 x.f2, .int .i64 x.f3, .int .i64 x.f4, .int .i64 x.f5, .int .u8 x.f6.f0, .int .u8 x.f6.f1, .int .u8 x.f6.f2, .int .u8 x.f6.f3, .int .u8 x.f6.f4, .int .u8 x.f6.f5, .int .u8 x.f6.f6, .int .u8 x.f6.f7, .int .u8 x.f6.f8, .int .u8 x.f6.f9, .int .u8 x.f6.f10, .int .u8 x.f6.f11, .int .u8 x.f6.f12, .int .u8 x.f6.f13, .int .u8 x.f6.f14, .int .u8 x.f6.f15] 77)))
  generalize w.alloc (.cells #[.string x.f0, .string x.f1, .int .i64 x.f2, .int .i64 x.f3, .int .i64 x.f4, .int .i64 x.f5, .int .u8 x.f6.f0, .int .u8 x.f6.f1, .int .u8 x.f6.f2, .int .u8 x.f6.f3, .int .u8 x.f6.f4, .int .u8 x.f6.f5, .int .u8 x.f6.f6, .int .u8 x.f6.f7, .int .u8 x.f6.f8, .int .u8 x.f6.f9, .int .u8 x.f6.f10, .int .u8 x.f6.f11, .int .u8 x.f6.f12, .int .u8 x.f6.f13, .int .u8 x.f6.f14, .int .u8 x.f6.f15] 77) = W0 at GX GB ⊢
  refine start_ (n := 14) (S := fun W => W.heap[w.heap.size]? = some (.cells #[.string x.f0, .string x.f1, .int .i64 x.f2, .int .i64 x.f3, .int .i64 x.f4, .int .i64 x.f5, .int .u8 x.f6.f0, .int .u8 x.f6.f1, .int .u8 x.f6.f2, .int .u8 x.f6.f3, .int .u8 x.f6.f4, .int .u8 x.f6.f5, .int .u8 x.f6.f6, .int .u8 x.f6.f7, .int .u8 x.f6.f8, .int .u8 x.f6.f9, .int .u8 x.f6.f10, .int .u8 x.f6.f11, .int .u8 x.f6.f12, .int .u8 x.f6.f13, .int .u8 x.f6.f14, .int .u8 x.f6.f15] 77 (0, 0))) (ds := []) #[false, false, false, false, false, false, false, false, false, false, false, false, false, false] (by kernel_rfl) rfl rfl (GX.out) (fun hHeld => ?_)
  refine with_tabW rg89_4_tab rg89_4_bits (fun HT_ HW_ => ?_)
  generalize W0.drew = w1 at GX GB hHeld ⊢
  refine pure_ (i := 1) (N := some 22) (v := ?_) (a' := ?_) #[false, true, false, false, false, false, false, false, false, false, false, false, false, false] rfl rfl (any_of HT_.out (by kernel_rfl)) (fun _ _ _ h => h) (Or.inl ⟨by rfl, ?_⟩) ?_ ?_
  rotate_left
  · intro w'
    go_simp
    with_reducible rfl
  rotate_left
  · simp only [Act.put, List.setIfInBounds_toArray, List.set_cons_zero, List.set_cons_succ, i64_w, i32_w]
    rfl
  refine take_ (i := 2) (N := some 23) (v := ?_) (a' := ?_) #[false, true, true, false, false, false, false, false, false, false, false, false, false, false] rfl rfl (take_ofW HT_.out HW_.out (by kernel_rfl)) (fun _ _ _ h => h) (Or.inl ⟨by rfl, ?_⟩) hHeld ?_ ?_
  rotate_left
  · intro w' hW
    have q0 : w'.cell? ⟨w.heap.size, 0, none⟩ = some (.string x.f0) := by rw [blk_cell hW]; rfl
    have q1 : w'.cell? ⟨w.heap.size, 1, none⟩ = some (.string x.f1) := by rw [blk_cell hW]; rfl
    have q2 : w'.cell? ⟨w.heap.size, 2, none⟩ = some (.int .i64 x.f2) := by rw [blk_cell hW]; rfl
    have q3 : w'.cell? ⟨w.heap.size, 3, none⟩ = some (.int .i64 x.f3) := by rw [blk_cell hW]; rfl
    have q4 : w'.cell? ⟨w.heap.size, 4, none⟩ = some (.int .i64 x.f4) := by rw [blk_cell hW]; rfl
    have q5 : w'.cell? ⟨w.heap.size, 5, none⟩ = some (.int .i64 x.f5) := by rw [blk_cell hW]; rfl
    have q6 : w'.cell? ⟨w.heap.size, 6, none⟩ = some (.int .u8 x.f6.f0) := by rw [blk_cell hW]; rfl
    have q7 : w'.cell? ⟨w.heap.size, 7, none⟩ = some (.int .u8 x.f6.f1) := by rw [blk_cell hW]; rfl
    have q8 : w'.cell? ⟨w.heap.size, 8, none⟩ = some (.int .u8 x.f6.f2) := by rw [blk_cell hW]; rfl
    have q9 : w'.cell? ⟨w.heap.size, 9, none⟩ = some (.int .u8 x.f6.f3) := by rw [blk_cell hW]; rfl
    have q10 : w'.cell? ⟨w.heap.size, 10, none⟩ = some (.int .u8 x.f6.f4) := by rw [blk_cell hW]; rfl
    have q11 : w'.cell? ⟨w.heap.size, 11, none⟩ = some (.int .u8 x.f6.f5) := by rw [blk_cell hW]; rfl
    have q12 : w'.cell? ⟨w.heap.size, 12, none⟩ = some (.int .u8 x.f6.f6) := by rw [blk_cell hW]; rfl
    have q13 : w'.cell? ⟨w.heap.size, 13, none⟩ = some (.int .u8 x.f6.f7) := by rw [blk_cell hW]; rfl
    have q14 : w'.cell? ⟨w.heap.size, 14, none⟩ = some (.int .u8 x.f6.f8) := by rw [blk_cell hW]; rfl
    have q15 : w'.cell? ⟨w.heap.size, 15, none⟩ = some (.int .u8 x.f6.f9) := by rw [blk_cell hW]; rfl
    have q16 : w'.cell? ⟨w.heap.size, 16, none⟩ = some (.int .u8 x.f6.f10) := by rw [blk_cell hW]; rfl
    have q17 : w'.cell? ⟨w.heap.size, 17, none⟩ = some (.int .u8 x.f6.f11) := by rw [blk_cell hW]; rfl
    have q18 : w'.cell? ⟨w.heap.size, 18, none⟩ = some (.int .u8 x.f6.f12) := by rw [blk_cell hW]; rfl
    have q19 : w'.cell? ⟨w.heap.size, 19, none⟩ = some (.int .u8 x.f6.f13) := by rw [blk_cell hW]; rfl
    have q20 : w'.cell? ⟨w.heap.size, 20, none⟩ = some (.int .u8 x.f6.f14) := by rw [blk_cell hW]; rfl
    have q21 : w'.cell? ⟨w.heap.size, 21, none⟩ = some (.int .u8 x.f6.f15) := by rw [blk_cell hW]; rfl
    go_simp
    with_reducible rfl
  rotate_left
  · simp only [Act.put, List.setIfInBounds_toArray, List.set_cons_zero, List.set_cons_succ, i64_w, i32_w]
    rfl
  refine pure_ (i := 5) (N := some 26) (v := ?_) (a' := ?_) #[false, true, true, false, false, true, false, false, false, false, false, false, false, false] rfl rfl (any_of HT_.out (by kernel_rfl)) (fun _ _ _ h => h) (Or.inl ⟨by rfl, ?_⟩) ?_ ?_
  rotate_left
  · intro w'
    go_simp
    with_reducible rfl
  rotate_left
  · simp only [Act.put, List.setIfInBounds_toArray, List.set_cons_zero, List.set_cons_succ, i64_w, i32_w]
    rfl
  refine take_ (i := 6) (N := some 27) (v := ?_) (a' := ?_) #[false, true, true, false, false, true, true, false, false, false, false, false, false, false] rfl rfl (take_ofW HT_.out HW_.out (by kernel_rfl)) (fun _ _ _ h => h) (Or.inl ⟨by rfl, ?_⟩) hHeld ?_ ?_
  rotate_left
  · intro w' hW
    have q0 : w'.cell? ⟨w.heap.size, 0, none⟩ = some (.string x.f0) := by rw [blk_cell hW]; rfl
    have q1 : w'.cell? ⟨w.heap.size, 1, none⟩ = some (.string x.f1) := by rw [blk_cell hW]; rfl
    have q2 : w'.cell? ⟨w.heap.size, 2, none⟩ = some (.int .i64 x.f2) := by rw [blk_cell hW]; rfl
    have q3 : w'.cell? ⟨w.heap.size, 3, none⟩ = some (.int .i64 x.f3) := by rw [blk_cell hW]; rfl
    have q4 : w'.cell? ⟨w.heap.size, 4, none⟩ = some (.int .i64 x.f4) := by rw [blk_cell hW]; rfl
    have q5 : w'.cell? ⟨w.heap.size, 5, none⟩ = some (.int .i64 x.f5) := by rw [blk_cell hW]; rfl
    have q6 : w'.cell? ⟨w.heap.size, 6, none⟩ = some (.int .u8 x.f6.f0) := by rw [blk_cell hW]; rfl
    have q7 : w'.cell? ⟨w.heap.size, 7, none⟩ = some (.int .u8 x.f6.f1) := by rw [blk_cell hW]; rfl
    have q8 : w'.cell? ⟨w.heap.size, 8, none⟩ = some (.int .u8 x.f6.f2) := by rw [blk_cell hW]; rfl
    have q9 : w'.cell? ⟨w.heap.size, 9, none⟩ = some (.int .u8 x.f6.f3) := by rw [blk_cell hW]; rfl
    have q10 : w'.cell? ⟨w.heap.size, 10, none⟩ = some (.int .u8 x.f6.f4) := by rw [blk_cell hW]; rfl
    have q11 : w'.cell? ⟨w.heap.size, 11, none⟩ = some (.int .u8 x.f6.f5) := by rw [blk_cell hW]; rfl
    have q12 : w'.cell? ⟨w.heap.size, 12, none⟩ = some (.int .u8 x.f6.f6) := by rw [blk_cell hW]; rfl
    have q13 : w'.cell? ⟨w.heap.size, 13, none⟩ = some (.int .u8 x.f6.f7) := by rw [blk_cell hW]; rfl
    have q14 : w'.cell? ⟨w.heap.size, 14, none⟩ = some (.int .u8 x.f6.f8) := by rw [blk_cell hW]; rfl
    have q15 : w'.cell? ⟨w.heap.size, 15, none⟩ = some (.int .u8 x.f6.f9) := by rw [blk_cell hW]; rfl
    have q16 : w'.cell? ⟨w.heap.size, 16, none⟩ = some (.int .u8 x.f6.f10) := by rw [blk_cell hW]; rfl
    have q17 : w'.cell? ⟨w.heap.size, 17, none⟩ = some (.int .u8 x.f6.f11) := by rw [blk_cell hW]; rfl
    have q18 : w'.cell? ⟨w.heap.size, 18, none⟩ = some (.int .u8 x.f6.f12) := by rw [blk_cell hW]; rfl
    have q19 : w'.cell? ⟨w.heap.size, 19, none⟩ = some (.int .u8 x.f6.f13) := by rw [blk_cell hW]; rfl
    have q20 : w'.cell? ⟨w.heap.size, 20, none⟩ = some (.int .u8 x.f6.f14) := by rw [blk_cell hW]; rfl
    have q21 : w'.cell? ⟨w.heap.size, 21, none⟩ = some (.int .u8 x.f6.f15) := by rw [blk_cell hW]; rfl
    go_simp
    with_reducible rfl
  rotate_left
  · simp only [Act.put, List.setIfInBounds_toArray, List.set_cons_zero, List.set_cons_succ, i64_w, i32_w]
    rfl
  refine pure_ (i := 9) (N := some 30) (v := ?_) (a' := ?_) #[false, true, true, false, false, true, true, false, false, true, false, false, false, false] rfl rfl (any_of HT_.out (by kernel_rfl)) (fun _ _ _ h => h) (Or.inl ⟨by rfl, ?_⟩) ?_ ?_
  rotate_left
  · intro w'
    go_simp
    with_reducible rfl
  rotate_left
  · simp only [Act.put, List.setIfInBounds_toArray, List.set_cons_zero, List.set_cons_succ, i64_w, i32_w]
    rfl
  refine take_ (i := 10) (N := some 31) (v := ?_) (a' := ?_) #[false, true, true, false, false, true, true, false, false, true, true, false, false, false] rfl rfl (take_ofW HT_.out HW_.out (by kernel_rfl)) (fun _ _ _ h => h) (Or.inl ⟨by rfl, ?_⟩) hHeld ?_ ?_
  rotate_left
  · intro w' hW
    have q0 : w'.cell? ⟨w.heap.size, 0, none⟩ = some (.string x.f0) := by rw [blk_cell hW]; rfl
    have q1 : w'.cell? ⟨w.heap.size, 1, none⟩ = some (.string x.f1) := by rw [blk_cell hW]; rfl
    have q2 : w'.cell? ⟨w.heap.size, 2, none⟩ = some (.int .i64 x.f2) := by rw [blk_cell hW]; rfl
    have q3 : w'.cell? ⟨w.heap.size, 3, none⟩ = some (.int .i64 x.f3) := by rw [blk_cell hW]; rfl
    have q4 : w'.cell? ⟨w.heap.size, 4, none⟩ = some (.int .i64 x.f4) := by rw [blk_cell hW]; rfl
    have q5 : w'.cell? ⟨w.heap.size, 5, none⟩ = some (.int .i64 x.f5) := by rw [blk_cell hW]; rfl
    have q6 : w'.cell? ⟨w.heap.size, 6, none⟩ = some (.int .u8 x.f6.f0) := by rw [blk_cell hW]; rfl
    have q7 : w'.cell? ⟨w.heap.size, 7, none⟩ = some (.int .u8 x.f6.f1) := by rw [blk_cell hW]; rfl
    have q8 : w'.cell? ⟨w.heap.size, 8, none⟩ = some (.int .u8 x.f6.f2) := by rw [blk_cell hW]; rfl
    have q9 : w'.cell? ⟨w.heap.size, 9, none⟩ = some (.int .u8 x.f6.f3) := by rw [blk_cell hW]; rfl
    have q10 : w'.cell? ⟨w.heap.size, 10, none⟩ = some (.int .u8 x.f6.f4) := by rw [blk_cell hW]; rfl
    have q11 : w'.cell? ⟨w.heap.size, 11, none⟩ = some (.int .u8 x.f6.f5) := by rw [blk_cell hW]; rfl
    have q12 : w'.cell? ⟨w.heap.size, 12, none⟩ = some (.int .u8 x.f6.f6) := by rw [blk_cell hW]; rfl
    have q13 : w'.cell? ⟨w.heap.size, 13, none⟩ = some (.int .u8 x.f6.f7) := by rw [blk_cell hW]; rfl
    have q14 : w'.cell? ⟨w.heap.size, 14, none⟩ = some (.int .u8 x.f6.f8) := by rw [blk_cell hW]; rfl
    have q15 : w'.cell? ⟨w.heap.size, 15, none⟩ = some (.int .u8 x.f6.f9) := by rw [blk_cell hW]; rfl
    have q16 : w'.cell? ⟨w.heap.size, 16, none⟩ = some (.int .u8 x.f6.f10) := by rw [blk_cell hW]; rfl
    have q17 : w'.cell? ⟨w.heap.size, 17, none⟩ = some (.int .u8 x.f6.f11) := by rw [blk_cell hW]; rfl
    have q18 : w'.cell? ⟨w.heap.size, 18, none⟩ = some (.int .u8 x.f6.f12) := by rw [blk_cell hW]; rfl
    have q19 : w'.cell? ⟨w.heap.size, 19, none⟩ = some (.int .u8 x.f6.f13) := by rw [blk_cell hW]; rfl
    have q20 : w'.cell? ⟨w.heap.size, 20, none⟩ = some (.int .u8 x.f6.f14) := by rw [blk_cell hW]; rfl
    have q21 : w'.cell? ⟨w.heap.size, 21, none⟩ = some (.int .u8 x.f6.f15) := by rw [blk_cell hW]; rfl
    go_simp
    with_reducible rfl
  rotate_left
  · simp only [Act.put, List.setIfInBounds_toArray, List.set_cons_zero, List.set_cons_succ, i64_w, i32_w]
    rfl
  refine one_ (i := 0) (N := some 21) #[true, true, true, false, false, true, true, false, false, true, true, false, false, false] rfl rfl (one_of HT_.out (by kernel_rfl)) (by decide) (fun K hK => ?_)
  refine goes_ Try.func104 (by kernel_rfl) rfl #[.int .i64 65534, .int .i64 2] (by rfl) rfl rfl (by (try simp only [List.map_toArray, List.map_cons, List.map_nil]); first | done | go_simp) ?_
  refine (H0.out _).mono ?_
  rintro e w2 ⟨rfl, hb⟩
  refine ⟨_, rfl, ?_⟩
  have GX0 := Aside0.mk (blk_below GX.out hb)
  have GB0 := Aside0.mk (below_tr3 (w := w) GB.out hb)
  clear hb GX GB hHeld
  refine hK.out _ _ (GX0.out) (fun hHeld => ?_)
  clear hK K
  refine norm_ (a' := ?_) ?_ ?_
  rotate_left
  · show Act.put _ (some 21) _ = _
    simp only [Act.put, List.setIfInBounds_toArray, List.set_cons_zero, List.set_cons_succ, i64_w, i32_w]
    rfl
  refine one_ (i := 3) (N := some 24) #[true, true, true, true, false, true, true, false, false, true, true, false, false, false] rfl rfl (one_of HT_.out (by kernel_rfl)) (by decide) (fun K hK => ?_)
  refine goes_ Try.func104 (by kernel_rfl) rfl #[.int .i64 x.f4, .int .i64 4] (by rfl) rfl rfl (by (try simp only [List.map_toArray, List.map_cons, List.map_nil]); first | done | go_simp) ?_
  refine (H1.out _).mono ?_
  rintro e w3 ⟨rfl, hb⟩
  refine ⟨_, rfl, ?_⟩
  have GX1 := Aside0.mk (blk_below GX0.out hb)
  have GB1 := Aside0.mk (below_tr3 (w := w) GB0.out hb)
  clear hb GX0 GB0 hHeld
  refine hK.out _ _ (GX1.out) (fun hHeld => ?_)
  clear hK K
  refine norm_ (a' := ?_) ?_ ?_
  rotate_left
  · show Act.put _ (some 24) _ = _
    simp only [Act.put, List.setIfInBounds_toArray, List.set_cons_zero, List.set_cons_succ, i64_w, i32_w]
    rfl
  refine pure_ (i := 4) (N := some 25) (v := ?_) (a' := ?_) #[true, true, true, true, true, true, true, false, false, true, true, false, false, false] rfl rfl (any_of HT_.out (by kernel_rfl)) (fun _ _ _ h => h) (Or.inl ⟨by rfl, ?_⟩) ?_ ?_
  rotate_left
  · intro w'
    go_simp
    with_reducible rfl
  rotate_left
  · simp only [Act.put, List.setIfInBounds_toArray, List.set_cons_zero, List.set_cons_succ, i64_w, i32_w]
    rfl
  refine one_ (i := 7) (N := some 28) #[true, true, true, true, true, true, true, true, false, true, true, false, false, false] rfl rfl (one_of HT_.out (by kernel_rfl)) (by decide) (fun K hK => ?_)
  refine goes_ Try.func104 (by kernel_rfl) rfl #[.int .i64 x.f5, .int .i64 4] (by rfl) rfl rfl (by (try simp only [List.map_toArray, List.map_cons, List.map_nil]); first | done | go_simp) ?_
  refine (H2.out _).mono ?_
  rintro e w4 ⟨rfl, hb⟩
  refine ⟨_, rfl, ?_⟩
  have GX2 := Aside0.mk (blk_below GX1.out hb)
  have GB2 := Aside0.mk (below_tr3 (w := w) GB1.out hb)
  clear hb GX1 GB1 hHeld
  refine hK.out _ _ (GX2.out) (fun hHeld => ?_)
  clear hK K
  refine norm_ (a' := ?_) ?_ ?_
  rotate_left
  · show Act.put _ (some 28) _ = _
    simp only [Act.put, List.setIfInBounds_toArray, List.set_cons_zero, List.set_cons_succ, i64_w, i32_w]
    rfl
  refine pure_ (i := 8) (N := some 29) (v := ?_) (a' := ?_) #[true, true, true, true, true, true, true, true, true, true, true, false, false, false] rfl rfl (any_of HT_.out (by kernel_rfl)) (fun _ _ _ h => h) (Or.inl ⟨by rfl, ?_⟩) ?_ ?_
  rotate_left
  · intro w'
    go_simp
    with_reducible rfl
  rotate_left
  · simp only [Act.put, List.setIfInBounds_toArray, List.set_cons_zero, List.set_cons_succ, i64_w, i32_w]
    rfl
  refine one_ (i := 11) (N := some 32) #[true, true, true, true, true, true, true, true, true, true, true, true, false, false] rfl rfl (one_of HT_.out (by kernel_rfl)) (by decide) (fun K hK => ?_)
  refine goes_ Try.func105 (by kernel_rfl) rfl #[.agg #[.int .u8 x.f6.f0, .int .u8 x.f6.f1, .int .u8 x.f6.f2, .int .u8 x.f6.f3, .int .u8 x.f6.f4, .int .u8 x.f6.f5, .int .u8 x.f6.f6, .int .u8 x.f6.f7, .int .u8 x.f6.f8, .int .u8 x.f6.f9, .int .u8 x.f6.f10, .int .u8 x.f6.f11, .int .u8 x.f6.f12, .int .u8 x.f6.f13, .int .u8 x.f6.f14, .int .u8 x.f6.f15]] (by rfl) rfl rfl (by (try simp only [List.map_toArray, List.map_cons, List.map_nil]); first | done | go_simp) ?_
  refine (H3.out _).mono ?_
  rintro e w5 ⟨rfl, hb⟩
  refine ⟨_, rfl, ?_⟩
  have GX3 := Aside0.mk (blk_below GX2.out hb)
  have GB3 := Aside0.mk (below_tr3 (w := w) GB2.out hb)
  clear hb GX2 GB2 hHeld
  refine hK.out _ _ (GX3.out) (fun hHeld => ?_)
  clear hK K
  refine norm_ (a' := ?_) ?_ ?_
  rotate_left
  · show Act.put _ (some 32) _ = _
    simp only [Act.put, List.setIfInBounds_toArray, List.set_cons_zero, List.set_cons_succ, i64_w, i32_w]
    rfl
  refine pure_ (i := 12) (N := some 33) (v := ?_) (a' := ?_) #[true, true, true, true, true, true, true, true, true, true, true, true, true, false] rfl rfl (any_of HT_.out (by kernel_rfl)) (fun _ _ _ h => h) (Or.inl ⟨by rfl, ?_⟩) ?_ ?_
  rotate_left
  · intro w'
    go_simp
    with_reducible rfl
  rotate_left
  · simp only [Act.put, List.setIfInBounds_toArray, List.set_cons_zero, List.set_cons_succ, i64_w, i32_w]
    rfl
  refine pure_ (i := 13) (N := some 4) (v := ?_) (a' := ?_) #[true, true, true, true, true, true, true, true, true, true, true, true, true, true] rfl rfl (any_of HT_.out (by kernel_rfl)) (fun _ _ _ h => h) (Or.inl ⟨by rfl, ?_⟩) ?_ ?_
  rotate_left
  · intro w'
    go_simp
    with_reducible rfl
  rotate_left
  · simp only [Act.put, List.setIfInBounds_toArray, List.set_cons_zero, List.set_cons_succ, i64_w, i32_w]
    rfl
  refine done_ (done_of HT_.out (by kernel_rfl)) ?_
  go_wp2_with fail
  go_ret
  exact ⟨by simp, GB3.out⟩
def rg89_6_T : Bool × List (List Nat × List Nat) := (true, [([], []), ([], []), ([1], [1]), ([2, 0], [2]), ([0, 3], [0, 3]), ([], []), ([5], [5]), ([6, 3], [6]), ([4, 7], [4, 7]), ([], []), ([9], [9]), ([10, 7], [10]), ([8, 11], [8, 11]), ([12, 11, 0, 1, 2, 3, 4, 5, 6, 7, 8, 9, 10, 11, 12], [12])])
def rg89_6_B : List Nat := [0, 0, 2, 7, 15, 0, 32, 111, 255, 0, 512, 1775, 4095, 8191]
theorem rg89_6_tab : rtab .any (opsOf Try.f89 6) = rg89_6_T := by kernel_rfl
theorem rg89_6_bits : waitsOk rg89_6_T.2 rg89_6_B = true := by kernel_rfl
set_option maxRecDepth 100000 in
set_option maxHeartbeats 4000000 in
theorem rest_3 (x : S77) (level : Int) (w : World) (s0 s1 s2 s3 : ByteArray) (hl : ¬ 0 < level) (h4 : (x.f4 == 0) = true) (h2 : (x.f2 == 0) = false) (hsz : s0.size ≤ 100 ∧ s1.size ≤ 100 ∧ s2.size ≤ 100 ∧ s3.size ≤ 100) (H0 : Aside0 (∀ w, Calls Try.prog 104 #[.int .i64 65535, .int .i64 2] w fun e w' => e = .returned (.string s0) ∧ Below w.heap.size w w')) (H1 : Aside0 (∀ w, Calls Try.prog 104 #[.int .i64 x.f2, .int .i64 4] w fun e w' => e = .returned (.string s1) ∧ Below w.heap.size w w')) (H2 : Aside0 (∀ w, Calls Try.prog 104 #[.int .i64 x.f3, .int .i64 2] w fun e w' => e = .returned (.string s2) ∧ Below w.heap.size w w')) (H3 : Aside0 (∀ w, Calls Try.prog 105 #[.agg #[.int .u8 x.f6.f0, .int .u8 x.f6.f1, .int .u8 x.f6.f2, .int .u8 x.f6.f3, .int .u8 x.f6.f4, .int .u8 x.f6.f5, .int .u8 x.f6.f6, .int .u8 x.f6.f7, .int .u8 x.f6.f8, .int .u8 x.f6.f9, .int .u8 x.f6.f10, .int .u8 x.f6.f11, .int .u8 x.f6.f12, .int .u8 x.f6.f13, .int .u8 x.f6.f14, .int .u8 x.f6.f15]] w fun e w' => e = .returned (.string s3) ∧ Below w.heap.size w w'))
    : Calls Try.prog 89 #[.agg (entC x), .int .i64 level] w fun e w' => e = .returned (.string (((s0 ++ s1) ++ s2) ++ s3)) ∧ Below w.heap.size w w' := by
  have hl1 : decide (0 < level) = false := decide_eq_false hl
  clear hl
  have b0 : (9223372036854775807 < s0.size + s1.size) = False := eq_false (by omega)
  have b1 : (9223372036854775807 < s0.size + s1.size + s2.size) = False := eq_false (by omega)
  have b2 : (9223372036854775807 < s0.size + s1.size + s2.size + s3.size) = False := eq_false (by omega)
  clear hsz
  unfold entC
  go_enter Try.func89, Try.ntmps89
  go_wp2_with fail
  have GX := Aside0.mk (blk_drew (blk_new w (.cells #[.string x.f0, .string x.f1, .int .i64 x.f2, .int .i64 x.f3, .int .i64 x.f4, .int .i64 x.f5, .int .u8 x.f6.f0, .int .u8 x.f6.f1, .int .u8 x.f6.f2, .int .u8 x.f6.f3, .int .u8 x.f6.f4, .int .u8 x.f6.f5, .int .u8 x.f6.f6, .int .u8 x.f6.f7, .int .u8 x.f6.f8, .int .u8 x.f6.f9, .int .u8 x.f6.f10, .int .u8 x.f6.f11, .int .u8 x.f6.f12, .int .u8 x.f6.f13, .int .u8 x.f6.f14, .int .u8 x.f6.f15] 77)))
  have GB := Aside0.mk (below_drew1 (below_alloc (Below.refl w.heap.size w) (.cells #[.string x.f0, .string x.f1, .int .i64 x.f2, .int .i64 x.f3, .int .i64 x.f4, .int .i64 x.f5, .int .u8 x.f6.f0, .int .u8 x.f6.f1, .int .u8 x.f6.f2, .int .u8 x.f6.f3, .int .u8 x.f6.f4, .int .u8 x.f6.f5, .int .u8 x.f6.f6, .int .u8 x.f6.f7, .int .u8 x.f6.f8, .int .u8 x.f6.f9, .int .u8 x.f6.f10, .int .u8 x.f6.f11, .int .u8 x.f6.f12, .int .u8 x.f6.f13, .int .u8 x.f6.f14, .int .u8 x.f6.f15] 77)))
  generalize w.alloc (.cells #[.string x.f0, .string x.f1, .int .i64 x.f2, .int .i64 x.f3, .int .i64 x.f4, .int .i64 x.f5, .int .u8 x.f6.f0, .int .u8 x.f6.f1, .int .u8 x.f6.f2, .int .u8 x.f6.f3, .int .u8 x.f6.f4, .int .u8 x.f6.f5, .int .u8 x.f6.f6, .int .u8 x.f6.f7, .int .u8 x.f6.f8, .int .u8 x.f6.f9, .int .u8 x.f6.f10, .int .u8 x.f6.f11, .int .u8 x.f6.f12, .int .u8 x.f6.f13, .int .u8 x.f6.f14, .int .u8 x.f6.f15] 77) = W0 at GX GB ⊢
  refine start_ (n := 14) (S := fun W => W.heap[w.heap.size]? = some (.cells #[.string x.f0, .string x.f1, .int .i64 x.f2, .int .i64 x.f3, .int .i64 x.f4, .int .i64 x.f5, .int .u8 x.f6.f0, .int .u8 x.f6.f1, .int .u8 x.f6.f2, .int .u8 x.f6.f3, .int .u8 x.f6.f4, .int .u8 x.f6.f5, .int .u8 x.f6.f6, .int .u8 x.f6.f7, .int .u8 x.f6.f8, .int .u8 x.f6.f9, .int .u8 x.f6.f10, .int .u8 x.f6.f11, .int .u8 x.f6.f12, .int .u8 x.f6.f13, .int .u8 x.f6.f14, .int .u8 x.f6.f15] 77 (0, 0))) (ds := []) #[false, false, false, false, false, false, false, false, false, false, false, false, false, false] (by kernel_rfl) rfl rfl (GX.out) (fun hHeld => ?_)
  refine with_tabW rg89_6_tab rg89_6_bits (fun HT_ HW_ => ?_)
  generalize W0.drew = w1 at GX GB hHeld ⊢
  refine pure_ (i := 1) (N := some 38) (v := ?_) (a' := ?_) #[false, true, false, false, false, false, false, false, false, false, false, false, false, false] rfl rfl (any_of HT_.out (by kernel_rfl)) (fun _ _ _ h => h) (Or.inl ⟨by rfl, ?_⟩) ?_ ?_
  rotate_left
  · intro w'
    go_simp
    with_reducible rfl
  rotate_left
  · simp only [Act.put, List.setIfInBounds_toArray, List.set_cons_zero, List.set_cons_succ, i64_w, i32_w]
    rfl
  refine take_ (i := 2) (N := some 39) (v := ?_) (a' := ?_) #[false, true, true, false, false, false, false, false, false, false, false, false, false, false] rfl rfl (take_ofW HT_.out HW_.out (by kernel_rfl)) (fun _ _ _ h => h) (Or.inl ⟨by rfl, ?_⟩) hHeld ?_ ?_
  rotate_left
  · intro w' hW
    have q0 : w'.cell? ⟨w.heap.size, 0, none⟩ = some (.string x.f0) := by rw [blk_cell hW]; rfl
    have q1 : w'.cell? ⟨w.heap.size, 1, none⟩ = some (.string x.f1) := by rw [blk_cell hW]; rfl
    have q2 : w'.cell? ⟨w.heap.size, 2, none⟩ = some (.int .i64 x.f2) := by rw [blk_cell hW]; rfl
    have q3 : w'.cell? ⟨w.heap.size, 3, none⟩ = some (.int .i64 x.f3) := by rw [blk_cell hW]; rfl
    have q4 : w'.cell? ⟨w.heap.size, 4, none⟩ = some (.int .i64 x.f4) := by rw [blk_cell hW]; rfl
    have q5 : w'.cell? ⟨w.heap.size, 5, none⟩ = some (.int .i64 x.f5) := by rw [blk_cell hW]; rfl
    have q6 : w'.cell? ⟨w.heap.size, 6, none⟩ = some (.int .u8 x.f6.f0) := by rw [blk_cell hW]; rfl
    have q7 : w'.cell? ⟨w.heap.size, 7, none⟩ = some (.int .u8 x.f6.f1) := by rw [blk_cell hW]; rfl
    have q8 : w'.cell? ⟨w.heap.size, 8, none⟩ = some (.int .u8 x.f6.f2) := by rw [blk_cell hW]; rfl
    have q9 : w'.cell? ⟨w.heap.size, 9, none⟩ = some (.int .u8 x.f6.f3) := by rw [blk_cell hW]; rfl
    have q10 : w'.cell? ⟨w.heap.size, 10, none⟩ = some (.int .u8 x.f6.f4) := by rw [blk_cell hW]; rfl
    have q11 : w'.cell? ⟨w.heap.size, 11, none⟩ = some (.int .u8 x.f6.f5) := by rw [blk_cell hW]; rfl
    have q12 : w'.cell? ⟨w.heap.size, 12, none⟩ = some (.int .u8 x.f6.f6) := by rw [blk_cell hW]; rfl
    have q13 : w'.cell? ⟨w.heap.size, 13, none⟩ = some (.int .u8 x.f6.f7) := by rw [blk_cell hW]; rfl
    have q14 : w'.cell? ⟨w.heap.size, 14, none⟩ = some (.int .u8 x.f6.f8) := by rw [blk_cell hW]; rfl
    have q15 : w'.cell? ⟨w.heap.size, 15, none⟩ = some (.int .u8 x.f6.f9) := by rw [blk_cell hW]; rfl
    have q16 : w'.cell? ⟨w.heap.size, 16, none⟩ = some (.int .u8 x.f6.f10) := by rw [blk_cell hW]; rfl
    have q17 : w'.cell? ⟨w.heap.size, 17, none⟩ = some (.int .u8 x.f6.f11) := by rw [blk_cell hW]; rfl
    have q18 : w'.cell? ⟨w.heap.size, 18, none⟩ = some (.int .u8 x.f6.f12) := by rw [blk_cell hW]; rfl
    have q19 : w'.cell? ⟨w.heap.size, 19, none⟩ = some (.int .u8 x.f6.f13) := by rw [blk_cell hW]; rfl
    have q20 : w'.cell? ⟨w.heap.size, 20, none⟩ = some (.int .u8 x.f6.f14) := by rw [blk_cell hW]; rfl
    have q21 : w'.cell? ⟨w.heap.size, 21, none⟩ = some (.int .u8 x.f6.f15) := by rw [blk_cell hW]; rfl
    go_simp
    with_reducible rfl
  rotate_left
  · simp only [Act.put, List.setIfInBounds_toArray, List.set_cons_zero, List.set_cons_succ, i64_w, i32_w]
    rfl
  refine pure_ (i := 5) (N := some 42) (v := ?_) (a' := ?_) #[false, true, true, false, false, true, false, false, false, false, false, false, false, false] rfl rfl (any_of HT_.out (by kernel_rfl)) (fun _ _ _ h => h) (Or.inl ⟨by rfl, ?_⟩) ?_ ?_
  rotate_left
  · intro w'
    go_simp
    with_reducible rfl
  rotate_left
  · simp only [Act.put, List.setIfInBounds_toArray, List.set_cons_zero, List.set_cons_succ, i64_w, i32_w]
    rfl
  refine take_ (i := 6) (N := some 43) (v := ?_) (a' := ?_) #[false, true, true, false, false, true, true, false, false, false, false, false, false, false] rfl rfl (take_ofW HT_.out HW_.out (by kernel_rfl)) (fun _ _ _ h => h) (Or.inl ⟨by rfl, ?_⟩) hHeld ?_ ?_
  rotate_left
  · intro w' hW
    have q0 : w'.cell? ⟨w.heap.size, 0, none⟩ = some (.string x.f0) := by rw [blk_cell hW]; rfl
    have q1 : w'.cell? ⟨w.heap.size, 1, none⟩ = some (.string x.f1) := by rw [blk_cell hW]; rfl
    have q2 : w'.cell? ⟨w.heap.size, 2, none⟩ = some (.int .i64 x.f2) := by rw [blk_cell hW]; rfl
    have q3 : w'.cell? ⟨w.heap.size, 3, none⟩ = some (.int .i64 x.f3) := by rw [blk_cell hW]; rfl
    have q4 : w'.cell? ⟨w.heap.size, 4, none⟩ = some (.int .i64 x.f4) := by rw [blk_cell hW]; rfl
    have q5 : w'.cell? ⟨w.heap.size, 5, none⟩ = some (.int .i64 x.f5) := by rw [blk_cell hW]; rfl
    have q6 : w'.cell? ⟨w.heap.size, 6, none⟩ = some (.int .u8 x.f6.f0) := by rw [blk_cell hW]; rfl
    have q7 : w'.cell? ⟨w.heap.size, 7, none⟩ = some (.int .u8 x.f6.f1) := by rw [blk_cell hW]; rfl
    have q8 : w'.cell? ⟨w.heap.size, 8, none⟩ = some (.int .u8 x.f6.f2) := by rw [blk_cell hW]; rfl
    have q9 : w'.cell? ⟨w.heap.size, 9, none⟩ = some (.int .u8 x.f6.f3) := by rw [blk_cell hW]; rfl
    have q10 : w'.cell? ⟨w.heap.size, 10, none⟩ = some (.int .u8 x.f6.f4) := by rw [blk_cell hW]; rfl
    have q11 : w'.cell? ⟨w.heap.size, 11, none⟩ = some (.int .u8 x.f6.f5) := by rw [blk_cell hW]; rfl
    have q12 : w'.cell? ⟨w.heap.size, 12, none⟩ = some (.int .u8 x.f6.f6) := by rw [blk_cell hW]; rfl
    have q13 : w'.cell? ⟨w.heap.size, 13, none⟩ = some (.int .u8 x.f6.f7) := by rw [blk_cell hW]; rfl
    have q14 : w'.cell? ⟨w.heap.size, 14, none⟩ = some (.int .u8 x.f6.f8) := by rw [blk_cell hW]; rfl
    have q15 : w'.cell? ⟨w.heap.size, 15, none⟩ = some (.int .u8 x.f6.f9) := by rw [blk_cell hW]; rfl
    have q16 : w'.cell? ⟨w.heap.size, 16, none⟩ = some (.int .u8 x.f6.f10) := by rw [blk_cell hW]; rfl
    have q17 : w'.cell? ⟨w.heap.size, 17, none⟩ = some (.int .u8 x.f6.f11) := by rw [blk_cell hW]; rfl
    have q18 : w'.cell? ⟨w.heap.size, 18, none⟩ = some (.int .u8 x.f6.f12) := by rw [blk_cell hW]; rfl
    have q19 : w'.cell? ⟨w.heap.size, 19, none⟩ = some (.int .u8 x.f6.f13) := by rw [blk_cell hW]; rfl
    have q20 : w'.cell? ⟨w.heap.size, 20, none⟩ = some (.int .u8 x.f6.f14) := by rw [blk_cell hW]; rfl
    have q21 : w'.cell? ⟨w.heap.size, 21, none⟩ = some (.int .u8 x.f6.f15) := by rw [blk_cell hW]; rfl
    go_simp
    with_reducible rfl
  rotate_left
  · simp only [Act.put, List.setIfInBounds_toArray, List.set_cons_zero, List.set_cons_succ, i64_w, i32_w]
    rfl
  refine pure_ (i := 9) (N := some 46) (v := ?_) (a' := ?_) #[false, true, true, false, false, true, true, false, false, true, false, false, false, false] rfl rfl (any_of HT_.out (by kernel_rfl)) (fun _ _ _ h => h) (Or.inl ⟨by rfl, ?_⟩) ?_ ?_
  rotate_left
  · intro w'
    go_simp
    with_reducible rfl
  rotate_left
  · simp only [Act.put, List.setIfInBounds_toArray, List.set_cons_zero, List.set_cons_succ, i64_w, i32_w]
    rfl
  refine take_ (i := 10) (N := some 47) (v := ?_) (a' := ?_) #[false, true, true, false, false, true, true, false, false, true, true, false, false, false] rfl rfl (take_ofW HT_.out HW_.out (by kernel_rfl)) (fun _ _ _ h => h) (Or.inl ⟨by rfl, ?_⟩) hHeld ?_ ?_
  rotate_left
  · intro w' hW
    have q0 : w'.cell? ⟨w.heap.size, 0, none⟩ = some (.string x.f0) := by rw [blk_cell hW]; rfl
    have q1 : w'.cell? ⟨w.heap.size, 1, none⟩ = some (.string x.f1) := by rw [blk_cell hW]; rfl
    have q2 : w'.cell? ⟨w.heap.size, 2, none⟩ = some (.int .i64 x.f2) := by rw [blk_cell hW]; rfl
    have q3 : w'.cell? ⟨w.heap.size, 3, none⟩ = some (.int .i64 x.f3) := by rw [blk_cell hW]; rfl
    have q4 : w'.cell? ⟨w.heap.size, 4, none⟩ = some (.int .i64 x.f4) := by rw [blk_cell hW]; rfl
    have q5 : w'.cell? ⟨w.heap.size, 5, none⟩ = some (.int .i64 x.f5) := by rw [blk_cell hW]; rfl
    have q6 : w'.cell? ⟨w.heap.size, 6, none⟩ = some (.int .u8 x.f6.f0) := by rw [blk_cell hW]; rfl
    have q7 : w'.cell? ⟨w.heap.size, 7, none⟩ = some (.int .u8 x.f6.f1) := by rw [blk_cell hW]; rfl
    have q8 : w'.cell? ⟨w.heap.size, 8, none⟩ = some (.int .u8 x.f6.f2) := by rw [blk_cell hW]; rfl
    have q9 : w'.cell? ⟨w.heap.size, 9, none⟩ = some (.int .u8 x.f6.f3) := by rw [blk_cell hW]; rfl
    have q10 : w'.cell? ⟨w.heap.size, 10, none⟩ = some (.int .u8 x.f6.f4) := by rw [blk_cell hW]; rfl
    have q11 : w'.cell? ⟨w.heap.size, 11, none⟩ = some (.int .u8 x.f6.f5) := by rw [blk_cell hW]; rfl
    have q12 : w'.cell? ⟨w.heap.size, 12, none⟩ = some (.int .u8 x.f6.f6) := by rw [blk_cell hW]; rfl
    have q13 : w'.cell? ⟨w.heap.size, 13, none⟩ = some (.int .u8 x.f6.f7) := by rw [blk_cell hW]; rfl
    have q14 : w'.cell? ⟨w.heap.size, 14, none⟩ = some (.int .u8 x.f6.f8) := by rw [blk_cell hW]; rfl
    have q15 : w'.cell? ⟨w.heap.size, 15, none⟩ = some (.int .u8 x.f6.f9) := by rw [blk_cell hW]; rfl
    have q16 : w'.cell? ⟨w.heap.size, 16, none⟩ = some (.int .u8 x.f6.f10) := by rw [blk_cell hW]; rfl
    have q17 : w'.cell? ⟨w.heap.size, 17, none⟩ = some (.int .u8 x.f6.f11) := by rw [blk_cell hW]; rfl
    have q18 : w'.cell? ⟨w.heap.size, 18, none⟩ = some (.int .u8 x.f6.f12) := by rw [blk_cell hW]; rfl
    have q19 : w'.cell? ⟨w.heap.size, 19, none⟩ = some (.int .u8 x.f6.f13) := by rw [blk_cell hW]; rfl
    have q20 : w'.cell? ⟨w.heap.size, 20, none⟩ = some (.int .u8 x.f6.f14) := by rw [blk_cell hW]; rfl
    have q21 : w'.cell? ⟨w.heap.size, 21, none⟩ = some (.int .u8 x.f6.f15) := by rw [blk_cell hW]; rfl
    go_simp
    with_reducible rfl
  rotate_left
  · simp only [Act.put, List.setIfInBounds_toArray, List.set_cons_zero, List.set_cons_succ, i64_w, i32_w]
    rfl
  refine one_ (i := 0) (N := some 37) #[true, true, true, false, false, true, true, false, false, true, true, false, false, false] rfl rfl (one_of HT_.out (by kernel_rfl)) (by decide) (fun K hK => ?_)
  refine goes_ Try.func104 (by kernel_rfl) rfl #[.int .i64 65535, .int .i64 2] (by rfl) rfl rfl (by (try simp only [List.map_toArray, List.map_cons, List.map_nil]); first | done | go_simp) ?_
  refine (H0.out _).mono ?_
  rintro e w2 ⟨rfl, hb⟩
  refine ⟨_, rfl, ?_⟩
  have GX0 := Aside0.mk (blk_below GX.out hb)
  have GB0 := Aside0.mk (below_tr3 (w := w) GB.out hb)
  clear hb GX GB hHeld
  refine hK.out _ _ (GX0.out) (fun hHeld => ?_)
  clear hK K
  refine norm_ (a' := ?_) ?_ ?_
  rotate_left
  · show Act.put _ (some 37) _ = _
    simp only [Act.put, List.setIfInBounds_toArray, List.set_cons_zero, List.set_cons_succ, i64_w, i32_w]
    rfl
  refine one_ (i := 3) (N := some 40) #[true, true, true, true, false, true, true, false, false, true, true, false, false, false] rfl rfl (one_of HT_.out (by kernel_rfl)) (by decide) (fun K hK => ?_)
  refine goes_ Try.func104 (by kernel_rfl) rfl #[.int .i64 x.f2, .int .i64 4] (by rfl) rfl rfl (by (try simp only [List.map_toArray, List.map_cons, List.map_nil]); first | done | go_simp) ?_
  refine (H1.out _).mono ?_
  rintro e w3 ⟨rfl, hb⟩
  refine ⟨_, rfl, ?_⟩
  have GX1 := Aside0.mk (blk_below GX0.out hb)
  have GB1 := Aside0.mk (below_tr3 (w := w) GB0.out hb)
  clear hb GX0 GB0 hHeld
  refine hK.out _ _ (GX1.out) (fun hHeld => ?_)
  clear hK K
  refine norm_ (a' := ?_) ?_ ?_
  rotate_left
  · show Act.put _ (some 40) _ = _
    simp only [Act.put, List.setIfInBounds_toArray, List.set_cons_zero, List.set_cons_succ, i64_w, i32_w]
    rfl
  refine pure_ (i := 4) (N := some 41) (v := ?_) (a' := ?_) #[true, true, true, true, true, true, true, false, false, true, true, false, false, false] rfl rfl (any_of HT_.out (by kernel_rfl)) (fun _ _ _ h => h) (Or.inl ⟨by rfl, ?_⟩) ?_ ?_
  rotate_left
  · intro w'
    go_simp
    with_reducible rfl
  rotate_left
  · simp only [Act.put, List.setIfInBounds_toArray, List.set_cons_zero, List.set_cons_succ, i64_w, i32_w]
    rfl
  refine one_ (i := 7) (N := some 44) #[true, true, true, true, true, true, true, true, false, true, true, false, false, false] rfl rfl (one_of HT_.out (by kernel_rfl)) (by decide) (fun K hK => ?_)
  refine goes_ Try.func104 (by kernel_rfl) rfl #[.int .i64 x.f3, .int .i64 2] (by rfl) rfl rfl (by (try simp only [List.map_toArray, List.map_cons, List.map_nil]); first | done | go_simp) ?_
  refine (H2.out _).mono ?_
  rintro e w4 ⟨rfl, hb⟩
  refine ⟨_, rfl, ?_⟩
  have GX2 := Aside0.mk (blk_below GX1.out hb)
  have GB2 := Aside0.mk (below_tr3 (w := w) GB1.out hb)
  clear hb GX1 GB1 hHeld
  refine hK.out _ _ (GX2.out) (fun hHeld => ?_)
  clear hK K
  refine norm_ (a' := ?_) ?_ ?_
  rotate_left
  · show Act.put _ (some 44) _ = _
    simp only [Act.put, List.setIfInBounds_toArray, List.set_cons_zero, List.set_cons_succ, i64_w, i32_w]
    rfl
  refine pure_ (i := 8) (N := some 45) (v := ?_) (a' := ?_) #[true, true, true, true, true, true, true, true, true, true, true, false, false, false] rfl rfl (any_of HT_.out (by kernel_rfl)) (fun _ _ _ h => h) (Or.inl ⟨by rfl, ?_⟩) ?_ ?_
  rotate_left
  · intro w'
    go_simp
    with_reducible rfl
  rotate_left
  · simp only [Act.put, List.setIfInBounds_toArray, List.set_cons_zero, List.set_cons_succ, i64_w, i32_w]
    rfl
  refine one_ (i := 11) (N := some 48) #[true, true, true, true, true, true, true, true, true, true, true, true, false, false] rfl rfl (one_of HT_.out (by kernel_rfl)) (by decide) (fun K hK => ?_)
  refine goes_ Try.func105 (by kernel_rfl) rfl #[.agg #[.int .u8 x.f6.f0, .int .u8 x.f6.f1, .int .u8 x.f6.f2, .int .u8 x.f6.f3, .int .u8 x.f6.f4, .int .u8 x.f6.f5, .int .u8 x.f6.f6, .int .u8 x.f6.f7, .int .u8 x.f6.f8, .int .u8 x.f6.f9, .int .u8 x.f6.f10, .int .u8 x.f6.f11, .int .u8 x.f6.f12, .int .u8 x.f6.f13, .int .u8 x.f6.f14, .int .u8 x.f6.f15]] (by rfl) rfl rfl (by (try simp only [List.map_toArray, List.map_cons, List.map_nil]); first | done | go_simp) ?_
  refine (H3.out _).mono ?_
  rintro e w5 ⟨rfl, hb⟩
  refine ⟨_, rfl, ?_⟩
  have GX3 := Aside0.mk (blk_below GX2.out hb)
  have GB3 := Aside0.mk (below_tr3 (w := w) GB2.out hb)
  clear hb GX2 GB2 hHeld
  refine hK.out _ _ (GX3.out) (fun hHeld => ?_)
  clear hK K
  refine norm_ (a' := ?_) ?_ ?_
  rotate_left
  · show Act.put _ (some 48) _ = _
    simp only [Act.put, List.setIfInBounds_toArray, List.set_cons_zero, List.set_cons_succ, i64_w, i32_w]
    rfl
  refine pure_ (i := 12) (N := some 49) (v := ?_) (a' := ?_) #[true, true, true, true, true, true, true, true, true, true, true, true, true, false] rfl rfl (any_of HT_.out (by kernel_rfl)) (fun _ _ _ h => h) (Or.inl ⟨by rfl, ?_⟩) ?_ ?_
  rotate_left
  · intro w'
    go_simp
    with_reducible rfl
  rotate_left
  · simp only [Act.put, List.setIfInBounds_toArray, List.set_cons_zero, List.set_cons_succ, i64_w, i32_w]
    rfl
  refine pure_ (i := 13) (N := some 4) (v := ?_) (a' := ?_) #[true, true, true, true, true, true, true, true, true, true, true, true, true, true] rfl rfl (any_of HT_.out (by kernel_rfl)) (fun _ _ _ h => h) (Or.inl ⟨by rfl, ?_⟩) ?_ ?_
  rotate_left
  · intro w'
    go_simp
    with_reducible rfl
  rotate_left
  · simp only [Act.put, List.setIfInBounds_toArray, List.set_cons_zero, List.set_cons_succ, i64_w, i32_w]
    rfl
  refine done_ (done_of HT_.out (by kernel_rfl)) ?_
  go_wp2_with fail
  go_ret
  exact ⟨by simp, GB3.out⟩
def rg89_7_T : Bool × List (List Nat × List Nat) := (true, [([], []), ([0], [0]), ([1], [1]), ([2], [2]), ([], []), ([4], [4]), ([3, 5], [3, 5]), ([6, 3, 0, 1, 2, 3, 4, 5, 6], [6])])
def rg89_7_B : List Nat := [0, 1, 3, 7, 0, 16, 63, 127]
theorem rg89_7_tab : rtab .any (opsOf Try.f89 7) = rg89_7_T := by kernel_rfl
theorem rg89_7_bits : waitsOk rg89_7_T.2 rg89_7_B = true := by kernel_rfl
set_option maxRecDepth 100000 in
set_option maxHeartbeats 4000000 in
theorem rest_4 (x : S77) (level : Int) (w : World) (s1 : ByteArray) (hl : ¬ 0 < level) (h4 : (x.f4 == 0) = true) (h2 : (x.f2 == 0) = true) (hsz : s1.size ≤ 100 ∧ x.f1.size ≤ 1000000000) (H1 : Aside0 (∀ w, Calls Try.prog 104 #[.int .i64 (x.f1.size : Int), .int .i64 2] w fun e w' => e = .returned (.string s1) ∧ Below w.heap.size w w'))
    : Calls Try.prog 89 #[.agg (entC x), .int .i64 level] w fun e w' => e = .returned (.string (s1 ++ x.f1)) ∧ Below w.heap.size w w' := by
  have hl1 : decide (0 < level) = false := decide_eq_false hl
  clear hl
  have b0 : (9223372036854775807 < s1.size + x.f1.size) = False := eq_false (by omega)
  clear hsz
  unfold entC
  go_enter Try.func89, Try.ntmps89
  go_wp2_with fail
  have GX := Aside0.mk (blk_drew (blk_new w (.cells #[.string x.f0, .string x.f1, .int .i64 x.f2, .int .i64 x.f3, .int .i64 x.f4, .int .i64 x.f5, .int .u8 x.f6.f0, .int .u8 x.f6.f1, .int .u8 x.f6.f2, .int .u8 x.f6.f3, .int .u8 x.f6.f4, .int .u8 x.f6.f5, .int .u8 x.f6.f6, .int .u8 x.f6.f7, .int .u8 x.f6.f8, .int .u8 x.f6.f9, .int .u8 x.f6.f10, .int .u8 x.f6.f11, .int .u8 x.f6.f12, .int .u8 x.f6.f13, .int .u8 x.f6.f14, .int .u8 x.f6.f15] 77)))
  have GB := Aside0.mk (below_drew1 (below_alloc (Below.refl w.heap.size w) (.cells #[.string x.f0, .string x.f1, .int .i64 x.f2, .int .i64 x.f3, .int .i64 x.f4, .int .i64 x.f5, .int .u8 x.f6.f0, .int .u8 x.f6.f1, .int .u8 x.f6.f2, .int .u8 x.f6.f3, .int .u8 x.f6.f4, .int .u8 x.f6.f5, .int .u8 x.f6.f6, .int .u8 x.f6.f7, .int .u8 x.f6.f8, .int .u8 x.f6.f9, .int .u8 x.f6.f10, .int .u8 x.f6.f11, .int .u8 x.f6.f12, .int .u8 x.f6.f13, .int .u8 x.f6.f14, .int .u8 x.f6.f15] 77)))
  generalize w.alloc (.cells #[.string x.f0, .string x.f1, .int .i64 x.f2, .int .i64 x.f3, .int .i64 x.f4, .int .i64 x.f5, .int .u8 x.f6.f0, .int .u8 x.f6.f1, .int .u8 x.f6.f2, .int .u8 x.f6.f3, .int .u8 x.f6.f4, .int .u8 x.f6.f5, .int .u8 x.f6.f6, .int .u8 x.f6.f7, .int .u8 x.f6.f8, .int .u8 x.f6.f9, .int .u8 x.f6.f10, .int .u8 x.f6.f11, .int .u8 x.f6.f12, .int .u8 x.f6.f13, .int .u8 x.f6.f14, .int .u8 x.f6.f15] 77) = W0 at GX GB ⊢
  refine start_ (n := 8) (S := fun W => W.heap[w.heap.size]? = some (.cells #[.string x.f0, .string x.f1, .int .i64 x.f2, .int .i64 x.f3, .int .i64 x.f4, .int .i64 x.f5, .int .u8 x.f6.f0, .int .u8 x.f6.f1, .int .u8 x.f6.f2, .int .u8 x.f6.f3, .int .u8 x.f6.f4, .int .u8 x.f6.f5, .int .u8 x.f6.f6, .int .u8 x.f6.f7, .int .u8 x.f6.f8, .int .u8 x.f6.f9, .int .u8 x.f6.f10, .int .u8 x.f6.f11, .int .u8 x.f6.f12, .int .u8 x.f6.f13, .int .u8 x.f6.f14, .int .u8 x.f6.f15] 77 (0, 0))) (ds := []) #[false, false, false, false, false, false, false, false] (by kernel_rfl) rfl rfl (GX.out) (fun hHeld => ?_)
  refine with_tabW rg89_7_tab rg89_7_bits (fun HT_ HW_ => ?_)
  generalize W0.drew = w1 at GX GB hHeld ⊢
  refine pure_ (i := 0) (N := some 50) (v := ?_) (a' := ?_) #[true, false, false, false, false, false, false, false] rfl rfl (any_of HT_.out (by kernel_rfl)) (fun _ _ _ h => h) (Or.inl ⟨by rfl, ?_⟩) ?_ ?_
  rotate_left
  · intro w'
    go_simp
    with_reducible rfl
  rotate_left
  · simp only [Act.put, List.setIfInBounds_toArray, List.set_cons_zero, List.set_cons_succ, i64_w, i32_w]
    rfl
  refine take_ (i := 1) (N := some 51) (v := ?_) (a' := ?_) #[true, true, false, false, false, false, false, false] rfl rfl (take_ofW HT_.out HW_.out (by kernel_rfl)) (fun _ _ _ h => h) (Or.inl ⟨by rfl, ?_⟩) hHeld ?_ ?_
  rotate_left
  · intro w' hW
    have q0 : w'.cell? ⟨w.heap.size, 0, none⟩ = some (.string x.f0) := by rw [blk_cell hW]; rfl
    have q1 : w'.cell? ⟨w.heap.size, 1, none⟩ = some (.string x.f1) := by rw [blk_cell hW]; rfl
    have q2 : w'.cell? ⟨w.heap.size, 2, none⟩ = some (.int .i64 x.f2) := by rw [blk_cell hW]; rfl
    have q3 : w'.cell? ⟨w.heap.size, 3, none⟩ = some (.int .i64 x.f3) := by rw [blk_cell hW]; rfl
    have q4 : w'.cell? ⟨w.heap.size, 4, none⟩ = some (.int .i64 x.f4) := by rw [blk_cell hW]; rfl
    have q5 : w'.cell? ⟨w.heap.size, 5, none⟩ = some (.int .i64 x.f5) := by rw [blk_cell hW]; rfl
    have q6 : w'.cell? ⟨w.heap.size, 6, none⟩ = some (.int .u8 x.f6.f0) := by rw [blk_cell hW]; rfl
    have q7 : w'.cell? ⟨w.heap.size, 7, none⟩ = some (.int .u8 x.f6.f1) := by rw [blk_cell hW]; rfl
    have q8 : w'.cell? ⟨w.heap.size, 8, none⟩ = some (.int .u8 x.f6.f2) := by rw [blk_cell hW]; rfl
    have q9 : w'.cell? ⟨w.heap.size, 9, none⟩ = some (.int .u8 x.f6.f3) := by rw [blk_cell hW]; rfl
    have q10 : w'.cell? ⟨w.heap.size, 10, none⟩ = some (.int .u8 x.f6.f4) := by rw [blk_cell hW]; rfl
    have q11 : w'.cell? ⟨w.heap.size, 11, none⟩ = some (.int .u8 x.f6.f5) := by rw [blk_cell hW]; rfl
    have q12 : w'.cell? ⟨w.heap.size, 12, none⟩ = some (.int .u8 x.f6.f6) := by rw [blk_cell hW]; rfl
    have q13 : w'.cell? ⟨w.heap.size, 13, none⟩ = some (.int .u8 x.f6.f7) := by rw [blk_cell hW]; rfl
    have q14 : w'.cell? ⟨w.heap.size, 14, none⟩ = some (.int .u8 x.f6.f8) := by rw [blk_cell hW]; rfl
    have q15 : w'.cell? ⟨w.heap.size, 15, none⟩ = some (.int .u8 x.f6.f9) := by rw [blk_cell hW]; rfl
    have q16 : w'.cell? ⟨w.heap.size, 16, none⟩ = some (.int .u8 x.f6.f10) := by rw [blk_cell hW]; rfl
    have q17 : w'.cell? ⟨w.heap.size, 17, none⟩ = some (.int .u8 x.f6.f11) := by rw [blk_cell hW]; rfl
    have q18 : w'.cell? ⟨w.heap.size, 18, none⟩ = some (.int .u8 x.f6.f12) := by rw [blk_cell hW]; rfl
    have q19 : w'.cell? ⟨w.heap.size, 19, none⟩ = some (.int .u8 x.f6.f13) := by rw [blk_cell hW]; rfl
    have q20 : w'.cell? ⟨w.heap.size, 20, none⟩ = some (.int .u8 x.f6.f14) := by rw [blk_cell hW]; rfl
    have q21 : w'.cell? ⟨w.heap.size, 21, none⟩ = some (.int .u8 x.f6.f15) := by rw [blk_cell hW]; rfl
    go_simp
    with_reducible rfl
  rotate_left
  · simp only [Act.put, List.setIfInBounds_toArray, List.set_cons_zero, List.set_cons_succ, i64_w, i32_w]
    rfl
  refine pure_ (i := 2) (N := some 52) (v := ?_) (a' := ?_) #[true, true, true, false, false, false, false, false] rfl rfl (any_of HT_.out (by kernel_rfl)) (fun _ _ _ h => h) (Or.inl ⟨by rfl, ?_⟩) ?_ ?_
  rotate_left
  · intro w'
    go_simp
    with_reducible rfl
  rotate_left
  · simp only [Act.put, List.setIfInBounds_toArray, List.set_cons_zero, List.set_cons_succ, i64_w, i32_w]
    rfl
  refine pure_ (i := 4) (N := some 54) (v := ?_) (a' := ?_) #[true, true, true, false, true, false, false, false] rfl rfl (any_of HT_.out (by kernel_rfl)) (fun _ _ _ h => h) (Or.inl ⟨by rfl, ?_⟩) ?_ ?_
  rotate_left
  · intro w'
    go_simp
    with_reducible rfl
  rotate_left
  · simp only [Act.put, List.setIfInBounds_toArray, List.set_cons_zero, List.set_cons_succ, i64_w, i32_w]
    rfl
  refine take_ (i := 5) (N := some 55) (v := ?_) (a' := ?_) #[true, true, true, false, true, true, false, false] rfl rfl (take_ofW HT_.out HW_.out (by kernel_rfl)) (fun _ _ _ h => h) (Or.inl ⟨by rfl, ?_⟩) hHeld ?_ ?_
  rotate_left
  · intro w' hW
    have q0 : w'.cell? ⟨w.heap.size, 0, none⟩ = some (.string x.f0) := by rw [blk_cell hW]; rfl
    have q1 : w'.cell? ⟨w.heap.size, 1, none⟩ = some (.string x.f1) := by rw [blk_cell hW]; rfl
    have q2 : w'.cell? ⟨w.heap.size, 2, none⟩ = some (.int .i64 x.f2) := by rw [blk_cell hW]; rfl
    have q3 : w'.cell? ⟨w.heap.size, 3, none⟩ = some (.int .i64 x.f3) := by rw [blk_cell hW]; rfl
    have q4 : w'.cell? ⟨w.heap.size, 4, none⟩ = some (.int .i64 x.f4) := by rw [blk_cell hW]; rfl
    have q5 : w'.cell? ⟨w.heap.size, 5, none⟩ = some (.int .i64 x.f5) := by rw [blk_cell hW]; rfl
    have q6 : w'.cell? ⟨w.heap.size, 6, none⟩ = some (.int .u8 x.f6.f0) := by rw [blk_cell hW]; rfl
    have q7 : w'.cell? ⟨w.heap.size, 7, none⟩ = some (.int .u8 x.f6.f1) := by rw [blk_cell hW]; rfl
    have q8 : w'.cell? ⟨w.heap.size, 8, none⟩ = some (.int .u8 x.f6.f2) := by rw [blk_cell hW]; rfl
    have q9 : w'.cell? ⟨w.heap.size, 9, none⟩ = some (.int .u8 x.f6.f3) := by rw [blk_cell hW]; rfl
    have q10 : w'.cell? ⟨w.heap.size, 10, none⟩ = some (.int .u8 x.f6.f4) := by rw [blk_cell hW]; rfl
    have q11 : w'.cell? ⟨w.heap.size, 11, none⟩ = some (.int .u8 x.f6.f5) := by rw [blk_cell hW]; rfl
    have q12 : w'.cell? ⟨w.heap.size, 12, none⟩ = some (.int .u8 x.f6.f6) := by rw [blk_cell hW]; rfl
    have q13 : w'.cell? ⟨w.heap.size, 13, none⟩ = some (.int .u8 x.f6.f7) := by rw [blk_cell hW]; rfl
    have q14 : w'.cell? ⟨w.heap.size, 14, none⟩ = some (.int .u8 x.f6.f8) := by rw [blk_cell hW]; rfl
    have q15 : w'.cell? ⟨w.heap.size, 15, none⟩ = some (.int .u8 x.f6.f9) := by rw [blk_cell hW]; rfl
    have q16 : w'.cell? ⟨w.heap.size, 16, none⟩ = some (.int .u8 x.f6.f10) := by rw [blk_cell hW]; rfl
    have q17 : w'.cell? ⟨w.heap.size, 17, none⟩ = some (.int .u8 x.f6.f11) := by rw [blk_cell hW]; rfl
    have q18 : w'.cell? ⟨w.heap.size, 18, none⟩ = some (.int .u8 x.f6.f12) := by rw [blk_cell hW]; rfl
    have q19 : w'.cell? ⟨w.heap.size, 19, none⟩ = some (.int .u8 x.f6.f13) := by rw [blk_cell hW]; rfl
    have q20 : w'.cell? ⟨w.heap.size, 20, none⟩ = some (.int .u8 x.f6.f14) := by rw [blk_cell hW]; rfl
    have q21 : w'.cell? ⟨w.heap.size, 21, none⟩ = some (.int .u8 x.f6.f15) := by rw [blk_cell hW]; rfl
    go_simp
    with_reducible rfl
  rotate_left
  · simp only [Act.put, List.setIfInBounds_toArray, List.set_cons_zero, List.set_cons_succ, i64_w, i32_w]
    rfl
  refine one_ (i := 3) (N := some 53) #[true, true, true, true, true, true, false, false] rfl rfl (one_of HT_.out (by kernel_rfl)) (by decide) (fun K hK => ?_)
  refine goes_ Try.func104 (by kernel_rfl) rfl #[.int .i64 (x.f1.size : Int), .int .i64 2] (by rfl) rfl rfl (by (try simp only [List.map_toArray, List.map_cons, List.map_nil]); first | done | go_simp) ?_
  refine (H1.out _).mono ?_
  rintro e w2 ⟨rfl, hb⟩
  refine ⟨_, rfl, ?_⟩
  have GX0 := Aside0.mk (blk_below GX.out hb)
  have GB0 := Aside0.mk (below_tr3 (w := w) GB.out hb)
  clear hb GX GB hHeld
  refine hK.out _ _ (GX0.out) (fun hHeld => ?_)
  clear hK K
  refine norm_ (a' := ?_) ?_ ?_
  rotate_left
  · show Act.put _ (some 53) _ = _
    simp only [Act.put, List.setIfInBounds_toArray, List.set_cons_zero, List.set_cons_succ, i64_w, i32_w]
    rfl
  refine pure_ (i := 6) (N := some 56) (v := ?_) (a' := ?_) #[true, true, true, true, true, true, true, false] rfl rfl (any_of HT_.out (by kernel_rfl)) (fun _ _ _ h => h) (Or.inl ⟨by rfl, ?_⟩) ?_ ?_
  rotate_left
  · intro w'
    go_simp
    with_reducible rfl
  rotate_left
  · simp only [Act.put, List.setIfInBounds_toArray, List.set_cons_zero, List.set_cons_succ, i64_w, i32_w]
    rfl
  refine pure_ (i := 7) (N := some 4) (v := ?_) (a' := ?_) #[true, true, true, true, true, true, true, true] rfl rfl (any_of HT_.out (by kernel_rfl)) (fun _ _ _ h => h) (Or.inl ⟨by rfl, ?_⟩) ?_ ?_
  rotate_left
  · intro w'
    go_simp
    with_reducible rfl
  rotate_left
  · simp only [Act.put, List.setIfInBounds_toArray, List.set_cons_zero, List.set_cons_succ, i64_w, i32_w]
    rfl
  refine done_ (done_of HT_.out (by kernel_rfl)) ?_
  go_wp2_with fail
  go_ret
  exact ⟨by simp, GB0.out⟩
end Go.Proofs.Ytalncokpbgbccaa.E

