-- A slim copy of YN, YO, YP, written by wip/tools/prune2.py.
import Derived.Test.YtalncokpbgbccaaKYK
/- NodeFinds, the walk: it returns true. -/
namespace Go.Proofs.Ytalncokpbgbccaa.E
set_option linter.unusedVariables false
set_option linter.unusedSimpArgs false
open Go.RowKit Go.Proofs.YtalncokpbgbccaaW.PrintWords Go.Proofs.YtalncokpbgbccaaW.PrintLast Go.Proofs.YtalncokpbgbccaaW.PrintMore
def rg11_9_T : Bool × List (List Nat × List Nat) := (true, [([], []), ([0], [0]), ([1], [1]), ([2, 1], [2]), ([3], [3]), ([4, 3, 3], [3, 4]), ([5, 3], [3, 5]), ([3, 6], [3, 6]), ([7, 5], [7]), ([8], [8]), ([8], [8]), ([9, 10, 8], [8, 9, 10]), ([8, 11], [8, 11]), ([12, 8], [12]), ([13], [13]), ([13, 14], [13, 14]), ([15, 13], [15]), ([16], [16]), ([17, 16], [16, 17]), ([16, 18], [16, 18]), ([19, 16], [19]), ([20], [20]), ([21, 20], [20, 21]), ([20, 22], [20, 22]), ([23, 20], [23]), ([24], [24]), ([24], [24]), ([26, 24], [24, 26]), ([25, 27, 24], [24, 25, 27]), ([24, 28], [24, 28]), ([29, 24], [29]), ([30], [30]), ([30], [30]), ([31, 32, 30], [30, 31, 32]), ([33, 30], [30, 33]), ([30], [30]), ([34, 35, 30], [30, 34, 35]), ([30, 36], [30, 36])])
def rg11_9_B : List Nat := [0, 1, 3, 7, 15, 31, 63, 127, 255, 511, 511, 2047, 4095, 8191, 16383, 32767, 65535, 131071, 262143, 524287, 1048575, 2097151, 4194303, 8388607, 16777215, 33554431, 33554431, 100663295, 268435455, 536870911, 1073741823, 2147483647, 2147483647, 8589934591, 17179869183, 2147483647, 68719476735, 137438953471]
theorem rg11_9_tab : rtab .any (opsOf Try.f11 9) = rg11_9_T := by kernel_rfl
theorem rg11_9_bits : waitsOk rg11_9_T.2 rg11_9_B = true := by kernel_rfl
def rg11_16_T : Bool × List (List Nat × List Nat) := (true, [([], []), ([0], [0]), ([1], [1]), ([2], [2]), ([3, 2], [2, 3]), ([2, 4], [2, 4]), ([5, 2], [5]), ([6], [6]), ([6], [6]), ([8, 6], [6, 8]), ([7, 9, 6], [6, 7, 9]), ([6, 10], [6, 10]), ([11, 6], [11]), ([12], [12]), ([12], [12]), ([13, 14, 12], [12, 13, 14]), ([15, 12], [12, 15]), ([16, 12], [12, 16]), ([12], [12]), ([18, 12], [12, 18]), ([17, 19, 12], [12, 17, 19]), ([20, 12, 12], [12, 20]), ([21], [21]), ([21], [21]), ([22, 23, 21], [21, 22, 23]), ([24, 21], [21, 24]), ([21], [21]), ([21], [21]), ([26, 27, 21], [21, 26, 27]), ([28, 21], [21, 28]), ([25, 29, 21], [21, 25, 29]), ([21, 30, 12], [12, 21, 30]), ([12, 31], [12, 31]), ([32, 21], [32]), ([33], [33]), ([33], [33]), ([33], [33]), ([35, 36, 33], [33, 35, 36]), ([37, 33], [33, 37]), ([38, 33], [33, 38]), ([33], [33]), ([39, 40, 33], [33, 39, 40]), ([34, 41, 33], [33, 34, 41]), ([33, 42], [33, 42])])
def rg11_16_B : List Nat := [0, 1, 3, 7, 15, 31, 63, 127, 127, 383, 1023, 2047, 4095, 8191, 8191, 32767, 65535, 131071, 8191, 270335, 1048575, 2097151, 4194303, 4194303, 16777215, 33554431, 4194303, 4194303, 205520895, 473956351, 1073741823, 2147483647, 4294967295, 8589934591, 17179869183, 17179869183, 17179869183, 120259084287, 257698037759, 532575944703, 17179869183, 2181843386367, 4398046511103, 8796093022207]
theorem rg11_16_tab : rtab .any (opsOf Try.f11 16) = rg11_16_T := by kernel_rfl
theorem rg11_16_bits : waitsOk rg11_16_T.2 rg11_16_B = true := by kernel_rfl
theorem box_key {W : World} {g : Nat} {x : S77} (h : W.heap[g]? = some (.cells (entC x) 77 (0, 0))) : W.cell? ⟨g, 0, none⟩ = some (.string x.f0) := cell_of_box h rfl
theorem neq_same {o : Oper} {ρ : Operand → Value} {W : World} (p q : Operand) (t : TypeId) (ho : o.op = .binOp .neq 77 p q t) (x : S77) (hx : ρ p = .agg (entC x)) (hy : ρ q = .agg (entC x)) : (execOp ρ o).run Try.prog W = .ok (.value (.bool false)) W := by
  have h := neq_run (W := W) p q t ho x x hx hy
  rw [(eqE_iff x x).mpr rfl] at h
  exact h
set_option maxRecDepth 1000000 in
set_option maxHeartbeats 8000000 in
theorem finds_1 (l b : List S77) (A B : Option Addr) (c d : Nat) (x : S77) (key : ByteArray) (level : Int) (w : World) (HSANE : Aside0 (Say w 15 #[] (.bool true))) (HFEW : Aside0 (Ans3 w A l.length c B b.length d x false)) :
    Calls Try.prog 11 #[.slice A l.length c, .slice B b.length d, .agg (entC x), .string key, .int .i64 level] w fun e w' => e = .returned (.bool true) ∧ Below w.heap.size w w' := by
  go_enter Try.func11, Try.ntmps11
  go_wp2_with (first
    | ((with_reducible refine gate_dst (N := 7) rfl ?_); refine box_event (hgd := rfl) (N := 7) rfl (cs := entC x) (t := 77) (by go_simp) ?_; intro gA hg_ w1 HG hb; clear hg_; have HD := Aside0.mk (show Hd w gA (entC x) w1 from ⟨HG, hb⟩); have HB := Aside0.mk hb; clear HG hb)
    | ((with_reducible refine gate_dst (N := 32) rfl ?_); refine wpList_load_hd (w0 := w) (g := gA) (x := x) (by first | exact HD.out | exact hd_alloc HD.out _) rfl (.tmp 7) rfl rfl ?_; dsimp only [entC])
    | ((go_at_call 14); (with_reducible refine (HFEW.out _ _ w1.heap.size ?hb ?hg ?hgE).mono ?_); (case hb => exact below_alloc (below_alloc HB.out _) _); (case hg => exact blk_new2 _ _ _); (case hgE => exact blk_alloc (blk_new _ _) _); rintro e w9 ⟨rfl, hbl⟩; have HDn := Aside0.mk (hd_call (hd_alloc (hd_alloc HD.out _) _) hbl); have HBn := Aside0.mk (below_tr2 (w := w) (below_alloc (below_alloc HB.out _) _) hbl); (clear HD HB hbl); have HD := HDn; have HB := HBn; clear HDn HBn; have c0 := hd_key HD.out)
    | ((go_at_call 15); (with_reducible refine (HSANE.out _ (by repeat (first | exact HB.out | exact Below.refl _ _ | apply below_alloc))).mono ?_); rintro e w9 ⟨rfl, hbl⟩; (try (have HBn := Aside0.mk (below_tr2 (w := w) (by repeat (first | exact HB.out | exact Below.refl _ _ | apply below_alloc)) hbl); clear HB; have HB := HBn; clear HBn)); (try (have Fan := Aside0.mk (below_tr2 (w := wa) (by repeat (first | exact Fa.out | exact Below.refl _ _ | apply below_alloc)) hbl); clear Fa; have Fa := Fan; clear Fan)); (try (have Fbn := Aside0.mk (below_tr2 (w := wb) (by repeat (first | exact Fb.out | exact Below.refl _ _ | apply below_alloc)) hbl); clear Fb; have Fb := Fbn; clear Fbn)); (try (have HDn := Aside0.mk (hd_call (by first | exact HD.out | exact hd_alloc HD.out _) hbl); clear HD; have HD := HDn; clear HDn)); (try clear c0); (try have c0 := hd_key HD.out); clear hbl)
    )
  go_ret
  exact ⟨rfl, HB.out⟩
set_option maxRecDepth 1000000 in
set_option maxHeartbeats 8000000 in
theorem finds_2 (l b : List S77) (A B : Option Addr) (c d : Nat) (x : S77) (key : ByteArray) (level : Int) (w : World) (HSANE : Aside0 (Say w 15 #[] (.bool true))) (HFEW : Aside0 (Ans3 w A l.length c B b.length d x true)) (hk : 100 < key.size) :
    Calls Try.prog 11 #[.slice A l.length c, .slice B b.length d, .agg (entC x), .string key, .int .i64 level] w fun e w' => e = .returned (.bool true) ∧ Below w.heap.size w w' := by
  have d0 : decide ((100 : Int) < (key.size : Int)) = true := decide_eq_true (by omega)
  have d1 : decide ((key.size : Int) > (100 : Int)) = true := decide_eq_true (by omega)
  have d2 : decide (100 < key.size) = true := decide_eq_true (by omega)
  clear hk
  go_enter Try.func11, Try.ntmps11
  go_wp2_with (first
    | ((with_reducible refine gate_dst (N := 7) rfl ?_); refine box_event (hgd := rfl) (N := 7) rfl (cs := entC x) (t := 77) (by go_simp) ?_; intro gA hg_ w1 HG hb; clear hg_; have HD := Aside0.mk (show Hd w gA (entC x) w1 from ⟨HG, hb⟩); have HB := Aside0.mk hb; clear HG hb)
    | ((with_reducible refine gate_dst (N := 32) rfl ?_); refine wpList_load_hd (w0 := w) (g := gA) (x := x) (by first | exact HD.out | exact hd_alloc HD.out _) rfl (.tmp 7) rfl rfl ?_; dsimp only [entC])
    | ((go_at_call 14); (with_reducible refine (HFEW.out _ _ w1.heap.size ?hb ?hg ?hgE).mono ?_); (case hb => exact below_alloc (below_alloc HB.out _) _); (case hg => exact blk_new2 _ _ _); (case hgE => exact blk_alloc (blk_new _ _) _); rintro e w9 ⟨rfl, hbl⟩; have HDn := Aside0.mk (hd_call (hd_alloc (hd_alloc HD.out _) _) hbl); have HBn := Aside0.mk (below_tr2 (w := w) (below_alloc (below_alloc HB.out _) _) hbl); (clear HD HB hbl); have HD := HDn; have HB := HBn; clear HDn HBn; have c0 := hd_key HD.out)
    | ((go_at_call 15); (with_reducible refine (HSANE.out _ (by repeat (first | exact HB.out | exact Below.refl _ _ | apply below_alloc))).mono ?_); rintro e w9 ⟨rfl, hbl⟩; (try (have HBn := Aside0.mk (below_tr2 (w := w) (by repeat (first | exact HB.out | exact Below.refl _ _ | apply below_alloc)) hbl); clear HB; have HB := HBn; clear HBn)); (try (have Fan := Aside0.mk (below_tr2 (w := wa) (by repeat (first | exact Fa.out | exact Below.refl _ _ | apply below_alloc)) hbl); clear Fa; have Fa := Fan; clear Fan)); (try (have Fbn := Aside0.mk (below_tr2 (w := wb) (by repeat (first | exact Fb.out | exact Below.refl _ _ | apply below_alloc)) hbl); clear Fb; have Fb := Fbn; clear Fbn)); (try (have HDn := Aside0.mk (hd_call (by first | exact HD.out | exact hd_alloc HD.out _) hbl); clear HD; have HD := HDn; clear HDn)); (try clear c0); (try have c0 := hd_key HD.out); clear hbl)
    )
  go_ret
  exact ⟨rfl, HB.out⟩
set_option maxRecDepth 1000000 in
set_option maxHeartbeats 8000000 in
theorem finds_3 (l b : List S77) (A B : Option Addr) (c d : Nat) (x : S77) (key : ByteArray) (level : Int) (w : World) (HSANE : Aside0 (Say w 15 #[] (.bool true))) (HFEW : Aside0 (Ans3 w A l.length c B b.length d x true)) (hk : ¬ 100 < key.size) (H16 : Aside0 (Say w 16 #[.slice A l.length c, .int .i64 0] (.bool false)))
    (oB : Bool) (ch : Int) (hp2 : level < 1 ∨ (¬ level < 1 ∧ oB = false) ∨ (¬ level < 1 ∧ oB = true ∧ b.length = 0) ∨ (¬ level < 1 ∧ oB = true ∧ ¬ b.length = 0)) (hbl0 : b.length ≤ 1000000) (HOB : Aside0 (Say w 16 #[.slice B b.length d, .int .i64 level] (.bool oB))) (H26 : Aside0 (Say w 26 #[.slice B b.length d, .string key] (.int .i64 ch)))
    (HBD : Aside0 (¬ level < 1 → oB = true → ∀ k : Nat, k < b.length → ∃ lo hi : ByteArray, (Say w 27 #[.slice B b.length d, .int .i64 (k : Int), .string ⟨#[]⟩, .string ⟨#[]⟩] (.tuple #[.string lo, .string hi, .int .i64 0])) ∧ ((!Op.bytesLess key.toList lo.toList) && ((hi.toList == ([] : List UInt8)) || Op.bytesLess key.toList hi.toList)) = ((k : Int) == ch))) :
    Calls Try.prog 11 #[.slice A l.length c, .slice B b.length d, .agg (entC x), .string key, .int .i64 level] w fun e w' => e = .returned (.bool true) ∧ Below w.heap.size w w' := by
  have d12 : decide ((100 : Int) < (key.size : Int)) = false := decide_eq_false (by omega)
  have d13 : decide ((key.size : Int) > (100 : Int)) = false := decide_eq_false (by omega)
  have d14 : decide (100 < key.size) = false := decide_eq_false (by omega)
  clear hk
  rcases hp2 with h2 | ⟨h2, rfl⟩ | ⟨h2, rfl, h3⟩ | ⟨h2, rfl, h3⟩
  · have d15 : decide (level < 1) = true := decide_eq_true (by omega)
    have d16 : decide (1 > level) = true := decide_eq_true (by omega)
    clear h2 hbl0
    go_enter Try.func11, Try.ntmps11
    go_wp2_with (first
      | ((with_reducible refine gate_dst (N := 7) rfl ?_); refine box_event (hgd := rfl) (N := 7) rfl (cs := entC x) (t := 77) (by go_simp) ?_; intro gA hg_ w1 HG hb; clear hg_; have HD := Aside0.mk (show Hd w gA (entC x) w1 from ⟨HG, hb⟩); have HB := Aside0.mk hb; clear HG hb)
      | ((with_reducible refine gate_dst (N := 32) rfl ?_); refine wpList_load_hd (w0 := w) (g := gA) (x := x) (by first | exact HD.out | exact hd_alloc HD.out _) rfl (.tmp 7) rfl rfl ?_; dsimp only [entC])
      | ((go_at_call 14); (with_reducible refine (HFEW.out _ _ w1.heap.size ?hb ?hg ?hgE).mono ?_); (case hb => exact below_alloc (below_alloc HB.out _) _); (case hg => exact blk_new2 _ _ _); (case hgE => exact blk_alloc (blk_new _ _) _); rintro e w9 ⟨rfl, hbl⟩; have HDn := Aside0.mk (hd_call (hd_alloc (hd_alloc HD.out _) _) hbl); have HBn := Aside0.mk (below_tr2 (w := w) (below_alloc (below_alloc HB.out _) _) hbl); (clear HD HB hbl); have HD := HDn; have HB := HBn; clear HDn HBn; have c0 := hd_key HD.out)
      | ((go_at_call 16); (with_reducible refine (H16.out _ (by repeat (first | exact HB.out | exact Below.refl _ _ | apply below_alloc))).mono ?_); rintro e w9 ⟨rfl, hbl⟩; (try (have HBn := Aside0.mk (below_tr2 (w := w) (by repeat (first | exact HB.out | exact Below.refl _ _ | apply below_alloc)) hbl); clear HB; have HB := HBn; clear HBn)); (try (have Fan := Aside0.mk (below_tr2 (w := wa) (by repeat (first | exact Fa.out | exact Below.refl _ _ | apply below_alloc)) hbl); clear Fa; have Fa := Fan; clear Fan)); (try (have Fbn := Aside0.mk (below_tr2 (w := wb) (by repeat (first | exact Fb.out | exact Below.refl _ _ | apply below_alloc)) hbl); clear Fb; have Fb := Fbn; clear Fbn)); (try (have HDn := Aside0.mk (hd_call (by first | exact HD.out | exact hd_alloc HD.out _) hbl); clear HD; have HD := HDn; clear HDn)); (try clear c0); (try have c0 := hd_key HD.out); clear hbl)
      | ((go_at_call 15); (with_reducible refine (HSANE.out _ (by repeat (first | exact HB.out | exact Below.refl _ _ | apply below_alloc))).mono ?_); rintro e w9 ⟨rfl, hbl⟩; (try (have HBn := Aside0.mk (below_tr2 (w := w) (by repeat (first | exact HB.out | exact Below.refl _ _ | apply below_alloc)) hbl); clear HB; have HB := HBn; clear HBn)); (try (have Fan := Aside0.mk (below_tr2 (w := wa) (by repeat (first | exact Fa.out | exact Below.refl _ _ | apply below_alloc)) hbl); clear Fa; have Fa := Fan; clear Fan)); (try (have Fbn := Aside0.mk (below_tr2 (w := wb) (by repeat (first | exact Fb.out | exact Below.refl _ _ | apply below_alloc)) hbl); clear Fb; have Fb := Fbn; clear Fbn)); (try (have HDn := Aside0.mk (hd_call (by first | exact HD.out | exact hd_alloc HD.out _) hbl); clear HD; have HD := HDn; clear HDn)); (try clear c0); (try have c0 := hd_key HD.out); clear hbl)
      )
    go_ret
    exact ⟨rfl, HB.out⟩
  · have d17 : decide (level < 1) = false := decide_eq_false (by omega)
    have d18 : decide (1 > level) = false := decide_eq_false (by omega)
    clear h2 hbl0
    go_enter Try.func11, Try.ntmps11
    go_wp2_with (first
      | ((with_reducible refine gate_dst (N := 7) rfl ?_); refine box_event (hgd := rfl) (N := 7) rfl (cs := entC x) (t := 77) (by go_simp) ?_; intro gA hg_ w1 HG hb; clear hg_; have HD := Aside0.mk (show Hd w gA (entC x) w1 from ⟨HG, hb⟩); have HB := Aside0.mk hb; clear HG hb)
      | ((with_reducible refine gate_dst (N := 32) rfl ?_); refine wpList_load_hd (w0 := w) (g := gA) (x := x) (by first | exact HD.out | exact hd_alloc HD.out _) rfl (.tmp 7) rfl rfl ?_; dsimp only [entC])
      | ((go_at_call 14); (with_reducible refine (HFEW.out _ _ w1.heap.size ?hb ?hg ?hgE).mono ?_); (case hb => exact below_alloc (below_alloc HB.out _) _); (case hg => exact blk_new2 _ _ _); (case hgE => exact blk_alloc (blk_new _ _) _); rintro e w9 ⟨rfl, hbl⟩; have HDn := Aside0.mk (hd_call (hd_alloc (hd_alloc HD.out _) _) hbl); have HBn := Aside0.mk (below_tr2 (w := w) (below_alloc (below_alloc HB.out _) _) hbl); (clear HD HB hbl); have HD := HDn; have HB := HBn; clear HDn HBn; have c0 := hd_key HD.out)
      | ((go_at_call 16); (with_reducible refine (H16.out _ (by repeat (first | exact HB.out | exact Below.refl _ _ | apply below_alloc))).mono ?_); rintro e w9 ⟨rfl, hbl⟩; (try (have HBn := Aside0.mk (below_tr2 (w := w) (by repeat (first | exact HB.out | exact Below.refl _ _ | apply below_alloc)) hbl); clear HB; have HB := HBn; clear HBn)); (try (have Fan := Aside0.mk (below_tr2 (w := wa) (by repeat (first | exact Fa.out | exact Below.refl _ _ | apply below_alloc)) hbl); clear Fa; have Fa := Fan; clear Fan)); (try (have Fbn := Aside0.mk (below_tr2 (w := wb) (by repeat (first | exact Fb.out | exact Below.refl _ _ | apply below_alloc)) hbl); clear Fb; have Fb := Fbn; clear Fbn)); (try (have HDn := Aside0.mk (hd_call (by first | exact HD.out | exact hd_alloc HD.out _) hbl); clear HD; have HD := HDn; clear HDn)); (try clear c0); (try have c0 := hd_key HD.out); clear hbl)
      | ((go_at_call 16); (with_reducible refine (HOB.out _ (by repeat (first | exact HB.out | exact Below.refl _ _ | apply below_alloc))).mono ?_); rintro e w9 ⟨rfl, hbl⟩; (try (have HBn := Aside0.mk (below_tr2 (w := w) (by repeat (first | exact HB.out | exact Below.refl _ _ | apply below_alloc)) hbl); clear HB; have HB := HBn; clear HBn)); (try (have Fan := Aside0.mk (below_tr2 (w := wa) (by repeat (first | exact Fa.out | exact Below.refl _ _ | apply below_alloc)) hbl); clear Fa; have Fa := Fan; clear Fan)); (try (have Fbn := Aside0.mk (below_tr2 (w := wb) (by repeat (first | exact Fb.out | exact Below.refl _ _ | apply below_alloc)) hbl); clear Fb; have Fb := Fbn; clear Fbn)); (try (have HDn := Aside0.mk (hd_call (by first | exact HD.out | exact hd_alloc HD.out _) hbl); clear HD; have HD := HDn; clear HDn)); (try clear c0); (try have c0 := hd_key HD.out); clear hbl)
      | ((go_at_call 15); (with_reducible refine (HSANE.out _ (by repeat (first | exact HB.out | exact Below.refl _ _ | apply below_alloc))).mono ?_); rintro e w9 ⟨rfl, hbl⟩; (try (have HBn := Aside0.mk (below_tr2 (w := w) (by repeat (first | exact HB.out | exact Below.refl _ _ | apply below_alloc)) hbl); clear HB; have HB := HBn; clear HBn)); (try (have Fan := Aside0.mk (below_tr2 (w := wa) (by repeat (first | exact Fa.out | exact Below.refl _ _ | apply below_alloc)) hbl); clear Fa; have Fa := Fan; clear Fan)); (try (have Fbn := Aside0.mk (below_tr2 (w := wb) (by repeat (first | exact Fb.out | exact Below.refl _ _ | apply below_alloc)) hbl); clear Fb; have Fb := Fbn; clear Fbn)); (try (have HDn := Aside0.mk (hd_call (by first | exact HD.out | exact hd_alloc HD.out _) hbl); clear HD; have HD := HDn; clear HDn)); (try clear c0); (try have c0 := hd_key HD.out); clear hbl)
      )
    go_ret
    exact ⟨rfl, HB.out⟩
  · have d19 : decide (level < 1) = false := decide_eq_false (by omega)
    have d20 : decide (1 > level) = false := decide_eq_false (by omega)
    have e0 : ((b.length : Int) == 0) = true := beq_iff_eq.mpr (by omega)
    clear h2 h3 hbl0
    go_enter Try.func11, Try.ntmps11
    go_wp2_with (first
      | ((with_reducible refine gate_dst (N := 7) rfl ?_); refine box_event (hgd := rfl) (N := 7) rfl (cs := entC x) (t := 77) (by go_simp) ?_; intro gA hg_ w1 HG hb; clear hg_; have HD := Aside0.mk (show Hd w gA (entC x) w1 from ⟨HG, hb⟩); have HB := Aside0.mk hb; clear HG hb)
      | ((with_reducible refine gate_dst (N := 32) rfl ?_); refine wpList_load_hd (w0 := w) (g := gA) (x := x) (by first | exact HD.out | exact hd_alloc HD.out _) rfl (.tmp 7) rfl rfl ?_; dsimp only [entC])
      | ((go_at_call 14); (with_reducible refine (HFEW.out _ _ w1.heap.size ?hb ?hg ?hgE).mono ?_); (case hb => exact below_alloc (below_alloc HB.out _) _); (case hg => exact blk_new2 _ _ _); (case hgE => exact blk_alloc (blk_new _ _) _); rintro e w9 ⟨rfl, hbl⟩; have HDn := Aside0.mk (hd_call (hd_alloc (hd_alloc HD.out _) _) hbl); have HBn := Aside0.mk (below_tr2 (w := w) (below_alloc (below_alloc HB.out _) _) hbl); (clear HD HB hbl); have HD := HDn; have HB := HBn; clear HDn HBn; have c0 := hd_key HD.out)
      | ((go_at_call 16); (with_reducible refine (H16.out _ (by repeat (first | exact HB.out | exact Below.refl _ _ | apply below_alloc))).mono ?_); rintro e w9 ⟨rfl, hbl⟩; (try (have HBn := Aside0.mk (below_tr2 (w := w) (by repeat (first | exact HB.out | exact Below.refl _ _ | apply below_alloc)) hbl); clear HB; have HB := HBn; clear HBn)); (try (have Fan := Aside0.mk (below_tr2 (w := wa) (by repeat (first | exact Fa.out | exact Below.refl _ _ | apply below_alloc)) hbl); clear Fa; have Fa := Fan; clear Fan)); (try (have Fbn := Aside0.mk (below_tr2 (w := wb) (by repeat (first | exact Fb.out | exact Below.refl _ _ | apply below_alloc)) hbl); clear Fb; have Fb := Fbn; clear Fbn)); (try (have HDn := Aside0.mk (hd_call (by first | exact HD.out | exact hd_alloc HD.out _) hbl); clear HD; have HD := HDn; clear HDn)); (try clear c0); (try have c0 := hd_key HD.out); clear hbl)
      | ((go_at_call 16); (with_reducible refine (HOB.out _ (by repeat (first | exact HB.out | exact Below.refl _ _ | apply below_alloc))).mono ?_); rintro e w9 ⟨rfl, hbl⟩; (try (have HBn := Aside0.mk (below_tr2 (w := w) (by repeat (first | exact HB.out | exact Below.refl _ _ | apply below_alloc)) hbl); clear HB; have HB := HBn; clear HBn)); (try (have Fan := Aside0.mk (below_tr2 (w := wa) (by repeat (first | exact Fa.out | exact Below.refl _ _ | apply below_alloc)) hbl); clear Fa; have Fa := Fan; clear Fan)); (try (have Fbn := Aside0.mk (below_tr2 (w := wb) (by repeat (first | exact Fb.out | exact Below.refl _ _ | apply below_alloc)) hbl); clear Fb; have Fb := Fbn; clear Fbn)); (try (have HDn := Aside0.mk (hd_call (by first | exact HD.out | exact hd_alloc HD.out _) hbl); clear HD; have HD := HDn; clear HDn)); (try clear c0); (try have c0 := hd_key HD.out); clear hbl)
      | ((go_at_call 15); (with_reducible refine (HSANE.out _ (by repeat (first | exact HB.out | exact Below.refl _ _ | apply below_alloc))).mono ?_); rintro e w9 ⟨rfl, hbl⟩; (try (have HBn := Aside0.mk (below_tr2 (w := w) (by repeat (first | exact HB.out | exact Below.refl _ _ | apply below_alloc)) hbl); clear HB; have HB := HBn; clear HBn)); (try (have Fan := Aside0.mk (below_tr2 (w := wa) (by repeat (first | exact Fa.out | exact Below.refl _ _ | apply below_alloc)) hbl); clear Fa; have Fa := Fan; clear Fan)); (try (have Fbn := Aside0.mk (below_tr2 (w := wb) (by repeat (first | exact Fb.out | exact Below.refl _ _ | apply below_alloc)) hbl); clear Fb; have Fb := Fbn; clear Fbn)); (try (have HDn := Aside0.mk (hd_call (by first | exact HD.out | exact hd_alloc HD.out _) hbl); clear HD; have HD := HDn; clear HDn)); (try clear c0); (try have c0 := hd_key HD.out); clear hbl)
      )
    go_ret
    exact ⟨rfl, HB.out⟩
  · have d21 : decide (level < 1) = false := decide_eq_false (by omega)
    have d22 : decide (1 > level) = false := decide_eq_false (by omega)
    have e0 : ((b.length : Int) == 0) = false := beq_eq_false_iff_ne.mpr (by omega)
    have HBD2 := Aside0.mk (HBD.out h2 rfl)
    have HLB := Aside0.mk hbl0
    clear h2 h3 HBD hbl0
    go_enter Try.func11, Try.ntmps11
    go_wp2_with (first
      | ((with_reducible refine gate_dst (N := 7) rfl ?_); refine box_event (hgd := rfl) (N := 7) rfl (cs := entC x) (t := 77) (by go_simp) ?_; intro gA hg_ w1 HG hb; clear hg_; have HD := Aside0.mk (show Hd w gA (entC x) w1 from ⟨HG, hb⟩); have HB := Aside0.mk hb; clear HG hb)
      | ((with_reducible refine gate_dst (N := 32) rfl ?_); refine wpList_load_hd (w0 := w) (g := gA) (x := x) (by first | exact HD.out | exact hd_alloc HD.out _) rfl (.tmp 7) rfl rfl ?_; dsimp only [entC])
      | ((go_at_call 14); (with_reducible refine (HFEW.out _ _ w1.heap.size ?hb ?hg ?hgE).mono ?_); (case hb => exact below_alloc (below_alloc HB.out _) _); (case hg => exact blk_new2 _ _ _); (case hgE => exact blk_alloc (blk_new _ _) _); rintro e w9 ⟨rfl, hbl⟩; have HDn := Aside0.mk (hd_call (hd_alloc (hd_alloc HD.out _) _) hbl); have HBn := Aside0.mk (below_tr2 (w := w) (below_alloc (below_alloc HB.out _) _) hbl); (clear HD HB hbl); have HD := HDn; have HB := HBn; clear HDn HBn; have c0 := hd_key HD.out)
      | ((go_at_call 16); (with_reducible refine (H16.out _ (by repeat (first | exact HB.out | exact Below.refl _ _ | apply below_alloc))).mono ?_); rintro e w9 ⟨rfl, hbl⟩; (try (have HBn := Aside0.mk (below_tr2 (w := w) (by repeat (first | exact HB.out | exact Below.refl _ _ | apply below_alloc)) hbl); clear HB; have HB := HBn; clear HBn)); (try (have Fan := Aside0.mk (below_tr2 (w := wa) (by repeat (first | exact Fa.out | exact Below.refl _ _ | apply below_alloc)) hbl); clear Fa; have Fa := Fan; clear Fan)); (try (have Fbn := Aside0.mk (below_tr2 (w := wb) (by repeat (first | exact Fb.out | exact Below.refl _ _ | apply below_alloc)) hbl); clear Fb; have Fb := Fbn; clear Fbn)); (try (have HDn := Aside0.mk (hd_call (by first | exact HD.out | exact hd_alloc HD.out _) hbl); clear HD; have HD := HDn; clear HDn)); (try clear c0); (try have c0 := hd_key HD.out); clear hbl)
      | ((go_at_call 16); (with_reducible refine (HOB.out _ (by repeat (first | exact HB.out | exact Below.refl _ _ | apply below_alloc))).mono ?_); rintro e w9 ⟨rfl, hbl⟩; (try (have HBn := Aside0.mk (below_tr2 (w := w) (by repeat (first | exact HB.out | exact Below.refl _ _ | apply below_alloc)) hbl); clear HB; have HB := HBn; clear HBn)); (try (have Fan := Aside0.mk (below_tr2 (w := wa) (by repeat (first | exact Fa.out | exact Below.refl _ _ | apply below_alloc)) hbl); clear Fa; have Fa := Fan; clear Fan)); (try (have Fbn := Aside0.mk (below_tr2 (w := wb) (by repeat (first | exact Fb.out | exact Below.refl _ _ | apply below_alloc)) hbl); clear Fb; have Fb := Fbn; clear Fbn)); (try (have HDn := Aside0.mk (hd_call (by first | exact HD.out | exact hd_alloc HD.out _) hbl); clear HD; have HD := HDn; clear HDn)); (try clear c0); (try have c0 := hd_key HD.out); clear hbl)
      | ((go_at_call 26); (with_reducible refine (H26.out _ (by repeat (first | exact HB.out | exact Below.refl _ _ | apply below_alloc))).mono ?_); rintro e w9 ⟨rfl, hbl⟩; (try (have HBn := Aside0.mk (below_tr2 (w := w) (by repeat (first | exact HB.out | exact Below.refl _ _ | apply below_alloc)) hbl); clear HB; have HB := HBn; clear HBn)); (try (have Fan := Aside0.mk (below_tr2 (w := wa) (by repeat (first | exact Fa.out | exact Below.refl _ _ | apply below_alloc)) hbl); clear Fa; have Fa := Fan; clear Fan)); (try (have Fbn := Aside0.mk (below_tr2 (w := wb) (by repeat (first | exact Fb.out | exact Below.refl _ _ | apply below_alloc)) hbl); clear Fb; have Fb := Fbn; clear Fbn)); (try (have HDn := Aside0.mk (hd_call (by first | exact HD.out | exact hd_alloc HD.out _) hbl); clear HD; have HD := HDn; clear HDn)); (try clear c0); (try have c0 := hd_key HD.out); clear hbl)
      )
    (try clear c0)
    (try clear HD)
    go_loopw [26] (fun iv wr => ∃ (k : Nat), k ≤ b.length ∧ iv = .int .i64 k ∧ Aside0 (Below w.heap.size w wr)) (fun iv _ => b.length - (intOf iv).toNat)
    case atStart => exact ⟨0, Nat.zero_le _, rfl, HB⟩
    case round =>
      (try clear HB)
      obtain ⟨k, hk, rfl, HB⟩ := hrel
      by_cases hlt : k < b.length
      · have HLT := Aside0.mk hlt
        obtain ⟨lo, hi, hS, hE⟩ := HBD2.out k hlt
        have H27 := Aside0.mk hS
        have hk1 : (k : Int) < (b.length : Int) := by omega
        have hkw := w_succ k (by have := HLB.out; omega)
        clear hS hlt hk
        cases h1 : Op.bytesLess key.toList lo.toList with
        | false =>
          cases h2 : (hi.toList == ([] : List UInt8)) with
          | false =>
            cases h3 : Op.bytesLess key.toList hi.toList with
            | false =>
              rw [h1, h2, h3] at hE
              have hq : ((k : Int) == ch) = false := hE.symm
              clear hE
              go_wp2_with (first
                | ((go_at_call 27); (with_reducible refine (H27.out _ (by repeat (first | exact HB.out | exact Below.refl _ _ | apply below_alloc))).mono ?_); rintro e w9 ⟨rfl, hbl⟩; (try (have HBn := Aside0.mk (below_tr2 (w := w) (by repeat (first | exact HB.out | exact Below.refl _ _ | apply below_alloc)) hbl); clear HB; have HB := HBn; clear HBn)); (try (have Fan := Aside0.mk (below_tr2 (w := wa) (by repeat (first | exact Fa.out | exact Below.refl _ _ | apply below_alloc)) hbl); clear Fa; have Fa := Fan; clear Fan)); (try (have Fbn := Aside0.mk (below_tr2 (w := wb) (by repeat (first | exact Fb.out | exact Below.refl _ _ | apply below_alloc)) hbl); clear Fb; have Fb := Fbn; clear Fbn)); (try (have HDn := Aside0.mk (hd_call (by first | exact HD.out | exact hd_alloc HD.out _) hbl); clear HD; have HD := HDn; clear HDn)); (try clear c0); (try have c0 := hd_key HD.out); clear hbl)
                )
              go_roundw
              case rel => exact ⟨k + 1, HLT.out, by rw [hkw]; simp, HB⟩
              case measure => (have h9 := HLT.out; rw [hkw]; clear hkw; show b.length - ((k : Int) + 1).toNat < b.length - (k : Int).toNat; omega)
            | true =>
              rw [h1, h2, h3] at hE
              have hq : ((k : Int) == ch) = true := hE.symm
              clear hE
              go_wp2_with (first
                | ((go_at_call 27); (with_reducible refine (H27.out _ (by repeat (first | exact HB.out | exact Below.refl _ _ | apply below_alloc))).mono ?_); rintro e w9 ⟨rfl, hbl⟩; (try (have HBn := Aside0.mk (below_tr2 (w := w) (by repeat (first | exact HB.out | exact Below.refl _ _ | apply below_alloc)) hbl); clear HB; have HB := HBn; clear HBn)); (try (have Fan := Aside0.mk (below_tr2 (w := wa) (by repeat (first | exact Fa.out | exact Below.refl _ _ | apply below_alloc)) hbl); clear Fa; have Fa := Fan; clear Fan)); (try (have Fbn := Aside0.mk (below_tr2 (w := wb) (by repeat (first | exact Fb.out | exact Below.refl _ _ | apply below_alloc)) hbl); clear Fb; have Fb := Fbn; clear Fbn)); (try (have HDn := Aside0.mk (hd_call (by first | exact HD.out | exact hd_alloc HD.out _) hbl); clear HD; have HD := HDn; clear HDn)); (try clear c0); (try have c0 := hd_key HD.out); clear hbl)
                )
              go_roundw
              case rel => exact ⟨k + 1, HLT.out, by rw [hkw]; simp, HB⟩
              case measure => (have h9 := HLT.out; rw [hkw]; clear hkw; show b.length - ((k : Int) + 1).toNat < b.length - (k : Int).toNat; omega)
          | true =>
            cases h3 : Op.bytesLess key.toList hi.toList with
            | false =>
              rw [h1, h2, h3] at hE
              have hq : ((k : Int) == ch) = true := hE.symm
              clear hE
              go_wp2_with (first
                | ((go_at_call 27); (with_reducible refine (H27.out _ (by repeat (first | exact HB.out | exact Below.refl _ _ | apply below_alloc))).mono ?_); rintro e w9 ⟨rfl, hbl⟩; (try (have HBn := Aside0.mk (below_tr2 (w := w) (by repeat (first | exact HB.out | exact Below.refl _ _ | apply below_alloc)) hbl); clear HB; have HB := HBn; clear HBn)); (try (have Fan := Aside0.mk (below_tr2 (w := wa) (by repeat (first | exact Fa.out | exact Below.refl _ _ | apply below_alloc)) hbl); clear Fa; have Fa := Fan; clear Fan)); (try (have Fbn := Aside0.mk (below_tr2 (w := wb) (by repeat (first | exact Fb.out | exact Below.refl _ _ | apply below_alloc)) hbl); clear Fb; have Fb := Fbn; clear Fbn)); (try (have HDn := Aside0.mk (hd_call (by first | exact HD.out | exact hd_alloc HD.out _) hbl); clear HD; have HD := HDn; clear HDn)); (try clear c0); (try have c0 := hd_key HD.out); clear hbl)
                )
              go_roundw
              case rel => exact ⟨k + 1, HLT.out, by rw [hkw]; simp, HB⟩
              case measure => (have h9 := HLT.out; rw [hkw]; clear hkw; show b.length - ((k : Int) + 1).toNat < b.length - (k : Int).toNat; omega)
            | true =>
              rw [h1, h2, h3] at hE
              have hq : ((k : Int) == ch) = true := hE.symm
              clear hE
              go_wp2_with (first
                | ((go_at_call 27); (with_reducible refine (H27.out _ (by repeat (first | exact HB.out | exact Below.refl _ _ | apply below_alloc))).mono ?_); rintro e w9 ⟨rfl, hbl⟩; (try (have HBn := Aside0.mk (below_tr2 (w := w) (by repeat (first | exact HB.out | exact Below.refl _ _ | apply below_alloc)) hbl); clear HB; have HB := HBn; clear HBn)); (try (have Fan := Aside0.mk (below_tr2 (w := wa) (by repeat (first | exact Fa.out | exact Below.refl _ _ | apply below_alloc)) hbl); clear Fa; have Fa := Fan; clear Fan)); (try (have Fbn := Aside0.mk (below_tr2 (w := wb) (by repeat (first | exact Fb.out | exact Below.refl _ _ | apply below_alloc)) hbl); clear Fb; have Fb := Fbn; clear Fbn)); (try (have HDn := Aside0.mk (hd_call (by first | exact HD.out | exact hd_alloc HD.out _) hbl); clear HD; have HD := HDn; clear HDn)); (try clear c0); (try have c0 := hd_key HD.out); clear hbl)
                )
              go_roundw
              case rel => exact ⟨k + 1, HLT.out, by rw [hkw]; simp, HB⟩
              case measure => (have h9 := HLT.out; rw [hkw]; clear hkw; show b.length - ((k : Int) + 1).toNat < b.length - (k : Int).toNat; omega)
        | true =>
          cases h2 : (hi.toList == ([] : List UInt8)) with
          | false =>
            cases h3 : Op.bytesLess key.toList hi.toList with
            | false =>
              rw [h1, h2, h3] at hE
              have hq : ((k : Int) == ch) = false := hE.symm
              clear hE
              go_wp2_with (first
                | ((go_at_call 27); (with_reducible refine (H27.out _ (by repeat (first | exact HB.out | exact Below.refl _ _ | apply below_alloc))).mono ?_); rintro e w9 ⟨rfl, hbl⟩; (try (have HBn := Aside0.mk (below_tr2 (w := w) (by repeat (first | exact HB.out | exact Below.refl _ _ | apply below_alloc)) hbl); clear HB; have HB := HBn; clear HBn)); (try (have Fan := Aside0.mk (below_tr2 (w := wa) (by repeat (first | exact Fa.out | exact Below.refl _ _ | apply below_alloc)) hbl); clear Fa; have Fa := Fan; clear Fan)); (try (have Fbn := Aside0.mk (below_tr2 (w := wb) (by repeat (first | exact Fb.out | exact Below.refl _ _ | apply below_alloc)) hbl); clear Fb; have Fb := Fbn; clear Fbn)); (try (have HDn := Aside0.mk (hd_call (by first | exact HD.out | exact hd_alloc HD.out _) hbl); clear HD; have HD := HDn; clear HDn)); (try clear c0); (try have c0 := hd_key HD.out); clear hbl)
                )
              go_roundw
              case rel => exact ⟨k + 1, HLT.out, by rw [hkw]; simp, HB⟩
              case measure => (have h9 := HLT.out; rw [hkw]; clear hkw; show b.length - ((k : Int) + 1).toNat < b.length - (k : Int).toNat; omega)
            | true =>
              rw [h1, h2, h3] at hE
              have hq : ((k : Int) == ch) = false := hE.symm
              clear hE
              go_wp2_with (first
                | ((go_at_call 27); (with_reducible refine (H27.out _ (by repeat (first | exact HB.out | exact Below.refl _ _ | apply below_alloc))).mono ?_); rintro e w9 ⟨rfl, hbl⟩; (try (have HBn := Aside0.mk (below_tr2 (w := w) (by repeat (first | exact HB.out | exact Below.refl _ _ | apply below_alloc)) hbl); clear HB; have HB := HBn; clear HBn)); (try (have Fan := Aside0.mk (below_tr2 (w := wa) (by repeat (first | exact Fa.out | exact Below.refl _ _ | apply below_alloc)) hbl); clear Fa; have Fa := Fan; clear Fan)); (try (have Fbn := Aside0.mk (below_tr2 (w := wb) (by repeat (first | exact Fb.out | exact Below.refl _ _ | apply below_alloc)) hbl); clear Fb; have Fb := Fbn; clear Fbn)); (try (have HDn := Aside0.mk (hd_call (by first | exact HD.out | exact hd_alloc HD.out _) hbl); clear HD; have HD := HDn; clear HDn)); (try clear c0); (try have c0 := hd_key HD.out); clear hbl)
                )
              go_roundw
              case rel => exact ⟨k + 1, HLT.out, by rw [hkw]; simp, HB⟩
              case measure => (have h9 := HLT.out; rw [hkw]; clear hkw; show b.length - ((k : Int) + 1).toNat < b.length - (k : Int).toNat; omega)
          | true =>
            cases h3 : Op.bytesLess key.toList hi.toList with
            | false =>
              rw [h1, h2, h3] at hE
              have hq : ((k : Int) == ch) = false := hE.symm
              clear hE
              go_wp2_with (first
                | ((go_at_call 27); (with_reducible refine (H27.out _ (by repeat (first | exact HB.out | exact Below.refl _ _ | apply below_alloc))).mono ?_); rintro e w9 ⟨rfl, hbl⟩; (try (have HBn := Aside0.mk (below_tr2 (w := w) (by repeat (first | exact HB.out | exact Below.refl _ _ | apply below_alloc)) hbl); clear HB; have HB := HBn; clear HBn)); (try (have Fan := Aside0.mk (below_tr2 (w := wa) (by repeat (first | exact Fa.out | exact Below.refl _ _ | apply below_alloc)) hbl); clear Fa; have Fa := Fan; clear Fan)); (try (have Fbn := Aside0.mk (below_tr2 (w := wb) (by repeat (first | exact Fb.out | exact Below.refl _ _ | apply below_alloc)) hbl); clear Fb; have Fb := Fbn; clear Fbn)); (try (have HDn := Aside0.mk (hd_call (by first | exact HD.out | exact hd_alloc HD.out _) hbl); clear HD; have HD := HDn; clear HDn)); (try clear c0); (try have c0 := hd_key HD.out); clear hbl)
                )
              go_roundw
              case rel => exact ⟨k + 1, HLT.out, by rw [hkw]; simp, HB⟩
              case measure => (have h9 := HLT.out; rw [hkw]; clear hkw; show b.length - ((k : Int) + 1).toNat < b.length - (k : Int).toNat; omega)
            | true =>
              rw [h1, h2, h3] at hE
              have hq : ((k : Int) == ch) = false := hE.symm
              clear hE
              go_wp2_with (first
                | ((go_at_call 27); (with_reducible refine (H27.out _ (by repeat (first | exact HB.out | exact Below.refl _ _ | apply below_alloc))).mono ?_); rintro e w9 ⟨rfl, hbl⟩; (try (have HBn := Aside0.mk (below_tr2 (w := w) (by repeat (first | exact HB.out | exact Below.refl _ _ | apply below_alloc)) hbl); clear HB; have HB := HBn; clear HBn)); (try (have Fan := Aside0.mk (below_tr2 (w := wa) (by repeat (first | exact Fa.out | exact Below.refl _ _ | apply below_alloc)) hbl); clear Fa; have Fa := Fan; clear Fan)); (try (have Fbn := Aside0.mk (below_tr2 (w := wb) (by repeat (first | exact Fb.out | exact Below.refl _ _ | apply below_alloc)) hbl); clear Fb; have Fb := Fbn; clear Fbn)); (try (have HDn := Aside0.mk (hd_call (by first | exact HD.out | exact hd_alloc HD.out _) hbl); clear HD; have HD := HDn; clear HDn)); (try clear c0); (try have c0 := hd_key HD.out); clear hbl)
                )
              go_roundw
              case rel => exact ⟨k + 1, HLT.out, by rw [hkw]; simp, HB⟩
              case measure => (have h9 := HLT.out; rw [hkw]; clear hkw; show b.length - ((k : Int) + 1).toNat < b.length - (k : Int).toNat; omega)
      · obtain rfl : k = b.length := by omega
        clear hlt hk
        go_wp2_with (first
          | ((go_at_call 15); (with_reducible refine (HSANE.out _ (by repeat (first | exact HB.out | exact Below.refl _ _ | apply below_alloc))).mono ?_); rintro e w9 ⟨rfl, hbl⟩; (try (have HBn := Aside0.mk (below_tr2 (w := w) (by repeat (first | exact HB.out | exact Below.refl _ _ | apply below_alloc)) hbl); clear HB; have HB := HBn; clear HBn)); (try (have Fan := Aside0.mk (below_tr2 (w := wa) (by repeat (first | exact Fa.out | exact Below.refl _ _ | apply below_alloc)) hbl); clear Fa; have Fa := Fan; clear Fan)); (try (have Fbn := Aside0.mk (below_tr2 (w := wb) (by repeat (first | exact Fb.out | exact Below.refl _ _ | apply below_alloc)) hbl); clear Fb; have Fb := Fbn; clear Fbn)); (try (have HDn := Aside0.mk (hd_call (by first | exact HD.out | exact hd_alloc HD.out _) hbl); clear HD; have HD := HDn; clear HDn)); (try clear c0); (try have c0 := hd_key HD.out); clear hbl)
          )
        go_ret
        exact ⟨rfl, HB.out⟩
set_option maxRecDepth 1000000 in
set_option maxHeartbeats 8000000 in
theorem finds_4 (l b : List S77) (A B : Option Addr) (c d : Nat) (x : S77) (key : ByteArray) (level : Int) (w : World) (HSANE : Aside0 (Say w 15 #[] (.bool true))) (HFEW : Aside0 (Ans3 w A l.length c B b.length d x true)) (hk : ¬ 100 < key.size) (H16 : Aside0 (Say w 16 #[.slice A l.length c, .int .i64 0] (.bool true))) (hs : x.f0.size < 1)
    (oB : Bool) (ch : Int) (hp2 : level < 1 ∨ (¬ level < 1 ∧ oB = false) ∨ (¬ level < 1 ∧ oB = true ∧ b.length = 0) ∨ (¬ level < 1 ∧ oB = true ∧ ¬ b.length = 0)) (hbl0 : b.length ≤ 1000000) (HOB : Aside0 (Say w 16 #[.slice B b.length d, .int .i64 level] (.bool oB))) (H26 : Aside0 (Say w 26 #[.slice B b.length d, .string key] (.int .i64 ch)))
    (HBD : Aside0 (¬ level < 1 → oB = true → ∀ k : Nat, k < b.length → ∃ lo hi : ByteArray, (Say w 27 #[.slice B b.length d, .int .i64 (k : Int), .string ⟨#[]⟩, .string ⟨#[]⟩] (.tuple #[.string lo, .string hi, .int .i64 0])) ∧ ((!Op.bytesLess key.toList lo.toList) && ((hi.toList == ([] : List UInt8)) || Op.bytesLess key.toList hi.toList)) = ((k : Int) == ch))) :
    Calls Try.prog 11 #[.slice A l.length c, .slice B b.length d, .agg (entC x), .string key, .int .i64 level] w fun e w' => e = .returned (.bool true) ∧ Below w.heap.size w w' := by
  have d23 : decide ((100 : Int) < (key.size : Int)) = false := decide_eq_false (by omega)
  have d24 : decide ((key.size : Int) > (100 : Int)) = false := decide_eq_false (by omega)
  have d25 : decide (100 < key.size) = false := decide_eq_false (by omega)
  have d3 : decide ((x.f0.size : Int) ≥ 1) = false := decide_eq_false (by omega)
  have d4 : decide (1 ≤ (x.f0.size : Int)) = false := decide_eq_false (by omega)
  have d5 : decide (1 ≤ x.f0.size) = false := decide_eq_false (by omega)
  clear hk hs
  rcases hp2 with h2 | ⟨h2, rfl⟩ | ⟨h2, rfl, h3⟩ | ⟨h2, rfl, h3⟩
  · have d26 : decide (level < 1) = true := decide_eq_true (by omega)
    have d27 : decide (1 > level) = true := decide_eq_true (by omega)
    clear h2 hbl0
    go_enter Try.func11, Try.ntmps11
    go_wp2_with (first
      | ((with_reducible refine gate_dst (N := 7) rfl ?_); refine box_event (hgd := rfl) (N := 7) rfl (cs := entC x) (t := 77) (by go_simp) ?_; intro gA hg_ w1 HG hb; clear hg_; have HD := Aside0.mk (show Hd w gA (entC x) w1 from ⟨HG, hb⟩); have HB := Aside0.mk hb; clear HG hb)
      | ((with_reducible refine gate_dst (N := 32) rfl ?_); refine wpList_load_hd (w0 := w) (g := gA) (x := x) (by first | exact HD.out | exact hd_alloc HD.out _) rfl (.tmp 7) rfl rfl ?_; dsimp only [entC])
      | ((go_at_call 14); (with_reducible refine (HFEW.out _ _ w1.heap.size ?hb ?hg ?hgE).mono ?_); (case hb => exact below_alloc (below_alloc HB.out _) _); (case hg => exact blk_new2 _ _ _); (case hgE => exact blk_alloc (blk_new _ _) _); rintro e w9 ⟨rfl, hbl⟩; have HDn := Aside0.mk (hd_call (hd_alloc (hd_alloc HD.out _) _) hbl); have HBn := Aside0.mk (below_tr2 (w := w) (below_alloc (below_alloc HB.out _) _) hbl); (clear HD HB hbl); have HD := HDn; have HB := HBn; clear HDn HBn; have c0 := hd_key HD.out)
      | ((go_at_call 16); (with_reducible refine (H16.out _ (by repeat (first | exact HB.out | exact Below.refl _ _ | apply below_alloc))).mono ?_); rintro e w9 ⟨rfl, hbl⟩; (try (have HBn := Aside0.mk (below_tr2 (w := w) (by repeat (first | exact HB.out | exact Below.refl _ _ | apply below_alloc)) hbl); clear HB; have HB := HBn; clear HBn)); (try (have Fan := Aside0.mk (below_tr2 (w := wa) (by repeat (first | exact Fa.out | exact Below.refl _ _ | apply below_alloc)) hbl); clear Fa; have Fa := Fan; clear Fan)); (try (have Fbn := Aside0.mk (below_tr2 (w := wb) (by repeat (first | exact Fb.out | exact Below.refl _ _ | apply below_alloc)) hbl); clear Fb; have Fb := Fbn; clear Fbn)); (try (have HDn := Aside0.mk (hd_call (by first | exact HD.out | exact hd_alloc HD.out _) hbl); clear HD; have HD := HDn; clear HDn)); (try clear c0); (try have c0 := hd_key HD.out); clear hbl)
      | ((go_at_call 15); (with_reducible refine (HSANE.out _ (by repeat (first | exact HB.out | exact Below.refl _ _ | apply below_alloc))).mono ?_); rintro e w9 ⟨rfl, hbl⟩; (try (have HBn := Aside0.mk (below_tr2 (w := w) (by repeat (first | exact HB.out | exact Below.refl _ _ | apply below_alloc)) hbl); clear HB; have HB := HBn; clear HBn)); (try (have Fan := Aside0.mk (below_tr2 (w := wa) (by repeat (first | exact Fa.out | exact Below.refl _ _ | apply below_alloc)) hbl); clear Fa; have Fa := Fan; clear Fan)); (try (have Fbn := Aside0.mk (below_tr2 (w := wb) (by repeat (first | exact Fb.out | exact Below.refl _ _ | apply below_alloc)) hbl); clear Fb; have Fb := Fbn; clear Fbn)); (try (have HDn := Aside0.mk (hd_call (by first | exact HD.out | exact hd_alloc HD.out _) hbl); clear HD; have HD := HDn; clear HDn)); (try clear c0); (try have c0 := hd_key HD.out); clear hbl)
      )
    go_ret
    exact ⟨rfl, HB.out⟩
  · have d28 : decide (level < 1) = false := decide_eq_false (by omega)
    have d29 : decide (1 > level) = false := decide_eq_false (by omega)
    clear h2 hbl0
    go_enter Try.func11, Try.ntmps11
    go_wp2_with (first
      | ((with_reducible refine gate_dst (N := 7) rfl ?_); refine box_event (hgd := rfl) (N := 7) rfl (cs := entC x) (t := 77) (by go_simp) ?_; intro gA hg_ w1 HG hb; clear hg_; have HD := Aside0.mk (show Hd w gA (entC x) w1 from ⟨HG, hb⟩); have HB := Aside0.mk hb; clear HG hb)
      | ((with_reducible refine gate_dst (N := 32) rfl ?_); refine wpList_load_hd (w0 := w) (g := gA) (x := x) (by first | exact HD.out | exact hd_alloc HD.out _) rfl (.tmp 7) rfl rfl ?_; dsimp only [entC])
      | ((go_at_call 14); (with_reducible refine (HFEW.out _ _ w1.heap.size ?hb ?hg ?hgE).mono ?_); (case hb => exact below_alloc (below_alloc HB.out _) _); (case hg => exact blk_new2 _ _ _); (case hgE => exact blk_alloc (blk_new _ _) _); rintro e w9 ⟨rfl, hbl⟩; have HDn := Aside0.mk (hd_call (hd_alloc (hd_alloc HD.out _) _) hbl); have HBn := Aside0.mk (below_tr2 (w := w) (below_alloc (below_alloc HB.out _) _) hbl); (clear HD HB hbl); have HD := HDn; have HB := HBn; clear HDn HBn; have c0 := hd_key HD.out)
      | ((go_at_call 16); (with_reducible refine (H16.out _ (by repeat (first | exact HB.out | exact Below.refl _ _ | apply below_alloc))).mono ?_); rintro e w9 ⟨rfl, hbl⟩; (try (have HBn := Aside0.mk (below_tr2 (w := w) (by repeat (first | exact HB.out | exact Below.refl _ _ | apply below_alloc)) hbl); clear HB; have HB := HBn; clear HBn)); (try (have Fan := Aside0.mk (below_tr2 (w := wa) (by repeat (first | exact Fa.out | exact Below.refl _ _ | apply below_alloc)) hbl); clear Fa; have Fa := Fan; clear Fan)); (try (have Fbn := Aside0.mk (below_tr2 (w := wb) (by repeat (first | exact Fb.out | exact Below.refl _ _ | apply below_alloc)) hbl); clear Fb; have Fb := Fbn; clear Fbn)); (try (have HDn := Aside0.mk (hd_call (by first | exact HD.out | exact hd_alloc HD.out _) hbl); clear HD; have HD := HDn; clear HDn)); (try clear c0); (try have c0 := hd_key HD.out); clear hbl)
      | ((go_at_call 16); (with_reducible refine (HOB.out _ (by repeat (first | exact HB.out | exact Below.refl _ _ | apply below_alloc))).mono ?_); rintro e w9 ⟨rfl, hbl⟩; (try (have HBn := Aside0.mk (below_tr2 (w := w) (by repeat (first | exact HB.out | exact Below.refl _ _ | apply below_alloc)) hbl); clear HB; have HB := HBn; clear HBn)); (try (have Fan := Aside0.mk (below_tr2 (w := wa) (by repeat (first | exact Fa.out | exact Below.refl _ _ | apply below_alloc)) hbl); clear Fa; have Fa := Fan; clear Fan)); (try (have Fbn := Aside0.mk (below_tr2 (w := wb) (by repeat (first | exact Fb.out | exact Below.refl _ _ | apply below_alloc)) hbl); clear Fb; have Fb := Fbn; clear Fbn)); (try (have HDn := Aside0.mk (hd_call (by first | exact HD.out | exact hd_alloc HD.out _) hbl); clear HD; have HD := HDn; clear HDn)); (try clear c0); (try have c0 := hd_key HD.out); clear hbl)
      | ((go_at_call 15); (with_reducible refine (HSANE.out _ (by repeat (first | exact HB.out | exact Below.refl _ _ | apply below_alloc))).mono ?_); rintro e w9 ⟨rfl, hbl⟩; (try (have HBn := Aside0.mk (below_tr2 (w := w) (by repeat (first | exact HB.out | exact Below.refl _ _ | apply below_alloc)) hbl); clear HB; have HB := HBn; clear HBn)); (try (have Fan := Aside0.mk (below_tr2 (w := wa) (by repeat (first | exact Fa.out | exact Below.refl _ _ | apply below_alloc)) hbl); clear Fa; have Fa := Fan; clear Fan)); (try (have Fbn := Aside0.mk (below_tr2 (w := wb) (by repeat (first | exact Fb.out | exact Below.refl _ _ | apply below_alloc)) hbl); clear Fb; have Fb := Fbn; clear Fbn)); (try (have HDn := Aside0.mk (hd_call (by first | exact HD.out | exact hd_alloc HD.out _) hbl); clear HD; have HD := HDn; clear HDn)); (try clear c0); (try have c0 := hd_key HD.out); clear hbl)
      )
    go_ret
    exact ⟨rfl, HB.out⟩
  · have d30 : decide (level < 1) = false := decide_eq_false (by omega)
    have d31 : decide (1 > level) = false := decide_eq_false (by omega)
    have e0 : ((b.length : Int) == 0) = true := beq_iff_eq.mpr (by omega)
    clear h2 h3 hbl0
    go_enter Try.func11, Try.ntmps11
    go_wp2_with (first
      | ((with_reducible refine gate_dst (N := 7) rfl ?_); refine box_event (hgd := rfl) (N := 7) rfl (cs := entC x) (t := 77) (by go_simp) ?_; intro gA hg_ w1 HG hb; clear hg_; have HD := Aside0.mk (show Hd w gA (entC x) w1 from ⟨HG, hb⟩); have HB := Aside0.mk hb; clear HG hb)
      | ((with_reducible refine gate_dst (N := 32) rfl ?_); refine wpList_load_hd (w0 := w) (g := gA) (x := x) (by first | exact HD.out | exact hd_alloc HD.out _) rfl (.tmp 7) rfl rfl ?_; dsimp only [entC])
      | ((go_at_call 14); (with_reducible refine (HFEW.out _ _ w1.heap.size ?hb ?hg ?hgE).mono ?_); (case hb => exact below_alloc (below_alloc HB.out _) _); (case hg => exact blk_new2 _ _ _); (case hgE => exact blk_alloc (blk_new _ _) _); rintro e w9 ⟨rfl, hbl⟩; have HDn := Aside0.mk (hd_call (hd_alloc (hd_alloc HD.out _) _) hbl); have HBn := Aside0.mk (below_tr2 (w := w) (below_alloc (below_alloc HB.out _) _) hbl); (clear HD HB hbl); have HD := HDn; have HB := HBn; clear HDn HBn; have c0 := hd_key HD.out)
      | ((go_at_call 16); (with_reducible refine (H16.out _ (by repeat (first | exact HB.out | exact Below.refl _ _ | apply below_alloc))).mono ?_); rintro e w9 ⟨rfl, hbl⟩; (try (have HBn := Aside0.mk (below_tr2 (w := w) (by repeat (first | exact HB.out | exact Below.refl _ _ | apply below_alloc)) hbl); clear HB; have HB := HBn; clear HBn)); (try (have Fan := Aside0.mk (below_tr2 (w := wa) (by repeat (first | exact Fa.out | exact Below.refl _ _ | apply below_alloc)) hbl); clear Fa; have Fa := Fan; clear Fan)); (try (have Fbn := Aside0.mk (below_tr2 (w := wb) (by repeat (first | exact Fb.out | exact Below.refl _ _ | apply below_alloc)) hbl); clear Fb; have Fb := Fbn; clear Fbn)); (try (have HDn := Aside0.mk (hd_call (by first | exact HD.out | exact hd_alloc HD.out _) hbl); clear HD; have HD := HDn; clear HDn)); (try clear c0); (try have c0 := hd_key HD.out); clear hbl)
      | ((go_at_call 16); (with_reducible refine (HOB.out _ (by repeat (first | exact HB.out | exact Below.refl _ _ | apply below_alloc))).mono ?_); rintro e w9 ⟨rfl, hbl⟩; (try (have HBn := Aside0.mk (below_tr2 (w := w) (by repeat (first | exact HB.out | exact Below.refl _ _ | apply below_alloc)) hbl); clear HB; have HB := HBn; clear HBn)); (try (have Fan := Aside0.mk (below_tr2 (w := wa) (by repeat (first | exact Fa.out | exact Below.refl _ _ | apply below_alloc)) hbl); clear Fa; have Fa := Fan; clear Fan)); (try (have Fbn := Aside0.mk (below_tr2 (w := wb) (by repeat (first | exact Fb.out | exact Below.refl _ _ | apply below_alloc)) hbl); clear Fb; have Fb := Fbn; clear Fbn)); (try (have HDn := Aside0.mk (hd_call (by first | exact HD.out | exact hd_alloc HD.out _) hbl); clear HD; have HD := HDn; clear HDn)); (try clear c0); (try have c0 := hd_key HD.out); clear hbl)
      | ((go_at_call 15); (with_reducible refine (HSANE.out _ (by repeat (first | exact HB.out | exact Below.refl _ _ | apply below_alloc))).mono ?_); rintro e w9 ⟨rfl, hbl⟩; (try (have HBn := Aside0.mk (below_tr2 (w := w) (by repeat (first | exact HB.out | exact Below.refl _ _ | apply below_alloc)) hbl); clear HB; have HB := HBn; clear HBn)); (try (have Fan := Aside0.mk (below_tr2 (w := wa) (by repeat (first | exact Fa.out | exact Below.refl _ _ | apply below_alloc)) hbl); clear Fa; have Fa := Fan; clear Fan)); (try (have Fbn := Aside0.mk (below_tr2 (w := wb) (by repeat (first | exact Fb.out | exact Below.refl _ _ | apply below_alloc)) hbl); clear Fb; have Fb := Fbn; clear Fbn)); (try (have HDn := Aside0.mk (hd_call (by first | exact HD.out | exact hd_alloc HD.out _) hbl); clear HD; have HD := HDn; clear HDn)); (try clear c0); (try have c0 := hd_key HD.out); clear hbl)
      )
    go_ret
    exact ⟨rfl, HB.out⟩
  · have d32 : decide (level < 1) = false := decide_eq_false (by omega)
    have d33 : decide (1 > level) = false := decide_eq_false (by omega)
    have e0 : ((b.length : Int) == 0) = false := beq_eq_false_iff_ne.mpr (by omega)
    have HBD2 := Aside0.mk (HBD.out h2 rfl)
    have HLB := Aside0.mk hbl0
    clear h2 h3 HBD hbl0
    go_enter Try.func11, Try.ntmps11
    go_wp2_with (first
      | ((with_reducible refine gate_dst (N := 7) rfl ?_); refine box_event (hgd := rfl) (N := 7) rfl (cs := entC x) (t := 77) (by go_simp) ?_; intro gA hg_ w1 HG hb; clear hg_; have HD := Aside0.mk (show Hd w gA (entC x) w1 from ⟨HG, hb⟩); have HB := Aside0.mk hb; clear HG hb)
      | ((with_reducible refine gate_dst (N := 32) rfl ?_); refine wpList_load_hd (w0 := w) (g := gA) (x := x) (by first | exact HD.out | exact hd_alloc HD.out _) rfl (.tmp 7) rfl rfl ?_; dsimp only [entC])
      | ((go_at_call 14); (with_reducible refine (HFEW.out _ _ w1.heap.size ?hb ?hg ?hgE).mono ?_); (case hb => exact below_alloc (below_alloc HB.out _) _); (case hg => exact blk_new2 _ _ _); (case hgE => exact blk_alloc (blk_new _ _) _); rintro e w9 ⟨rfl, hbl⟩; have HDn := Aside0.mk (hd_call (hd_alloc (hd_alloc HD.out _) _) hbl); have HBn := Aside0.mk (below_tr2 (w := w) (below_alloc (below_alloc HB.out _) _) hbl); (clear HD HB hbl); have HD := HDn; have HB := HBn; clear HDn HBn; have c0 := hd_key HD.out)
      | ((go_at_call 16); (with_reducible refine (H16.out _ (by repeat (first | exact HB.out | exact Below.refl _ _ | apply below_alloc))).mono ?_); rintro e w9 ⟨rfl, hbl⟩; (try (have HBn := Aside0.mk (below_tr2 (w := w) (by repeat (first | exact HB.out | exact Below.refl _ _ | apply below_alloc)) hbl); clear HB; have HB := HBn; clear HBn)); (try (have Fan := Aside0.mk (below_tr2 (w := wa) (by repeat (first | exact Fa.out | exact Below.refl _ _ | apply below_alloc)) hbl); clear Fa; have Fa := Fan; clear Fan)); (try (have Fbn := Aside0.mk (below_tr2 (w := wb) (by repeat (first | exact Fb.out | exact Below.refl _ _ | apply below_alloc)) hbl); clear Fb; have Fb := Fbn; clear Fbn)); (try (have HDn := Aside0.mk (hd_call (by first | exact HD.out | exact hd_alloc HD.out _) hbl); clear HD; have HD := HDn; clear HDn)); (try clear c0); (try have c0 := hd_key HD.out); clear hbl)
      | ((go_at_call 16); (with_reducible refine (HOB.out _ (by repeat (first | exact HB.out | exact Below.refl _ _ | apply below_alloc))).mono ?_); rintro e w9 ⟨rfl, hbl⟩; (try (have HBn := Aside0.mk (below_tr2 (w := w) (by repeat (first | exact HB.out | exact Below.refl _ _ | apply below_alloc)) hbl); clear HB; have HB := HBn; clear HBn)); (try (have Fan := Aside0.mk (below_tr2 (w := wa) (by repeat (first | exact Fa.out | exact Below.refl _ _ | apply below_alloc)) hbl); clear Fa; have Fa := Fan; clear Fan)); (try (have Fbn := Aside0.mk (below_tr2 (w := wb) (by repeat (first | exact Fb.out | exact Below.refl _ _ | apply below_alloc)) hbl); clear Fb; have Fb := Fbn; clear Fbn)); (try (have HDn := Aside0.mk (hd_call (by first | exact HD.out | exact hd_alloc HD.out _) hbl); clear HD; have HD := HDn; clear HDn)); (try clear c0); (try have c0 := hd_key HD.out); clear hbl)
      | ((go_at_call 26); (with_reducible refine (H26.out _ (by repeat (first | exact HB.out | exact Below.refl _ _ | apply below_alloc))).mono ?_); rintro e w9 ⟨rfl, hbl⟩; (try (have HBn := Aside0.mk (below_tr2 (w := w) (by repeat (first | exact HB.out | exact Below.refl _ _ | apply below_alloc)) hbl); clear HB; have HB := HBn; clear HBn)); (try (have Fan := Aside0.mk (below_tr2 (w := wa) (by repeat (first | exact Fa.out | exact Below.refl _ _ | apply below_alloc)) hbl); clear Fa; have Fa := Fan; clear Fan)); (try (have Fbn := Aside0.mk (below_tr2 (w := wb) (by repeat (first | exact Fb.out | exact Below.refl _ _ | apply below_alloc)) hbl); clear Fb; have Fb := Fbn; clear Fbn)); (try (have HDn := Aside0.mk (hd_call (by first | exact HD.out | exact hd_alloc HD.out _) hbl); clear HD; have HD := HDn; clear HDn)); (try clear c0); (try have c0 := hd_key HD.out); clear hbl)
      )
    (try clear c0)
    (try clear HD)
    go_loopw [26] (fun iv wr => ∃ (k : Nat), k ≤ b.length ∧ iv = .int .i64 k ∧ Aside0 (Below w.heap.size w wr)) (fun iv _ => b.length - (intOf iv).toNat)
    case atStart => exact ⟨0, Nat.zero_le _, rfl, HB⟩
    case round =>
      (try clear HB)
      obtain ⟨k, hk, rfl, HB⟩ := hrel
      by_cases hlt : k < b.length
      · have HLT := Aside0.mk hlt
        obtain ⟨lo, hi, hS, hE⟩ := HBD2.out k hlt
        have H27 := Aside0.mk hS
        have hk1 : (k : Int) < (b.length : Int) := by omega
        have hkw := w_succ k (by have := HLB.out; omega)
        clear hS hlt hk
        cases h1 : Op.bytesLess key.toList lo.toList with
        | false =>
          cases h2 : (hi.toList == ([] : List UInt8)) with
          | false =>
            cases h3 : Op.bytesLess key.toList hi.toList with
            | false =>
              rw [h1, h2, h3] at hE
              have hq : ((k : Int) == ch) = false := hE.symm
              clear hE
              go_wp2_with (first
                | ((go_at_call 27); (with_reducible refine (H27.out _ (by repeat (first | exact HB.out | exact Below.refl _ _ | apply below_alloc))).mono ?_); rintro e w9 ⟨rfl, hbl⟩; (try (have HBn := Aside0.mk (below_tr2 (w := w) (by repeat (first | exact HB.out | exact Below.refl _ _ | apply below_alloc)) hbl); clear HB; have HB := HBn; clear HBn)); (try (have Fan := Aside0.mk (below_tr2 (w := wa) (by repeat (first | exact Fa.out | exact Below.refl _ _ | apply below_alloc)) hbl); clear Fa; have Fa := Fan; clear Fan)); (try (have Fbn := Aside0.mk (below_tr2 (w := wb) (by repeat (first | exact Fb.out | exact Below.refl _ _ | apply below_alloc)) hbl); clear Fb; have Fb := Fbn; clear Fbn)); (try (have HDn := Aside0.mk (hd_call (by first | exact HD.out | exact hd_alloc HD.out _) hbl); clear HD; have HD := HDn; clear HDn)); (try clear c0); (try have c0 := hd_key HD.out); clear hbl)
                )
              go_roundw
              case rel => exact ⟨k + 1, HLT.out, by rw [hkw]; simp, HB⟩
              case measure => (have h9 := HLT.out; rw [hkw]; clear hkw; show b.length - ((k : Int) + 1).toNat < b.length - (k : Int).toNat; omega)
            | true =>
              rw [h1, h2, h3] at hE
              have hq : ((k : Int) == ch) = true := hE.symm
              clear hE
              go_wp2_with (first
                | ((go_at_call 27); (with_reducible refine (H27.out _ (by repeat (first | exact HB.out | exact Below.refl _ _ | apply below_alloc))).mono ?_); rintro e w9 ⟨rfl, hbl⟩; (try (have HBn := Aside0.mk (below_tr2 (w := w) (by repeat (first | exact HB.out | exact Below.refl _ _ | apply below_alloc)) hbl); clear HB; have HB := HBn; clear HBn)); (try (have Fan := Aside0.mk (below_tr2 (w := wa) (by repeat (first | exact Fa.out | exact Below.refl _ _ | apply below_alloc)) hbl); clear Fa; have Fa := Fan; clear Fan)); (try (have Fbn := Aside0.mk (below_tr2 (w := wb) (by repeat (first | exact Fb.out | exact Below.refl _ _ | apply below_alloc)) hbl); clear Fb; have Fb := Fbn; clear Fbn)); (try (have HDn := Aside0.mk (hd_call (by first | exact HD.out | exact hd_alloc HD.out _) hbl); clear HD; have HD := HDn; clear HDn)); (try clear c0); (try have c0 := hd_key HD.out); clear hbl)
                )
              go_roundw
              case rel => exact ⟨k + 1, HLT.out, by rw [hkw]; simp, HB⟩
              case measure => (have h9 := HLT.out; rw [hkw]; clear hkw; show b.length - ((k : Int) + 1).toNat < b.length - (k : Int).toNat; omega)
          | true =>
            cases h3 : Op.bytesLess key.toList hi.toList with
            | false =>
              rw [h1, h2, h3] at hE
              have hq : ((k : Int) == ch) = true := hE.symm
              clear hE
              go_wp2_with (first
                | ((go_at_call 27); (with_reducible refine (H27.out _ (by repeat (first | exact HB.out | exact Below.refl _ _ | apply below_alloc))).mono ?_); rintro e w9 ⟨rfl, hbl⟩; (try (have HBn := Aside0.mk (below_tr2 (w := w) (by repeat (first | exact HB.out | exact Below.refl _ _ | apply below_alloc)) hbl); clear HB; have HB := HBn; clear HBn)); (try (have Fan := Aside0.mk (below_tr2 (w := wa) (by repeat (first | exact Fa.out | exact Below.refl _ _ | apply below_alloc)) hbl); clear Fa; have Fa := Fan; clear Fan)); (try (have Fbn := Aside0.mk (below_tr2 (w := wb) (by repeat (first | exact Fb.out | exact Below.refl _ _ | apply below_alloc)) hbl); clear Fb; have Fb := Fbn; clear Fbn)); (try (have HDn := Aside0.mk (hd_call (by first | exact HD.out | exact hd_alloc HD.out _) hbl); clear HD; have HD := HDn; clear HDn)); (try clear c0); (try have c0 := hd_key HD.out); clear hbl)
                )
              go_roundw
              case rel => exact ⟨k + 1, HLT.out, by rw [hkw]; simp, HB⟩
              case measure => (have h9 := HLT.out; rw [hkw]; clear hkw; show b.length - ((k : Int) + 1).toNat < b.length - (k : Int).toNat; omega)
            | true =>
              rw [h1, h2, h3] at hE
              have hq : ((k : Int) == ch) = true := hE.symm
              clear hE
              go_wp2_with (first
                | ((go_at_call 27); (with_reducible refine (H27.out _ (by repeat (first | exact HB.out | exact Below.refl _ _ | apply below_alloc))).mono ?_); rintro e w9 ⟨rfl, hbl⟩; (try (have HBn := Aside0.mk (below_tr2 (w := w) (by repeat (first | exact HB.out | exact Below.refl _ _ | apply below_alloc)) hbl); clear HB; have HB := HBn; clear HBn)); (try (have Fan := Aside0.mk (below_tr2 (w := wa) (by repeat (first | exact Fa.out | exact Below.refl _ _ | apply below_alloc)) hbl); clear Fa; have Fa := Fan; clear Fan)); (try (have Fbn := Aside0.mk (below_tr2 (w := wb) (by repeat (first | exact Fb.out | exact Below.refl _ _ | apply below_alloc)) hbl); clear Fb; have Fb := Fbn; clear Fbn)); (try (have HDn := Aside0.mk (hd_call (by first | exact HD.out | exact hd_alloc HD.out _) hbl); clear HD; have HD := HDn; clear HDn)); (try clear c0); (try have c0 := hd_key HD.out); clear hbl)
                )
              go_roundw
              case rel => exact ⟨k + 1, HLT.out, by rw [hkw]; simp, HB⟩
              case measure => (have h9 := HLT.out; rw [hkw]; clear hkw; show b.length - ((k : Int) + 1).toNat < b.length - (k : Int).toNat; omega)
        | true =>
          cases h2 : (hi.toList == ([] : List UInt8)) with
          | false =>
            cases h3 : Op.bytesLess key.toList hi.toList with
            | false =>
              rw [h1, h2, h3] at hE
              have hq : ((k : Int) == ch) = false := hE.symm
              clear hE
              go_wp2_with (first
                | ((go_at_call 27); (with_reducible refine (H27.out _ (by repeat (first | exact HB.out | exact Below.refl _ _ | apply below_alloc))).mono ?_); rintro e w9 ⟨rfl, hbl⟩; (try (have HBn := Aside0.mk (below_tr2 (w := w) (by repeat (first | exact HB.out | exact Below.refl _ _ | apply below_alloc)) hbl); clear HB; have HB := HBn; clear HBn)); (try (have Fan := Aside0.mk (below_tr2 (w := wa) (by repeat (first | exact Fa.out | exact Below.refl _ _ | apply below_alloc)) hbl); clear Fa; have Fa := Fan; clear Fan)); (try (have Fbn := Aside0.mk (below_tr2 (w := wb) (by repeat (first | exact Fb.out | exact Below.refl _ _ | apply below_alloc)) hbl); clear Fb; have Fb := Fbn; clear Fbn)); (try (have HDn := Aside0.mk (hd_call (by first | exact HD.out | exact hd_alloc HD.out _) hbl); clear HD; have HD := HDn; clear HDn)); (try clear c0); (try have c0 := hd_key HD.out); clear hbl)
                )
              go_roundw
              case rel => exact ⟨k + 1, HLT.out, by rw [hkw]; simp, HB⟩
              case measure => (have h9 := HLT.out; rw [hkw]; clear hkw; show b.length - ((k : Int) + 1).toNat < b.length - (k : Int).toNat; omega)
            | true =>
              rw [h1, h2, h3] at hE
              have hq : ((k : Int) == ch) = false := hE.symm
              clear hE
              go_wp2_with (first
                | ((go_at_call 27); (with_reducible refine (H27.out _ (by repeat (first | exact HB.out | exact Below.refl _ _ | apply below_alloc))).mono ?_); rintro e w9 ⟨rfl, hbl⟩; (try (have HBn := Aside0.mk (below_tr2 (w := w) (by repeat (first | exact HB.out | exact Below.refl _ _ | apply below_alloc)) hbl); clear HB; have HB := HBn; clear HBn)); (try (have Fan := Aside0.mk (below_tr2 (w := wa) (by repeat (first | exact Fa.out | exact Below.refl _ _ | apply below_alloc)) hbl); clear Fa; have Fa := Fan; clear Fan)); (try (have Fbn := Aside0.mk (below_tr2 (w := wb) (by repeat (first | exact Fb.out | exact Below.refl _ _ | apply below_alloc)) hbl); clear Fb; have Fb := Fbn; clear Fbn)); (try (have HDn := Aside0.mk (hd_call (by first | exact HD.out | exact hd_alloc HD.out _) hbl); clear HD; have HD := HDn; clear HDn)); (try clear c0); (try have c0 := hd_key HD.out); clear hbl)
                )
              go_roundw
              case rel => exact ⟨k + 1, HLT.out, by rw [hkw]; simp, HB⟩
              case measure => (have h9 := HLT.out; rw [hkw]; clear hkw; show b.length - ((k : Int) + 1).toNat < b.length - (k : Int).toNat; omega)
          | true =>
            cases h3 : Op.bytesLess key.toList hi.toList with
            | false =>
              rw [h1, h2, h3] at hE
              have hq : ((k : Int) == ch) = false := hE.symm
              clear hE
              go_wp2_with (first
                | ((go_at_call 27); (with_reducible refine (H27.out _ (by repeat (first | exact HB.out | exact Below.refl _ _ | apply below_alloc))).mono ?_); rintro e w9 ⟨rfl, hbl⟩; (try (have HBn := Aside0.mk (below_tr2 (w := w) (by repeat (first | exact HB.out | exact Below.refl _ _ | apply below_alloc)) hbl); clear HB; have HB := HBn; clear HBn)); (try (have Fan := Aside0.mk (below_tr2 (w := wa) (by repeat (first | exact Fa.out | exact Below.refl _ _ | apply below_alloc)) hbl); clear Fa; have Fa := Fan; clear Fan)); (try (have Fbn := Aside0.mk (below_tr2 (w := wb) (by repeat (first | exact Fb.out | exact Below.refl _ _ | apply below_alloc)) hbl); clear Fb; have Fb := Fbn; clear Fbn)); (try (have HDn := Aside0.mk (hd_call (by first | exact HD.out | exact hd_alloc HD.out _) hbl); clear HD; have HD := HDn; clear HDn)); (try clear c0); (try have c0 := hd_key HD.out); clear hbl)
                )
              go_roundw
              case rel => exact ⟨k + 1, HLT.out, by rw [hkw]; simp, HB⟩
              case measure => (have h9 := HLT.out; rw [hkw]; clear hkw; show b.length - ((k : Int) + 1).toNat < b.length - (k : Int).toNat; omega)
            | true =>
              rw [h1, h2, h3] at hE
              have hq : ((k : Int) == ch) = false := hE.symm
              clear hE
              go_wp2_with (first
                | ((go_at_call 27); (with_reducible refine (H27.out _ (by repeat (first | exact HB.out | exact Below.refl _ _ | apply below_alloc))).mono ?_); rintro e w9 ⟨rfl, hbl⟩; (try (have HBn := Aside0.mk (below_tr2 (w := w) (by repeat (first | exact HB.out | exact Below.refl _ _ | apply below_alloc)) hbl); clear HB; have HB := HBn; clear HBn)); (try (have Fan := Aside0.mk (below_tr2 (w := wa) (by repeat (first | exact Fa.out | exact Below.refl _ _ | apply below_alloc)) hbl); clear Fa; have Fa := Fan; clear Fan)); (try (have Fbn := Aside0.mk (below_tr2 (w := wb) (by repeat (first | exact Fb.out | exact Below.refl _ _ | apply below_alloc)) hbl); clear Fb; have Fb := Fbn; clear Fbn)); (try (have HDn := Aside0.mk (hd_call (by first | exact HD.out | exact hd_alloc HD.out _) hbl); clear HD; have HD := HDn; clear HDn)); (try clear c0); (try have c0 := hd_key HD.out); clear hbl)
                )
              go_roundw
              case rel => exact ⟨k + 1, HLT.out, by rw [hkw]; simp, HB⟩
              case measure => (have h9 := HLT.out; rw [hkw]; clear hkw; show b.length - ((k : Int) + 1).toNat < b.length - (k : Int).toNat; omega)
      · obtain rfl : k = b.length := by omega
        clear hlt hk
        go_wp2_with (first
          | ((go_at_call 15); (with_reducible refine (HSANE.out _ (by repeat (first | exact HB.out | exact Below.refl _ _ | apply below_alloc))).mono ?_); rintro e w9 ⟨rfl, hbl⟩; (try (have HBn := Aside0.mk (below_tr2 (w := w) (by repeat (first | exact HB.out | exact Below.refl _ _ | apply below_alloc)) hbl); clear HB; have HB := HBn; clear HBn)); (try (have Fan := Aside0.mk (below_tr2 (w := wa) (by repeat (first | exact Fa.out | exact Below.refl _ _ | apply below_alloc)) hbl); clear Fa; have Fa := Fan; clear Fan)); (try (have Fbn := Aside0.mk (below_tr2 (w := wb) (by repeat (first | exact Fb.out | exact Below.refl _ _ | apply below_alloc)) hbl); clear Fb; have Fb := Fbn; clear Fbn)); (try (have HDn := Aside0.mk (hd_call (by first | exact HD.out | exact hd_alloc HD.out _) hbl); clear HD; have HD := HDn; clear HDn)); (try clear c0); (try have c0 := hd_key HD.out); clear hbl)
          )
        go_ret
        exact ⟨rfl, HB.out⟩
set_option maxRecDepth 1000000 in
set_option maxHeartbeats 8000000 in
theorem finds_5 (l b : List S77) (A B : Option Addr) (c d : Nat) (x : S77) (key : ByteArray) (level : Int) (w : World) (HSANE : Aside0 (Say w 15 #[] (.bool true))) (HFEW : Aside0 (Ans3 w A l.length c B b.length d x true)) (hk : ¬ 100 < key.size) (H16 : Aside0 (Say w 16 #[.slice A l.length c, .int .i64 0] (.bool true))) (hs : ¬ x.f0.size < 1) (hs2 : 48 < x.f0.size)
    (oB : Bool) (ch : Int) (hp2 : level < 1 ∨ (¬ level < 1 ∧ oB = false) ∨ (¬ level < 1 ∧ oB = true ∧ b.length = 0) ∨ (¬ level < 1 ∧ oB = true ∧ ¬ b.length = 0)) (hbl0 : b.length ≤ 1000000) (HOB : Aside0 (Say w 16 #[.slice B b.length d, .int .i64 level] (.bool oB))) (H26 : Aside0 (Say w 26 #[.slice B b.length d, .string key] (.int .i64 ch)))
    (HBD : Aside0 (¬ level < 1 → oB = true → ∀ k : Nat, k < b.length → ∃ lo hi : ByteArray, (Say w 27 #[.slice B b.length d, .int .i64 (k : Int), .string ⟨#[]⟩, .string ⟨#[]⟩] (.tuple #[.string lo, .string hi, .int .i64 0])) ∧ ((!Op.bytesLess key.toList lo.toList) && ((hi.toList == ([] : List UInt8)) || Op.bytesLess key.toList hi.toList)) = ((k : Int) == ch))) :
    Calls Try.prog 11 #[.slice A l.length c, .slice B b.length d, .agg (entC x), .string key, .int .i64 level] w fun e w' => e = .returned (.bool true) ∧ Below w.heap.size w w' := by
  have d34 : decide ((100 : Int) < (key.size : Int)) = false := decide_eq_false (by omega)
  have d35 : decide ((key.size : Int) > (100 : Int)) = false := decide_eq_false (by omega)
  have d36 : decide (100 < key.size) = false := decide_eq_false (by omega)
  have d6 : decide ((x.f0.size : Int) ≥ 1) = true := decide_eq_true (by omega)
  have d7 : decide (1 ≤ (x.f0.size : Int)) = true := decide_eq_true (by omega)
  have d8 : decide (1 ≤ x.f0.size) = true := decide_eq_true (by omega)
  have d9 : decide ((x.f0.size : Int) ≤ 48) = false := decide_eq_false (by omega)
  have d10 : decide ((48 : Int) ≥ (x.f0.size : Int)) = false := decide_eq_false (by omega)
  have d11 : decide (x.f0.size ≤ 48) = false := decide_eq_false (by omega)
  clear hk hs hs2
  rcases hp2 with h2 | ⟨h2, rfl⟩ | ⟨h2, rfl, h3⟩ | ⟨h2, rfl, h3⟩
  · have d37 : decide (level < 1) = true := decide_eq_true (by omega)
    have d38 : decide (1 > level) = true := decide_eq_true (by omega)
    clear h2 hbl0
    go_enter Try.func11, Try.ntmps11
    go_wp2_with (first
      | ((with_reducible refine gate_dst (N := 7) rfl ?_); refine box_event (hgd := rfl) (N := 7) rfl (cs := entC x) (t := 77) (by go_simp) ?_; intro gA hg_ w1 HG hb; clear hg_; have HD := Aside0.mk (show Hd w gA (entC x) w1 from ⟨HG, hb⟩); have HB := Aside0.mk hb; clear HG hb)
      | ((with_reducible refine gate_dst (N := 32) rfl ?_); refine wpList_load_hd (w0 := w) (g := gA) (x := x) (by first | exact HD.out | exact hd_alloc HD.out _) rfl (.tmp 7) rfl rfl ?_; dsimp only [entC])
      | ((go_at_call 14); (with_reducible refine (HFEW.out _ _ w1.heap.size ?hb ?hg ?hgE).mono ?_); (case hb => exact below_alloc (below_alloc HB.out _) _); (case hg => exact blk_new2 _ _ _); (case hgE => exact blk_alloc (blk_new _ _) _); rintro e w9 ⟨rfl, hbl⟩; have HDn := Aside0.mk (hd_call (hd_alloc (hd_alloc HD.out _) _) hbl); have HBn := Aside0.mk (below_tr2 (w := w) (below_alloc (below_alloc HB.out _) _) hbl); (clear HD HB hbl); have HD := HDn; have HB := HBn; clear HDn HBn; have c0 := hd_key HD.out)
      | ((go_at_call 16); (with_reducible refine (H16.out _ (by repeat (first | exact HB.out | exact Below.refl _ _ | apply below_alloc))).mono ?_); rintro e w9 ⟨rfl, hbl⟩; (try (have HBn := Aside0.mk (below_tr2 (w := w) (by repeat (first | exact HB.out | exact Below.refl _ _ | apply below_alloc)) hbl); clear HB; have HB := HBn; clear HBn)); (try (have Fan := Aside0.mk (below_tr2 (w := wa) (by repeat (first | exact Fa.out | exact Below.refl _ _ | apply below_alloc)) hbl); clear Fa; have Fa := Fan; clear Fan)); (try (have Fbn := Aside0.mk (below_tr2 (w := wb) (by repeat (first | exact Fb.out | exact Below.refl _ _ | apply below_alloc)) hbl); clear Fb; have Fb := Fbn; clear Fbn)); (try (have HDn := Aside0.mk (hd_call (by first | exact HD.out | exact hd_alloc HD.out _) hbl); clear HD; have HD := HDn; clear HDn)); (try clear c0); (try have c0 := hd_key HD.out); clear hbl)
      | ((go_at_call 15); (with_reducible refine (HSANE.out _ (by repeat (first | exact HB.out | exact Below.refl _ _ | apply below_alloc))).mono ?_); rintro e w9 ⟨rfl, hbl⟩; (try (have HBn := Aside0.mk (below_tr2 (w := w) (by repeat (first | exact HB.out | exact Below.refl _ _ | apply below_alloc)) hbl); clear HB; have HB := HBn; clear HBn)); (try (have Fan := Aside0.mk (below_tr2 (w := wa) (by repeat (first | exact Fa.out | exact Below.refl _ _ | apply below_alloc)) hbl); clear Fa; have Fa := Fan; clear Fan)); (try (have Fbn := Aside0.mk (below_tr2 (w := wb) (by repeat (first | exact Fb.out | exact Below.refl _ _ | apply below_alloc)) hbl); clear Fb; have Fb := Fbn; clear Fbn)); (try (have HDn := Aside0.mk (hd_call (by first | exact HD.out | exact hd_alloc HD.out _) hbl); clear HD; have HD := HDn; clear HDn)); (try clear c0); (try have c0 := hd_key HD.out); clear hbl)
      )
    go_ret
    exact ⟨rfl, HB.out⟩
  · have d39 : decide (level < 1) = false := decide_eq_false (by omega)
    have d40 : decide (1 > level) = false := decide_eq_false (by omega)
    clear h2 hbl0
    go_enter Try.func11, Try.ntmps11
    go_wp2_with (first
      | ((with_reducible refine gate_dst (N := 7) rfl ?_); refine box_event (hgd := rfl) (N := 7) rfl (cs := entC x) (t := 77) (by go_simp) ?_; intro gA hg_ w1 HG hb; clear hg_; have HD := Aside0.mk (show Hd w gA (entC x) w1 from ⟨HG, hb⟩); have HB := Aside0.mk hb; clear HG hb)
      | ((with_reducible refine gate_dst (N := 32) rfl ?_); refine wpList_load_hd (w0 := w) (g := gA) (x := x) (by first | exact HD.out | exact hd_alloc HD.out _) rfl (.tmp 7) rfl rfl ?_; dsimp only [entC])
      | ((go_at_call 14); (with_reducible refine (HFEW.out _ _ w1.heap.size ?hb ?hg ?hgE).mono ?_); (case hb => exact below_alloc (below_alloc HB.out _) _); (case hg => exact blk_new2 _ _ _); (case hgE => exact blk_alloc (blk_new _ _) _); rintro e w9 ⟨rfl, hbl⟩; have HDn := Aside0.mk (hd_call (hd_alloc (hd_alloc HD.out _) _) hbl); have HBn := Aside0.mk (below_tr2 (w := w) (below_alloc (below_alloc HB.out _) _) hbl); (clear HD HB hbl); have HD := HDn; have HB := HBn; clear HDn HBn; have c0 := hd_key HD.out)
      | ((go_at_call 16); (with_reducible refine (H16.out _ (by repeat (first | exact HB.out | exact Below.refl _ _ | apply below_alloc))).mono ?_); rintro e w9 ⟨rfl, hbl⟩; (try (have HBn := Aside0.mk (below_tr2 (w := w) (by repeat (first | exact HB.out | exact Below.refl _ _ | apply below_alloc)) hbl); clear HB; have HB := HBn; clear HBn)); (try (have Fan := Aside0.mk (below_tr2 (w := wa) (by repeat (first | exact Fa.out | exact Below.refl _ _ | apply below_alloc)) hbl); clear Fa; have Fa := Fan; clear Fan)); (try (have Fbn := Aside0.mk (below_tr2 (w := wb) (by repeat (first | exact Fb.out | exact Below.refl _ _ | apply below_alloc)) hbl); clear Fb; have Fb := Fbn; clear Fbn)); (try (have HDn := Aside0.mk (hd_call (by first | exact HD.out | exact hd_alloc HD.out _) hbl); clear HD; have HD := HDn; clear HDn)); (try clear c0); (try have c0 := hd_key HD.out); clear hbl)
      | ((go_at_call 16); (with_reducible refine (HOB.out _ (by repeat (first | exact HB.out | exact Below.refl _ _ | apply below_alloc))).mono ?_); rintro e w9 ⟨rfl, hbl⟩; (try (have HBn := Aside0.mk (below_tr2 (w := w) (by repeat (first | exact HB.out | exact Below.refl _ _ | apply below_alloc)) hbl); clear HB; have HB := HBn; clear HBn)); (try (have Fan := Aside0.mk (below_tr2 (w := wa) (by repeat (first | exact Fa.out | exact Below.refl _ _ | apply below_alloc)) hbl); clear Fa; have Fa := Fan; clear Fan)); (try (have Fbn := Aside0.mk (below_tr2 (w := wb) (by repeat (first | exact Fb.out | exact Below.refl _ _ | apply below_alloc)) hbl); clear Fb; have Fb := Fbn; clear Fbn)); (try (have HDn := Aside0.mk (hd_call (by first | exact HD.out | exact hd_alloc HD.out _) hbl); clear HD; have HD := HDn; clear HDn)); (try clear c0); (try have c0 := hd_key HD.out); clear hbl)
      | ((go_at_call 15); (with_reducible refine (HSANE.out _ (by repeat (first | exact HB.out | exact Below.refl _ _ | apply below_alloc))).mono ?_); rintro e w9 ⟨rfl, hbl⟩; (try (have HBn := Aside0.mk (below_tr2 (w := w) (by repeat (first | exact HB.out | exact Below.refl _ _ | apply below_alloc)) hbl); clear HB; have HB := HBn; clear HBn)); (try (have Fan := Aside0.mk (below_tr2 (w := wa) (by repeat (first | exact Fa.out | exact Below.refl _ _ | apply below_alloc)) hbl); clear Fa; have Fa := Fan; clear Fan)); (try (have Fbn := Aside0.mk (below_tr2 (w := wb) (by repeat (first | exact Fb.out | exact Below.refl _ _ | apply below_alloc)) hbl); clear Fb; have Fb := Fbn; clear Fbn)); (try (have HDn := Aside0.mk (hd_call (by first | exact HD.out | exact hd_alloc HD.out _) hbl); clear HD; have HD := HDn; clear HDn)); (try clear c0); (try have c0 := hd_key HD.out); clear hbl)
      )
    go_ret
    exact ⟨rfl, HB.out⟩
  · have d41 : decide (level < 1) = false := decide_eq_false (by omega)
    have d42 : decide (1 > level) = false := decide_eq_false (by omega)
    have e0 : ((b.length : Int) == 0) = true := beq_iff_eq.mpr (by omega)
    clear h2 h3 hbl0
    go_enter Try.func11, Try.ntmps11
    go_wp2_with (first
      | ((with_reducible refine gate_dst (N := 7) rfl ?_); refine box_event (hgd := rfl) (N := 7) rfl (cs := entC x) (t := 77) (by go_simp) ?_; intro gA hg_ w1 HG hb; clear hg_; have HD := Aside0.mk (show Hd w gA (entC x) w1 from ⟨HG, hb⟩); have HB := Aside0.mk hb; clear HG hb)
      | ((with_reducible refine gate_dst (N := 32) rfl ?_); refine wpList_load_hd (w0 := w) (g := gA) (x := x) (by first | exact HD.out | exact hd_alloc HD.out _) rfl (.tmp 7) rfl rfl ?_; dsimp only [entC])
      | ((go_at_call 14); (with_reducible refine (HFEW.out _ _ w1.heap.size ?hb ?hg ?hgE).mono ?_); (case hb => exact below_alloc (below_alloc HB.out _) _); (case hg => exact blk_new2 _ _ _); (case hgE => exact blk_alloc (blk_new _ _) _); rintro e w9 ⟨rfl, hbl⟩; have HDn := Aside0.mk (hd_call (hd_alloc (hd_alloc HD.out _) _) hbl); have HBn := Aside0.mk (below_tr2 (w := w) (below_alloc (below_alloc HB.out _) _) hbl); (clear HD HB hbl); have HD := HDn; have HB := HBn; clear HDn HBn; have c0 := hd_key HD.out)
      | ((go_at_call 16); (with_reducible refine (H16.out _ (by repeat (first | exact HB.out | exact Below.refl _ _ | apply below_alloc))).mono ?_); rintro e w9 ⟨rfl, hbl⟩; (try (have HBn := Aside0.mk (below_tr2 (w := w) (by repeat (first | exact HB.out | exact Below.refl _ _ | apply below_alloc)) hbl); clear HB; have HB := HBn; clear HBn)); (try (have Fan := Aside0.mk (below_tr2 (w := wa) (by repeat (first | exact Fa.out | exact Below.refl _ _ | apply below_alloc)) hbl); clear Fa; have Fa := Fan; clear Fan)); (try (have Fbn := Aside0.mk (below_tr2 (w := wb) (by repeat (first | exact Fb.out | exact Below.refl _ _ | apply below_alloc)) hbl); clear Fb; have Fb := Fbn; clear Fbn)); (try (have HDn := Aside0.mk (hd_call (by first | exact HD.out | exact hd_alloc HD.out _) hbl); clear HD; have HD := HDn; clear HDn)); (try clear c0); (try have c0 := hd_key HD.out); clear hbl)
      | ((go_at_call 16); (with_reducible refine (HOB.out _ (by repeat (first | exact HB.out | exact Below.refl _ _ | apply below_alloc))).mono ?_); rintro e w9 ⟨rfl, hbl⟩; (try (have HBn := Aside0.mk (below_tr2 (w := w) (by repeat (first | exact HB.out | exact Below.refl _ _ | apply below_alloc)) hbl); clear HB; have HB := HBn; clear HBn)); (try (have Fan := Aside0.mk (below_tr2 (w := wa) (by repeat (first | exact Fa.out | exact Below.refl _ _ | apply below_alloc)) hbl); clear Fa; have Fa := Fan; clear Fan)); (try (have Fbn := Aside0.mk (below_tr2 (w := wb) (by repeat (first | exact Fb.out | exact Below.refl _ _ | apply below_alloc)) hbl); clear Fb; have Fb := Fbn; clear Fbn)); (try (have HDn := Aside0.mk (hd_call (by first | exact HD.out | exact hd_alloc HD.out _) hbl); clear HD; have HD := HDn; clear HDn)); (try clear c0); (try have c0 := hd_key HD.out); clear hbl)
      | ((go_at_call 15); (with_reducible refine (HSANE.out _ (by repeat (first | exact HB.out | exact Below.refl _ _ | apply below_alloc))).mono ?_); rintro e w9 ⟨rfl, hbl⟩; (try (have HBn := Aside0.mk (below_tr2 (w := w) (by repeat (first | exact HB.out | exact Below.refl _ _ | apply below_alloc)) hbl); clear HB; have HB := HBn; clear HBn)); (try (have Fan := Aside0.mk (below_tr2 (w := wa) (by repeat (first | exact Fa.out | exact Below.refl _ _ | apply below_alloc)) hbl); clear Fa; have Fa := Fan; clear Fan)); (try (have Fbn := Aside0.mk (below_tr2 (w := wb) (by repeat (first | exact Fb.out | exact Below.refl _ _ | apply below_alloc)) hbl); clear Fb; have Fb := Fbn; clear Fbn)); (try (have HDn := Aside0.mk (hd_call (by first | exact HD.out | exact hd_alloc HD.out _) hbl); clear HD; have HD := HDn; clear HDn)); (try clear c0); (try have c0 := hd_key HD.out); clear hbl)
      )
    go_ret
    exact ⟨rfl, HB.out⟩
  · have d43 : decide (level < 1) = false := decide_eq_false (by omega)
    have d44 : decide (1 > level) = false := decide_eq_false (by omega)
    have e0 : ((b.length : Int) == 0) = false := beq_eq_false_iff_ne.mpr (by omega)
    have HBD2 := Aside0.mk (HBD.out h2 rfl)
    have HLB := Aside0.mk hbl0
    clear h2 h3 HBD hbl0
    go_enter Try.func11, Try.ntmps11
    go_wp2_with (first
      | ((with_reducible refine gate_dst (N := 7) rfl ?_); refine box_event (hgd := rfl) (N := 7) rfl (cs := entC x) (t := 77) (by go_simp) ?_; intro gA hg_ w1 HG hb; clear hg_; have HD := Aside0.mk (show Hd w gA (entC x) w1 from ⟨HG, hb⟩); have HB := Aside0.mk hb; clear HG hb)
      | ((with_reducible refine gate_dst (N := 32) rfl ?_); refine wpList_load_hd (w0 := w) (g := gA) (x := x) (by first | exact HD.out | exact hd_alloc HD.out _) rfl (.tmp 7) rfl rfl ?_; dsimp only [entC])
      | ((go_at_call 14); (with_reducible refine (HFEW.out _ _ w1.heap.size ?hb ?hg ?hgE).mono ?_); (case hb => exact below_alloc (below_alloc HB.out _) _); (case hg => exact blk_new2 _ _ _); (case hgE => exact blk_alloc (blk_new _ _) _); rintro e w9 ⟨rfl, hbl⟩; have HDn := Aside0.mk (hd_call (hd_alloc (hd_alloc HD.out _) _) hbl); have HBn := Aside0.mk (below_tr2 (w := w) (below_alloc (below_alloc HB.out _) _) hbl); (clear HD HB hbl); have HD := HDn; have HB := HBn; clear HDn HBn; have c0 := hd_key HD.out)
      | ((go_at_call 16); (with_reducible refine (H16.out _ (by repeat (first | exact HB.out | exact Below.refl _ _ | apply below_alloc))).mono ?_); rintro e w9 ⟨rfl, hbl⟩; (try (have HBn := Aside0.mk (below_tr2 (w := w) (by repeat (first | exact HB.out | exact Below.refl _ _ | apply below_alloc)) hbl); clear HB; have HB := HBn; clear HBn)); (try (have Fan := Aside0.mk (below_tr2 (w := wa) (by repeat (first | exact Fa.out | exact Below.refl _ _ | apply below_alloc)) hbl); clear Fa; have Fa := Fan; clear Fan)); (try (have Fbn := Aside0.mk (below_tr2 (w := wb) (by repeat (first | exact Fb.out | exact Below.refl _ _ | apply below_alloc)) hbl); clear Fb; have Fb := Fbn; clear Fbn)); (try (have HDn := Aside0.mk (hd_call (by first | exact HD.out | exact hd_alloc HD.out _) hbl); clear HD; have HD := HDn; clear HDn)); (try clear c0); (try have c0 := hd_key HD.out); clear hbl)
      | ((go_at_call 16); (with_reducible refine (HOB.out _ (by repeat (first | exact HB.out | exact Below.refl _ _ | apply below_alloc))).mono ?_); rintro e w9 ⟨rfl, hbl⟩; (try (have HBn := Aside0.mk (below_tr2 (w := w) (by repeat (first | exact HB.out | exact Below.refl _ _ | apply below_alloc)) hbl); clear HB; have HB := HBn; clear HBn)); (try (have Fan := Aside0.mk (below_tr2 (w := wa) (by repeat (first | exact Fa.out | exact Below.refl _ _ | apply below_alloc)) hbl); clear Fa; have Fa := Fan; clear Fan)); (try (have Fbn := Aside0.mk (below_tr2 (w := wb) (by repeat (first | exact Fb.out | exact Below.refl _ _ | apply below_alloc)) hbl); clear Fb; have Fb := Fbn; clear Fbn)); (try (have HDn := Aside0.mk (hd_call (by first | exact HD.out | exact hd_alloc HD.out _) hbl); clear HD; have HD := HDn; clear HDn)); (try clear c0); (try have c0 := hd_key HD.out); clear hbl)
      | ((go_at_call 26); (with_reducible refine (H26.out _ (by repeat (first | exact HB.out | exact Below.refl _ _ | apply below_alloc))).mono ?_); rintro e w9 ⟨rfl, hbl⟩; (try (have HBn := Aside0.mk (below_tr2 (w := w) (by repeat (first | exact HB.out | exact Below.refl _ _ | apply below_alloc)) hbl); clear HB; have HB := HBn; clear HBn)); (try (have Fan := Aside0.mk (below_tr2 (w := wa) (by repeat (first | exact Fa.out | exact Below.refl _ _ | apply below_alloc)) hbl); clear Fa; have Fa := Fan; clear Fan)); (try (have Fbn := Aside0.mk (below_tr2 (w := wb) (by repeat (first | exact Fb.out | exact Below.refl _ _ | apply below_alloc)) hbl); clear Fb; have Fb := Fbn; clear Fbn)); (try (have HDn := Aside0.mk (hd_call (by first | exact HD.out | exact hd_alloc HD.out _) hbl); clear HD; have HD := HDn; clear HDn)); (try clear c0); (try have c0 := hd_key HD.out); clear hbl)
      )
    (try clear c0)
    (try clear HD)
    go_loopw [26] (fun iv wr => ∃ (k : Nat), k ≤ b.length ∧ iv = .int .i64 k ∧ Aside0 (Below w.heap.size w wr)) (fun iv _ => b.length - (intOf iv).toNat)
    case atStart => exact ⟨0, Nat.zero_le _, rfl, HB⟩
    case round =>
      (try clear HB)
      obtain ⟨k, hk, rfl, HB⟩ := hrel
      by_cases hlt : k < b.length
      · have HLT := Aside0.mk hlt
        obtain ⟨lo, hi, hS, hE⟩ := HBD2.out k hlt
        have H27 := Aside0.mk hS
        have hk1 : (k : Int) < (b.length : Int) := by omega
        have hkw := w_succ k (by have := HLB.out; omega)
        clear hS hlt hk
        cases h1 : Op.bytesLess key.toList lo.toList with
        | false =>
          cases h2 : (hi.toList == ([] : List UInt8)) with
          | false =>
            cases h3 : Op.bytesLess key.toList hi.toList with
            | false =>
              rw [h1, h2, h3] at hE
              have hq : ((k : Int) == ch) = false := hE.symm
              clear hE
              go_wp2_with (first
                | ((go_at_call 27); (with_reducible refine (H27.out _ (by repeat (first | exact HB.out | exact Below.refl _ _ | apply below_alloc))).mono ?_); rintro e w9 ⟨rfl, hbl⟩; (try (have HBn := Aside0.mk (below_tr2 (w := w) (by repeat (first | exact HB.out | exact Below.refl _ _ | apply below_alloc)) hbl); clear HB; have HB := HBn; clear HBn)); (try (have Fan := Aside0.mk (below_tr2 (w := wa) (by repeat (first | exact Fa.out | exact Below.refl _ _ | apply below_alloc)) hbl); clear Fa; have Fa := Fan; clear Fan)); (try (have Fbn := Aside0.mk (below_tr2 (w := wb) (by repeat (first | exact Fb.out | exact Below.refl _ _ | apply below_alloc)) hbl); clear Fb; have Fb := Fbn; clear Fbn)); (try (have HDn := Aside0.mk (hd_call (by first | exact HD.out | exact hd_alloc HD.out _) hbl); clear HD; have HD := HDn; clear HDn)); (try clear c0); (try have c0 := hd_key HD.out); clear hbl)
                )
              go_roundw
              case rel => exact ⟨k + 1, HLT.out, by rw [hkw]; simp, HB⟩
              case measure => (have h9 := HLT.out; rw [hkw]; clear hkw; show b.length - ((k : Int) + 1).toNat < b.length - (k : Int).toNat; omega)
            | true =>
              rw [h1, h2, h3] at hE
              have hq : ((k : Int) == ch) = true := hE.symm
              clear hE
              go_wp2_with (first
                | ((go_at_call 27); (with_reducible refine (H27.out _ (by repeat (first | exact HB.out | exact Below.refl _ _ | apply below_alloc))).mono ?_); rintro e w9 ⟨rfl, hbl⟩; (try (have HBn := Aside0.mk (below_tr2 (w := w) (by repeat (first | exact HB.out | exact Below.refl _ _ | apply below_alloc)) hbl); clear HB; have HB := HBn; clear HBn)); (try (have Fan := Aside0.mk (below_tr2 (w := wa) (by repeat (first | exact Fa.out | exact Below.refl _ _ | apply below_alloc)) hbl); clear Fa; have Fa := Fan; clear Fan)); (try (have Fbn := Aside0.mk (below_tr2 (w := wb) (by repeat (first | exact Fb.out | exact Below.refl _ _ | apply below_alloc)) hbl); clear Fb; have Fb := Fbn; clear Fbn)); (try (have HDn := Aside0.mk (hd_call (by first | exact HD.out | exact hd_alloc HD.out _) hbl); clear HD; have HD := HDn; clear HDn)); (try clear c0); (try have c0 := hd_key HD.out); clear hbl)
                )
              go_roundw
              case rel => exact ⟨k + 1, HLT.out, by rw [hkw]; simp, HB⟩
              case measure => (have h9 := HLT.out; rw [hkw]; clear hkw; show b.length - ((k : Int) + 1).toNat < b.length - (k : Int).toNat; omega)
          | true =>
            cases h3 : Op.bytesLess key.toList hi.toList with
            | false =>
              rw [h1, h2, h3] at hE
              have hq : ((k : Int) == ch) = true := hE.symm
              clear hE
              go_wp2_with (first
                | ((go_at_call 27); (with_reducible refine (H27.out _ (by repeat (first | exact HB.out | exact Below.refl _ _ | apply below_alloc))).mono ?_); rintro e w9 ⟨rfl, hbl⟩; (try (have HBn := Aside0.mk (below_tr2 (w := w) (by repeat (first | exact HB.out | exact Below.refl _ _ | apply below_alloc)) hbl); clear HB; have HB := HBn; clear HBn)); (try (have Fan := Aside0.mk (below_tr2 (w := wa) (by repeat (first | exact Fa.out | exact Below.refl _ _ | apply below_alloc)) hbl); clear Fa; have Fa := Fan; clear Fan)); (try (have Fbn := Aside0.mk (below_tr2 (w := wb) (by repeat (first | exact Fb.out | exact Below.refl _ _ | apply below_alloc)) hbl); clear Fb; have Fb := Fbn; clear Fbn)); (try (have HDn := Aside0.mk (hd_call (by first | exact HD.out | exact hd_alloc HD.out _) hbl); clear HD; have HD := HDn; clear HDn)); (try clear c0); (try have c0 := hd_key HD.out); clear hbl)
                )
              go_roundw
              case rel => exact ⟨k + 1, HLT.out, by rw [hkw]; simp, HB⟩
              case measure => (have h9 := HLT.out; rw [hkw]; clear hkw; show b.length - ((k : Int) + 1).toNat < b.length - (k : Int).toNat; omega)
            | true =>
              rw [h1, h2, h3] at hE
              have hq : ((k : Int) == ch) = true := hE.symm
              clear hE
              go_wp2_with (first
                | ((go_at_call 27); (with_reducible refine (H27.out _ (by repeat (first | exact HB.out | exact Below.refl _ _ | apply below_alloc))).mono ?_); rintro e w9 ⟨rfl, hbl⟩; (try (have HBn := Aside0.mk (below_tr2 (w := w) (by repeat (first | exact HB.out | exact Below.refl _ _ | apply below_alloc)) hbl); clear HB; have HB := HBn; clear HBn)); (try (have Fan := Aside0.mk (below_tr2 (w := wa) (by repeat (first | exact Fa.out | exact Below.refl _ _ | apply below_alloc)) hbl); clear Fa; have Fa := Fan; clear Fan)); (try (have Fbn := Aside0.mk (below_tr2 (w := wb) (by repeat (first | exact Fb.out | exact Below.refl _ _ | apply below_alloc)) hbl); clear Fb; have Fb := Fbn; clear Fbn)); (try (have HDn := Aside0.mk (hd_call (by first | exact HD.out | exact hd_alloc HD.out _) hbl); clear HD; have HD := HDn; clear HDn)); (try clear c0); (try have c0 := hd_key HD.out); clear hbl)
                )
              go_roundw
              case rel => exact ⟨k + 1, HLT.out, by rw [hkw]; simp, HB⟩
              case measure => (have h9 := HLT.out; rw [hkw]; clear hkw; show b.length - ((k : Int) + 1).toNat < b.length - (k : Int).toNat; omega)
        | true =>
          cases h2 : (hi.toList == ([] : List UInt8)) with
          | false =>
            cases h3 : Op.bytesLess key.toList hi.toList with
            | false =>
              rw [h1, h2, h3] at hE
              have hq : ((k : Int) == ch) = false := hE.symm
              clear hE
              go_wp2_with (first
                | ((go_at_call 27); (with_reducible refine (H27.out _ (by repeat (first | exact HB.out | exact Below.refl _ _ | apply below_alloc))).mono ?_); rintro e w9 ⟨rfl, hbl⟩; (try (have HBn := Aside0.mk (below_tr2 (w := w) (by repeat (first | exact HB.out | exact Below.refl _ _ | apply below_alloc)) hbl); clear HB; have HB := HBn; clear HBn)); (try (have Fan := Aside0.mk (below_tr2 (w := wa) (by repeat (first | exact Fa.out | exact Below.refl _ _ | apply below_alloc)) hbl); clear Fa; have Fa := Fan; clear Fan)); (try (have Fbn := Aside0.mk (below_tr2 (w := wb) (by repeat (first | exact Fb.out | exact Below.refl _ _ | apply below_alloc)) hbl); clear Fb; have Fb := Fbn; clear Fbn)); (try (have HDn := Aside0.mk (hd_call (by first | exact HD.out | exact hd_alloc HD.out _) hbl); clear HD; have HD := HDn; clear HDn)); (try clear c0); (try have c0 := hd_key HD.out); clear hbl)
                )
              go_roundw
              case rel => exact ⟨k + 1, HLT.out, by rw [hkw]; simp, HB⟩
              case measure => (have h9 := HLT.out; rw [hkw]; clear hkw; show b.length - ((k : Int) + 1).toNat < b.length - (k : Int).toNat; omega)
            | true =>
              rw [h1, h2, h3] at hE
              have hq : ((k : Int) == ch) = false := hE.symm
              clear hE
              go_wp2_with (first
                | ((go_at_call 27); (with_reducible refine (H27.out _ (by repeat (first | exact HB.out | exact Below.refl _ _ | apply below_alloc))).mono ?_); rintro e w9 ⟨rfl, hbl⟩; (try (have HBn := Aside0.mk (below_tr2 (w := w) (by repeat (first | exact HB.out | exact Below.refl _ _ | apply below_alloc)) hbl); clear HB; have HB := HBn; clear HBn)); (try (have Fan := Aside0.mk (below_tr2 (w := wa) (by repeat (first | exact Fa.out | exact Below.refl _ _ | apply below_alloc)) hbl); clear Fa; have Fa := Fan; clear Fan)); (try (have Fbn := Aside0.mk (below_tr2 (w := wb) (by repeat (first | exact Fb.out | exact Below.refl _ _ | apply below_alloc)) hbl); clear Fb; have Fb := Fbn; clear Fbn)); (try (have HDn := Aside0.mk (hd_call (by first | exact HD.out | exact hd_alloc HD.out _) hbl); clear HD; have HD := HDn; clear HDn)); (try clear c0); (try have c0 := hd_key HD.out); clear hbl)
                )
              go_roundw
              case rel => exact ⟨k + 1, HLT.out, by rw [hkw]; simp, HB⟩
              case measure => (have h9 := HLT.out; rw [hkw]; clear hkw; show b.length - ((k : Int) + 1).toNat < b.length - (k : Int).toNat; omega)
          | true =>
            cases h3 : Op.bytesLess key.toList hi.toList with
            | false =>
              rw [h1, h2, h3] at hE
              have hq : ((k : Int) == ch) = false := hE.symm
              clear hE
              go_wp2_with (first
                | ((go_at_call 27); (with_reducible refine (H27.out _ (by repeat (first | exact HB.out | exact Below.refl _ _ | apply below_alloc))).mono ?_); rintro e w9 ⟨rfl, hbl⟩; (try (have HBn := Aside0.mk (below_tr2 (w := w) (by repeat (first | exact HB.out | exact Below.refl _ _ | apply below_alloc)) hbl); clear HB; have HB := HBn; clear HBn)); (try (have Fan := Aside0.mk (below_tr2 (w := wa) (by repeat (first | exact Fa.out | exact Below.refl _ _ | apply below_alloc)) hbl); clear Fa; have Fa := Fan; clear Fan)); (try (have Fbn := Aside0.mk (below_tr2 (w := wb) (by repeat (first | exact Fb.out | exact Below.refl _ _ | apply below_alloc)) hbl); clear Fb; have Fb := Fbn; clear Fbn)); (try (have HDn := Aside0.mk (hd_call (by first | exact HD.out | exact hd_alloc HD.out _) hbl); clear HD; have HD := HDn; clear HDn)); (try clear c0); (try have c0 := hd_key HD.out); clear hbl)
                )
              go_roundw
              case rel => exact ⟨k + 1, HLT.out, by rw [hkw]; simp, HB⟩
              case measure => (have h9 := HLT.out; rw [hkw]; clear hkw; show b.length - ((k : Int) + 1).toNat < b.length - (k : Int).toNat; omega)
            | true =>
              rw [h1, h2, h3] at hE
              have hq : ((k : Int) == ch) = false := hE.symm
              clear hE
              go_wp2_with (first
                | ((go_at_call 27); (with_reducible refine (H27.out _ (by repeat (first | exact HB.out | exact Below.refl _ _ | apply below_alloc))).mono ?_); rintro e w9 ⟨rfl, hbl⟩; (try (have HBn := Aside0.mk (below_tr2 (w := w) (by repeat (first | exact HB.out | exact Below.refl _ _ | apply below_alloc)) hbl); clear HB; have HB := HBn; clear HBn)); (try (have Fan := Aside0.mk (below_tr2 (w := wa) (by repeat (first | exact Fa.out | exact Below.refl _ _ | apply below_alloc)) hbl); clear Fa; have Fa := Fan; clear Fan)); (try (have Fbn := Aside0.mk (below_tr2 (w := wb) (by repeat (first | exact Fb.out | exact Below.refl _ _ | apply below_alloc)) hbl); clear Fb; have Fb := Fbn; clear Fbn)); (try (have HDn := Aside0.mk (hd_call (by first | exact HD.out | exact hd_alloc HD.out _) hbl); clear HD; have HD := HDn; clear HDn)); (try clear c0); (try have c0 := hd_key HD.out); clear hbl)
                )
              go_roundw
              case rel => exact ⟨k + 1, HLT.out, by rw [hkw]; simp, HB⟩
              case measure => (have h9 := HLT.out; rw [hkw]; clear hkw; show b.length - ((k : Int) + 1).toNat < b.length - (k : Int).toNat; omega)
      · obtain rfl : k = b.length := by omega
        clear hlt hk
        go_wp2_with (first
          | ((go_at_call 15); (with_reducible refine (HSANE.out _ (by repeat (first | exact HB.out | exact Below.refl _ _ | apply below_alloc))).mono ?_); rintro e w9 ⟨rfl, hbl⟩; (try (have HBn := Aside0.mk (below_tr2 (w := w) (by repeat (first | exact HB.out | exact Below.refl _ _ | apply below_alloc)) hbl); clear HB; have HB := HBn; clear HBn)); (try (have Fan := Aside0.mk (below_tr2 (w := wa) (by repeat (first | exact Fa.out | exact Below.refl _ _ | apply below_alloc)) hbl); clear Fa; have Fa := Fan; clear Fan)); (try (have Fbn := Aside0.mk (below_tr2 (w := wb) (by repeat (first | exact Fb.out | exact Below.refl _ _ | apply below_alloc)) hbl); clear Fb; have Fb := Fbn; clear Fbn)); (try (have HDn := Aside0.mk (hd_call (by first | exact HD.out | exact hd_alloc HD.out _) hbl); clear HD; have HD := HDn; clear HDn)); (try clear c0); (try have c0 := hd_key HD.out); clear hbl)
          )
        go_ret
        exact ⟨rfl, HB.out⟩
end Go.Proofs.Ytalncokpbgbccaa.E

/- NodeFinds, the walk of the way in which the leaf is in order. -/
namespace Go.Proofs.Ytalncokpbgbccaa.E
set_option linter.unusedVariables false
set_option linter.unusedSimpArgs false
open Go.RowKit Go.Proofs.YtalncokpbgbccaaW.PrintWords Go.Proofs.YtalncokpbgbccaaW.PrintLast Go.Proofs.YtalncokpbgbccaaW.PrintMore
set_option maxRecDepth 1000000 in
set_option maxHeartbeats 8000000 in
theorem finds_6 (l b : List S77) (A B : Option Addr) (c d : Nat) (x : S77) (key : ByteArray) (level : Int) (w : World) (HSANE : Aside0 (Say w 15 #[] (.bool true))) (HFEW : Aside0 (Ans3 w A l.length c B b.length d x true)) (hk : ¬ 100 < key.size) (H16 : Aside0 (Say w 16 #[.slice A l.length c, .int .i64 0] (.bool true))) (hs : ¬ x.f0.size < 1) (hs2 : ¬ 48 < x.f0.size)
    (oB : Bool) (ch : Int) (hp2 : level < 1 ∨ (¬ level < 1 ∧ oB = false) ∨ (¬ level < 1 ∧ oB = true ∧ b.length = 0) ∨ (¬ level < 1 ∧ oB = true ∧ ¬ b.length = 0)) (hbl0 : b.length ≤ 1000000) (HOB : Aside0 (Say w 16 #[.slice B b.length d, .int .i64 level] (.bool oB))) (H26 : Aside0 (Say w 26 #[.slice B b.length d, .string key] (.int .i64 ch)))
    (HBD : Aside0 (¬ level < 1 → oB = true → ∀ k : Nat, k < b.length → ∃ lo hi : ByteArray, (Say w 27 #[.slice B b.length d, .int .i64 (k : Int), .string ⟨#[]⟩, .string ⟨#[]⟩] (.tuple #[.string lo, .string hi, .int .i64 0])) ∧ ((!Op.bytesLess key.toList lo.toList) && ((hi.toList == ([] : List UInt8)) || Op.bytesLess key.toList hi.toList)) = ((k : Int) == ch)))
    (P DL : List S77) (is : Bool) (r0 rd : Int) (rp : Nat) (hrp : rp < P.length) (hpx : P.getD rp z77 = x) (hpl : P.length ≤ 1000000) (hll : l.length ≤ 1000000) (hr : Kd.C k77 w A l.length l)
    (H54 : Aside0 (SayL w 54 #[.slice A l.length c, .agg (entC x)] (fun v => v) P)) (H55 : Aside0 (SayL w 55 #[.slice A l.length c, .string key] (fun v => .tuple #[v, .bool is]) DL)) (H25 : Aside0 (Say w 25 #[.slice A l.length c, .string key] (.tuple #[.int .i64 r0, .bool is])))
    (H25P : Aside0 (∀ (W : World) A1 c1, Kd.C k77 W A1 P.length P → Calls Try.prog 25 #[.slice A1 P.length c1, .string x.f0] W fun e w2 => e = .returned (.tuple #[.int .i64 (rp : Int), .bool true]) ∧ Below W.heap.size W w2))
    (H25D : Aside0 (∀ (W : World) A1 c1, Kd.C k77 W A1 DL.length DL → Calls Try.prog 25 #[.slice A1 DL.length c1, .string key] W fun e w2 => e = .returned (.tuple #[.int .i64 rd, .bool false]) ∧ Below W.heap.size W w2))
    (H16P : Aside0 (∀ (W : World) A1 c1, Kd.C k77 W A1 P.length P → P.length ≤ c1 → Calls Try.prog 16 #[.slice A1 P.length c1, .int .i64 0] W fun e w2 => e = .returned (.bool true) ∧ Below W.heap.size W w2))
    (H16D : Aside0 (∀ (W : World) A1 c1, Kd.C k77 W A1 DL.length DL → DL.length ≤ c1 → Calls Try.prog 16 #[.slice A1 DL.length c1, .int .i64 0] W fun e w2 => e = .returned (.bool true) ∧ Below W.heap.size W w2))
    (HK : Aside0 (∀ k, k < l.length → ∃ (r1 : Nat) (r2 : Int) (tw : Bool), r1 < P.length ∧ ((l.getD k z77).f0 ≠ x.f0 → P.getD r1 z77 = l.getD k z77) ∧ tw = (!((l.getD k z77).f0.toList == key.toList))
      ∧ (∀ (W : World) A1 c1, Kd.C k77 W A1 P.length P → Calls Try.prog 25 #[.slice A1 P.length c1, .string (l.getD k z77).f0] W fun e w2 => e = .returned (.tuple #[.int .i64 (r1 : Int), .bool true]) ∧ Below W.heap.size W w2)
      ∧ (∀ (W : World) A1 c1, Kd.C k77 W A1 DL.length DL → Calls Try.prog 25 #[.slice A1 DL.length c1, .string (l.getD k z77).f0] W fun e w2 => e = .returned (.tuple #[.int .i64 r2, .bool tw]) ∧ Below W.heap.size W w2))) :
    Calls Try.prog 11 #[.slice A l.length c, .slice B b.length d, .agg (entC x), .string key, .int .i64 level] w fun e w' => e = .returned (.bool true) ∧ Below w.heap.size w w' := by
  have d45 : decide ((100 : Int) < (key.size : Int)) = false := decide_eq_false (by omega)
  have d46 : decide ((key.size : Int) > (100 : Int)) = false := decide_eq_false (by omega)
  have d47 : decide (100 < key.size) = false := decide_eq_false (by omega)
  have d48 : decide ((x.f0.size : Int) ≥ 1) = true := decide_eq_true (by omega)
  have d49 : decide (1 ≤ (x.f0.size : Int)) = true := decide_eq_true (by omega)
  have d50 : decide (1 ≤ x.f0.size) = true := decide_eq_true (by omega)
  have d51 : decide ((x.f0.size : Int) ≤ 48) = true := decide_eq_true (by omega)
  have d52 : decide ((48 : Int) ≥ (x.f0.size : Int)) = true := decide_eq_true (by omega)
  have d53 : decide (x.f0.size ≤ 48) = true := decide_eq_true (by omega)
  have HRP := Aside0.mk hrp
  have HPX := Aside0.mk hpx
  have HPL := Aside0.mk hpl
  have HLL := Aside0.mk hll
  have HR := Aside0.mk (fun (W : World) (hb : Below w.heap.size w W) => Kd.C_below hr hb)
  have HP2 := Aside0.mk hp2
  have HBL0 := Aside0.mk hbl0
  clear hk hs hs2 hrp hpx hpl hll hr hp2 hbl0
  go_enter Try.func11, Try.ntmps11
  go_upto_region 9 with (first
    | ((with_reducible refine gate_dst (N := 7) rfl ?_); refine box_event (hgd := rfl) (N := 7) rfl (cs := entC x) (t := 77) (by go_simp) ?_; intro gA hg_ w1 HG hb; clear hg_; have HD := Aside0.mk (show Hd w gA (entC x) w1 from ⟨HG, hb⟩); have HB := Aside0.mk hb; clear HG hb)
    | ((with_reducible refine gate_dst (N := 32) rfl ?_); refine wpList_load_hd (w0 := w) (g := gA) (x := x) (by first | exact HD.out | exact hd_alloc HD.out _) rfl (.tmp 7) rfl rfl ?_; dsimp only [entC])
    | ((go_at_call 14); (with_reducible refine (HFEW.out _ _ w1.heap.size ?hb ?hg ?hgE).mono ?_); (case hb => exact below_alloc (below_alloc HB.out _) _); (case hg => exact blk_new2 _ _ _); (case hgE => exact blk_alloc (blk_new _ _) _); rintro e w9 ⟨rfl, hbl⟩; have HDn := Aside0.mk (hd_call (hd_alloc (hd_alloc HD.out _) _) hbl); have HBn := Aside0.mk (below_tr2 (w := w) (below_alloc (below_alloc HB.out _) _) hbl); (clear HD HB hbl); have HD := HDn; have HB := HBn; clear HDn HBn; have c0 := hd_key HD.out)
    | ((go_at_call 16); (with_reducible refine (H16.out _ (by repeat (first | exact HB.out | exact Below.refl _ _ | apply below_alloc))).mono ?_); rintro e w9 ⟨rfl, hbl⟩; (try (have HBn := Aside0.mk (below_tr2 (w := w) (by repeat (first | exact HB.out | exact Below.refl _ _ | apply below_alloc)) hbl); clear HB; have HB := HBn; clear HBn)); (try (have Fan := Aside0.mk (below_tr2 (w := wa) (by repeat (first | exact Fa.out | exact Below.refl _ _ | apply below_alloc)) hbl); clear Fa; have Fa := Fan; clear Fan)); (try (have Fbn := Aside0.mk (below_tr2 (w := wb) (by repeat (first | exact Fb.out | exact Below.refl _ _ | apply below_alloc)) hbl); clear Fb; have Fb := Fbn; clear Fbn)); (try (have HDn := Aside0.mk (hd_call (by first | exact HD.out | exact hd_alloc HD.out _) hbl); clear HD; have HD := HDn; clear HDn)); (try clear c0); (try have c0 := hd_key HD.out); clear hbl)
    | ((with_reducible refine gate_dst (N := 58) rfl ?_); refine wpList_load_hd (w0 := w) (g := gA) (x := x) (by first | exact HD.out | exact hd_alloc HD.out _) rfl (.tmp 7) rfl rfl ?_)
    | ((go_at_call 54); (with_reducible refine (H54.out _ (by repeat (first | exact HB.out | exact Below.refl _ _ | apply below_alloc))).mono ?_); rintro e wa ⟨v9, rfl, ho, hbl⟩; obtain ⟨A1, c1, rfl⟩ := Kd.R_slice ho; have HCA := Aside0.mk (Kd.R_reads' ho).2.2; have NA1 := Aside0.mk (Kd.R_reads' ho).2.1; (try (have HBn := Aside0.mk (below_tr2 (w := w) (by repeat (first | exact HB.out | exact Below.refl _ _ | apply below_alloc)) hbl); clear HB; have HB := HBn; clear HBn)); (try (have Fan := Aside0.mk (below_tr2 (w := wa) (by repeat (first | exact Fa.out | exact Below.refl _ _ | apply below_alloc)) hbl); clear Fa; have Fa := Fan; clear Fan)); (try (have Fbn := Aside0.mk (below_tr2 (w := wb) (by repeat (first | exact Fb.out | exact Below.refl _ _ | apply below_alloc)) hbl); clear Fb; have Fb := Fbn; clear Fbn)); (try (have HDn := Aside0.mk (hd_call (by first | exact HD.out | exact hd_alloc HD.out _) hbl); clear HD; have HD := HDn; clear HDn)); (try clear c0); (try have c0 := hd_key HD.out); have Fa := Aside0.mk (Below.refl wa.heap.size wa); clear hbl ho)
    | ((go_at_call 55); (with_reducible refine (H55.out _ HB.out).mono ?_); rintro e wb ⟨v9, rfl, ho, hbl⟩; obtain ⟨A2, c2, rfl⟩ := Kd.R_slice ho; have HCB := Aside0.mk (Kd.R_reads' ho).2.2; have NA2 := Aside0.mk (Kd.R_reads' ho).2.1; (try (have HBn := Aside0.mk (below_tr2 (w := w) (by repeat (first | exact HB.out | exact Below.refl _ _ | apply below_alloc)) hbl); clear HB; have HB := HBn; clear HBn)); (try (have Fan := Aside0.mk (below_tr2 (w := wa) (by repeat (first | exact Fa.out | exact Below.refl _ _ | apply below_alloc)) hbl); clear Fa; have Fa := Fan; clear Fan)); (try (have Fbn := Aside0.mk (below_tr2 (w := wb) (by repeat (first | exact Fb.out | exact Below.refl _ _ | apply below_alloc)) hbl); clear Fb; have Fb := Fbn; clear Fbn)); (try (have HDn := Aside0.mk (hd_call (by first | exact HD.out | exact hd_alloc HD.out _) hbl); clear HD; have HD := HDn; clear HDn)); (try clear c0); (try have c0 := hd_key HD.out); have Fb := Aside0.mk (Below.refl wb.heap.size wb); clear hbl ho)
    | ((go_at_call 25); (with_reducible refine (H25.out _ (by repeat (first | exact HB.out | exact Below.refl _ _ | apply below_alloc))).mono ?_); rintro e w9 ⟨rfl, hbl⟩; (try (have HBn := Aside0.mk (below_tr2 (w := w) (by repeat (first | exact HB.out | exact Below.refl _ _ | apply below_alloc)) hbl); clear HB; have HB := HBn; clear HBn)); (try (have Fan := Aside0.mk (below_tr2 (w := wa) (by repeat (first | exact Fa.out | exact Below.refl _ _ | apply below_alloc)) hbl); clear Fa; have Fa := Fan; clear Fan)); (try (have Fbn := Aside0.mk (below_tr2 (w := wb) (by repeat (first | exact Fb.out | exact Below.refl _ _ | apply below_alloc)) hbl); clear Fb; have Fb := Fbn; clear Fbn)); (try (have HDn := Aside0.mk (hd_call (by first | exact HD.out | exact hd_alloc HD.out _) hbl); clear HD; have HD := HDn; clear HDn)); (try clear c0); (try have c0 := hd_key HD.out); clear hbl)
    | ((go_at_call 25); (with_reducible refine (H25P.out _ _ _ (Kd.C_below HCA.out Fa.out)).mono ?_); rintro e w9 ⟨rfl, hbl⟩; (try (have HBn := Aside0.mk (below_tr2 (w := w) (by repeat (first | exact HB.out | exact Below.refl _ _ | apply below_alloc)) hbl); clear HB; have HB := HBn; clear HBn)); (try (have Fan := Aside0.mk (below_tr2 (w := wa) (by repeat (first | exact Fa.out | exact Below.refl _ _ | apply below_alloc)) hbl); clear Fa; have Fa := Fan; clear Fan)); (try (have Fbn := Aside0.mk (below_tr2 (w := wb) (by repeat (first | exact Fb.out | exact Below.refl _ _ | apply below_alloc)) hbl); clear Fb; have Fb := Fbn; clear Fbn)); (try (have HDn := Aside0.mk (hd_call (by first | exact HD.out | exact hd_alloc HD.out _) hbl); clear HD; have HD := HDn; clear HDn)); (try clear c0); (try have c0 := hd_key HD.out); clear hbl)
    | ((go_at_call 25); (with_reducible refine (H25D.out _ _ _ (Kd.C_below HCB.out Fb.out)).mono ?_); rintro e wz ⟨rfl, hbl⟩; (try (have HBn := Aside0.mk (below_tr2 (w := w) (by repeat (first | exact HB.out | exact Below.refl _ _ | apply below_alloc)) hbl); clear HB; have HB := HBn; clear HBn)); (try (have Fan := Aside0.mk (below_tr2 (w := wa) (by repeat (first | exact Fa.out | exact Below.refl _ _ | apply below_alloc)) hbl); clear Fa; have Fa := Fan; clear Fan)); (try (have Fbn := Aside0.mk (below_tr2 (w := wb) (by repeat (first | exact Fb.out | exact Below.refl _ _ | apply below_alloc)) hbl); clear Fb; have Fb := Fbn; clear Fbn)); (try (have HDn := Aside0.mk (hd_call (by first | exact HD.out | exact hd_alloc HD.out _) hbl); clear HD; have HD := HDn; clear HDn)); (try clear c0); (try have c0 := hd_key HD.out); clear hbl)
    )
  (try clear c0)
  have HP := Aside0.mk (fun (W : World) (hW : Below wz.heap.size wz W) => Kd.C_below HCA.out (below_tr2 (w := wa) Fa.out hW))
  have HDD := Aside0.mk (fun (W : World) (hW : Below wz.heap.size wz W) => Kd.C_below HCB.out (below_tr2 (w := wb) Fb.out hW))
  obtain ⟨pd, ep, _⟩ := elem_at (HP.out wz (Below.refl _ _)) rp HRP.out
  subst ep
  have HXB := Aside0.mk (fun (W : World) (hW : Below wz.heap.size wz W) => blk_below HD.out.1 hW)
  have HBZ := HB
  have HE9 := Aside0.mk (fun (W : World) (hW : Below wz.heap.size wz W) => (by have h := elem_has (HP.out wz (Below.refl _ _)) hW rp HRP.out; rw [HPX.out] at h; exact h : ∀ j v, (entC x).toList[j]? = some v → W.cell? ((pd.add (rp * 22)).add j) = some v))
  have HRZ := Aside0.mk (fun (W : World) (hW : Below wz.heap.size wz W) => HR.out W (below_tr2 (w := w) HBZ.out hW))
  clear HD HB HCA HCB Fa Fb HFEW H16 H54 H55 H25 H25P H25D HR
  have i1 : (rp : Int) < (P.length : Int) := by have := HRP.out; omega
  have i2 : (0 : Int) ≤ (rp : Int) := by omega
  have d54 : decide ((rp : Int) < 0) = false := decide_eq_false (by omega)
  have d55 : decide (0 > (rp : Int)) = false := decide_eq_false (by omega)
  have d56 : decide ((rp : Int) ≥ (P.length : Int)) = false := decide_eq_false (by omega)
  have d57 : decide ((P.length : Int) ≤ (rp : Int)) = false := decide_eq_false (by omega)
  have d58 : decide (P.length ≤ rp) = false := decide_eq_false (by omega)
  have hb1 : (is != is) = false := by cases is <;> rfl
  have hb2 : (is == is) = true := by cases is <;> rfl
  refine start_ (n := 38) (S := fun W => Below wz.heap.size wz W) (ds := []) #[false, false, false, false, false, false, false, false, false, false, false, false, false, false, false, false, false, false, false, false, false, false, false, false, false, false, false, false, false, false, false, false, false, false, false, false, false, false] (by kernel_rfl) rfl rfl (below_drew1 (Below.refl _ _)) (fun hHeld => ?_)
  refine with_tabW rg11_9_tab rg11_9_bits (fun HT_ HW_ => ?_)
  have GW := Aside0.mk (below_drew1 (Below.refl wz.heap.size wz))
  generalize wz.drew = w4 at GW hHeld ⊢
  refine pure_ (i := 0) (N := some 85) (v := ?_) (a' := ?_) #[true, false, false, false, false, false, false, false, false, false, false, false, false, false, false, false, false, false, false, false, false, false, false, false, false, false, false, false, false, false, false, false, false, false, false, false, false, false] rfl rfl (any_of HT_.out (by kernel_rfl)) (fun _ _ _ h => h) (Or.inl ⟨by rfl, ?_⟩) ?_ ?_
  rotate_left
  · intro w'
    go_simp
    with_reducible rfl
  rotate_left
  · simp only [Act.put, List.setIfInBounds_toArray, List.set_cons_zero, List.set_cons_succ, i64_w, i32_w]
    rfl
  refine one_ (i := 1) (N := some 86) #[true, true, false, false, false, false, false, false, false, false, false, false, false, false, false, false, false, false, false, false, false, false, false, false, false, false, false, false, false, false, false, false, false, false, false, false, false, false] rfl rfl (one_of HT_.out (by kernel_rfl)) (by decide) (fun K hK => ?_)
  refine goes_ Try.func16 (by kernel_rfl) rfl #[.slice (some pd) P.length c1, .int .i64 0] (by rfl) rfl rfl (by (try simp only [List.map_toArray, List.map_cons, List.map_nil]); first | done | rfl) ?_
  refine (H16P.out _ _ _ (HP.out _ GW.out) NA1.out).mono ?_
  rintro e W2 ⟨rfl, hb⟩
  refine ⟨_, rfl, ?_⟩
  have GWn := Aside0.mk (below_tr2 (w := wz) GW.out hb)
  clear GW hb
  have GW := GWn
  clear GWn
  refine hK.out _ _ (GW.out) (fun hHeld => ?_)
  clear hK K
  refine norm_ (a' := ?_) ?_ ?_
  rotate_left
  · show Act.put _ (some 86) _ = _
    simp only [Act.put, List.setIfInBounds_toArray, List.set_cons_zero, List.set_cons_succ, i64_w, i32_w]
    rfl
  refine pure_ (i := 2) (N := some 87) (v := ?_) (a' := ?_) #[true, true, true, false, false, false, false, false, false, false, false, false, false, false, false, false, false, false, false, false, false, false, false, false, false, false, false, false, false, false, false, false, false, false, false, false, false, false] rfl rfl (any_of HT_.out (by kernel_rfl)) (fun _ _ _ h => h) (Or.inl ⟨by rfl, ?_⟩) ?_ ?_
  rotate_left
  · intro w'
    go_simp
    with_reducible rfl
  rotate_left
  · simp only [Act.put, List.setIfInBounds_toArray, List.set_cons_zero, List.set_cons_succ, i64_w, i32_w]
    rfl
  refine pure_ (i := 3) (N := some 88) (v := ?_) (a' := ?_) #[true, true, true, true, false, false, false, false, false, false, false, false, false, false, false, false, false, false, false, false, false, false, false, false, false, false, false, false, false, false, false, false, false, false, false, false, false, false] rfl rfl (any_of HT_.out (by kernel_rfl)) (fun _ _ _ h => h) (Or.inl ⟨by rfl, ?_⟩) ?_ ?_
  rotate_left
  · intro w'
    go_simp
    with_reducible rfl
  rotate_left
  · simp only [Act.put, List.setIfInBounds_toArray, List.set_cons_zero, List.set_cons_succ, i64_w, i32_w]
    rfl
  refine pure_ (i := 4) (N := some 89) (v := ?_) (a' := ?_) #[true, true, true, true, true, false, false, false, false, false, false, false, false, false, false, false, false, false, false, false, false, false, false, false, false, false, false, false, false, false, false, false, false, false, false, false, false, false] rfl rfl (any_of HT_.out (by kernel_rfl)) (fun _ _ _ h => h) (Or.inl ⟨by rfl, ?_⟩) ?_ ?_
  rotate_left
  · intro w'
    go_simp
    with_reducible rfl
  rotate_left
  · simp only [Act.put, List.setIfInBounds_toArray, List.set_cons_zero, List.set_cons_succ, i64_w, i32_w]
    rfl
  refine one_ (i := 5) (N := some 90) #[true, true, true, true, true, true, false, false, false, false, false, false, false, false, false, false, false, false, false, false, false, false, false, false, false, false, false, false, false, false, false, false, false, false, false, false, false, false] rfl rfl (one_of HT_.out (by kernel_rfl)) (by decide) (fun K hK => ?_)
  refine goes_ Try.func16 (by kernel_rfl) rfl #[.slice A2 DL.length c2, .int .i64 0] (by rfl) rfl rfl (by (try simp only [List.map_toArray, List.map_cons, List.map_nil]); first | done | rfl) ?_
  refine (H16D.out _ _ _ (HDD.out _ GW.out) NA2.out).mono ?_
  rintro e W3 ⟨rfl, hb⟩
  refine ⟨_, rfl, ?_⟩
  have GWn := Aside0.mk (below_tr2 (w := wz) GW.out hb)
  clear GW hb
  have GW := GWn
  clear GWn
  refine hK.out _ _ (GW.out) (fun hHeld => ?_)
  clear hK K
  refine norm_ (a' := ?_) ?_ ?_
  rotate_left
  · show Act.put _ (some 90) _ = _
    simp only [Act.put, List.setIfInBounds_toArray, List.set_cons_zero, List.set_cons_succ, i64_w, i32_w]
    rfl
  refine pure_ (i := 6) (N := some 91) (v := ?_) (a' := ?_) #[true, true, true, true, true, true, true, false, false, false, false, false, false, false, false, false, false, false, false, false, false, false, false, false, false, false, false, false, false, false, false, false, false, false, false, false, false, false] rfl rfl (any_of HT_.out (by kernel_rfl)) (fun _ _ _ h => h) (Or.inl ⟨by rfl, ?_⟩) ?_ ?_
  rotate_left
  · intro w'
    go_simp
    with_reducible rfl
  rotate_left
  · simp only [Act.put, List.setIfInBounds_toArray, List.set_cons_zero, List.set_cons_succ, i64_w, i32_w]
    rfl
  refine pure_ (i := 7) (N := some 92) (v := ?_) (a' := ?_) #[true, true, true, true, true, true, true, true, false, false, false, false, false, false, false, false, false, false, false, false, false, false, false, false, false, false, false, false, false, false, false, false, false, false, false, false, false, false] rfl rfl (any_of HT_.out (by kernel_rfl)) (fun _ _ _ h => h) (Or.inl ⟨by rfl, ?_⟩) ?_ ?_
  rotate_left
  · intro w'
    go_simp
    with_reducible rfl
  rotate_left
  · simp only [Act.put, List.setIfInBounds_toArray, List.set_cons_zero, List.set_cons_succ, i64_w, i32_w]
    rfl
  refine pure_ (i := 8) (N := some 93) (v := ?_) (a' := ?_) #[true, true, true, true, true, true, true, true, true, false, false, false, false, false, false, false, false, false, false, false, false, false, false, false, false, false, false, false, false, false, false, false, false, false, false, false, false, false] rfl rfl (any_of HT_.out (by kernel_rfl)) (fun _ _ _ h => h) (Or.inl ⟨by rfl, ?_⟩) ?_ ?_
  rotate_left
  · intro w'
    go_simp
    with_reducible rfl
  rotate_left
  · simp only [Act.put, List.setIfInBounds_toArray, List.set_cons_zero, List.set_cons_succ, i64_w, i32_w]
    rfl
  refine pure_ (i := 9) (N := some 94) (v := ?_) (a' := ?_) #[true, true, true, true, true, true, true, true, true, true, false, false, false, false, false, false, false, false, false, false, false, false, false, false, false, false, false, false, false, false, false, false, false, false, false, false, false, false] rfl rfl (any_of HT_.out (by kernel_rfl)) (fun _ _ _ h => h) (Or.inl ⟨by rfl, ?_⟩) ?_ ?_
  rotate_left
  · intro w'
    go_simp
    with_reducible rfl
  rotate_left
  · simp only [Act.put, List.setIfInBounds_toArray, List.set_cons_zero, List.set_cons_succ, i64_w, i32_w]
    rfl
  refine pure_ (i := 10) (N := some 95) (v := ?_) (a' := ?_) #[true, true, true, true, true, true, true, true, true, true, true, false, false, false, false, false, false, false, false, false, false, false, false, false, false, false, false, false, false, false, false, false, false, false, false, false, false, false] rfl rfl (any_of HT_.out (by kernel_rfl)) (fun _ _ _ h => h) (Or.inl ⟨by rfl, ?_⟩) ?_ ?_
  rotate_left
  · intro w'
    go_simp
    with_reducible rfl
  rotate_left
  · simp only [Act.put, List.setIfInBounds_toArray, List.set_cons_zero, List.set_cons_succ, i64_w, i32_w]
    rfl
  refine pure_ (i := 11) (N := some 96) (v := ?_) (a' := ?_) #[true, true, true, true, true, true, true, true, true, true, true, true, false, false, false, false, false, false, false, false, false, false, false, false, false, false, false, false, false, false, false, false, false, false, false, false, false, false] rfl rfl (any_of HT_.out (by kernel_rfl)) (fun _ _ _ h => h) (Or.inl ⟨by rfl, ?_⟩) ?_ ?_
  rotate_left
  · intro w'
    go_simp
    with_reducible rfl
  rotate_left
  · simp only [Act.put, List.setIfInBounds_toArray, List.set_cons_zero, List.set_cons_succ, i64_w, i32_w]
    rfl
  refine pure_ (i := 12) (N := some 97) (v := ?_) (a' := ?_) #[true, true, true, true, true, true, true, true, true, true, true, true, true, false, false, false, false, false, false, false, false, false, false, false, false, false, false, false, false, false, false, false, false, false, false, false, false, false] rfl rfl (any_of HT_.out (by kernel_rfl)) (fun _ _ _ h => h) (Or.inl ⟨by rfl, ?_⟩) ?_ ?_
  rotate_left
  · intro w'
    go_simp
    with_reducible rfl
  rotate_left
  · simp only [Act.put, List.setIfInBounds_toArray, List.set_cons_zero, List.set_cons_succ, i64_w, i32_w]
    rfl
  refine pure_ (i := 13) (N := some 98) (v := ?_) (a' := ?_) #[true, true, true, true, true, true, true, true, true, true, true, true, true, true, false, false, false, false, false, false, false, false, false, false, false, false, false, false, false, false, false, false, false, false, false, false, false, false] rfl rfl (any_of HT_.out (by kernel_rfl)) (fun _ _ _ h => h) (Or.inl ⟨by rfl, ?_⟩) ?_ ?_
  rotate_left
  · intro w'
    go_simp
    with_reducible rfl
  rotate_left
  · simp only [Act.put, List.setIfInBounds_toArray, List.set_cons_zero, List.set_cons_succ, i64_w, i32_w]
    rfl
  refine pure_ (i := 14) (N := some 99) (v := ?_) (a' := ?_) #[true, true, true, true, true, true, true, true, true, true, true, true, true, true, true, false, false, false, false, false, false, false, false, false, false, false, false, false, false, false, false, false, false, false, false, false, false, false] rfl rfl (any_of HT_.out (by kernel_rfl)) (fun _ _ _ h => h) (Or.inl ⟨by rfl, ?_⟩) ?_ ?_
  rotate_left
  · intro w'
    go_simp
    with_reducible rfl
  rotate_left
  · simp only [Act.put, List.setIfInBounds_toArray, List.set_cons_zero, List.set_cons_succ, i64_w, i32_w]
    rfl
  refine pure_ (i := 15) (N := some 100) (v := ?_) (a' := ?_) #[true, true, true, true, true, true, true, true, true, true, true, true, true, true, true, true, false, false, false, false, false, false, false, false, false, false, false, false, false, false, false, false, false, false, false, false, false, false] rfl rfl (any_of HT_.out (by kernel_rfl)) (fun _ _ _ h => h) (Or.inl ⟨by rfl, ?_⟩) ?_ ?_
  rotate_left
  · intro w'
    go_simp
    with_reducible rfl
  rotate_left
  · simp only [Act.put, List.setIfInBounds_toArray, List.set_cons_zero, List.set_cons_succ, i64_w, i32_w]
    rfl
  refine pure_ (i := 16) (N := some 101) (v := ?_) (a' := ?_) #[true, true, true, true, true, true, true, true, true, true, true, true, true, true, true, true, true, false, false, false, false, false, false, false, false, false, false, false, false, false, false, false, false, false, false, false, false, false] rfl rfl (any_of HT_.out (by kernel_rfl)) (fun _ _ _ h => h) (Or.inl ⟨by rfl, ?_⟩) ?_ ?_
  rotate_left
  · intro w'
    go_simp
    with_reducible rfl
  rotate_left
  · simp only [Act.put, List.setIfInBounds_toArray, List.set_cons_zero, List.set_cons_succ, i64_w, i32_w]
    rfl
  refine pure_ (i := 17) (N := some 102) (v := ?_) (a' := ?_) #[true, true, true, true, true, true, true, true, true, true, true, true, true, true, true, true, true, true, false, false, false, false, false, false, false, false, false, false, false, false, false, false, false, false, false, false, false, false] rfl rfl (any_of HT_.out (by kernel_rfl)) (fun _ _ _ h => h) (Or.inl ⟨by rfl, ?_⟩) ?_ ?_
  rotate_left
  · intro w'
    go_simp
    with_reducible rfl
  rotate_left
  · simp only [Act.put, List.setIfInBounds_toArray, List.set_cons_zero, List.set_cons_succ, i64_w, i32_w]
    rfl
  refine pure_ (i := 18) (N := some 103) (v := ?_) (a' := ?_) #[true, true, true, true, true, true, true, true, true, true, true, true, true, true, true, true, true, true, true, false, false, false, false, false, false, false, false, false, false, false, false, false, false, false, false, false, false, false] rfl rfl (any_of HT_.out (by kernel_rfl)) (fun _ _ _ h => h) (Or.inl ⟨by rfl, ?_⟩) ?_ ?_
  rotate_left
  · intro w'
    go_simp
    with_reducible rfl
  rotate_left
  · simp only [Act.put, List.setIfInBounds_toArray, List.set_cons_zero, List.set_cons_succ, i64_w, i32_w]
    rfl
  refine pure_ (i := 19) (N := some 104) (v := ?_) (a' := ?_) #[true, true, true, true, true, true, true, true, true, true, true, true, true, true, true, true, true, true, true, true, false, false, false, false, false, false, false, false, false, false, false, false, false, false, false, false, false, false] rfl rfl (any_of HT_.out (by kernel_rfl)) (fun _ _ _ h => h) (Or.inl ⟨by rfl, ?_⟩) ?_ ?_
  rotate_left
  · intro w'
    go_simp
    with_reducible rfl
  rotate_left
  · simp only [Act.put, List.setIfInBounds_toArray, List.set_cons_zero, List.set_cons_succ, i64_w, i32_w]
    rfl
  refine pure_ (i := 20) (N := some 105) (v := ?_) (a' := ?_) #[true, true, true, true, true, true, true, true, true, true, true, true, true, true, true, true, true, true, true, true, true, false, false, false, false, false, false, false, false, false, false, false, false, false, false, false, false, false] rfl rfl (any_of HT_.out (by kernel_rfl)) (fun _ _ _ h => h) (Or.inl ⟨by rfl, ?_⟩) ?_ ?_
  rotate_left
  · intro w'
    go_simp
    with_reducible rfl
  rotate_left
  · simp only [Act.put, List.setIfInBounds_toArray, List.set_cons_zero, List.set_cons_succ, i64_w, i32_w]
    rfl
  refine pure_ (i := 21) (N := some 106) (v := ?_) (a' := ?_) #[true, true, true, true, true, true, true, true, true, true, true, true, true, true, true, true, true, true, true, true, true, true, false, false, false, false, false, false, false, false, false, false, false, false, false, false, false, false] rfl rfl (any_of HT_.out (by kernel_rfl)) (fun _ _ _ h => h) (Or.inl ⟨by rfl, ?_⟩) ?_ ?_
  rotate_left
  · intro w'
    go_simp
    with_reducible rfl
  rotate_left
  · simp only [Act.put, List.setIfInBounds_toArray, List.set_cons_zero, List.set_cons_succ, i64_w, i32_w]
    rfl
  refine pure_ (i := 22) (N := some 107) (v := ?_) (a' := ?_) #[true, true, true, true, true, true, true, true, true, true, true, true, true, true, true, true, true, true, true, true, true, true, true, false, false, false, false, false, false, false, false, false, false, false, false, false, false, false] rfl rfl (any_of HT_.out (by kernel_rfl)) (fun _ _ _ h => h) (Or.inl ⟨by rfl, ?_⟩) ?_ ?_
  rotate_left
  · intro w'
    go_simp
    with_reducible rfl
  rotate_left
  · simp only [Act.put, List.setIfInBounds_toArray, List.set_cons_zero, List.set_cons_succ, i64_w, i32_w]
    rfl
  refine pure_ (i := 23) (N := some 108) (v := ?_) (a' := ?_) #[true, true, true, true, true, true, true, true, true, true, true, true, true, true, true, true, true, true, true, true, true, true, true, true, false, false, false, false, false, false, false, false, false, false, false, false, false, false] rfl rfl (any_of HT_.out (by kernel_rfl)) (fun _ _ _ h => h) (Or.inl ⟨by rfl, ?_⟩) ?_ ?_
  rotate_left
  · intro w'
    go_simp
    with_reducible rfl
  rotate_left
  · simp only [Act.put, List.setIfInBounds_toArray, List.set_cons_zero, List.set_cons_succ, i64_w, i32_w]
    rfl
  refine pure_ (i := 24) (N := some 109) (v := ?_) (a' := ?_) #[true, true, true, true, true, true, true, true, true, true, true, true, true, true, true, true, true, true, true, true, true, true, true, true, true, false, false, false, false, false, false, false, false, false, false, false, false, false] rfl rfl (any_of HT_.out (by kernel_rfl)) (fun _ _ _ h => h) (Or.inl ⟨by rfl, ?_⟩) ?_ ?_
  rotate_left
  · intro w'
    go_simp
    with_reducible rfl
  rotate_left
  · simp only [Act.put, List.setIfInBounds_toArray, List.set_cons_zero, List.set_cons_succ, i64_w, i32_w]
    rfl
  refine pure_ (i := 25) (N := some 110) (v := ?_) (a' := ?_) #[true, true, true, true, true, true, true, true, true, true, true, true, true, true, true, true, true, true, true, true, true, true, true, true, true, true, false, false, false, false, false, false, false, false, false, false, false, false] rfl rfl (any_of HT_.out (by kernel_rfl)) (fun _ _ _ h => h) (Or.inl ⟨by rfl, ?_⟩) ?_ ?_
  rotate_left
  · intro w'
    go_simp
    with_reducible rfl
  rotate_left
  · simp only [Act.put, List.setIfInBounds_toArray, List.set_cons_zero, List.set_cons_succ, i64_w, i32_w]
    rfl
  refine pure_ (i := 26) (N := some 111) (v := ?_) (a' := ?_) #[true, true, true, true, true, true, true, true, true, true, true, true, true, true, true, true, true, true, true, true, true, true, true, true, true, true, true, false, false, false, false, false, false, false, false, false, false, false] rfl rfl (any_of HT_.out (by kernel_rfl)) (fun _ _ _ h => h) (Or.inl ⟨by rfl, ?_⟩) ?_ ?_
  rotate_left
  · intro w'
    go_simp
    with_reducible rfl
  rotate_left
  · simp only [Act.put, List.setIfInBounds_toArray, List.set_cons_zero, List.set_cons_succ, i64_w, i32_w]
    rfl
  refine pure_ (i := 27) (N := some 112) (v := ?_) (a' := ?_) #[true, true, true, true, true, true, true, true, true, true, true, true, true, true, true, true, true, true, true, true, true, true, true, true, true, true, true, true, false, false, false, false, false, false, false, false, false, false] rfl rfl (any_of HT_.out (by kernel_rfl)) (fun _ _ _ h => h) (Or.inl ⟨by rfl, ?_⟩) ?_ ?_
  rotate_left
  · intro w'
    go_simp
    with_reducible rfl
  rotate_left
  · simp only [Act.put, List.setIfInBounds_toArray, List.set_cons_zero, List.set_cons_succ, i64_w, i32_w]
    rfl
  refine pure_ (i := 28) (N := some 113) (v := ?_) (a' := ?_) #[true, true, true, true, true, true, true, true, true, true, true, true, true, true, true, true, true, true, true, true, true, true, true, true, true, true, true, true, true, false, false, false, false, false, false, false, false, false] rfl rfl (any_of HT_.out (by kernel_rfl)) (fun _ _ _ h => h) (Or.inl ⟨by rfl, ?_⟩) ?_ ?_
  rotate_left
  · intro w'
    go_simp
    with_reducible rfl
  rotate_left
  · simp only [Act.put, List.setIfInBounds_toArray, List.set_cons_zero, List.set_cons_succ, i64_w, i32_w]
    rfl
  refine pure_ (i := 29) (N := some 114) (v := ?_) (a' := ?_) #[true, true, true, true, true, true, true, true, true, true, true, true, true, true, true, true, true, true, true, true, true, true, true, true, true, true, true, true, true, true, false, false, false, false, false, false, false, false] rfl rfl (any_of HT_.out (by kernel_rfl)) (fun _ _ _ h => h) (Or.inl ⟨by rfl, ?_⟩) ?_ ?_
  rotate_left
  · intro w'
    go_simp
    with_reducible rfl
  rotate_left
  · simp only [Act.put, List.setIfInBounds_toArray, List.set_cons_zero, List.set_cons_succ, i64_w, i32_w]
    rfl
  refine pure_ (i := 30) (N := some 115) (v := ?_) (a' := ?_) #[true, true, true, true, true, true, true, true, true, true, true, true, true, true, true, true, true, true, true, true, true, true, true, true, true, true, true, true, true, true, true, false, false, false, false, false, false, false] rfl rfl (any_of HT_.out (by kernel_rfl)) (fun _ _ _ h => h) (Or.inl ⟨by rfl, ?_⟩) ?_ ?_
  rotate_left
  · intro w'
    go_simp
    with_reducible rfl
  rotate_left
  · simp only [Act.put, List.setIfInBounds_toArray, List.set_cons_zero, List.set_cons_succ, i64_w, i32_w]
    rfl
  refine pure_ (i := 31) (N := some 116) (v := ?_) (a' := ?_) #[true, true, true, true, true, true, true, true, true, true, true, true, true, true, true, true, true, true, true, true, true, true, true, true, true, true, true, true, true, true, true, true, false, false, false, false, false, false] rfl rfl (any_of HT_.out (by kernel_rfl)) (fun _ _ _ h => h) (Or.inl ⟨by rfl, ?_⟩) ?_ ?_
  rotate_left
  · intro w'
    go_simp
    with_reducible rfl
  rotate_left
  · simp only [Act.put, List.setIfInBounds_toArray, List.set_cons_zero, List.set_cons_succ, i64_w, i32_w]
    rfl
  refine pure_ (i := 32) (N := some 117) (v := ?_) (a' := ?_) #[true, true, true, true, true, true, true, true, true, true, true, true, true, true, true, true, true, true, true, true, true, true, true, true, true, true, true, true, true, true, true, true, true, false, false, false, false, false] rfl rfl (any_of HT_.out (by kernel_rfl)) (fun _ _ _ h => h) (Or.inl ⟨by rfl, ?_⟩) ?_ ?_
  rotate_left
  · intro w'
    go_simp
    with_reducible rfl
  rotate_left
  · simp only [Act.put, List.setIfInBounds_toArray, List.set_cons_zero, List.set_cons_succ, i64_w, i32_w]
    rfl
  refine pure_ (i := 33) (N := some 118) (v := ?_) (a' := ?_) #[true, true, true, true, true, true, true, true, true, true, true, true, true, true, true, true, true, true, true, true, true, true, true, true, true, true, true, true, true, true, true, true, true, true, false, false, false, false] rfl rfl (any_of HT_.out (by kernel_rfl)) (fun _ _ _ h => h) (Or.inl ⟨by rfl, ?_⟩) ?_ ?_
  rotate_left
  · intro w'
    go_simp
    with_reducible rfl
  rotate_left
  · simp only [Act.put, List.setIfInBounds_toArray, List.set_cons_zero, List.set_cons_succ, i64_w, i32_w]
    rfl
  refine take_ (i := 34) (N := some 119) (v := ?_) (a' := ?_) #[true, true, true, true, true, true, true, true, true, true, true, true, true, true, true, true, true, true, true, true, true, true, true, true, true, true, true, true, true, true, true, true, true, true, true, false, false, false] rfl rfl (take_ofW HT_.out HW_.out (by kernel_rfl)) (fun _ _ _ h => h) (Or.inl ⟨by rfl, ?_⟩) hHeld ?_ ?_
  rotate_left
  · intro w' hW
    refine el_run (.tmp 118) ?ho (pd.add (rp * 22)) ?hx x (HE9.out _ hW)
    case ho => rfl
    case hx => rfl
  rotate_left
  · simp only [Act.put, List.setIfInBounds_toArray, List.set_cons_zero, List.set_cons_succ, i64_w, i32_w]
    rfl
  refine take_ (i := 35) (N := some 120) (v := ?_) (a' := ?_) #[true, true, true, true, true, true, true, true, true, true, true, true, true, true, true, true, true, true, true, true, true, true, true, true, true, true, true, true, true, true, true, true, true, true, true, true, false, false] rfl rfl (take_ofW HT_.out HW_.out (by kernel_rfl)) (fun _ _ _ h => h) (Or.inl ⟨by rfl, ?_⟩) hHeld ?_ ?_
  rotate_left
  · intro w' hW
    refine load77 (.tmp 7) ?ho gA ?hx x (HXB.out _ hW)
    case ho => rfl
    case hx => rfl
  rotate_left
  · simp only [Act.put, List.setIfInBounds_toArray, List.set_cons_zero, List.set_cons_succ, i64_w, i32_w]
    rfl
  refine pure_ (i := 36) (N := some 121) (v := ?_) (a' := ?_) #[true, true, true, true, true, true, true, true, true, true, true, true, true, true, true, true, true, true, true, true, true, true, true, true, true, true, true, true, true, true, true, true, true, true, true, true, true, false] rfl rfl (any_of HT_.out (by kernel_rfl)) (fun _ _ _ h => h) (Or.inl ⟨by rfl, ?_⟩) ?_ ?_
  rotate_left
  · intro w'
    refine neq_same (.tmp 119) (.tmp 120) 77 ?ho x ?hx ?hy
    case ho => rfl
    case hx => rfl
    case hy => rfl
  rotate_left
  · simp only [Act.put, List.setIfInBounds_toArray, List.set_cons_zero, List.set_cons_succ, i64_w, i32_w]
    rfl
  refine pure_ (i := 37) (N := some 122) (v := ?_) (a' := ?_) #[true, true, true, true, true, true, true, true, true, true, true, true, true, true, true, true, true, true, true, true, true, true, true, true, true, true, true, true, true, true, true, true, true, true, true, true, true, true] rfl rfl (any_of HT_.out (by kernel_rfl)) (fun _ _ _ h => h) (Or.inl ⟨by rfl, ?_⟩) ?_ ?_
  rotate_left
  · intro w'
    go_simp
    with_reducible rfl
  rotate_left
  · simp only [Act.put, List.setIfInBounds_toArray, List.set_cons_zero, List.set_cons_succ, i64_w, i32_w]
    rfl
  refine done_ (done_of HT_.out (by kernel_rfl)) ?_
  clear i1 i2 H16P H16D HE9
  go_wp2_with fail
  go_loopw [20] (fun iv wr => ∃ (k : Nat), k ≤ l.length ∧ iv = .int .i64 k ∧ Aside0 (Below wz.heap.size wz wr)) (fun iv _ => l.length - (intOf iv).toNat)
  case atStart => exact ⟨0, Nat.zero_le _, rfl, GW⟩
  case round =>
    (try clear GW)
    obtain ⟨k, hk, rfl, FB⟩ := hrel
    by_cases hlt : k < l.length
    · have HLT := Aside0.mk hlt
      obtain ⟨r1, r2, tw, hr1, hpz, htw, hSP, hSD⟩ := HK.out k hlt
      have HSP := Aside0.mk hSP
      have HSD := Aside0.mk hSD
      obtain ⟨ad, ea, _⟩ := elem_at (HRZ.out wz (Below.refl _ _)) k hlt
      subst ea
      have HQ0 := Aside0.mk (fun (W : World) (hW : Below wz.heap.size wz W) => prev_key (HRZ.out W hW) k hlt)
      have HEZ := Aside0.mk (fun (W : World) (hW : Below wz.heap.size wz W) => elem_has (HRZ.out wz (Below.refl _ _)) hW k hlt)
      have HEP := Aside0.mk (fun (W : World) (hW : Below wz.heap.size wz W) => elem_has (HP.out wz (Below.refl _ _)) hW r1 hr1)
      generalize l.getD k z77 = z at hpz htw HSP HSD HQ0 HEZ
      have HPZ := Aside0.mk hpz
      have HTW := Aside0.mk htw
      have hk1 : (k : Int) < (l.length : Int) := by omega
      have hk2 : (0 : Int) ≤ (k : Int) := by omega
      have hr2 : (r1 : Int) < (P.length : Int) := by omega
      have hr3 : (0 : Int) ≤ (r1 : Int) := by omega
      have d59 : decide ((r1 : Int) < 0) = false := decide_eq_false (by omega)
      have d60 : decide (0 > (r1 : Int)) = false := decide_eq_false (by omega)
      have d61 : decide ((r1 : Int) ≥ (P.length : Int)) = false := decide_eq_false (by omega)
      have d62 : decide ((P.length : Int) ≤ (r1 : Int)) = false := decide_eq_false (by omega)
      have d63 : decide (P.length ≤ r1) = false := decide_eq_false (by omega)
      have hkw := w_succ k (by have := HLL.out; omega)
      have q0 := HQ0.out _ FB.out
      clear hSP hSD hlt hk hpz htw hr1
      go_upto_region 16 with (first
        | ((go_at_call 25); (with_reducible refine (HSP.out _ _ _ (HP.out _ FB.out)).mono ?_); rintro e w7 ⟨rfl, hbl⟩; have FBn := Aside0.mk (below_tr2 (w := wz) FB.out hbl); clear FB; have FB := FBn; clear FBn; (try clear q0 c0); have q0 := HQ0.out _ FB.out; have c0 := box_key (HXB.out _ FB.out); clear hbl)
        | ((go_at_call 25); (with_reducible refine (HSD.out _ _ _ (HDD.out _ FB.out)).mono ?_); rintro e w7 ⟨rfl, hbl⟩; have FBn := Aside0.mk (below_tr2 (w := wz) FB.out hbl); clear FB; have FB := FBn; clear FBn; (try clear q0 c0); have q0 := HQ0.out _ FB.out; have c0 := box_key (HXB.out _ FB.out); clear hbl)
        )
      cases hkk : (z.f0.toList == x.f0.toList) with
      | false =>
        cases hky : (z.f0.toList == key.toList) with
        | false =>
          obtain rfl : tw = true := by rw [HTW.out, hky]; rfl
          have hPE := HPZ.out (fun e => by rw [e] at hkk; simp at hkk)
          have HEPz := Aside0.mk (fun (W : World) (hW : Below wz.heap.size wz W) => (by have h := HEP.out W hW; rw [hPE] at h; exact h : ∀ j v, (entC z).toList[j]? = some v → W.cell? ((pd.add (r1 * 22)).add j) = some v))
          have HPE := Aside0.mk hPE
          clear hPE q0 c0
          have HWR := FB
          refine start_ (n := 44) (S := fun W => Below wz.heap.size wz W) (ds := []) #[false, false, false, false, false, false, false, false, false, false, false, false, false, false, false, false, false, false, false, false, false, false, false, false, false, false, false, false, false, false, false, false, false, false, false, false, false, false, false, false, false, false, false, false] (by kernel_rfl) rfl rfl (below_drew1 FB.out) (fun hHeld => ?_)
          refine with_tabW rg11_16_tab rg11_16_bits (fun HT_ HW_ => ?_)
          have GW := Aside0.mk (below_drew1 FB.out)
          clear FB HWR
          generalize w7.drew = w6 at GW hHeld ⊢
          refine pure_ (i := 0) (N := some 149) (v := ?_) (a' := ?_) #[true, false, false, false, false, false, false, false, false, false, false, false, false, false, false, false, false, false, false, false, false, false, false, false, false, false, false, false, false, false, false, false, false, false, false, false, false, false, false, false, false, false, false, false] rfl rfl (any_of HT_.out (by kernel_rfl)) (fun _ _ _ h => h) (Or.inl ⟨by rfl, ?_⟩) ?_ ?_
          rotate_left
          · intro w'
            go_simp
            with_reducible rfl
          rotate_left
          · simp only [Act.put, List.setIfInBounds_toArray, List.set_cons_zero, List.set_cons_succ, i64_w, i32_w]
            rfl
          refine pure_ (i := 1) (N := some 150) (v := ?_) (a' := ?_) #[true, true, false, false, false, false, false, false, false, false, false, false, false, false, false, false, false, false, false, false, false, false, false, false, false, false, false, false, false, false, false, false, false, false, false, false, false, false, false, false, false, false, false, false] rfl rfl (any_of HT_.out (by kernel_rfl)) (fun _ _ _ h => h) (Or.inl ⟨by rfl, ?_⟩) ?_ ?_
          rotate_left
          · intro w'
            go_simp
            with_reducible rfl
          rotate_left
          · simp only [Act.put, List.setIfInBounds_toArray, List.set_cons_zero, List.set_cons_succ, i64_w, i32_w]
            rfl
          refine pure_ (i := 2) (N := some 151) (v := ?_) (a' := ?_) #[true, true, true, false, false, false, false, false, false, false, false, false, false, false, false, false, false, false, false, false, false, false, false, false, false, false, false, false, false, false, false, false, false, false, false, false, false, false, false, false, false, false, false, false] rfl rfl (any_of HT_.out (by kernel_rfl)) (fun _ _ _ h => h) (Or.inl ⟨by rfl, ?_⟩) ?_ ?_
          rotate_left
          · intro w'
            go_simp
            with_reducible rfl
          rotate_left
          · simp only [Act.put, List.setIfInBounds_toArray, List.set_cons_zero, List.set_cons_succ, i64_w, i32_w]
            rfl
          refine pure_ (i := 3) (N := some 152) (v := ?_) (a' := ?_) #[true, true, true, true, false, false, false, false, false, false, false, false, false, false, false, false, false, false, false, false, false, false, false, false, false, false, false, false, false, false, false, false, false, false, false, false, false, false, false, false, false, false, false, false] rfl rfl (any_of HT_.out (by kernel_rfl)) (fun _ _ _ h => h) (Or.inl ⟨by rfl, ?_⟩) ?_ ?_
          rotate_left
          · intro w'
            go_simp
            with_reducible rfl
          rotate_left
          · simp only [Act.put, List.setIfInBounds_toArray, List.set_cons_zero, List.set_cons_succ, i64_w, i32_w]
            rfl
          refine pure_ (i := 4) (N := some 153) (v := ?_) (a' := ?_) #[true, true, true, true, true, false, false, false, false, false, false, false, false, false, false, false, false, false, false, false, false, false, false, false, false, false, false, false, false, false, false, false, false, false, false, false, false, false, false, false, false, false, false, false] rfl rfl (any_of HT_.out (by kernel_rfl)) (fun _ _ _ h => h) (Or.inl ⟨by rfl, ?_⟩) ?_ ?_
          rotate_left
          · intro w'
            go_simp
            with_reducible rfl
          rotate_left
          · simp only [Act.put, List.setIfInBounds_toArray, List.set_cons_zero, List.set_cons_succ, i64_w, i32_w]
            rfl
          refine pure_ (i := 5) (N := some 154) (v := ?_) (a' := ?_) #[true, true, true, true, true, true, false, false, false, false, false, false, false, false, false, false, false, false, false, false, false, false, false, false, false, false, false, false, false, false, false, false, false, false, false, false, false, false, false, false, false, false, false, false] rfl rfl (any_of HT_.out (by kernel_rfl)) (fun _ _ _ h => h) (Or.inl ⟨by rfl, ?_⟩) ?_ ?_
          rotate_left
          · intro w'
            go_simp
            with_reducible rfl
          rotate_left
          · simp only [Act.put, List.setIfInBounds_toArray, List.set_cons_zero, List.set_cons_succ, i64_w, i32_w]
            rfl
          refine pure_ (i := 6) (N := some 155) (v := ?_) (a' := ?_) #[true, true, true, true, true, true, true, false, false, false, false, false, false, false, false, false, false, false, false, false, false, false, false, false, false, false, false, false, false, false, false, false, false, false, false, false, false, false, false, false, false, false, false, false] rfl rfl (any_of HT_.out (by kernel_rfl)) (fun _ _ _ h => h) (Or.inl ⟨by rfl, ?_⟩) ?_ ?_
          rotate_left
          · intro w'
            go_simp
            with_reducible rfl
          rotate_left
          · simp only [Act.put, List.setIfInBounds_toArray, List.set_cons_zero, List.set_cons_succ, i64_w, i32_w]
            rfl
          refine pure_ (i := 7) (N := some 156) (v := ?_) (a' := ?_) #[true, true, true, true, true, true, true, true, false, false, false, false, false, false, false, false, false, false, false, false, false, false, false, false, false, false, false, false, false, false, false, false, false, false, false, false, false, false, false, false, false, false, false, false] rfl rfl (any_of HT_.out (by kernel_rfl)) (fun _ _ _ h => h) (Or.inl ⟨by rfl, ?_⟩) ?_ ?_
          rotate_left
          · intro w'
            go_simp
            with_reducible rfl
          rotate_left
          · simp only [Act.put, List.setIfInBounds_toArray, List.set_cons_zero, List.set_cons_succ, i64_w, i32_w]
            rfl
          refine pure_ (i := 8) (N := some 157) (v := ?_) (a' := ?_) #[true, true, true, true, true, true, true, true, true, false, false, false, false, false, false, false, false, false, false, false, false, false, false, false, false, false, false, false, false, false, false, false, false, false, false, false, false, false, false, false, false, false, false, false] rfl rfl (any_of HT_.out (by kernel_rfl)) (fun _ _ _ h => h) (Or.inl ⟨by rfl, ?_⟩) ?_ ?_
          rotate_left
          · intro w'
            go_simp
            with_reducible rfl
          rotate_left
          · simp only [Act.put, List.setIfInBounds_toArray, List.set_cons_zero, List.set_cons_succ, i64_w, i32_w]
            rfl
          refine pure_ (i := 9) (N := some 158) (v := ?_) (a' := ?_) #[true, true, true, true, true, true, true, true, true, true, false, false, false, false, false, false, false, false, false, false, false, false, false, false, false, false, false, false, false, false, false, false, false, false, false, false, false, false, false, false, false, false, false, false] rfl rfl (any_of HT_.out (by kernel_rfl)) (fun _ _ _ h => h) (Or.inl ⟨by rfl, ?_⟩) ?_ ?_
          rotate_left
          · intro w'
            go_simp
            with_reducible rfl
          rotate_left
          · simp only [Act.put, List.setIfInBounds_toArray, List.set_cons_zero, List.set_cons_succ, i64_w, i32_w]
            rfl
          refine pure_ (i := 10) (N := some 159) (v := ?_) (a' := ?_) #[true, true, true, true, true, true, true, true, true, true, true, false, false, false, false, false, false, false, false, false, false, false, false, false, false, false, false, false, false, false, false, false, false, false, false, false, false, false, false, false, false, false, false, false] rfl rfl (any_of HT_.out (by kernel_rfl)) (fun _ _ _ h => h) (Or.inl ⟨by rfl, ?_⟩) ?_ ?_
          rotate_left
          · intro w'
            go_simp
            with_reducible rfl
          rotate_left
          · simp only [Act.put, List.setIfInBounds_toArray, List.set_cons_zero, List.set_cons_succ, i64_w, i32_w]
            rfl
          refine pure_ (i := 11) (N := some 160) (v := ?_) (a' := ?_) #[true, true, true, true, true, true, true, true, true, true, true, true, false, false, false, false, false, false, false, false, false, false, false, false, false, false, false, false, false, false, false, false, false, false, false, false, false, false, false, false, false, false, false, false] rfl rfl (any_of HT_.out (by kernel_rfl)) (fun _ _ _ h => h) (Or.inl ⟨by rfl, ?_⟩) ?_ ?_
          rotate_left
          · intro w'
            go_simp
            with_reducible rfl
          rotate_left
          · simp only [Act.put, List.setIfInBounds_toArray, List.set_cons_zero, List.set_cons_succ, i64_w, i32_w]
            rfl
          refine pure_ (i := 12) (N := some 161) (v := ?_) (a' := ?_) #[true, true, true, true, true, true, true, true, true, true, true, true, true, false, false, false, false, false, false, false, false, false, false, false, false, false, false, false, false, false, false, false, false, false, false, false, false, false, false, false, false, false, false, false] rfl rfl (any_of HT_.out (by kernel_rfl)) (fun _ _ _ h => h) (Or.inl ⟨by rfl, ?_⟩) ?_ ?_
          rotate_left
          · intro w'
            go_simp
            with_reducible rfl
          rotate_left
          · simp only [Act.put, List.setIfInBounds_toArray, List.set_cons_zero, List.set_cons_succ, i64_w, i32_w]
            rfl
          refine pure_ (i := 13) (N := some 162) (v := ?_) (a' := ?_) #[true, true, true, true, true, true, true, true, true, true, true, true, true, true, false, false, false, false, false, false, false, false, false, false, false, false, false, false, false, false, false, false, false, false, false, false, false, false, false, false, false, false, false, false] rfl rfl (any_of HT_.out (by kernel_rfl)) (fun _ _ _ h => h) (Or.inl ⟨by rfl, ?_⟩) ?_ ?_
          rotate_left
          · intro w'
            go_simp
            with_reducible rfl
          rotate_left
          · simp only [Act.put, List.setIfInBounds_toArray, List.set_cons_zero, List.set_cons_succ, i64_w, i32_w]
            rfl
          refine pure_ (i := 14) (N := some 163) (v := ?_) (a' := ?_) #[true, true, true, true, true, true, true, true, true, true, true, true, true, true, true, false, false, false, false, false, false, false, false, false, false, false, false, false, false, false, false, false, false, false, false, false, false, false, false, false, false, false, false, false] rfl rfl (any_of HT_.out (by kernel_rfl)) (fun _ _ _ h => h) (Or.inl ⟨by rfl, ?_⟩) ?_ ?_
          rotate_left
          · intro w'
            go_simp
            with_reducible rfl
          rotate_left
          · simp only [Act.put, List.setIfInBounds_toArray, List.set_cons_zero, List.set_cons_succ, i64_w, i32_w]
            rfl
          refine pure_ (i := 15) (N := some 164) (v := ?_) (a' := ?_) #[true, true, true, true, true, true, true, true, true, true, true, true, true, true, true, true, false, false, false, false, false, false, false, false, false, false, false, false, false, false, false, false, false, false, false, false, false, false, false, false, false, false, false, false] rfl rfl (any_of HT_.out (by kernel_rfl)) (fun _ _ _ h => h) (Or.inl ⟨by rfl, ?_⟩) ?_ ?_
          rotate_left
          · intro w'
            go_simp
            with_reducible rfl
          rotate_left
          · simp only [Act.put, List.setIfInBounds_toArray, List.set_cons_zero, List.set_cons_succ, i64_w, i32_w]
            rfl
          refine pure_ (i := 16) (N := some 165) (v := ?_) (a' := ?_) #[true, true, true, true, true, true, true, true, true, true, true, true, true, true, true, true, true, false, false, false, false, false, false, false, false, false, false, false, false, false, false, false, false, false, false, false, false, false, false, false, false, false, false, false] rfl rfl (any_of HT_.out (by kernel_rfl)) (fun _ _ _ h => h) (Or.inl ⟨by rfl, ?_⟩) ?_ ?_
          rotate_left
          · intro w'
            go_simp
            with_reducible rfl
          rotate_left
          · simp only [Act.put, List.setIfInBounds_toArray, List.set_cons_zero, List.set_cons_succ, i64_w, i32_w]
            rfl
          refine take_ (i := 17) (N := some 166) (v := ?_) (a' := ?_) #[true, true, true, true, true, true, true, true, true, true, true, true, true, true, true, true, true, true, false, false, false, false, false, false, false, false, false, false, false, false, false, false, false, false, false, false, false, false, false, false, false, false, false, false] rfl rfl (take_ofW HT_.out HW_.out (by kernel_rfl)) (fun _ _ _ h => h) (Or.inl ⟨by rfl, ?_⟩) hHeld ?_ ?_
          rotate_left
          · intro w' hW
            have q0 := HQ0.out _ hW
            have c0 := box_key (HXB.out _ hW)
            go_simp
            with_reducible rfl
          rotate_left
          · simp only [Act.put, List.setIfInBounds_toArray, List.set_cons_zero, List.set_cons_succ, i64_w, i32_w]
            rfl
          refine pure_ (i := 18) (N := some 167) (v := ?_) (a' := ?_) #[true, true, true, true, true, true, true, true, true, true, true, true, true, true, true, true, true, true, true, false, false, false, false, false, false, false, false, false, false, false, false, false, false, false, false, false, false, false, false, false, false, false, false, false] rfl rfl (any_of HT_.out (by kernel_rfl)) (fun _ _ _ h => h) (Or.inl ⟨by rfl, ?_⟩) ?_ ?_
          rotate_left
          · intro w'
            go_simp
            with_reducible rfl
          rotate_left
          · simp only [Act.put, List.setIfInBounds_toArray, List.set_cons_zero, List.set_cons_succ, i64_w, i32_w]
            rfl
          refine take_ (i := 19) (N := some 168) (v := ?_) (a' := ?_) #[true, true, true, true, true, true, true, true, true, true, true, true, true, true, true, true, true, true, true, true, false, false, false, false, false, false, false, false, false, false, false, false, false, false, false, false, false, false, false, false, false, false, false, false] rfl rfl (take_ofW HT_.out HW_.out (by kernel_rfl)) (fun _ _ _ h => h) (Or.inl ⟨by rfl, ?_⟩) hHeld ?_ ?_
          rotate_left
          · intro w' hW
            have q0 := HQ0.out _ hW
            have c0 := box_key (HXB.out _ hW)
            go_simp
            with_reducible rfl
          rotate_left
          · simp only [Act.put, List.setIfInBounds_toArray, List.set_cons_zero, List.set_cons_succ, i64_w, i32_w]
            rfl
          refine pure_ (i := 20) (N := some 169) (v := ?_) (a' := ?_) #[true, true, true, true, true, true, true, true, true, true, true, true, true, true, true, true, true, true, true, true, true, false, false, false, false, false, false, false, false, false, false, false, false, false, false, false, false, false, false, false, false, false, false, false] rfl rfl (any_of HT_.out (by kernel_rfl)) (fun _ _ _ h => h) (Or.inl ⟨by rfl, ?_⟩) ?_ ?_
          rotate_left
          · intro w'
            go_simp
            with_reducible rfl
          rotate_left
          · simp only [Act.put, List.setIfInBounds_toArray, List.set_cons_zero, List.set_cons_succ, i64_w, i32_w]
            rfl
          refine pure_ (i := 21) (N := some 170) (v := ?_) (a' := ?_) #[true, true, true, true, true, true, true, true, true, true, true, true, true, true, true, true, true, true, true, true, true, true, false, false, false, false, false, false, false, false, false, false, false, false, false, false, false, false, false, false, false, false, false, false] rfl rfl (any_of HT_.out (by kernel_rfl)) (fun _ _ _ h => h) (Or.inl ⟨by rfl, ?_⟩) ?_ ?_
          rotate_left
          · intro w'
            go_simp
            with_reducible rfl
          rotate_left
          · simp only [Act.put, List.setIfInBounds_toArray, List.set_cons_zero, List.set_cons_succ, i64_w, i32_w]
            rfl
          refine pure_ (i := 22) (N := some 171) (v := ?_) (a' := ?_) #[true, true, true, true, true, true, true, true, true, true, true, true, true, true, true, true, true, true, true, true, true, true, true, false, false, false, false, false, false, false, false, false, false, false, false, false, false, false, false, false, false, false, false, false] rfl rfl (any_of HT_.out (by kernel_rfl)) (fun _ _ _ h => h) (Or.inl ⟨by rfl, ?_⟩) ?_ ?_
          rotate_left
          · intro w'
            go_simp
            with_reducible rfl
          rotate_left
          · simp only [Act.put, List.setIfInBounds_toArray, List.set_cons_zero, List.set_cons_succ, i64_w, i32_w]
            rfl
          refine pure_ (i := 23) (N := some 172) (v := ?_) (a' := ?_) #[true, true, true, true, true, true, true, true, true, true, true, true, true, true, true, true, true, true, true, true, true, true, true, true, false, false, false, false, false, false, false, false, false, false, false, false, false, false, false, false, false, false, false, false] rfl rfl (any_of HT_.out (by kernel_rfl)) (fun _ _ _ h => h) (Or.inl ⟨by rfl, ?_⟩) ?_ ?_
          rotate_left
          · intro w'
            go_simp
            with_reducible rfl
          rotate_left
          · simp only [Act.put, List.setIfInBounds_toArray, List.set_cons_zero, List.set_cons_succ, i64_w, i32_w]
            rfl
          refine pure_ (i := 24) (N := some 173) (v := ?_) (a' := ?_) #[true, true, true, true, true, true, true, true, true, true, true, true, true, true, true, true, true, true, true, true, true, true, true, true, true, false, false, false, false, false, false, false, false, false, false, false, false, false, false, false, false, false, false, false] rfl rfl (any_of HT_.out (by kernel_rfl)) (fun _ _ _ h => h) (Or.inl ⟨by rfl, ?_⟩) ?_ ?_
          rotate_left
          · intro w'
            go_simp
            with_reducible rfl
          rotate_left
          · simp only [Act.put, List.setIfInBounds_toArray, List.set_cons_zero, List.set_cons_succ, i64_w, i32_w]
            rfl
          refine take_ (i := 25) (N := some 174) (v := ?_) (a' := ?_) #[true, true, true, true, true, true, true, true, true, true, true, true, true, true, true, true, true, true, true, true, true, true, true, true, true, true, false, false, false, false, false, false, false, false, false, false, false, false, false, false, false, false, false, false] rfl rfl (take_ofW HT_.out HW_.out (by kernel_rfl)) (fun _ _ _ h => h) (Or.inl ⟨by rfl, ?_⟩) hHeld ?_ ?_
          rotate_left
          · intro w' hW
            have q0 := HQ0.out _ hW
            have c0 := box_key (HXB.out _ hW)
            refine el_run (.tmp 173) ?ho (pd.add (r1 * 22)) ?hx z (HEPz.out _ hW)
            case ho => rfl
            case hx => rfl
          rotate_left
          · simp only [Act.put, List.setIfInBounds_toArray, List.set_cons_zero, List.set_cons_succ, i64_w, i32_w]
            rfl
          refine pure_ (i := 26) (N := some 175) (v := ?_) (a' := ?_) #[true, true, true, true, true, true, true, true, true, true, true, true, true, true, true, true, true, true, true, true, true, true, true, true, true, true, true, false, false, false, false, false, false, false, false, false, false, false, false, false, false, false, false, false] rfl rfl (any_of HT_.out (by kernel_rfl)) (fun _ _ _ h => h) (Or.inl ⟨by rfl, ?_⟩) ?_ ?_
          rotate_left
          · intro w'
            go_simp
            with_reducible rfl
          rotate_left
          · simp only [Act.put, List.setIfInBounds_toArray, List.set_cons_zero, List.set_cons_succ, i64_w, i32_w]
            rfl
          refine pure_ (i := 27) (N := some 176) (v := ?_) (a' := ?_) #[true, true, true, true, true, true, true, true, true, true, true, true, true, true, true, true, true, true, true, true, true, true, true, true, true, true, true, true, false, false, false, false, false, false, false, false, false, false, false, false, false, false, false, false] rfl rfl (any_of HT_.out (by kernel_rfl)) (fun _ _ _ h => h) (Or.inl ⟨by rfl, ?_⟩) ?_ ?_
          rotate_left
          · intro w'
            go_simp
            with_reducible rfl
          rotate_left
          · simp only [Act.put, List.setIfInBounds_toArray, List.set_cons_zero, List.set_cons_succ, i64_w, i32_w]
            rfl
          refine pure_ (i := 28) (N := some 177) (v := ?_) (a' := ?_) #[true, true, true, true, true, true, true, true, true, true, true, true, true, true, true, true, true, true, true, true, true, true, true, true, true, true, true, true, true, false, false, false, false, false, false, false, false, false, false, false, false, false, false, false] rfl rfl (any_of HT_.out (by kernel_rfl)) (fun _ _ _ h => h) (Or.inl ⟨by rfl, ?_⟩) ?_ ?_
          rotate_left
          · intro w'
            go_simp
            with_reducible rfl
          rotate_left
          · simp only [Act.put, List.setIfInBounds_toArray, List.set_cons_zero, List.set_cons_succ, i64_w, i32_w]
            rfl
          refine take_ (i := 29) (N := some 178) (v := ?_) (a' := ?_) #[true, true, true, true, true, true, true, true, true, true, true, true, true, true, true, true, true, true, true, true, true, true, true, true, true, true, true, true, true, true, false, false, false, false, false, false, false, false, false, false, false, false, false, false] rfl rfl (take_ofW HT_.out HW_.out (by kernel_rfl)) (fun _ _ _ h => h) (Or.inl ⟨by rfl, ?_⟩) hHeld ?_ ?_
          rotate_left
          · intro w' hW
            have q0 := HQ0.out _ hW
            have c0 := box_key (HXB.out _ hW)
            refine el_run (.tmp 177) ?ho (ad.add (k * 22)) ?hx z (HEZ.out _ hW)
            case ho => rfl
            case hx => rfl
          rotate_left
          · simp only [Act.put, List.setIfInBounds_toArray, List.set_cons_zero, List.set_cons_succ, i64_w, i32_w]
            rfl
          refine pure_ (i := 30) (N := some 179) (v := ?_) (a' := ?_) #[true, true, true, true, true, true, true, true, true, true, true, true, true, true, true, true, true, true, true, true, true, true, true, true, true, true, true, true, true, true, true, false, false, false, false, false, false, false, false, false, false, false, false, false] rfl rfl (any_of HT_.out (by kernel_rfl)) (fun _ _ _ h => h) (Or.inl ⟨by rfl, ?_⟩) ?_ ?_
          rotate_left
          · intro w'
            refine neq_same (.tmp 174) (.tmp 178) 77 ?ho z ?hx ?hy
            case ho => rfl
            case hx => rfl
            case hy => rfl
          rotate_left
          · simp only [Act.put, List.setIfInBounds_toArray, List.set_cons_zero, List.set_cons_succ, i64_w, i32_w]
            rfl
          refine pure_ (i := 31) (N := some 180) (v := ?_) (a' := ?_) #[true, true, true, true, true, true, true, true, true, true, true, true, true, true, true, true, true, true, true, true, true, true, true, true, true, true, true, true, true, true, true, true, false, false, false, false, false, false, false, false, false, false, false, false] rfl rfl (any_of HT_.out (by kernel_rfl)) (fun _ _ _ h => h) (Or.inl ⟨by rfl, ?_⟩) ?_ ?_
          rotate_left
          · intro w'
            go_simp
            with_reducible rfl
          rotate_left
          · simp only [Act.put, List.setIfInBounds_toArray, List.set_cons_zero, List.set_cons_succ, i64_w, i32_w]
            rfl
          refine pure_ (i := 32) (N := some 181) (v := ?_) (a' := ?_) #[true, true, true, true, true, true, true, true, true, true, true, true, true, true, true, true, true, true, true, true, true, true, true, true, true, true, true, true, true, true, true, true, true, false, false, false, false, false, false, false, false, false, false, false] rfl rfl (any_of HT_.out (by kernel_rfl)) (fun _ _ _ h => h) (Or.inl ⟨by rfl, ?_⟩) ?_ ?_
          rotate_left
          · intro w'
            go_simp
            with_reducible rfl
          rotate_left
          · simp only [Act.put, List.setIfInBounds_toArray, List.set_cons_zero, List.set_cons_succ, i64_w, i32_w]
            rfl
          refine pure_ (i := 33) (N := some 182) (v := ?_) (a' := ?_) #[true, true, true, true, true, true, true, true, true, true, true, true, true, true, true, true, true, true, true, true, true, true, true, true, true, true, true, true, true, true, true, true, true, true, false, false, false, false, false, false, false, false, false, false] rfl rfl (any_of HT_.out (by kernel_rfl)) (fun _ _ _ h => h) (Or.inl ⟨by rfl, ?_⟩) ?_ ?_
          rotate_left
          · intro w'
            go_simp
            with_reducible rfl
          rotate_left
          · simp only [Act.put, List.setIfInBounds_toArray, List.set_cons_zero, List.set_cons_succ, i64_w, i32_w]
            rfl
          refine pure_ (i := 34) (N := some 183) (v := ?_) (a' := ?_) #[true, true, true, true, true, true, true, true, true, true, true, true, true, true, true, true, true, true, true, true, true, true, true, true, true, true, true, true, true, true, true, true, true, true, true, false, false, false, false, false, false, false, false, false] rfl rfl (any_of HT_.out (by kernel_rfl)) (fun _ _ _ h => h) (Or.inl ⟨by rfl, ?_⟩) ?_ ?_
          rotate_left
          · intro w'
            go_simp
            with_reducible rfl
          rotate_left
          · simp only [Act.put, List.setIfInBounds_toArray, List.set_cons_zero, List.set_cons_succ, i64_w, i32_w]
            rfl
          refine pure_ (i := 35) (N := some 184) (v := ?_) (a' := ?_) #[true, true, true, true, true, true, true, true, true, true, true, true, true, true, true, true, true, true, true, true, true, true, true, true, true, true, true, true, true, true, true, true, true, true, true, true, false, false, false, false, false, false, false, false] rfl rfl (any_of HT_.out (by kernel_rfl)) (fun _ _ _ h => h) (Or.inl ⟨by rfl, ?_⟩) ?_ ?_
          rotate_left
          · intro w'
            go_simp
            with_reducible rfl
          rotate_left
          · simp only [Act.put, List.setIfInBounds_toArray, List.set_cons_zero, List.set_cons_succ, i64_w, i32_w]
            rfl
          refine pure_ (i := 36) (N := some 185) (v := ?_) (a' := ?_) #[true, true, true, true, true, true, true, true, true, true, true, true, true, true, true, true, true, true, true, true, true, true, true, true, true, true, true, true, true, true, true, true, true, true, true, true, true, false, false, false, false, false, false, false] rfl rfl (any_of HT_.out (by kernel_rfl)) (fun _ _ _ h => h) (Or.inl ⟨by rfl, ?_⟩) ?_ ?_
          rotate_left
          · intro w'
            go_simp
            with_reducible rfl
          rotate_left
          · simp only [Act.put, List.setIfInBounds_toArray, List.set_cons_zero, List.set_cons_succ, i64_w, i32_w]
            rfl
          refine pure_ (i := 37) (N := some 186) (v := ?_) (a' := ?_) #[true, true, true, true, true, true, true, true, true, true, true, true, true, true, true, true, true, true, true, true, true, true, true, true, true, true, true, true, true, true, true, true, true, true, true, true, true, true, false, false, false, false, false, false] rfl rfl (any_of HT_.out (by kernel_rfl)) (fun _ _ _ h => h) (Or.inl ⟨by rfl, ?_⟩) ?_ ?_
          rotate_left
          · intro w'
            go_simp
            with_reducible rfl
          rotate_left
          · simp only [Act.put, List.setIfInBounds_toArray, List.set_cons_zero, List.set_cons_succ, i64_w, i32_w]
            rfl
          refine pure_ (i := 38) (N := some 187) (v := ?_) (a' := ?_) #[true, true, true, true, true, true, true, true, true, true, true, true, true, true, true, true, true, true, true, true, true, true, true, true, true, true, true, true, true, true, true, true, true, true, true, true, true, true, true, false, false, false, false, false] rfl rfl (any_of HT_.out (by kernel_rfl)) (fun _ _ _ h => h) (Or.inl ⟨by rfl, ?_⟩) ?_ ?_
          rotate_left
          · intro w'
            go_simp
            with_reducible rfl
          rotate_left
          · simp only [Act.put, List.setIfInBounds_toArray, List.set_cons_zero, List.set_cons_succ, i64_w, i32_w]
            rfl
          refine take_ (i := 39) (N := some 188) (v := ?_) (a' := ?_) #[true, true, true, true, true, true, true, true, true, true, true, true, true, true, true, true, true, true, true, true, true, true, true, true, true, true, true, true, true, true, true, true, true, true, true, true, true, true, true, true, false, false, false, false] rfl rfl (take_ofW HT_.out HW_.out (by kernel_rfl)) (fun _ _ _ h => h) (Or.inl ⟨by rfl, ?_⟩) hHeld ?_ ?_
          rotate_left
          · intro w' hW
            have q0 := HQ0.out _ hW
            have c0 := box_key (HXB.out _ hW)
            go_simp
            with_reducible rfl
          rotate_left
          · simp only [Act.put, List.setIfInBounds_toArray, List.set_cons_zero, List.set_cons_succ, i64_w, i32_w]
            rfl
          refine pure_ (i := 40) (N := some 189) (v := ?_) (a' := ?_) #[true, true, true, true, true, true, true, true, true, true, true, true, true, true, true, true, true, true, true, true, true, true, true, true, true, true, true, true, true, true, true, true, true, true, true, true, true, true, true, true, true, false, false, false] rfl rfl (any_of HT_.out (by kernel_rfl)) (fun _ _ _ h => h) (Or.inl ⟨by rfl, ?_⟩) ?_ ?_
          rotate_left
          · intro w'
            go_simp
            with_reducible rfl
          rotate_left
          · simp only [Act.put, List.setIfInBounds_toArray, List.set_cons_zero, List.set_cons_succ, i64_w, i32_w]
            rfl
          refine pure_ (i := 41) (N := some 190) (v := ?_) (a' := ?_) #[true, true, true, true, true, true, true, true, true, true, true, true, true, true, true, true, true, true, true, true, true, true, true, true, true, true, true, true, true, true, true, true, true, true, true, true, true, true, true, true, true, true, false, false] rfl rfl (any_of HT_.out (by kernel_rfl)) (fun _ _ _ h => h) (Or.inl ⟨by rfl, ?_⟩) ?_ ?_
          rotate_left
          · intro w'
            go_simp
            with_reducible rfl
          rotate_left
          · simp only [Act.put, List.setIfInBounds_toArray, List.set_cons_zero, List.set_cons_succ, i64_w, i32_w]
            rfl
          refine pure_ (i := 42) (N := some 191) (v := ?_) (a' := ?_) #[true, true, true, true, true, true, true, true, true, true, true, true, true, true, true, true, true, true, true, true, true, true, true, true, true, true, true, true, true, true, true, true, true, true, true, true, true, true, true, true, true, true, true, false] rfl rfl (any_of HT_.out (by kernel_rfl)) (fun _ _ _ h => h) (Or.inl ⟨by rfl, ?_⟩) ?_ ?_
          rotate_left
          · intro w'
            go_simp
            with_reducible rfl
          rotate_left
          · simp only [Act.put, List.setIfInBounds_toArray, List.set_cons_zero, List.set_cons_succ, i64_w, i32_w]
            rfl
          refine pure_ (i := 43) (N := some 192) (v := ?_) (a' := ?_) #[true, true, true, true, true, true, true, true, true, true, true, true, true, true, true, true, true, true, true, true, true, true, true, true, true, true, true, true, true, true, true, true, true, true, true, true, true, true, true, true, true, true, true, true] rfl rfl (any_of HT_.out (by kernel_rfl)) (fun _ _ _ h => h) (Or.inl ⟨by rfl, ?_⟩) ?_ ?_
          rotate_left
          · intro w'
            go_simp
            with_reducible rfl
          rotate_left
          · simp only [Act.put, List.setIfInBounds_toArray, List.set_cons_zero, List.set_cons_succ, i64_w, i32_w]
            rfl
          refine done_ (done_of HT_.out (by kernel_rfl)) ?_
          go_wp2_with fail
          go_roundw
          case rel => exact ⟨k + 1, HLT.out, by rw [hkw]; simp, ⟨by first | exact FB.out | exact GW.out | exact below_drew1 FB.out | exact pw_below_drewN FB.out _⟩⟩
          case measure => (have h9 := HLT.out; rw [hkw]; clear hkw; show l.length - ((k : Int) + 1).toNat < l.length - (k : Int).toNat; omega)
        | true =>
          obtain rfl : tw = false := by rw [HTW.out, hky]; rfl
          have hPE := HPZ.out (fun e => by rw [e] at hkk; simp at hkk)
          have HEPz := Aside0.mk (fun (W : World) (hW : Below wz.heap.size wz W) => (by have h := HEP.out W hW; rw [hPE] at h; exact h : ∀ j v, (entC z).toList[j]? = some v → W.cell? ((pd.add (r1 * 22)).add j) = some v))
          have HPE := Aside0.mk hPE
          clear hPE q0 c0
          have HWR := FB
          refine start_ (n := 44) (S := fun W => Below wz.heap.size wz W) (ds := []) #[false, false, false, false, false, false, false, false, false, false, false, false, false, false, false, false, false, false, false, false, false, false, false, false, false, false, false, false, false, false, false, false, false, false, false, false, false, false, false, false, false, false, false, false] (by kernel_rfl) rfl rfl (below_drew1 FB.out) (fun hHeld => ?_)
          refine with_tabW rg11_16_tab rg11_16_bits (fun HT_ HW_ => ?_)
          have GW := Aside0.mk (below_drew1 FB.out)
          clear FB HWR
          generalize w7.drew = w6 at GW hHeld ⊢
          refine pure_ (i := 0) (N := some 149) (v := ?_) (a' := ?_) #[true, false, false, false, false, false, false, false, false, false, false, false, false, false, false, false, false, false, false, false, false, false, false, false, false, false, false, false, false, false, false, false, false, false, false, false, false, false, false, false, false, false, false, false] rfl rfl (any_of HT_.out (by kernel_rfl)) (fun _ _ _ h => h) (Or.inl ⟨by rfl, ?_⟩) ?_ ?_
          rotate_left
          · intro w'
            go_simp
            with_reducible rfl
          rotate_left
          · simp only [Act.put, List.setIfInBounds_toArray, List.set_cons_zero, List.set_cons_succ, i64_w, i32_w]
            rfl
          refine pure_ (i := 1) (N := some 150) (v := ?_) (a' := ?_) #[true, true, false, false, false, false, false, false, false, false, false, false, false, false, false, false, false, false, false, false, false, false, false, false, false, false, false, false, false, false, false, false, false, false, false, false, false, false, false, false, false, false, false, false] rfl rfl (any_of HT_.out (by kernel_rfl)) (fun _ _ _ h => h) (Or.inl ⟨by rfl, ?_⟩) ?_ ?_
          rotate_left
          · intro w'
            go_simp
            with_reducible rfl
          rotate_left
          · simp only [Act.put, List.setIfInBounds_toArray, List.set_cons_zero, List.set_cons_succ, i64_w, i32_w]
            rfl
          refine pure_ (i := 2) (N := some 151) (v := ?_) (a' := ?_) #[true, true, true, false, false, false, false, false, false, false, false, false, false, false, false, false, false, false, false, false, false, false, false, false, false, false, false, false, false, false, false, false, false, false, false, false, false, false, false, false, false, false, false, false] rfl rfl (any_of HT_.out (by kernel_rfl)) (fun _ _ _ h => h) (Or.inl ⟨by rfl, ?_⟩) ?_ ?_
          rotate_left
          · intro w'
            go_simp
            with_reducible rfl
          rotate_left
          · simp only [Act.put, List.setIfInBounds_toArray, List.set_cons_zero, List.set_cons_succ, i64_w, i32_w]
            rfl
          refine pure_ (i := 3) (N := some 152) (v := ?_) (a' := ?_) #[true, true, true, true, false, false, false, false, false, false, false, false, false, false, false, false, false, false, false, false, false, false, false, false, false, false, false, false, false, false, false, false, false, false, false, false, false, false, false, false, false, false, false, false] rfl rfl (any_of HT_.out (by kernel_rfl)) (fun _ _ _ h => h) (Or.inl ⟨by rfl, ?_⟩) ?_ ?_
          rotate_left
          · intro w'
            go_simp
            with_reducible rfl
          rotate_left
          · simp only [Act.put, List.setIfInBounds_toArray, List.set_cons_zero, List.set_cons_succ, i64_w, i32_w]
            rfl
          refine pure_ (i := 4) (N := some 153) (v := ?_) (a' := ?_) #[true, true, true, true, true, false, false, false, false, false, false, false, false, false, false, false, false, false, false, false, false, false, false, false, false, false, false, false, false, false, false, false, false, false, false, false, false, false, false, false, false, false, false, false] rfl rfl (any_of HT_.out (by kernel_rfl)) (fun _ _ _ h => h) (Or.inl ⟨by rfl, ?_⟩) ?_ ?_
          rotate_left
          · intro w'
            go_simp
            with_reducible rfl
          rotate_left
          · simp only [Act.put, List.setIfInBounds_toArray, List.set_cons_zero, List.set_cons_succ, i64_w, i32_w]
            rfl
          refine pure_ (i := 5) (N := some 154) (v := ?_) (a' := ?_) #[true, true, true, true, true, true, false, false, false, false, false, false, false, false, false, false, false, false, false, false, false, false, false, false, false, false, false, false, false, false, false, false, false, false, false, false, false, false, false, false, false, false, false, false] rfl rfl (any_of HT_.out (by kernel_rfl)) (fun _ _ _ h => h) (Or.inl ⟨by rfl, ?_⟩) ?_ ?_
          rotate_left
          · intro w'
            go_simp
            with_reducible rfl
          rotate_left
          · simp only [Act.put, List.setIfInBounds_toArray, List.set_cons_zero, List.set_cons_succ, i64_w, i32_w]
            rfl
          refine pure_ (i := 6) (N := some 155) (v := ?_) (a' := ?_) #[true, true, true, true, true, true, true, false, false, false, false, false, false, false, false, false, false, false, false, false, false, false, false, false, false, false, false, false, false, false, false, false, false, false, false, false, false, false, false, false, false, false, false, false] rfl rfl (any_of HT_.out (by kernel_rfl)) (fun _ _ _ h => h) (Or.inl ⟨by rfl, ?_⟩) ?_ ?_
          rotate_left
          · intro w'
            go_simp
            with_reducible rfl
          rotate_left
          · simp only [Act.put, List.setIfInBounds_toArray, List.set_cons_zero, List.set_cons_succ, i64_w, i32_w]
            rfl
          refine pure_ (i := 7) (N := some 156) (v := ?_) (a' := ?_) #[true, true, true, true, true, true, true, true, false, false, false, false, false, false, false, false, false, false, false, false, false, false, false, false, false, false, false, false, false, false, false, false, false, false, false, false, false, false, false, false, false, false, false, false] rfl rfl (any_of HT_.out (by kernel_rfl)) (fun _ _ _ h => h) (Or.inl ⟨by rfl, ?_⟩) ?_ ?_
          rotate_left
          · intro w'
            go_simp
            with_reducible rfl
          rotate_left
          · simp only [Act.put, List.setIfInBounds_toArray, List.set_cons_zero, List.set_cons_succ, i64_w, i32_w]
            rfl
          refine pure_ (i := 8) (N := some 157) (v := ?_) (a' := ?_) #[true, true, true, true, true, true, true, true, true, false, false, false, false, false, false, false, false, false, false, false, false, false, false, false, false, false, false, false, false, false, false, false, false, false, false, false, false, false, false, false, false, false, false, false] rfl rfl (any_of HT_.out (by kernel_rfl)) (fun _ _ _ h => h) (Or.inl ⟨by rfl, ?_⟩) ?_ ?_
          rotate_left
          · intro w'
            go_simp
            with_reducible rfl
          rotate_left
          · simp only [Act.put, List.setIfInBounds_toArray, List.set_cons_zero, List.set_cons_succ, i64_w, i32_w]
            rfl
          refine pure_ (i := 9) (N := some 158) (v := ?_) (a' := ?_) #[true, true, true, true, true, true, true, true, true, true, false, false, false, false, false, false, false, false, false, false, false, false, false, false, false, false, false, false, false, false, false, false, false, false, false, false, false, false, false, false, false, false, false, false] rfl rfl (any_of HT_.out (by kernel_rfl)) (fun _ _ _ h => h) (Or.inl ⟨by rfl, ?_⟩) ?_ ?_
          rotate_left
          · intro w'
            go_simp
            with_reducible rfl
          rotate_left
          · simp only [Act.put, List.setIfInBounds_toArray, List.set_cons_zero, List.set_cons_succ, i64_w, i32_w]
            rfl
          refine pure_ (i := 10) (N := some 159) (v := ?_) (a' := ?_) #[true, true, true, true, true, true, true, true, true, true, true, false, false, false, false, false, false, false, false, false, false, false, false, false, false, false, false, false, false, false, false, false, false, false, false, false, false, false, false, false, false, false, false, false] rfl rfl (any_of HT_.out (by kernel_rfl)) (fun _ _ _ h => h) (Or.inl ⟨by rfl, ?_⟩) ?_ ?_
          rotate_left
          · intro w'
            go_simp
            with_reducible rfl
          rotate_left
          · simp only [Act.put, List.setIfInBounds_toArray, List.set_cons_zero, List.set_cons_succ, i64_w, i32_w]
            rfl
          refine pure_ (i := 11) (N := some 160) (v := ?_) (a' := ?_) #[true, true, true, true, true, true, true, true, true, true, true, true, false, false, false, false, false, false, false, false, false, false, false, false, false, false, false, false, false, false, false, false, false, false, false, false, false, false, false, false, false, false, false, false] rfl rfl (any_of HT_.out (by kernel_rfl)) (fun _ _ _ h => h) (Or.inl ⟨by rfl, ?_⟩) ?_ ?_
          rotate_left
          · intro w'
            go_simp
            with_reducible rfl
          rotate_left
          · simp only [Act.put, List.setIfInBounds_toArray, List.set_cons_zero, List.set_cons_succ, i64_w, i32_w]
            rfl
          refine pure_ (i := 12) (N := some 161) (v := ?_) (a' := ?_) #[true, true, true, true, true, true, true, true, true, true, true, true, true, false, false, false, false, false, false, false, false, false, false, false, false, false, false, false, false, false, false, false, false, false, false, false, false, false, false, false, false, false, false, false] rfl rfl (any_of HT_.out (by kernel_rfl)) (fun _ _ _ h => h) (Or.inl ⟨by rfl, ?_⟩) ?_ ?_
          rotate_left
          · intro w'
            go_simp
            with_reducible rfl
          rotate_left
          · simp only [Act.put, List.setIfInBounds_toArray, List.set_cons_zero, List.set_cons_succ, i64_w, i32_w]
            rfl
          refine pure_ (i := 13) (N := some 162) (v := ?_) (a' := ?_) #[true, true, true, true, true, true, true, true, true, true, true, true, true, true, false, false, false, false, false, false, false, false, false, false, false, false, false, false, false, false, false, false, false, false, false, false, false, false, false, false, false, false, false, false] rfl rfl (any_of HT_.out (by kernel_rfl)) (fun _ _ _ h => h) (Or.inl ⟨by rfl, ?_⟩) ?_ ?_
          rotate_left
          · intro w'
            go_simp
            with_reducible rfl
          rotate_left
          · simp only [Act.put, List.setIfInBounds_toArray, List.set_cons_zero, List.set_cons_succ, i64_w, i32_w]
            rfl
          refine pure_ (i := 14) (N := some 163) (v := ?_) (a' := ?_) #[true, true, true, true, true, true, true, true, true, true, true, true, true, true, true, false, false, false, false, false, false, false, false, false, false, false, false, false, false, false, false, false, false, false, false, false, false, false, false, false, false, false, false, false] rfl rfl (any_of HT_.out (by kernel_rfl)) (fun _ _ _ h => h) (Or.inl ⟨by rfl, ?_⟩) ?_ ?_
          rotate_left
          · intro w'
            go_simp
            with_reducible rfl
          rotate_left
          · simp only [Act.put, List.setIfInBounds_toArray, List.set_cons_zero, List.set_cons_succ, i64_w, i32_w]
            rfl
          refine pure_ (i := 15) (N := some 164) (v := ?_) (a' := ?_) #[true, true, true, true, true, true, true, true, true, true, true, true, true, true, true, true, false, false, false, false, false, false, false, false, false, false, false, false, false, false, false, false, false, false, false, false, false, false, false, false, false, false, false, false] rfl rfl (any_of HT_.out (by kernel_rfl)) (fun _ _ _ h => h) (Or.inl ⟨by rfl, ?_⟩) ?_ ?_
          rotate_left
          · intro w'
            go_simp
            with_reducible rfl
          rotate_left
          · simp only [Act.put, List.setIfInBounds_toArray, List.set_cons_zero, List.set_cons_succ, i64_w, i32_w]
            rfl
          refine pure_ (i := 16) (N := some 165) (v := ?_) (a' := ?_) #[true, true, true, true, true, true, true, true, true, true, true, true, true, true, true, true, true, false, false, false, false, false, false, false, false, false, false, false, false, false, false, false, false, false, false, false, false, false, false, false, false, false, false, false] rfl rfl (any_of HT_.out (by kernel_rfl)) (fun _ _ _ h => h) (Or.inl ⟨by rfl, ?_⟩) ?_ ?_
          rotate_left
          · intro w'
            go_simp
            with_reducible rfl
          rotate_left
          · simp only [Act.put, List.setIfInBounds_toArray, List.set_cons_zero, List.set_cons_succ, i64_w, i32_w]
            rfl
          refine take_ (i := 17) (N := some 166) (v := ?_) (a' := ?_) #[true, true, true, true, true, true, true, true, true, true, true, true, true, true, true, true, true, true, false, false, false, false, false, false, false, false, false, false, false, false, false, false, false, false, false, false, false, false, false, false, false, false, false, false] rfl rfl (take_ofW HT_.out HW_.out (by kernel_rfl)) (fun _ _ _ h => h) (Or.inl ⟨by rfl, ?_⟩) hHeld ?_ ?_
          rotate_left
          · intro w' hW
            have q0 := HQ0.out _ hW
            have c0 := box_key (HXB.out _ hW)
            go_simp
            with_reducible rfl
          rotate_left
          · simp only [Act.put, List.setIfInBounds_toArray, List.set_cons_zero, List.set_cons_succ, i64_w, i32_w]
            rfl
          refine pure_ (i := 18) (N := some 167) (v := ?_) (a' := ?_) #[true, true, true, true, true, true, true, true, true, true, true, true, true, true, true, true, true, true, true, false, false, false, false, false, false, false, false, false, false, false, false, false, false, false, false, false, false, false, false, false, false, false, false, false] rfl rfl (any_of HT_.out (by kernel_rfl)) (fun _ _ _ h => h) (Or.inl ⟨by rfl, ?_⟩) ?_ ?_
          rotate_left
          · intro w'
            go_simp
            with_reducible rfl
          rotate_left
          · simp only [Act.put, List.setIfInBounds_toArray, List.set_cons_zero, List.set_cons_succ, i64_w, i32_w]
            rfl
          refine take_ (i := 19) (N := some 168) (v := ?_) (a' := ?_) #[true, true, true, true, true, true, true, true, true, true, true, true, true, true, true, true, true, true, true, true, false, false, false, false, false, false, false, false, false, false, false, false, false, false, false, false, false, false, false, false, false, false, false, false] rfl rfl (take_ofW HT_.out HW_.out (by kernel_rfl)) (fun _ _ _ h => h) (Or.inl ⟨by rfl, ?_⟩) hHeld ?_ ?_
          rotate_left
          · intro w' hW
            have q0 := HQ0.out _ hW
            have c0 := box_key (HXB.out _ hW)
            go_simp
            with_reducible rfl
          rotate_left
          · simp only [Act.put, List.setIfInBounds_toArray, List.set_cons_zero, List.set_cons_succ, i64_w, i32_w]
            rfl
          refine pure_ (i := 20) (N := some 169) (v := ?_) (a' := ?_) #[true, true, true, true, true, true, true, true, true, true, true, true, true, true, true, true, true, true, true, true, true, false, false, false, false, false, false, false, false, false, false, false, false, false, false, false, false, false, false, false, false, false, false, false] rfl rfl (any_of HT_.out (by kernel_rfl)) (fun _ _ _ h => h) (Or.inl ⟨by rfl, ?_⟩) ?_ ?_
          rotate_left
          · intro w'
            go_simp
            with_reducible rfl
          rotate_left
          · simp only [Act.put, List.setIfInBounds_toArray, List.set_cons_zero, List.set_cons_succ, i64_w, i32_w]
            rfl
          refine pure_ (i := 21) (N := some 170) (v := ?_) (a' := ?_) #[true, true, true, true, true, true, true, true, true, true, true, true, true, true, true, true, true, true, true, true, true, true, false, false, false, false, false, false, false, false, false, false, false, false, false, false, false, false, false, false, false, false, false, false] rfl rfl (any_of HT_.out (by kernel_rfl)) (fun _ _ _ h => h) (Or.inl ⟨by rfl, ?_⟩) ?_ ?_
          rotate_left
          · intro w'
            go_simp
            with_reducible rfl
          rotate_left
          · simp only [Act.put, List.setIfInBounds_toArray, List.set_cons_zero, List.set_cons_succ, i64_w, i32_w]
            rfl
          refine pure_ (i := 22) (N := some 171) (v := ?_) (a' := ?_) #[true, true, true, true, true, true, true, true, true, true, true, true, true, true, true, true, true, true, true, true, true, true, true, false, false, false, false, false, false, false, false, false, false, false, false, false, false, false, false, false, false, false, false, false] rfl rfl (any_of HT_.out (by kernel_rfl)) (fun _ _ _ h => h) (Or.inl ⟨by rfl, ?_⟩) ?_ ?_
          rotate_left
          · intro w'
            go_simp
            with_reducible rfl
          rotate_left
          · simp only [Act.put, List.setIfInBounds_toArray, List.set_cons_zero, List.set_cons_succ, i64_w, i32_w]
            rfl
          refine pure_ (i := 23) (N := some 172) (v := ?_) (a' := ?_) #[true, true, true, true, true, true, true, true, true, true, true, true, true, true, true, true, true, true, true, true, true, true, true, true, false, false, false, false, false, false, false, false, false, false, false, false, false, false, false, false, false, false, false, false] rfl rfl (any_of HT_.out (by kernel_rfl)) (fun _ _ _ h => h) (Or.inl ⟨by rfl, ?_⟩) ?_ ?_
          rotate_left
          · intro w'
            go_simp
            with_reducible rfl
          rotate_left
          · simp only [Act.put, List.setIfInBounds_toArray, List.set_cons_zero, List.set_cons_succ, i64_w, i32_w]
            rfl
          refine pure_ (i := 24) (N := some 173) (v := ?_) (a' := ?_) #[true, true, true, true, true, true, true, true, true, true, true, true, true, true, true, true, true, true, true, true, true, true, true, true, true, false, false, false, false, false, false, false, false, false, false, false, false, false, false, false, false, false, false, false] rfl rfl (any_of HT_.out (by kernel_rfl)) (fun _ _ _ h => h) (Or.inl ⟨by rfl, ?_⟩) ?_ ?_
          rotate_left
          · intro w'
            go_simp
            with_reducible rfl
          rotate_left
          · simp only [Act.put, List.setIfInBounds_toArray, List.set_cons_zero, List.set_cons_succ, i64_w, i32_w]
            rfl
          refine take_ (i := 25) (N := some 174) (v := ?_) (a' := ?_) #[true, true, true, true, true, true, true, true, true, true, true, true, true, true, true, true, true, true, true, true, true, true, true, true, true, true, false, false, false, false, false, false, false, false, false, false, false, false, false, false, false, false, false, false] rfl rfl (take_ofW HT_.out HW_.out (by kernel_rfl)) (fun _ _ _ h => h) (Or.inl ⟨by rfl, ?_⟩) hHeld ?_ ?_
          rotate_left
          · intro w' hW
            have q0 := HQ0.out _ hW
            have c0 := box_key (HXB.out _ hW)
            refine el_run (.tmp 173) ?ho (pd.add (r1 * 22)) ?hx z (HEPz.out _ hW)
            case ho => rfl
            case hx => rfl
          rotate_left
          · simp only [Act.put, List.setIfInBounds_toArray, List.set_cons_zero, List.set_cons_succ, i64_w, i32_w]
            rfl
          refine pure_ (i := 26) (N := some 175) (v := ?_) (a' := ?_) #[true, true, true, true, true, true, true, true, true, true, true, true, true, true, true, true, true, true, true, true, true, true, true, true, true, true, true, false, false, false, false, false, false, false, false, false, false, false, false, false, false, false, false, false] rfl rfl (any_of HT_.out (by kernel_rfl)) (fun _ _ _ h => h) (Or.inl ⟨by rfl, ?_⟩) ?_ ?_
          rotate_left
          · intro w'
            go_simp
            with_reducible rfl
          rotate_left
          · simp only [Act.put, List.setIfInBounds_toArray, List.set_cons_zero, List.set_cons_succ, i64_w, i32_w]
            rfl
          refine pure_ (i := 27) (N := some 176) (v := ?_) (a' := ?_) #[true, true, true, true, true, true, true, true, true, true, true, true, true, true, true, true, true, true, true, true, true, true, true, true, true, true, true, true, false, false, false, false, false, false, false, false, false, false, false, false, false, false, false, false] rfl rfl (any_of HT_.out (by kernel_rfl)) (fun _ _ _ h => h) (Or.inl ⟨by rfl, ?_⟩) ?_ ?_
          rotate_left
          · intro w'
            go_simp
            with_reducible rfl
          rotate_left
          · simp only [Act.put, List.setIfInBounds_toArray, List.set_cons_zero, List.set_cons_succ, i64_w, i32_w]
            rfl
          refine pure_ (i := 28) (N := some 177) (v := ?_) (a' := ?_) #[true, true, true, true, true, true, true, true, true, true, true, true, true, true, true, true, true, true, true, true, true, true, true, true, true, true, true, true, true, false, false, false, false, false, false, false, false, false, false, false, false, false, false, false] rfl rfl (any_of HT_.out (by kernel_rfl)) (fun _ _ _ h => h) (Or.inl ⟨by rfl, ?_⟩) ?_ ?_
          rotate_left
          · intro w'
            go_simp
            with_reducible rfl
          rotate_left
          · simp only [Act.put, List.setIfInBounds_toArray, List.set_cons_zero, List.set_cons_succ, i64_w, i32_w]
            rfl
          refine take_ (i := 29) (N := some 178) (v := ?_) (a' := ?_) #[true, true, true, true, true, true, true, true, true, true, true, true, true, true, true, true, true, true, true, true, true, true, true, true, true, true, true, true, true, true, false, false, false, false, false, false, false, false, false, false, false, false, false, false] rfl rfl (take_ofW HT_.out HW_.out (by kernel_rfl)) (fun _ _ _ h => h) (Or.inl ⟨by rfl, ?_⟩) hHeld ?_ ?_
          rotate_left
          · intro w' hW
            have q0 := HQ0.out _ hW
            have c0 := box_key (HXB.out _ hW)
            refine el_run (.tmp 177) ?ho (ad.add (k * 22)) ?hx z (HEZ.out _ hW)
            case ho => rfl
            case hx => rfl
          rotate_left
          · simp only [Act.put, List.setIfInBounds_toArray, List.set_cons_zero, List.set_cons_succ, i64_w, i32_w]
            rfl
          refine pure_ (i := 30) (N := some 179) (v := ?_) (a' := ?_) #[true, true, true, true, true, true, true, true, true, true, true, true, true, true, true, true, true, true, true, true, true, true, true, true, true, true, true, true, true, true, true, false, false, false, false, false, false, false, false, false, false, false, false, false] rfl rfl (any_of HT_.out (by kernel_rfl)) (fun _ _ _ h => h) (Or.inl ⟨by rfl, ?_⟩) ?_ ?_
          rotate_left
          · intro w'
            refine neq_same (.tmp 174) (.tmp 178) 77 ?ho z ?hx ?hy
            case ho => rfl
            case hx => rfl
            case hy => rfl
          rotate_left
          · simp only [Act.put, List.setIfInBounds_toArray, List.set_cons_zero, List.set_cons_succ, i64_w, i32_w]
            rfl
          refine pure_ (i := 31) (N := some 180) (v := ?_) (a' := ?_) #[true, true, true, true, true, true, true, true, true, true, true, true, true, true, true, true, true, true, true, true, true, true, true, true, true, true, true, true, true, true, true, true, false, false, false, false, false, false, false, false, false, false, false, false] rfl rfl (any_of HT_.out (by kernel_rfl)) (fun _ _ _ h => h) (Or.inl ⟨by rfl, ?_⟩) ?_ ?_
          rotate_left
          · intro w'
            go_simp
            with_reducible rfl
          rotate_left
          · simp only [Act.put, List.setIfInBounds_toArray, List.set_cons_zero, List.set_cons_succ, i64_w, i32_w]
            rfl
          refine pure_ (i := 32) (N := some 181) (v := ?_) (a' := ?_) #[true, true, true, true, true, true, true, true, true, true, true, true, true, true, true, true, true, true, true, true, true, true, true, true, true, true, true, true, true, true, true, true, true, false, false, false, false, false, false, false, false, false, false, false] rfl rfl (any_of HT_.out (by kernel_rfl)) (fun _ _ _ h => h) (Or.inl ⟨by rfl, ?_⟩) ?_ ?_
          rotate_left
          · intro w'
            go_simp
            with_reducible rfl
          rotate_left
          · simp only [Act.put, List.setIfInBounds_toArray, List.set_cons_zero, List.set_cons_succ, i64_w, i32_w]
            rfl
          refine pure_ (i := 33) (N := some 182) (v := ?_) (a' := ?_) #[true, true, true, true, true, true, true, true, true, true, true, true, true, true, true, true, true, true, true, true, true, true, true, true, true, true, true, true, true, true, true, true, true, true, false, false, false, false, false, false, false, false, false, false] rfl rfl (any_of HT_.out (by kernel_rfl)) (fun _ _ _ h => h) (Or.inl ⟨by rfl, ?_⟩) ?_ ?_
          rotate_left
          · intro w'
            go_simp
            with_reducible rfl
          rotate_left
          · simp only [Act.put, List.setIfInBounds_toArray, List.set_cons_zero, List.set_cons_succ, i64_w, i32_w]
            rfl
          refine pure_ (i := 34) (N := some 183) (v := ?_) (a' := ?_) #[true, true, true, true, true, true, true, true, true, true, true, true, true, true, true, true, true, true, true, true, true, true, true, true, true, true, true, true, true, true, true, true, true, true, true, false, false, false, false, false, false, false, false, false] rfl rfl (any_of HT_.out (by kernel_rfl)) (fun _ _ _ h => h) (Or.inl ⟨by rfl, ?_⟩) ?_ ?_
          rotate_left
          · intro w'
            go_simp
            with_reducible rfl
          rotate_left
          · simp only [Act.put, List.setIfInBounds_toArray, List.set_cons_zero, List.set_cons_succ, i64_w, i32_w]
            rfl
          refine pure_ (i := 35) (N := some 184) (v := ?_) (a' := ?_) #[true, true, true, true, true, true, true, true, true, true, true, true, true, true, true, true, true, true, true, true, true, true, true, true, true, true, true, true, true, true, true, true, true, true, true, true, false, false, false, false, false, false, false, false] rfl rfl (any_of HT_.out (by kernel_rfl)) (fun _ _ _ h => h) (Or.inl ⟨by rfl, ?_⟩) ?_ ?_
          rotate_left
          · intro w'
            go_simp
            with_reducible rfl
          rotate_left
          · simp only [Act.put, List.setIfInBounds_toArray, List.set_cons_zero, List.set_cons_succ, i64_w, i32_w]
            rfl
          refine pure_ (i := 36) (N := some 185) (v := ?_) (a' := ?_) #[true, true, true, true, true, true, true, true, true, true, true, true, true, true, true, true, true, true, true, true, true, true, true, true, true, true, true, true, true, true, true, true, true, true, true, true, true, false, false, false, false, false, false, false] rfl rfl (any_of HT_.out (by kernel_rfl)) (fun _ _ _ h => h) (Or.inl ⟨by rfl, ?_⟩) ?_ ?_
          rotate_left
          · intro w'
            go_simp
            with_reducible rfl
          rotate_left
          · simp only [Act.put, List.setIfInBounds_toArray, List.set_cons_zero, List.set_cons_succ, i64_w, i32_w]
            rfl
          refine pure_ (i := 37) (N := some 186) (v := ?_) (a' := ?_) #[true, true, true, true, true, true, true, true, true, true, true, true, true, true, true, true, true, true, true, true, true, true, true, true, true, true, true, true, true, true, true, true, true, true, true, true, true, true, false, false, false, false, false, false] rfl rfl (any_of HT_.out (by kernel_rfl)) (fun _ _ _ h => h) (Or.inl ⟨by rfl, ?_⟩) ?_ ?_
          rotate_left
          · intro w'
            go_simp
            with_reducible rfl
          rotate_left
          · simp only [Act.put, List.setIfInBounds_toArray, List.set_cons_zero, List.set_cons_succ, i64_w, i32_w]
            rfl
          refine pure_ (i := 38) (N := some 187) (v := ?_) (a' := ?_) #[true, true, true, true, true, true, true, true, true, true, true, true, true, true, true, true, true, true, true, true, true, true, true, true, true, true, true, true, true, true, true, true, true, true, true, true, true, true, true, false, false, false, false, false] rfl rfl (any_of HT_.out (by kernel_rfl)) (fun _ _ _ h => h) (Or.inl ⟨by rfl, ?_⟩) ?_ ?_
          rotate_left
          · intro w'
            go_simp
            with_reducible rfl
          rotate_left
          · simp only [Act.put, List.setIfInBounds_toArray, List.set_cons_zero, List.set_cons_succ, i64_w, i32_w]
            rfl
          refine take_ (i := 39) (N := some 188) (v := ?_) (a' := ?_) #[true, true, true, true, true, true, true, true, true, true, true, true, true, true, true, true, true, true, true, true, true, true, true, true, true, true, true, true, true, true, true, true, true, true, true, true, true, true, true, true, false, false, false, false] rfl rfl (take_ofW HT_.out HW_.out (by kernel_rfl)) (fun _ _ _ h => h) (Or.inl ⟨by rfl, ?_⟩) hHeld ?_ ?_
          rotate_left
          · intro w' hW
            have q0 := HQ0.out _ hW
            have c0 := box_key (HXB.out _ hW)
            go_simp
            with_reducible rfl
          rotate_left
          · simp only [Act.put, List.setIfInBounds_toArray, List.set_cons_zero, List.set_cons_succ, i64_w, i32_w]
            rfl
          refine pure_ (i := 40) (N := some 189) (v := ?_) (a' := ?_) #[true, true, true, true, true, true, true, true, true, true, true, true, true, true, true, true, true, true, true, true, true, true, true, true, true, true, true, true, true, true, true, true, true, true, true, true, true, true, true, true, true, false, false, false] rfl rfl (any_of HT_.out (by kernel_rfl)) (fun _ _ _ h => h) (Or.inl ⟨by rfl, ?_⟩) ?_ ?_
          rotate_left
          · intro w'
            go_simp
            with_reducible rfl
          rotate_left
          · simp only [Act.put, List.setIfInBounds_toArray, List.set_cons_zero, List.set_cons_succ, i64_w, i32_w]
            rfl
          refine pure_ (i := 41) (N := some 190) (v := ?_) (a' := ?_) #[true, true, true, true, true, true, true, true, true, true, true, true, true, true, true, true, true, true, true, true, true, true, true, true, true, true, true, true, true, true, true, true, true, true, true, true, true, true, true, true, true, true, false, false] rfl rfl (any_of HT_.out (by kernel_rfl)) (fun _ _ _ h => h) (Or.inl ⟨by rfl, ?_⟩) ?_ ?_
          rotate_left
          · intro w'
            go_simp
            with_reducible rfl
          rotate_left
          · simp only [Act.put, List.setIfInBounds_toArray, List.set_cons_zero, List.set_cons_succ, i64_w, i32_w]
            rfl
          refine pure_ (i := 42) (N := some 191) (v := ?_) (a' := ?_) #[true, true, true, true, true, true, true, true, true, true, true, true, true, true, true, true, true, true, true, true, true, true, true, true, true, true, true, true, true, true, true, true, true, true, true, true, true, true, true, true, true, true, true, false] rfl rfl (any_of HT_.out (by kernel_rfl)) (fun _ _ _ h => h) (Or.inl ⟨by rfl, ?_⟩) ?_ ?_
          rotate_left
          · intro w'
            go_simp
            with_reducible rfl
          rotate_left
          · simp only [Act.put, List.setIfInBounds_toArray, List.set_cons_zero, List.set_cons_succ, i64_w, i32_w]
            rfl
          refine pure_ (i := 43) (N := some 192) (v := ?_) (a' := ?_) #[true, true, true, true, true, true, true, true, true, true, true, true, true, true, true, true, true, true, true, true, true, true, true, true, true, true, true, true, true, true, true, true, true, true, true, true, true, true, true, true, true, true, true, true] rfl rfl (any_of HT_.out (by kernel_rfl)) (fun _ _ _ h => h) (Or.inl ⟨by rfl, ?_⟩) ?_ ?_
          rotate_left
          · intro w'
            go_simp
            with_reducible rfl
          rotate_left
          · simp only [Act.put, List.setIfInBounds_toArray, List.set_cons_zero, List.set_cons_succ, i64_w, i32_w]
            rfl
          refine done_ (done_of HT_.out (by kernel_rfl)) ?_
          go_wp2_with fail
          go_roundw
          case rel => exact ⟨k + 1, HLT.out, by rw [hkw]; simp, ⟨by first | exact FB.out | exact GW.out | exact below_drew1 FB.out | exact pw_below_drewN FB.out _⟩⟩
          case measure => (have h9 := HLT.out; rw [hkw]; clear hkw; show l.length - ((k : Int) + 1).toNat < l.length - (k : Int).toNat; omega)
      | true =>
        cases hky : (z.f0.toList == key.toList) with
        | false =>
          obtain rfl : tw = true := by rw [HTW.out, hky]; rfl
          repeat (go_quiet (fail); try go_wp2)
          go_roundw
          case rel => exact ⟨k + 1, HLT.out, by rw [hkw]; simp, ⟨by first | exact FB.out | exact GW.out | exact below_drew1 FB.out | exact pw_below_drewN FB.out _⟩⟩
          case measure => (have h9 := HLT.out; rw [hkw]; clear hkw; show l.length - ((k : Int) + 1).toNat < l.length - (k : Int).toNat; omega)
        | true =>
          obtain rfl : tw = false := by rw [HTW.out, hky]; rfl
          repeat (go_quiet (fail); try go_wp2)
          go_roundw
          case rel => exact ⟨k + 1, HLT.out, by rw [hkw]; simp, ⟨by first | exact FB.out | exact GW.out | exact below_drew1 FB.out | exact pw_below_drewN FB.out _⟩⟩
          case measure => (have h9 := HLT.out; rw [hkw]; clear hkw; show l.length - ((k : Int) + 1).toNat < l.length - (k : Int).toNat; omega)
    · obtain rfl : k = l.length := by omega
      have HB := Aside0.mk (below_tr2 (w := w) HBZ.out FB.out)
      have hp2 := HP2.out
      have hbl0 := HBL0.out
      clear hlt hk FB HP2 HBL0
      rcases hp2 with h2 | ⟨h2, rfl⟩ | ⟨h2, rfl, h3⟩ | ⟨h2, rfl, h3⟩
      · have d64 : decide (level < 1) = true := decide_eq_true (by omega)
        have d65 : decide (1 > level) = true := decide_eq_true (by omega)
        clear h2 hbl0
        go_wp2_with (first
          | ((go_at_call 15); (with_reducible refine (HSANE.out _ (by repeat (first | exact HB.out | exact Below.refl _ _ | apply below_alloc))).mono ?_); rintro e w9 ⟨rfl, hbl⟩; (try (have HBn := Aside0.mk (below_tr2 (w := w) (by repeat (first | exact HB.out | exact Below.refl _ _ | apply below_alloc)) hbl); clear HB; have HB := HBn; clear HBn)); (try (have Fan := Aside0.mk (below_tr2 (w := wa) (by repeat (first | exact Fa.out | exact Below.refl _ _ | apply below_alloc)) hbl); clear Fa; have Fa := Fan; clear Fan)); (try (have Fbn := Aside0.mk (below_tr2 (w := wb) (by repeat (first | exact Fb.out | exact Below.refl _ _ | apply below_alloc)) hbl); clear Fb; have Fb := Fbn; clear Fbn)); (try (have HDn := Aside0.mk (hd_call (by first | exact HD.out | exact hd_alloc HD.out _) hbl); clear HD; have HD := HDn; clear HDn)); (try clear c0); (try have c0 := hd_key HD.out); clear hbl)
          )
        go_ret
        exact ⟨rfl, HB.out⟩
      · have d66 : decide (level < 1) = false := decide_eq_false (by omega)
        have d67 : decide (1 > level) = false := decide_eq_false (by omega)
        clear h2 hbl0
        go_wp2_with (first
          | ((go_at_call 16); (with_reducible refine (HOB.out _ (by repeat (first | exact HB.out | exact Below.refl _ _ | apply below_alloc))).mono ?_); rintro e w9 ⟨rfl, hbl⟩; (try (have HBn := Aside0.mk (below_tr2 (w := w) (by repeat (first | exact HB.out | exact Below.refl _ _ | apply below_alloc)) hbl); clear HB; have HB := HBn; clear HBn)); (try (have Fan := Aside0.mk (below_tr2 (w := wa) (by repeat (first | exact Fa.out | exact Below.refl _ _ | apply below_alloc)) hbl); clear Fa; have Fa := Fan; clear Fan)); (try (have Fbn := Aside0.mk (below_tr2 (w := wb) (by repeat (first | exact Fb.out | exact Below.refl _ _ | apply below_alloc)) hbl); clear Fb; have Fb := Fbn; clear Fbn)); (try (have HDn := Aside0.mk (hd_call (by first | exact HD.out | exact hd_alloc HD.out _) hbl); clear HD; have HD := HDn; clear HDn)); (try clear c0); (try have c0 := hd_key HD.out); clear hbl)
          | ((go_at_call 15); (with_reducible refine (HSANE.out _ (by repeat (first | exact HB.out | exact Below.refl _ _ | apply below_alloc))).mono ?_); rintro e w9 ⟨rfl, hbl⟩; (try (have HBn := Aside0.mk (below_tr2 (w := w) (by repeat (first | exact HB.out | exact Below.refl _ _ | apply below_alloc)) hbl); clear HB; have HB := HBn; clear HBn)); (try (have Fan := Aside0.mk (below_tr2 (w := wa) (by repeat (first | exact Fa.out | exact Below.refl _ _ | apply below_alloc)) hbl); clear Fa; have Fa := Fan; clear Fan)); (try (have Fbn := Aside0.mk (below_tr2 (w := wb) (by repeat (first | exact Fb.out | exact Below.refl _ _ | apply below_alloc)) hbl); clear Fb; have Fb := Fbn; clear Fbn)); (try (have HDn := Aside0.mk (hd_call (by first | exact HD.out | exact hd_alloc HD.out _) hbl); clear HD; have HD := HDn; clear HDn)); (try clear c0); (try have c0 := hd_key HD.out); clear hbl)
          )
        go_ret
        exact ⟨rfl, HB.out⟩
      · have d68 : decide (level < 1) = false := decide_eq_false (by omega)
        have d69 : decide (1 > level) = false := decide_eq_false (by omega)
        have e0 : ((b.length : Int) == 0) = true := beq_iff_eq.mpr (by omega)
        clear h2 h3 hbl0
        go_wp2_with (first
          | ((go_at_call 16); (with_reducible refine (HOB.out _ (by repeat (first | exact HB.out | exact Below.refl _ _ | apply below_alloc))).mono ?_); rintro e w9 ⟨rfl, hbl⟩; (try (have HBn := Aside0.mk (below_tr2 (w := w) (by repeat (first | exact HB.out | exact Below.refl _ _ | apply below_alloc)) hbl); clear HB; have HB := HBn; clear HBn)); (try (have Fan := Aside0.mk (below_tr2 (w := wa) (by repeat (first | exact Fa.out | exact Below.refl _ _ | apply below_alloc)) hbl); clear Fa; have Fa := Fan; clear Fan)); (try (have Fbn := Aside0.mk (below_tr2 (w := wb) (by repeat (first | exact Fb.out | exact Below.refl _ _ | apply below_alloc)) hbl); clear Fb; have Fb := Fbn; clear Fbn)); (try (have HDn := Aside0.mk (hd_call (by first | exact HD.out | exact hd_alloc HD.out _) hbl); clear HD; have HD := HDn; clear HDn)); (try clear c0); (try have c0 := hd_key HD.out); clear hbl)
          | ((go_at_call 15); (with_reducible refine (HSANE.out _ (by repeat (first | exact HB.out | exact Below.refl _ _ | apply below_alloc))).mono ?_); rintro e w9 ⟨rfl, hbl⟩; (try (have HBn := Aside0.mk (below_tr2 (w := w) (by repeat (first | exact HB.out | exact Below.refl _ _ | apply below_alloc)) hbl); clear HB; have HB := HBn; clear HBn)); (try (have Fan := Aside0.mk (below_tr2 (w := wa) (by repeat (first | exact Fa.out | exact Below.refl _ _ | apply below_alloc)) hbl); clear Fa; have Fa := Fan; clear Fan)); (try (have Fbn := Aside0.mk (below_tr2 (w := wb) (by repeat (first | exact Fb.out | exact Below.refl _ _ | apply below_alloc)) hbl); clear Fb; have Fb := Fbn; clear Fbn)); (try (have HDn := Aside0.mk (hd_call (by first | exact HD.out | exact hd_alloc HD.out _) hbl); clear HD; have HD := HDn; clear HDn)); (try clear c0); (try have c0 := hd_key HD.out); clear hbl)
          )
        go_ret
        exact ⟨rfl, HB.out⟩
      · have d70 : decide (level < 1) = false := decide_eq_false (by omega)
        have d71 : decide (1 > level) = false := decide_eq_false (by omega)
        have e0 : ((b.length : Int) == 0) = false := beq_eq_false_iff_ne.mpr (by omega)
        have HBD2 := Aside0.mk (HBD.out h2 rfl)
        have HLB := Aside0.mk hbl0
        clear h2 h3 HBD hbl0
        go_wp2_with (first
          | ((go_at_call 16); (with_reducible refine (HOB.out _ (by repeat (first | exact HB.out | exact Below.refl _ _ | apply below_alloc))).mono ?_); rintro e w9 ⟨rfl, hbl⟩; (try (have HBn := Aside0.mk (below_tr2 (w := w) (by repeat (first | exact HB.out | exact Below.refl _ _ | apply below_alloc)) hbl); clear HB; have HB := HBn; clear HBn)); (try (have Fan := Aside0.mk (below_tr2 (w := wa) (by repeat (first | exact Fa.out | exact Below.refl _ _ | apply below_alloc)) hbl); clear Fa; have Fa := Fan; clear Fan)); (try (have Fbn := Aside0.mk (below_tr2 (w := wb) (by repeat (first | exact Fb.out | exact Below.refl _ _ | apply below_alloc)) hbl); clear Fb; have Fb := Fbn; clear Fbn)); (try (have HDn := Aside0.mk (hd_call (by first | exact HD.out | exact hd_alloc HD.out _) hbl); clear HD; have HD := HDn; clear HDn)); (try clear c0); (try have c0 := hd_key HD.out); clear hbl)
          | ((go_at_call 26); (with_reducible refine (H26.out _ (by repeat (first | exact HB.out | exact Below.refl _ _ | apply below_alloc))).mono ?_); rintro e w9 ⟨rfl, hbl⟩; (try (have HBn := Aside0.mk (below_tr2 (w := w) (by repeat (first | exact HB.out | exact Below.refl _ _ | apply below_alloc)) hbl); clear HB; have HB := HBn; clear HBn)); (try (have Fan := Aside0.mk (below_tr2 (w := wa) (by repeat (first | exact Fa.out | exact Below.refl _ _ | apply below_alloc)) hbl); clear Fa; have Fa := Fan; clear Fan)); (try (have Fbn := Aside0.mk (below_tr2 (w := wb) (by repeat (first | exact Fb.out | exact Below.refl _ _ | apply below_alloc)) hbl); clear Fb; have Fb := Fbn; clear Fbn)); (try (have HDn := Aside0.mk (hd_call (by first | exact HD.out | exact hd_alloc HD.out _) hbl); clear HD; have HD := HDn; clear HDn)); (try clear c0); (try have c0 := hd_key HD.out); clear hbl)
          )
        (try clear c0)
        (try clear HD)
        go_loopw [26] (fun iv wr => ∃ (k : Nat), k ≤ b.length ∧ iv = .int .i64 k ∧ Aside0 (Below w.heap.size w wr)) (fun iv _ => b.length - (intOf iv).toNat)
        case atStart => exact ⟨0, Nat.zero_le _, rfl, HB⟩
        case round =>
          (try clear HB)
          obtain ⟨k, hk, rfl, HB⟩ := hrel
          by_cases hlt : k < b.length
          · have HLT := Aside0.mk hlt
            obtain ⟨lo, hi, hS, hE⟩ := HBD2.out k hlt
            have H27 := Aside0.mk hS
            have hk1 : (k : Int) < (b.length : Int) := by omega
            have hkw := w_succ k (by have := HLB.out; omega)
            clear hS hlt hk
            cases h1 : Op.bytesLess key.toList lo.toList with
            | false =>
              cases h2 : (hi.toList == ([] : List UInt8)) with
              | false =>
                cases h3 : Op.bytesLess key.toList hi.toList with
                | false =>
                  rw [h1, h2, h3] at hE
                  have hq : ((k : Int) == ch) = false := hE.symm
                  clear hE
                  go_wp2_with (first
                    | ((go_at_call 27); (with_reducible refine (H27.out _ (by repeat (first | exact HB.out | exact Below.refl _ _ | apply below_alloc))).mono ?_); rintro e w9 ⟨rfl, hbl⟩; (try (have HBn := Aside0.mk (below_tr2 (w := w) (by repeat (first | exact HB.out | exact Below.refl _ _ | apply below_alloc)) hbl); clear HB; have HB := HBn; clear HBn)); (try (have Fan := Aside0.mk (below_tr2 (w := wa) (by repeat (first | exact Fa.out | exact Below.refl _ _ | apply below_alloc)) hbl); clear Fa; have Fa := Fan; clear Fan)); (try (have Fbn := Aside0.mk (below_tr2 (w := wb) (by repeat (first | exact Fb.out | exact Below.refl _ _ | apply below_alloc)) hbl); clear Fb; have Fb := Fbn; clear Fbn)); (try (have HDn := Aside0.mk (hd_call (by first | exact HD.out | exact hd_alloc HD.out _) hbl); clear HD; have HD := HDn; clear HDn)); (try clear c0); (try have c0 := hd_key HD.out); clear hbl)
                    )
                  go_roundw
                  case rel => exact ⟨k + 1, HLT.out, by rw [hkw]; simp, HB⟩
                  case measure => (have h9 := HLT.out; rw [hkw]; clear hkw; show b.length - ((k : Int) + 1).toNat < b.length - (k : Int).toNat; omega)
                | true =>
                  rw [h1, h2, h3] at hE
                  have hq : ((k : Int) == ch) = true := hE.symm
                  clear hE
                  go_wp2_with (first
                    | ((go_at_call 27); (with_reducible refine (H27.out _ (by repeat (first | exact HB.out | exact Below.refl _ _ | apply below_alloc))).mono ?_); rintro e w9 ⟨rfl, hbl⟩; (try (have HBn := Aside0.mk (below_tr2 (w := w) (by repeat (first | exact HB.out | exact Below.refl _ _ | apply below_alloc)) hbl); clear HB; have HB := HBn; clear HBn)); (try (have Fan := Aside0.mk (below_tr2 (w := wa) (by repeat (first | exact Fa.out | exact Below.refl _ _ | apply below_alloc)) hbl); clear Fa; have Fa := Fan; clear Fan)); (try (have Fbn := Aside0.mk (below_tr2 (w := wb) (by repeat (first | exact Fb.out | exact Below.refl _ _ | apply below_alloc)) hbl); clear Fb; have Fb := Fbn; clear Fbn)); (try (have HDn := Aside0.mk (hd_call (by first | exact HD.out | exact hd_alloc HD.out _) hbl); clear HD; have HD := HDn; clear HDn)); (try clear c0); (try have c0 := hd_key HD.out); clear hbl)
                    )
                  go_roundw
                  case rel => exact ⟨k + 1, HLT.out, by rw [hkw]; simp, HB⟩
                  case measure => (have h9 := HLT.out; rw [hkw]; clear hkw; show b.length - ((k : Int) + 1).toNat < b.length - (k : Int).toNat; omega)
              | true =>
                cases h3 : Op.bytesLess key.toList hi.toList with
                | false =>
                  rw [h1, h2, h3] at hE
                  have hq : ((k : Int) == ch) = true := hE.symm
                  clear hE
                  go_wp2_with (first
                    | ((go_at_call 27); (with_reducible refine (H27.out _ (by repeat (first | exact HB.out | exact Below.refl _ _ | apply below_alloc))).mono ?_); rintro e w9 ⟨rfl, hbl⟩; (try (have HBn := Aside0.mk (below_tr2 (w := w) (by repeat (first | exact HB.out | exact Below.refl _ _ | apply below_alloc)) hbl); clear HB; have HB := HBn; clear HBn)); (try (have Fan := Aside0.mk (below_tr2 (w := wa) (by repeat (first | exact Fa.out | exact Below.refl _ _ | apply below_alloc)) hbl); clear Fa; have Fa := Fan; clear Fan)); (try (have Fbn := Aside0.mk (below_tr2 (w := wb) (by repeat (first | exact Fb.out | exact Below.refl _ _ | apply below_alloc)) hbl); clear Fb; have Fb := Fbn; clear Fbn)); (try (have HDn := Aside0.mk (hd_call (by first | exact HD.out | exact hd_alloc HD.out _) hbl); clear HD; have HD := HDn; clear HDn)); (try clear c0); (try have c0 := hd_key HD.out); clear hbl)
                    )
                  go_roundw
                  case rel => exact ⟨k + 1, HLT.out, by rw [hkw]; simp, HB⟩
                  case measure => (have h9 := HLT.out; rw [hkw]; clear hkw; show b.length - ((k : Int) + 1).toNat < b.length - (k : Int).toNat; omega)
                | true =>
                  rw [h1, h2, h3] at hE
                  have hq : ((k : Int) == ch) = true := hE.symm
                  clear hE
                  go_wp2_with (first
                    | ((go_at_call 27); (with_reducible refine (H27.out _ (by repeat (first | exact HB.out | exact Below.refl _ _ | apply below_alloc))).mono ?_); rintro e w9 ⟨rfl, hbl⟩; (try (have HBn := Aside0.mk (below_tr2 (w := w) (by repeat (first | exact HB.out | exact Below.refl _ _ | apply below_alloc)) hbl); clear HB; have HB := HBn; clear HBn)); (try (have Fan := Aside0.mk (below_tr2 (w := wa) (by repeat (first | exact Fa.out | exact Below.refl _ _ | apply below_alloc)) hbl); clear Fa; have Fa := Fan; clear Fan)); (try (have Fbn := Aside0.mk (below_tr2 (w := wb) (by repeat (first | exact Fb.out | exact Below.refl _ _ | apply below_alloc)) hbl); clear Fb; have Fb := Fbn; clear Fbn)); (try (have HDn := Aside0.mk (hd_call (by first | exact HD.out | exact hd_alloc HD.out _) hbl); clear HD; have HD := HDn; clear HDn)); (try clear c0); (try have c0 := hd_key HD.out); clear hbl)
                    )
                  go_roundw
                  case rel => exact ⟨k + 1, HLT.out, by rw [hkw]; simp, HB⟩
                  case measure => (have h9 := HLT.out; rw [hkw]; clear hkw; show b.length - ((k : Int) + 1).toNat < b.length - (k : Int).toNat; omega)
            | true =>
              cases h2 : (hi.toList == ([] : List UInt8)) with
              | false =>
                cases h3 : Op.bytesLess key.toList hi.toList with
                | false =>
                  rw [h1, h2, h3] at hE
                  have hq : ((k : Int) == ch) = false := hE.symm
                  clear hE
                  go_wp2_with (first
                    | ((go_at_call 27); (with_reducible refine (H27.out _ (by repeat (first | exact HB.out | exact Below.refl _ _ | apply below_alloc))).mono ?_); rintro e w9 ⟨rfl, hbl⟩; (try (have HBn := Aside0.mk (below_tr2 (w := w) (by repeat (first | exact HB.out | exact Below.refl _ _ | apply below_alloc)) hbl); clear HB; have HB := HBn; clear HBn)); (try (have Fan := Aside0.mk (below_tr2 (w := wa) (by repeat (first | exact Fa.out | exact Below.refl _ _ | apply below_alloc)) hbl); clear Fa; have Fa := Fan; clear Fan)); (try (have Fbn := Aside0.mk (below_tr2 (w := wb) (by repeat (first | exact Fb.out | exact Below.refl _ _ | apply below_alloc)) hbl); clear Fb; have Fb := Fbn; clear Fbn)); (try (have HDn := Aside0.mk (hd_call (by first | exact HD.out | exact hd_alloc HD.out _) hbl); clear HD; have HD := HDn; clear HDn)); (try clear c0); (try have c0 := hd_key HD.out); clear hbl)
                    )
                  go_roundw
                  case rel => exact ⟨k + 1, HLT.out, by rw [hkw]; simp, HB⟩
                  case measure => (have h9 := HLT.out; rw [hkw]; clear hkw; show b.length - ((k : Int) + 1).toNat < b.length - (k : Int).toNat; omega)
                | true =>
                  rw [h1, h2, h3] at hE
                  have hq : ((k : Int) == ch) = false := hE.symm
                  clear hE
                  go_wp2_with (first
                    | ((go_at_call 27); (with_reducible refine (H27.out _ (by repeat (first | exact HB.out | exact Below.refl _ _ | apply below_alloc))).mono ?_); rintro e w9 ⟨rfl, hbl⟩; (try (have HBn := Aside0.mk (below_tr2 (w := w) (by repeat (first | exact HB.out | exact Below.refl _ _ | apply below_alloc)) hbl); clear HB; have HB := HBn; clear HBn)); (try (have Fan := Aside0.mk (below_tr2 (w := wa) (by repeat (first | exact Fa.out | exact Below.refl _ _ | apply below_alloc)) hbl); clear Fa; have Fa := Fan; clear Fan)); (try (have Fbn := Aside0.mk (below_tr2 (w := wb) (by repeat (first | exact Fb.out | exact Below.refl _ _ | apply below_alloc)) hbl); clear Fb; have Fb := Fbn; clear Fbn)); (try (have HDn := Aside0.mk (hd_call (by first | exact HD.out | exact hd_alloc HD.out _) hbl); clear HD; have HD := HDn; clear HDn)); (try clear c0); (try have c0 := hd_key HD.out); clear hbl)
                    )
                  go_roundw
                  case rel => exact ⟨k + 1, HLT.out, by rw [hkw]; simp, HB⟩
                  case measure => (have h9 := HLT.out; rw [hkw]; clear hkw; show b.length - ((k : Int) + 1).toNat < b.length - (k : Int).toNat; omega)
              | true =>
                cases h3 : Op.bytesLess key.toList hi.toList with
                | false =>
                  rw [h1, h2, h3] at hE
                  have hq : ((k : Int) == ch) = false := hE.symm
                  clear hE
                  go_wp2_with (first
                    | ((go_at_call 27); (with_reducible refine (H27.out _ (by repeat (first | exact HB.out | exact Below.refl _ _ | apply below_alloc))).mono ?_); rintro e w9 ⟨rfl, hbl⟩; (try (have HBn := Aside0.mk (below_tr2 (w := w) (by repeat (first | exact HB.out | exact Below.refl _ _ | apply below_alloc)) hbl); clear HB; have HB := HBn; clear HBn)); (try (have Fan := Aside0.mk (below_tr2 (w := wa) (by repeat (first | exact Fa.out | exact Below.refl _ _ | apply below_alloc)) hbl); clear Fa; have Fa := Fan; clear Fan)); (try (have Fbn := Aside0.mk (below_tr2 (w := wb) (by repeat (first | exact Fb.out | exact Below.refl _ _ | apply below_alloc)) hbl); clear Fb; have Fb := Fbn; clear Fbn)); (try (have HDn := Aside0.mk (hd_call (by first | exact HD.out | exact hd_alloc HD.out _) hbl); clear HD; have HD := HDn; clear HDn)); (try clear c0); (try have c0 := hd_key HD.out); clear hbl)
                    )
                  go_roundw
                  case rel => exact ⟨k + 1, HLT.out, by rw [hkw]; simp, HB⟩
                  case measure => (have h9 := HLT.out; rw [hkw]; clear hkw; show b.length - ((k : Int) + 1).toNat < b.length - (k : Int).toNat; omega)
                | true =>
                  rw [h1, h2, h3] at hE
                  have hq : ((k : Int) == ch) = false := hE.symm
                  clear hE
                  go_wp2_with (first
                    | ((go_at_call 27); (with_reducible refine (H27.out _ (by repeat (first | exact HB.out | exact Below.refl _ _ | apply below_alloc))).mono ?_); rintro e w9 ⟨rfl, hbl⟩; (try (have HBn := Aside0.mk (below_tr2 (w := w) (by repeat (first | exact HB.out | exact Below.refl _ _ | apply below_alloc)) hbl); clear HB; have HB := HBn; clear HBn)); (try (have Fan := Aside0.mk (below_tr2 (w := wa) (by repeat (first | exact Fa.out | exact Below.refl _ _ | apply below_alloc)) hbl); clear Fa; have Fa := Fan; clear Fan)); (try (have Fbn := Aside0.mk (below_tr2 (w := wb) (by repeat (first | exact Fb.out | exact Below.refl _ _ | apply below_alloc)) hbl); clear Fb; have Fb := Fbn; clear Fbn)); (try (have HDn := Aside0.mk (hd_call (by first | exact HD.out | exact hd_alloc HD.out _) hbl); clear HD; have HD := HDn; clear HDn)); (try clear c0); (try have c0 := hd_key HD.out); clear hbl)
                    )
                  go_roundw
                  case rel => exact ⟨k + 1, HLT.out, by rw [hkw]; simp, HB⟩
                  case measure => (have h9 := HLT.out; rw [hkw]; clear hkw; show b.length - ((k : Int) + 1).toNat < b.length - (k : Int).toNat; omega)
          · obtain rfl : k = b.length := by omega
            clear hlt hk
            go_wp2_with (first
              | ((go_at_call 15); (with_reducible refine (HSANE.out _ (by repeat (first | exact HB.out | exact Below.refl _ _ | apply below_alloc))).mono ?_); rintro e w9 ⟨rfl, hbl⟩; (try (have HBn := Aside0.mk (below_tr2 (w := w) (by repeat (first | exact HB.out | exact Below.refl _ _ | apply below_alloc)) hbl); clear HB; have HB := HBn; clear HBn)); (try (have Fan := Aside0.mk (below_tr2 (w := wa) (by repeat (first | exact Fa.out | exact Below.refl _ _ | apply below_alloc)) hbl); clear Fa; have Fa := Fan; clear Fan)); (try (have Fbn := Aside0.mk (below_tr2 (w := wb) (by repeat (first | exact Fb.out | exact Below.refl _ _ | apply below_alloc)) hbl); clear Fb; have Fb := Fbn; clear Fbn)); (try (have HDn := Aside0.mk (hd_call (by first | exact HD.out | exact hd_alloc HD.out _) hbl); clear HD; have HD := HDn; clear HDn)); (try clear c0); (try have c0 := hd_key HD.out); clear hbl)
              )
            go_ret
            exact ⟨rfl, HB.out⟩
end Go.Proofs.Ytalncokpbgbccaa.E

/- NodeFinds, joined: whatever the entries, it returns true. -/
namespace Go.Proofs.Ytalncokpbgbccaa.E
set_option linter.unusedVariables false
set_option linter.unusedSimpArgs false
open Go.RowKit Go.Proofs.YtalncokpbgbccaaW.PrintWords Go.Proofs.YtalncokpbgbccaaW.PrintLast Go.Proofs.YtalncokpbgbccaaW.PrintMore
theorem ord_go2 (l : List S77) (level : Int) (hl : l.length ≤ 1000000) : ∀ m i, i + m = l.length → ∃ k, understoryref06_Ordered.l0 k l level i = some ((List.range' i m).all (okAt l level))
  | 0, i, h => ⟨1, by rw [understoryref06_Ordered.l0, if_neg (by omega)]; rfl⟩
  | m + 1, i, h => by
    obtain ⟨k, hk⟩ := ord_go2 l level hl m (i + 1) (by omega)
    have e : rd_T77 l i = l.getD i z77 := by simp [rd_T77]
    rw [List.range'_succ, List.all_cons]
    have hF : ∀ (hn : ¬ (level > 0 ∧ i = 0)), ∃ k, understoryref06_Ordered.j1 k l level i (rd_T77 l i).f0 false = some (okAt l level i && (List.range' (i + 1) m).all (okAt l level)) := by
      intro hn
      rw [okAt, if_neg hn, e]
      by_cases h1 : ((l.getD i z77).f0.size : Int) < 1
      · exact ⟨1, by rw [understoryref06_Ordered.j1, if_neg (by decide), if_pos h1, decide_eq_false (by omega)]; rfl⟩
      rw [decide_eq_true (show 1 ≤ (l.getD i z77).f0.size by omega)]
      by_cases h2 : ((l.getD i z77).f0.size : Int) > 48
      · exact ⟨1, by rw [understoryref06_Ordered.j1, if_neg (by decide), if_neg h1, if_pos h2, decide_eq_false (by omega)]; rfl⟩
      rw [decide_eq_true (show (l.getD i z77).f0.size ≤ 48 by omega)]
      by_cases h3 : (i : Int) > 0
      · have hw : wrap64 ((i : Int) - 1) = ((i - 1 : Nat) : Int) := by rw [w64 _ (by omega) (by omega)]; omega
        have e1 : rd_T77 l ((i - 1 : Nat) : Int) = l.getD (i - 1) z77 := by simp [rd_T77]
        rw [decide_eq_false (show ¬ i = 0 by omega)]
        by_cases h4 : Op.bytesLess (l.getD (i - 1) z77).f0.toList (l.getD i z77).f0.toList = true
        · refine ⟨k + 1, ?_⟩
          rw [understoryref06_Ordered.j1, if_neg (by decide), if_neg h1, if_neg h2, if_pos h3, hw, e1, if_pos (by omega), if_pos (by omega), if_pos h4, wsuc i (by omega), hk, h4]; rfl
        · refine ⟨1, ?_⟩
          rw [understoryref06_Ordered.j1, if_neg (by decide), if_neg h1, if_neg h2, if_pos h3, hw, e1, if_pos (by omega), if_pos (by omega), if_neg h4]
          have h5 := h4
          rw [Bool.not_eq_true] at h5
          rw [h5]; rfl
      · refine ⟨k + 1, ?_⟩
        rw [decide_eq_true (show i = 0 by omega), understoryref06_Ordered.j1, if_neg (by decide), if_neg h1, if_neg h2, if_neg h3, wsuc i (by omega), hk]; rfl
    by_cases h0 : (i : Int) = 0
    · by_cases hp : level > 0
      · have hi : i = 0 := by omega
        by_cases h5 : (rd_T77 l i).f0.toList = ([] : List UInt8)
        · refine ⟨k + 2, ?_⟩
          rw [understoryref06_Ordered.l0, if_pos (by omega), if_pos (by omega), if_pos h0, understoryref06_Ordered.j1, if_pos (decide_eq_true hp), if_pos h5, wsuc i (by omega), hk, okAt, if_pos ⟨hp, hi⟩, ← e, h5]
          rfl
        · refine ⟨2, ?_⟩
          rw [understoryref06_Ordered.l0, if_pos (by omega), if_pos (by omega), if_pos h0, understoryref06_Ordered.j1, if_pos (decide_eq_true hp), if_neg h5, okAt, if_pos ⟨hp, hi⟩, ← e]
          cases hq : (rd_T77 l i).f0.toList with
          | nil => exact absurd hq h5
          | cons a b => rfl
      · obtain ⟨k2, hk2⟩ := hF (by omega)
        exact ⟨k2 + 1, by rw [understoryref06_Ordered.l0, if_pos (by omega), if_pos (by omega), if_pos h0, decide_eq_false hp]; exact hk2⟩
    · obtain ⟨k2, hk2⟩ := hF (by omega)
      exact ⟨k2 + 1, by rw [understoryref06_Ordered.l0, if_pos (by omega), if_pos (by omega), if_neg h0]; exact hk2⟩
/-- the reference's Ordered says what the program's says -/
theorem ordered_eq2 (l : List S77) (level : Int) (hl : l.length ≤ 1000000) : ∃ k, understoryref06_Ordered.f k l level = some (ordL l level) := by
  obtain ⟨k, hk⟩ := ord_go2 l level hl _ 0 (Nat.zero_add _)
  rw [← List.range_eq_range'] at hk
  refine ⟨k, ?_⟩
  unfold understoryref06_Ordered.f understoryref06_inLevel.f ordL inB
  by_cases h0 : level ≥ 0
  · rw [if_pos h0, decide_eq_true (show 0 ≤ level from h0)]
    by_cases h1 : level ≤ 20
    · rw [decide_eq_true h1]; simpa using hk
    · rw [decide_eq_false h1]; simp
  · rw [if_neg h0, decide_eq_false (show ¬ 0 ≤ level from h0)]; simp
/-- the bounds of a child -/
def loB (b : List S77) (k : Nat) : ByteArray := if 0 < k then (b.getD k z77).f0 else ⟨#[]⟩
def hiB (b : List S77) (k : Nat) : ByteArray := if k + 1 < b.length then (b.getD (k + 1) z77).f0 else ⟨#[]⟩
theorem bounds_val (b : List S77) (k : Nat) (hk : k < b.length) (hl : b.length ≤ 1000000) : node_Bounds.f 1 b (k : Int) ⟨#[]⟩ ⟨#[]⟩ = some (loB b k, hiB b k, 0) := by
  have e : ∀ i : Nat, rd_T77 b (i : Int) = b.getD i z77 := fun i => by simp [rd_T77]
  unfold node_Bounds.f
  rw [if_neg (by omega), decide_eq_false (show ¬ (k : Int) ≥ (b.length : Int) by omega), node_Bounds.j0, wsuc k (by omega), e, e]
  simp only [Bool.false_eq_true, if_false]
  unfold loB hiB
  by_cases h0 : 0 < k
  · rw [if_pos (by omega), if_pos (by omega), if_pos (by omega), if_pos h0]
    by_cases h1 : k + 1 < b.length
    · rw [if_pos (by omega), if_pos (by omega), if_pos h1]
    · rw [if_neg (by omega), if_neg h1]
  · rw [if_neg (by omega), if_neg h0]
    by_cases h1 : k + 1 < b.length
    · rw [if_pos (by omega), if_pos (by omega), if_pos h1]
    · rw [if_neg (by omega), if_neg h1]
theorem nil_list : (⟨#[]⟩ : ByteArray).toList = [] := toList_ofL []
theorem child_in (b : List S77) (level : Int) (key : ByteArray) (hb : ordL b level = true) (hl : b.length ≤ 100) (k : Nat) (hk : k < b.length) :
    ((!Op.bytesLess key.toList (loB b k).toList) && (((hiB b k).toList == ([] : List UInt8)) || Op.bytesLess key.toList (hiB b k).toList)) = ((k : Int) == childI b key) := by
  have hi := ord_incL hl hb
  have hd : (b.drop 1).length = b.length - 1 := by simp
  have hq : ∀ j, q65 (b.drop 1) key j = Op.bytesLess key.toList (b.getD (1 + j) z77).f0.toList := fun j => by simp only [q65, List.getD, List.getElem?_drop]
  have hs := bsF_spec (q65 (b.drop 1) key) (b.length - 1) (fun i j hij hj hp => by
    by_cases e : i = j
    · subst e; exact hp
    simp only [hq] at hp ⊢
    have := inc_lt hi (1 + i) (j - i) (by omega) (by omega)
    rw [show 1 + i + (j - i) = 1 + j by omega] at this
    exact less_tr _ _ _ hp this) (b.length - 1) 0 (b.length - 1) (Nat.zero_le _) (Nat.le_refl _) (by omega) (fun i hi => by omega) (fun i h1 h2 => by omega)
  have hle := bsF_le (q65 (b.drop 1) key) (b.length - 1) 0 (b.length - 1) (Nat.zero_le _)
  rw [childI, if_neg (by omega), hd]
  generalize bsF (q65 (b.drop 1) key) (b.length - 1) 0 (b.length - 1) = c at hs hle
  obtain ⟨h1, h2⟩ := hs
  have hsz : ∀ j, 0 < j → j < b.length → (b.getD j z77).f0.toList ≠ [] := by
    intro j h0 hj e
    have ho : okAt b level j = true := by
      unfold ordL at hb
      rw [Bool.and_eq_true, List.all_eq_true] at hb
      exact hb.2 j (by simpa using hj)
    have := (okAt_iff (level := level) (i := j) (fun e => by omega)).mp ho
    have e2 : (b.getD j z77).f0 = ⟨#[]⟩ := ba_inj (by rw [e, nil_list])
    rw [e2] at this
    exact absurd this.1 (by decide)
  have hlo : Op.bytesLess key.toList (loB b k).toList = decide (c < k) := by
    unfold loB
    by_cases h0 : 0 < k
    · rw [if_pos h0]
      by_cases hck : c < k
      · rw [decide_eq_true hck]
        have := h2 (k - 1) (by omega) (by omega)
        rw [hq, show 1 + (k - 1) = k by omega] at this
        exact this
      · rw [decide_eq_false hck]
        have := h1 (k - 1) (by omega)
        rw [hq, show 1 + (k - 1) = k by omega] at this
        exact this
    · rw [if_neg h0, decide_eq_false (by omega), nil_list]
      cases h : Op.bytesLess key.toList [] with
      | false => rfl
      | true => exact (less_nil2 _ h).elim
  have hhi : (((hiB b k).toList == ([] : List UInt8)) || Op.bytesLess key.toList (hiB b k).toList) = decide (c ≤ k) := by
    unfold hiB
    by_cases h0 : k + 1 < b.length
    · rw [if_pos h0]
      have e1 : ((b.getD (k + 1) z77).f0.toList == ([] : List UInt8)) = false := by
        cases h : ((b.getD (k + 1) z77).f0.toList == ([] : List UInt8)) with
        | false => rfl
        | true => exact absurd (beq_iff_eq.mp h) (hsz (k + 1) (by omega) h0)
      rw [e1, Bool.false_or]
      by_cases hck : c ≤ k
      · rw [decide_eq_true hck]
        have := h2 k hck (by omega)
        rw [hq, show 1 + k = k + 1 by omega] at this
        exact this
      · rw [decide_eq_false hck]
        have := h1 k (by omega)
        rw [hq, show 1 + k = k + 1 by omega] at this
        exact this
    · rw [if_neg h0, nil_list, decide_eq_true (by omega)]
      rfl
  rw [hlo, hhi]
  by_cases h3 : c < k
  · rw [decide_eq_true h3]
    exact (beq_eq_false_iff_ne.mpr (by omega)).symm
  · rw [decide_eq_false h3]
    by_cases h4 : c ≤ k
    · rw [decide_eq_true h4]
      exact (beq_iff_eq.mpr (by omega)).symm
    · rw [decide_eq_false h4]
      exact (beq_eq_false_iff_ne.mpr (by omega)).symm
theorem ord_any (X : List S77) (hX : X.length ≤ 1000000) (ho : ordL X 0 = true) (W : World) (A1 : Option Addr) (c1 : Nat) (hC : Kd.C k77 W A1 X.length X) (hc : X.length ≤ c1) : Calls Try.prog 16 #[.slice A1 X.length c1, .int .i64 0] W fun e w2 => e = .returned (.bool true) ∧ Below W.heap.size W w2 := by
  obtain ⟨k, e⟩ := ordered_eq2 X 0 hX
  rw [ho] at e
  exact (understoryref06_Ordered.calls k A1 c1 X 0 _ W hC hc e).mono fun e w2 ⟨e1, n, b2⟩ => ⟨e1, by rw [b2]; exact pw_below_drewN (Below.refl _ _) _⟩
theorem search_any (X : List S77) (hX : X.length ≤ 1000000) (key : ByteArray) (W : World) (A1 : Option Addr) (c1 : Nat) (hC : Kd.C k77 W A1 X.length X) : Calls Try.prog 25 #[.slice A1 X.length c1, .string key] W fun e w2 => e = .returned (.tuple #[.int .i64 (searchP X key : Int), .bool (searchB X key)]) ∧ Below W.heap.size W w2 := search_c X A1 c1 key W hC hX
theorem finds_c (l b : List S77) (A B : Option Addr) (c d : Nat) (x : S77) (key : ByteArray) (level : Int) (w : World) (hr : Kd.C k77 w A l.length l) (hc : l.length ≤ c) (hb : Kd.C k77 w B b.length b) (hd : b.length ≤ d) :
    Calls Try.prog 11 #[.slice A l.length c, .slice B b.length d, .agg (entC x), .string key, .int .i64 level] w fun e w' => e = .returned (.bool true) ∧ Below w.heap.size w w' := by
  obtain ⟨v, hf, HF⟩ := few_three l b x
  have HFEW := Aside0.mk (HF w A c B d hr hc hb hd)
  have HS := Aside0.mk (show Say w 15 #[] (.bool true) from fun w1 _ => sane_c w1)
  cases v with
  | false => exact finds_1 l b A B c d x key level w HS HFEW
  | true =>
  by_cases hk : 100 < key.size
  · exact finds_2 l b A B c d x key level w HS HFEW hk
  obtain ⟨f1, f2, f3⟩ := hf rfl
  have hl := f1.1
  have hbl := f2.1
  obtain ⟨k0, e0⟩ := ordered_eq l 0 hl
  obtain ⟨k1, e1⟩ := ordered_eq b level hbl
  have H16 := Aside0.mk (say_drawn (w := w) fun w1 q => understoryref06_Ordered.calls k0 A c l 0 _ w1 (Kd.C_below hr q) hc e0)
  have HOB := Aside0.mk (say_drawn (w := w) fun w1 q => understoryref06_Ordered.calls k1 B d b level _ w1 (Kd.C_below hb q) hd e1)
  have hp2 : level < 1 ∨ (¬ level < 1 ∧ ordL b level = false) ∨ (¬ level < 1 ∧ ordL b level = true ∧ b.length = 0) ∨ (¬ level < 1 ∧ ordL b level = true ∧ ¬ b.length = 0) := by
    by_cases h1 : level < 1
    · exact Or.inl h1
    · cases ho : ordL b level with
      | false => exact Or.inr (Or.inl ⟨h1, rfl⟩)
      | true =>
        by_cases h0 : b.length = 0
        · exact Or.inr (Or.inr (Or.inl ⟨h1, rfl, h0⟩))
        · exact Or.inr (Or.inr (Or.inr ⟨h1, rfl, h0⟩))
  have H26 := Aside0.mk (show Say w 26 #[.slice B b.length d, .string key] _ from fun w1 q => child_c b B d key w1 (Kd.C_below hb q) hd (by omega))
  have HBD := Aside0.mk (fun (_ : ¬ level < 1) (ho : ordL b level = true) (k : Nat) (hkb : k < b.length) => (⟨loB b k, hiB b k, say_drawn (w := w) fun w1 q => node_Bounds.calls 1 B d b k _ _ _ _ _ w1 (Kd.C_below hb q) hd (bounds_val b k hkb (by omega)), child_in b level key ho hbl k hkb⟩ : ∃ lo hi : ByteArray, (Say w 27 #[.slice B b.length d, .int .i64 (k : Int), .string ⟨#[]⟩, .string ⟨#[]⟩] (.tuple #[.string lo, .string hi, .int .i64 0])) ∧ ((!Op.bytesLess key.toList lo.toList) && ((hi.toList == ([] : List UInt8)) || Op.bytesLess key.toList hi.toList)) = ((k : Int) == childI b key)))
  cases ho : ordL l 0 with
  | false => rw [ho] at H16; exact finds_3 l b A B c d x key level w HS HFEW hk H16 (ordL b level) (childI b key) hp2 (by omega) HOB H26 HBD
  | true =>
  rw [ho] at H16
  by_cases hs : x.f0.size < 1
  · exact finds_4 l b A B c d x key level w HS HFEW hk H16 hs (ordL b level) (childI b key) hp2 (by omega) HOB H26 HBD
  by_cases hs2 : 48 < x.f0.size
  · exact finds_5 l b A B c d x key level w HS HFEW hk H16 hs hs2 (ordL b level) (childI b key) hp2 (by omega) HOB H26 HBD
  have hi := (ord_leaf.mp ho).1
  have hip := put_inc hi x
  have hid := drop_inc hi key
  have hpl := leafPut_len l x
  have hdl := leafDrop_len l key
  have hx := mem_found hip ((mem_put hi x x).mpr (Or.inl rfl))
  refine finds_6 l b A B c d x key level w HS HFEW hk H16 hs hs2 (ordL b level) (childI b key) hp2 (by omega) HOB H26 HBD (leafPut l x) (leafDrop l key) (searchB l key) (searchP l key) (searchP (leafDrop l key) key) (searchP (leafPut l x) x.f0) (searchB_lt hx.1) hx.2 (by omega) (by omega) hr
    ⟨fun w1 q => putE_c l x A c w1 (Kd.C_below hr q) (by omega)⟩ ⟨fun w1 q => dropE_c l key A c w1 (Kd.C_below hr q) (by omega)⟩ ⟨fun w1 q => search_c l A c key w1 (Kd.C_below hr q) (by omega)⟩
    ⟨fun W A1 c1 hC => ?_⟩ ⟨fun W A1 c1 hC => ?_⟩ ⟨ord_any _ (by omega) (put_ord ho x (by omega) (by omega))⟩ ⟨ord_any _ (by omega) (drop_ord ho key)⟩ ⟨fun k hkl => ?_⟩
  · have h := search_any (leafPut l x) (by omega) x.f0 W A1 c1 hC
    rw [hx.1] at h
    exact h
  · have h := search_any (leafDrop l key) (by omega) key W A1 c1 hC
    rw [drop_gone hi key] at h
    exact h
  · obtain ⟨z, hz⟩ : ∃ z, l.getD k z77 = z := ⟨_, rfl⟩
    have hzl : z ∈ l := by rw [← hz, getD_at l k hkl]; exact List.getElem_mem _
    rw [hz]
    have hfp : searchB (leafPut l x) z.f0 = true ∧ (z.f0 ≠ x.f0 → (leafPut l x).getD (searchP (leafPut l x) z.f0) z77 = z) := by
      by_cases he : z.f0 = x.f0
      · rw [he]; exact ⟨hx.1, fun h => absurd rfl h⟩
      · have := mem_found hip ((mem_put hi x z).mpr (Or.inr ⟨hzl, he⟩))
        exact ⟨this.1, fun _ => this.2⟩
    have hfd : searchB (leafDrop l key) z.f0 = (!(z.f0.toList == key.toList)) := by
      by_cases he : z.f0 = key
      · rw [he, drop_gone hi key]; simp
      · have h1 := (mem_found hid ((mem_drop hi key z).mpr ⟨hzl, he⟩)).1
        have h2 : (z.f0.toList == key.toList) = false := by
          cases h : (z.f0.toList == key.toList) with
          | false => rfl
          | true => exact absurd (ba_inj (beq_iff_eq.mp h)) he
        rw [h1, h2]; rfl
    refine ⟨searchP (leafPut l x) z.f0, searchP (leafDrop l key) z.f0, _, searchB_lt hfp.1, hfp.2, rfl, fun W A1 c1 hC => ?_, fun W A1 c1 hC => ?_⟩
    · have h := search_any (leafPut l x) (by omega) z.f0 W A1 c1 hC
      rw [hfp.1] at h
      exact h
    · have h := search_any (leafDrop l key) (by omega) z.f0 W A1 c1 hC
      rw [hfd] at h
      exact h
end Go.Proofs.Ytalncokpbgbccaa.E

