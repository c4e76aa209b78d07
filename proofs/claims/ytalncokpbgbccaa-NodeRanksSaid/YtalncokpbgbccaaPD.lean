/- NodeRanks, the walk where the rank is in range. -/
import Derived.Test.YtalncokpbgbccaaPC
namespace Go.Proofs.Ytalncokpbgbccaa.E
set_option linter.unusedVariables false
set_option linter.unusedSimpArgs false
open Go.RowKit Go.Proofs.YtalncokpbgbccaaW.PrintWords Go.Proofs.YtalncokpbgbccaaW.PrintLast Go.Proofs.YtalncokpbgbccaaW.PrintMore
def rg8_12_T : Bool × List (List Nat × List Nat) := (true, [([], []), ([], []), ([], []), ([1, 2], [1, 2]), ([], []), ([], []), ([4, 5], [4, 5]), ([6], [6]), ([7], [7]), ([3, 8], [3, 8]), ([9], [9]), ([0, 10, 3], [0, 10]), ([11], [11]), ([12], [12]), ([12], [12]), ([12], [12]), ([13, 11, 0, 1, 2, 3, 4, 5, 6, 7, 8, 9, 10, 11, 12, 13], [13]), ([14, 16, 0, 1, 2, 3, 4, 5, 6, 7, 8, 9, 10, 11, 12, 13, 14, 16], [14]), ([15, 17, 0, 1, 2, 3, 4, 5, 6, 7, 8, 9, 10, 11, 12, 13, 14, 15, 16, 17], [15])])
def rg8_12_B : List Nat := [0, 0, 0, 6, 0, 0, 48, 112, 240, 510, 1022, 2047, 4095, 8191, 8191, 8191, 16383, 98303, 262143]
theorem rg8_12_tab : rtab .any (opsOf Try.f8 12) = rg8_12_T := by kernel_rfl
theorem rg8_12_bits : waitsOk rg8_12_T.2 rg8_12_B = true := by kernel_rfl
set_option maxRecDepth 100000 in
set_option maxHeartbeats 4000000 in
theorem ranks_6 (ad : Addr) (n c : Nat) (p : Int) (w : World) (S F U V R : Nat → Int) (i : Nat) (r : Int) (hi : i < n) (hn : n ≤ 100)
    (HSANE : Aside0 (Ans w 15 #[] (.bool true))) (HFEW : Aside0 (Ans1 w (some ad) n c true)) (HORD : Aside0 (Ans w 16 #[.slice (some ad) n c, .int .i64 1] (.bool true))) (HCNT : Aside0 (Ans w 17 #[.slice (some ad) n c] (.bool true)))
    (HLOC : Aside0 (Ans w 29 #[.slice (some ad) n c, .int .i64 p] (.tuple #[.int .i64 (i : Int), .int .i64 r, .int .i64 0])))
    (HBEF : Aside0 (∀ k : Nat, k ≤ n → Ans w 28 #[.slice (some ad) n c, .int .i64 (k : Int)] (.int .i64 (S k))))
    (HF : Aside0 (∀ k : Nat, k < n → ∀ W, Below w.heap.size w W → W.cell? ⟨(ad.add (k * 22)).block, (ad.add (k * 22)).off + 5, none⟩ = some (.int .i64 (F k))))
    (HLK : Aside0 (∀ k : Nat, k < n → Ans w 29 #[.slice (some ad) n c, .int .i64 (V k)] (.tuple #[.int .i64 (k : Int), .int .i64 (R k), .int .i64 0])))
    (HW : Aside0 (∀ k : Nat, k < n → wrap64 (S k + F k) = U k ∧ wrap64 (U k - 1) = V k ∧ wrap64 (F k - 1) = R k))
    (hp0 : decide (p < 0) = false) (hm : decide (S n ≤ p) = false) (hr0 : decide (r < 0) = false) (hr1 : decide (F i ≤ r) = false) (hq : wrap64 (S i + r) = p) :
    Calls Try.prog 8 #[.slice (some ad) n c, .int .i64 p] w fun e w' => e = .returned (.bool true) ∧ Below w.heap.size w w' := by
  have hi0 : decide ((i : Int) < 0) = false := decide_eq_false (by omega)
  have hi1 : decide ((n : Int) ≤ (i : Int)) = false := decide_eq_false (by omega)
  have hi2 : (i : Int) < (n : Int) := by omega
  have hi3 : (0 : Int) ≤ (i : Int) := by omega
  obtain ⟨m, hmm⟩ : ∃ m, S n = m := ⟨_, rfl⟩
  rw [hmm] at hm
  obtain ⟨s, hss⟩ : ∃ s, S i = s := ⟨_, rfl⟩
  rw [hss] at hq
  obtain ⟨f, hff⟩ : ∃ f, F i = f := ⟨_, rfl⟩
  rw [hff] at hr1
  have HBN := Aside0.mk (show Ans w 28 #[.slice (some ad) n c, .int .i64 (n : Int)] (.int .i64 m) by have := HBEF.out n (Nat.le_refl _); rwa [hmm] at this)
  have HBI := Aside0.mk (show Ans w 28 #[.slice (some ad) n c, .int .i64 (i : Int)] (.int .i64 s) by have := HBEF.out i (by omega); rwa [hss] at this)
  have HFI := Aside0.mk (fun W (hb : Below w.heap.size w W) => (show W.cell? ⟨(ad.add (i * 22)).block, (ad.add (i * 22)).off + 5, none⟩ = some (.int .i64 f) by have := HF.out i hi W hb; rwa [hff] at this))
  clear hmm hss hff
  go_enter Try.func8, Try.ntmps8
  go_wp2_with (first
    | ((go_at_call 14); (with_reducible refine (HFEW.out _ _ (by repeat (first | exact HB.out | exact Below.refl _ _ | apply below_alloc | apply pw_below_drewN | apply below_drew1)) ?hg).mono ?_); (case hg => first | exact blk_new _ _ | exact heap_alloc_new _ _); rintro e w9 ⟨rfl, hb9⟩; (try clear HB); have HB := Aside0.mk hb9; clear hb9)
    | ((go_at_call 16); (with_reducible refine (HORD.out _ (by repeat (first | exact HB.out | exact Below.refl _ _ | apply below_alloc | apply pw_below_drewN | apply below_drew1))).mono ?_); rintro e w9 ⟨rfl, hb9⟩; (try clear HB); have HB := Aside0.mk hb9; clear hb9)
    | ((go_at_call 17); (with_reducible refine (HCNT.out _ (by repeat (first | exact HB.out | exact Below.refl _ _ | apply below_alloc | apply pw_below_drewN | apply below_drew1))).mono ?_); rintro e w9 ⟨rfl, hb9⟩; (try clear HB); have HB := Aside0.mk hb9; clear hb9)
    | ((go_at_call 29); (with_reducible refine (HLOC.out _ (by repeat (first | exact HB.out | exact Below.refl _ _ | apply below_alloc | apply pw_below_drewN | apply below_drew1))).mono ?_); rintro e w9 ⟨rfl, hb9⟩; (try clear HB); have HB := Aside0.mk hb9; clear hb9)
    | ((go_at_call 28); (with_reducible refine (HBN.out _ (by repeat (first | exact HB.out | exact Below.refl _ _ | apply below_alloc | apply pw_below_drewN | apply below_drew1))).mono ?_); rintro e w9 ⟨rfl, hb9⟩; (try clear HB); have HB := Aside0.mk hb9; clear hb9; have hxi := HFI.out _ HB.out)
    | ((go_at_call 28); (with_reducible refine (HBI.out _ (by repeat (first | exact HB.out | exact Below.refl _ _ | apply below_alloc | apply pw_below_drewN | apply below_drew1))).mono ?_); rintro e w9 ⟨rfl, hb9⟩; (try clear HB); have HB := Aside0.mk hb9; clear hb9))
  clear hxi
  go_loopw [9] (fun v wr => ∃ k : Nat, k ≤ n ∧ v = .int .i64 (k : Int) ∧ Aside0 (Below w.heap.size w wr)) (fun v _ => n - (intOf v).toNat)
  case atStart => exact ⟨0, by omega, by simp, HB⟩
  case round =>
    obtain ⟨k, hk, rfl, HWr⟩ := hrel
    by_cases hlt : k < n
    · have HFk := Aside0.mk (HF.out k hlt)
      obtain ⟨f1, hf1⟩ : ∃ f1, F k = f1 := ⟨_, rfl⟩
      obtain ⟨hw1, hw2, hw3⟩ := HW.out k hlt
      rw [hf1] at HFk hw1 hw3
      clear hf1
      obtain ⟨s1, hs1⟩ : ∃ s1, S k = s1 := ⟨_, rfl⟩
      have HBk := Aside0.mk (show Ans w 28 #[.slice (some ad) n c, .int .i64 (k : Int)] (.int .i64 s1) by have := HBEF.out k (by omega); rwa [hs1] at this)
      rw [hs1] at hw1
      clear hs1
      have HLk := Aside0.mk (HLK.out k hlt)
      generalize U k = u1 at hw1 hw2
      generalize V k = v1 at hw2 HLk
      generalize R k = r1 at hw3 HLk
      have hv1 : IntKind.i64.wrap (s1 + f1) = u1 := by rw [i64_w]; exact hw1
      have hv2 : IntKind.i64.wrap (u1 - 1) = v1 := by rw [i64_w]; exact hw2
      have hv3 : IntKind.i64.wrap (f1 - 1) = r1 := by rw [i64_w]; exact hw3
      have hk1 : (k : Int) < (n : Int) := by omega
      have hk2 : (0 : Int) ≤ (k : Int) := by omega
      have hkw : wrap64 ((k : Int) + 1) = (k : Int) + 1 := w64 _ (by omega) (by omega)
      go_wp2_with fail
      refine start_ (n := 19) (S := fun W => Below w.heap.size w W) (ds := []) #[false, false, false, false, false, false, false, false, false, false, false, false, false, false, false, false, false, false, false] (by kernel_rfl) rfl rfl (below_drew1 HWr.out) (fun hHeld => ?_)
      refine with_tabW rg8_12_tab rg8_12_bits (fun HT_ HW_ => ?_)
      have GW := Aside0.mk (below_drew1 HWr.out)
      generalize wr.drew = w1 at GW hHeld ⊢
      refine pure_ (i := 0) (N := some 98) (v := ?_) (a' := ?_) #[true, false, false, false, false, false, false, false, false, false, false, false, false, false, false, false, false, false, false] rfl rfl (any_of HT_.out (by kernel_rfl)) (fun _ _ _ h => h) (Or.inl ⟨by rfl, ?_⟩) ?_ ?_
      rotate_left
      · intro w'
        go_simp
        with_reducible rfl
      rotate_left
      · simp only [Act.put, List.setIfInBounds_toArray, List.set_cons_zero, List.set_cons_succ, i64_w, i32_w]
        rfl
      refine pure_ (i := 1) (N := some 99) (v := ?_) (a' := ?_) #[true, true, false, false, false, false, false, false, false, false, false, false, false, false, false, false, false, false, false] rfl rfl (any_of HT_.out (by kernel_rfl)) (fun _ _ _ h => h) (Or.inl ⟨by rfl, ?_⟩) ?_ ?_
      rotate_left
      · intro w'
        go_simp
        with_reducible rfl
      rotate_left
      · simp only [Act.put, List.setIfInBounds_toArray, List.set_cons_zero, List.set_cons_succ, i64_w, i32_w]
        rfl
      refine pure_ (i := 2) (N := some 100) (v := ?_) (a' := ?_) #[true, true, true, false, false, false, false, false, false, false, false, false, false, false, false, false, false, false, false] rfl rfl (any_of HT_.out (by kernel_rfl)) (fun _ _ _ h => h) (Or.inl ⟨by rfl, ?_⟩) ?_ ?_
      rotate_left
      · intro w'
        go_simp
        with_reducible rfl
      rotate_left
      · simp only [Act.put, List.setIfInBounds_toArray, List.set_cons_zero, List.set_cons_succ, i64_w, i32_w]
        rfl
      refine pure_ (i := 4) (N := some 102) (v := ?_) (a' := ?_) #[true, true, true, false, true, false, false, false, false, false, false, false, false, false, false, false, false, false, false] rfl rfl (any_of HT_.out (by kernel_rfl)) (fun _ _ _ h => h) (Or.inl ⟨by rfl, ?_⟩) ?_ ?_
      rotate_left
      · intro w'
        go_simp
        with_reducible rfl
      rotate_left
      · simp only [Act.put, List.setIfInBounds_toArray, List.set_cons_zero, List.set_cons_succ, i64_w, i32_w]
        rfl
      refine pure_ (i := 5) (N := some 103) (v := ?_) (a' := ?_) #[true, true, true, false, true, true, false, false, false, false, false, false, false, false, false, false, false, false, false] rfl rfl (any_of HT_.out (by kernel_rfl)) (fun _ _ _ h => h) (Or.inl ⟨by rfl, ?_⟩) ?_ ?_
      rotate_left
      · intro w'
        go_simp
        with_reducible rfl
      rotate_left
      · simp only [Act.put, List.setIfInBounds_toArray, List.set_cons_zero, List.set_cons_succ, i64_w, i32_w]
        rfl
      refine pure_ (i := 6) (N := some 104) (v := ?_) (a' := ?_) #[true, true, true, false, true, true, true, false, false, false, false, false, false, false, false, false, false, false, false] rfl rfl (any_of HT_.out (by kernel_rfl)) (fun _ _ _ h => h) (Or.inl ⟨by rfl, ?_⟩) ?_ ?_
      rotate_left
      · intro w'
        go_simp
        with_reducible rfl
      rotate_left
      · simp only [Act.put, List.setIfInBounds_toArray, List.set_cons_zero, List.set_cons_succ, i64_w, i32_w]
        rfl
      refine pure_ (i := 7) (N := some 105) (v := ?_) (a' := ?_) #[true, true, true, false, true, true, true, true, false, false, false, false, false, false, false, false, false, false, false] rfl rfl (any_of HT_.out (by kernel_rfl)) (fun _ _ _ h => h) (Or.inl ⟨by rfl, ?_⟩) ?_ ?_
      rotate_left
      · intro w'
        go_simp
        with_reducible rfl
      rotate_left
      · simp only [Act.put, List.setIfInBounds_toArray, List.set_cons_zero, List.set_cons_succ, i64_w, i32_w]
        rfl
      refine take_ (i := 8) (N := some 106) (v := ?_) (a' := ?_) #[true, true, true, false, true, true, true, true, true, false, false, false, false, false, false, false, false, false, false] rfl rfl (take_ofW HT_.out HW_.out (by kernel_rfl)) (fun _ _ _ h => h) (Or.inl ⟨by rfl, ?_⟩) hHeld ?_ ?_
      rotate_left
      · intro w' hW
        have q0 := HFk.out w' hW
        go_simp
        with_reducible rfl
      rotate_left
      · simp only [Act.put, List.setIfInBounds_toArray, List.set_cons_zero, List.set_cons_succ, i64_w, i32_w]
        rfl
      refine one_ (i := 3) (N := some 101) #[true, true, true, true, true, true, true, true, true, false, false, false, false, false, false, false, false, false, false] rfl rfl (one_of HT_.out (by kernel_rfl)) (by decide) (fun K hK => ?_)
      refine goes_ Try.func28 (by kernel_rfl) rfl #[.slice (some ad) n c, .int .i64 (k : Int)] (by rfl) rfl rfl (by (try simp only [List.map_toArray, List.map_cons, List.map_nil]); first | done | go_simp) ?_
      refine (HBk.out _ GW.out).mono ?_
      rintro e w2 ⟨rfl, hb⟩
      refine ⟨_, rfl, ?_⟩
      have GW2 := Aside0.mk hb
      clear hb GW hHeld
      refine hK.out _ _ (GW2.out) (fun hHeld => ?_)
      clear hK K
      refine norm_ (a' := ?_) ?_ ?_
      rotate_left
      · show Act.put _ (some 101) _ = _
        simp only [Act.put, List.setIfInBounds_toArray, List.set_cons_zero, List.set_cons_succ, i64_w, i32_w]
        rfl
      refine pure_ (i := 9) (N := some 107) (v := ?_) (a' := ?_) #[true, true, true, true, true, true, true, true, true, true, false, false, false, false, false, false, false, false, false] rfl rfl (any_of HT_.out (by kernel_rfl)) (fun _ _ _ h => h) (Or.inl ⟨by rfl, ?_⟩) ?_ ?_
      rotate_left
      · intro w'
        go_simp
        with_reducible rfl
      rotate_left
      · simp only [Act.put, List.setIfInBounds_toArray, List.set_cons_zero, List.set_cons_succ, i64_w, i32_w]
        rfl
      refine pure_ (i := 10) (N := some 108) (v := ?_) (a' := ?_) #[true, true, true, true, true, true, true, true, true, true, true, false, false, false, false, false, false, false, false] rfl rfl (any_of HT_.out (by kernel_rfl)) (fun _ _ _ h => h) (Or.inl ⟨by rfl, ?_⟩) ?_ ?_
      rotate_left
      · intro w'
        go_simp
        with_reducible rfl
      rotate_left
      · simp only [Act.put, List.setIfInBounds_toArray, List.set_cons_zero, List.set_cons_succ, i64_w, i32_w]
        rfl
      refine one_ (i := 11) (N := some 109) #[true, true, true, true, true, true, true, true, true, true, true, true, false, false, false, false, false, false, false] rfl rfl (one_of HT_.out (by kernel_rfl)) (by decide) (fun K hK => ?_)
      refine goes_ Try.func29 (by kernel_rfl) rfl #[.slice (some ad) n c, .int .i64 v1] (by rfl) rfl rfl (by (try simp only [List.map_toArray, List.map_cons, List.map_nil]); first | done | go_simp) ?_
      refine (HLk.out _ GW2.out).mono ?_
      rintro e w3 ⟨rfl, hb⟩
      refine ⟨_, rfl, ?_⟩
      have GW3 := Aside0.mk hb
      clear hb GW2 hHeld
      refine hK.out _ _ (GW3.out) (fun hHeld => ?_)
      clear hK K
      refine norm_ (a' := ?_) ?_ ?_
      rotate_left
      · show Act.put _ (some 109) _ = _
        simp only [Act.put, List.setIfInBounds_toArray, List.set_cons_zero, List.set_cons_succ, i64_w, i32_w]
        rfl
      refine pure_ (i := 12) (N := some 97) (v := ?_) (a' := ?_) #[true, true, true, true, true, true, true, true, true, true, true, true, true, false, false, false, false, false, false] rfl rfl (any_of HT_.out (by kernel_rfl)) (fun _ _ _ h => h) (Or.inl ⟨by rfl, ?_⟩) ?_ ?_
      rotate_left
      · intro w'
        go_simp
        with_reducible rfl
      rotate_left
      · simp only [Act.put, List.setIfInBounds_toArray, List.set_cons_zero, List.set_cons_succ, i64_w, i32_w]
        rfl
      refine pure_ (i := 13) (N := some 110) (v := ?_) (a' := ?_) #[true, true, true, true, true, true, true, true, true, true, true, true, true, true, false, false, false, false, false] rfl rfl (any_of HT_.out (by kernel_rfl)) (fun _ _ _ h => h) (Or.inl ⟨by rfl, ?_⟩) ?_ ?_
      rotate_left
      · intro w'
        go_simp
        with_reducible rfl
      rotate_left
      · simp only [Act.put, List.setIfInBounds_toArray, List.set_cons_zero, List.set_cons_succ, i64_w, i32_w]
        rfl
      refine pure_ (i := 14) (N := some 111) (v := ?_) (a' := ?_) #[true, true, true, true, true, true, true, true, true, true, true, true, true, true, true, false, false, false, false] rfl rfl (any_of HT_.out (by kernel_rfl)) (fun _ _ _ h => h) (Or.inl ⟨by rfl, ?_⟩) ?_ ?_
      rotate_left
      · intro w'
        go_simp
        with_reducible rfl
      rotate_left
      · simp only [Act.put, List.setIfInBounds_toArray, List.set_cons_zero, List.set_cons_succ, i64_w, i32_w]
        rfl
      refine pure_ (i := 15) (N := some 112) (v := ?_) (a' := ?_) #[true, true, true, true, true, true, true, true, true, true, true, true, true, true, true, true, false, false, false] rfl rfl (any_of HT_.out (by kernel_rfl)) (fun _ _ _ h => h) (Or.inl ⟨by rfl, ?_⟩) ?_ ?_
      rotate_left
      · intro w'
        go_simp
        with_reducible rfl
      rotate_left
      · simp only [Act.put, List.setIfInBounds_toArray, List.set_cons_zero, List.set_cons_succ, i64_w, i32_w]
        rfl
      refine pure_ (i := 16) (N := some 10) (v := ?_) (a' := ?_) #[true, true, true, true, true, true, true, true, true, true, true, true, true, true, true, true, true, false, false] rfl rfl (any_of HT_.out (by kernel_rfl)) (fun _ _ _ h => h) (Or.inl ⟨by rfl, ?_⟩) ?_ ?_
      rotate_left
      · intro w'
        go_simp
        with_reducible rfl
      rotate_left
      · simp only [Act.put, List.setIfInBounds_toArray, List.set_cons_zero, List.set_cons_succ, i64_w, i32_w]
        rfl
      refine pure_ (i := 17) (N := some 11) (v := ?_) (a' := ?_) #[true, true, true, true, true, true, true, true, true, true, true, true, true, true, true, true, true, true, false] rfl rfl (any_of HT_.out (by kernel_rfl)) (fun _ _ _ h => h) (Or.inl ⟨by rfl, ?_⟩) ?_ ?_
      rotate_left
      · intro w'
        go_simp
        with_reducible rfl
      rotate_left
      · simp only [Act.put, List.setIfInBounds_toArray, List.set_cons_zero, List.set_cons_succ, i64_w, i32_w]
        rfl
      refine pure_ (i := 18) (N := some 12) (v := ?_) (a' := ?_) #[true, true, true, true, true, true, true, true, true, true, true, true, true, true, true, true, true, true, true] rfl rfl (any_of HT_.out (by kernel_rfl)) (fun _ _ _ h => h) (Or.inl ⟨by rfl, ?_⟩) ?_ ?_
      rotate_left
      · intro w'
        go_simp
        with_reducible rfl
      rotate_left
      · simp only [Act.put, List.setIfInBounds_toArray, List.set_cons_zero, List.set_cons_succ, i64_w, i32_w]
        rfl
      refine done_ (done_of HT_.out (by kernel_rfl)) ?_
      have hxk := HFk.out _ GW3.out
      clear hw1 hw2 hv1 hv2 HBk HLk hm hr0 hr1 hq hi0 hi1 hi2 hi3 hp0 hHeld HBN HBI HFI HLOC HW HLK HF HBEF HSANE HFEW HORD HCNT
      go_wp2_with fail
      go_roundw
      case rel => exact ⟨k + 1, by omega, by simp, GW3⟩
      case measure => simp [intOf]; omega
    · obtain rfl : k = n := by omega
      have HB := HWr
      go_wp2_with (first
        | ((go_at_call 15); (with_reducible refine (HSANE.out _ (by repeat (first | exact HB.out | exact Below.refl _ _ | apply below_alloc | apply pw_below_drewN | apply below_drew1))).mono ?_); rintro e w9 ⟨rfl, hb9⟩; (try clear HB); have HB := Aside0.mk hb9; clear hb9))
      go_ret
      exact ⟨rfl, HB.out⟩
end Go.Proofs.Ytalncokpbgbccaa.E
