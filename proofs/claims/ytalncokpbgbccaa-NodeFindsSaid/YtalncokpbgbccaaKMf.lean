-- A slim copy of Mf, written by wip/tools/prune2.py.
import Derived.LoopIn
import Derived.LoopNIn
import Derived.OwnWalkIn
import Derived.RangeFuncBound
import Derived.RangeFuncCalls
import Derived.RangeFuncLeaves
import Derived.RangeFuncNested
import Derived.Shelf.Abstract
import Derived.Shelf.RegionOpen
import Derived.TacticsInMore
import Derived.Test.YtalncokpbgbccaaKMe
/- Joined: NS, NT. -/
/- The cuts of a division, as an iterator. -/
namespace Go.Proofs.Ytalncokpbgbccaa.E
set_option linter.unusedVariables false
set_option linter.unusedSimpArgs false
open Go.RowKit Go.Shelf Go.Proofs.YtalncokpbgbccaaW.PrintWords Go.Proofs.YtalncokpbgbccaaW.PrintLast Go.Proofs.YtalncokpbgbccaaW.PrintMore

attribute [local go_sem] Oper.semAt_some
def rg92_0_T : Bool × List (List Nat × List Nat) := (true, [([], []), ([0], [0]), ([1], [1]), ([2], [2]), ([3], [3]), ([], []), ([5], [5]), ([6], [6]), ([7], [7]), ([], []), ([9], [9]), ([10], [10]), ([11], [11]), ([12], [12]), ([13], [13]), ([8, 14], [8, 14]), ([15], [15]), ([4, 4, 0, 1, 2, 3, 4], [4]), ([16, 17, 0, 1, 2, 3, 4, 5, 6, 7, 8, 9, 10, 11, 12, 13, 14, 15, 16, 17], [16])])
def rg92_0_B : List Nat := [0, 1, 3, 7, 15, 0, 32, 96, 224, 0, 512, 1536, 3584, 7680, 15872, 32736, 65504, 31, 262143]
theorem rg92_0_tab : rtab .any (opsOf Try.f92 0) = rg92_0_T := by kernel_rfl
theorem rg92_0_bits : waitsOk rg92_0_T.2 rg92_0_B = true := by kernel_rfl
theorem max2_mx (k k' : IntKind) (x y : Int) : Builtin.max2 (.int k x) (.int k' y) = pure (.int k (mx x y)) := by rw [max2_int]; rfl
attribute [local go_sem] max2_mx max_two
def ahA (l : List S77) (level : Int) (i : Nat) : Int := (aheads l level).getD i 0
def keyA (l : List S77) (level : Int) (i : Nat) : Int := if level > 0 then ((l.getD i z77).f0.size : Int) else 0
/-- the larger weight of both parts of a cut ahead of entry i + 1 -/
def largA (l : List S77) (level : Int) (i : Nat) : Int := mx (ahA l level i) (6 + ahA l level (l.length - 1) - ahA l level i - keyA l level (i + 1))
def cutsL (l : List S77) (level : Int) (k : Nat) : List (Int × Int) := (List.range k).map fun i : Nat => ((i : Int) + 1, largA l level i)
theorem cutsL_snoc (l : List S77) (level : Int) (k : Nat) : cutsL l level (k + 1) = cutsL l level k ++ [((k : Int) + 1, largA l level k)] := by simp [cutsL, List.range_succ]
theorem weight_nil (level : Int) (h : inB level 0 20 = true) : weightO (bare level (partE [] 0 0)) level = some 6 := by
  have : bare level (partE ([] : List S77) 0 0) = [] := by unfold bare; split <;> rfl
  rw [this]; simp [weightO, h, wsum]
theorem int_cell {W : World} {ad : Addr} {n : Nat} {xs : List Int} (h : (Kd.int .i64).C W (some ad) n xs) (i : Nat) (hi : i < n) : W.cell? (ad.add i) = some (.int .i64 (xs.getD i 0)) := by
  obtain ⟨ad', e, hc⟩ := Kd.at_int h (i : Int) (by omega) (by omega)
  cases e
  simpa [rd] using hc
/-- the bounds of the weights -/
def AhOk (l : List S77) (level : Int) : Prop := ∀ i, i < l.length → 0 ≤ ahA l level i ∧ ahA l level i ≤ 3000000000000006
set_option maxRecDepth 100000 in
set_option maxHeartbeats 4000000 in
theorem cuts_in (l : List S77) (A : Option Addr) (c : Nat) (level : Int) (w0 : World) (D : Nat) (av : Addr) (cv : Nat) (hr : Kd.C k77 w0 A l.length l) (hc : l.length ≤ c) (hf : Fine l) (hl2 : 2 ≤ l.length) (hlv : inB level 0 20 = true)
    (hD : w0.heap[D]? = some (.cells #[.slice A l.length c, .int .i64 level, .slice (some av) l.length cv] 127 (0, 0))) (ha : (Kd.int .i64).C w0 (some av) l.length (aheads l level)) (hao : AhOk l level)
    (nn : Nat) (hn : 1 ≤ nn) :
    ∀ (lb : Nat) (J : List (Int × Int) → World → Prop) (W : World) (hW : Below w0.heap.size w0 W) (hJa : ∀ s A B, J s A → A.grownBy B none → J s B)
      (hY : ∀ pre (x : Int × Int) W1, J pre W1 → pre.length < 2000000 → YieldAt Fence.wide (nn - 1) Try.prog lb #[.int .i64 x.1, .int .i64 x.2] W1 fun e W' => e = .returned (.bool true) ∧ J (pre ++ [x]) W' ∧ Below w0.heap.size W1 W')
      (h0 : J [] W), CallsIn Fence.wide nn Try.prog 92 #[.pointer (some ⟨D, 0, none⟩), .func (.yield lb) #[] #[]] W fun e W' => (∃ v, e = .returned v) ∧ J (cutsL l level (l.length - 1)) W' := by
  intro lb J W hW hJa hY h0
  have HD := Aside0.mk hD
  have HAV := Aside0.mk (fun (W : World) (i : Nat) (hb : Below w0.heap.size w0 W) (hi : i < l.length) => (show W.cell? (av.add i) = some (.int .i64 (ahA l level i)) from int_cell (Kd.C_below ha hb) i hi))
  have HEK := Aside0.mk (fun (W : World) (hb : Below w0.heap.size w0 W) => Kd.C_below hr hb)
  have HW0 := Aside0.mk (fun (W : World) (hb : Below w0.heap.size w0 W) => (weight_any l A c 0 0 level W (Kd.C_below hr hb) hc hf (Nat.zero_le _) (Nat.zero_le _) (some 6) (by rw [show partE l 0 0 = partE [] 0 0 by simp [partE]]; exact weight_nil level hlv) : Calls Try.prog 91 #[.agg #[.slice A l.length c, .int .i64 level], .int .i64 0, .int .i64 0] W _))
  have HJA := Aside0.mk hJa
  have HYA := Aside0.mk hY
  unfold AhOk at hao
  have HAO := Aside0.mk hao
  have HFI := Aside0.mk hf
  have hle : (l.length : Int) ≤ 1000000 := by have := hf.1; omega
  have hle2 : l.length ≤ 1000000 := hf.1
  have hl2' : (2 : Int) ≤ (l.length : Int) := by omega
  obtain ⟨n, hnl⟩ : ∃ n, l.length = n := ⟨_, rfl⟩
  have HNL := Aside0.mk hnl
  rw [hnl] at HAV HEK HW0 HAO HD hle hle2 hl2 hl2' ⊢
  obtain ⟨m, hm⟩ : ∃ m, n = m + 1 := ⟨n - 1, by omega⟩
  have HM := Aside0.mk (show m < n by omega)
  have HMN := Aside0.mk hm
  have hm1 : IntKind.i64.wrap ((n : Int) - 1) = (m : Int) := by rw [i64w _ (by omega) (by omega)]; omega
  have hm2 : wrap64 ((n : Int) - 1) = (m : Int) := by rw [w64 _ (by omega) (by omega)]; omega
  have hm3 : (0 : Int) ≤ (m : Int) := by omega
  have hm4 : (m : Int) < (n : Int) := by omega
  clear hr hc hf hlv hD ha hao hJa hY hm hnl
  refine callsIn_of_wp Try.func92 rfl trivial ?_ rfl
  simp only [Try.ntmps92, List.size_toArray, List.length_cons, List.length_nil, Nat.reduceAdd, Nat.reduceSub, Array.replicate_succ, Array.replicate_zero, List.push_toArray, List.append_toArray, List.nil_append, List.cons_append]
  gi_wp2
  refine wpIn_wide.2 ?_
  refine start_ (n := 19) (S := fun W => Below w0.heap.size w0 W) (ds := []) #[false, false, false, false, false, false, false, false, false, false, false, false, false, false, false, false, false, false, false] (by kernel_rfl) rfl rfl (below_drew1 hW) (fun hHeld => ?_)
  refine with_tabW rg92_0_tab rg92_0_bits (fun HT_ HW_ => ?_)
  have GW := Aside0.mk (below_drew1 hW)
  have GJ := Aside0.mk (HJA.out [] _ _ h0 ⟨rfl, rfl, rfl, Nat.le_refl _, fun _ _ _ => rfl⟩ : J [] W.drew)
  clear h0 hW
  generalize W.drew = w1 at GW GJ hHeld ⊢
  refine pure_ (i := 0) (N := some 9) (v := ?_) (a' := ?_) #[true, false, false, false, false, false, false, false, false, false, false, false, false, false, false, false, false, false, false] rfl rfl (any_of HT_.out (by kernel_rfl)) (fun _ _ _ h => h) (Or.inl ⟨by rfl, ?_⟩) ?_ ?_
  rotate_left
  · intro w'
    go_simp
    with_reducible rfl
  rotate_left
  · simp only [Act.put, List.setIfInBounds_toArray, List.set_cons_zero, List.set_cons_succ, i64_w, i32_w]
    rfl
  refine pure_ (i := 1) (N := some 10) (v := ?_) (a' := ?_) #[true, true, false, false, false, false, false, false, false, false, false, false, false, false, false, false, false, false, false] rfl rfl (any_of HT_.out (by kernel_rfl)) (fun _ _ _ h => h) (Or.inl ⟨by rfl, ?_⟩) ?_ ?_
  rotate_left
  · intro w'
    go_simp
    with_reducible rfl
  rotate_left
  · simp only [Act.put, List.setIfInBounds_toArray, List.set_cons_zero, List.set_cons_succ, i64_w, i32_w]
    rfl
  refine pure_ (i := 2) (N := some 11) (v := ?_) (a' := ?_) #[true, true, true, false, false, false, false, false, false, false, false, false, false, false, false, false, false, false, false] rfl rfl (any_of HT_.out (by kernel_rfl)) (fun _ _ _ h => h) (Or.inl ⟨by rfl, ?_⟩) ?_ ?_
  rotate_left
  · intro w'
    go_simp
    with_reducible rfl
  rotate_left
  · simp only [Act.put, List.setIfInBounds_toArray, List.set_cons_zero, List.set_cons_succ, i64_w, i32_w]
    rfl
  refine take_ (i := 3) (N := some 12) (v := ?_) (a' := ?_) #[true, true, true, true, false, false, false, false, false, false, false, false, false, false, false, false, false, false, false] rfl rfl (take_ofW HT_.out HW_.out (by kernel_rfl)) (fun _ _ _ h => h) (Or.inl ⟨by rfl, ?_⟩) hHeld ?_ ?_
  rotate_left
  · intro w' hW
    have q0 : w'.cell? ⟨D, 0, none⟩ = some (.slice A n c) := by rw [blk_cell (blk_below HD.out hW)]; rfl
    have q1 : w'.cell? ⟨D, 1, none⟩ = some (.int .i64 level) := by rw [blk_cell (blk_below HD.out hW)]; rfl
    have q2 : w'.cell? ⟨D, 2, none⟩ = some (.slice (some av) n cv) := by rw [blk_cell (blk_below HD.out hW)]; rfl
    have q3 := HAV.out w' m hW HM.out
    go_simp
    with_reducible rfl
  rotate_left
  · simp only [Act.put, List.setIfInBounds_toArray, List.set_cons_zero, List.set_cons_succ, i64_w, i32_w]
    rfl
  refine pure_ (i := 5) (N := some 14) (v := ?_) (a' := ?_) #[true, true, true, true, false, true, false, false, false, false, false, false, false, false, false, false, false, false, false] rfl rfl (any_of HT_.out (by kernel_rfl)) (fun _ _ _ h => h) (Or.inl ⟨by rfl, ?_⟩) ?_ ?_
  rotate_left
  · intro w'
    go_simp
    with_reducible rfl
  rotate_left
  · simp only [Act.put, List.setIfInBounds_toArray, List.set_cons_zero, List.set_cons_succ, i64_w, i32_w]
    rfl
  refine pure_ (i := 6) (N := some 15) (v := ?_) (a' := ?_) #[true, true, true, true, false, true, true, false, false, false, false, false, false, false, false, false, false, false, false] rfl rfl (any_of HT_.out (by kernel_rfl)) (fun _ _ _ h => h) (Or.inl ⟨by rfl, ?_⟩) ?_ ?_
  rotate_left
  · intro w'
    go_simp
    with_reducible rfl
  rotate_left
  · simp only [Act.put, List.setIfInBounds_toArray, List.set_cons_zero, List.set_cons_succ, i64_w, i32_w]
    rfl
  refine pure_ (i := 7) (N := some 16) (v := ?_) (a' := ?_) #[true, true, true, true, false, true, true, true, false, false, false, false, false, false, false, false, false, false, false] rfl rfl (any_of HT_.out (by kernel_rfl)) (fun _ _ _ h => h) (Or.inl ⟨by rfl, ?_⟩) ?_ ?_
  rotate_left
  · intro w'
    go_simp
    with_reducible rfl
  rotate_left
  · simp only [Act.put, List.setIfInBounds_toArray, List.set_cons_zero, List.set_cons_succ, i64_w, i32_w]
    rfl
  refine take_ (i := 8) (N := some 17) (v := ?_) (a' := ?_) #[true, true, true, true, false, true, true, true, true, false, false, false, false, false, false, false, false, false, false] rfl rfl (take_ofW HT_.out HW_.out (by kernel_rfl)) (fun _ _ _ h => h) (Or.inl ⟨by rfl, ?_⟩) hHeld ?_ ?_
  rotate_left
  · intro w' hW
    have q0 : w'.cell? ⟨D, 0, none⟩ = some (.slice A n c) := by rw [blk_cell (blk_below HD.out hW)]; rfl
    have q1 : w'.cell? ⟨D, 1, none⟩ = some (.int .i64 level) := by rw [blk_cell (blk_below HD.out hW)]; rfl
    have q2 : w'.cell? ⟨D, 2, none⟩ = some (.slice (some av) n cv) := by rw [blk_cell (blk_below HD.out hW)]; rfl
    have q3 := HAV.out w' m hW HM.out
    go_simp
    with_reducible rfl
  rotate_left
  · simp only [Act.put, List.setIfInBounds_toArray, List.set_cons_zero, List.set_cons_succ, i64_w, i32_w]
    rfl
  refine pure_ (i := 9) (N := some 18) (v := ?_) (a' := ?_) #[true, true, true, true, false, true, true, true, true, true, false, false, false, false, false, false, false, false, false] rfl rfl (any_of HT_.out (by kernel_rfl)) (fun _ _ _ h => h) (Or.inl ⟨by rfl, ?_⟩) ?_ ?_
  rotate_left
  · intro w'
    go_simp
    with_reducible rfl
  rotate_left
  · simp only [Act.put, List.setIfInBounds_toArray, List.set_cons_zero, List.set_cons_succ, i64_w, i32_w]
    rfl
  refine pure_ (i := 10) (N := some 19) (v := ?_) (a' := ?_) #[true, true, true, true, false, true, true, true, true, true, true, false, false, false, false, false, false, false, false] rfl rfl (any_of HT_.out (by kernel_rfl)) (fun _ _ _ h => h) (Or.inl ⟨by rfl, ?_⟩) ?_ ?_
  rotate_left
  · intro w'
    go_simp
    with_reducible rfl
  rotate_left
  · simp only [Act.put, List.setIfInBounds_toArray, List.set_cons_zero, List.set_cons_succ, i64_w, i32_w]
    rfl
  refine pure_ (i := 11) (N := some 20) (v := ?_) (a' := ?_) #[true, true, true, true, false, true, true, true, true, true, true, true, false, false, false, false, false, false, false] rfl rfl (any_of HT_.out (by kernel_rfl)) (fun _ _ _ h => h) (Or.inl ⟨by rfl, ?_⟩) ?_ ?_
  rotate_left
  · intro w'
    go_simp
    with_reducible rfl
  rotate_left
  · simp only [Act.put, List.setIfInBounds_toArray, List.set_cons_zero, List.set_cons_succ, i64_w, i32_w]
    rfl
  refine take_ (i := 12) (N := some 21) (v := ?_) (a' := ?_) #[true, true, true, true, false, true, true, true, true, true, true, true, true, false, false, false, false, false, false] rfl rfl (take_ofW HT_.out HW_.out (by kernel_rfl)) (fun _ _ _ h => h) (Or.inl ⟨by rfl, ?_⟩) hHeld ?_ ?_
  rotate_left
  · intro w' hW
    have q0 : w'.cell? ⟨D, 0, none⟩ = some (.slice A n c) := by rw [blk_cell (blk_below HD.out hW)]; rfl
    have q1 : w'.cell? ⟨D, 1, none⟩ = some (.int .i64 level) := by rw [blk_cell (blk_below HD.out hW)]; rfl
    have q2 : w'.cell? ⟨D, 2, none⟩ = some (.slice (some av) n cv) := by rw [blk_cell (blk_below HD.out hW)]; rfl
    have q3 := HAV.out w' m hW HM.out
    go_simp
    with_reducible rfl
  rotate_left
  · simp only [Act.put, List.setIfInBounds_toArray, List.set_cons_zero, List.set_cons_succ, i64_w, i32_w]
    rfl
  refine pure_ (i := 13) (N := some 22) (v := ?_) (a' := ?_) #[true, true, true, true, false, true, true, true, true, true, true, true, true, true, false, false, false, false, false] rfl rfl (any_of HT_.out (by kernel_rfl)) (fun _ _ _ h => h) (Or.inl ⟨by rfl, ?_⟩) ?_ ?_
  rotate_left
  · intro w'
    go_simp
    with_reducible rfl
  rotate_left
  · simp only [Act.put, List.setIfInBounds_toArray, List.set_cons_zero, List.set_cons_succ, i64_w, i32_w]
    rfl
  refine pure_ (i := 14) (N := some 23) (v := ?_) (a' := ?_) #[true, true, true, true, false, true, true, true, true, true, true, true, true, true, true, false, false, false, false] rfl rfl (any_of HT_.out (by kernel_rfl)) (fun _ _ _ h => h) (Or.inl ⟨by rfl, ?_⟩) ?_ ?_
  rotate_left
  · intro w'
    go_simp
    with_reducible rfl
  rotate_left
  · simp only [Act.put, List.setIfInBounds_toArray, List.set_cons_zero, List.set_cons_succ, i64_w, i32_w]
    rfl
  refine pure_ (i := 15) (N := some 24) (v := ?_) (a' := ?_) #[true, true, true, true, false, true, true, true, true, true, true, true, true, true, true, true, false, false, false] rfl rfl (any_of HT_.out (by kernel_rfl)) (fun _ _ _ h => h) (Or.inl ⟨by rfl, ?_⟩) ?_ ?_
  rotate_left
  · intro w'
    go_simp
    with_reducible rfl
  rotate_left
  · simp only [Act.put, List.setIfInBounds_toArray, List.set_cons_zero, List.set_cons_succ, i64_w, i32_w]
    rfl
  refine take_ (i := 16) (N := some 25) (v := ?_) (a' := ?_) #[true, true, true, true, false, true, true, true, true, true, true, true, true, true, true, true, true, false, false] rfl rfl (take_ofW HT_.out HW_.out (by kernel_rfl)) (fun _ _ _ h => h) (Or.inl ⟨by rfl, ?_⟩) hHeld ?_ ?_
  rotate_left
  · intro w' hW
    have q0 : w'.cell? ⟨D, 0, none⟩ = some (.slice A n c) := by rw [blk_cell (blk_below HD.out hW)]; rfl
    have q1 : w'.cell? ⟨D, 1, none⟩ = some (.int .i64 level) := by rw [blk_cell (blk_below HD.out hW)]; rfl
    have q2 : w'.cell? ⟨D, 2, none⟩ = some (.slice (some av) n cv) := by rw [blk_cell (blk_below HD.out hW)]; rfl
    have q3 := HAV.out w' m hW HM.out
    go_simp
    with_reducible rfl
  rotate_left
  · simp only [Act.put, List.setIfInBounds_toArray, List.set_cons_zero, List.set_cons_succ, i64_w, i32_w]
    rfl
  refine one_ (i := 4) (N := some 13) #[true, true, true, true, true, true, true, true, true, true, true, true, true, true, true, true, true, false, false] rfl rfl (one_of HT_.out (by kernel_rfl)) (by decide) (fun K hK => ?_)
  refine goes_ Try.func91 (by kernel_rfl) rfl #[.agg #[.slice A n c, .int .i64 level], .int .i64 0, .int .i64 0] (by rfl) rfl rfl (by (try simp only [List.map_toArray, List.map_cons, List.map_nil]); first | done | rfl) ?_
  refine (HW0.out _ hHeld).mono ?_
  rintro e w2 ⟨rfl, hb⟩
  refine ⟨_, rfl, ?_⟩
  have GW2 := Aside0.mk (GW.out.trans (hb.mono GW.out.size))
  have GJ2 := Aside0.mk (HJA.out [] _ _ GJ.out ⟨hb.os, hb.tape, hb.output, hb.size, fun k hk _ => hb.block k hk⟩)
  clear hb GW GJ hHeld
  refine hK.out _ _ (GW2.out) (fun hHeld => ?_)
  clear hK K
  refine norm_ (a' := ?_) ?_ ?_
  rotate_left
  · show Act.put _ (some 13) _ = _
    simp only [Act.put, List.setIfInBounds_toArray, List.set_cons_zero, List.set_cons_succ, i64_w, i32_w]
    rfl
  refine pure_ (i := 17) (N := some 4) (v := ?_) (a' := ?_) #[true, true, true, true, true, true, true, true, true, true, true, true, true, true, true, true, true, true, false] rfl rfl (any_of HT_.out (by kernel_rfl)) (fun _ _ _ h => h) (Or.inl ⟨by rfl, ?_⟩) ?_ ?_
  rotate_left
  · intro w'
    go_simp
    with_reducible rfl
  rotate_left
  · simp only [Act.put, List.setIfInBounds_toArray, List.set_cons_zero, List.set_cons_succ, i64_w, i32_w]
    rfl
  refine pure_ (i := 18) (N := some 5) (v := ?_) (a' := ?_) #[true, true, true, true, true, true, true, true, true, true, true, true, true, true, true, true, true, true, true] rfl rfl (any_of HT_.out (by kernel_rfl)) (fun _ _ _ h => h) (Or.inl ⟨by rfl, ?_⟩) ?_ ?_
  rotate_left
  · intro w'
    go_simp
    with_reducible rfl
  rotate_left
  · simp only [Act.put, List.setIfInBounds_toArray, List.set_cons_zero, List.set_cons_succ, i64_w, i32_w]
    rfl
  refine done_ (done_of HT_.out (by kernel_rfl)) ?_
  gi_wp2
  gi_loopw [6] (fun i wr => ∃ j : Nat, j + 1 ≤ n ∧ i = .int .i64 ((j : Int) + 1) ∧ Aside0 (J (cutsL l level j) wr) ∧ Aside0 (Below w0.heap.size w0 wr)) (fun i _ => n - (intOf i).toNat)
  case atStart => exact ⟨0, by omega, by simp, GJ2, GW2⟩
  case round =>
    obtain ⟨j, hj, rfl, HJr, HWr⟩ := hrel
    have q0 : wr.cell? ⟨D, 0, none⟩ = some (.slice A n c) := by rw [blk_cell (blk_below HD.out HWr.out)]; rfl
    have q1 : wr.cell? ⟨D, 1, none⟩ = some (.int .i64 level) := by rw [blk_cell (blk_below HD.out HWr.out)]; rfl
    have q2 : wr.cell? ⟨D, 2, none⟩ = some (.slice (some av) n cv) := by rw [blk_cell (blk_below HD.out HWr.out)]; rfl
    by_cases hlt : j + 1 < n
    · have q3 := HAV.out wr j HWr.out (by omega)
      have hba := HAO.out j (by omega)
      have hbm := HAO.out m HM.out
      obtain ⟨a1, ha1⟩ : ∃ a1, ahA l level j = a1 := ⟨_, rfl⟩
      obtain ⟨am, ham⟩ : ∃ am, ahA l level m = am := ⟨_, rfl⟩
      have HA1 := Aside0.mk ha1
      have HAM := Aside0.mk ham
      simp only [ham]
      rw [ha1] at q3 hba
      rw [ham] at hbm
      clear ha1 ham
      obtain ⟨hb1, hb2⟩ := hba
      obtain ⟨hb3, hb4⟩ := hbm
      have hlt2 : (j : Int) + 1 < (n : Int) := by omega
      by_cases hlv : level > 0
      · skip
        obtain ⟨ad, rfl, _⟩ := elem_at (n := n) (HEK.out wr HWr.out) (j + 1) hlt
        have q5 := prev_key (HEK.out wr HWr.out) (j + 1) hlt
        have hks := (HFI.out.2 (l.getD (j + 1) z77) (by simp [List.getD, HNL.out, hlt])).1
        have k1 : decide (level > 0) = true := decide_eq_true hlv
        have k1' : decide (0 < level) = true := decide_eq_true hlv
        have HKY := Aside0.mk (show keyA l level (j + 1) = ((l.getD (j + 1) z77).f0.size : Int) by simp [keyA, hlv])
        generalize l.getD (j + 1) z77 = x at q5 hks HKY
        have hk0 : (0 : Int) ≤ (x.f0.size : Int) := by omega
        have hk2 : (x.f0.size : Int) ≤ 1000000000 := by omega
        have hidx : ((j : Int) + 1).toNat = j + 1 := by omega
        have hi0 : (0 : Int) ≤ (j : Int) + 1 := by omega
        have HLG := Aside0.mk (show largA l level j = mx a1 (6 + am - a1 - (x.f0.size : Int)) by unfold largA; rw [HNL.out, show n - 1 = m by have := HMN.out; omega, HA1.out, HAM.out, HKY.out])
        have hx0 : wrap64 (6 + am) = 6 + am := w64 _ (by omega) (by omega)
        have hx1 : wrap64 (6 + am - a1) = 6 + am - a1 := w64 _ (by omega) (by omega)
        have hx2 : wrap64 (6 + am - a1 - (x.f0.size : Int)) = 6 + am - a1 - (x.f0.size : Int) := w64 _ (by omega) (by omega)
        obtain ⟨f1, t1, s1, b1, hy1, hR1⟩ := HYA.out _ (((j : Int) + 1, mx a1 (6 + am - a1 - (x.f0.size : Int))) : Int × Int) wr HJr.out (by simp [cutsL]; omega)
        have hy1 : (Instr.yield lb #[.int .i64 ((j : Int) + 1), .int .i64 (mx a1 (6 + am - a1 - (x.f0.size : Int)))]).run Try.prog wr = _ := hy1
        clear hlv HJr hks
        gi_wp2
        refine hR1.mono ?_
        clear hy1 hR1
        rintro e W1 ⟨rfl, hJ1, hk1⟩
        have HJ1 := Aside0.mk hJ1
        have HW1 := Aside0.mk (HWr.out.trans (hk1.mono (Nat.le_refl _)))
        clear hJ1 hk1
        gi_wp2
        go_roundw
        case rel => exact ⟨j + 1, by omega, by simp, ⟨by rw [cutsL_snoc, HLG.out]; exact HJ1.out⟩, HW1⟩
        case measure => simp [intOf]; omega
      · skip
        have k1 : decide (level > 0) = false := decide_eq_false hlv
        have k1' : decide (0 < level) = false := decide_eq_false hlv
        have HKY := Aside0.mk (show keyA l level (j + 1) = 0 by simp [keyA, hlv])
        have HLG := Aside0.mk (show largA l level j = mx a1 (6 + am - a1) by unfold largA; rw [HNL.out, show n - 1 = m by have := HMN.out; omega, HA1.out, HAM.out, HKY.out, Int.sub_zero])
        have hx0 : wrap64 (6 + am) = 6 + am := w64 _ (by omega) (by omega)
        have hx1 : wrap64 (6 + am - a1) = 6 + am - a1 := w64 _ (by omega) (by omega)
        obtain ⟨f1, t1, s1, b1, hy1, hR1⟩ := HYA.out _ (((j : Int) + 1, mx a1 (6 + am - a1)) : Int × Int) wr HJr.out (by simp [cutsL]; omega)
        have hy1 : (Instr.yield lb #[.int .i64 ((j : Int) + 1), .int .i64 (mx a1 (6 + am - a1))]).run Try.prog wr = _ := hy1
        clear hlv HJr
        gi_wp2
        refine hR1.mono ?_
        clear hy1 hR1
        rintro e W1 ⟨rfl, hJ1, hk1⟩
        have HJ1 := Aside0.mk hJ1
        have HW1 := Aside0.mk (HWr.out.trans (hk1.mono (Nat.le_refl _)))
        clear hJ1 hk1
        gi_wp2
        go_roundw
        case rel => exact ⟨j + 1, by omega, by simp, ⟨by rw [cutsL_snoc, HLG.out]; exact HJ1.out⟩, HW1⟩
        case measure => simp [intOf]; omega
    · obtain rfl : n = j + 1 := by omega
      gi_wp2
      go_end0
      exact ⟨⟨_, rfl⟩, by simpa using HJr.out⟩
end Go.Proofs.Ytalncokpbgbccaa.E

/- The best cut of a division. -/
namespace Go.Proofs.Ytalncokpbgbccaa.E
set_option linter.unusedVariables false
set_option linter.unusedSimpArgs false
open Go.RowKit Go.Shelf Go.Proofs.YtalncokpbgbccaaW.PrintWords Go.Proofs.YtalncokpbgbccaaW.PrintLast Go.Proofs.YtalncokpbgbccaaW.PrintMore
attribute [local go_sem] Oper.semAt_some

def bestStep (s x : Int × Int) : Int × Int := if s.1 = 0 ∨ x.2 < s.2 then x else s
def bestP (l : List (Int × Int)) : Int × Int := l.foldl bestStep (0, 0)
theorem bestP_snoc (l : List (Int × Int)) (x : Int × Int) : bestP (l ++ [x]) = bestStep (bestP l) x := by simp [bestP]
def bestA (l : List S77) (level : Int) : Int := (bestP (cutsL l level (l.length - 1))).1
/-- 'for .. := range x0.m { body }' over a method value whose body always goes on: what holds of what has come holds of all of it behind the loop. -/
theorem range_method {P : Program} {n gf : Nat} {g : Operand} {ps : Array Tmp} {assign body : Code} {Q : Exit → Act → World → Prop} {a : Act} {w : World} {x0 : Value} {α : Type}
    (h1 : 1 ≤ n) (hg : a.eval g = .func (.func gf) #[x0] #[]) (eg : ∀ args w, (callFunc gf args).run P w = .ok (.enter gf args) w)
    (encs : α → Array Value) (N base : Nat) (hbase : base ≤ w.heap.size) (zs : List α)
    (hseq : ∀ (lb : Nat) (J : List α → World → Prop) (W : World), Below w.heap.size w W → (∀ s A B, J s A → A.grownBy B none → J s B) →
      (∀ pre x W1, J pre W1 → pre.length < N → YieldAt Fence.wide (n - 1 - 1) P lb (encs x) W1 fun e W' => e = .returned (.bool true) ∧ J (pre ++ [x]) W' ∧ Below base W1 W') → J [] W →
      CallsIn Fence.wide (n - 1) P gf #[x0, .func (.yield lb) #[] #[]] W fun e W' => (∃ v, e = .returned v) ∧ J zs W')
    (hps : ∀ x, (encs x).size = ps.size) (I : List α → World → Prop) (hI : ∀ s A B, I s A → A.grownBy B none → I s B)
    (hI2 : ∀ s A l o o', I s A → w.heap.size ≤ l → A.heap[l]? = some o → o.isCells = false → I s (A.putObj l o')) (h0 : I [] w) (a₁ : α → Act)
    (hassign : ∀ (l : Nat) (x : α) (W : World) (K : Act → World → Prop), K (a₁ x) W → assign.wpIn (Fence.wide.inRound l) (n - 1 - 1) P (Exit.then K (fun _ _ _ => False)) { tmps := (ps.zip (encs x)).foldl (fun t (p, v) => t.setIfInBounds p v) a.tmps, defers := [] } W)
    (hbody : ∀ (l : Nat) (pre : List α) (x : α) (W : World), I pre W → pre.length < N → body.wpIn (Fence.wide.inRound l) (n - 1 - 1) P (fun e _ W' => e = .normal ∧ KeepsOthers W W' ∧ Below base W W' ∧ I (pre ++ [x]) W') (a₁ x) W)
    (hdone : ∀ (D : Nat) (W : World), w.heap.size ≤ D → I zs W → W.heap[D]? = some (.deferred (some [])) → Q .normal { a with defers := { target := .collected D, args := #[] } :: a.defers } W) :
    (Code.rangeFunc g ps assign body).wpIn Fence.wide n P Q a w := by
  refine wpIn_rangeFunc (fun fn hfn => ?_)
  generalize hd : w.heap.size = d at *
  let rec_ : LoopState → Loop := fun st => { state := st, pending := none, fn, tmps := a.tmps, params := ps, assign, body, defers := d }
  let W1 : World := (w.alloc (.deferred (some []))).alloc (.loop (rec_ .ready))
  have hW1 : W1 = (w.alloc (.deferred (some []))).alloc (.loop (rec_ .ready)) := rfl
  have hL : W1.heap[d + 1]? = some (.loop (rec_ .ready)) := by
    have := World.alloc_heap_new (w.alloc (.deferred (some []))) (.loop (rec_ .ready))
    rwa [World.size_alloc, hd] at this
  have hK : W1.heap[d]? = some (.deferred (some [])) := by
    have h2 : (w.alloc (.deferred (some []))).heap[d]? = some (.deferred (some [])) := by have := World.alloc_heap_new w (.deferred (some [])); rwa [hd] at this
    exact (Below.heap_alloc _ _ _ (by simp; omega)).trans h2
  have hB : Below d w W1 := by
    have h2 := ((Below.refl w.heap.size w).alloc (Nat.le_refl _) (.deferred (some []))).alloc (by simp) (.loop (rec_ .ready))
    rwa [hd] at h2
  have hI1 : I [] W1 := hI _ _ _ (hI _ _ _ h0 (World.grownBy_alloc _ _ _)) (World.grownBy_alloc _ _ _)
  have hput : ∀ (W : World) (o o' : Obj), W.heap[d + 1]? = some o → o.isCells = false → o.isWalk = false → Below base W (W.putObj (d + 1) o') := fun W o o' h k1 k2 => belowK_b (w := w) (by omega) W (d + 1) o o' (by omega) h k1 k2
  refine ⟨d + 1, [{ target := .collected d, args := #[] }], W1, { target := .fn (.func gf) #[], args := #[x0, .func (.yield (d + 1)) #[] #[]] }, W1, gf, #[x0, .func (.yield (d + 1)) #[] #[]], W1, ?_, ?_, fun _ _ => trivial, ?_, fun _ => h1, ?_⟩
  · have := run_enterLoop_outer (P := P) (w := w) fn a.tmps ps assign body
    rw [hd] at this
    exact this
  · simp only [resolve, hg]
    simp [go_sem]
  · simp [invoke, go_sem, eg]
  refine (hseq (d + 1) (fun pre W => I pre W ∧ W.heap[d + 1]? = some (.loop (rec_ .ready)) ∧ W.heap[d]? = some (.deferred (some []))) W1 hB ?_ ?_ ⟨hI1, hL, hK⟩).mono ?_
  · rintro s A B ⟨k1, k2, k3⟩ hgr
    exact ⟨hI _ _ _ k1 hgr, (hgr.block _ (Array.getElem?_eq_some_iff.1 k2).1 (by simp)).trans k2, (hgr.block _ (Array.getElem?_eq_some_iff.1 k3).1 (by simp)).trans k3⟩
  · rintro pre x W ⟨k1, k2, k3⟩ hlen
    have hlt : d + 1 < W.heap.size := (Array.getElem?_eq_some_iff.1 k2).1
    refine ⟨fn, _, assign, body, run_yield (P := P) k2 (hps x), roundIn_of_wpIn hfn (hassign _ x W _ ⟨_, run_beginRound k2 rfl, ?_⟩)⟩
    have hl2 : (W.putObj (d + 1) (.loop (rec_ .busy))).heap[d + 1]? = some (.loop (rec_ .busy)) := World.putObj_heap_same hlt
    have hk2 : (W.putObj (d + 1) (.loop (rec_ .busy))).heap[d]? = some (.deferred (some [])) := (World.putObj_heap_other (by omega)).trans k3
    refine wpIn_mono (hbody _ pre x _ (hI2 _ _ _ _ _ k1 (by omega) k2 rfl) hlen) ?_
    rintro e a3 W3 ⟨rfl, q1, q2, q3⟩
    have hl3 := q1.same _ _ hl2 rfl
    have hlt3 : d + 1 < W3.heap.size := (Array.getElem?_eq_some_iff.1 hl3).1
    exact ⟨_, _, run_endRound (P := P) none hl3, rfl, ⟨hI2 _ _ _ _ _ q3 (by omega) hl3 rfl, World.putObj_heap_same hlt3, (World.putObj_heap_other (by omega)).trans (q1.same _ _ hk2 rfl)⟩, ((hput _ _ _ k2 rfl rfl).trans q2).trans (hput _ _ _ hl3 rfl rfl)⟩
  · rintro e W2 ⟨⟨v, rfl⟩, k1, k2, k3⟩
    exact ⟨none, _, run_endLoop (P := P) k2 (by simp [rec_]), hdone d _ (by omega) (hI2 _ _ _ _ _ k1 (by omega) k2 rfl) ((World.putObj_heap_other (by omega)).trans k3)⟩
set_option maxRecDepth 100000 in
set_option maxHeartbeats 4000000 in
theorem best_c (l : List S77) (A : Option Addr) (c : Nat) (level : Int) (w : World) (D : Nat) (av : Addr) (cv : Nat) (hr : Kd.C k77 w A l.length l) (hc : l.length ≤ c) (hf : Fine l) (hl2 : 2 ≤ l.length) (hlv : inB level 0 20 = true)
    (hD : w.heap[D]? = some (.cells #[.slice A l.length c, .int .i64 level, .slice (some av) l.length cv] 127 (0, 0))) (ha : (Kd.int .i64).C w (some av) l.length (aheads l level)) (hao : AhOk l level) :
    Calls Try.prog 72 #[.pointer (some ⟨D, 0, none⟩)] w fun e w' => e = .returned (.int .i64 (bestA l level)) ∧ Below w.heap.size w w' := by
  have hmf : ∀ (fn : Fn) (first cap : Array Value) (w : World), (Instr.makeFunc fn first cap).run Try.prog w = .ok (.func fn first cap) w := fun _ _ _ _ => rfl
  have HC := Aside0.mk (cuts_in l A c level w D av cv hr hc hf hl2 hlv hD ha hao 4 (by omega))
  have HD := Aside0.mk hD
  clear hr hc hf hlv hD ha hao hl2
  refine (callsIn_wide (n := 5)).1 ?_
  refine callsIn_of_wp_marks Try.func72 rfl trivial ?_ rfl
  simp only [Try.ntmps72, List.size_toArray, List.length_cons, List.length_nil, Nat.reduceAdd, Nat.reduceSub, Array.replicate_succ, Array.replicate_zero, List.push_toArray, List.append_toArray, List.nil_append, List.cons_append]
  gi_wp2
  have hB0 : Below w.heap.size w ((w.alloc (.cells #[.int .i64 0] 3)).alloc (.cells #[.int .i64 0] 3)) := below_alloc (below_alloc (Below.refl _ _) _) _
  have hG3 : ((w.alloc (.cells #[.int .i64 0] 3)).alloc (.cells #[.int .i64 0] 3)).heap[w.heap.size]? = some (.cells #[.int .i64 0] 3 (0, 0)) := blk_alloc (blk_new w _) _
  have hG4 : ((w.alloc (.cells #[.int .i64 0] 3)).alloc (.cells #[.int .i64 0] 3)).heap[w.heap.size + 1]? = some (.cells #[.int .i64 0] 3 (0, 0)) := by
    have := blk_new (w.alloc (.cells #[.int .i64 0] 3)) (.cells #[.int .i64 0] 3)
    rwa [World.size_alloc] at this
  have hsz : ((w.alloc (.cells #[.int .i64 0] 3)).alloc (.cells #[.int .i64 0] 3)).heap.size = w.heap.size + 2 := by simp
  generalize (w.alloc (.cells #[.int .i64 0] 3)).alloc (.cells #[.int .i64 0] 3) = W0 at hB0 hG3 hG4 hsz ⊢
  obtain ⟨g3, hg3⟩ : ∃ g3, w.heap.size = g3 := ⟨_, rfl⟩
  rw [hg3] at hB0 hG3 hG4 hsz
  simp only [hg3]
  obtain ⟨g4, hg4⟩ : ∃ g4, g3 + 1 = g4 := ⟨_, rfl⟩
  rw [hg4] at hG4
  simp only [hg4]
  have h34 : ¬ g3 = g4 := by omega
  have h43 : ¬ g4 = g3 := by omega
  refine range_method (by omega) (x0 := .pointer (some ⟨D, 0, none⟩)) (gf := 92) rfl (enters_of Try.func92 (by kernel_rfl) rfl) (fun x : Int × Int => #[.int .i64 x.1, .int .i64 x.2]) 2000000 g3 (by omega) (cutsL l level (l.length - 1)) ?seq (fun _ => rfl)
    (fun pre W => W.heap[g3]? = some (.cells #[.int .i64 (bestP pre).1] 3 (0, 0)) ∧ W.heap[g4]? = some (.cells #[.int .i64 (bestP pre).2] 3 (0, 0)) ∧ Below g3 w W) ?grown ?put ⟨hG3, hG4, hB0⟩
    (fun x => { tmps := #[.pointer (some ⟨D, 0, none⟩), undef, .int .i64 0, .pointer (some ⟨g3, 0, none⟩), .pointer (some ⟨g4, 0, none⟩), .int .i64 x.1, .int .i64 x.2, .pointer (some ⟨D, 0, none⟩), .func (.func 92) #[.pointer (some ⟨D, 0, none⟩)] #[], .int .i64 x.1, .int .i64 x.2, undef, undef, undef, undef, undef, undef, undef, undef, undef, undef], defers := [] }) ?assign ?body ?done
  case seq =>
    intro lb J W hW hJ hY h0
    have := HC.out lb J W (by rw [hg3]; exact hB0.trans (hW.mono (by omega))) hJ (by rw [hg3]; exact hY) h0
    exact this
  case grown =>
    rintro s X Y ⟨k1, k2, k3⟩ hgr
    exact ⟨blk_grown k1 hgr (by simp), blk_grown k2 hgr (by simp), k3.trans (Below.mono (B := X.heap.size) ⟨hgr.os, hgr.tape, hgr.output, hgr.size, fun k hk => hgr.block k hk (by simp)⟩ (by have := k3.size; omega))⟩
  case put =>
    rintro s X lc o o' ⟨k1, k2, k3⟩ hl ho hc
    refine ⟨(World.putObj_heap_other (by omega)).trans k1, (World.putObj_heap_other (by omega)).trans k2, ?_⟩
    exact k3.grown (grownBy_putObj' X lc o') (by have := k3.size; omega) (fun k e => by cases e; omega)
  case assign =>
    intro lc x W K hK
    gi_wp2
    exact hK
  case body =>
    rintro lc pre x W ⟨k1, k2, k3⟩ hpre
    have c3 : W.cell? ⟨g3, 0, none⟩ = some (.int .i64 (bestP pre).1) := by rw [blk_cell k1]; rfl
    have c4 : W.cell? ⟨g4, 0, none⟩ = some (.int .i64 (bestP pre).2) := by rw [blk_cell k2]; rfl
    have f3 := blk_frozen k1 0
    have f4 := blk_frozen k2 0
    have HST := Aside0.mk (bestP_snoc pre x)
    have K1 := Aside0.mk k1
    have K2 := Aside0.mk k2
    have K3 := Aside0.mk k3
    have HG := Aside0.mk hg3
    have h34le : g3 ≤ g4 := by omega
    clear k1 k2 k3 HC HD hmf hB0 hG3 hG4 hsz hg3 hg4
    obtain ⟨at_, hat⟩ : ∃ a, (bestP pre).1 = a := ⟨_, rfl⟩
    obtain ⟨le_, hle⟩ : ∃ a, (bestP pre).2 = a := ⟨_, rfl⟩
    rw [hat] at c3 K1
    rw [hle] at c4 K2
    have HAT := Aside0.mk hat
    have HLE := Aside0.mk hle
    clear hat hle
    by_cases hz : at_ = 0
    · have HZ := Aside0.mk (show bestP (pre ++ [x]) = x by rw [HST.out]; unfold bestStep; rw [if_pos (Or.inl (by rw [HAT.out]; exact hz))])
      have e1 : (at_ == 0) = true := by simp [hz]
      clear hz
      gi_wp2
      exact ⟨((KeepsOthers.refl _).trans (KeepsOthers.setCell _ _ _)).trans (KeepsOthers.setCell _ _ _), ((Below.refl _ _).setCell (p := ⟨g3, 0, none⟩) (Nat.le_refl _) _).setCell (p := ⟨g4, 0, none⟩) h34le _, by rw [HZ.out]; exact blk_far (blk_put K1.out 0 _ rfl) (p := ⟨g4, 0, none⟩) h34 _, by rw [HZ.out]; exact blk_put (blk_far K2.out (p := ⟨g3, 0, none⟩) h43 _) 0 _ rfl, (K3.out.setCell (p := ⟨g3, 0, none⟩) (Nat.le_refl _) _).setCell (p := ⟨g4, 0, none⟩) h34le _⟩
    · have e1 : (at_ == 0) = false := by simp [hz]
      by_cases hlt : x.2 < le_
      · have HZ := Aside0.mk (show bestP (pre ++ [x]) = x by rw [HST.out]; unfold bestStep; rw [if_pos (Or.inr (by rw [HLE.out]; exact hlt))])
        have e2 : decide (x.2 < le_) = true := decide_eq_true hlt
        clear hz hlt
        gi_wp2
        exact ⟨((KeepsOthers.refl _).trans (KeepsOthers.setCell _ _ _)).trans (KeepsOthers.setCell _ _ _), ((Below.refl _ _).setCell (p := ⟨g3, 0, none⟩) (Nat.le_refl _) _).setCell (p := ⟨g4, 0, none⟩) h34le _, by rw [HZ.out]; exact blk_far (blk_put K1.out 0 _ rfl) (p := ⟨g4, 0, none⟩) h34 _, by rw [HZ.out]; exact blk_put (blk_far K2.out (p := ⟨g3, 0, none⟩) h43 _) 0 _ rfl, (K3.out.setCell (p := ⟨g3, 0, none⟩) (Nat.le_refl _) _).setCell (p := ⟨g4, 0, none⟩) h34le _⟩
      · have HZ := Aside0.mk (show bestP (pre ++ [x]) = bestP pre by rw [HST.out]; unfold bestStep; rw [if_neg (by rw [HAT.out, HLE.out]; intro h; rcases h with h | h; exact hz h; exact hlt h)])
        have e2 : decide (x.2 < le_) = false := decide_eq_false hlt
        clear hz hlt
        gi_wp2
        exact ⟨KeepsOthers.refl _, Below.refl _ _, by rw [HZ.out, HAT.out]; exact K1.out, by rw [HZ.out, HLE.out]; exact K2.out, K3.out⟩
  case done =>
    rintro Dm W hDm ⟨k1, k2, k3⟩ hK
    have c3 : W.cell? ⟨g3, 0, none⟩ = some (.int .i64 (bestP (cutsL l level (l.length - 1))).1) := by rw [blk_cell k1]; rfl
    have K3 := Aside0.mk k3
    have KD := Aside0.mk hK
    clear k1 k2 k3 hK HC HD hmf hB0 hG3 hG4
    dsimp only
    gi_wp2
    refine ⟨by simp, .inl ⟨_, _, rfl, run_takeDeferred KD.out, ?_⟩⟩
    refine ⟨_, results_tmp rfl _ _ _, rfl, ?_⟩
    rw [hg3]
    exact K3.out.trans (belowK_b (w := W0) (by omega) W Dm _ _ hDm KD.out rfl rfl)
end Go.Proofs.Ytalncokpbgbccaa.E

