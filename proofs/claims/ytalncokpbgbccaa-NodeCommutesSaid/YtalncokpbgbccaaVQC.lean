-- A slim copy of QC, QD, SA, QE, written by wip/tools/prune2.py.
import Derived.BigFrame
import Derived.Lib.Strings
import Derived.Test.YtalncokpbgbccaaVMc
import Derived.Test.YtalncokpbgbccaaVPG
import Derived.Test.YtalncokpbgbccaaVQB
/- The reference's rest, joined. -/
namespace Go.Proofs.Ytalncokpbgbccaa.E
set_option linter.unusedVariables false
set_option linter.unusedSimpArgs false
open Go.RowKit Go.Proofs.YtalncokpbgbccaaW.PrintWords Go.Proofs.YtalncokpbgbccaaW.PrintLast Go.Proofs.YtalncokpbgbccaaW.PrintMore
end Go.Proofs.Ytalncokpbgbccaa.E

/- The reference's Weight: what it says of a list of entries. -/
namespace Go.Proofs.Ytalncokpbgbccaa.E
set_option linter.unusedVariables false
set_option linter.unusedSimpArgs false
open Go.RowKit Go.Proofs.YtalncokpbgbccaaW.PrintWords Go.Proofs.YtalncokpbgbccaaW.PrintLast Go.Proofs.YtalncokpbgbccaaW.PrintMore
end Go.Proofs.Ytalncokpbgbccaa.E

/- The reference's SameEntries: whether two lists of entries are equal, entry by entry. -/
namespace Go.Proofs.Ytalncokpbgbccaa.E
set_option linter.unusedVariables false
set_option linter.unusedSimpArgs false
open Go.RowKit Go.Proofs.YtalncokpbgbccaaW.PrintWords Go.Proofs.YtalncokpbgbccaaW.PrintLast Go.Proofs.YtalncokpbgbccaaW.PrintMore
theorem el_run {o : Oper} {ρ : Operand → Value} {W : World} (p : Operand) (ho : o.op = .load 77 p) (ad : Addr) (hx : ρ p = .pointer (some ad)) (x : S77)
    (hc : ∀ j v, (entC x).toList[j]? = some v → W.cell? (ad.add j) = some v) : (execOp ρ o).run Try.prog W = .ok (.value (.agg (entC x))) W := by
  have hl := run_loadVar_at W ad (entC x).toList hc (entC_list x)
  unfold execOp
  simp only [ho, hx, Instr.loadAt, Instr.sureAddr, Sem.run_bind, Sem.run_pure, Result.andThen_ok, hl]
theorem elem_has {W W' : World} {ad : Addr} {n : Nat} {xs : List S77} (h : Kd.C k77 W (some ad) n xs) (hb : Below W.heap.size W W') (i : Nat) (hi : i < n) : ∀ j v, (entC (xs.getD i z77)).toList[j]? = some v → W'.cell? ((ad.add (i * 22)).add j) = some v := by
  obtain ⟨ad', e, hx⟩ := elem_at (Kd.C_below h hb) i hi
  cases e
  exact hx
def eqD (x y : S75) : Bool := x.f0 == y.f0 && (x.f1 == y.f1 && (x.f2 == y.f2 && (x.f3 == y.f3 && (x.f4 == y.f4 && (x.f5 == y.f5 && (x.f6 == y.f6 && (x.f7 == y.f7 && (x.f8 == y.f8 && (x.f9 == y.f9 && (x.f10 == y.f10 && (x.f11 == y.f11 && (x.f12 == y.f12 && (x.f13 == y.f13 && (x.f14 == y.f14 && (x.f15 == y.f15)))))))))))))))
/-- whether two entries are equal -/
def eqE (x y : S77) : Bool := x.f0.toList == y.f0.toList && (x.f1.toList == y.f1.toList && (x.f2 == y.f2 && (x.f3 == y.f3 && (x.f4 == y.f4 && (x.f5 == y.f5 && eqD x.f6 y.f6)))))
theorem eqE_run (x y : S77) (w : World) : (Op.equalIn 10000 77 (.agg (entC x)) (.agg (entC y))).run Try.prog w = .ok (eqE x y) w := eqA77 9997 w _ _ _ _ _ _ _ _ _ _ _ _ _ _ _ _ _ _ _ _ _ _ _ _ _ _ _ _ _ _ _ _ _ _ _ _ _ _ _ _ _ _ _ _
theorem neq_run {o : Oper} {ρ : Operand → Value} {W : World} (p q : Operand) (t : TypeId) (ho : o.op = .binOp .neq 77 p q t) (x y : S77) (hx : ρ p = .agg (entC x)) (hy : ρ q = .agg (entC y)) : (execOp ρ o).run Try.prog W = .ok (.value (.bool (!eqE x y))) W := by
  have hg : (eqGuard .neq 77 p q (.agg (entC x)) (.agg (entC y))).run Try.prog W = .ok () W := run_eqGuard_agg (P := Try.prog) (w := W) .neq 77 p q _ _ (by kernel_rfl)
  have hq := eqE_run x y W
  have hb : (binOp .neq 77 (.agg (entC x)) (.agg (entC y))).run Try.prog W = .ok (.bool (!eqE x y)) W := by rw [run_neq_struct, hq, Result.andThen_ok]
  unfold execOp
  simp only [ho, hx, hy, Sem.run_bind, hg, hb, Result.andThen_ok, Sem.run_pure]
theorem ba_inj {a b : ByteArray} (h : a.toList = b.toList) : a = b := by
  rw [Lib.toList_data, Lib.toList_data] at h
  exact ByteArray.ext (Array.toList_inj.1 h)
theorem eqD_iff (x y : S75) : eqD x y = true ↔ x = y := by
  cases x; cases y
  simp [eqD]
theorem eqE_iff (x y : S77) : eqE x y = true ↔ x = y := by
  obtain ⟨a0, a1, a2, a3, a4, a5, a6⟩ := x
  obtain ⟨b0, b1, b2, b3, b4, b5, b6⟩ := y
  simp only [eqE, Bool.and_eq_true, beq_iff_eq, eqD_iff, S77.mk.injEq]
  refine ⟨fun ⟨h0, h1, h⟩ => ⟨ba_inj h0, ba_inj h1, h⟩, fun ⟨h0, h1, h⟩ => ⟨by rw [h0], by rw [h1], h⟩⟩
/-- whether two lists of entries are equal -/
def sameL : List S77 → List S77 → Bool
  | [], [] => true
  | x :: xs, y :: ys => eqE x y && sameL xs ys
  | _, _ => false
theorem sameL_iff (l m : List S77) : sameL l m = true ↔ l = m := by
  induction l generalizing m with
  | nil => cases m <;> simp [sameL]
  | cons x xs ih => cases m with
    | nil => simp [sameL]
    | cons y ys => simp [sameL, eqE_iff, ih]
theorem sameL_len (l m : List S77) (h : l.length ≠ m.length) : sameL l m = false := by
  cases hs : sameL l m with
  | false => rfl
  | true => exact absurd (by rw [(sameL_iff l m).1 hs]) h
theorem sameL_drop (l m : List S77) (k : Nat) (h : k < l.length) (h2 : k < m.length) : sameL (l.drop k) (m.drop k) = (eqE (l.getD k z77) (m.getD k z77) && sameL (l.drop (k + 1)) (m.drop (k + 1))) := by
  rw [List.drop_eq_getElem_cons h, List.drop_eq_getElem_cons h2, sameL]
  simp [h, h2]
def rg37_6_T : Bool × List (List Nat × List Nat) := (true, [([], []), ([], []), ([0, 1], [0, 1]), ([2], [2]), ([], []), ([], []), ([4, 5], [4, 5]), ([6], [6]), ([3, 7], [3, 7])])
def rg37_6_B : List Nat := [0, 0, 3, 7, 0, 0, 48, 112, 255]
theorem rg37_6_tab : rtab .any (opsOf Try.f37 6) = rg37_6_T := by kernel_rfl
theorem rg37_6_bits : waitsOk rg37_6_T.2 rg37_6_B = true := by kernel_rfl
set_option maxRecDepth 100000 in
set_option maxHeartbeats 4000000 in
theorem same_c (l m : List S77) (A B : Option Addr) (c d : Nat) (w : World) (hr : Kd.C k77 w A l.length l) (hm : Kd.C k77 w B m.length m) (h0 : l.length ≤ 1000000) :
    Calls Try.prog 37 #[.slice A l.length c, .slice B m.length d] w fun e w' => e = .returned (.bool (sameL l m)) ∧ Below w.heap.size w w' := by
  by_cases hlen : l.length = m.length
  case neg =>
    rw [sameL_len l m hlen]
    have k1 : ((l.length : Int) == (m.length : Int)) = false := by simp; omega
    have k2 : ((l.length : Int) != (m.length : Int)) = true := by simp; omega
    clear hlen
    go_enter Try.func37, Try.ntmps37
    go_wp2_with fail
    go_ret
    exact ⟨rfl, Below.refl _ _⟩
  case pos =>
    have k1 : ((l.length : Int) == (m.length : Int)) = true := by simp; omega
    have k2 : ((l.length : Int) != (m.length : Int)) = false := by simp; omega
    obtain ⟨T, hT⟩ : ∃ T, sameL l m = T := ⟨_, rfl⟩
    have HT := Aside0.mk (show sameL (l.drop 0) (m.drop 0) = T from hT)
    rw [hT]
    have HLEN := Aside0.mk h0
    have HEQ := Aside0.mk hlen
    have HR := Aside0.mk hr
    have HM := Aside0.mk hm
    clear hr hm hT h0 hlen
    go_enter Try.func37, Try.ntmps37
    go_wp2_with fail
    go_loopw [5] (fun iv wr => ∃ (k : Nat), k ≤ l.length ∧ iv = .int .i64 k ∧ Aside0 (sameL (l.drop k) (m.drop k) = T) ∧ Aside0 (Below w.heap.size w wr)) (fun iv _ => l.length - (intOf iv).toNat)
    case atStart => exact ⟨0, Nat.zero_le _, rfl, HT, ⟨Below.refl _ _⟩⟩
    case round =>
      obtain ⟨k, hk, rfl, HQ, HB⟩ := hrel
      by_cases hlt : k < l.length
      · have hlt2 : k < m.length := by have := HEQ.out; omega
        obtain ⟨ad0, rfl, _⟩ := elem_at HR.out k hlt
        obtain ⟨bd0, rfl, _⟩ := elem_at HM.out k hlt2
        have HST := Aside0.mk (sameL_drop l m k hlt hlt2)
        have HEA := Aside0.mk (fun (W' : World) (hb : Below w.heap.size w W') => elem_has HR.out hb k hlt)
        have HEB := Aside0.mk (fun (W' : World) (hb : Below w.heap.size w W') => elem_has HM.out hb k hlt2)
        generalize l.getD k z77 = x at HST HEA
        generalize m.getD k z77 = y at HST HEB
        have HQE := Aside0.mk (eqE_run x y)
        have hk1 : (k : Int) < (l.length : Int) := by omega
        have hk3 : (k : Int) < (m.length : Int) := by omega
        have hk2 : (0 : Int) ≤ (k : Int) := by omega
        have hkw : wrap64 ((k : Int) + 1) = (k : Int) + 1 := w64 _ (by have := HLEN.out; omega) (by have := HLEN.out; omega)
        have HLT := Aside0.mk hlt
        clear hlt hlt2 hk
        go_wp2_with fail
        refine start_ (n := 9) (S := fun W => Below w.heap.size w W) (ds := []) #[false, false, false, false, false, false, false, false, false] (by kernel_rfl) rfl rfl (below_drew1 HB.out) (fun hHeld => ?_)
        refine with_tabW rg37_6_tab rg37_6_bits (fun HT_ HW_ => ?_)
        have GW := Aside0.mk (below_drew1 HB.out)
        (clear HB)
        generalize wr.drew = w2 at GW hHeld ⊢
        refine pure_ (i := 0) (N := some 17) (v := ?_) (a' := ?_) #[true, false, false, false, false, false, false, false, false] rfl rfl (any_of HT_.out (by kernel_rfl)) (fun _ _ _ h => h) (Or.inl ⟨by rfl, ?_⟩) ?_ ?_
        rotate_left
        · intro w'
          go_simp
          with_reducible rfl
        rotate_left
        · simp only [Act.put, List.setIfInBounds_toArray, List.set_cons_zero, List.set_cons_succ, i64_w, i32_w]
          rfl
        refine pure_ (i := 1) (N := some 18) (v := ?_) (a' := ?_) #[true, true, false, false, false, false, false, false, false] rfl rfl (any_of HT_.out (by kernel_rfl)) (fun _ _ _ h => h) (Or.inl ⟨by rfl, ?_⟩) ?_ ?_
        rotate_left
        · intro w'
          go_simp
          with_reducible rfl
        rotate_left
        · simp only [Act.put, List.setIfInBounds_toArray, List.set_cons_zero, List.set_cons_succ, i64_w, i32_w]
          rfl
        refine pure_ (i := 2) (N := some 19) (v := ?_) (a' := ?_) #[true, true, true, false, false, false, false, false, false] rfl rfl (any_of HT_.out (by kernel_rfl)) (fun _ _ _ h => h) (Or.inl ⟨by rfl, ?_⟩) ?_ ?_
        rotate_left
        · intro w'
          go_simp
          with_reducible rfl
        rotate_left
        · simp only [Act.put, List.setIfInBounds_toArray, List.set_cons_zero, List.set_cons_succ, i64_w, i32_w]
          rfl
        refine take_ (i := 3) (N := some 20) (v := ?_) (a' := ?_) #[true, true, true, true, false, false, false, false, false] rfl rfl (take_ofW HT_.out HW_.out (by kernel_rfl)) (fun _ _ _ h => h) (Or.inl ⟨by rfl, ?_⟩) hHeld ?_ ?_
        rotate_left
        · intro w' hW
          refine el_run (.tmp 19) ?ho (ad0.add (k * 22)) ?hx x (HEA.out w' hW)
          case ho => rfl
          case hx => rfl
        rotate_left
        · simp only [Act.put, List.setIfInBounds_toArray, List.set_cons_zero, List.set_cons_succ, i64_w, i32_w]
          rfl
        refine pure_ (i := 4) (N := some 21) (v := ?_) (a' := ?_) #[true, true, true, true, true, false, false, false, false] rfl rfl (any_of HT_.out (by kernel_rfl)) (fun _ _ _ h => h) (Or.inl ⟨by rfl, ?_⟩) ?_ ?_
        rotate_left
        · intro w'
          go_simp
          with_reducible rfl
        rotate_left
        · simp only [Act.put, List.setIfInBounds_toArray, List.set_cons_zero, List.set_cons_succ, i64_w, i32_w]
          rfl
        refine pure_ (i := 5) (N := some 22) (v := ?_) (a' := ?_) #[true, true, true, true, true, true, false, false, false] rfl rfl (any_of HT_.out (by kernel_rfl)) (fun _ _ _ h => h) (Or.inl ⟨by rfl, ?_⟩) ?_ ?_
        rotate_left
        · intro w'
          go_simp
          with_reducible rfl
        rotate_left
        · simp only [Act.put, List.setIfInBounds_toArray, List.set_cons_zero, List.set_cons_succ, i64_w, i32_w]
          rfl
        refine pure_ (i := 6) (N := some 23) (v := ?_) (a' := ?_) #[true, true, true, true, true, true, true, false, false] rfl rfl (any_of HT_.out (by kernel_rfl)) (fun _ _ _ h => h) (Or.inl ⟨by rfl, ?_⟩) ?_ ?_
        rotate_left
        · intro w'
          go_simp
          with_reducible rfl
        rotate_left
        · simp only [Act.put, List.setIfInBounds_toArray, List.set_cons_zero, List.set_cons_succ, i64_w, i32_w]
          rfl
        refine take_ (i := 7) (N := some 24) (v := ?_) (a' := ?_) #[true, true, true, true, true, true, true, true, false] rfl rfl (take_ofW HT_.out HW_.out (by kernel_rfl)) (fun _ _ _ h => h) (Or.inl ⟨by rfl, ?_⟩) hHeld ?_ ?_
        rotate_left
        · intro w' hW
          refine el_run (.tmp 23) ?ho (bd0.add (k * 22)) ?hx y (HEB.out w' hW)
          case ho => rfl
          case hx => rfl
        rotate_left
        · simp only [Act.put, List.setIfInBounds_toArray, List.set_cons_zero, List.set_cons_succ, i64_w, i32_w]
          rfl
        refine pure_ (i := 8) (N := some 25) (v := ?_) (a' := ?_) #[true, true, true, true, true, true, true, true, true] rfl rfl (any_of HT_.out (by kernel_rfl)) (fun _ _ _ h => h) (Or.inl ⟨by rfl, ?_⟩) ?_ ?_
        rotate_left
        · intro w'
          refine neq_run (.tmp 20) (.tmp 24) 77 ?ho x y ?hx ?hy
          case ho => rfl
          case hx => rfl
          case hy => rfl
        rotate_left
        · simp only [Act.put, List.setIfInBounds_toArray, List.set_cons_zero, List.set_cons_succ, i64_w, i32_w]
          rfl
        refine done_ (done_of HT_.out (by kernel_rfl)) ?_
        cases hqq : eqE x y with
        | true =>
          have HT3 := Aside0.mk (show sameL (l.drop (k + 1)) (m.drop (k + 1)) = T by rw [← HQ.out, HST.out, hqq]; rfl)
          go_wp2_with fail
          go_roundw
          case rel => exact ⟨k + 1, by have := HLT.out; omega, by rw [hkw]; simp, HT3, GW⟩
          case measure => have h9 := HLT.out; rw [hkw]; clear hkw k1 k2 hk1 hk2 hk3; show l.length - ((k : Int) + 1).toNat < l.length - (k : Int).toNat; omega
        | false =>
          have HT3 := Aside0.mk (show T = false by rw [← HQ.out, HST.out, hqq]; rfl)
          go_wp2_with fail
          go_ret
          exact ⟨by rw [HT3.out]; rfl, GW.out⟩
      · obtain rfl : k = l.length := by omega
        have HT2 := Aside0.mk (show T = true by rw [← HQ.out, List.drop_length, List.drop_eq_nil_of_le (by have := HEQ.out; omega)]; rfl)
        clear hlt hk
        go_wp2_with fail
        go_ret
        exact ⟨by rw [HT2.out]; rfl, HB.out⟩
end Go.Proofs.Ytalncokpbgbccaa.E

/- The reference's Weight: the walk. -/
namespace Go.Proofs.Ytalncokpbgbccaa.E
set_option linter.unusedVariables false
set_option linter.unusedSimpArgs false
open Go.RowKit Go.Proofs.YtalncokpbgbccaaW.PrintWords Go.Proofs.YtalncokpbgbccaaW.PrintLast Go.Proofs.YtalncokpbgbccaaW.PrintMore
end Go.Proofs.Ytalncokpbgbccaa.E

