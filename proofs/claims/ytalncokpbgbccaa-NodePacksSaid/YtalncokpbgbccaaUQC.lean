-- A slim copy of QC, QD, SA, QE, written by wip/tools/prune2.py.
import Derived.BigFrame
import Derived.Lib.Strings
import Derived.Test.YtalncokpbgbccaaUMc
import Derived.Test.YtalncokpbgbccaaUPG
import Derived.Test.YtalncokpbgbccaaUQB
/- The reference's rest, joined. -/
namespace Go.Proofs.Ytalncokpbgbccaa.E
set_option linter.unusedVariables false
set_option linter.unusedSimpArgs false
open Go.RowKit Go.Proofs.YtalncokpbgbccaaW.PrintWords Go.Proofs.YtalncokpbgbccaaW.PrintLast Go.Proofs.YtalncokpbgbccaaW.PrintMore
theorem rest_c (x : S77) (level : Int) (hx : x.f1.size ≤ 1000000000) : ∃ s : ByteArray, (s.size : Int) = restI x level ∧ ∀ w, Calls Try.prog 89 #[.agg (entC x), .int .i64 level] w fun e w' => e = .returned (.string s) ∧ Below w.heap.size w w' := by
  have HS := Aside0.mk (fun w => understoryref04_sum.calls x.f6.f0 x.f6.f1 x.f6.f2 x.f6.f3 x.f6.f4 x.f6.f5 x.f6.f6 x.f6.f7 x.f6.f8 x.f6.f9 x.f6.f10 x.f6.f11 x.f6.f12 x.f6.f13 x.f6.f14 x.f6.f15 _ w rfl)
  have hss := strOfNums_size [x.f6.f0, x.f6.f1, x.f6.f2, x.f6.f3, x.f6.f4, x.f6.f5, x.f6.f6, x.f6.f7, x.f6.f8, x.f6.f9, x.f6.f10, x.f6.f11, x.f6.f12, x.f6.f13, x.f6.f14, x.f6.f15]
  generalize strOfNums [x.f6.f0, x.f6.f1, x.f6.f2, x.f6.f3, x.f6.f4, x.f6.f5, x.f6.f6, x.f6.f7, x.f6.f8, x.f6.f9, x.f6.f10, x.f6.f11, x.f6.f12, x.f6.f13, x.f6.f14, x.f6.f15] = sd at HS hss
  have hss : sd.size = 16 := hss
  unfold restI
  by_cases hl : 0 < level
  · obtain ⟨s1, z1, h1⟩ := number_c x.f4 4 (by omega)
    obtain ⟨s2, z2, h2⟩ := number_c x.f5 4 (by omega)
    refine ⟨(s1 ++ s2) ++ sd, ?_, fun w => rest_1 x level w s1 s2 sd hl (by omega) ⟨h1⟩ ⟨h2⟩ HS⟩
    rw [if_pos hl, ByteArray.size_append, ByteArray.size_append]
    omega
  · rw [if_neg hl]
    cases h4 : (x.f4 == 0) with
    | false =>
      obtain ⟨s0, z0, h0⟩ := number_c 65534 2 (by omega)
      obtain ⟨s1, z1, h1⟩ := number_c x.f4 4 (by omega)
      obtain ⟨s2, z2, h2⟩ := number_c x.f5 4 (by omega)
      refine ⟨((s0 ++ s1) ++ s2) ++ sd, ?_, fun w => rest_2 x level w s0 s1 s2 sd hl h4 (by omega) ⟨h0⟩ ⟨h1⟩ ⟨h2⟩ HS⟩
      rw [if_pos rfl, ByteArray.size_append, ByteArray.size_append, ByteArray.size_append]
      omega
    | true =>
      rw [if_neg (by decide)]
      cases hf : (x.f2 == 0) with
      | false =>
        obtain ⟨s0, z0, h0⟩ := number_c 65535 2 (by omega)
        obtain ⟨s1, z1, h1⟩ := number_c x.f2 4 (by omega)
        obtain ⟨s2, z2, h2⟩ := number_c x.f3 2 (by omega)
        refine ⟨((s0 ++ s1) ++ s2) ++ sd, ?_, fun w => rest_3 x level w s0 s1 s2 sd hl h4 hf (by omega) ⟨h0⟩ ⟨h1⟩ ⟨h2⟩ HS⟩
        rw [if_pos rfl, ByteArray.size_append, ByteArray.size_append, ByteArray.size_append]
        omega
      | true =>
        obtain ⟨s1, z1, h1⟩ := number_c (x.f1.size : Int) 2 (by omega)
        refine ⟨s1 ++ x.f1, ?_, fun w => rest_4 x level w s1 hl h4 hf (by omega) ⟨h1⟩⟩
        rw [if_neg (by decide), ByteArray.size_append]
        omega
end Go.Proofs.Ytalncokpbgbccaa.E

/- The reference's Weight: what it says of a list of entries. -/
namespace Go.Proofs.Ytalncokpbgbccaa.E
set_option linter.unusedVariables false
set_option linter.unusedSimpArgs false
open Go.RowKit Go.Proofs.YtalncokpbgbccaaW.PrintWords Go.Proofs.YtalncokpbgbccaaW.PrintLast Go.Proofs.YtalncokpbgbccaaW.PrintMore
/-- is an entry right, as the reference's Weight asks -/
def okE (x : S77) (level : Int) : Bool := if level = 0 then leafB x else (branchB x && decide ((x.f0.size : Int) ≤ 48))
theorem leafB_eq (x : S77) : leafB x = decide (formI x ≠ 0) := by
  unfold leafB formI
  by_cases h0 : (x.f0.size : Int) < 1
  · rw [if_pos (decide_eq_true h0), if_pos (by unfold inB; simp; omega)]; rfl
  by_cases h1 : (48 : Int) < (x.f0.size : Int)
  · rw [if_neg (by simp; omega), if_pos (decide_eq_true h1), if_pos (by unfold inB; simp; omega)]; rfl
  have hin : inB (x.f0.size : Int) 1 48 = true := by unfold inB; simp; omega
  rw [if_neg (by simp; omega), if_neg (by simp; omega), hin, if_neg (show ¬ (true = false) by decide)]
  cases h4 : (x.f4 == 0) with
  | false =>
    have e4 : ¬ x.f4 = 0 := by simpa using h4
    have hs : shortB x = false := by simp [shortB, h4]
    have hl : longB x = false := by simp [longB, h4]
    rw [if_pos rfl, hs, hl]
    cases he : x.f1.toList.isEmpty
    · have : (x.f1.toList == ([] : List UInt8)) = false := by
        cases hx : x.f1.toList with
        | nil => simp [hx] at he
        | cons a b => rfl
      simp [this]
    · have : (x.f1.toList == ([] : List UInt8)) = true := by
        cases hx : x.f1.toList with
        | nil => rfl
        | cons a b => simp [hx] at he
      simp only [this, nestB]
      rcases Bool.eq_false_or_eq_true (x.f2 == 0) with a0 | a0 <;> rcases Bool.eq_false_or_eq_true (x.f3 == 0) with a1 | a1 <;> rcases Bool.eq_false_or_eq_true (pageB x.f4) with a2 | a2 <;> rcases Bool.eq_false_or_eq_true (cntB x.f5) with a3 | a3 <;> simp [a0, a1, a2, a3]
  | true =>
    have e4 : x.f4 = 0 := by simpa using h4
    have hp4 : pageB x.f4 = false := by rw [e4]; rfl
    have hn : nestB x = false := by simp [nestB, hp4]
    rw [if_neg (by decide)]
    cases h2 : (x.f2 == 0) with
    | false =>
      have hs : shortB x = false := by simp [shortB, h2]
      rw [if_pos rfl, hs, hn]
      cases he : x.f1.toList.isEmpty
      · have : (x.f1.toList == ([] : List UInt8)) = false := by
          cases hx : x.f1.toList with
          | nil => simp [hx] at he
          | cons a b => rfl
        simp [this]
      · have : (x.f1.toList == ([] : List UInt8)) = true := by
          cases hx : x.f1.toList with
          | nil => rfl
          | cons a b => simp [hx] at he
        have hw : (decide (64 < x.f3) && decide (x.f3 ≤ 4000)) = inB x.f3 65 4000 := by
          unfold inB; rw [Bool.eq_iff_iff]; simp only [Bool.and_eq_true, decide_eq_true_eq]; omega
        simp only [this, longB, h4, ← hw]
        rcases Bool.eq_false_or_eq_true (x.f5 == 0) with a0 | a0 <;> rcases Bool.eq_false_or_eq_true (pageB x.f2) with a1 | a1 <;> rcases Bool.eq_false_or_eq_true (decide (64 < x.f3)) with a2 | a2 <;> rcases Bool.eq_false_or_eq_true (decide (x.f3 ≤ 4000)) with a3 | a3 <;> simp [a0, a1, a2, a3]
    | true =>
      have e2 : x.f2 = 0 := by simpa using h2
      have hp2 : pageB x.f2 = false := by rw [e2]; rfl
      have hl : longB x = false := by simp [longB, hp2]
      rw [if_neg (by decide), hl, hn]
      have hs : shortB x = (decide ((x.f1.size : Int) ≤ 64) && (x.f3 == 0 && (x.f5 == 0 && digZ x.f6))) := by
        simp only [shortB, h2, h4]
        cases (x.f3 == 0) <;> cases (x.f5 == 0) <;> cases (digZ x.f6) <;> cases decide ((x.f1.size : Int) ≤ 64) <;> rfl
      rw [hs]
      cases (decide ((x.f1.size : Int) ≤ 64) && (x.f3 == 0 && (x.f5 == 0 && digZ x.f6))) <;> simp
theorem weigh_ref (x : S77) (level : Int) (hl : 0 ≤ level) : (weighI x level).2 = okE x level ∧ (okE x level = true → (weighI x level).1 = 3 + (x.f0.size : Int) + restI x level) := by
  unfold weighI okE
  by_cases h0 : level = 0
  · subst h0
    rw [if_neg (by omega), if_pos rfl, leafB_eq]
    by_cases f1 : formI x = 1
    · rw [if_pos f1]
      refine ⟨by simp [f1], fun _ => ?_⟩
      have hs : shortB x = true := by
        unfold formI at f1
        split at f1; · simp at f1
        split at f1; · assumption
        repeat' split at f1
        all_goals simp at f1
      simp only [shortB, Bool.and_eq_true] at hs
      rw [restI, if_neg (by omega), if_neg (by simp [hs.2.2.1]), if_neg (by simp [hs.1])]
      show (x.f0.size : Int) + x.f1.size + 5 = _
      omega
    rw [if_neg f1]
    by_cases f2 : formI x = 2
    · rw [if_pos f2]
      refine ⟨by simp [f2], fun _ => ?_⟩
      have hs : longB x = true := by
        unfold formI at f2
        split at f2; · simp at f2
        split at f2; · simp at f2
        split at f2; · simp at f2
        split at f2; · assumption
        split at f2 <;> simp at f2
      simp only [longB, Bool.and_eq_true] at hs
      have h4 : x.f4 = 0 := by simpa using hs.1
      have h2 : (x.f2 == 0) = false := by
        have := hs.2.2.1
        simp only [pageB, inB, Bool.and_eq_true, decide_eq_true_eq] at this
        simp; omega
      rw [restI, if_neg (by omega), if_neg (by simp [h4]), if_pos h2]
      show (x.f0.size : Int) + 27 = _
      omega
    rw [if_neg f2]
    by_cases f3 : formI x = 3
    · rw [if_pos f3]
      refine ⟨by simp [f3], fun _ => ?_⟩
      have hs : nestB x = true := by
        unfold formI at f3
        split at f3; · simp at f3
        split at f3; · simp at f3
        split at f3; · simp at f3
        split at f3; · simp at f3
        split at f3; · assumption
        simp at f3
      simp only [nestB, Bool.and_eq_true] at hs
      have h4 : (x.f4 == 0) = false := by
        have := hs.2.2.1
        simp only [pageB, inB, Bool.and_eq_true, decide_eq_true_eq] at this
        simp; omega
      rw [restI, if_neg (by omega), if_pos h4]
      show (x.f0.size : Int) + 29 = _
      omega
    rw [if_neg f3]
    have : formI x = 0 := by
      unfold formI at f1 f2 f3 ⊢
      repeat' split
      all_goals first | rfl | (exfalso; simp_all)
    simp [this]
  · rw [if_pos (by omega), if_neg h0]
    refine ⟨?_, fun _ => ?_⟩
    · show brB x = _
      unfold brB branchB
      have : decide (x.f0.size ≤ 48) = decide ((x.f0.size : Int) ≤ 48) := by rw [Bool.eq_iff_iff]; simp only [decide_eq_true_eq]; omega
      rw [this]
      cases decide ((x.f0.size : Int) ≤ 48) <;> cases (x.f1.toList == ([] : List UInt8)) <;> cases (x.f2 == 0) <;> cases (x.f3 == 0) <;> cases (pageB x.f4) <;> cases (cntB x.f5) <;> rfl
    · rw [restI, if_pos (by omega)]
      show (x.f0.size : Int) + 27 = _
      omega
end Go.Proofs.Ytalncokpbgbccaa.E

/- The reference's SameEntries: whether two lists of entries are equal, entry by entry. -/
namespace Go.Proofs.Ytalncokpbgbccaa.E
set_option linter.unusedVariables false
set_option linter.unusedSimpArgs false
open Go.RowKit Go.Proofs.YtalncokpbgbccaaW.PrintWords Go.Proofs.YtalncokpbgbccaaW.PrintLast Go.Proofs.YtalncokpbgbccaaW.PrintMore
theorem el_run {o : Oper} {ρ : Operand → Value} {W : World} (p : Operand) (ho : o.op = .load 77 p) (ad : Addr) (hx : ρ p = .pointer (some ad)) (x : S77)
    (hc : ∀ j v, (entC x).toList[j]? = some v → W.cell? (ad.add j) = some v) : (execOp ρ o).run Try.prog W = .ok (.value (.agg (entC x))) W := by
  have hl := run_loadVar_at W ad (entC x).toList hc (entC_list x)
  unfold execOp
  simp only [ho, hx, Instr.loadAt, Instr.sureAddr, Sem.run_bind, Sem.run_pure, Result.andThen_ok, hl]
theorem elem_has {W W' : World} {ad : Addr} {n : Nat} {xs : List S77} (h : Kd.C k77 W (some ad) n xs) (hb : Below W.heap.size W W') (i : Nat) (hi : i < n) : ∀ j v, (entC (xs.getD i z77)).toList[j]? = some v → W'.cell? ((ad.add (i * 22)).add j) = some v := by
  obtain ⟨ad', e, hx⟩ := elem_at (Kd.C_below h hb) i hi
  cases e
  exact hx
def eqD (x y : S75) : Bool := x.f0 == y.f0 && (x.f1 == y.f1 && (x.f2 == y.f2 && (x.f3 == y.f3 && (x.f4 == y.f4 && (x.f5 == y.f5 && (x.f6 == y.f6 && (x.f7 == y.f7 && (x.f8 == y.f8 && (x.f9 == y.f9 && (x.f10 == y.f10 && (x.f11 == y.f11 && (x.f12 == y.f12 && (x.f13 == y.f13 && (x.f14 == y.f14 && (x.f15 == y.f15)))))))))))))))
/-- whether two entries are equal -/
def eqE (x y : S77) : Bool := x.f0.toList == y.f0.toList && (x.f1.toList == y.f1.toList && (x.f2 == y.f2 && (x.f3 == y.f3 && (x.f4 == y.f4 && (x.f5 == y.f5 && eqD x.f6 y.f6)))))
theorem eqE_run (x y : S77) (w : World) : (Op.equalIn 10000 77 (.agg (entC x)) (.agg (entC y))).run Try.prog w = .ok (eqE x y) w := eqA77 9997 w _ _ _ _ _ _ _ _ _ _ _ _ _ _ _ _ _ _ _ _ _ _ _ _ _ _ _ _ _ _ _ _ _ _ _ _ _ _ _ _ _ _ _ _
theorem neq_run {o : Oper} {ρ : Operand → Value} {W : World} (p q : Operand) (t : TypeId) (ho : o.op = .binOp .neq 77 p q t) (x y : S77) (hx : ρ p = .agg (entC x)) (hy : ρ q = .agg (entC y)) : (execOp ρ o).run Try.prog W = .ok (.value (.bool (!eqE x y))) W := by
  have hg : (eqGuard .neq 77 p q (.agg (entC x)) (.agg (entC y))).run Try.prog W = .ok () W := run_eqGuard_agg (P := Try.prog) (w := W) .neq 77 p q _ _ (by kernel_rfl)
  have hq := eqE_run x y W
  have hb : (binOp .neq 77 (.agg (entC x)) (.agg (entC y))).run Try.prog W = .ok (.bool (!eqE x y)) W := by rw [run_neq_struct, hq, Result.andThen_ok]
  unfold execOp
  simp only [ho, hx, hy, Sem.run_bind, hg, hb, Result.andThen_ok, Sem.run_pure]
theorem ba_inj {a b : ByteArray} (h : a.toList = b.toList) : a = b := by
  rw [Lib.toList_data, Lib.toList_data] at h
  exact ByteArray.ext (Array.toList_inj.1 h)
theorem eqD_iff (x y : S75) : eqD x y = true ↔ x = y := by
  cases x; cases y
  simp [eqD]
theorem eqE_iff (x y : S77) : eqE x y = true ↔ x = y := by
  obtain ⟨a0, a1, a2, a3, a4, a5, a6⟩ := x
  obtain ⟨b0, b1, b2, b3, b4, b5, b6⟩ := y
  simp only [eqE, Bool.and_eq_true, beq_iff_eq, eqD_iff, S77.mk.injEq]
  refine ⟨fun ⟨h0, h1, h⟩ => ⟨ba_inj h0, ba_inj h1, h⟩, fun ⟨h0, h1, h⟩ => ⟨by rw [h0], by rw [h1], h⟩⟩
/-- whether two lists of entries are equal -/
def sameL : List S77 → List S77 → Bool
  | [], [] => true
  | x :: xs, y :: ys => eqE x y && sameL xs ys
  | _, _ => false
theorem sameL_iff (l m : List S77) : sameL l m = true ↔ l = m := by
  induction l generalizing m with
  | nil => cases m <;> simp [sameL]
  | cons x xs ih => cases m with
    | nil => simp [sameL]
    | cons y ys => simp [sameL, eqE_iff, ih]
theorem sameL_len (l m : List S77) (h : l.length ≠ m.length) : sameL l m = false := by
  cases hs : sameL l m with
  | false => rfl
  | true => exact absurd (by rw [(sameL_iff l m).1 hs]) h
theorem sameL_drop (l m : List S77) (k : Nat) (h : k < l.length) (h2 : k < m.length) : sameL (l.drop k) (m.drop k) = (eqE (l.getD k z77) (m.getD k z77) && sameL (l.drop (k + 1)) (m.drop (k + 1))) := by
  rw [List.drop_eq_getElem_cons h, List.drop_eq_getElem_cons h2, sameL]
  simp [h, h2]
def rg37_6_T : Bool × List (List Nat × List Nat) := (true, [([], []), ([], []), ([0, 1], [0, 1]), ([2], [2]), ([], []), ([], []), ([4, 5], [4, 5]), ([6], [6]), ([3, 7], [3, 7])])
def rg37_6_B : List Nat := [0, 0, 3, 7, 0, 0, 48, 112, 255]
theorem rg37_6_tab : rtab .any (opsOf Try.f37 6) = rg37_6_T := by kernel_rfl
theorem rg37_6_bits : waitsOk rg37_6_T.2 rg37_6_B = true := by kernel_rfl
set_option maxRecDepth 100000 in
set_option maxHeartbeats 4000000 in
theorem same_c (l m : List S77) (A B : Option Addr) (c d : Nat) (w : World) (hr : Kd.C k77 w A l.length l) (hm : Kd.C k77 w B m.length m) (h0 : l.length ≤ 1000000) :
    Calls Try.prog 37 #[.slice A l.length c, .slice B m.length d] w fun e w' => e = .returned (.bool (sameL l m)) ∧ Below w.heap.size w w' := by
  by_cases hlen : l.length = m.length
  case neg =>
    rw [sameL_len l m hlen]
    have k1 : ((l.length : Int) == (m.length : Int)) = false := by simp; omega
    have k2 : ((l.length : Int) != (m.length : Int)) = true := by simp; omega
    clear hlen
    go_enter Try.func37, Try.ntmps37
    go_wp2_with fail
    go_ret
    exact ⟨rfl, Below.refl _ _⟩
  case pos =>
    have k1 : ((l.length : Int) == (m.length : Int)) = true := by simp; omega
    have k2 : ((l.length : Int) != (m.length : Int)) = false := by simp; omega
    obtain ⟨T, hT⟩ : ∃ T, sameL l m = T := ⟨_, rfl⟩
    have HT := Aside0.mk (show sameL (l.drop 0) (m.drop 0) = T from hT)
    rw [hT]
    have HLEN := Aside0.mk h0
    have HEQ := Aside0.mk hlen
    have HR := Aside0.mk hr
    have HM := Aside0.mk hm
    clear hr hm hT h0 hlen
    go_enter Try.func37, Try.ntmps37
    go_wp2_with fail
    go_loopw [5] (fun iv wr => ∃ (k : Nat), k ≤ l.length ∧ iv = .int .i64 k ∧ Aside0 (sameL (l.drop k) (m.drop k) = T) ∧ Aside0 (Below w.heap.size w wr)) (fun iv _ => l.length - (intOf iv).toNat)
    case atStart => exact ⟨0, Nat.zero_le _, rfl, HT, ⟨Below.refl _ _⟩⟩
    case round =>
      obtain ⟨k, hk, rfl, HQ, HB⟩ := hrel
      by_cases hlt : k < l.length
      · have hlt2 : k < m.length := by have := HEQ.out; omega
        obtain ⟨ad0, rfl, _⟩ := elem_at HR.out k hlt
        obtain ⟨bd0, rfl, _⟩ := elem_at HM.out k hlt2
        have HST := Aside0.mk (sameL_drop l m k hlt hlt2)
        have HEA := Aside0.mk (fun (W' : World) (hb : Below w.heap.size w W') => elem_has HR.out hb k hlt)
        have HEB := Aside0.mk (fun (W' : World) (hb : Below w.heap.size w W') => elem_has HM.out hb k hlt2)
        generalize l.getD k z77 = x at HST HEA
        generalize m.getD k z77 = y at HST HEB
        have HQE := Aside0.mk (eqE_run x y)
        have hk1 : (k : Int) < (l.length : Int) := by omega
        have hk3 : (k : Int) < (m.length : Int) := by omega
        have hk2 : (0 : Int) ≤ (k : Int) := by omega
        have hkw : wrap64 ((k : Int) + 1) = (k : Int) + 1 := w64 _ (by have := HLEN.out; omega) (by have := HLEN.out; omega)
        have HLT := Aside0.mk hlt
        clear hlt hlt2 hk
        go_wp2_with fail
        refine start_ (n := 9) (S := fun W => Below w.heap.size w W) (ds := []) #[false, false, false, false, false, false, false, false, false] (by kernel_rfl) rfl rfl (below_drew1 HB.out) (fun hHeld => ?_)
        refine with_tabW rg37_6_tab rg37_6_bits (fun HT_ HW_ => ?_)
        have GW := Aside0.mk (below_drew1 HB.out)
        (clear HB)
        generalize wr.drew = w2 at GW hHeld ⊢
        refine pure_ (i := 0) (N := some 17) (v := ?_) (a' := ?_) #[true, false, false, false, false, false, false, false, false] rfl rfl (any_of HT_.out (by kernel_rfl)) (fun _ _ _ h => h) (Or.inl ⟨by rfl, ?_⟩) ?_ ?_
        rotate_left
        · intro w'
          go_simp
          with_reducible rfl
        rotate_left
        · simp only [Act.put, List.setIfInBounds_toArray, List.set_cons_zero, List.set_cons_succ, i64_w, i32_w]
          rfl
        refine pure_ (i := 1) (N := some 18) (v := ?_) (a' := ?_) #[true, true, false, false, false, false, false, false, false] rfl rfl (any_of HT_.out (by kernel_rfl)) (fun _ _ _ h => h) (Or.inl ⟨by rfl, ?_⟩) ?_ ?_
        rotate_left
        · intro w'
          go_simp
          with_reducible rfl
        rotate_left
        · simp only [Act.put, List.setIfInBounds_toArray, List.set_cons_zero, List.set_cons_succ, i64_w, i32_w]
          rfl
        refine pure_ (i := 2) (N := some 19) (v := ?_) (a' := ?_) #[true, true, true, false, false, false, false, false, false] rfl rfl (any_of HT_.out (by kernel_rfl)) (fun _ _ _ h => h) (Or.inl ⟨by rfl, ?_⟩) ?_ ?_
        rotate_left
        · intro w'
          go_simp
          with_reducible rfl
        rotate_left
        · simp only [Act.put, List.setIfInBounds_toArray, List.set_cons_zero, List.set_cons_succ, i64_w, i32_w]
          rfl
        refine take_ (i := 3) (N := some 20) (v := ?_) (a' := ?_) #[true, true, true, true, false, false, false, false, false] rfl rfl (take_ofW HT_.out HW_.out (by kernel_rfl)) (fun _ _ _ h => h) (Or.inl ⟨by rfl, ?_⟩) hHeld ?_ ?_
        rotate_left
        · intro w' hW
          refine el_run (.tmp 19) ?ho (ad0.add (k * 22)) ?hx x (HEA.out w' hW)
          case ho => rfl
          case hx => rfl
        rotate_left
        · simp only [Act.put, List.setIfInBounds_toArray, List.set_cons_zero, List.set_cons_succ, i64_w, i32_w]
          rfl
        refine pure_ (i := 4) (N := some 21) (v := ?_) (a' := ?_) #[true, true, true, true, true, false, false, false, false] rfl rfl (any_of HT_.out (by kernel_rfl)) (fun _ _ _ h => h) (Or.inl ⟨by rfl, ?_⟩) ?_ ?_
        rotate_left
        · intro w'
          go_simp
          with_reducible rfl
        rotate_left
        · simp only [Act.put, List.setIfInBounds_toArray, List.set_cons_zero, List.set_cons_succ, i64_w, i32_w]
          rfl
        refine pure_ (i := 5) (N := some 22) (v := ?_) (a' := ?_) #[true, true, true, true, true, true, false, false, false] rfl rfl (any_of HT_.out (by kernel_rfl)) (fun _ _ _ h => h) (Or.inl ⟨by rfl, ?_⟩) ?_ ?_
        rotate_left
        · intro w'
          go_simp
          with_reducible rfl
        rotate_left
        · simp only [Act.put, List.setIfInBounds_toArray, List.set_cons_zero, List.set_cons_succ, i64_w, i32_w]
          rfl
        refine pure_ (i := 6) (N := some 23) (v := ?_) (a' := ?_) #[true, true, true, true, true, true, true, false, false] rfl rfl (any_of HT_.out (by kernel_rfl)) (fun _ _ _ h => h) (Or.inl ⟨by rfl, ?_⟩) ?_ ?_
        rotate_left
        · intro w'
          go_simp
          with_reducible rfl
        rotate_left
        · simp only [Act.put, List.setIfInBounds_toArray, List.set_cons_zero, List.set_cons_succ, i64_w, i32_w]
          rfl
        refine take_ (i := 7) (N := some 24) (v := ?_) (a' := ?_) #[true, true, true, true, true, true, true, true, false] rfl rfl (take_ofW HT_.out HW_.out (by kernel_rfl)) (fun _ _ _ h => h) (Or.inl ⟨by rfl, ?_⟩) hHeld ?_ ?_
        rotate_left
        · intro w' hW
          refine el_run (.tmp 23) ?ho (bd0.add (k * 22)) ?hx y (HEB.out w' hW)
          case ho => rfl
          case hx => rfl
        rotate_left
        · simp only [Act.put, List.setIfInBounds_toArray, List.set_cons_zero, List.set_cons_succ, i64_w, i32_w]
          rfl
        refine pure_ (i := 8) (N := some 25) (v := ?_) (a' := ?_) #[true, true, true, true, true, true, true, true, true] rfl rfl (any_of HT_.out (by kernel_rfl)) (fun _ _ _ h => h) (Or.inl ⟨by rfl, ?_⟩) ?_ ?_
        rotate_left
        · intro w'
          refine neq_run (.tmp 20) (.tmp 24) 77 ?ho x y ?hx ?hy
          case ho => rfl
          case hx => rfl
          case hy => rfl
        rotate_left
        · simp only [Act.put, List.setIfInBounds_toArray, List.set_cons_zero, List.set_cons_succ, i64_w, i32_w]
          rfl
        refine done_ (done_of HT_.out (by kernel_rfl)) ?_
        cases hqq : eqE x y with
        | true =>
          have HT3 := Aside0.mk (show sameL (l.drop (k + 1)) (m.drop (k + 1)) = T by rw [← HQ.out, HST.out, hqq]; rfl)
          go_wp2_with fail
          go_roundw
          case rel => exact ⟨k + 1, by have := HLT.out; omega, by rw [hkw]; simp, HT3, GW⟩
          case measure => have h9 := HLT.out; rw [hkw]; clear hkw k1 k2 hk1 hk2 hk3; show l.length - ((k : Int) + 1).toNat < l.length - (k : Int).toNat; omega
        | false =>
          have HT3 := Aside0.mk (show T = false by rw [← HQ.out, HST.out, hqq]; rfl)
          go_wp2_with fail
          go_ret
          exact ⟨by rw [HT3.out]; rfl, GW.out⟩
      · obtain rfl : k = l.length := by omega
        have HT2 := Aside0.mk (show T = true by rw [← HQ.out, List.drop_length, List.drop_eq_nil_of_le (by have := HEQ.out; omega)]; rfl)
        clear hlt hk
        go_wp2_with fail
        go_ret
        exact ⟨by rw [HT2.out]; rfl, HB.out⟩
end Go.Proofs.Ytalncokpbgbccaa.E

/- The reference's Weight: the walk. -/
namespace Go.Proofs.Ytalncokpbgbccaa.E
set_option linter.unusedVariables false
set_option linter.unusedSimpArgs false
open Go.RowKit Go.Proofs.YtalncokpbgbccaaW.PrintWords Go.Proofs.YtalncokpbgbccaaW.PrintLast Go.Proofs.YtalncokpbgbccaaW.PrintMore
theorem wpList_load_elG {ops : Array Oper} {rest : List Oper} {o : Oper} {a : Act} {W : World} {Q : Exit → Act → World → Prop} (hgd : Region.wanted o (yielded ops a.tmps) = true) (p : Operand) (ho : o.op = .load 77 p) (ad : Addr) (hx : a.eval p = .pointer (some ad)) (x : S77)
    (hc : ∀ j v, (entC x).toList[j]? = some v → W.cell? (ad.add j) = some v) (h : wpList Try.prog ops Q rest (a.put o.dst (.agg (entC x))) W) : wpList Try.prog ops Q (o :: rest) a W := by
  have hl := run_loadVar_at W ad (entC x).toList hc (entC_list x)
  refine Go.BigFrame.wpList_want hgd fun K hK => ?_
  unfold Oper.wp execOp
  simp only [ho, hx, Instr.loadAt, Instr.sureAddr, Sem.run_bind, Sem.run_pure, Result.andThen_ok, hl]
  exact hK _ _ h
def rg62_9_T : Bool × List (List Nat × List Nat) := (true, [([], []), ([0], [0]), ([1], [1]), ([], []), ([], []), ([3, 4], [3, 4]), ([5], [5]), ([6], [6]), ([7], [7]), ([2, 8], [2, 8]), ([], []), ([], []), ([10, 11], [10, 11]), ([12], [12]), ([], []), ([13, 14], [13, 14]), ([15], [15]), ([9, 16], [9, 16]), ([17, 15, 0, 1, 2, 3, 4, 5, 6, 7, 8, 9, 10, 11, 12, 13, 14, 15, 16, 17], [0, 17])])
def rg62_9_B : List Nat := [0, 1, 3, 0, 0, 24, 56, 120, 248, 511, 0, 0, 3072, 7168, 0, 31744, 64512, 131071, 262143]
theorem rg62_9_tab : rtab .any (opsOf Try.f62 9) = rg62_9_T := by kernel_rfl
theorem rg62_9_bits : waitsOk rg62_9_T.2 rg62_9_B = true := by kernel_rfl
set_option maxRecDepth 100000 in
set_option maxHeartbeats 4000000 in
theorem rw_bad (l : List S77) (A : Option Addr) (c : Nat) (level : Int) (w : World) (hl : inB level 0 20 = false) :
    Calls Try.prog 62 #[.slice A l.length c, .int .i64 level] w fun e w' => e = .returned (.agg #[.int .i64 0, .int .i64 2]) ∧ Below w.heap.size w w' := by
  have hu93 := Try.underlying93
  rcases (show level < 0 ∨ (¬ level < 0 ∧ 20 < level) by unfold inB at hl; simp at hl; omega) with h | ⟨h, h2⟩
  · have k1 : decide (level < 0) = true := decide_eq_true h
    clear h hl
    go_enter Try.func62, Try.ntmps62
    go_wp2_with fail
    refine bodyPost_ret (results_cell_row rfl _ _ w.heap.size 93 #[.int .i64 0, .int .i64 2] (0, 0) _ rfl (blk_new w _) Try.underlying93 rfl (by kernel_rfl)) rfl ?_
    exact ⟨rfl, below_alloc (Below.refl _ _) _⟩
  · have k1 : decide (level < 0) = false := decide_eq_false h
    have k2 : decide (20 < level) = true := decide_eq_true h2
    have k3 : decide (level > 20) = true := decide_eq_true h2
    clear h h2 hl
    go_enter Try.func62, Try.ntmps62
    go_wp2_with fail
    refine bodyPost_ret (results_cell_row rfl _ _ w.heap.size 93 #[.int .i64 0, .int .i64 2] (0, 0) _ rfl (blk_new w _) Try.underlying93 rfl (by kernel_rfl)) rfl ?_
    exact ⟨rfl, below_alloc (Below.refl _ _) _⟩
set_option maxRecDepth 100000 in
set_option maxHeartbeats 4000000 in
theorem rw_ok (l : List S77) (A : Option Addr) (c : Nat) (level : Int) (w : World) (hr : Kd.C k77 w A l.length l) (hf : Fine l) (hl : inB level 0 20 = true) :
    Calls Try.prog 62 #[.slice A l.length c, .int .i64 level] w fun e w' => e = .returned (.agg #[.int .i64 (weightR (weightO l level)).1, .int .i64 (weightR (weightO l level)).2]) ∧ Below w.heap.size w w' := by
  have hu93 := Try.underlying93
  have hlv : 0 ≤ level ∧ level ≤ 20 := by unfold inB at hl; simp at hl; omega
  have k1 : decide (level < 0) = false := decide_eq_false (by omega)
  have k2 : decide (20 < level) = false := decide_eq_false (by omega)
  have k3 : decide (level > 20) = false := k2
  obtain ⟨T, hT⟩ : ∃ T, weightO l level = T := ⟨_, rfl⟩
  have HT := Aside0.mk (show (wsum level (l.drop 0)).map (6 + ·) = T by rw [← hT, weightO, if_pos hl]; rfl)
  rw [hT]
  have HFI := Aside0.mk hf
  have HLV := Aside0.mk hlv
  have HR := Aside0.mk (Kd.C_below hr (below_alloc (Below.refl _ _) (.cells #[.int .i64 0, .int .i64 0] 93)))
  have HW0 := Aside0.mk (below_alloc (Below.refl w.heap.size w) (.cells #[.int .i64 0, .int .i64 0] 93))
  have HBX := Aside0.mk (blk_new w (.cells #[.int .i64 0, .int .i64 0] 93))
  clear hr hT hl hlv hf
  go_enter Try.func62, Try.ntmps62
  go_wp2_with fail
  generalize w.alloc (.cells #[.int .i64 0, .int .i64 0] 93) = W0 at HR HW0 HBX ⊢
  go_loopw [5, 6] (fun nv iv wr => ∃ (k : Nat) (a : Int), k ≤ l.length ∧ iv = .int .i64 k ∧ nv = .int .i64 a ∧ Aside0 ((wsum level (l.drop k)).map (a + ·) = T) ∧ Aside0 (0 ≤ a ∧ a ≤ 6 + k * 3000000000) ∧ Aside0 (Below W0.heap.size W0 wr)) (fun _ iv _ => l.length - (intOf iv).toNat)
  case atStart => exact ⟨0, 6, Nat.zero_le _, rfl, rfl, HT, ⟨by omega⟩, ⟨Below.refl _ _⟩⟩
  case round =>
    obtain ⟨k, a, hk, rfl, rfl, HQ, HA, HB⟩ := hrel
    by_cases hlt : k < l.length
    · obtain ⟨ad0, rfl, _⟩ := elem_at HR.out k hlt
      have HST := Aside0.mk (wsum_drop level l k hlt)
      have hsz := HFI.out.2 (l.getD k z77) (by simp [hlt])
      have HLEN := Aside0.mk HFI.out.1
      have HELW := Aside0.mk (fun (W' : World) (hb : Below W0.heap.size W0 W') => elem_has HR.out hb k hlt)
      have HKEY := Aside0.mk (fun (W' : World) (hb : Below W0.heap.size W0 W') => prev_key (Kd.C_below HR.out hb) k hlt)
      generalize l.getD k z77 = x at HST hsz HELW HKEY
      have HWR := Aside0.mk (weigh_ref x level HLV.out.1)
      have HWB := Aside0.mk (weigh_bound x level hsz)
      obtain ⟨s, hs, hrest⟩ := rest_c x level hsz.2
      have HREST := Aside0.mk hrest
      have HS := Aside0.mk hs
      have HSZ := Aside0.mk hsz
      have hk1 : (k : Int) < (l.length : Int) := by omega
      have hk2 : (0 : Int) ≤ (k : Int) := by omega
      have hkw : wrap64 ((k : Int) + 1) = (k : Int) + 1 := w64 _ (by have := HLEN.out; omega) (by have := HLEN.out; omega)
      have hq0 := HKEY.out _ HB.out
      clear hrest hs hsz
      cases hok : okE x level with
      | false =>
        have HT2 := Aside0.mk (show T = none by rw [← HQ.out, HST.out, HWR.out.1, hok]; rfl)
        by_cases h0 : level = 0
        · have k4 : (level == 0) = true := by simp [h0]
          have k5 : decide (0 < level) = false := decide_eq_false (by omega)
          have HCE := Aside0.mk (fun W => (by have := leaf_c x W; rwa [show leafB x = false from by simpa [okE, h0] using hok] at this : Calls Try.prog 87 #[.agg (entC x)] W fun e w' => e = .returned (.bool false) ∧ Below W.heap.size W w'))
          clear hok h0
          go_wp2_with (first
            | ((with_reducible refine gate_dst (N := 26) rfl ?_); refine wpList_load_elG (by rfl) (.tmp 25) rfl _ rfl x (HELW.out _ HB.out) ?_)
            | ((with_reducible refine gate_dst (N := 37) rfl ?_); refine wpList_load_elG (by rfl) (.tmp 36) rfl _ rfl x (HELW.out _ HB.out) ?_)
            | (go_at_call 87; refine (HCE.out _).mono ?_; rintro e w3 ⟨rfl, hb⟩; have HBn := Aside0.mk (below_tr3 (w := W0) HB.out hb); (clear HB hb); have HB := HBn; (clear HBn); have hq0 := HKEY.out _ HB.out; have HG := Aside0.mk (blk_below HBX.out HB.out); have y0 : w3.cell? ⟨w.heap.size, 0, none⟩ = some (.int .i64 0) := (by rw [blk_cell HG.out]; rfl); have y1 : w3.cell? ⟨w.heap.size, 1, none⟩ = some (.int .i64 0) := (by rw [blk_cell HG.out]; rfl); have z0 := blk_frozen HG.out 0; have z1 := blk_frozen HG.out 1)
            | (go_at_call 88; refine (HCE.out _).mono ?_; rintro e w3 ⟨rfl, hb⟩; have HBn := Aside0.mk (below_tr3 (w := W0) HB.out hb); (clear HB hb); have HB := HBn; (clear HBn); have hq0 := HKEY.out _ HB.out; have HG := Aside0.mk (blk_below HBX.out HB.out); have y0 : w3.cell? ⟨w.heap.size, 0, none⟩ = some (.int .i64 0) := (by rw [blk_cell HG.out]; rfl); have y1 : w3.cell? ⟨w.heap.size, 1, none⟩ = some (.int .i64 0) := (by rw [blk_cell HG.out]; rfl); have z0 := blk_frozen HG.out 0; have z1 := blk_frozen HG.out 1))
          refine bodyPost_ret (results_cell_row rfl _ _ w.heap.size 93 #[.int .i64 0, .int .i64 2] (0, 0) _ rfl (by refine blk_put (cs := #[.int .i64 0, .int .i64 0]) ?_ 1 _ rfl; refine blk_put (cs := #[.int .i64 0, .int .i64 0]) ?_ 0 _ rfl; exact HG.out) Try.underlying93 rfl (by kernel_rfl)) rfl ?_
          refine ⟨by rw [HT2.out]; rfl, ?_⟩
          exact ((HW0.out.trans (HB.out.mono HW0.out.size)).setCell (Nat.le_refl _) _).setCell (Nat.le_refl _) _
        · cases hbr : branchB x with
          | false =>
            have k4 : (level == 0) = false := by simp [h0]
            have k5 : decide (0 < level) = true := decide_eq_true (by have := HLV.out; omega)
            clear h0
            have HCE := Aside0.mk (fun W => (by have := branch_c x W; rwa [hbr] at this : Calls Try.prog 88 #[.agg (entC x)] W fun e w' => e = .returned (.bool false) ∧ Below W.heap.size W w'))
            clear hbr hok
            go_wp2_with (first
              | ((with_reducible refine gate_dst (N := 26) rfl ?_); refine wpList_load_elG (by rfl) (.tmp 25) rfl _ rfl x (HELW.out _ HB.out) ?_)
              | ((with_reducible refine gate_dst (N := 37) rfl ?_); refine wpList_load_elG (by rfl) (.tmp 36) rfl _ rfl x (HELW.out _ HB.out) ?_)
              | (go_at_call 87; refine (HCE.out _).mono ?_; rintro e w3 ⟨rfl, hb⟩; have HBn := Aside0.mk (below_tr3 (w := W0) HB.out hb); (clear HB hb); have HB := HBn; (clear HBn); have hq0 := HKEY.out _ HB.out; have HG := Aside0.mk (blk_below HBX.out HB.out); have y0 : w3.cell? ⟨w.heap.size, 0, none⟩ = some (.int .i64 0) := (by rw [blk_cell HG.out]; rfl); have y1 : w3.cell? ⟨w.heap.size, 1, none⟩ = some (.int .i64 0) := (by rw [blk_cell HG.out]; rfl); have z0 := blk_frozen HG.out 0; have z1 := blk_frozen HG.out 1)
              | (go_at_call 88; refine (HCE.out _).mono ?_; rintro e w3 ⟨rfl, hb⟩; have HBn := Aside0.mk (below_tr3 (w := W0) HB.out hb); (clear HB hb); have HB := HBn; (clear HBn); have hq0 := HKEY.out _ HB.out; have HG := Aside0.mk (blk_below HBX.out HB.out); have y0 : w3.cell? ⟨w.heap.size, 0, none⟩ = some (.int .i64 0) := (by rw [blk_cell HG.out]; rfl); have y1 : w3.cell? ⟨w.heap.size, 1, none⟩ = some (.int .i64 0) := (by rw [blk_cell HG.out]; rfl); have z0 := blk_frozen HG.out 0; have z1 := blk_frozen HG.out 1))
            refine bodyPost_ret (results_cell_row rfl _ _ w.heap.size 93 #[.int .i64 0, .int .i64 2] (0, 0) _ rfl (by refine blk_put (cs := #[.int .i64 0, .int .i64 0]) ?_ 1 _ rfl; refine blk_put (cs := #[.int .i64 0, .int .i64 0]) ?_ 0 _ rfl; exact HG.out) Try.underlying93 rfl (by kernel_rfl)) rfl ?_
            refine ⟨by rw [HT2.out]; rfl, ?_⟩
            exact ((HW0.out.trans (HB.out.mono HW0.out.size)).setCell (Nat.le_refl _) _).setCell (Nat.le_refl _) _
          | true =>
            have hky : (48 : Int) < (x.f0.size : Int) := by rw [okE, if_neg h0, hbr] at hok; simp at hok; omega
            have k6 : decide ((48 : Int) < (x.f0.size : Int)) = true := decide_eq_true (by omega)
            have k7 : decide (48 < x.f0.size) = true := decide_eq_true (by omega)
            clear hky
            have k4 : (level == 0) = false := by simp [h0]
            have k5 : decide (0 < level) = true := decide_eq_true (by have := HLV.out; omega)
            clear h0
            have HCE := Aside0.mk (fun W => (by have := branch_c x W; rwa [hbr] at this : Calls Try.prog 88 #[.agg (entC x)] W fun e w' => e = .returned (.bool true) ∧ Below W.heap.size W w'))
            clear hbr hok
            go_wp2_with (first
              | ((with_reducible refine gate_dst (N := 26) rfl ?_); refine wpList_load_elG (by rfl) (.tmp 25) rfl _ rfl x (HELW.out _ HB.out) ?_)
              | ((with_reducible refine gate_dst (N := 37) rfl ?_); refine wpList_load_elG (by rfl) (.tmp 36) rfl _ rfl x (HELW.out _ HB.out) ?_)
              | (go_at_call 87; refine (HCE.out _).mono ?_; rintro e w3 ⟨rfl, hb⟩; have HBn := Aside0.mk (below_tr3 (w := W0) HB.out hb); (clear HB hb); have HB := HBn; (clear HBn); have hq0 := HKEY.out _ HB.out; have HG := Aside0.mk (blk_below HBX.out HB.out); have y0 : w3.cell? ⟨w.heap.size, 0, none⟩ = some (.int .i64 0) := (by rw [blk_cell HG.out]; rfl); have y1 : w3.cell? ⟨w.heap.size, 1, none⟩ = some (.int .i64 0) := (by rw [blk_cell HG.out]; rfl); have z0 := blk_frozen HG.out 0; have z1 := blk_frozen HG.out 1)
              | (go_at_call 88; refine (HCE.out _).mono ?_; rintro e w3 ⟨rfl, hb⟩; have HBn := Aside0.mk (below_tr3 (w := W0) HB.out hb); (clear HB hb); have HB := HBn; (clear HBn); have hq0 := HKEY.out _ HB.out; have HG := Aside0.mk (blk_below HBX.out HB.out); have y0 : w3.cell? ⟨w.heap.size, 0, none⟩ = some (.int .i64 0) := (by rw [blk_cell HG.out]; rfl); have y1 : w3.cell? ⟨w.heap.size, 1, none⟩ = some (.int .i64 0) := (by rw [blk_cell HG.out]; rfl); have z0 := blk_frozen HG.out 0; have z1 := blk_frozen HG.out 1))
            refine bodyPost_ret (results_cell_row rfl _ _ w.heap.size 93 #[.int .i64 0, .int .i64 2] (0, 0) _ rfl (by refine blk_put (cs := #[.int .i64 0, .int .i64 0]) ?_ 1 _ rfl; refine blk_put (cs := #[.int .i64 0, .int .i64 0]) ?_ 0 _ rfl; exact HG.out) Try.underlying93 rfl (by kernel_rfl)) rfl ?_
            refine ⟨by rw [HT2.out]; rfl, ?_⟩
            exact ((HW0.out.trans (HB.out.mono HW0.out.size)).setCell (Nat.le_refl _) _).setCell (Nat.le_refl _) _
      | true =>
        have hwx := HWR.out.2 hok
        have hbx := HWB.out
        have hsx := HS.out
        obtain ⟨b1, e1⟩ : ∃ b1, b1 = a + 2 := ⟨_, rfl⟩
        obtain ⟨b2, e2⟩ : ∃ b2, b2 = b1 + 1 := ⟨_, rfl⟩
        obtain ⟨b3, e3⟩ : ∃ b3, b3 = b2 + (x.f0.size : Int) := ⟨_, rfl⟩
        obtain ⟨b4, e4⟩ : ∃ b4, b4 = b3 + (s.size : Int) := ⟨_, rfl⟩
        have hA := HA.out
        have hL := HLEN.out
        have hz := HSZ.out
        have hb4 : b4 = a + (weighI x level).1 := by omega
        have v1 : IntKind.i64.wrap (a + 2) = b1 := by rw [i64w _ (by omega) (by omega)]; omega
        have v2 : IntKind.i64.wrap (b1 + 1) = b2 := by rw [i64w _ (by omega) (by omega)]; omega
        have v3 : IntKind.i64.wrap (b2 + (x.f0.size : Int)) = b3 := by rw [i64w _ (by omega) (by omega)]; omega
        have v4 : IntKind.i64.wrap (b3 + (s.size : Int)) = b4 := by rw [i64w _ (by omega) (by omega)]; omega
        have HB4 := Aside0.mk (show 0 ≤ b4 ∧ b4 ≤ 6 + ((k + 1 : Nat) : Int) * 3000000000 by omega)
        have HT3 := Aside0.mk (show (wsum level (l.drop (k + 1))).map (b4 + ·) = T by rw [← HQ.out, HST.out, HWR.out.1, hok, if_pos rfl, Option.map_map, hb4]; congr 1; funext y; simp; omega)
        clear hwx hbx hsx hA hL hz hb4 e1 e2 e3 e4
        by_cases h0 : level = 0
        · have k4 : (level == 0) = true := by simp [h0]
          have k5 : decide (0 < level) = false := decide_eq_false (by omega)
          have HCE := Aside0.mk (fun W => (by have := leaf_c x W; rwa [show leafB x = true from by simpa [okE, h0] using hok] at this : Calls Try.prog 87 #[.agg (entC x)] W fun e w' => e = .returned (.bool true) ∧ Below W.heap.size W w'))
          clear hok h0
          go_wp2_with (first
            | ((with_reducible refine gate_dst (N := 26) rfl ?_); refine wpList_load_elG (by rfl) (.tmp 25) rfl _ rfl x (HELW.out _ HB.out) ?_)
            | ((with_reducible refine gate_dst (N := 37) rfl ?_); refine wpList_load_elG (by rfl) (.tmp 36) rfl _ rfl x (HELW.out _ HB.out) ?_)
            | (go_at_call 87; refine (HCE.out _).mono ?_; rintro e w3 ⟨rfl, hb⟩; have HBn := Aside0.mk (below_tr3 (w := W0) HB.out hb); (clear HB hb); have HB := HBn; (clear HBn); have hq0 := HKEY.out _ HB.out; have HG := Aside0.mk (blk_below HBX.out HB.out); have y0 : w3.cell? ⟨w.heap.size, 0, none⟩ = some (.int .i64 0) := (by rw [blk_cell HG.out]; rfl); have y1 : w3.cell? ⟨w.heap.size, 1, none⟩ = some (.int .i64 0) := (by rw [blk_cell HG.out]; rfl); have z0 := blk_frozen HG.out 0; have z1 := blk_frozen HG.out 1)
            | (go_at_call 88; refine (HCE.out _).mono ?_; rintro e w3 ⟨rfl, hb⟩; have HBn := Aside0.mk (below_tr3 (w := W0) HB.out hb); (clear HB hb); have HB := HBn; (clear HBn); have hq0 := HKEY.out _ HB.out; have HG := Aside0.mk (blk_below HBX.out HB.out); have y0 : w3.cell? ⟨w.heap.size, 0, none⟩ = some (.int .i64 0) := (by rw [blk_cell HG.out]; rfl); have y1 : w3.cell? ⟨w.heap.size, 1, none⟩ = some (.int .i64 0) := (by rw [blk_cell HG.out]; rfl); have z0 := blk_frozen HG.out 0; have z1 := blk_frozen HG.out 1))
          clear hq0 y0 y1 z0 z1
          have HW := HB.out
          clear HB HG
          generalize w3 = wr at HW ⊢
          refine start_ (n := 19) (S := fun W => Below W0.heap.size W0 W) (ds := []) #[false, false, false, false, false, false, false, false, false, false, false, false, false, false, false, false, false, false, false] (by kernel_rfl) rfl rfl (below_drew1 HW) (fun hHeld => ?_)
          refine with_tabW rg62_9_tab rg62_9_bits (fun HT_ HW_ => ?_)
          have GW := Aside0.mk (below_drew1 HW)
          generalize wr.drew = w2 at GW hHeld ⊢
          refine pure_ (i := 0) (N := some 52) (v := ?_) (a' := ?_) #[true, false, false, false, false, false, false, false, false, false, false, false, false, false, false, false, false, false, false] rfl rfl (any_of HT_.out (by kernel_rfl)) (fun _ _ _ h => h) (Or.inl ⟨by rfl, ?_⟩) ?_ ?_
          rotate_left
          · intro w'
            go_simp
            with_reducible rfl
          rotate_left
          · simp only [Act.put, List.setIfInBounds_toArray, List.set_cons_zero, List.set_cons_succ, i64_w, i32_w]
            rfl
          refine pure_ (i := 1) (N := some 53) (v := ?_) (a' := ?_) #[true, true, false, false, false, false, false, false, false, false, false, false, false, false, false, false, false, false, false] rfl rfl (any_of HT_.out (by kernel_rfl)) (fun _ _ _ h => h) (Or.inl ⟨by rfl, ?_⟩) ?_ ?_
          rotate_left
          · intro w'
            go_simp
            with_reducible rfl
          rotate_left
          · simp only [Act.put, List.setIfInBounds_toArray, List.set_cons_zero, List.set_cons_succ, i64_w, i32_w]
            rfl
          refine pure_ (i := 2) (N := some 54) (v := ?_) (a' := ?_) #[true, true, true, false, false, false, false, false, false, false, false, false, false, false, false, false, false, false, false] rfl rfl (any_of HT_.out (by kernel_rfl)) (fun _ _ _ h => h) (Or.inl ⟨by rfl, ?_⟩) ?_ ?_
          rotate_left
          · intro w'
            go_simp
            with_reducible rfl
          rotate_left
          · simp only [Act.put, List.setIfInBounds_toArray, List.set_cons_zero, List.set_cons_succ, i64_w, i32_w]
            rfl
          refine pure_ (i := 3) (N := some 55) (v := ?_) (a' := ?_) #[true, true, true, true, false, false, false, false, false, false, false, false, false, false, false, false, false, false, false] rfl rfl (any_of HT_.out (by kernel_rfl)) (fun _ _ _ h => h) (Or.inl ⟨by rfl, ?_⟩) ?_ ?_
          rotate_left
          · intro w'
            go_simp
            with_reducible rfl
          rotate_left
          · simp only [Act.put, List.setIfInBounds_toArray, List.set_cons_zero, List.set_cons_succ, i64_w, i32_w]
            rfl
          refine pure_ (i := 4) (N := some 56) (v := ?_) (a' := ?_) #[true, true, true, true, true, false, false, false, false, false, false, false, false, false, false, false, false, false, false] rfl rfl (any_of HT_.out (by kernel_rfl)) (fun _ _ _ h => h) (Or.inl ⟨by rfl, ?_⟩) ?_ ?_
          rotate_left
          · intro w'
            go_simp
            with_reducible rfl
          rotate_left
          · simp only [Act.put, List.setIfInBounds_toArray, List.set_cons_zero, List.set_cons_succ, i64_w, i32_w]
            rfl
          refine pure_ (i := 5) (N := some 57) (v := ?_) (a' := ?_) #[true, true, true, true, true, true, false, false, false, false, false, false, false, false, false, false, false, false, false] rfl rfl (any_of HT_.out (by kernel_rfl)) (fun _ _ _ h => h) (Or.inl ⟨by rfl, ?_⟩) ?_ ?_
          rotate_left
          · intro w'
            go_simp
            with_reducible rfl
          rotate_left
          · simp only [Act.put, List.setIfInBounds_toArray, List.set_cons_zero, List.set_cons_succ, i64_w, i32_w]
            rfl
          refine pure_ (i := 6) (N := some 58) (v := ?_) (a' := ?_) #[true, true, true, true, true, true, true, false, false, false, false, false, false, false, false, false, false, false, false] rfl rfl (any_of HT_.out (by kernel_rfl)) (fun _ _ _ h => h) (Or.inl ⟨by rfl, ?_⟩) ?_ ?_
          rotate_left
          · intro w'
            go_simp
            with_reducible rfl
          rotate_left
          · simp only [Act.put, List.setIfInBounds_toArray, List.set_cons_zero, List.set_cons_succ, i64_w, i32_w]
            rfl
          refine take_ (i := 7) (N := some 59) (v := ?_) (a' := ?_) #[true, true, true, true, true, true, true, true, false, false, false, false, false, false, false, false, false, false, false] rfl rfl (take_ofW HT_.out HW_.out (by kernel_rfl)) (fun _ _ _ h => h) (Or.inl ⟨by rfl, ?_⟩) hHeld ?_ ?_
          rotate_left
          · intro w' hW
            have q0 := HKEY.out w' hW
            go_simp
            with_reducible rfl
          rotate_left
          · simp only [Act.put, List.setIfInBounds_toArray, List.set_cons_zero, List.set_cons_succ, i64_w, i32_w]
            rfl
          refine pure_ (i := 8) (N := some 60) (v := ?_) (a' := ?_) #[true, true, true, true, true, true, true, true, true, false, false, false, false, false, false, false, false, false, false] rfl rfl (any_of HT_.out (by kernel_rfl)) (fun _ _ _ h => h) (Or.inl ⟨by rfl, ?_⟩) ?_ ?_
          rotate_left
          · intro w'
            go_simp
            with_reducible rfl
          rotate_left
          · simp only [Act.put, List.setIfInBounds_toArray, List.set_cons_zero, List.set_cons_succ, i64_w, i32_w]
            rfl
          refine pure_ (i := 9) (N := some 61) (v := ?_) (a' := ?_) #[true, true, true, true, true, true, true, true, true, true, false, false, false, false, false, false, false, false, false] rfl rfl (any_of HT_.out (by kernel_rfl)) (fun _ _ _ h => h) (Or.inl ⟨by rfl, ?_⟩) ?_ ?_
          rotate_left
          · intro w'
            go_simp
            with_reducible rfl
          rotate_left
          · simp only [Act.put, List.setIfInBounds_toArray, List.set_cons_zero, List.set_cons_succ, i64_w, i32_w]
            rfl
          refine pure_ (i := 10) (N := some 62) (v := ?_) (a' := ?_) #[true, true, true, true, true, true, true, true, true, true, true, false, false, false, false, false, false, false, false] rfl rfl (any_of HT_.out (by kernel_rfl)) (fun _ _ _ h => h) (Or.inl ⟨by rfl, ?_⟩) ?_ ?_
          rotate_left
          · intro w'
            go_simp
            with_reducible rfl
          rotate_left
          · simp only [Act.put, List.setIfInBounds_toArray, List.set_cons_zero, List.set_cons_succ, i64_w, i32_w]
            rfl
          refine pure_ (i := 11) (N := some 63) (v := ?_) (a' := ?_) #[true, true, true, true, true, true, true, true, true, true, true, true, false, false, false, false, false, false, false] rfl rfl (any_of HT_.out (by kernel_rfl)) (fun _ _ _ h => h) (Or.inl ⟨by rfl, ?_⟩) ?_ ?_
          rotate_left
          · intro w'
            go_simp
            with_reducible rfl
          rotate_left
          · simp only [Act.put, List.setIfInBounds_toArray, List.set_cons_zero, List.set_cons_succ, i64_w, i32_w]
            rfl
          refine pure_ (i := 12) (N := some 64) (v := ?_) (a' := ?_) #[true, true, true, true, true, true, true, true, true, true, true, true, true, false, false, false, false, false, false] rfl rfl (any_of HT_.out (by kernel_rfl)) (fun _ _ _ h => h) (Or.inl ⟨by rfl, ?_⟩) ?_ ?_
          rotate_left
          · intro w'
            go_simp
            with_reducible rfl
          rotate_left
          · simp only [Act.put, List.setIfInBounds_toArray, List.set_cons_zero, List.set_cons_succ, i64_w, i32_w]
            rfl
          refine take_ (i := 13) (N := some 65) (v := ?_) (a' := ?_) #[true, true, true, true, true, true, true, true, true, true, true, true, true, true, false, false, false, false, false] rfl rfl (take_ofW HT_.out HW_.out (by kernel_rfl)) (fun _ _ _ h => h) (Or.inl ⟨by rfl, ?_⟩) hHeld ?_ ?_
          rotate_left
          · intro w' hW
            have q0 := HKEY.out w' hW
            refine el_run (.tmp 64) ?ho (ad0.add (k * 22)) ?hx x (HELW.out w' hW)
            case ho => rfl
            case hx => rfl
          rotate_left
          · simp only [Act.put, List.setIfInBounds_toArray, List.set_cons_zero, List.set_cons_succ, i64_w, i32_w]
            rfl
          refine pure_ (i := 14) (N := some 66) (v := ?_) (a' := ?_) #[true, true, true, true, true, true, true, true, true, true, true, true, true, true, true, false, false, false, false] rfl rfl (any_of HT_.out (by kernel_rfl)) (fun _ _ _ h => h) (Or.inl ⟨by rfl, ?_⟩) ?_ ?_
          rotate_left
          · intro w'
            go_simp
            with_reducible rfl
          rotate_left
          · simp only [Act.put, List.setIfInBounds_toArray, List.set_cons_zero, List.set_cons_succ, i64_w, i32_w]
            rfl
          refine one_ (i := 15) (N := some 67) #[true, true, true, true, true, true, true, true, true, true, true, true, true, true, true, true, false, false, false] rfl rfl (one_of HT_.out (by kernel_rfl)) (by decide) (fun K hK => ?_)
          refine goes_ Try.func89 (by kernel_rfl) rfl #[.agg (entC x), .int .i64 level] (by rfl) rfl rfl (by (try simp only [List.map_toArray, List.map_cons, List.map_nil]); first | done | rfl) ?_
          refine (HREST.out _).mono ?_
          rintro e w3 ⟨rfl, hb⟩
          refine ⟨_, rfl, ?_⟩
          have GW3 := Aside0.mk (below_tr3 (w := W0) GW.out hb)
          clear hb GW hHeld
          refine hK.out _ _ (GW3.out) (fun hHeld => ?_)
          clear hK K
          refine norm_ (a' := ?_) ?_ ?_
          rotate_left
          · show Act.put _ (some 67) _ = _
            simp only [Act.put, List.setIfInBounds_toArray, List.set_cons_zero, List.set_cons_succ, i64_w, i32_w]
            rfl
          refine pure_ (i := 16) (N := some 68) (v := ?_) (a' := ?_) #[true, true, true, true, true, true, true, true, true, true, true, true, true, true, true, true, true, false, false] rfl rfl (any_of HT_.out (by kernel_rfl)) (fun _ _ _ h => h) (Or.inl ⟨by rfl, ?_⟩) ?_ ?_
          rotate_left
          · intro w'
            go_simp
            with_reducible rfl
          rotate_left
          · simp only [Act.put, List.setIfInBounds_toArray, List.set_cons_zero, List.set_cons_succ, i64_w, i32_w]
            rfl
          refine pure_ (i := 17) (N := some 69) (v := ?_) (a' := ?_) #[true, true, true, true, true, true, true, true, true, true, true, true, true, true, true, true, true, true, false] rfl rfl (any_of HT_.out (by kernel_rfl)) (fun _ _ _ h => h) (Or.inl ⟨by rfl, ?_⟩) ?_ ?_
          rotate_left
          · intro w'
            go_simp
            with_reducible rfl
          rotate_left
          · simp only [Act.put, List.setIfInBounds_toArray, List.set_cons_zero, List.set_cons_succ, i64_w, i32_w]
            rfl
          refine pure_ (i := 18) (N := some 5) (v := ?_) (a' := ?_) #[true, true, true, true, true, true, true, true, true, true, true, true, true, true, true, true, true, true, true] rfl rfl (any_of HT_.out (by kernel_rfl)) (fun _ _ _ h => h) (Or.inl ⟨by rfl, ?_⟩) ?_ ?_
          rotate_left
          · intro w'
            go_simp
            with_reducible rfl
          rotate_left
          · simp only [Act.put, List.setIfInBounds_toArray, List.set_cons_zero, List.set_cons_succ, i64_w, i32_w]
            rfl
          refine done_ (done_of HT_.out (by kernel_rfl)) ?_
          go_wp2_with fail
          go_roundw
          case rel => exact ⟨k + 1, b4, by clear hkw; omega, by rw [hkw]; simp, rfl, HT3, HB4, GW3⟩
          case measure => (rw [hkw]; (clear hkw k4 k5 hk1 hk2); show l.length - ((k : Int) + 1).toNat < l.length - (k : Int).toNat; omega)
        · have hky : ¬ (48 : Int) < (x.f0.size : Int) := by rw [okE, if_neg h0] at hok; simp at hok; omega
          have hbr : branchB x = true := by rw [okE, if_neg h0] at hok; simp at hok; exact hok.1
          have k6 : decide ((48 : Int) < (x.f0.size : Int)) = false := decide_eq_false (by omega)
          have k7 : decide (48 < x.f0.size) = false := decide_eq_false (by omega)
          clear hky
          have k4 : (level == 0) = false := by simp [h0]
          have k5 : decide (0 < level) = true := decide_eq_true (by have := HLV.out; omega)
          clear h0
          have HCE := Aside0.mk (fun W => (by have := branch_c x W; rwa [hbr] at this : Calls Try.prog 88 #[.agg (entC x)] W fun e w' => e = .returned (.bool true) ∧ Below W.heap.size W w'))
          clear hbr hok
          go_wp2_with (first
            | ((with_reducible refine gate_dst (N := 26) rfl ?_); refine wpList_load_elG (by rfl) (.tmp 25) rfl _ rfl x (HELW.out _ HB.out) ?_)
            | ((with_reducible refine gate_dst (N := 37) rfl ?_); refine wpList_load_elG (by rfl) (.tmp 36) rfl _ rfl x (HELW.out _ HB.out) ?_)
            | (go_at_call 87; refine (HCE.out _).mono ?_; rintro e w3 ⟨rfl, hb⟩; have HBn := Aside0.mk (below_tr3 (w := W0) HB.out hb); (clear HB hb); have HB := HBn; (clear HBn); have hq0 := HKEY.out _ HB.out; have HG := Aside0.mk (blk_below HBX.out HB.out); have y0 : w3.cell? ⟨w.heap.size, 0, none⟩ = some (.int .i64 0) := (by rw [blk_cell HG.out]; rfl); have y1 : w3.cell? ⟨w.heap.size, 1, none⟩ = some (.int .i64 0) := (by rw [blk_cell HG.out]; rfl); have z0 := blk_frozen HG.out 0; have z1 := blk_frozen HG.out 1)
            | (go_at_call 88; refine (HCE.out _).mono ?_; rintro e w3 ⟨rfl, hb⟩; have HBn := Aside0.mk (below_tr3 (w := W0) HB.out hb); (clear HB hb); have HB := HBn; (clear HBn); have hq0 := HKEY.out _ HB.out; have HG := Aside0.mk (blk_below HBX.out HB.out); have y0 : w3.cell? ⟨w.heap.size, 0, none⟩ = some (.int .i64 0) := (by rw [blk_cell HG.out]; rfl); have y1 : w3.cell? ⟨w.heap.size, 1, none⟩ = some (.int .i64 0) := (by rw [blk_cell HG.out]; rfl); have z0 := blk_frozen HG.out 0; have z1 := blk_frozen HG.out 1))
          clear hq0 y0 y1 z0 z1
          have HW := HB.out
          clear HB HG
          generalize w3 = wr at HW ⊢
          refine start_ (n := 19) (S := fun W => Below W0.heap.size W0 W) (ds := []) #[false, false, false, false, false, false, false, false, false, false, false, false, false, false, false, false, false, false, false] (by kernel_rfl) rfl rfl (below_drew1 HW) (fun hHeld => ?_)
          refine with_tabW rg62_9_tab rg62_9_bits (fun HT_ HW_ => ?_)
          have GW := Aside0.mk (below_drew1 HW)
          generalize wr.drew = w2 at GW hHeld ⊢
          refine pure_ (i := 0) (N := some 52) (v := ?_) (a' := ?_) #[true, false, false, false, false, false, false, false, false, false, false, false, false, false, false, false, false, false, false] rfl rfl (any_of HT_.out (by kernel_rfl)) (fun _ _ _ h => h) (Or.inl ⟨by rfl, ?_⟩) ?_ ?_
          rotate_left
          · intro w'
            go_simp
            with_reducible rfl
          rotate_left
          · simp only [Act.put, List.setIfInBounds_toArray, List.set_cons_zero, List.set_cons_succ, i64_w, i32_w]
            rfl
          refine pure_ (i := 1) (N := some 53) (v := ?_) (a' := ?_) #[true, true, false, false, false, false, false, false, false, false, false, false, false, false, false, false, false, false, false] rfl rfl (any_of HT_.out (by kernel_rfl)) (fun _ _ _ h => h) (Or.inl ⟨by rfl, ?_⟩) ?_ ?_
          rotate_left
          · intro w'
            go_simp
            with_reducible rfl
          rotate_left
          · simp only [Act.put, List.setIfInBounds_toArray, List.set_cons_zero, List.set_cons_succ, i64_w, i32_w]
            rfl
          refine pure_ (i := 2) (N := some 54) (v := ?_) (a' := ?_) #[true, true, true, false, false, false, false, false, false, false, false, false, false, false, false, false, false, false, false] rfl rfl (any_of HT_.out (by kernel_rfl)) (fun _ _ _ h => h) (Or.inl ⟨by rfl, ?_⟩) ?_ ?_
          rotate_left
          · intro w'
            go_simp
            with_reducible rfl
          rotate_left
          · simp only [Act.put, List.setIfInBounds_toArray, List.set_cons_zero, List.set_cons_succ, i64_w, i32_w]
            rfl
          refine pure_ (i := 3) (N := some 55) (v := ?_) (a' := ?_) #[true, true, true, true, false, false, false, false, false, false, false, false, false, false, false, false, false, false, false] rfl rfl (any_of HT_.out (by kernel_rfl)) (fun _ _ _ h => h) (Or.inl ⟨by rfl, ?_⟩) ?_ ?_
          rotate_left
          · intro w'
            go_simp
            with_reducible rfl
          rotate_left
          · simp only [Act.put, List.setIfInBounds_toArray, List.set_cons_zero, List.set_cons_succ, i64_w, i32_w]
            rfl
          refine pure_ (i := 4) (N := some 56) (v := ?_) (a' := ?_) #[true, true, true, true, true, false, false, false, false, false, false, false, false, false, false, false, false, false, false] rfl rfl (any_of HT_.out (by kernel_rfl)) (fun _ _ _ h => h) (Or.inl ⟨by rfl, ?_⟩) ?_ ?_
          rotate_left
          · intro w'
            go_simp
            with_reducible rfl
          rotate_left
          · simp only [Act.put, List.setIfInBounds_toArray, List.set_cons_zero, List.set_cons_succ, i64_w, i32_w]
            rfl
          refine pure_ (i := 5) (N := some 57) (v := ?_) (a' := ?_) #[true, true, true, true, true, true, false, false, false, false, false, false, false, false, false, false, false, false, false] rfl rfl (any_of HT_.out (by kernel_rfl)) (fun _ _ _ h => h) (Or.inl ⟨by rfl, ?_⟩) ?_ ?_
          rotate_left
          · intro w'
            go_simp
            with_reducible rfl
          rotate_left
          · simp only [Act.put, List.setIfInBounds_toArray, List.set_cons_zero, List.set_cons_succ, i64_w, i32_w]
            rfl
          refine pure_ (i := 6) (N := some 58) (v := ?_) (a' := ?_) #[true, true, true, true, true, true, true, false, false, false, false, false, false, false, false, false, false, false, false] rfl rfl (any_of HT_.out (by kernel_rfl)) (fun _ _ _ h => h) (Or.inl ⟨by rfl, ?_⟩) ?_ ?_
          rotate_left
          · intro w'
            go_simp
            with_reducible rfl
          rotate_left
          · simp only [Act.put, List.setIfInBounds_toArray, List.set_cons_zero, List.set_cons_succ, i64_w, i32_w]
            rfl
          refine take_ (i := 7) (N := some 59) (v := ?_) (a' := ?_) #[true, true, true, true, true, true, true, true, false, false, false, false, false, false, false, false, false, false, false] rfl rfl (take_ofW HT_.out HW_.out (by kernel_rfl)) (fun _ _ _ h => h) (Or.inl ⟨by rfl, ?_⟩) hHeld ?_ ?_
          rotate_left
          · intro w' hW
            have q0 := HKEY.out w' hW
            go_simp
            with_reducible rfl
          rotate_left
          · simp only [Act.put, List.setIfInBounds_toArray, List.set_cons_zero, List.set_cons_succ, i64_w, i32_w]
            rfl
          refine pure_ (i := 8) (N := some 60) (v := ?_) (a' := ?_) #[true, true, true, true, true, true, true, true, true, false, false, false, false, false, false, false, false, false, false] rfl rfl (any_of HT_.out (by kernel_rfl)) (fun _ _ _ h => h) (Or.inl ⟨by rfl, ?_⟩) ?_ ?_
          rotate_left
          · intro w'
            go_simp
            with_reducible rfl
          rotate_left
          · simp only [Act.put, List.setIfInBounds_toArray, List.set_cons_zero, List.set_cons_succ, i64_w, i32_w]
            rfl
          refine pure_ (i := 9) (N := some 61) (v := ?_) (a' := ?_) #[true, true, true, true, true, true, true, true, true, true, false, false, false, false, false, false, false, false, false] rfl rfl (any_of HT_.out (by kernel_rfl)) (fun _ _ _ h => h) (Or.inl ⟨by rfl, ?_⟩) ?_ ?_
          rotate_left
          · intro w'
            go_simp
            with_reducible rfl
          rotate_left
          · simp only [Act.put, List.setIfInBounds_toArray, List.set_cons_zero, List.set_cons_succ, i64_w, i32_w]
            rfl
          refine pure_ (i := 10) (N := some 62) (v := ?_) (a' := ?_) #[true, true, true, true, true, true, true, true, true, true, true, false, false, false, false, false, false, false, false] rfl rfl (any_of HT_.out (by kernel_rfl)) (fun _ _ _ h => h) (Or.inl ⟨by rfl, ?_⟩) ?_ ?_
          rotate_left
          · intro w'
            go_simp
            with_reducible rfl
          rotate_left
          · simp only [Act.put, List.setIfInBounds_toArray, List.set_cons_zero, List.set_cons_succ, i64_w, i32_w]
            rfl
          refine pure_ (i := 11) (N := some 63) (v := ?_) (a' := ?_) #[true, true, true, true, true, true, true, true, true, true, true, true, false, false, false, false, false, false, false] rfl rfl (any_of HT_.out (by kernel_rfl)) (fun _ _ _ h => h) (Or.inl ⟨by rfl, ?_⟩) ?_ ?_
          rotate_left
          · intro w'
            go_simp
            with_reducible rfl
          rotate_left
          · simp only [Act.put, List.setIfInBounds_toArray, List.set_cons_zero, List.set_cons_succ, i64_w, i32_w]
            rfl
          refine pure_ (i := 12) (N := some 64) (v := ?_) (a' := ?_) #[true, true, true, true, true, true, true, true, true, true, true, true, true, false, false, false, false, false, false] rfl rfl (any_of HT_.out (by kernel_rfl)) (fun _ _ _ h => h) (Or.inl ⟨by rfl, ?_⟩) ?_ ?_
          rotate_left
          · intro w'
            go_simp
            with_reducible rfl
          rotate_left
          · simp only [Act.put, List.setIfInBounds_toArray, List.set_cons_zero, List.set_cons_succ, i64_w, i32_w]
            rfl
          refine take_ (i := 13) (N := some 65) (v := ?_) (a' := ?_) #[true, true, true, true, true, true, true, true, true, true, true, true, true, true, false, false, false, false, false] rfl rfl (take_ofW HT_.out HW_.out (by kernel_rfl)) (fun _ _ _ h => h) (Or.inl ⟨by rfl, ?_⟩) hHeld ?_ ?_
          rotate_left
          · intro w' hW
            have q0 := HKEY.out w' hW
            refine el_run (.tmp 64) ?ho (ad0.add (k * 22)) ?hx x (HELW.out w' hW)
            case ho => rfl
            case hx => rfl
          rotate_left
          · simp only [Act.put, List.setIfInBounds_toArray, List.set_cons_zero, List.set_cons_succ, i64_w, i32_w]
            rfl
          refine pure_ (i := 14) (N := some 66) (v := ?_) (a' := ?_) #[true, true, true, true, true, true, true, true, true, true, true, true, true, true, true, false, false, false, false] rfl rfl (any_of HT_.out (by kernel_rfl)) (fun _ _ _ h => h) (Or.inl ⟨by rfl, ?_⟩) ?_ ?_
          rotate_left
          · intro w'
            go_simp
            with_reducible rfl
          rotate_left
          · simp only [Act.put, List.setIfInBounds_toArray, List.set_cons_zero, List.set_cons_succ, i64_w, i32_w]
            rfl
          refine one_ (i := 15) (N := some 67) #[true, true, true, true, true, true, true, true, true, true, true, true, true, true, true, true, false, false, false] rfl rfl (one_of HT_.out (by kernel_rfl)) (by decide) (fun K hK => ?_)
          refine goes_ Try.func89 (by kernel_rfl) rfl #[.agg (entC x), .int .i64 level] (by rfl) rfl rfl (by (try simp only [List.map_toArray, List.map_cons, List.map_nil]); first | done | rfl) ?_
          refine (HREST.out _).mono ?_
          rintro e w3 ⟨rfl, hb⟩
          refine ⟨_, rfl, ?_⟩
          have GW3 := Aside0.mk (below_tr3 (w := W0) GW.out hb)
          clear hb GW hHeld
          refine hK.out _ _ (GW3.out) (fun hHeld => ?_)
          clear hK K
          refine norm_ (a' := ?_) ?_ ?_
          rotate_left
          · show Act.put _ (some 67) _ = _
            simp only [Act.put, List.setIfInBounds_toArray, List.set_cons_zero, List.set_cons_succ, i64_w, i32_w]
            rfl
          refine pure_ (i := 16) (N := some 68) (v := ?_) (a' := ?_) #[true, true, true, true, true, true, true, true, true, true, true, true, true, true, true, true, true, false, false] rfl rfl (any_of HT_.out (by kernel_rfl)) (fun _ _ _ h => h) (Or.inl ⟨by rfl, ?_⟩) ?_ ?_
          rotate_left
          · intro w'
            go_simp
            with_reducible rfl
          rotate_left
          · simp only [Act.put, List.setIfInBounds_toArray, List.set_cons_zero, List.set_cons_succ, i64_w, i32_w]
            rfl
          refine pure_ (i := 17) (N := some 69) (v := ?_) (a' := ?_) #[true, true, true, true, true, true, true, true, true, true, true, true, true, true, true, true, true, true, false] rfl rfl (any_of HT_.out (by kernel_rfl)) (fun _ _ _ h => h) (Or.inl ⟨by rfl, ?_⟩) ?_ ?_
          rotate_left
          · intro w'
            go_simp
            with_reducible rfl
          rotate_left
          · simp only [Act.put, List.setIfInBounds_toArray, List.set_cons_zero, List.set_cons_succ, i64_w, i32_w]
            rfl
          refine pure_ (i := 18) (N := some 5) (v := ?_) (a' := ?_) #[true, true, true, true, true, true, true, true, true, true, true, true, true, true, true, true, true, true, true] rfl rfl (any_of HT_.out (by kernel_rfl)) (fun _ _ _ h => h) (Or.inl ⟨by rfl, ?_⟩) ?_ ?_
          rotate_left
          · intro w'
            go_simp
            with_reducible rfl
          rotate_left
          · simp only [Act.put, List.setIfInBounds_toArray, List.set_cons_zero, List.set_cons_succ, i64_w, i32_w]
            rfl
          refine done_ (done_of HT_.out (by kernel_rfl)) ?_
          go_wp2_with fail
          go_roundw
          case rel => exact ⟨k + 1, b4, by clear hkw; omega, by rw [hkw]; simp, rfl, HT3, HB4, GW3⟩
          case measure => (rw [hkw]; (clear hkw k4 k5 hk1 hk2); show l.length - ((k : Int) + 1).toNat < l.length - (k : Int).toNat; omega)
    · obtain rfl : k = l.length := by omega
      have HT2 := Aside0.mk (show T = some a by rw [← HQ.out, List.drop_length]; simp [wsum])
      have HG := Aside0.mk (blk_below HBX.out HB.out)
      have y0 : wr.cell? ⟨w.heap.size, 0, none⟩ = some (.int .i64 0) := by rw [blk_cell HG.out]; rfl
      have y1 : wr.cell? ⟨w.heap.size, 1, none⟩ = some (.int .i64 0) := by rw [blk_cell HG.out]; rfl
      have z0 := blk_frozen HG.out 0
      have z1 := blk_frozen HG.out 1
      go_wp2_with fail
      refine bodyPost_ret (results_cell_row rfl _ _ w.heap.size 93 #[.int .i64 a, .int .i64 0] (0, 0) _ rfl (by refine blk_put (cs := #[.int .i64 a, .int .i64 0]) ?_ 1 _ rfl; refine blk_put (cs := #[.int .i64 0, .int .i64 0]) ?_ 0 _ rfl; exact HG.out) Try.underlying93 rfl (by kernel_rfl)) rfl ?_
      refine ⟨by rw [HT2.out]; rfl, ?_⟩
      exact ((HW0.out.trans (HB.out.mono HW0.out.size)).setCell (Nat.le_refl _) _).setCell (Nat.le_refl _) _
end Go.Proofs.Ytalncokpbgbccaa.E

