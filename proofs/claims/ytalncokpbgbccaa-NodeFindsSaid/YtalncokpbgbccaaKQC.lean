-- A slim copy of QC, QD, SA, QE, written by wip/tools/prune2.py.
import Derived.BigFrame
import Derived.Lib.Strings
import Derived.Test.YtalncokpbgbccaaKMc
import Derived.Test.YtalncokpbgbccaaKPG
import Derived.Test.YtalncokpbgbccaaKQB
/- The reference's rest, joined. -/
namespace Go.Proofs.Ytalncokpbgbccaa.E
set_option linter.unusedVariables false
set_option linter.unusedSimpArgs false
open Go.RowKit Go.Proofs.YtalncokpbgbccaaW.PrintWords Go.Proofs.YtalncokpbgbccaaW.PrintLast Go.Proofs.YtalncokpbgbccaaW.PrintMore
end Go.Proofs.Ytalncokpbgbccaa.E

/- The reference's Weight: what it says of a list of entries. -/
namespace Go.Proofs.Ytalncokpbgbccaa.E
set_option linter.unusedVariables false
set_option linter.unusedSimpArgs false
open Go.RowKit Go.Proofs.YtalncokpbgbccaaW.PrintWords Go.Proofs.YtalncokpbgbccaaW.PrintLast Go.Proofs.YtalncokpbgbccaaW.PrintMore
end Go.Proofs.Ytalncokpbgbccaa.E

/- The reference's SameEntries: whether two lists of entries are equal, entry by entry. -/
namespace Go.Proofs.Ytalncokpbgbccaa.E
set_option linter.unusedVariables false
set_option linter.unusedSimpArgs false
open Go.RowKit Go.Proofs.YtalncokpbgbccaaW.PrintWords Go.Proofs.YtalncokpbgbccaaW.PrintLast Go.Proofs.YtalncokpbgbccaaW.PrintMore
theorem el_run {o : Oper} {ρ : Operand → Value} {W : World} (p : Operand) (ho : o.op = .load 77 p) (ad : Addr) (hx : ρ p = .pointer (some ad)) (x : S77)
    (hc : ∀ j v, (entC x).toList[j]? = some v → W.cell? (ad.add j) = some v) : (execOp ρ o).run Try.prog W = .ok (.value (.agg (entC x))) W := by
  have hl := run_loadVar_at W ad (entC x).toList hc (entC_list x)
  unfold execOp
  simp only [ho, hx, Instr.loadAt, Instr.sureAddr, Sem.run_bind, Sem.run_pure, Result.andThen_ok, hl]
theorem elem_has {W W' : World} {ad : Addr} {n : Nat} {xs : List S77} (h : Kd.C k77 W (some ad) n xs) (hb : Below W.heap.size W W') (i : Nat) (hi : i < n) : ∀ j v, (entC (xs.getD i z77)).toList[j]? = some v → W'.cell? ((ad.add (i * 22)).add j) = some v := by
  obtain ⟨ad', e, hx⟩ := elem_at (Kd.C_below h hb) i hi
  cases e
  exact hx
def eqD (x y : S75) : Bool := x.f0 == y.f0 && (x.f1 == y.f1 && (x.f2 == y.f2 && (x.f3 == y.f3 && (x.f4 == y.f4 && (x.f5 == y.f5 && (x.f6 == y.f6 && (x.f7 == y.f7 && (x.f8 == y.f8 && (x.f9 == y.f9 && (x.f10 == y.f10 && (x.f11 == y.f11 && (x.f12 == y.f12 && (x.f13 == y.f13 && (x.f14 == y.f14 && (x.f15 == y.f15)))))))))))))))
/-- whether two entries are equal -/
def eqE (x y : S77) : Bool := x.f0.toList == y.f0.toList && (x.f1.toList == y.f1.toList && (x.f2 == y.f2 && (x.f3 == y.f3 && (x.f4 == y.f4 && (x.f5 == y.f5 && eqD x.f6 y.f6)))))
theorem eqE_run (x y : S77) (w : World) : (Op.equalIn 10000 77 (.agg (entC x)) (.agg (entC y))).run Try.prog w = .ok (eqE x y) w := eqA77 9997 w _ _ _ _ _ _ _ _ _ _ _ _ _ _ _ _ _ _ _ _ _ _ _ _ _ _ _ _ _ _ _ _ _ _ _ _ _ _ _ _ _ _ _ _
theorem neq_run {o : Oper} {ρ : Operand → Value} {W : World} (p q : Operand) (t : TypeId) (ho : o.op = .binOp .neq 77 p q t) (x y : S77) (hx : ρ p = .agg (entC x)) (hy : ρ q = .agg (entC y)) : (execOp ρ o).run Try.prog W = .ok (.value (.bool (!eqE x y))) W := by
  have hg : (eqGuard .neq 77 p q (.agg (entC x)) (.agg (entC y))).run Try.prog W = .ok () W := run_eqGuard_agg (P := Try.prog) (w := W) .neq 77 p q _ _ (by kernel_rfl)
  have hq := eqE_run x y W
  have hb : (binOp .neq 77 (.agg (entC x)) (.agg (entC y))).run Try.prog W = .ok (.bool (!eqE x y)) W := by rw [run_neq_struct, hq, Result.andThen_ok]
  unfold execOp
  simp only [ho, hx, hy, Sem.run_bind, hg, hb, Result.andThen_ok, Sem.run_pure]
theorem ba_inj {a b : ByteArray} (h : a.toList = b.toList) : a = b := by
  rw [Lib.toList_data, Lib.toList_data] at h
  exact ByteArray.ext (Array.toList_inj.1 h)
theorem eqD_iff (x y : S75) : eqD x y = true ↔ x = y := by
  cases x; cases y
  simp [eqD]
theorem eqE_iff (x y : S77) : eqE x y = true ↔ x = y := by
  obtain ⟨a0, a1, a2, a3, a4, a5, a6⟩ := x
  obtain ⟨b0, b1, b2, b3, b4, b5, b6⟩ := y
  simp only [eqE, Bool.and_eq_true, beq_iff_eq, eqD_iff, S77.mk.injEq]
  refine ⟨fun ⟨h0, h1, h⟩ => ⟨ba_inj h0, ba_inj h1, h⟩, fun ⟨h0, h1, h⟩ => ⟨by rw [h0], by rw [h1], h⟩⟩
end Go.Proofs.Ytalncokpbgbccaa.E

/- The reference's Weight: the walk. -/
namespace Go.Proofs.Ytalncokpbgbccaa.E
set_option linter.unusedVariables false
set_option linter.unusedSimpArgs false
open Go.RowKit Go.Proofs.YtalncokpbgbccaaW.PrintWords Go.Proofs.YtalncokpbgbccaaW.PrintLast Go.Proofs.YtalncokpbgbccaaW.PrintMore
end Go.Proofs.Ytalncokpbgbccaa.E

