-- A slim copy of TD, written by wip/tools/prune2.py.
import Derived.Test.YtalncokpbgbccaaKTC
/- Neighbours: what Pack makes of two lists of which one is small, and of a node with one more entry. -/
namespace Go.Proofs.Ytalncokpbgbccaa.E
set_option linter.unusedVariables false
set_option linter.unusedSimpArgs false
open Go.RowKit Go.Proofs.YtalncokpbgbccaaW.PrintWords Go.Proofs.YtalncokpbgbccaaW.PrintLast Go.Proofs.YtalncokpbgbccaaW.PrintMore
theorem okAt_iff {l : List S77} {level : Int} {i : Nat} (h : ¬ (level > 0 ∧ i = 0)) : okAt l level i = true ↔ 1 ≤ (l.getD i z77).f0.size ∧ (l.getD i z77).f0.size ≤ 48 ∧ (i = 0 ∨ Op.bytesLess (l.getD (i - 1) z77).f0.toList (l.getD i z77).f0.toList = true) := by
  unfold okAt
  rw [if_neg h]
  simp only [Bool.and_eq_true, Bool.or_eq_true, decide_eq_true_eq]
end Go.Proofs.Ytalncokpbgbccaa.E

