-- A slim copy of TA, TB, TC, TD, written by wip/tools/prune2.py.
import Derived.Test.YtalncokpbgbccaaUDP
import Derived.Test.YtalncokpbgbccaaURV
import Derived.Test.YtalncokpbgbccaaUSW
/- The law's own helpers: light, each, between; and the reference's Combine. -/
namespace Go.Proofs.Ytalncokpbgbccaa.E
set_option linter.unusedVariables false
set_option linter.unusedSimpArgs false
open Go.RowKit Go.Proofs.YtalncokpbgbccaaW.PrintWords Go.Proofs.YtalncokpbgbccaaW.PrintLast Go.Proofs.YtalncokpbgbccaaW.PrintMore
theorem weightR_err (o : Option Int) : ((weightR o).2 != 0) = !o.isSome := by cases o <;> rfl
end Go.Proofs.Ytalncokpbgbccaa.E

/- between: whether a key lies between two lists of a level. -/
namespace Go.Proofs.Ytalncokpbgbccaa.E
set_option linter.unusedVariables false
set_option linter.unusedSimpArgs false
open Go.RowKit Go.Proofs.YtalncokpbgbccaaW.PrintWords Go.Proofs.YtalncokpbgbccaaW.PrintLast Go.Proofs.YtalncokpbgbccaaW.PrintMore
end Go.Proofs.Ytalncokpbgbccaa.E

/- The reference's PutEntry. -/
namespace Go.Proofs.Ytalncokpbgbccaa.E
set_option linter.unusedVariables false
set_option linter.unusedSimpArgs false
open Go.RowKit Go.Proofs.YtalncokpbgbccaaW.PrintWords Go.Proofs.YtalncokpbgbccaaW.PrintLast Go.Proofs.YtalncokpbgbccaaW.PrintMore
end Go.Proofs.Ytalncokpbgbccaa.E

/- Neighbours: what Pack makes of two lists of which one is small, and of a node with one more entry. -/
namespace Go.Proofs.Ytalncokpbgbccaa.E
set_option linter.unusedVariables false
set_option linter.unusedSimpArgs false
open Go.RowKit Go.Proofs.YtalncokpbgbccaaW.PrintWords Go.Proofs.YtalncokpbgbccaaW.PrintLast Go.Proofs.YtalncokpbgbccaaW.PrintMore
theorem wt_nonneg (level : Int) (l : List S77) : 0 ≤ wt level l := by
  induction l with
  | nil => simp [wt]
  | cons x r ih =>
    have h : 0 ≤ (weighI x level).1 := by
      unfold weighI
      split
      · show 0 ≤ (x.f0.size : Int) + 27; omega
      split
      · show 0 ≤ (x.f0.size : Int) + (x.f1.size : Int) + 5; omega
      split
      · show 0 ≤ (x.f0.size : Int) + 27; omega
      split
      · show 0 ≤ (x.f0.size : Int) + 29; omega
      · show (0 : Int) ≤ 0; omega
    simp only [wt, List.map_cons, List.sum_cons] at ih ⊢
    omega
end Go.Proofs.Ytalncokpbgbccaa.E

