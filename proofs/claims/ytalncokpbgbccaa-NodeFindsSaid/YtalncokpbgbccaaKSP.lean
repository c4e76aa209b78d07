-- A slim copy of SP, SR, written by wip/tools/prune2.py.
import Derived.Test.YtalncokpbgbccaaKMh
import Derived.Test.YtalncokpbgbccaaKPO
import Derived.Test.YtalncokpbgbccaaKRV
import Derived.Test.YtalncokpbgbccaaKRh
/- What Pack answers: it divides whatever is right, and each separator is the one of its place. -/
namespace Go.Proofs.Ytalncokpbgbccaa.E
set_option linter.unusedVariables false
set_option linter.unusedSimpArgs false
open Go.RowKit Go.Proofs.YtalncokpbgbccaaW.PrintWords Go.Proofs.YtalncokpbgbccaaW.PrintLast Go.Proofs.YtalncokpbgbccaaW.PrintMore
/-- how many entries lie in the first parts -/
def atP (p : List (List S77)) (i : Nat) : Nat := ((p.take i).map List.length).sum
end Go.Proofs.Ytalncokpbgbccaa.E

/- right: the law's own test. -/
namespace Go.Proofs.Ytalncokpbgbccaa.E
set_option linter.unusedVariables false
set_option linter.unusedSimpArgs false
open Go.RowKit Go.Proofs.YtalncokpbgbccaaW.PrintWords Go.Proofs.YtalncokpbgbccaaW.PrintLast Go.Proofs.YtalncokpbgbccaaW.PrintMore
end Go.Proofs.Ytalncokpbgbccaa.E

