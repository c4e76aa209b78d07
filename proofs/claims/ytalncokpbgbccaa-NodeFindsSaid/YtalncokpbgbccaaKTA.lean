-- A slim copy of TA, written by wip/tools/prune2.py.
import Derived.Test.YtalncokpbgbccaaKDP
import Derived.Test.YtalncokpbgbccaaKRV
import Derived.Test.YtalncokpbgbccaaKSW
/- The law's own helpers: light, each, between; and the reference's Combine. -/
namespace Go.Proofs.Ytalncokpbgbccaa.E
set_option linter.unusedVariables false
set_option linter.unusedSimpArgs false
open Go.RowKit Go.Proofs.YtalncokpbgbccaaW.PrintWords Go.Proofs.YtalncokpbgbccaaW.PrintLast Go.Proofs.YtalncokpbgbccaaW.PrintMore
end Go.Proofs.Ytalncokpbgbccaa.E

