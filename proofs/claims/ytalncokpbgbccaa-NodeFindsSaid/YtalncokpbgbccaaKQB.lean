-- A slim copy of QB, written by wip/tools/prune2.py.
import Derived.Test.YtalncokpbgbccaaKPG
import Derived.Test.YtalncokpbgbccaaKRh
/- The reference's Number and rest: they answer; how long their strings are. -/
namespace Go.Proofs.Ytalncokpbgbccaa.E
set_option linter.unusedVariables false
set_option linter.unusedSimpArgs false
open Go.RowKit Go.Proofs.YtalncokpbgbccaaW.PrintWords Go.Proofs.YtalncokpbgbccaaW.PrintLast Go.Proofs.YtalncokpbgbccaaW.PrintMore
end Go.Proofs.Ytalncokpbgbccaa.E

