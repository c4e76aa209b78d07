-- A slim copy of TD, written by wip/tools/prune2.py.
import Derived.Test.YtalncokpbgbccaaKTC
/- Neighbours: what Pack makes of two lists of which one is small, and of a node with one more entry. -/
namespace Go.Proofs.Ytalncokpbgbccaa.E
set_option linter.unusedVariables false
set_option linter.unusedSimpArgs false
open Go.RowKit Go.Proofs.YtalncokpbgbccaaW.PrintWords Go.Proofs.YtalncokpbgbccaaW.PrintLast Go.Proofs.YtalncokpbgbccaaW.PrintMore
end Go.Proofs.Ytalncokpbgbccaa.E

