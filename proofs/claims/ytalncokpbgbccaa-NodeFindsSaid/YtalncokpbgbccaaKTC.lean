-- A slim copy of TC, written by wip/tools/prune2.py.
import Derived.Test.YtalncokpbgbccaaKTB
/- The reference's PutEntry. -/
namespace Go.Proofs.Ytalncokpbgbccaa.E
set_option linter.unusedVariables false
set_option linter.unusedSimpArgs false
open Go.RowKit Go.Proofs.YtalncokpbgbccaaW.PrintWords Go.Proofs.YtalncokpbgbccaaW.PrintLast Go.Proofs.YtalncokpbgbccaaW.PrintMore
/-- a list with an entry put in at place r, in the place of the one there if is -/
def rputL (l : List S77) (x : S77) (r : Nat) (is : Bool) : List S77 := l.take r ++ [x] ++ l.drop (if is = true then r + 1 else r)
end Go.Proofs.Ytalncokpbgbccaa.E

