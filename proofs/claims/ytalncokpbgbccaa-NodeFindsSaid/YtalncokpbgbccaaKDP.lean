-- A slim copy of DP, CB, written by wip/tools/prune2.py.
import Derived.Test.YtalncokpbgbccaaKMj
import Derived.Test.YtalncokpbgbccaaKPG
import Derived.Test.YtalncokpbgbccaaKSP
/- What Pack answers: each part is valid, fits, is not small if there are more; put together again they are the list. -/
namespace Go.Proofs.Ytalncokpbgbccaa.E
set_option linter.unusedVariables false
set_option linter.unusedSimpArgs false
open Go.RowKit Go.Proofs.YtalncokpbgbccaaW.PrintWords Go.Proofs.YtalncokpbgbccaaW.PrintLast Go.Proofs.YtalncokpbgbccaaW.PrintMore
/-- what Pack's parts are -/
structure PartOk (l : List S77) (level : Int) (x : List (List S77) × List ByteArray) (i : Nat) : Prop where
  pack : packable (x.1.getD i []) level = true
  bar : bare level (x.1.getD i []) = x.1.getD i []
  len : 1 ≤ (x.1.getD i []).length
  fits : 6 + wt level (x.1.getD i []) ≤ 496
  big : (2 ≤ x.1.length ∨ 166 ≤ 6 + wt level l) → 166 ≤ 6 + wt level (x.1.getD i [])
  is : x.1.getD i [] = bare level ((l.drop (atP x.1 i)).take (x.1.getD i []).length)
end Go.Proofs.Ytalncokpbgbccaa.E

/- Combine: two lists of entries, one behind the other, with the key between them. -/
namespace Go.Proofs.Ytalncokpbgbccaa.E
set_option linter.unusedVariables false
set_option linter.unusedSimpArgs false
open Go.RowKit Go.Proofs.YtalncokpbgbccaaW.PrintWords Go.Proofs.YtalncokpbgbccaaW.PrintLast Go.Proofs.YtalncokpbgbccaaW.PrintMore
end Go.Proofs.Ytalncokpbgbccaa.E

