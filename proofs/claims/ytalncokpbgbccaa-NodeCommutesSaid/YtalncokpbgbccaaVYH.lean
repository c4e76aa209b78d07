-- A slim copy of YH, YI, YJ, written by wip/tools/prune2.py.
import Derived.Test.YtalncokpbgbccaaVDP
import Derived.Test.YtalncokpbgbccaaVPO
import Derived.Test.YtalncokpbgbccaaVTA
import Derived.Test.YtalncokpbgbccaaVTD
import Derived.Test.YtalncokpbgbccaaVTE
import Derived.Test.YtalncokpbgbccaaVYD
/- The reference's DropEntry. -/
namespace Go.Proofs.Ytalncokpbgbccaa.E
set_option linter.unusedVariables false
set_option linter.unusedSimpArgs false
open Go.RowKit Go.Proofs.YtalncokpbgbccaaW.PrintWords Go.Proofs.YtalncokpbgbccaaW.PrintLast Go.Proofs.YtalncokpbgbccaaW.PrintMore
end Go.Proofs.Ytalncokpbgbccaa.E

/- NodeChanges, walked and joined: whatever the entries, it returns true. -/
namespace Go.Proofs.Ytalncokpbgbccaa.E
set_option linter.unusedVariables false
set_option linter.unusedSimpArgs false
open Go.RowKit Go.Proofs.YtalncokpbgbccaaW.PrintWords Go.Proofs.YtalncokpbgbccaaW.PrintLast Go.Proofs.YtalncokpbgbccaaW.PrintMore
end Go.Proofs.Ytalncokpbgbccaa.E

/- NodeChanges, joined: whatever the entries, it returns true. -/
namespace Go.Proofs.Ytalncokpbgbccaa.E
set_option linter.unusedVariables false
set_option linter.unusedSimpArgs false
open Go.RowKit Go.Proofs.YtalncokpbgbccaaW.PrintWords Go.Proofs.YtalncokpbgbccaaW.PrintLast Go.Proofs.YtalncokpbgbccaaW.PrintMore
theorem leafPut_len (l : List S77) (x : S77) : (leafPut l x).length ≤ l.length + 1 := by
  unfold leafPut rputL
  have := searchP_le l x.f0
  split <;> simp <;> omega
theorem same_any (X : List S77) (hX : X.length ≤ 1000000) (W : World) (A1 A2 : Option Addr) (c1 c2 : Nat) (h1 : Kd.C k77 W A1 X.length X) (h2 : Kd.C k77 W A2 X.length X) : Calls Try.prog 37 #[.slice A1 X.length c1, .slice A2 X.length c2] W fun e w2 => e = .returned (.bool true) ∧ Below W.heap.size W w2 := by
  have := same_c X X A1 A2 c1 c2 W h1 h2 hX
  rwa [(sameL_iff _ _).2 rfl] at this
end Go.Proofs.Ytalncokpbgbccaa.E

