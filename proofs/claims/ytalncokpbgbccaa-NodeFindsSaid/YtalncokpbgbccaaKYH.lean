-- A slim copy of YH, YI, YJ, written by wip/tools/prune2.py.
import Derived.Test.YtalncokpbgbccaaKDP
import Derived.Test.YtalncokpbgbccaaKPO
import Derived.Test.YtalncokpbgbccaaKTA
import Derived.Test.YtalncokpbgbccaaKTD
import Derived.Test.YtalncokpbgbccaaKTE
import Derived.Test.YtalncokpbgbccaaKYD
/- The reference's DropEntry. -/
namespace Go.Proofs.Ytalncokpbgbccaa.E
set_option linter.unusedVariables false
set_option linter.unusedSimpArgs false
open Go.RowKit Go.Proofs.YtalncokpbgbccaaW.PrintWords Go.Proofs.YtalncokpbgbccaaW.PrintLast Go.Proofs.YtalncokpbgbccaaW.PrintMore
end Go.Proofs.Ytalncokpbgbccaa.E

/- NodeChanges, walked and joined: whatever the entries, it returns true. -/
namespace Go.Proofs.Ytalncokpbgbccaa.E
set_option linter.unusedVariables false
set_option linter.unusedSimpArgs false
open Go.RowKit Go.Proofs.YtalncokpbgbccaaW.PrintWords Go.Proofs.YtalncokpbgbccaaW.PrintLast Go.Proofs.YtalncokpbgbccaaW.PrintMore
end Go.Proofs.Ytalncokpbgbccaa.E

/- NodeChanges, joined: whatever the entries, it returns true. -/
namespace Go.Proofs.Ytalncokpbgbccaa.E
set_option linter.unusedVariables false
set_option linter.unusedSimpArgs false
open Go.RowKit Go.Proofs.YtalncokpbgbccaaW.PrintWords Go.Proofs.YtalncokpbgbccaaW.PrintLast Go.Proofs.YtalncokpbgbccaaW.PrintMore
theorem leafPut_len (l : List S77) (x : S77) : (leafPut l x).length ≤ l.length + 1 := by
  unfold leafPut rputL
  have := searchP_le l x.f0
  split <;> simp <;> omega
theorem leafDrop_len (l : List S77) (key : ByteArray) : (leafDrop l key).length ≤ l.length := by
  unfold leafDrop
  split <;> simp <;> omega
theorem ord_incL {l : List S77} {level : Int} (hl : l.length ≤ 100) (h : ordL l level = true) : IncL l := by
  obtain ⟨k, e⟩ := ordered_eq l level hl
  rw [h] at e
  exact ordered_inc l level hl k e
end Go.Proofs.Ytalncokpbgbccaa.E

