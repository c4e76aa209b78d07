-- A slim copy of RT, PR, written by wip/tools/prune2.py.
import Derived.Test.YtalncokpbgbccaaUPO
import Derived.Test.YtalncokpbgbccaaURQ
/- The reference's Replace and the program's answer the same list. -/
namespace Go.Proofs.Ytalncokpbgbccaa.E
set_option linter.unusedVariables false
set_option linter.unusedSimpArgs false
open Go.RowKit Go.Proofs.YtalncokpbgbccaaW.PrintWords Go.Proofs.YtalncokpbgbccaaW.PrintLast Go.Proofs.YtalncokpbgbccaaW.PrintMore
end Go.Proofs.Ytalncokpbgbccaa.E

/- NodeReplaces, walked and joined: whatever the entries, places and separators, it returns true. -/
namespace Go.Proofs.Ytalncokpbgbccaa.E
set_option linter.unusedVariables false
set_option linter.unusedSimpArgs false
open Go.RowKit Go.Proofs.YtalncokpbgbccaaW.PrintWords Go.Proofs.YtalncokpbgbccaaW.PrintLast Go.Proofs.YtalncokpbgbccaaW.PrintMore
/-- a call that answers with a list of its own, and leaves what is there as it is -/
@[reducible] def SayL (w : World) (f : Nat) (args : Array Value) (mk : Value → Value) (L : List S77) : Prop := ∀ w1, Below w.heap.size w w1 → Calls Try.prog f args w1 fun e w2 => ∃ v, e = .returned (mk v) ∧ Ow w2 w1.heap.size v L ∧ Below w1.heap.size w1 w2
/-- few of two lists -/
@[reducible] def Ans2 (w : World) (A : Option Addr) (n c : Nat) (B : Option Addr) (m d : Nat) (b : Bool) : Prop := ∀ w1 g, Below w.heap.size w w1 → w1.heap[g]? = some (.cells #[.slice A n c, .slice B m d] 22 (0, 0)) → Calls Try.prog 14 #[.slice (some ⟨g, 0, none⟩) 2 2] w1 fun e w2 => e = .returned (.bool b) ∧ Below w.heap.size w w2
theorem few_fine {l : List S77} (h : FewL l) : Fine l := by
  refine ⟨by have := h.1; omega, fun x hx => ?_⟩
  obtain ⟨j, hj, rfl⟩ := List.getElem_of_mem hx
  have := h.2 j hj
  rw [show l.getD j z77 = l[j] by simp [hj]] at this
  omega
end Go.Proofs.Ytalncokpbgbccaa.E

