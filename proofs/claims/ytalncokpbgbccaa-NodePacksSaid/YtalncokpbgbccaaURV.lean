-- A slim copy of RV, RX, written by wip/tools/prune2.py.
import Derived.Test.YtalncokpbgbccaaUMc
import Derived.Test.YtalncokpbgbccaaUMd
import Derived.Test.YtalncokpbgbccaaUQC
/- The reference's Valid: the walk. -/
namespace Go.Proofs.Ytalncokpbgbccaa.E
set_option linter.unusedVariables false
set_option linter.unusedSimpArgs false
open Go.RowKit Go.Proofs.YtalncokpbgbccaaW.PrintWords Go.Proofs.YtalncokpbgbccaaW.PrintLast Go.Proofs.YtalncokpbgbccaaW.PrintMore
end Go.Proofs.Ytalncokpbgbccaa.E

/- The reference's Fits, Small and Check: the walks. -/
namespace Go.Proofs.Ytalncokpbgbccaa.E
set_option linter.unusedVariables false
set_option linter.unusedSimpArgs false
open Go.RowKit Go.Proofs.YtalncokpbgbccaaW.PrintWords Go.Proofs.YtalncokpbgbccaaW.PrintLast Go.Proofs.YtalncokpbgbccaaW.PrintMore
theorem rweight_c (l : List S77) (A : Option Addr) (c : Nat) (level : Int) (w : World) (hr : Kd.C k77 w A l.length l) (hf : Fine l) :
    Calls Try.prog 62 #[.slice A l.length c, .int .i64 level] w fun e w' => e = .returned (.agg #[.int .i64 (weightR (weightO l level)).1, .int .i64 (weightR (weightO l level)).2]) ∧ Below w.heap.size w w' := by
  cases hl : inB level 0 20 with
  | false => rw [show weightO l level = none by simp [weightO, hl]]; exact rw_bad l A c level w hl
  | true => exact rw_ok l A c level w hr hf hl
end Go.Proofs.Ytalncokpbgbccaa.E

