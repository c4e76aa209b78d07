import Derived.Test.YthpabgiicglbmaaPe
namespace Go.Proofs.Ythpabgiicglbmaa.Pure
set_option linter.unusedVariables false
open Go.RowKit Go.Proofs.Ythpabgiicglbmaa.E Go.Proofs.YthpabgiicglbmaaW.PrintWords Go.Proofs.YthpabgiicglbmaaW.PrintLast

/-- what is told of a slice of data that came in -/
def DataOk (l : List S49) : Prop := l.length ≤ 9223372036854775807 ∧ ∀ x ∈ l, (-9223372036854775808 ≤ x.f0 ∧ x.f0 ≤ 9223372036854775807) ∧ (Lit.int .i64 x.f1).wf = true ∧ x.f2.size ≤ 281474976710656
theorem wf_rangeD (n : Int) (h : (Lit.int .i64 n).wf = true) : -9223372036854775808 ≤ n ∧ n ≤ 9223372036854775807 := by
  have e1 : IntKind.i64.min = -9223372036854775808 := rfl
  have e2 : IntKind.i64.max = 9223372036854775807 := rfl
  simp [Lit.wf] at h
  omega
end Go.Proofs.Ythpabgiicglbmaa.Pure
