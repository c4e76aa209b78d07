-- A slim copy of DP, CB, written by wip/tools/prune2.py.
import Derived.Test.YtalncokpbgbccaaUMj
import Derived.Test.YtalncokpbgbccaaUPG
import Derived.Test.YtalncokpbgbccaaUSP
/- What Pack answers: each part is valid, fits, is not small if there are more; put together again they are the list. -/
namespace Go.Proofs.Ytalncokpbgbccaa.E
set_option linter.unusedVariables false
set_option linter.unusedSimpArgs false
open Go.RowKit Go.Proofs.YtalncokpbgbccaaW.PrintWords Go.Proofs.YtalncokpbgbccaaW.PrintLast Go.Proofs.YtalncokpbgbccaaW.PrintMore
theorem ord_bare {l : List S77} {level : Int} (ho : ordL l level = true) : bare level l = l := by
  by_cases h : level > 0 ∧ 0 < l.length
  · rw [ordL, Bool.and_eq_true] at ho
    have h2 : okAt l level 0 = true := by simpa using (List.all_eq_true.1 ho.2 0 (by simpa using h.2))
    rw [okAt, if_pos ⟨h.1, rfl⟩] at h2
    have h3 : (l.getD 0 z77).f0 = ⟨#[]⟩ := by
      have e : (l.getD 0 z77).f0.toList = [] := by simpa using h2
      rw [← ofL_toL (l.getD 0 z77).f0]
      have e2 : toL (l.getD 0 z77).f0 = [] := by rw [← e]; exact (Lib.toList_data _).symm
      rw [e2]; rfl
    rw [← bare_set level h.1 l h.2, ← h3]
    cases l with
    | nil => rfl
    | cons x r => rfl
  · exact bare_no level l h
/-- what Pack's parts are -/
structure PartOk (l : List S77) (level : Int) (x : List (List S77) × List ByteArray) (i : Nat) : Prop where
  pack : packable (x.1.getD i []) level = true
  bar : bare level (x.1.getD i []) = x.1.getD i []
  len : 1 ≤ (x.1.getD i []).length
  fits : 6 + wt level (x.1.getD i []) ≤ 496
  big : (2 ≤ x.1.length ∨ 166 ≤ 6 + wt level l) → 166 ≤ 6 + wt level (x.1.getD i [])
  is : x.1.getD i [] = bare level ((l.drop (atP x.1 i)).take (x.1.getD i []).length)
end Go.Proofs.Ytalncokpbgbccaa.E

/- Combine: two lists of entries, one behind the other, with the key between them. -/
namespace Go.Proofs.Ytalncokpbgbccaa.E
set_option linter.unusedVariables false
set_option linter.unusedSimpArgs false
open Go.RowKit Go.Proofs.YtalncokpbgbccaaW.PrintWords Go.Proofs.YtalncokpbgbccaaW.PrintLast Go.Proofs.YtalncokpbgbccaaW.PrintMore
end Go.Proofs.Ytalncokpbgbccaa.E

