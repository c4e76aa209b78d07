-- A slim copy of SP, SR, written by wip/tools/prune2.py.
import Derived.Test.YtalncokpbgbccaaUMh
import Derived.Test.YtalncokpbgbccaaUPO
import Derived.Test.YtalncokpbgbccaaURV
import Derived.Test.YtalncokpbgbccaaURh
/- What Pack answers: it divides whatever is right, and each separator is the one of its place. -/
namespace Go.Proofs.Ytalncokpbgbccaa.E
set_option linter.unusedVariables false
set_option linter.unusedSimpArgs false
open Go.RowKit Go.Proofs.YtalncokpbgbccaaW.PrintWords Go.Proofs.YtalncokpbgbccaaW.PrintLast Go.Proofs.YtalncokpbgbccaaW.PrintMore
theorem form_short {x : S77} (h : formI x = 1) : x.f0.size ≤ 48 ∧ x.f1.size ≤ 64 := by
  unfold formI at h
  split at h
  · cases h
  · rename_i h0
    have hk : x.f0.size ≤ 48 := by unfold inB at h0; simp at h0; omega
    refine ⟨hk, ?_⟩
    cases hs : shortB x with
    | true => unfold shortB at hs; simp at hs; omega
    | false =>
      rw [hs] at h
      exfalso
      revert h
      repeat' split
      all_goals simp_all
theorem form_key {x : S77} (h : formI x ≠ 0) : x.f0.size ≤ 48 := by
  unfold formI at h
  split at h
  · exact absurd rfl h
  · rename_i h0
    unfold inB at h0; simp at h0; omega
/-- a valid entry fits into a node by itself -/
theorem okB_small {x : S77} {level : Int} (h : okB level x = true) : (weighI x level).1 ≤ 117 := by
  unfold okB weighI at *
  split
  · rename_i hl
    rw [if_pos hl] at h
    have h2 : brB x = true := h
    unfold brB at h2
    simp only [Bool.and_eq_true, decide_eq_true_eq] at h2
    show (x.f0.size : Int) + 27 ≤ 117
    have := h2.1
    omega
  · rename_i hl
    rw [if_neg hl] at h
    split
    · rename_i h1
      have := form_short h1
      show (x.f0.size : Int) + (x.f1.size : Int) + 5 ≤ 117
      omega
    · rename_i h1
      rw [if_neg h1] at h
      split
      · rename_i h2
        have := form_key (x := x) (by omega)
        show (x.f0.size : Int) + 27 ≤ 117
        omega
      · rename_i h2
        rw [if_neg h2] at h
        split
        · rename_i h3
          have := form_key (x := x) (by omega)
          show (x.f0.size : Int) + 29 ≤ 117
          omega
        · show (0 : Int) ≤ 117
          omega
theorem wt_one {l : List S77} {level : Int} (h : (bare level l).all (okB level) = true) (h1 : l.length ≤ 1) : 6 + wt level (bare level l) ≤ 496 := by
  have hb := bare_length level l
  generalize bare level l = m at h hb
  match m, h, hb with
  | [], _, _ => simp [wt]
  | [x], h, _ =>
    have := okB_small (level := level) (x := x) (by simpa using h)
    simp [wt]; omega
  | _ :: _ :: _, _, hb => simp at hb; omega
theorem packO_some (level : Int) : ∀ (f : Nat) (l : List S77), l.length < f → packable l level = true → ∃ x, packO f l level = some x := by
  intro f
  induction f with
  | zero => intro l h; omega
  | succ f ih =>
    intro l hl hp
    rw [packO]
    by_cases h1 : 6 + wt level (bare level l) ≤ 496
    · exact ⟨_, if_pos h1⟩
    rw [if_neg h1]
    by_cases h2 : l.length ≤ 1
    · exact absurd (wt_one ((packable_iff l level).mp hp).2.2 h2) h1
    rw [if_neg h2]
    obtain ⟨_, hb1, hb2⟩ := bestN_spec l level (by omega)
    obtain ⟨y, hy⟩ := ih (l.take (bestN l level)) (by simp; omega) (packable_take (by omega) hp)
    obtain ⟨z, hz⟩ := ih (bare level (l.drop (bestN l level))) (by rw [bare_length]; simp; omega) (packable_drop hb1 (by omega) hp)
    exact ⟨_, by rw [hy, Option.bind_some, hz, Option.bind_some]⟩
/-- how many entries lie in the first parts -/
def atP (p : List (List S77)) (i : Nat) : Nat := ((p.take i).map List.length).sum
end Go.Proofs.Ytalncokpbgbccaa.E

/- right: the law's own test. -/
namespace Go.Proofs.Ytalncokpbgbccaa.E
set_option linter.unusedVariables false
set_option linter.unusedSimpArgs false
open Go.RowKit Go.Proofs.YtalncokpbgbccaaW.PrintWords Go.Proofs.YtalncokpbgbccaaW.PrintLast Go.Proofs.YtalncokpbgbccaaW.PrintMore
end Go.Proofs.Ytalncokpbgbccaa.E

