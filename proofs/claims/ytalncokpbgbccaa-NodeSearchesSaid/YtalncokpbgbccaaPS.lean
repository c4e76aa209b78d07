/- What every law asks first: few of one list; and how a contract is told to a walk. -/
import Derived.Test.YtalncokpbgbccaaPA
import Derived.Test.YtalncokpbgbccaaMk
namespace Go.Proofs.Ytalncokpbgbccaa.E
set_option linter.unusedVariables false
set_option linter.unusedSimpArgs false
open Go.RowKit Go.Proofs.YtalncokpbgbccaaW.PrintWords Go.Proofs.YtalncokpbgbccaaW.PrintLast Go.Proofs.YtalncokpbgbccaaW.PrintMore
/-- a call that answers so from wherever the world below is as it was -/
@[reducible] def Ans (w : World) (f : Nat) (args : Array Value) (v : Value) : Prop := ∀ w1, Below w.heap.size w w1 → Calls Try.prog f args w1 fun e w2 => e = .returned v ∧ Below w.heap.size w w2
theorem ans_of {w : World} {f : Nat} {args : Array Value} {v : Value} (h : ∀ w1, Below w.heap.size w w1 → Calls Try.prog f args w1 fun e w2 => e = .returned v ∧ Below w1.heap.size w1 w2) : Ans w f args v := fun w1 b => (h w1 b).mono fun e w2 ⟨e1, b2⟩ => ⟨e1, b.trans (b2.mono b.size)⟩
theorem ans_of_drawn {w : World} {f : Nat} {args : Array Value} {v : Value} (h : ∀ w1, Below w.heap.size w w1 → Calls Try.prog f args w1 fun e w2 => e = .returned v ∧ Drawn0 w1 w2) : Ans w f args v := ans_of fun w1 b => (h w1 b).mono fun e w2 ⟨e1, n, b2⟩ => ⟨e1, by rw [b2]; exact pw_below_drewN (Below.refl _ _) _⟩
theorem C_list1 {W : World} {g : Nat} {A : Option Addr} {c : Nat} {l : List S77} (hg : W.heap[g]? = some (.cells #[.slice A l.length c] 22 (0, 0))) (hr : Kd.C k77 W A l.length l) (hc : l.length ≤ c) : Kd.C (Kd.slice 77 k77) W (some ⟨g, 0, none⟩) 1 [l] := by
  refine ⟨rfl, by omega, fun _ => ⟨_, rfl, fun j p hp => ?_⟩⟩
  cases j with
  | succ j => simp at hp
  | zero =>
    simp only [List.getElem?_cons_zero, Option.some.injEq] at hp
    subst hp
    refine ⟨[.slice A l.length c], rfl, ⟨A, c, rfl, hc, hr⟩, fun k u hu => ?_⟩
    cases k with
    | succ k => simp at hu
    | zero =>
      have hu : u = .slice A l.length c := by simpa using hu.symm
      subst hu
      have := blk_cell hg 0
      simpa [Addr.add] using this
/-- few of one list -/
@[reducible] def Ans1 (w : World) (A : Option Addr) (n c : Nat) (b : Bool) : Prop := ∀ w1 g, Below w.heap.size w w1 → w1.heap[g]? = some (.cells #[.slice A n c] 22 (0, 0)) → Calls Try.prog 14 #[.slice (some ⟨g, 0, none⟩) 1 1] w1 fun e w2 => e = .returned (.bool b) ∧ Below w.heap.size w w2
theorem few_one (l : List S77) : ∃ b, (b = true → FewL l) ∧ ∀ w A c, Kd.C k77 w A l.length l → l.length ≤ c → Ans1 w A l.length c b := by
  obtain ⟨k, b, hk, hb⟩ := few_t [l] (by simp)
  refine ⟨b, fun h => by simpa using hb h 0 (by simp), fun w A c hr hc w1 g b1 hg => ?_⟩
  exact (understorylaw06_few.calls k (some ⟨g, 0, none⟩) 1 [l] b w1 (C_list1 hg (Kd.C_below hr b1) hc) (by simp) hk).mono fun e w2 ⟨e1, n, b2⟩ => ⟨e1, by rw [b2]; exact pw_below_drewN b1 _⟩
theorem f5_at {W : World} {A : Option Addr} {n : Nat} {xs : List S77} (h : Kd.C k77 W A n xs) (i : Nat) (hi : i < n) : ∃ ad, A = some ad ∧ W.cell? ⟨(ad.add (i * 22)).block, (ad.add (i * 22)).off + 5, none⟩ = some (.int .i64 (xs.getD i z77).f5) := by
  obtain ⟨ad, e, h0, h1, h2, h3, h4, h5, _⟩ := at_T77 h (i : Int) (by omega) (by omega)
  exact ⟨ad, e, by simpa [rd_T77] using h5⟩
end Go.Proofs.Ytalncokpbgbccaa.E
