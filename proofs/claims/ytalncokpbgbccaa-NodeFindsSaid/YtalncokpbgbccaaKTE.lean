-- A slim copy of TE, written by wip/tools/prune2.py.
import Derived.Test.YtalncokpbgbccaaKTD
/- NodeNeighbours, the walk: it returns true. -/
namespace Go.Proofs.Ytalncokpbgbccaa.E
set_option linter.unusedVariables false
set_option linter.unusedSimpArgs false
open Go.RowKit Go.Proofs.YtalncokpbgbccaaW.PrintWords Go.Proofs.YtalncokpbgbccaaW.PrintLast Go.Proofs.YtalncokpbgbccaaW.PrintMore
/-- a call that answers with a list of its own, and leaves what is there as it is -/
@[reducible] def SayL (w : World) (f : Nat) (args : Array Value) (mk : Value → Value) (L : List S77) : Prop := ∀ w1, Below w.heap.size w w1 → Calls Try.prog f args w1 fun e w2 => ∃ v, e = .returned (mk v) ∧ Ow w2 w1.heap.size v L ∧ Below w1.heap.size w1 w2
theorem C_one {W : World} {g : Nat} {x : S77} (h : W.heap[g]? = some (.cells (entC x) 77 (0, 0))) : Kd.C k77 W (some ⟨g, 0, none⟩) 1 [x] := by
  refine ⟨rfl, by omega, fun _ => ⟨_, rfl, fun j p hp => ?_⟩⟩
  cases j with
  | succ j => simp at hp
  | zero =>
    simp only [List.getElem?_cons_zero, Option.some.injEq] at hp
    subst hp
    refine ⟨_, rfl, k77_mk W x, fun k u hu => ?_⟩
    have h2 := blk_cell h k
    have ha : ((⟨g, 0, none⟩ : Addr).add k) = ⟨g, k, none⟩ := by unfold Addr.add; split <;> simp_all
    rw [show 0 * k77.sz + k = k by omega, ha, h2, ← Array.getElem?_toList]
    exact hu
theorem hd_alloc {w : World} {g : Nat} {cs : Array Value} {W : World} (h : Hd w g cs W) (o : Obj) : Hd w g cs (W.alloc o) := ⟨blk_alloc h.1 o, below_alloc h.2 o⟩
theorem blk_new2 (W : World) (O1 O2 : Obj) : ((W.alloc O1).alloc O2).heap[W.heap.size + 1]? = some O2 := by
  have := blk_new (W.alloc O1) O2
  rwa [show (W.alloc O1).heap.size = W.heap.size + 1 from by simp] at this
/-- few of three lists, the last of one entry -/
@[reducible] def Ans3 (w : World) (A : Option Addr) (n c : Nat) (B : Option Addr) (m d : Nat) (x : S77) (v : Bool) : Prop := ∀ w1 g gE, Below w.heap.size w w1 → w1.heap[g]? = some (.cells #[.slice A n c, .slice B m d, .slice (some ⟨gE, 0, none⟩) 1 1] 22 (0, 0)) → w1.heap[gE]? = some (.cells (entC x) 77 (0, 0)) → Calls Try.prog 14 #[.slice (some ⟨g, 0, none⟩) 3 3] w1 fun e w2 => e = .returned (.bool v) ∧ Below w1.heap.size w1 w2
theorem few_three (l m : List S77) (x : S77) : ∃ v, (v = true → FewL l ∧ FewL m ∧ FewL [x]) ∧ ∀ w A c B d, Kd.C k77 w A l.length l → l.length ≤ c → Kd.C k77 w B m.length m → m.length ≤ d → Ans3 w A l.length c B m.length d x v := by
  obtain ⟨k, v, hk, hb⟩ := few_t [l, m, [x]] (by simp)
  refine ⟨v, fun h => ⟨by simpa using hb h 0 (by simp), by simpa using hb h 1 (by simp), by simpa using hb h 2 (by simp)⟩, fun w A c B d hr hc hm hd w1 g gE b1 hg hgE => ?_⟩
  have hC : kN.C w1 (some ⟨g, 0, none⟩) 3 [l, m, [x]] := C_rows (cells := [.slice A l.length c, .slice B m.length d, .slice (some ⟨gE, 0, none⟩) 1 1]) [l, m, [x]] hg (by simp) (by
    intro j y hy
    match j, hy with
    | 0, hy =>
      simp only [List.getElem?_cons_zero, Option.some.injEq] at hy
      subst hy
      exact ⟨A, c, rfl, hc, Kd.C_below hr b1⟩
    | 1, hy =>
      simp only [List.getElem?_cons_succ, List.getElem?_cons_zero, Option.some.injEq] at hy
      subst hy
      exact ⟨B, d, rfl, hd, Kd.C_below hm b1⟩
    | 2, hy =>
      simp only [List.getElem?_cons_succ, List.getElem?_cons_zero, Option.some.injEq] at hy
      subst hy
      exact ⟨_, 1, rfl, Nat.le_refl _, C_one hgE⟩
    | j + 3, hy => simp at hy)
  exact (understorylaw06_few.calls k (some ⟨g, 0, none⟩) 3 [l, m, [x]] v w1 hC (by simp) hk).mono fun e w2 ⟨e1, n, b2⟩ => ⟨e1, by rw [b2]; exact pw_below_drewN (Below.refl _ _) _⟩
end Go.Proofs.Ytalncokpbgbccaa.E

