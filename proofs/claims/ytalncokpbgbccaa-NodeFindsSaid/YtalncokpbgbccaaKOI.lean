-- A slim copy of OI, written by wip/tools/prune2.py.
import Derived.ChangeSame
import Derived.Deep.Fields
import Derived.Deep.Slices
import Derived.OpenShut
import Derived.Test.YtalncokpbgbccaaKNx0
/- What a slice of entries that came in reads as. -/
namespace Go.Proofs.Ytalncokpbgbccaa.E
set_option linter.unusedVariables false
set_option linter.unusedSimpArgs false
open Go.ChangeShapes Go.WideShapes Go.Deep Go.RowKit Go.Proofs.YtalncokpbgbccaaW.PrintWords Go.Proofs.YtalncokpbgbccaaW.PrintLast Go.Proofs.YtalncokpbgbccaaW.PrintMore
section
variable {H : Type} {enc : TypeId × Value → H} {w : World} {base : Nat} {spare : Nat → Bool} {held : Bool}
theorem cells77 : Try.prog.cellsOf 77 = 22 := by kernel_rfl
theorem cells75 : Try.prog.cellsOf 75 = 16 := by kernel_rfl
theorem cells3 : Try.prog.cellsOf 3 = 1 := by kernel_rfl
theorem cellsU8 : Try.prog.cellsOf 5 = 1 := by kernel_rfl
theorem cells9 : Try.prog.cellsOf 9 = 1 := by kernel_rfl
theorem wf_int (n : Int) (h : (Lit.int .i64 n).wf = true) : -9223372036854775808 ≤ n ∧ n ≤ 9223372036854775807 := by
  have e1 : IntKind.i64.min = -9223372036854775808 := rfl
  have e2 : IntKind.i64.max = 9223372036854775807 := rfl
  simp [Lit.wf] at h
  omega
def I64 (n : Int) : Prop := -9223372036854775808 ≤ n ∧ n ≤ 9223372036854775807
def WfE (y : S77) : Prop := I64 y.f2 ∧ I64 y.f3 ∧ I64 y.f4 ∧ I64 y.f5
theorem open_byte {n : Nat} {c : Value} {x : DataW H × List MemPlace} (h : DataW.trod enc Try.prog w base spare held n 5 [c] = some x) : ∃ k : Int, c = .int .u8 k := by
  obtain ⟨k, e, _, _⟩ := DataW.trod_int Try.underlying5 h
  exact ⟨k, by simpa using e⟩
set_option maxRecDepth 100000 in
theorem open_digest {fuel : Nat} {cs : List Value} {x : DataW H × List MemPlace} (h : DataW.trod enc Try.prog w base spare held fuel 75 cs = some x) :
    ∃ y : S75, cs = [.int .u8 y.f0, .int .u8 y.f1, .int .u8 y.f2, .int .u8 y.f3, .int .u8 y.f4, .int .u8 y.f5, .int .u8 y.f6, .int .u8 y.f7, .int .u8 y.f8, .int .u8 y.f9, .int .u8 y.f10, .int .u8 y.f11, .int .u8 y.f12, .int .u8 y.f13, .int .u8 y.f14, .int .u8 y.f15] := by
  obtain ⟨xs, n, _, _, hlen, hxl, hf⟩ := DataW.trod_array Try.underlying75 h
  rw [cells75] at hlen
  rw [cellsU8] at hf
  match cs, hlen with
  | [c0, c1, c2, c3, c4, c5, c6, c7, c8, c9, c10, c11, c12, c13, c14, c15], _ =>
    have h0 : DataW.trod enc Try.prog w base spare held n 5 [c0] = xs[0]? := hf 0 (by decide)
    rw [List.getElem?_eq_getElem (by omega)] at h0
    obtain ⟨k0, rfl⟩ := open_byte h0
    have h1 : DataW.trod enc Try.prog w base spare held n 5 [c1] = xs[1]? := hf 1 (by decide)
    rw [List.getElem?_eq_getElem (by omega)] at h1
    obtain ⟨k1, rfl⟩ := open_byte h1
    have h2 : DataW.trod enc Try.prog w base spare held n 5 [c2] = xs[2]? := hf 2 (by decide)
    rw [List.getElem?_eq_getElem (by omega)] at h2
    obtain ⟨k2, rfl⟩ := open_byte h2
    have h3 : DataW.trod enc Try.prog w base spare held n 5 [c3] = xs[3]? := hf 3 (by decide)
    rw [List.getElem?_eq_getElem (by omega)] at h3
    obtain ⟨k3, rfl⟩ := open_byte h3
    have h4 : DataW.trod enc Try.prog w base spare held n 5 [c4] = xs[4]? := hf 4 (by decide)
    rw [List.getElem?_eq_getElem (by omega)] at h4
    obtain ⟨k4, rfl⟩ := open_byte h4
    have h5 : DataW.trod enc Try.prog w base spare held n 5 [c5] = xs[5]? := hf 5 (by decide)
    rw [List.getElem?_eq_getElem (by omega)] at h5
    obtain ⟨k5, rfl⟩ := open_byte h5
    have h6 : DataW.trod enc Try.prog w base spare held n 5 [c6] = xs[6]? := hf 6 (by decide)
    rw [List.getElem?_eq_getElem (by omega)] at h6
    obtain ⟨k6, rfl⟩ := open_byte h6
    have h7 : DataW.trod enc Try.prog w base spare held n 5 [c7] = xs[7]? := hf 7 (by decide)
    rw [List.getElem?_eq_getElem (by omega)] at h7
    obtain ⟨k7, rfl⟩ := open_byte h7
    have h8 : DataW.trod enc Try.prog w base spare held n 5 [c8] = xs[8]? := hf 8 (by decide)
    rw [List.getElem?_eq_getElem (by omega)] at h8
    obtain ⟨k8, rfl⟩ := open_byte h8
    have h9 : DataW.trod enc Try.prog w base spare held n 5 [c9] = xs[9]? := hf 9 (by decide)
    rw [List.getElem?_eq_getElem (by omega)] at h9
    obtain ⟨k9, rfl⟩ := open_byte h9
    have h10 : DataW.trod enc Try.prog w base spare held n 5 [c10] = xs[10]? := hf 10 (by decide)
    rw [List.getElem?_eq_getElem (by omega)] at h10
    obtain ⟨k10, rfl⟩ := open_byte h10
    have h11 : DataW.trod enc Try.prog w base spare held n 5 [c11] = xs[11]? := hf 11 (by decide)
    rw [List.getElem?_eq_getElem (by omega)] at h11
    obtain ⟨k11, rfl⟩ := open_byte h11
    have h12 : DataW.trod enc Try.prog w base spare held n 5 [c12] = xs[12]? := hf 12 (by decide)
    rw [List.getElem?_eq_getElem (by omega)] at h12
    obtain ⟨k12, rfl⟩ := open_byte h12
    have h13 : DataW.trod enc Try.prog w base spare held n 5 [c13] = xs[13]? := hf 13 (by decide)
    rw [List.getElem?_eq_getElem (by omega)] at h13
    obtain ⟨k13, rfl⟩ := open_byte h13
    have h14 : DataW.trod enc Try.prog w base spare held n 5 [c14] = xs[14]? := hf 14 (by decide)
    rw [List.getElem?_eq_getElem (by omega)] at h14
    obtain ⟨k14, rfl⟩ := open_byte h14
    have h15 : DataW.trod enc Try.prog w base spare held n 5 [c15] = xs[15]? := hf 15 (by decide)
    rw [List.getElem?_eq_getElem (by omega)] at h15
    obtain ⟨k15, rfl⟩ := open_byte h15
    exact ⟨⟨k0, k1, k2, k3, k4, k5, k6, k7, k8, k9, k10, k11, k12, k13, k14, k15⟩, rfl⟩
set_option maxRecDepth 100000 in
theorem open_entry {fuel : Nat} {cs : List Value} {x : DataW H × List MemPlace} (h : DataW.trod enc Try.prog w base spare held fuel 77 cs = some x) :
    ∃ y : S77, cs = (entC y).toList ∧ WfE y := by
  obtain ⟨xs, n, _, hx, hlen, hxl, hf⟩ := DataW.trod_struct Try.underlying77 h
  rw [cells77] at hlen
  have hxl' : xs.length = 7 := hxl
  match cs, hlen with
  | [c0, c1, c2, c3, c4, c5, c6, c7, c8, c9, c10, c11, c12, c13, c14, c15, c16, c17, c18, c19, c20, c21], _ =>
    have g0 : DataW.trod enc Try.prog w base spare held n 9 (([c0, c1, c2, c3, c4, c5, c6, c7, c8, c9, c10, c11, c12, c13, c14, c15, c16, c17, c18, c19, c20, c21].drop 0).take (Try.prog.cellsOf 9)) = xs[0]? := hf 0 _ rfl
    have g1 : DataW.trod enc Try.prog w base spare held n 9 (([c0, c1, c2, c3, c4, c5, c6, c7, c8, c9, c10, c11, c12, c13, c14, c15, c16, c17, c18, c19, c20, c21].drop 1).take (Try.prog.cellsOf 9)) = xs[1]? := hf 1 _ rfl
    have g2 : DataW.trod enc Try.prog w base spare held n 3 (([c0, c1, c2, c3, c4, c5, c6, c7, c8, c9, c10, c11, c12, c13, c14, c15, c16, c17, c18, c19, c20, c21].drop 2).take (Try.prog.cellsOf 3)) = xs[2]? := hf 2 _ rfl
    have g3 : DataW.trod enc Try.prog w base spare held n 3 (([c0, c1, c2, c3, c4, c5, c6, c7, c8, c9, c10, c11, c12, c13, c14, c15, c16, c17, c18, c19, c20, c21].drop 3).take (Try.prog.cellsOf 3)) = xs[3]? := hf 3 _ rfl
    have g4 : DataW.trod enc Try.prog w base spare held n 3 (([c0, c1, c2, c3, c4, c5, c6, c7, c8, c9, c10, c11, c12, c13, c14, c15, c16, c17, c18, c19, c20, c21].drop 4).take (Try.prog.cellsOf 3)) = xs[4]? := hf 4 _ rfl
    have g5 : DataW.trod enc Try.prog w base spare held n 3 (([c0, c1, c2, c3, c4, c5, c6, c7, c8, c9, c10, c11, c12, c13, c14, c15, c16, c17, c18, c19, c20, c21].drop 5).take (Try.prog.cellsOf 3)) = xs[5]? := hf 5 _ rfl
    have g6 : DataW.trod enc Try.prog w base spare held n 75 (([c0, c1, c2, c3, c4, c5, c6, c7, c8, c9, c10, c11, c12, c13, c14, c15, c16, c17, c18, c19, c20, c21].drop 6).take (Try.prog.cellsOf 75)) = xs[6]? := hf 6 _ rfl
    rw [List.getElem?_eq_getElem (by omega), cells9] at g0 g1
    rw [List.getElem?_eq_getElem (by omega), cells3] at g2 g3 g4 g5
    rw [List.getElem?_eq_getElem (by omega), cells75] at g6
    simp only [List.drop_zero, List.drop_succ_cons, List.take_succ_cons, List.take_zero, List.take_nil] at g0 g1 g2 g3 g4 g5 g6
    obtain ⟨s0, e0, _, _⟩ := DataW.trod_string Try.underlying9 g0
    obtain ⟨s1, e1, _, _⟩ := DataW.trod_string Try.underlying9 g1
    obtain ⟨n2, e2, _, w2⟩ := DataW.trod_int Try.underlying3 g2
    obtain ⟨n3, e3, _, w3⟩ := DataW.trod_int Try.underlying3 g3
    obtain ⟨n4, e4, _, w4⟩ := DataW.trod_int Try.underlying3 g4
    obtain ⟨n5, e5, _, w5⟩ := DataW.trod_int Try.underlying3 g5
    obtain ⟨d, e6⟩ := open_digest g6
    cases e0; cases e1; cases e2; cases e3; cases e4; cases e5; cases e6
    exact ⟨⟨s0, s1, n2, n3, n4, n5, d⟩, rfl, wf_int _ w2, wf_int _ w3, wf_int _ w4, wf_int _ w5⟩
theorem open_entries {fuel : Nat} {A : Option Addr} {len cap : Nat} {x : DataW H × List MemPlace} (h : DataW.trod enc Try.prog w base spare held fuel 22 [.slice A len cap] = some x) :
    ∃ l : List S77, l.length = len ∧ len ≤ cap ∧ Kd.C k77 w A len l ∧ ∀ j, j < l.length → WfE (l.getD j z77) := by
  rcases open_slice Try.underlying22 h with ⟨e, _⟩ | ⟨a, len', cap', m, n, D, Pl, e, hb, hl, hm, hmm, hx, hi⟩
  · cases e
    exact ⟨[], rfl, Nat.le_refl _, Kd.C_nil _ _, fun j hj => by simp at hj⟩
  · cases e
    rw [cells77] at hi
    have hlm : len ≤ m := by rw [hmm]; split <;> omega
    have hone : ∀ i, i < len → ∃ y : S77, (∀ (j : Nat) (u : Value), (entC y).toList[j]? = some u → w.cell? (a.add (i * 22 + j)) = some u) ∧ WfE y := by
      intro i hil
      obtain ⟨cs', h1, h2⟩ := hi i (by omega)
      obtain ⟨y, rfl, hwf⟩ := open_entry h2
      obtain ⟨_, _, hat⟩ := World.cells?_some h1
      refine ⟨y, fun j u hj => ?_, hwf⟩
      have hj3 : j < 22 := (List.getElem?_eq_some_iff.mp hj).1
      rw [← Go.Deep.add_add, hat j hj3]
      exact hj
    have : Inhabited S77 := ⟨z77⟩
    obtain ⟨f, hf⟩ := choose_lt hone
    refine ⟨(List.range len).map f, by simp, hl, ⟨by simp, ?_, fun _ => ⟨a, rfl, ?_⟩⟩, ?_⟩
    · unfold maxLen at hm; omega
    · intro j p hp
      obtain ⟨hjl, hjg⟩ := List.getElem?_eq_some_iff.mp hp
      have hjl' : j < len := by simpa using hjl
      have hpf : f j = p := by simpa using hjg
      subst hpf
      exact ⟨_, rfl, k77_mk w (f j), (hf j hjl').1⟩
    · intro j hj
      have hj' : j < len := by simpa using hj
      have : ((List.range len).map f).getD j z77 = f j := by simp [List.getD, hj']
      rw [this]
      exact (hf j hj').2
end
end Go.Proofs.Ytalncokpbgbccaa.E

