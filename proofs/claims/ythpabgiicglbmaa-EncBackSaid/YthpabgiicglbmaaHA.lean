import Derived.Test.YthpabgiicglbmaaSpec
import Derived.Test.YthpabgiicglbmaaEx2
import Derived.Defers
import Derived.Recover
import Derived.Laws.Pointers
import Derived.Outline
import Derived.WalkLawsBesides
namespace Go.Proofs.Ythpabgiicglbmaa.E
open Go.RowKit Go.Proofs.YthpabgiicglbmaaW.PrintWords Go.Proofs.YthpabgiicglbmaaW.PrintLast Go.Proofs.YthpabgiicglbmaaW.PrintMore

def failV : Value := .iface 139 (.agg #[.int .i64 2])
def fail : List PanicEntry := [{ v := failV, recovered := false }]

theorem lt_cell {w : World} {g o : Nat} {v : Value} (h : w.cell? ⟨g, o, none⟩ = some v) : g < w.heap.size := by
  apply Decidable.byContradiction
  intro hn
  simp [World.cell?, Array.getElem?_eq_none (Nat.not_lt.mp hn)] at h
theorem must_yes (w : World) : Calls Try.prog 93 #[.bool true] w fun e w' => e = .returned (.tuple #[]) ∧ w' = w := by
  go_enter Try.func93, Try.ntmps93
  go_wp2
  go_end0
  exact ⟨rfl, rfl⟩
theorem must_no (w : World) : Calls Try.prog 93 #[.bool false] w fun e w' => e = .panicked fail ∧ w' = w := by
  go_enter Try.func93, Try.ntmps93
  go_wp2
  exact ⟨rfl, rfl, rfl⟩

theorem take_no (g : Nat) (s : ByteArray) (n : Int) (w : World) (hc : w.cell? ⟨g, 0, none⟩ = some (.string s)) (h : ¬ n ≤ s.size) :
    Calls Try.prog 88 #[.pointer (some ⟨g, 0, none⟩), .int .i64 n] w fun e w' => e = .panicked fail ∧ w' = w := by
  have h1 : decide (n ≤ (s.size : Int)) = false := by simpa using h
  go_enter Try.func88, Try.ntmps88
  go_wp2_with (go_at_call 93; refine (must_no _).mono ?_; rintro e w' ⟨rfl, rfl⟩)
  exact ⟨rfl, rfl, rfl⟩
theorem take_yes (g : Nat) (s : ByteArray) (n : Int) (w : World) (hc : w.cell? ⟨g, 0, none⟩ = some (.string s)) (hf : w.frozen? ⟨g, 0, none⟩ = false) (h0 : 0 ≤ n) (h : n ≤ s.size) :
    Calls Try.prog 88 #[.pointer (some ⟨g, 0, none⟩), .int .i64 n] w fun e w' => e = .returned (.string (s.extract 0 n.toNat)) ∧ w' = w.setCell ⟨g, 0, none⟩ (.string (s.extract n.toNat s.size)) := by
  have h1 : decide (n ≤ (s.size : Int)) = true := by simpa using h
  go_enter Try.func88, Try.ntmps88
  go_wp2_with (go_at_call 93; refine (must_yes _).mono ?_; rintro e w' ⟨rfl, rfl⟩)
  go_ret
  exact ⟨rfl, rfl⟩

theorem assert_failure (x : Value) (w : World) : (Instr.typeAssert (.iface 139 x) 20 139 true).run Try.prog w = .ok (.tuple #[x, .bool true]) w := by kernel_rfl

set_option maxRecDepth 100000 in
theorem caught_panicking (g : Nat) (x : Int) (older : List PanicEntry) (w : World) (hc : w.cell? ⟨g, 0, none⟩ = some (.int .i64 x)) (hz : w.frozen? ⟨g, 0, none⟩ = false) :
    CallsD Try.prog 92 #[.pointer (some ⟨g, 0, none⟩)] (.panicking ({ v := failV, recovered := false } :: older)) w fun e u' w' =>
      e = .returned (.tuple #[]) ∧ u' = .panicking ({ v := failV, recovered := true } :: older) ∧ w' = (w.setCell ⟨g, 0, none⟩ (.int .i64 2)).alloc (.cells #[.int .i64 2] 139) := by
  refine callsD_of_wpS Try.func92 rfl fun c₀ cs hu => ?_
  apply wpS_seq
  apply wpS_region
  simp [wpOpsS, go_sem, recoverD, hu, Try.ntmps92, Exit.thenS]
  refine wpS_of_wp ?_
  simp only [failV, Array.replicate_succ, Array.replicate_zero, List.push_toArray, List.append_toArray, List.nil_append, List.cons_append, List.setIfInBounds_toArray, List.set_cons_succ, List.set_cons_zero]
  have ha := assert_failure
  have hg : g < w.heap.size := lt_cell hc
  go_wp2
  simp [bodyPostS, results, Try.results92]
theorem caught_idle (g : Nat) (w : World) :
    CallsD Try.prog 92 #[.pointer (some ⟨g, 0, none⟩)] .returning w fun e u' w' => e = .returned (.tuple #[]) ∧ u' = .returning ∧ w' = w := by
  refine callsD_of_wpS Try.func92 rfl fun c₀ cs hu => ?_
  apply wpS_seq
  apply wpS_region
  simp [wpOpsS, go_sem, recoverD, hu, Try.ntmps92, Exit.thenS]
  refine wpS_of_wp ?_
  simp only [Array.replicate_succ, Array.replicate_zero, List.push_toArray, List.append_toArray, List.nil_append, List.cons_append, List.setIfInBounds_toArray, List.set_cons_succ, List.set_cons_zero]
  go_wp2
  cases c₀
  simp_all [bodyPostS, results, Try.results92]
end Go.Proofs.Ythpabgiicglbmaa.E

namespace Go.Proofs.Ythpabgiicglbmaa.E
open Go.RowKit Go.Proofs.YthpabgiicglbmaaW.PrintWords Go.Proofs.YthpabgiicglbmaaW.PrintLast Go.Proofs.YthpabgiicglbmaaW.PrintMore

/-- All blocks that were there are as they were, but for block g. -/
structure But (g : Nat) (w w' : World) : Prop where
  os : w'.os = w.os
  tape : w'.tape = w.tape
  output : w'.output = w.output
  size : w.heap.size ≤ w'.heap.size
  block : ∀ k, k < w.heap.size → k ≠ g → w'.heap[k]? = w.heap[k]?
theorem But.refl (g : Nat) (w : World) : But g w w := ⟨rfl, rfl, rfl, Nat.le_refl _, fun _ _ _ => rfl⟩
theorem But.trans {g : Nat} {a b c : World} (h : But g a b) (k : But g b c) : But g a c :=
  ⟨k.os.trans h.os, k.tape.trans h.tape, k.output.trans h.output, Nat.le_trans h.size k.size, fun i hi hg => (k.block i (Nat.lt_of_lt_of_le hi h.size) hg).trans (h.block i hi hg)⟩
theorem But.of_below {g : Nat} {a b : World} (h : Below a.heap.size a b) : But g a b := ⟨h.os, h.tape, h.output, h.size, fun k hk _ => h.block k hk⟩
theorem But.alloc {g : Nat} {a b : World} (h : But g a b) (o : Obj) : But g a (b.alloc o) := h.trans (But.of_below ((Below.refl _ _).alloc (Nat.le_refl _) o))
theorem But.drew {g : Nat} {a b : World} (h : But g a b) : But g a b.drew := ⟨h.os, h.tape, h.output, h.size, h.block⟩
theorem But.drewN {g : Nat} {a b : World} (h : But g a b) (n : Nat) : But g a (b.drewN n) := ⟨h.os, h.tape, h.output, h.size, h.block⟩
theorem But.setCell {g : Nat} {a b : World} (h : But g a b) (o : Nat) (v : Value) : But g a (b.setCell ⟨g, o, none⟩ v) := by
  refine h.trans ⟨?_, ?_, ?_, ?_, fun k hk hg => Below.heap_setCell b _ v k hg⟩
  · have := (Below.refl 0 b).setCell (p := ⟨g, o, none⟩) (Nat.zero_le _) v; exact this.os
  · have := (Below.refl 0 b).setCell (p := ⟨g, o, none⟩) (Nat.zero_le _) v; exact this.tape
  · have := (Below.refl 0 b).setCell (p := ⟨g, o, none⟩) (Nat.zero_le _) v; exact this.output
  · have := (Below.refl 0 b).setCell (p := ⟨g, o, none⟩) (Nat.zero_le _) v; exact this.size
theorem But.below {g B : Nat} {a b : World} (h : But g a b) (hB : B ≤ g) (hS : B ≤ a.heap.size) : Below B a b :=
  ⟨h.os, h.tape, h.output, h.size, fun k hk => h.block k (Nat.lt_of_lt_of_le hk hS) (by omega)⟩
theorem But.cell {g b o : Nat} {a c : World} (h : But g a c) (hb : b < a.heap.size) (hg : b ≠ g) : c.cell? ⟨b, o, none⟩ = a.cell? ⟨b, o, none⟩ := World.cell?_of_block (w := a) (h.block b hb hg)
theorem But.frozen {g b o : Nat} {a c : World} (h : But g a c) (hb : b < a.heap.size) (hg : b ≠ g) : c.frozen? ⟨b, o, none⟩ = a.frozen? ⟨b, o, none⟩ := World.frozen?_of_block (w := a) (h.block b hb hg)

theorem got_done_9 (ge gx gn : Nat) (u : FrameMode) (w : World) (he : w.cell? ⟨ge, 0, none⟩ = some (.int .i64 0)) :
    CallsD Try.prog 91 #[.pointer (some ⟨ge, 0, none⟩), .pointer (some ⟨gx, 0, none⟩), .pointer (some ⟨gn, 0, none⟩)] u w fun e u' w' => u' = u ∧ (e = .returned (.tuple #[]) ∧ w' = w) := by
  go_enter_d Try.func91, Try.ntmps91
  go_wp2
  go_end0
  exact ⟨rfl, rfl⟩
theorem got_failed_9 (ge gx gn : Nat) (x y : Value) (u : FrameMode) (w : World) (he : w.cell? ⟨ge, 0, none⟩ = some (.int .i64 2)) (hx : w.cell? ⟨gx, 0, none⟩ = some x) (hfx : w.frozen? ⟨gx, 0, none⟩ = false) (hn : w.cell? ⟨gn, 0, none⟩ = some y) (hfn : w.frozen? ⟨gn, 0, none⟩ = false) (hne : gx ≠ gn) :
    CallsD Try.prog 91 #[.pointer (some ⟨ge, 0, none⟩), .pointer (some ⟨gx, 0, none⟩), .pointer (some ⟨gn, 0, none⟩)] u w fun e u' w' => u' = u ∧ (e = .returned (.tuple #[]) ∧ w' = (w.setCell ⟨gx, 0, none⟩ (.string ⟨#[]⟩)).setCell ⟨gn, 0, none⟩ (.int .i64 0)) := by
  have hne' : ¬ gn = gx := fun h => hne h.symm
  go_enter_d Try.func91, Try.ntmps91
  go_wp2
  go_end0
  exact ⟨rfl, rfl⟩
end Go.Proofs.Ythpabgiicglbmaa.E
