import Derived.Test.YthpabgiicglbmaaHA
import Derived.RegionTactic
namespace Go.Proofs.Ythpabgiicglbmaa.E
open Go.RowKit Go.Proofs.YthpabgiicglbmaaW.PrintWords Go.Proofs.YthpabgiicglbmaaW.PrintLast Go.Proofs.YthpabgiicglbmaaW.PrintMore

set_option maxRecDepth 100000 in
set_option maxHeartbeats 1000000 in
theorem got_yes_9 (K : Nat) (cap : Array Value) (s rest r : ByteArray) (w : World) (hK : ∀ args w, (callFunc K args).run Try.prog w = .ok (.enter K args) w) (hs : s.size ≤ 1000000000000000) (hrest : rest.size ≤ s.size)
    (hread : ∀ g W, W.cell? ⟨g, 0, none⟩ = some (.string s) → W.frozen? ⟨g, 0, none⟩ = false → Below w.heap.size w W → w.heap.size ≤ g → Calls Try.prog K (#[.pointer (some ⟨g, 0, none⟩)] ++ cap) W fun e w' => e = .returned (.string r) ∧ w'.cell? ⟨g, 0, none⟩ = some (.string rest) ∧ But g W w') :
    Calls Try.prog 60 #[.string s, .func (.func K) #[] cap] w fun e w' => e = .returned (.tuple #[.string r, .int .i64 (s.size - rest.size), .int .i64 0]) ∧ Below w.heap.size w w' := by
  have hmf : ∀ (fn : Fn) (first cap : Array Value) (w : World), (Instr.makeFunc fn first cap).run Try.prog w = .ok (.func fn first cap) w := fun _ _ _ _ => rfl
  have HR := Aside0.mk hread
  clear hread
  go_enter_defers Try.func60, Try.ntmps60
  go_wp2_with fail
  have B0 := (((Below.refl w.heap.size w).alloc (Nat.le_refl _) (.cells #[.string ⟨#[]⟩] 9)).alloc (by simp) (.cells #[.int .i64 0] 3)).alloc (by simp; omega) (.cells #[.int .i64 0] 29) |>.alloc (by simp; omega) (.cells #[.string s] 131)
  refine (HR.out _ _ (by simp [go_sem]) (by simp [go_sem]) B0 (by omega)).mono ?_
  rintro e w1 ⟨rfl, hc1, hb1⟩
  have hx : w1.cell? ⟨w.heap.size, 0, none⟩ = some (.string ⟨#[]⟩) := by rw [hb1.cell (by simp; omega) (by omega)]; simp [go_sem]
  have fx : w1.frozen? ⟨w.heap.size, 0, none⟩ = false := by rw [hb1.frozen (by simp; omega) (by omega)]; simp [go_sem]
  have hn : w1.cell? ⟨w.heap.size + 1, 0, none⟩ = some (.int .i64 0) := by rw [hb1.cell (by simp) (by omega)]; simp [go_sem]
  have fn : w1.frozen? ⟨w.heap.size + 1, 0, none⟩ = false := by rw [hb1.frozen (by simp) (by omega)]; simp [go_sem]
  have he : w1.cell? ⟨w.heap.size + 1 + 1, 0, none⟩ = some (.int .i64 0) := by rw [hb1.cell (by simp) (by omega)]; simp [go_sem]
  have fe : w1.frozen? ⟨w.heap.size + 1 + 1, 0, none⟩ = false := by rw [hb1.frozen (by simp) (by omega)]; simp [go_sem]
  have HB := Aside0.mk (B0.trans (hb1.below (B := w.heap.size) (by omega) (by simp; omega)))
  clear hb1 B0
  go_wp2
  go_region
  go_wp2
  refine leaves_cons (f := 92) (args := #[.pointer (some ⟨w.heap.size + 1 + 1, 0, none⟩)]) (by simp) (by simp [go_sem]) ?_
  refine (caught_idle _ _).mono ?_
  rintro e u' w'' ⟨rfl, rfl, rfl⟩
  refine leaves_cons (f := 91) (args := #[.pointer (some ⟨w.heap.size + 1 + 1, 0, none⟩), .pointer (some ⟨w.heap.size, 0, none⟩), .pointer (some ⟨w.heap.size + 1, 0, none⟩)]) (by simp [settle]) (by simp [go_sem]) ?_
  refine (got_done_9 _ _ _ _ _ (by simp [go_sem, he])).mono ?_
  rintro e u' w'' ⟨rfl, rfl, rfl⟩
  refine ⟨_, ?_, rfl, ?_⟩
  · simp [results, Try.results60, go_sem, hx, hn, he]
  · repeat (first | exact HB.out | refine Below.setCell ?_ (by simp <;> omega) _ | refine Below.drew ?_)
set_option maxRecDepth 100000 in
set_option maxHeartbeats 1000000 in
theorem got_no_9 (K : Nat) (cap : Array Value) (s : ByteArray) (w : World) (hK : ∀ args w, (callFunc K args).run Try.prog w = .ok (.enter K args) w)
    (hread : ∀ g W, W.cell? ⟨g, 0, none⟩ = some (.string s) → W.frozen? ⟨g, 0, none⟩ = false → Below w.heap.size w W → w.heap.size ≤ g → Calls Try.prog K (#[.pointer (some ⟨g, 0, none⟩)] ++ cap) W fun e w' => e = .panicked fail ∧ But g W w') :
    Calls Try.prog 60 #[.string s, .func (.func K) #[] cap] w fun e w' => e = .returned (.tuple #[.string ⟨#[]⟩, .int .i64 0, .int .i64 2]) ∧ Below w.heap.size w w' := by
  have hmf : ∀ (fn : Fn) (first cap : Array Value) (w : World), (Instr.makeFunc fn first cap).run Try.prog w = .ok (.func fn first cap) w := fun _ _ _ _ => rfl
  have HR := Aside0.mk hread
  clear hread
  go_enter_defers Try.func60, Try.ntmps60
  go_wp2_with fail
  have B0 := (((Below.refl w.heap.size w).alloc (Nat.le_refl _) (.cells #[.string ⟨#[]⟩] 9)).alloc (by simp) (.cells #[.int .i64 0] 3)).alloc (by simp; omega) (.cells #[.int .i64 0] 29) |>.alloc (by simp; omega) (.cells #[.string s] 131)
  refine (HR.out _ _ (by simp [go_sem]) (by simp [go_sem]) B0 (by omega)).mono ?_
  rintro e w1 ⟨rfl, hb1⟩
  have hx : w1.cell? ⟨w.heap.size, 0, none⟩ = some (.string ⟨#[]⟩) := by rw [hb1.cell (by simp; omega) (by omega)]; simp [go_sem]
  have fx : w1.frozen? ⟨w.heap.size, 0, none⟩ = false := by rw [hb1.frozen (by simp; omega) (by omega)]; simp [go_sem]
  have hn : w1.cell? ⟨w.heap.size + 1, 0, none⟩ = some (.int .i64 0) := by rw [hb1.cell (by simp) (by omega)]; simp [go_sem]
  have fn : w1.frozen? ⟨w.heap.size + 1, 0, none⟩ = false := by rw [hb1.frozen (by simp) (by omega)]; simp [go_sem]
  have he : w1.cell? ⟨w.heap.size + 1 + 1, 0, none⟩ = some (.int .i64 0) := by rw [hb1.cell (by simp) (by omega)]; simp [go_sem]
  have fe : w1.frozen? ⟨w.heap.size + 1 + 1, 0, none⟩ = false := by rw [hb1.frozen (by simp) (by omega)]; simp [go_sem]
  have hz : w.heap.size + 3 < w1.heap.size := by have := hb1.size; simp at this; omega
  have HB := Aside0.mk (B0.trans (hb1.below (B := w.heap.size) (by omega) (by simp; omega)))
  clear hb1 B0
  go_wp2
  refine leaves_cons (f := 92) (args := #[.pointer (some ⟨w.heap.size + 1 + 1, 0, none⟩)]) (by simp) (by simp [go_sem]) ?_
  refine (caught_panicking _ _ _ _ he fe).mono ?_
  rintro e u' w'' ⟨rfl, rfl, rfl⟩
  refine leaves_cons (f := 91) (args := #[.pointer (some ⟨w.heap.size + 1 + 1, 0, none⟩), .pointer (some ⟨w.heap.size, 0, none⟩), .pointer (some ⟨w.heap.size + 1, 0, none⟩)]) (by simp [settle]) (by simp [go_sem]) ?_
  refine (got_failed_9 _ _ _ (.string ⟨#[]⟩) (.int .i64 0) _ _ ?_ ?_ ?_ ?_ ?_ (by omega)).mono ?_
  · simp [go_sem, he, show w.heap.size + 1 + 1 < w1.heap.size from by omega]
  · simp [go_sem, hx, show w.heap.size < w1.heap.size from by omega]
  · simp [go_sem, fx, show w.heap.size < w1.heap.size from by omega]
  · simp [go_sem, hn, show w.heap.size + 1 < w1.heap.size from by omega]
  · simp [go_sem, fn, show w.heap.size + 1 < w1.heap.size from by omega]
  rintro e u' w'' ⟨rfl, rfl, rfl⟩
  refine ⟨_, ?_, rfl, ?_⟩
  · simp [results, Try.results60, go_sem, hx, hn, he, show w.heap.size < w1.heap.size from by omega, show w.heap.size + 1 < w1.heap.size from by omega, show w.heap.size + 1 + 1 < w1.heap.size from by omega]
  · repeat (first | exact HB.out | refine Below.setCell ?_ (by simp <;> omega) _ | refine Below.drew ?_ | refine Below.alloc ?_ (by simp <;> omega) _)
end Go.Proofs.Ythpabgiicglbmaa.E

namespace Go.Proofs.Ythpabgiicglbmaa.E
open Go.RowKit Go.Proofs.YthpabgiicglbmaaW.PrintWords Go.Proofs.YthpabgiicglbmaaW.PrintLast Go.Proofs.YthpabgiicglbmaaW.PrintMore

theorem got_done_3 (ge gx gn : Nat) (u : FrameMode) (w : World) (he : w.cell? ⟨ge, 0, none⟩ = some (.int .i64 0)) :
    CallsD Try.prog 111 #[.pointer (some ⟨ge, 0, none⟩), .pointer (some ⟨gx, 0, none⟩), .pointer (some ⟨gn, 0, none⟩)] u w fun e u' w' => u' = u ∧ (e = .returned (.tuple #[]) ∧ w' = w) := by
  go_enter_d Try.func111, Try.ntmps111
  go_wp2
  go_end0
  exact ⟨rfl, rfl⟩
theorem got_failed_3 (ge gx gn : Nat) (x y : Value) (u : FrameMode) (w : World) (he : w.cell? ⟨ge, 0, none⟩ = some (.int .i64 2)) (hx : w.cell? ⟨gx, 0, none⟩ = some x) (hfx : w.frozen? ⟨gx, 0, none⟩ = false) (hn : w.cell? ⟨gn, 0, none⟩ = some y) (hfn : w.frozen? ⟨gn, 0, none⟩ = false) (hne : gx ≠ gn) :
    CallsD Try.prog 111 #[.pointer (some ⟨ge, 0, none⟩), .pointer (some ⟨gx, 0, none⟩), .pointer (some ⟨gn, 0, none⟩)] u w fun e u' w' => u' = u ∧ (e = .returned (.tuple #[]) ∧ w' = (w.setCell ⟨gx, 0, none⟩ (.int .i64 0)).setCell ⟨gn, 0, none⟩ (.int .i64 0)) := by
  have hne' : ¬ gn = gx := fun h => hne h.symm
  go_enter_d Try.func111, Try.ntmps111
  go_wp2
  go_end0
  exact ⟨rfl, rfl⟩
set_option maxRecDepth 100000 in
set_option maxHeartbeats 1000000 in
theorem got_yes_3 (K : Nat) (cap : Array Value) (s rest : ByteArray) (r : Int) (w : World) (hK : ∀ args w, (callFunc K args).run Try.prog w = .ok (.enter K args) w) (hs : s.size ≤ 1000000000000000) (hrest : rest.size ≤ s.size)
    (hread : ∀ g W, W.cell? ⟨g, 0, none⟩ = some (.string s) → W.frozen? ⟨g, 0, none⟩ = false → Below w.heap.size w W → w.heap.size ≤ g → Calls Try.prog K (#[.pointer (some ⟨g, 0, none⟩)] ++ cap) W fun e w' => e = .returned (.int .i64 r) ∧ w'.cell? ⟨g, 0, none⟩ = some (.string rest) ∧ But g W w') :
    Calls Try.prog 81 #[.string s, .func (.func K) #[] cap] w fun e w' => e = .returned (.tuple #[.int .i64 r, .int .i64 (s.size - rest.size), .int .i64 0]) ∧ Below w.heap.size w w' := by
  have hmf : ∀ (fn : Fn) (first cap : Array Value) (w : World), (Instr.makeFunc fn first cap).run Try.prog w = .ok (.func fn first cap) w := fun _ _ _ _ => rfl
  have HR := Aside0.mk hread
  clear hread
  go_enter_defers Try.func81, Try.ntmps81
  go_wp2_with fail
  have B0 := (((Below.refl w.heap.size w).alloc (Nat.le_refl _) (.cells #[.int .i64 0] 3)).alloc (by simp) (.cells #[.int .i64 0] 3)).alloc (by simp; omega) (.cells #[.int .i64 0] 29) |>.alloc (by simp; omega) (.cells #[.string s] 131)
  refine (HR.out _ _ (by simp [go_sem]) (by simp [go_sem]) B0 (by omega)).mono ?_
  rintro e w1 ⟨rfl, hc1, hb1⟩
  have hx : w1.cell? ⟨w.heap.size, 0, none⟩ = some (.int .i64 0) := by rw [hb1.cell (by simp; omega) (by omega)]; simp [go_sem]
  have fx : w1.frozen? ⟨w.heap.size, 0, none⟩ = false := by rw [hb1.frozen (by simp; omega) (by omega)]; simp [go_sem]
  have hn : w1.cell? ⟨w.heap.size + 1, 0, none⟩ = some (.int .i64 0) := by rw [hb1.cell (by simp) (by omega)]; simp [go_sem]
  have fn : w1.frozen? ⟨w.heap.size + 1, 0, none⟩ = false := by rw [hb1.frozen (by simp) (by omega)]; simp [go_sem]
  have he : w1.cell? ⟨w.heap.size + 1 + 1, 0, none⟩ = some (.int .i64 0) := by rw [hb1.cell (by simp) (by omega)]; simp [go_sem]
  have fe : w1.frozen? ⟨w.heap.size + 1 + 1, 0, none⟩ = false := by rw [hb1.frozen (by simp) (by omega)]; simp [go_sem]
  have HB := Aside0.mk (B0.trans (hb1.below (B := w.heap.size) (by omega) (by simp; omega)))
  clear hb1 B0
  go_wp2
  go_region
  go_wp2
  refine leaves_cons (f := 92) (args := #[.pointer (some ⟨w.heap.size + 1 + 1, 0, none⟩)]) (by simp) (by simp [go_sem]) ?_
  refine (caught_idle _ _).mono ?_
  rintro e u' w'' ⟨rfl, rfl, rfl⟩
  refine leaves_cons (f := 111) (args := #[.pointer (some ⟨w.heap.size + 1 + 1, 0, none⟩), .pointer (some ⟨w.heap.size, 0, none⟩), .pointer (some ⟨w.heap.size + 1, 0, none⟩)]) (by simp [settle]) (by simp [go_sem]) ?_
  refine (got_done_3 _ _ _ _ _ (by simp [go_sem, he])).mono ?_
  rintro e u' w'' ⟨rfl, rfl, rfl⟩
  refine ⟨_, ?_, rfl, ?_⟩
  · simp [results, Try.results81, go_sem, hx, hn, he]
  · repeat (first | exact HB.out | refine Below.setCell ?_ (by simp <;> omega) _ | refine Below.drew ?_)
set_option maxRecDepth 100000 in
set_option maxHeartbeats 1000000 in
theorem got_no_3 (K : Nat) (cap : Array Value) (s : ByteArray) (w : World) (hK : ∀ args w, (callFunc K args).run Try.prog w = .ok (.enter K args) w)
    (hread : ∀ g W, W.cell? ⟨g, 0, none⟩ = some (.string s) → W.frozen? ⟨g, 0, none⟩ = false → Below w.heap.size w W → w.heap.size ≤ g → Calls Try.prog K (#[.pointer (some ⟨g, 0, none⟩)] ++ cap) W fun e w' => e = .panicked fail ∧ But g W w') :
    Calls Try.prog 81 #[.string s, .func (.func K) #[] cap] w fun e w' => e = .returned (.tuple #[.int .i64 0, .int .i64 0, .int .i64 2]) ∧ Below w.heap.size w w' := by
  have hmf : ∀ (fn : Fn) (first cap : Array Value) (w : World), (Instr.makeFunc fn first cap).run Try.prog w = .ok (.func fn first cap) w := fun _ _ _ _ => rfl
  have HR := Aside0.mk hread
  clear hread
  go_enter_defers Try.func81, Try.ntmps81
  go_wp2_with fail
  have B0 := (((Below.refl w.heap.size w).alloc (Nat.le_refl _) (.cells #[.int .i64 0] 3)).alloc (by simp) (.cells #[.int .i64 0] 3)).alloc (by simp; omega) (.cells #[.int .i64 0] 29) |>.alloc (by simp; omega) (.cells #[.string s] 131)
  refine (HR.out _ _ (by simp [go_sem]) (by simp [go_sem]) B0 (by omega)).mono ?_
  rintro e w1 ⟨rfl, hb1⟩
  have hx : w1.cell? ⟨w.heap.size, 0, none⟩ = some (.int .i64 0) := by rw [hb1.cell (by simp; omega) (by omega)]; simp [go_sem]
  have fx : w1.frozen? ⟨w.heap.size, 0, none⟩ = false := by rw [hb1.frozen (by simp; omega) (by omega)]; simp [go_sem]
  have hn : w1.cell? ⟨w.heap.size + 1, 0, none⟩ = some (.int .i64 0) := by rw [hb1.cell (by simp) (by omega)]; simp [go_sem]
  have fn : w1.frozen? ⟨w.heap.size + 1, 0, none⟩ = false := by rw [hb1.frozen (by simp) (by omega)]; simp [go_sem]
  have he : w1.cell? ⟨w.heap.size + 1 + 1, 0, none⟩ = some (.int .i64 0) := by rw [hb1.cell (by simp) (by omega)]; simp [go_sem]
  have fe : w1.frozen? ⟨w.heap.size + 1 + 1, 0, none⟩ = false := by rw [hb1.frozen (by simp) (by omega)]; simp [go_sem]
  have hz : w.heap.size + 3 < w1.heap.size := by have := hb1.size; simp at this; omega
  have HB := Aside0.mk (B0.trans (hb1.below (B := w.heap.size) (by omega) (by simp; omega)))
  clear hb1 B0
  go_wp2
  refine leaves_cons (f := 92) (args := #[.pointer (some ⟨w.heap.size + 1 + 1, 0, none⟩)]) (by simp) (by simp [go_sem]) ?_
  refine (caught_panicking _ _ _ _ he fe).mono ?_
  rintro e u' w'' ⟨rfl, rfl, rfl⟩
  refine leaves_cons (f := 111) (args := #[.pointer (some ⟨w.heap.size + 1 + 1, 0, none⟩), .pointer (some ⟨w.heap.size, 0, none⟩), .pointer (some ⟨w.heap.size + 1, 0, none⟩)]) (by simp [settle]) (by simp [go_sem]) ?_
  refine (got_failed_3 _ _ _ (.int .i64 0) (.int .i64 0) _ _ ?_ ?_ ?_ ?_ ?_ (by omega)).mono ?_
  · simp [go_sem, he, show w.heap.size + 1 + 1 < w1.heap.size from by omega]
  · simp [go_sem, hx, show w.heap.size < w1.heap.size from by omega]
  · simp [go_sem, fx, show w.heap.size < w1.heap.size from by omega]
  · simp [go_sem, hn, show w.heap.size + 1 < w1.heap.size from by omega]
  · simp [go_sem, fn, show w.heap.size + 1 < w1.heap.size from by omega]
  rintro e u' w'' ⟨rfl, rfl, rfl⟩
  refine ⟨_, ?_, rfl, ?_⟩
  · simp [results, Try.results81, go_sem, hx, hn, he, show w.heap.size < w1.heap.size from by omega, show w.heap.size + 1 < w1.heap.size from by omega, show w.heap.size + 1 + 1 < w1.heap.size from by omega]
  · repeat (first | exact HB.out | refine Below.setCell ?_ (by simp <;> omega) _ | refine Below.drew ?_ | refine Below.alloc ?_ (by simp <;> omega) _)
end Go.Proofs.Ythpabgiicglbmaa.E

namespace Go.Proofs.Ythpabgiicglbmaa.E
open Go.RowKit Go.Proofs.YthpabgiicglbmaaW.PrintWords Go.Proofs.YthpabgiicglbmaaW.PrintLast Go.Proofs.YthpabgiicglbmaaW.PrintMore

theorem got_done_70 (ge gx gn : Nat) (u : FrameMode) (w : World) (he : w.cell? ⟨ge, 0, none⟩ = some (.int .i64 0)) :
    CallsD Try.prog 112 #[.pointer (some ⟨ge, 0, none⟩), .pointer (some ⟨gx, 0, none⟩), .pointer (some ⟨gn, 0, none⟩)] u w fun e u' w' => u' = u ∧ (e = .returned (.tuple #[]) ∧ w' = w) := by
  go_enter_d Try.func112, Try.ntmps112
  go_wp2
  go_end0
  exact ⟨rfl, rfl⟩
theorem got_failed_70 (ge gx gn : Nat) (x y : Value) (u : FrameMode) (w : World) (he : w.cell? ⟨ge, 0, none⟩ = some (.int .i64 2)) (hx : w.cell? ⟨gx, 0, none⟩ = some x) (hfx : w.frozen? ⟨gx, 0, none⟩ = false) (hn : w.cell? ⟨gn, 0, none⟩ = some y) (hfn : w.frozen? ⟨gn, 0, none⟩ = false) (hne : gx ≠ gn) :
    CallsD Try.prog 112 #[.pointer (some ⟨ge, 0, none⟩), .pointer (some ⟨gx, 0, none⟩), .pointer (some ⟨gn, 0, none⟩)] u w fun e u' w' => u' = u ∧ (e = .returned (.tuple #[]) ∧ w' = (w.setCell ⟨gx, 0, none⟩ (.int .u32 0)).setCell ⟨gn, 0, none⟩ (.int .i64 0)) := by
  have hne' : ¬ gn = gx := fun h => hne h.symm
  go_enter_d Try.func112, Try.ntmps112
  go_wp2
  go_end0
  exact ⟨rfl, rfl⟩
set_option maxRecDepth 100000 in
set_option maxHeartbeats 1000000 in
theorem got_yes_70 (K : Nat) (cap : Array Value) (s rest : ByteArray) (r : Int) (w : World) (hK : ∀ args w, (callFunc K args).run Try.prog w = .ok (.enter K args) w) (hs : s.size ≤ 1000000000000000) (hrest : rest.size ≤ s.size)
    (hread : ∀ g W, W.cell? ⟨g, 0, none⟩ = some (.string s) → W.frozen? ⟨g, 0, none⟩ = false → Below w.heap.size w W → w.heap.size ≤ g → Calls Try.prog K (#[.pointer (some ⟨g, 0, none⟩)] ++ cap) W fun e w' => e = .returned (.int .u32 r) ∧ w'.cell? ⟨g, 0, none⟩ = some (.string rest) ∧ But g W w') :
    Calls Try.prog 85 #[.string s, .func (.func K) #[] cap] w fun e w' => e = .returned (.tuple #[.int .u32 r, .int .i64 (s.size - rest.size), .int .i64 0]) ∧ Below w.heap.size w w' := by
  have hmf : ∀ (fn : Fn) (first cap : Array Value) (w : World), (Instr.makeFunc fn first cap).run Try.prog w = .ok (.func fn first cap) w := fun _ _ _ _ => rfl
  have HR := Aside0.mk hread
  clear hread
  go_enter_defers Try.func85, Try.ntmps85
  go_wp2_with fail
  have B0 := (((Below.refl w.heap.size w).alloc (Nat.le_refl _) (.cells #[.int .u32 0] 70)).alloc (by simp) (.cells #[.int .i64 0] 3)).alloc (by simp; omega) (.cells #[.int .i64 0] 29) |>.alloc (by simp; omega) (.cells #[.string s] 131)
  refine (HR.out _ _ (by simp [go_sem]) (by simp [go_sem]) B0 (by omega)).mono ?_
  rintro e w1 ⟨rfl, hc1, hb1⟩
  have hx : w1.cell? ⟨w.heap.size, 0, none⟩ = some (.int .u32 0) := by rw [hb1.cell (by simp; omega) (by omega)]; simp [go_sem]
  have fx : w1.frozen? ⟨w.heap.size, 0, none⟩ = false := by rw [hb1.frozen (by simp; omega) (by omega)]; simp [go_sem]
  have hn : w1.cell? ⟨w.heap.size + 1, 0, none⟩ = some (.int .i64 0) := by rw [hb1.cell (by simp) (by omega)]; simp [go_sem]
  have fn : w1.frozen? ⟨w.heap.size + 1, 0, none⟩ = false := by rw [hb1.frozen (by simp) (by omega)]; simp [go_sem]
  have he : w1.cell? ⟨w.heap.size + 1 + 1, 0, none⟩ = some (.int .i64 0) := by rw [hb1.cell (by simp) (by omega)]; simp [go_sem]
  have fe : w1.frozen? ⟨w.heap.size + 1 + 1, 0, none⟩ = false := by rw [hb1.frozen (by simp) (by omega)]; simp [go_sem]
  have HB := Aside0.mk (B0.trans (hb1.below (B := w.heap.size) (by omega) (by simp; omega)))
  clear hb1 B0
  go_wp2
  go_region
  go_wp2
  refine leaves_cons (f := 92) (args := #[.pointer (some ⟨w.heap.size + 1 + 1, 0, none⟩)]) (by simp) (by simp [go_sem]) ?_
  refine (caught_idle _ _).mono ?_
  rintro e u' w'' ⟨rfl, rfl, rfl⟩
  refine leaves_cons (f := 112) (args := #[.pointer (some ⟨w.heap.size + 1 + 1, 0, none⟩), .pointer (some ⟨w.heap.size, 0, none⟩), .pointer (some ⟨w.heap.size + 1, 0, none⟩)]) (by simp [settle]) (by simp [go_sem]) ?_
  refine (got_done_70 _ _ _ _ _ (by simp [go_sem, he])).mono ?_
  rintro e u' w'' ⟨rfl, rfl, rfl⟩
  refine ⟨_, ?_, rfl, ?_⟩
  · simp [results, Try.results85, go_sem, hx, hn, he]
  · repeat (first | exact HB.out | refine Below.setCell ?_ (by simp <;> omega) _ | refine Below.drew ?_)
set_option maxRecDepth 100000 in
set_option maxHeartbeats 1000000 in
theorem got_no_70 (K : Nat) (cap : Array Value) (s : ByteArray) (w : World) (hK : ∀ args w, (callFunc K args).run Try.prog w = .ok (.enter K args) w)
    (hread : ∀ g W, W.cell? ⟨g, 0, none⟩ = some (.string s) → W.frozen? ⟨g, 0, none⟩ = false → Below w.heap.size w W → w.heap.size ≤ g → Calls Try.prog K (#[.pointer (some ⟨g, 0, none⟩)] ++ cap) W fun e w' => e = .panicked fail ∧ But g W w') :
    Calls Try.prog 85 #[.string s, .func (.func K) #[] cap] w fun e w' => e = .returned (.tuple #[.int .u32 0, .int .i64 0, .int .i64 2]) ∧ Below w.heap.size w w' := by
  have hmf : ∀ (fn : Fn) (first cap : Array Value) (w : World), (Instr.makeFunc fn first cap).run Try.prog w = .ok (.func fn first cap) w := fun _ _ _ _ => rfl
  have HR := Aside0.mk hread
  clear hread
  go_enter_defers Try.func85, Try.ntmps85
  go_wp2_with fail
  have B0 := (((Below.refl w.heap.size w).alloc (Nat.le_refl _) (.cells #[.int .u32 0] 70)).alloc (by simp) (.cells #[.int .i64 0] 3)).alloc (by simp; omega) (.cells #[.int .i64 0] 29) |>.alloc (by simp; omega) (.cells #[.string s] 131)
  refine (HR.out _ _ (by simp [go_sem]) (by simp [go_sem]) B0 (by omega)).mono ?_
  rintro e w1 ⟨rfl, hb1⟩
  have hx : w1.cell? ⟨w.heap.size, 0, none⟩ = some (.int .u32 0) := by rw [hb1.cell (by simp; omega) (by omega)]; simp [go_sem]
  have fx : w1.frozen? ⟨w.heap.size, 0, none⟩ = false := by rw [hb1.frozen (by simp; omega) (by omega)]; simp [go_sem]
  have hn : w1.cell? ⟨w.heap.size + 1, 0, none⟩ = some (.int .i64 0) := by rw [hb1.cell (by simp) (by omega)]; simp [go_sem]
  have fn : w1.frozen? ⟨w.heap.size + 1, 0, none⟩ = false := by rw [hb1.frozen (by simp) (by omega)]; simp [go_sem]
  have he : w1.cell? ⟨w.heap.size + 1 + 1, 0, none⟩ = some (.int .i64 0) := by rw [hb1.cell (by simp) (by omega)]; simp [go_sem]
  have fe : w1.frozen? ⟨w.heap.size + 1 + 1, 0, none⟩ = false := by rw [hb1.frozen (by simp) (by omega)]; simp [go_sem]
  have hz : w.heap.size + 3 < w1.heap.size := by have := hb1.size; simp at this; omega
  have HB := Aside0.mk (B0.trans (hb1.below (B := w.heap.size) (by omega) (by simp; omega)))
  clear hb1 B0
  go_wp2
  refine leaves_cons (f := 92) (args := #[.pointer (some ⟨w.heap.size + 1 + 1, 0, none⟩)]) (by simp) (by simp [go_sem]) ?_
  refine (caught_panicking _ _ _ _ he fe).mono ?_
  rintro e u' w'' ⟨rfl, rfl, rfl⟩
  refine leaves_cons (f := 112) (args := #[.pointer (some ⟨w.heap.size + 1 + 1, 0, none⟩), .pointer (some ⟨w.heap.size, 0, none⟩), .pointer (some ⟨w.heap.size + 1, 0, none⟩)]) (by simp [settle]) (by simp [go_sem]) ?_
  refine (got_failed_70 _ _ _ (.int .u32 0) (.int .i64 0) _ _ ?_ ?_ ?_ ?_ ?_ (by omega)).mono ?_
  · simp [go_sem, he, show w.heap.size + 1 + 1 < w1.heap.size from by omega]
  · simp [go_sem, hx, show w.heap.size < w1.heap.size from by omega]
  · simp [go_sem, fx, show w.heap.size < w1.heap.size from by omega]
  · simp [go_sem, hn, show w.heap.size + 1 < w1.heap.size from by omega]
  · simp [go_sem, fn, show w.heap.size + 1 < w1.heap.size from by omega]
  rintro e u' w'' ⟨rfl, rfl, rfl⟩
  refine ⟨_, ?_, rfl, ?_⟩
  · simp [results, Try.results85, go_sem, hx, hn, he, show w.heap.size < w1.heap.size from by omega, show w.heap.size + 1 < w1.heap.size from by omega, show w.heap.size + 1 + 1 < w1.heap.size from by omega]
  · repeat (first | exact HB.out | refine Below.setCell ?_ (by simp <;> omega) _ | refine Below.drew ?_ | refine Below.alloc ?_ (by simp <;> omega) _)
end Go.Proofs.Ythpabgiicglbmaa.E

namespace Go.Proofs.Ythpabgiicglbmaa.E
open Go.RowKit Go.Proofs.YthpabgiicglbmaaW.PrintWords Go.Proofs.YthpabgiicglbmaaW.PrintLast Go.Proofs.YthpabgiicglbmaaW.PrintMore

theorem got_done_44 (ge gx gn : Nat) (u : FrameMode) (w : World) (he : w.cell? ⟨ge, 0, none⟩ = some (.int .i64 0)) :
    CallsD Try.prog 109 #[.pointer (some ⟨ge, 0, none⟩), .pointer (some ⟨gx, 0, none⟩), .pointer (some ⟨gn, 0, none⟩)] u w fun e u' w' => u' = u ∧ (e = .returned (.tuple #[]) ∧ w' = w) := by
  go_enter_d Try.func109, Try.ntmps109
  go_wp2
  go_end0
  exact ⟨rfl, rfl⟩
theorem got_failed_44 (ge gx gn : Nat) (x y : Value) (u : FrameMode) (w : World) (he : w.cell? ⟨ge, 0, none⟩ = some (.int .i64 2)) (hx : w.cell? ⟨gx, 0, none⟩ = some x) (hfx : w.frozen? ⟨gx, 0, none⟩ = false) (hn : w.cell? ⟨gn, 0, none⟩ = some y) (hfn : w.frozen? ⟨gn, 0, none⟩ = false) (hne : gx ≠ gn) :
    CallsD Try.prog 109 #[.pointer (some ⟨ge, 0, none⟩), .pointer (some ⟨gx, 0, none⟩), .pointer (some ⟨gn, 0, none⟩)] u w fun e u' w' => u' = u ∧ (e = .returned (.tuple #[]) ∧ w' = (w.setCell ⟨gx, 0, none⟩ (.slice none 0 0)).setCell ⟨gn, 0, none⟩ (.int .i64 0)) := by
  have hne' : ¬ gn = gx := fun h => hne h.symm
  go_enter_d Try.func109, Try.ntmps109
  go_wp2
  go_end0
  exact ⟨rfl, rfl⟩
set_option maxRecDepth 100000 in
set_option maxHeartbeats 1000000 in
theorem got_yes_44 (K : Nat) (cap : Array Value) (s rest : ByteArray) (l : List S49) (w : World) (hK : ∀ args w, (callFunc K args).run Try.prog w = .ok (.enter K args) w) (hs : s.size ≤ 1000000000000000) (hrest : rest.size ≤ s.size)
    (hread : ∀ g W, W.cell? ⟨g, 0, none⟩ = some (.string s) → W.frozen? ⟨g, 0, none⟩ = false → Below w.heap.size w W → w.heap.size ≤ g → Calls Try.prog K (#[.pointer (some ⟨g, 0, none⟩)] ++ cap) W fun e w' => ∃ v, e = .returned v ∧ Kd.R k49 49 w' (g + 1) (fun _ => True) v l ∧ w'.cell? ⟨g, 0, none⟩ = some (.string rest) ∧ But g W w') :
    Calls Try.prog 76 #[.string s, .func (.func K) #[] cap] w fun e w' => ∃ v, e = .returned (.tuple #[v, .int .i64 (s.size - rest.size), .int .i64 0]) ∧ Kd.R k49 49 w' w.heap.size (fun _ => True) v l ∧ Below w.heap.size w w' := by
  have hmf : ∀ (fn : Fn) (first cap : Array Value) (w : World), (Instr.makeFunc fn first cap).run Try.prog w = .ok (.func fn first cap) w := fun _ _ _ _ => rfl
  have HR := Aside0.mk hread
  clear hread
  go_enter_defers Try.func76, Try.ntmps76
  go_wp2_with fail
  have B0 := (((Below.refl w.heap.size w).alloc (Nat.le_refl _) (.cells #[.slice none 0 0] 44)).alloc (by simp) (.cells #[.int .i64 0] 3)).alloc (by simp; omega) (.cells #[.int .i64 0] 29) |>.alloc (by simp; omega) (.cells #[.string s] 131)
  refine (HR.out _ _ (by simp [go_sem]) (by simp [go_sem]) B0 (by omega)).mono ?_
  rintro e w1 ⟨v, rfl, hO, hc1, hb1⟩
  obtain ⟨A, c, rfl⟩ := Kd.R_slice hO
  have HO := Aside0.mk (Kd.R_mono (Kd.R_bound hO) (ok' := fun k => w.heap.size + 1 + 1 < k) (fun k hk => by have := hk.2.1; omega))
  clear hO
  have hx : w1.cell? ⟨w.heap.size, 0, none⟩ = some (.slice none 0 0) := by rw [hb1.cell (by simp; omega) (by omega)]; simp [go_sem]
  have fx : w1.frozen? ⟨w.heap.size, 0, none⟩ = false := by rw [hb1.frozen (by simp; omega) (by omega)]; simp [go_sem]
  have hn : w1.cell? ⟨w.heap.size + 1, 0, none⟩ = some (.int .i64 0) := by rw [hb1.cell (by simp) (by omega)]; simp [go_sem]
  have fn : w1.frozen? ⟨w.heap.size + 1, 0, none⟩ = false := by rw [hb1.frozen (by simp) (by omega)]; simp [go_sem]
  have he : w1.cell? ⟨w.heap.size + 1 + 1, 0, none⟩ = some (.int .i64 0) := by rw [hb1.cell (by simp) (by omega)]; simp [go_sem]
  have fe : w1.frozen? ⟨w.heap.size + 1 + 1, 0, none⟩ = false := by rw [hb1.frozen (by simp) (by omega)]; simp [go_sem]
  have HB := Aside0.mk (B0.trans (hb1.below (B := w.heap.size) (by omega) (by simp; omega)))
  clear hb1 B0
  go_wp2
  go_region
  go_wp2
  refine leaves_cons (f := 92) (args := #[.pointer (some ⟨w.heap.size + 1 + 1, 0, none⟩)]) (by simp) (by simp [go_sem]) ?_
  refine (caught_idle _ _).mono ?_
  rintro e u' w'' ⟨rfl, rfl, rfl⟩
  refine leaves_cons (f := 109) (args := #[.pointer (some ⟨w.heap.size + 1 + 1, 0, none⟩), .pointer (some ⟨w.heap.size, 0, none⟩), .pointer (some ⟨w.heap.size + 1, 0, none⟩)]) (by simp [settle]) (by simp [go_sem]) ?_
  refine (got_done_44 _ _ _ _ _ (by simp [go_sem, he])).mono ?_
  rintro e u' w'' ⟨rfl, rfl, rfl⟩
  refine ⟨_, ?_, .slice A l.length c, rfl, ?_, ?_⟩
  · simp [results, Try.results76, go_sem, hx, hn, he]
  · refine Kd.R_mono (ok := fun k => w.heap.size + 1 + 1 < k) (Kd.R_lower (base' := w.heap.size) (base := w.heap.size + 1 + 1 + 1 + 1) ?_ (by omega)) (fun _ _ => trivial)
    repeat (first | exact HO.out | refine Kd.R_far ?_ (fun k hk => by (try dsimp only); omega) _ | refine Kd.R_drew ?_)
  · repeat (first | exact HB.out | refine Below.setCell ?_ (by simp <;> omega) _ | refine Below.drew ?_)
set_option maxRecDepth 100000 in
set_option maxHeartbeats 1000000 in
theorem got_no_44 (K : Nat) (cap : Array Value) (s : ByteArray) (w : World) (hK : ∀ args w, (callFunc K args).run Try.prog w = .ok (.enter K args) w)
    (hread : ∀ g W, W.cell? ⟨g, 0, none⟩ = some (.string s) → W.frozen? ⟨g, 0, none⟩ = false → Below w.heap.size w W → w.heap.size ≤ g → Calls Try.prog K (#[.pointer (some ⟨g, 0, none⟩)] ++ cap) W fun e w' => e = .panicked fail ∧ But g W w') :
    Calls Try.prog 76 #[.string s, .func (.func K) #[] cap] w fun e w' => e = .returned (.tuple #[.slice none 0 0, .int .i64 0, .int .i64 2]) ∧ Below w.heap.size w w' := by
  have hmf : ∀ (fn : Fn) (first cap : Array Value) (w : World), (Instr.makeFunc fn first cap).run Try.prog w = .ok (.func fn first cap) w := fun _ _ _ _ => rfl
  have HR := Aside0.mk hread
  clear hread
  go_enter_defers Try.func76, Try.ntmps76
  go_wp2_with fail
  have B0 := (((Below.refl w.heap.size w).alloc (Nat.le_refl _) (.cells #[.slice none 0 0] 44)).alloc (by simp) (.cells #[.int .i64 0] 3)).alloc (by simp; omega) (.cells #[.int .i64 0] 29) |>.alloc (by simp; omega) (.cells #[.string s] 131)
  refine (HR.out _ _ (by simp [go_sem]) (by simp [go_sem]) B0 (by omega)).mono ?_
  rintro e w1 ⟨rfl, hb1⟩
  have hx : w1.cell? ⟨w.heap.size, 0, none⟩ = some (.slice none 0 0) := by rw [hb1.cell (by simp; omega) (by omega)]; simp [go_sem]
  have fx : w1.frozen? ⟨w.heap.size, 0, none⟩ = false := by rw [hb1.frozen (by simp; omega) (by omega)]; simp [go_sem]
  have hn : w1.cell? ⟨w.heap.size + 1, 0, none⟩ = some (.int .i64 0) := by rw [hb1.cell (by simp) (by omega)]; simp [go_sem]
  have fn : w1.frozen? ⟨w.heap.size + 1, 0, none⟩ = false := by rw [hb1.frozen (by simp) (by omega)]; simp [go_sem]
  have he : w1.cell? ⟨w.heap.size + 1 + 1, 0, none⟩ = some (.int .i64 0) := by rw [hb1.cell (by simp) (by omega)]; simp [go_sem]
  have fe : w1.frozen? ⟨w.heap.size + 1 + 1, 0, none⟩ = false := by rw [hb1.frozen (by simp) (by omega)]; simp [go_sem]
  have hz : w.heap.size + 3 < w1.heap.size := by have := hb1.size; simp at this; omega
  have HB := Aside0.mk (B0.trans (hb1.below (B := w.heap.size) (by omega) (by simp; omega)))
  clear hb1 B0
  go_wp2
  refine leaves_cons (f := 92) (args := #[.pointer (some ⟨w.heap.size + 1 + 1, 0, none⟩)]) (by simp) (by simp [go_sem]) ?_
  refine (caught_panicking _ _ _ _ he fe).mono ?_
  rintro e u' w'' ⟨rfl, rfl, rfl⟩
  refine leaves_cons (f := 109) (args := #[.pointer (some ⟨w.heap.size + 1 + 1, 0, none⟩), .pointer (some ⟨w.heap.size, 0, none⟩), .pointer (some ⟨w.heap.size + 1, 0, none⟩)]) (by simp [settle]) (by simp [go_sem]) ?_
  refine (got_failed_44 _ _ _ (.slice none 0 0) (.int .i64 0) _ _ ?_ ?_ ?_ ?_ ?_ (by omega)).mono ?_
  · simp [go_sem, he, show w.heap.size + 1 + 1 < w1.heap.size from by omega]
  · simp [go_sem, hx, show w.heap.size < w1.heap.size from by omega]
  · simp [go_sem, fx, show w.heap.size < w1.heap.size from by omega]
  · simp [go_sem, hn, show w.heap.size + 1 < w1.heap.size from by omega]
  · simp [go_sem, fn, show w.heap.size + 1 < w1.heap.size from by omega]
  rintro e u' w'' ⟨rfl, rfl, rfl⟩
  refine ⟨_, ?_, rfl, ?_⟩
  · simp [results, Try.results76, go_sem, hx, hn, he, show w.heap.size < w1.heap.size from by omega, show w.heap.size + 1 < w1.heap.size from by omega, show w.heap.size + 1 + 1 < w1.heap.size from by omega]
  · repeat (first | exact HB.out | refine Below.setCell ?_ (by simp <;> omega) _ | refine Below.drew ?_ | refine Below.alloc ?_ (by simp <;> omega) _)
end Go.Proofs.Ythpabgiicglbmaa.E
