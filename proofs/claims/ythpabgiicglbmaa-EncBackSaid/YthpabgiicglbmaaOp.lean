/- What a slice of data, and a slice of bools, that came in, reads as. -/
import Derived.Test.YthpabgiicglbmaaEx0
import Derived.Deep.Slices
import Derived.Deep.Fields
import Derived.ChangeSame
import Derived.SizedLaws
namespace Go.Proofs.Ythpabgiicglbmaa.E
set_option linter.unusedVariables false
set_option linter.unusedSimpArgs false
open Go.ChangeShapes Go.WideShapes Go.Deep Go.RowKit Go.Proofs.YthpabgiicglbmaaW.PrintWords
section
variable {H : Type} {enc : TypeId × Value → H} {w : World} {base : Nat} {spare : Nat → Bool} {held : Bool}

theorem C_max {A : Option Addr} {n : Nat} {l : List S49} (h : Kd.C k49 w A n l) : n ≤ 9223372036854775807 := Kd.C_max h
theorem wf_int (n : Int) (h : (Lit.int .i64 n).wf = true) : -9223372036854775808 ≤ n ∧ n ≤ 9223372036854775807 := by
  have e1 : IntKind.i64.min = -9223372036854775808 := rfl
  have e2 : IntKind.i64.max = 9223372036854775807 := rfl
  simp [Lit.wf] at h
  omega
theorem cells49 : Try.prog.cellsOf 49 = 3 := by kernel_rfl
theorem cells3 : Try.prog.cellsOf 3 = 1 := by kernel_rfl
theorem cells9 : Try.prog.cellsOf 9 = 1 := by kernel_rfl
theorem cells4 : Try.prog.cellsOf 4 = 1 := by kernel_rfl
/-- a datum, as the statement's data tell it -/
def datD (y : S49) : DataW H := .agg [.lit (.int .i64 y.f0), .lit (.int .i64 y.f1), .lit (.string y.f2.data.toList)]
set_option maxRecDepth 100000 in
theorem open_datum {fuel : Nat} {cs : List Value} {x : DataW H × List MemPlace} (h : DataW.trod enc Try.prog w base spare held fuel 49 cs = some x) :
    ∃ y : S49, cs = [.int .i64 y.f0, .int .i64 y.f1, .string y.f2] ∧ (Lit.int .i64 y.f0).wf = true ∧ (Lit.int .i64 y.f1).wf = true ∧ x.1 = datD y := by
  obtain ⟨xs, n, _, hx, hlen, hxl, hf⟩ := DataW.trod_struct Try.underlying49 h
  rw [cells49] at hlen
  match cs, hlen with
  | [c0, c1, c2], _ =>
    have hxl' : xs.length = 3 := hxl
    have h0 : DataW.trod enc Try.prog w base spare held n 3 (([c0, c1, c2].drop 0).take (Try.prog.cellsOf 3)) = xs[0]? := hf 0 _ rfl
    have h1 : DataW.trod enc Try.prog w base spare held n 3 (([c0, c1, c2].drop 1).take (Try.prog.cellsOf 3)) = xs[1]? := hf 1 _ rfl
    have h2 : DataW.trod enc Try.prog w base spare held n 9 (([c0, c1, c2].drop 2).take (Try.prog.cellsOf 9)) = xs[2]? := hf 2 _ rfl
    rw [List.getElem?_eq_getElem (by omega), cells3] at h0 h1
    rw [List.getElem?_eq_getElem (by omega), cells9] at h2
    simp only [List.drop_zero, List.drop_succ_cons, List.take_succ_cons, List.take_zero] at h0 h1 h2
    obtain ⟨n0, e0, d0, w0⟩ := DataW.trod_int Try.underlying3 h0
    obtain ⟨n1, e1, d1, w1⟩ := DataW.trod_int Try.underlying3 h1
    obtain ⟨s, e2, d2, _⟩ := DataW.trod_string Try.underlying9 h2
    cases e0; cases e1; cases e2
    refine ⟨⟨n0, n1, s⟩, rfl, w0, w1, ?_⟩
    match xs, hxl' with
    | [x0, x1, x2], _ =>
      simp only [List.getElem_cons_zero, List.getElem_cons_succ] at d0 d1 d2
      subst d0 d1 d2
      rw [hx]; rfl
theorem open_data {fuel : Nat} {A : Option Addr} {len cap : Nat} {x : DataW H × List MemPlace} (h : DataW.trod enc Try.prog w base spare held fuel 44 [.slice A len cap] = some x) :
    ∃ l : List S49, l.length = len ∧ len ≤ cap ∧ Kd.C k49 w A len l ∧ ∀ y ∈ l, (Lit.int .i64 y.f0).wf = true ∧ (Lit.int .i64 y.f1).wf = true ∧ ∃ elems spare, x.1 = .slice elems spare ∧ datD y ∈ elems := by
  rcases open_slice Try.underlying44 h with ⟨e, _⟩ | ⟨a, len', cap', m, n, D, Pl, e, hb, hl, hm, hmm, hx, hi⟩
  · cases e
    exact ⟨[], rfl, Nat.le_refl _, Kd.C_nil _ _, fun y hy => by cases hy⟩
  · cases e
    rw [cells49] at hi
    have hlm : len ≤ m := by rw [hmm]; split <;> omega
    have hone : ∀ i, i < len → ∃ y : S49, (∀ (j : Nat) (u : Value), [Value.int .i64 y.f0, .int .i64 y.f1, .string y.f2][j]? = some u → w.cell? (a.add (i * 3 + j)) = some u) ∧ (Lit.int .i64 y.f0).wf = true ∧ (Lit.int .i64 y.f1).wf = true ∧ D i = datD y := by
      intro i hil
      obtain ⟨cs', h1, h2⟩ := hi i (by omega)
      obtain ⟨y, rfl, w0, w1, w2⟩ := open_datum h2
      obtain ⟨_, _, hat⟩ := World.cells?_some h1
      refine ⟨y, fun j u hj => ?_, w0, w1, w2⟩
      have hj3 : j < 3 := (List.getElem?_eq_some_iff.mp hj).1
      rw [← Go.Deep.add_add, hat j hj3]
      exact hj
    have : Inhabited S49 := ⟨⟨0, 0, ⟨#[]⟩⟩⟩
    obtain ⟨f, hf⟩ := choose_lt hone
    refine ⟨(List.range len).map f, by simp, hl, ⟨by simp, ?_, fun _ => ⟨a, rfl, ?_⟩⟩, ?_⟩
    · unfold maxLen at hm; omega
    · intro j p hp
      obtain ⟨hjl, hjg⟩ := List.getElem?_eq_some_iff.mp hp
      have hjl' : j < len := by simpa using hjl
      have hpf : f j = p := by simpa using hjg
      subst hpf
      exact ⟨_, rfl, k49_mk w (f j), (hf j hjl').1⟩
    · intro y hy
      obtain ⟨j, hj, rfl⟩ := List.mem_map.mp hy
      obtain ⟨_, w0, w1, hD⟩ := hf j (List.mem_range.mp hj)
      refine ⟨w0, w1, (List.range len).map D, (List.range (m - len)).map fun j => D (len + j), by rw [hx], ?_⟩
      rw [← hD]
      exact List.mem_map.mpr ⟨j, hj, rfl⟩
theorem open_bools {fuel : Nat} {A : Option Addr} {len cap : Nat} {x : DataW H × List MemPlace} (h : DataW.trod enc Try.prog w base spare held fuel 45 [.slice A len cap] = some x) :
    ∃ l : List Bool, l.length = len ∧ len ≤ cap ∧ Kd.C Kd.bool w A len l := by
  rcases open_slice Try.underlying45 h with ⟨e, _⟩ | ⟨a, len', cap', m, n, D, Pl, e, hb, hl, hm, hmm, _, hi⟩
  · cases e
    exact ⟨[], rfl, Nat.le_refl _, Kd.C_nil _ _⟩
  · cases e
    rw [cells4] at hi
    have hlm : len ≤ m := by rw [hmm]; split <;> omega
    have hone : ∀ i, i < len → ∃ y : Bool, w.cell? (a.add i) = some (.bool y) := by
      intro i hil
      obtain ⟨cs', h1, h2⟩ := hi i (by omega)
      obtain ⟨y, rfl, _⟩ := DataW.trod_bool Try.underlying4 h2
      obtain ⟨_, _, hat⟩ := World.cells?_some h1
      have := hat 0 (by decide)
      rw [Go.Deep.add_add, Nat.add_zero, Nat.mul_one] at this
      exact ⟨y, this⟩
    obtain ⟨f, hf⟩ := choose_lt hone
    refine ⟨(List.range len).map f, by simp, hl, ⟨by simp, ?_, fun _ => ⟨a, rfl, ?_⟩⟩⟩
    · unfold maxLen at hm; omega
    · intro j p hp
      obtain ⟨hjl, hjg⟩ := List.getElem?_eq_some_iff.mp hp
      have hjl' : j < len := by simpa using hjl
      have hpf : f j = p := by simpa using hjg
      subst hpf
      refine ⟨[.bool (f j)], rfl, rfl, fun i u hu => ?_⟩
      obtain ⟨hi1, hi2⟩ := List.getElem?_eq_some_iff.mp hu
      have : i = 0 := by simpa using hi1
      subst this
      simp only [List.getElem_cons_zero] at hi2
      subst hi2
      show w.cell? (a.add (j * 1 + 0)) = _
      rw [Nat.mul_one]
      exact hf j hjl'
theorem weights_mem_all {P : Program} {e : TypeId} : ∀ {ds : List (DataW H)} {d : DataW H}, d ∈ ds → ∀ n ∈ d.weights P e, n ∈ DataW.weightsAll P e ds
  | _ :: _, _, .head _, n, hn => by
    simp only [DataW.weightsAll, List.mem_append]
    exact .inl hn
  | _ :: _, _, .tail _ h, n, hn => by
    simp only [DataW.weightsAll, List.mem_append]
    exact .inr (weights_mem_all h n hn)
set_option maxRecDepth 100000 in
theorem datum_weight (y : S49) : y.f2.data.toList.length ∈ (datD (H := H) y).weights Try.prog 49 := by
  simp only [datD, DataW.weights, Try.underlying49]
  simp [DataW.weightsEach, DataW.weights]
theorem data_sized {ts : List TypeId} {ds : List (DataW H)} (hsz : (DataW.weightsEach Try.prog ts ds).all (· ≤ reachBytes) = true) {j : Nat} {d : DataW H} {l : List S49} (ht : ts[j]? = some 44) (hd : ds[j]? = some d)
    (hE : ∀ y ∈ l, (Lit.int .i64 y.f0).wf = true ∧ (Lit.int .i64 y.f1).wf = true ∧ ∃ elems spare, d = .slice elems spare ∧ datD y ∈ elems) : ∀ y ∈ l, y.f2.size ≤ 140737488351232 := by
  intro y hy
  obtain ⟨_, _, elems, spare, rfl, hm⟩ := hE y hy
  have := List.all_eq_true.1 hsz _ (DataW.weights_mem_each ht hd y.f2.data.toList.length (by
    simp only [DataW.weights, Try.underlying44, List.mem_cons, List.mem_append]
    exact .inr (.inl (weights_mem_all hm _ (datum_weight y)))))
  have h2 := of_decide_eq_true this
  have h3 : y.f2.data.toList.length = y.f2.size := rfl
  rw [h3] at h2
  exact h2
theorem datum_sized {ts : List TypeId} {ds : List (DataW H)} (hsz : (DataW.weightsEach Try.prog ts ds).all (· ≤ reachBytes) = true) {j : Nat} {d : DataW H} {y : S49} (ht : ts[j]? = some 49) (hd : ds[j]? = some d) (hE : d = datD y) : y.f2.size ≤ 140737488351232 := by
  subst hE
  have := List.all_eq_true.1 hsz _ (DataW.weights_mem_each ht hd y.f2.data.toList.length (datum_weight y))
  have h2 := of_decide_eq_true this
  have h3 : y.f2.data.toList.length = y.f2.size := rfl
  rw [h3] at h2
  exact h2
end
end Go.Proofs.Ythpabgiicglbmaa.E
