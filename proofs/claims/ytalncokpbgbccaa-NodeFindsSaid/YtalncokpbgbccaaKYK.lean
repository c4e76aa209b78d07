-- A slim copy of YK, YL, YM, written by wip/tools/prune2.py.
import Derived.Test.YtalncokpbgbccaaKTD
import Derived.Test.YtalncokpbgbccaaKYD
import Derived.Test.YtalncokpbgbccaaKYH
/- Leaves that are in order, plainly: what a leaf holds with an entry, or without one. -/
namespace Go.Proofs.Ytalncokpbgbccaa.E
set_option linter.unusedVariables false
set_option linter.unusedSimpArgs false
open Go.RowKit Go.Proofs.YtalncokpbgbccaaW.PrintWords Go.Proofs.YtalncokpbgbccaaW.PrintLast Go.Proofs.YtalncokpbgbccaaW.PrintMore
/-- the key of one entry is less than that of another one -/
def ltK (x y : S77) : Prop := Op.bytesLess x.f0.toList y.f0.toList = true
theorem getD_at (l : List S77) (i : Nat) (h : i < l.length) : l.getD i z77 = l[i] := by simp [h]
theorem inc_pair {l : List S77} : IncL l ↔ l.Pairwise ltK := by
  constructor
  · intro h
    rw [List.pairwise_iff_getElem]
    intro i j hi hj hij
    have := inc_lt h i (j - i) (by omega) (by omega)
    rw [show i + (j - i) = j by omega, getD_at l i hi, getD_at l j hj] at this
    exact this
  · intro h j h0 hj
    rw [List.pairwise_iff_getElem] at h
    rw [getD_at l (j - 1) (by omega), getD_at l j hj]
    exact h (j - 1) j (by omega) hj (by omega)
theorem s_spec {l : List S77} (h : IncL l) (k : ByteArray) : (∀ i, i < searchP l k → Op.bytesLess (l.getD i z77).f0.toList k.toList = true) ∧ (∀ i, searchP l k ≤ i → i < l.length → Op.bytesLess (l.getD i z77).f0.toList k.toList = false) := by
  have hs := bsF_spec (q64 l k) l.length (fun i j => q64_mono h k i j) l.length 0 l.length (Nat.zero_le _) (Nat.le_refl _) (by omega) (fun i hi => by omega) (fun i h1 h2 => by omega)
  refine ⟨fun i hi => ?_, fun i h1 h2 => ?_⟩
  · have := hs.1 i hi
    unfold q64 at this
    simpa using this
  · have := hs.2 i h1 h2
    unfold q64 at this
    simpa using this
theorem mem_found {l : List S77} (h : IncL l) {z : S77} (hz : z ∈ l) : searchB l z.f0 = true ∧ l.getD (searchP l z.f0) z77 = z := by
  obtain ⟨j, hj, rfl⟩ := List.getElem_of_mem hz
  obtain ⟨h1, h2⟩ := s_spec h (l[j]).f0
  have hle := searchP_le l (l[j]).f0
  have e : searchP l (l[j]).f0 = j := by
    rcases Nat.lt_trichotomy (searchP l (l[j]).f0) j with hlt | heq | hgt
    · have k1 := h2 _ (Nat.le_refl _) (by omega)
      have k2 := inc_lt h (searchP l (l[j]).f0) (j - searchP l (l[j]).f0) (by omega) (by omega)
      rw [show searchP l (l[j]).f0 + (j - searchP l (l[j]).f0) = j by omega, getD_at l j hj] at k2
      rw [k1] at k2; cases k2
    · exact heq
    · have k1 := h1 j hgt
      rw [getD_at l j hj, less_irr] at k1; cases k1
  unfold searchB
  rw [e, getD_at l j hj]
  exact ⟨by simp [hj], rfl⟩
theorem found_mem {l : List S77} {k : ByteArray} (h : searchB l k = true) : l.getD (searchP l k) z77 ∈ l ∧ (l.getD (searchP l k) z77).f0 = k := by
  have hlt := searchB_lt h
  unfold searchB at h
  rw [Bool.and_eq_true] at h
  exact ⟨by rw [getD_at l _ hlt]; exact List.getElem_mem _, ba_inj (by simpa using h.2)⟩
/-- the part behind the place of a key -/
theorem behind {l : List S77} (h : IncL l) (k : ByteArray) {z : S77} (hz : z ∈ l.drop (if searchB l k = true then searchP l k + 1 else searchP l k)) : z ∈ l ∧ Op.bytesLess z.f0.toList k.toList = false ∧ z.f0 ≠ k ∧ ∃ j, searchP l k ≤ j ∧ j < l.length ∧ l.getD j z77 = z := by
  obtain ⟨i, hi, hzi⟩ := List.getElem_of_mem hz
  rw [List.getElem_drop] at hzi
  rw [List.length_drop] at hi
  obtain ⟨j, hj⟩ : ∃ j, (if searchB l k = true then searchP l k + 1 else searchP l k) + i = j := ⟨_, rfl⟩
  have hjl : j < l.length := by omega
  have hjr : searchP l k ≤ j := by split at hj <;> omega
  have hzj : l.getD j z77 = z := by rw [getD_at l j hjl, ← hzi]; congr 1; exact hj.symm
  have hm : z ∈ l := by rw [← hzj, getD_at l j hjl]; exact List.getElem_mem _
  have hls := (s_spec h k).2 j hjr hjl
  rw [hzj] at hls
  refine ⟨hm, hls, fun e => ?_, j, hjr, hjl, hzj⟩
  obtain ⟨m1, m2⟩ := mem_found h hm
  rw [e] at m1 m2
  rw [if_pos m1] at hj
  have k2 := inc_lt h (searchP l k) (j - searchP l k) (by omega) (by omega)
  rw [show searchP l k + (j - searchP l k) = j by omega, hzj, m2, less_irr] at k2
  cases k2
theorem ahead {l : List S77} (h : IncL l) (k : ByteArray) {z : S77} (hz : z ∈ l.take (searchP l k)) : z ∈ l ∧ Op.bytesLess z.f0.toList k.toList = true ∧ ∃ j, j < searchP l k ∧ l.getD j z77 = z := by
  obtain ⟨i, hi, hzi⟩ := List.getElem_of_mem hz
  rw [List.getElem_take] at hzi
  rw [List.length_take] at hi
  have hil : i < l.length := by omega
  have hzj : l.getD i z77 = z := by rw [getD_at l i hil, hzi]
  refine ⟨List.mem_of_mem_take hz, ?_, i, by omega, hzj⟩
  have := (s_spec h k).1 i (by omega)
  rwa [hzj] at this
theorem split_mem {l : List S77} (k : ByteArray) {z : S77} (hz : z ∈ l) (hne : z.f0 ≠ k) : z ∈ l.take (searchP l k) ∨ z ∈ l.drop (if searchB l k = true then searchP l k + 1 else searchP l k) := by
  obtain ⟨j, hj, rfl⟩ := List.getElem_of_mem hz
  by_cases h1 : j < searchP l k
  · left
    have : (l.take (searchP l k))[j]'(by rw [List.length_take]; omega) = l[j] := by rw [List.getElem_take]
    rw [← this]; exact List.getElem_mem _
  · right
    by_cases hs : searchB l k = true
    · rw [if_pos hs]
      have hjn : j ≠ searchP l k := fun e => by
        have := (found_mem hs).2
        rw [← e, getD_at l j hj] at this
        exact hne this
      have : (l.drop (searchP l k + 1))[j - (searchP l k + 1)]'(by rw [List.length_drop]; omega) = l[j] := by
        rw [List.getElem_drop]; congr 1; omega
      rw [← this]; exact List.getElem_mem _
    · rw [if_neg hs]
      have : (l.drop (searchP l k))[j - searchP l k]'(by rw [List.length_drop]; omega) = l[j] := by
        rw [List.getElem_drop]; congr 1; omega
      rw [← this]; exact List.getElem_mem _
theorem leafPut_is (l : List S77) (x : S77) : leafPut l x = l.take (searchP l x.f0) ++ ([x] ++ l.drop (if searchB l x.f0 = true then searchP l x.f0 + 1 else searchP l x.f0)) := by
  unfold leafPut rputL
  rw [List.append_assoc]
theorem mem_put {l : List S77} (h : IncL l) (x z : S77) : z ∈ leafPut l x ↔ z = x ∨ (z ∈ l ∧ z.f0 ≠ x.f0) := by
  rw [leafPut_is, List.mem_append, List.mem_append, List.mem_singleton]
  constructor
  · rintro (hz | hz | hz)
    · obtain ⟨h1, h2, _⟩ := ahead h x.f0 hz
      exact Or.inr ⟨h1, fun e => by rw [e, less_irr] at h2; cases h2⟩
    · exact Or.inl hz
    · obtain ⟨h1, _, h3, _⟩ := behind h x.f0 hz
      exact Or.inr ⟨h1, h3⟩
  · rintro (rfl | ⟨h1, h2⟩)
    · exact Or.inr (Or.inl rfl)
    · rcases split_mem x.f0 h1 h2 with h3 | h3
      · exact Or.inl h3
      · exact Or.inr (Or.inr h3)
theorem sub_pair {l : List S77} (h : IncL l) (k : ByteArray) : (l.take (searchP l k)).Pairwise ltK ∧ (l.drop (if searchB l k = true then searchP l k + 1 else searchP l k)).Pairwise ltK ∧ ∀ a ∈ l.take (searchP l k), ∀ b ∈ l.drop (if searchB l k = true then searchP l k + 1 else searchP l k), ltK a b := by
  have hp := inc_pair.mp h
  refine ⟨hp.sublist (List.take_sublist _ _), hp.sublist (List.drop_sublist _ _), fun a ha b hb => ?_⟩
  obtain ⟨_, _, i, hi, rfl⟩ := ahead h k ha
  obtain ⟨_, _, _, j, hj, hjl, rfl⟩ := behind h k hb
  have := inc_lt h i (j - i) (by omega) (by omega)
  rw [show i + (j - i) = j by omega] at this
  exact this
theorem put_inc {l : List S77} (h : IncL l) (x : S77) : IncL (leafPut l x) := by
  rw [inc_pair, leafPut_is, List.pairwise_append]
  obtain ⟨h1, h2, h3⟩ := sub_pair h x.f0
  refine ⟨h1, ?_, fun a ha b hb => ?_⟩
  · rw [List.pairwise_append]
    refine ⟨List.pairwise_singleton _ _, h2, fun a ha b hb => ?_⟩
    rw [List.mem_singleton] at ha
    subst ha
    obtain ⟨_, k1, k2, _⟩ := behind h a.f0 hb
    have ht := less_total a.f0.toList b.f0.toList
    rw [k1] at ht
    have h4 : Op.bytesLess a.f0.toList b.f0.toList = true ∨ (a.f0.toList == b.f0.toList) = true := by simpa using ht
    rcases h4 with h4 | h4
    · exact h4
    · exact absurd (ba_inj (beq_iff_eq.mp h4)).symm k2
  · rcases List.mem_append.mp hb with hb | hb
    · rw [List.mem_singleton] at hb
      subst hb
      exact (ahead h b.f0 ha).2.1
    · exact h3 a ha b hb
theorem leafDrop_is {l : List S77} (h : IncL l) (k : ByteArray) : leafDrop l k = l.take (searchP l k) ++ l.drop (if searchB l k = true then searchP l k + 1 else searchP l k) := by
  unfold leafDrop
  by_cases hs : searchB l k = true
  · rw [if_pos hs, if_pos hs]
  · rw [if_neg hs, if_neg hs, List.take_append_drop]
theorem mem_drop {l : List S77} (h : IncL l) (k : ByteArray) (z : S77) : z ∈ leafDrop l k ↔ z ∈ l ∧ z.f0 ≠ k := by
  rw [leafDrop_is h, List.mem_append]
  constructor
  · rintro (hz | hz)
    · obtain ⟨h1, h2, _⟩ := ahead h k hz
      exact ⟨h1, fun e => by rw [e, less_irr] at h2; cases h2⟩
    · obtain ⟨h1, _, h3, _⟩ := behind h k hz
      exact ⟨h1, h3⟩
  · rintro ⟨h1, h2⟩
    exact split_mem k h1 h2
theorem drop_inc {l : List S77} (h : IncL l) (k : ByteArray) : IncL (leafDrop l k) := by
  rw [inc_pair, leafDrop_is h, List.pairwise_append]
  exact sub_pair h k
theorem ord_leaf {l : List S77} : ordL l 0 = true ↔ IncL l ∧ ∀ z ∈ l, 1 ≤ z.f0.size ∧ z.f0.size ≤ 48 := by
  have hl : inB 0 0 20 = true := rfl
  unfold ordL
  rw [hl, Bool.true_and, List.all_eq_true]
  constructor
  · intro h
    have hk : ∀ i, i < l.length → 1 ≤ (l.getD i z77).f0.size ∧ (l.getD i z77).f0.size ≤ 48 ∧ (i = 0 ∨ Op.bytesLess (l.getD (i - 1) z77).f0.toList (l.getD i z77).f0.toList = true) := fun i hi => (okAt_iff (level := 0) (fun e => by omega)).mp (h i (by simpa using hi))
    refine ⟨fun j h0 hj => (hk j hj).2.2.resolve_left (by omega), fun z hz => ?_⟩
    obtain ⟨j, hj, rfl⟩ := List.getElem_of_mem hz
    have := hk j hj
    rw [getD_at l j hj] at this
    exact ⟨this.1, this.2.1⟩
  · rintro ⟨h1, h2⟩ i hi
    have hi' : i < l.length := by simpa using hi
    refine (okAt_iff (level := 0) (fun e => by omega)).mpr ?_
    have := h2 (l.getD i z77) (by rw [getD_at l i hi']; exact List.getElem_mem _)
    exact ⟨this.1, this.2, by
      by_cases h0 : i = 0
      · exact Or.inl h0
      · exact Or.inr (h1 i (by omega) hi')⟩
theorem put_ord {l : List S77} (h : ordL l 0 = true) (x : S77) (h1 : 1 ≤ x.f0.size) (h2 : x.f0.size ≤ 48) : ordL (leafPut l x) 0 = true := by
  rw [ord_leaf] at h ⊢
  refine ⟨put_inc h.1 x, fun z hz => ?_⟩
  rcases (mem_put h.1 x z).mp hz with rfl | hz
  · exact ⟨h1, h2⟩
  · exact h.2 z hz.1
theorem drop_ord {l : List S77} (h : ordL l 0 = true) (k : ByteArray) : ordL (leafDrop l k) 0 = true := by
  rw [ord_leaf] at h ⊢
  exact ⟨drop_inc h.1 k, fun z hz => h.2 z ((mem_drop h.1 k z).mp hz).1⟩
theorem drop_gone {l : List S77} (h : IncL l) (k : ByteArray) : searchB (leafDrop l k) k = false := by
  cases hs : searchB (leafDrop l k) k with
  | false => rfl
  | true => exact absurd (found_mem hs).2 ((mem_drop h k _).mp (found_mem hs).1).2
end Go.Proofs.Ytalncokpbgbccaa.E

/- NodeCommutes, the walk: it returns true. -/
namespace Go.Proofs.Ytalncokpbgbccaa.E
set_option linter.unusedVariables false
set_option linter.unusedSimpArgs false
open Go.RowKit Go.Proofs.YtalncokpbgbccaaW.PrintWords Go.Proofs.YtalncokpbgbccaaW.PrintLast Go.Proofs.YtalncokpbgbccaaW.PrintMore
theorem load77 {W : World} {o : Oper} {ρ : Operand → Value} (p : Operand) (ho : o.op = .load 77 p) (g : Nat) (hx : ρ p = .pointer (some ⟨g, 0, none⟩)) (x : S77) (hg : W.heap[g]? = some (.cells (entC x) 77 (0, 0))) : (execOp ρ o).run Try.prog W = .ok (.value (.agg (entC x))) W := by
  have hl := run_loadVar_row (P := Try.prog) W g 77 77 (entC x) (0, 0) _ hg Try.underlying77 rfl (entC_size x)
  unfold execOp
  simp only [ho, hx, Instr.loadAt, Instr.sureAddr, Sem.run_bind, Sem.run_pure, Result.andThen_ok, hl]
/-- few of a list, and of two entries -/
@[reducible] def Ans2e (w : World) (A : Option Addr) (n c : Nat) (x y : S77) (v : Bool) : Prop := ∀ w1 g gE, Below w.heap.size w w1 → w1.heap[g]? = some (.cells #[.slice A n c, .slice (some ⟨gE, 0, none⟩) 2 2] 22 (0, 0)) → w1.heap[gE]? = some (.cells (cellsL [x, y]).toArray 77 (0, 0)) → Calls Try.prog 14 #[.slice (some ⟨g, 0, none⟩) 2 2] w1 fun e w2 => e = .returned (.bool v) ∧ Below w1.heap.size w1 w2
end Go.Proofs.Ytalncokpbgbccaa.E

/- NodeCommutes, joined: whatever the entries, it returns true. -/
namespace Go.Proofs.Ytalncokpbgbccaa.E
set_option linter.unusedVariables false
set_option linter.unusedSimpArgs false
open Go.RowKit Go.Proofs.YtalncokpbgbccaaW.PrintWords Go.Proofs.YtalncokpbgbccaaW.PrintLast Go.Proofs.YtalncokpbgbccaaW.PrintMore
end Go.Proofs.Ytalncokpbgbccaa.E

