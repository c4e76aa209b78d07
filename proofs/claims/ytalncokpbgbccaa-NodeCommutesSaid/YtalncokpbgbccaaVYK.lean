-- A slim copy of YK, YL, YM, written by wip/tools/prune2.py.
import Derived.Test.YtalncokpbgbccaaVTD
import Derived.Test.YtalncokpbgbccaaVYD
import Derived.Test.YtalncokpbgbccaaVYH
/- Leaves that are in order, plainly: what a leaf holds with an entry, or without one. -/
namespace Go.Proofs.Ytalncokpbgbccaa.E
set_option linter.unusedVariables false
set_option linter.unusedSimpArgs false
open Go.RowKit Go.Proofs.YtalncokpbgbccaaW.PrintWords Go.Proofs.YtalncokpbgbccaaW.PrintLast Go.Proofs.YtalncokpbgbccaaW.PrintMore
/-- the key of one entry is less than that of another one -/
def ltK (x y : S77) : Prop := Op.bytesLess x.f0.toList y.f0.toList = true
theorem ltK_irr (x : S77) : ¬ ltK x x := by unfold ltK; rw [less_irr]; simp
theorem ltK_tr {x y z : S77} (h : ltK x y) (k : ltK y z) : ltK x z := less_tr _ _ _ h k
theorem getD_at (l : List S77) (i : Nat) (h : i < l.length) : l.getD i z77 = l[i] := by simp [h]
theorem inc_pair {l : List S77} : IncL l ↔ l.Pairwise ltK := by
  constructor
  · intro h
    rw [List.pairwise_iff_getElem]
    intro i j hi hj hij
    have := inc_lt h i (j - i) (by omega) (by omega)
    rw [show i + (j - i) = j by omega, getD_at l i hi, getD_at l j hj] at this
    exact this
  · intro h j h0 hj
    rw [List.pairwise_iff_getElem] at h
    rw [getD_at l (j - 1) (by omega), getD_at l j hj]
    exact h (j - 1) j (by omega) hj (by omega)
theorem s_spec {l : List S77} (h : IncL l) (k : ByteArray) : (∀ i, i < searchP l k → Op.bytesLess (l.getD i z77).f0.toList k.toList = true) ∧ (∀ i, searchP l k ≤ i → i < l.length → Op.bytesLess (l.getD i z77).f0.toList k.toList = false) := by
  have hs := bsF_spec (q64 l k) l.length (fun i j => q64_mono h k i j) l.length 0 l.length (Nat.zero_le _) (Nat.le_refl _) (by omega) (fun i hi => by omega) (fun i h1 h2 => by omega)
  refine ⟨fun i hi => ?_, fun i h1 h2 => ?_⟩
  · have := hs.1 i hi
    unfold q64 at this
    simpa using this
  · have := hs.2 i h1 h2
    unfold q64 at this
    simpa using this
theorem mem_found {l : List S77} (h : IncL l) {z : S77} (hz : z ∈ l) : searchB l z.f0 = true ∧ l.getD (searchP l z.f0) z77 = z := by
  obtain ⟨j, hj, rfl⟩ := List.getElem_of_mem hz
  obtain ⟨h1, h2⟩ := s_spec h (l[j]).f0
  have hle := searchP_le l (l[j]).f0
  have e : searchP l (l[j]).f0 = j := by
    rcases Nat.lt_trichotomy (searchP l (l[j]).f0) j with hlt | heq | hgt
    · have k1 := h2 _ (Nat.le_refl _) (by omega)
      have k2 := inc_lt h (searchP l (l[j]).f0) (j - searchP l (l[j]).f0) (by omega) (by omega)
      rw [show searchP l (l[j]).f0 + (j - searchP l (l[j]).f0) = j by omega, getD_at l j hj] at k2
      rw [k1] at k2; cases k2
    · exact heq
    · have k1 := h1 j hgt
      rw [getD_at l j hj, less_irr] at k1; cases k1
  unfold searchB
  rw [e, getD_at l j hj]
  exact ⟨by simp [hj], rfl⟩
theorem found_mem {l : List S77} {k : ByteArray} (h : searchB l k = true) : l.getD (searchP l k) z77 ∈ l ∧ (l.getD (searchP l k) z77).f0 = k := by
  have hlt := searchB_lt h
  unfold searchB at h
  rw [Bool.and_eq_true] at h
  exact ⟨by rw [getD_at l _ hlt]; exact List.getElem_mem _, ba_inj (by simpa using h.2)⟩
/-- the part behind the place of a key -/
theorem behind {l : List S77} (h : IncL l) (k : ByteArray) {z : S77} (hz : z ∈ l.drop (if searchB l k = true then searchP l k + 1 else searchP l k)) : z ∈ l ∧ Op.bytesLess z.f0.toList k.toList = false ∧ z.f0 ≠ k ∧ ∃ j, searchP l k ≤ j ∧ j < l.length ∧ l.getD j z77 = z := by
  obtain ⟨i, hi, hzi⟩ := List.getElem_of_mem hz
  rw [List.getElem_drop] at hzi
  rw [List.length_drop] at hi
  obtain ⟨j, hj⟩ : ∃ j, (if searchB l k = true then searchP l k + 1 else searchP l k) + i = j := ⟨_, rfl⟩
  have hjl : j < l.length := by omega
  have hjr : searchP l k ≤ j := by split at hj <;> omega
  have hzj : l.getD j z77 = z := by rw [getD_at l j hjl, ← hzi]; congr 1; exact hj.symm
  have hm : z ∈ l := by rw [← hzj, getD_at l j hjl]; exact List.getElem_mem _
  have hls := (s_spec h k).2 j hjr hjl
  rw [hzj] at hls
  refine ⟨hm, hls, fun e => ?_, j, hjr, hjl, hzj⟩
  obtain ⟨m1, m2⟩ := mem_found h hm
  rw [e] at m1 m2
  rw [if_pos m1] at hj
  have k2 := inc_lt h (searchP l k) (j - searchP l k) (by omega) (by omega)
  rw [show searchP l k + (j - searchP l k) = j by omega, hzj, m2, less_irr] at k2
  cases k2
theorem ahead {l : List S77} (h : IncL l) (k : ByteArray) {z : S77} (hz : z ∈ l.take (searchP l k)) : z ∈ l ∧ Op.bytesLess z.f0.toList k.toList = true ∧ ∃ j, j < searchP l k ∧ l.getD j z77 = z := by
  obtain ⟨i, hi, hzi⟩ := List.getElem_of_mem hz
  rw [List.getElem_take] at hzi
  rw [List.length_take] at hi
  have hil : i < l.length := by omega
  have hzj : l.getD i z77 = z := by rw [getD_at l i hil, hzi]
  refine ⟨List.mem_of_mem_take hz, ?_, i, by omega, hzj⟩
  have := (s_spec h k).1 i (by omega)
  rwa [hzj] at this
theorem split_mem {l : List S77} (k : ByteArray) {z : S77} (hz : z ∈ l) (hne : z.f0 ≠ k) : z ∈ l.take (searchP l k) ∨ z ∈ l.drop (if searchB l k = true then searchP l k + 1 else searchP l k) := by
  obtain ⟨j, hj, rfl⟩ := List.getElem_of_mem hz
  by_cases h1 : j < searchP l k
  · left
    have : (l.take (searchP l k))[j]'(by rw [List.length_take]; omega) = l[j] := by rw [List.getElem_take]
    rw [← this]; exact List.getElem_mem _
  · right
    by_cases hs : searchB l k = true
    · rw [if_pos hs]
      have hjn : j ≠ searchP l k := fun e => by
        have := (found_mem hs).2
        rw [← e, getD_at l j hj] at this
        exact hne this
      have : (l.drop (searchP l k + 1))[j - (searchP l k + 1)]'(by rw [List.length_drop]; omega) = l[j] := by
        rw [List.getElem_drop]; congr 1; omega
      rw [← this]; exact List.getElem_mem _
    · rw [if_neg hs]
      have : (l.drop (searchP l k))[j - searchP l k]'(by rw [List.length_drop]; omega) = l[j] := by
        rw [List.getElem_drop]; congr 1; omega
      rw [← this]; exact List.getElem_mem _
theorem leafPut_is (l : List S77) (x : S77) : leafPut l x = l.take (searchP l x.f0) ++ ([x] ++ l.drop (if searchB l x.f0 = true then searchP l x.f0 + 1 else searchP l x.f0)) := by
  unfold leafPut rputL
  rw [List.append_assoc]
theorem mem_put {l : List S77} (h : IncL l) (x z : S77) : z ∈ leafPut l x ↔ z = x ∨ (z ∈ l ∧ z.f0 ≠ x.f0) := by
  rw [leafPut_is, List.mem_append, List.mem_append, List.mem_singleton]
  constructor
  · rintro (hz | hz | hz)
    · obtain ⟨h1, h2, _⟩ := ahead h x.f0 hz
      exact Or.inr ⟨h1, fun e => by rw [e, less_irr] at h2; cases h2⟩
    · exact Or.inl hz
    · obtain ⟨h1, _, h3, _⟩ := behind h x.f0 hz
      exact Or.inr ⟨h1, h3⟩
  · rintro (rfl | ⟨h1, h2⟩)
    · exact Or.inr (Or.inl rfl)
    · rcases split_mem x.f0 h1 h2 with h3 | h3
      · exact Or.inl h3
      · exact Or.inr (Or.inr h3)
theorem sub_pair {l : List S77} (h : IncL l) (k : ByteArray) : (l.take (searchP l k)).Pairwise ltK ∧ (l.drop (if searchB l k = true then searchP l k + 1 else searchP l k)).Pairwise ltK ∧ ∀ a ∈ l.take (searchP l k), ∀ b ∈ l.drop (if searchB l k = true then searchP l k + 1 else searchP l k), ltK a b := by
  have hp := inc_pair.mp h
  refine ⟨hp.sublist (List.take_sublist _ _), hp.sublist (List.drop_sublist _ _), fun a ha b hb => ?_⟩
  obtain ⟨_, _, i, hi, rfl⟩ := ahead h k ha
  obtain ⟨_, _, _, j, hj, hjl, rfl⟩ := behind h k hb
  have := inc_lt h i (j - i) (by omega) (by omega)
  rw [show i + (j - i) = j by omega] at this
  exact this
theorem put_inc {l : List S77} (h : IncL l) (x : S77) : IncL (leafPut l x) := by
  rw [inc_pair, leafPut_is, List.pairwise_append]
  obtain ⟨h1, h2, h3⟩ := sub_pair h x.f0
  refine ⟨h1, ?_, fun a ha b hb => ?_⟩
  · rw [List.pairwise_append]
    refine ⟨List.pairwise_singleton _ _, h2, fun a ha b hb => ?_⟩
    rw [List.mem_singleton] at ha
    subst ha
    obtain ⟨_, k1, k2, _⟩ := behind h a.f0 hb
    have ht := less_total a.f0.toList b.f0.toList
    rw [k1] at ht
    have h4 : Op.bytesLess a.f0.toList b.f0.toList = true ∨ (a.f0.toList == b.f0.toList) = true := by simpa using ht
    rcases h4 with h4 | h4
    · exact h4
    · exact absurd (ba_inj (beq_iff_eq.mp h4)).symm k2
  · rcases List.mem_append.mp hb with hb | hb
    · rw [List.mem_singleton] at hb
      subst hb
      exact (ahead h b.f0 ha).2.1
    · exact h3 a ha b hb
theorem leafDrop_is {l : List S77} (h : IncL l) (k : ByteArray) : leafDrop l k = l.take (searchP l k) ++ l.drop (if searchB l k = true then searchP l k + 1 else searchP l k) := by
  unfold leafDrop
  by_cases hs : searchB l k = true
  · rw [if_pos hs, if_pos hs]
  · rw [if_neg hs, if_neg hs, List.take_append_drop]
theorem mem_drop {l : List S77} (h : IncL l) (k : ByteArray) (z : S77) : z ∈ leafDrop l k ↔ z ∈ l ∧ z.f0 ≠ k := by
  rw [leafDrop_is h, List.mem_append]
  constructor
  · rintro (hz | hz)
    · obtain ⟨h1, h2, _⟩ := ahead h k hz
      exact ⟨h1, fun e => by rw [e, less_irr] at h2; cases h2⟩
    · obtain ⟨h1, _, h3, _⟩ := behind h k hz
      exact ⟨h1, h3⟩
  · rintro ⟨h1, h2⟩
    exact split_mem k h1 h2
theorem drop_inc {l : List S77} (h : IncL l) (k : ByteArray) : IncL (leafDrop l k) := by
  rw [inc_pair, leafDrop_is h, List.pairwise_append]
  exact sub_pair h k
theorem pair_uniq : ∀ (l m : List S77), l.Pairwise ltK → m.Pairwise ltK → (∀ z, z ∈ l ↔ z ∈ m) → l = m := by
  intro l
  induction l with
  | nil =>
    intro m _ _ h
    cases m with
    | nil => rfl
    | cons b m => exact absurd ((h b).mpr (by simp)) (by simp)
  | cons a l ih =>
    intro m hl hm h
    cases m with
    | nil => exact absurd ((h a).mp (by simp)) (by simp)
    | cons b m =>
      rw [List.pairwise_cons] at hl hm
      have hab : a = b := by
        have h1 := (h a).mp (by simp)
        have h2 := (h b).mpr (by simp)
        rcases List.mem_cons.mp h1 with h1 | h1
        · exact h1
        · rcases List.mem_cons.mp h2 with h2 | h2
          · exact h2.symm
          · exact absurd (ltK_tr (hl.1 b h2) (hm.1 a h1)) (ltK_irr a)
      subst hab
      rw [ih m hl.2 hm.2 (fun z => ?_)]
      constructor
      · intro hz
        rcases List.mem_cons.mp ((h z).mp (List.mem_cons_of_mem _ hz)) with e | e
        · subst e; exact absurd (hl.1 z hz) (ltK_irr z)
        · exact e
      · intro hz
        rcases List.mem_cons.mp ((h z).mpr (List.mem_cons_of_mem _ hz)) with e | e
        · subst e; exact absurd (hm.1 z hz) (ltK_irr z)
        · exact e
theorem put_put {l : List S77} (h : IncL l) (x y : S77) (hne : x.f0 ≠ y.f0) : leafPut (leafPut l x) y = leafPut (leafPut l y) x := by
  refine pair_uniq _ _ (inc_pair.mp (put_inc (put_inc h x) y)) (inc_pair.mp (put_inc (put_inc h y) x)) (fun z => ?_)
  rw [mem_put (put_inc h x), mem_put h, mem_put (put_inc h y), mem_put h]
  constructor
  · rintro (rfl | ⟨rfl | ⟨h1, h2⟩, h3⟩)
    · exact Or.inr ⟨Or.inl rfl, fun e => hne e.symm⟩
    · exact Or.inl rfl
    · exact Or.inr ⟨Or.inr ⟨h1, h3⟩, h2⟩
  · rintro (rfl | ⟨rfl | ⟨h1, h2⟩, h3⟩)
    · exact Or.inr ⟨Or.inl rfl, hne⟩
    · exact Or.inl rfl
    · exact Or.inr ⟨Or.inr ⟨h1, h3⟩, h2⟩
theorem put_drop {l : List S77} (h : IncL l) (x : S77) (hs : searchB l x.f0 = false) : searchB (leafPut l x) x.f0 = true ∧ leafDrop (leafPut l x) x.f0 = l := by
  refine ⟨(mem_found (put_inc h x) ((mem_put h x x).mpr (Or.inl rfl))).1, ?_⟩
  refine pair_uniq _ _ (inc_pair.mp (drop_inc (put_inc h x) x.f0)) (inc_pair.mp h) (fun z => ?_)
  rw [mem_drop (put_inc h x), mem_put h]
  constructor
  · rintro ⟨rfl | ⟨h1, _⟩, h3⟩
    · exact absurd rfl h3
    · exact h1
  · intro hz
    have hne : z.f0 ≠ x.f0 := fun e => by
      have := (mem_found h hz).1
      rw [e, hs] at this; cases this
    exact ⟨Or.inr ⟨hz, hne⟩, hne⟩
theorem ord_leaf {l : List S77} : ordL l 0 = true ↔ IncL l ∧ ∀ z ∈ l, 1 ≤ z.f0.size ∧ z.f0.size ≤ 48 := by
  have hl : inB 0 0 20 = true := rfl
  unfold ordL
  rw [hl, Bool.true_and, List.all_eq_true]
  constructor
  · intro h
    have hk : ∀ i, i < l.length → 1 ≤ (l.getD i z77).f0.size ∧ (l.getD i z77).f0.size ≤ 48 ∧ (i = 0 ∨ Op.bytesLess (l.getD (i - 1) z77).f0.toList (l.getD i z77).f0.toList = true) := fun i hi => (okAt_iff (level := 0) (fun e => by omega)).mp (h i (by simpa using hi))
    refine ⟨fun j h0 hj => (hk j hj).2.2.resolve_left (by omega), fun z hz => ?_⟩
    obtain ⟨j, hj, rfl⟩ := List.getElem_of_mem hz
    have := hk j hj
    rw [getD_at l j hj] at this
    exact ⟨this.1, this.2.1⟩
  · rintro ⟨h1, h2⟩ i hi
    have hi' : i < l.length := by simpa using hi
    refine (okAt_iff (level := 0) (fun e => by omega)).mpr ?_
    have := h2 (l.getD i z77) (by rw [getD_at l i hi']; exact List.getElem_mem _)
    exact ⟨this.1, this.2, by
      by_cases h0 : i = 0
      · exact Or.inl h0
      · exact Or.inr (h1 i (by omega) hi')⟩
end Go.Proofs.Ytalncokpbgbccaa.E

/- NodeCommutes, the walk: it returns true. -/
namespace Go.Proofs.Ytalncokpbgbccaa.E
set_option linter.unusedVariables false
set_option linter.unusedSimpArgs false
open Go.RowKit Go.Proofs.YtalncokpbgbccaaW.PrintWords Go.Proofs.YtalncokpbgbccaaW.PrintLast Go.Proofs.YtalncokpbgbccaaW.PrintMore
def rg12_3_T : Bool × List (List Nat × List Nat) := (true, [([], []), ([0], [0]), ([], []), ([2], [2]), ([1, 3], [1, 3]), ([4], [4]), ([5], [5]), ([5], [5]), ([6, 7, 5, 5], [5, 6, 7]), ([5], [5]), ([8, 9, 8, 5], [5, 8, 9]), ([5], [5]), ([5], [5]), ([11, 12, 10, 5], [5, 11, 12]), ([5], [5]), ([13, 14, 13, 5], [5, 13, 14]), ([10, 15, 15, 5], [5, 10, 15]), ([16, 5], [5, 16]), ([5, 17], [5, 17])])
def rg12_3_B : List Nat := [0, 1, 0, 4, 15, 31, 63, 63, 255, 63, 1023, 63, 63, 8191, 63, 32767, 65535, 131071, 262143]
theorem rg12_3_tab : rtab .any (opsOf Try.f12 3) = rg12_3_T := by kernel_rfl
theorem rg12_3_bits : waitsOk rg12_3_T.2 rg12_3_B = true := by kernel_rfl
def rg12_7_T : Bool × List (List Nat × List Nat) := (true, [([], []), ([], []), ([0, 1], [0, 1]), ([], []), ([3], [3]), ([2, 4, 2], [2, 4]), ([5], [5]), ([6], [6]), ([6], [6]), ([7, 5, 0, 1, 2, 3, 4, 5, 6, 7], [7]), ([8, 9, 0, 1, 2, 3, 4, 5, 6, 7, 8, 9], [8])])
def rg12_7_B : List Nat := [0, 0, 3, 0, 8, 31, 63, 127, 127, 255, 1023]
theorem rg12_7_tab : rtab .any (opsOf Try.f12 7) = rg12_7_T := by kernel_rfl
theorem rg12_7_bits : waitsOk rg12_7_T.2 rg12_7_B = true := by kernel_rfl
theorem load77 {W : World} {o : Oper} {ρ : Operand → Value} (p : Operand) (ho : o.op = .load 77 p) (g : Nat) (hx : ρ p = .pointer (some ⟨g, 0, none⟩)) (x : S77) (hg : W.heap[g]? = some (.cells (entC x) 77 (0, 0))) : (execOp ρ o).run Try.prog W = .ok (.value (.agg (entC x))) W := by
  have hl := run_loadVar_row (P := Try.prog) W g 77 77 (entC x) (0, 0) _ hg Try.underlying77 rfl (entC_size x)
  unfold execOp
  simp only [ho, hx, Instr.loadAt, Instr.sureAddr, Sem.run_bind, Sem.run_pure, Result.andThen_ok, hl]
/-- few of a list, and of two entries -/
@[reducible] def Ans2e (w : World) (A : Option Addr) (n c : Nat) (x y : S77) (v : Bool) : Prop := ∀ w1 g gE, Below w.heap.size w w1 → w1.heap[g]? = some (.cells #[.slice A n c, .slice (some ⟨gE, 0, none⟩) 2 2] 22 (0, 0)) → w1.heap[gE]? = some (.cells (cellsL [x, y]).toArray 77 (0, 0)) → Calls Try.prog 14 #[.slice (some ⟨g, 0, none⟩) 2 2] w1 fun e w2 => e = .returned (.bool v) ∧ Below w1.heap.size w1 w2
theorem few_twoe (l : List S77) (x y : S77) : ∃ v, (v = true → FewL l) ∧ ∀ w A c, Kd.C k77 w A l.length l → l.length ≤ c → Ans2e w A l.length c x y v := by
  obtain ⟨k, v, hk, hb⟩ := few_t [l, [x, y]] (by simp)
  refine ⟨v, fun h => by simpa using hb h 0 (by simp), fun w A c hr hc w1 g gE b1 hg hgE => ?_⟩
  have hE : Kd.C k77 w1 (some ⟨gE, 0, none⟩) 2 [x, y] := ow_readsC (ow_shut (base := 0) (l := [x, y]) (c := 2) (Nat.zero_le _) (by simp) (by unfold maxLen; omega) hgE (by rw [cellsL_length]; rfl) (by rw [List.take_of_length_le (by rw [cellsL_length]; exact Nat.le_refl _)]))
  have hC : kN.C w1 (some ⟨g, 0, none⟩) 2 [l, [x, y]] := C_rows (cells := [.slice A l.length c, .slice (some ⟨gE, 0, none⟩) 2 2]) [l, [x, y]] hg (by simp) (by
    intro j z hz
    match j, hz with
    | 0, hz =>
      simp only [List.getElem?_cons_zero, Option.some.injEq] at hz
      subst hz
      exact ⟨A, c, rfl, hc, Kd.C_below hr b1⟩
    | 1, hz =>
      simp only [List.getElem?_cons_succ, List.getElem?_cons_zero, Option.some.injEq] at hz
      subst hz
      exact ⟨_, 2, rfl, Nat.le_refl _, hE⟩
    | j + 2, hz => simp at hz)
  exact (understorylaw06_few.calls k (some ⟨g, 0, none⟩) 2 [l, [x, y]] v w1 hC (by simp) hk).mono fun e w2 ⟨e1, n, b2⟩ => ⟨e1, by rw [b2]; exact pw_below_drewN (Below.refl _ _) _⟩
set_option maxRecDepth 1000000 in
set_option maxHeartbeats 8000000 in
theorem commutes_1 (l : List S77) (A : Option Addr) (c : Nat) (x y : S77) (w : World) (HSANE : Aside0 (Say w 15 #[] (.bool true))) (HFEW : Aside0 (Ans2e w A l.length c x y false)) :
    Calls Try.prog 12 #[.slice A l.length c, .agg (entC x), .agg (entC y)] w fun e w' => e = .returned (.bool true) ∧ Below w.heap.size w w' := by
  go_enter Try.func12, Try.ntmps12
  go_wp2_with (first
    | ((with_reducible refine gate_dst (N := 4) rfl ?_); refine box_event (hgd := rfl) (N := 4) rfl (cs := entC x) (t := 77) (by go_simp) ?_; intro gA hg_ w9 HG hbl; clear hg_; have HDa := Aside0.mk (show Hd w gA (entC x) w9 from ⟨HG, hbl⟩); have HB := Aside0.mk hbl; clear HG hbl)
    | ((with_reducible refine gate_dst (N := 5) rfl ?_); refine box_event (hgd := rfl) (N := 5) rfl (cs := entC y) (t := 77) (by go_simp) ?_; intro gB hg_ w9 HG hbl; clear hg_; have HDan := Aside0.mk (hd_call (by first | exact HDa.out | exact hd_alloc HDa.out _ | exact hd_alloc (hd_alloc HDa.out _) _) hbl); clear HDa; have HDa := HDan; clear HDan; have HDb := Aside0.mk (show Hd w gB (entC y) w9 from ⟨HG, below_tr2 (w := w) HB.out hbl⟩); have HBn := Aside0.mk (below_tr2 (w := w) (by repeat (first | exact HB.out | exact Below.refl _ _ | apply below_alloc)) hbl); clear HB; have HB := HBn; clear HBn; clear HG hbl)
    | ((with_reducible refine gate_dst (N := 12) rfl ?_); refine wpList_load_hd (w0 := w) (g := gA) (x := x) (by first | exact HDa.out | exact hd_alloc HDa.out _) (rfl) (.tmp 4) rfl rfl ?_; dsimp only [entC])
    | ((with_reducible refine gate_dst (N := 13) rfl ?_); refine wpList_load_hd (w0 := w) (g := gB) (x := y) (by first | exact HDb.out | exact hd_alloc HDb.out _) (rfl) (.tmp 5) rfl rfl ?_; dsimp only [entC])
    | ((go_at_call 14); (with_reducible refine (HFEW.out _ _ w9.heap.size ?hb ?hg ?hgE).mono ?_); (case hb => exact below_alloc (below_alloc HB.out _) _); (case hg => exact blk_new2 _ _ _); (case hgE => exact blk_alloc (blk_new _ _) _); rintro e w8 ⟨rfl, hbl⟩; have HDan := Aside0.mk (hd_call (by first | exact HDa.out | exact hd_alloc HDa.out _ | exact hd_alloc (hd_alloc HDa.out _) _) hbl); clear HDa; have HDa := HDan; clear HDan; have HDbn := Aside0.mk (hd_call (by first | exact HDb.out | exact hd_alloc HDb.out _ | exact hd_alloc (hd_alloc HDb.out _) _) hbl); clear HDb; have HDb := HDbn; clear HDbn; have HBn := Aside0.mk (below_tr2 (w := w) (by repeat (first | exact HB.out | exact Below.refl _ _ | apply below_alloc)) hbl); clear HB; have HB := HBn; clear HBn; clear hbl)
    | ((go_at_call 15); (with_reducible refine (HSANE.out _ (by repeat (first | exact HB.out | exact Below.refl _ _ | apply below_alloc))).mono ?_); rintro e w8 ⟨rfl, hbl⟩; have HDan := Aside0.mk (hd_call (by first | exact HDa.out | exact hd_alloc HDa.out _ | exact hd_alloc (hd_alloc HDa.out _) _) hbl); clear HDa; have HDa := HDan; clear HDan; have HDbn := Aside0.mk (hd_call (by first | exact HDb.out | exact hd_alloc HDb.out _ | exact hd_alloc (hd_alloc HDb.out _) _) hbl); clear HDb; have HDb := HDbn; clear HDbn; have HBn := Aside0.mk (below_tr2 (w := w) (by repeat (first | exact HB.out | exact Below.refl _ _ | apply below_alloc)) hbl); clear HB; have HB := HBn; clear HBn; clear hbl)
    )
  go_ret
  exact ⟨rfl, HB.out⟩
set_option maxRecDepth 1000000 in
set_option maxHeartbeats 8000000 in
theorem commutes_2 (l : List S77) (A : Option Addr) (c : Nat) (x y : S77) (w : World) (HSANE : Aside0 (Say w 15 #[] (.bool true))) (HFEW : Aside0 (Ans2e w A l.length c x y true)) (HOL : Aside0 (Say w 16 #[.slice A l.length c, .int .i64 0] (.bool false))) :
    Calls Try.prog 12 #[.slice A l.length c, .agg (entC x), .agg (entC y)] w fun e w' => e = .returned (.bool true) ∧ Below w.heap.size w w' := by
  go_enter Try.func12, Try.ntmps12
  go_wp2_with (first
    | ((with_reducible refine gate_dst (N := 4) rfl ?_); refine box_event (hgd := rfl) (N := 4) rfl (cs := entC x) (t := 77) (by go_simp) ?_; intro gA hg_ w9 HG hbl; clear hg_; have HDa := Aside0.mk (show Hd w gA (entC x) w9 from ⟨HG, hbl⟩); have HB := Aside0.mk hbl; clear HG hbl)
    | ((with_reducible refine gate_dst (N := 5) rfl ?_); refine box_event (hgd := rfl) (N := 5) rfl (cs := entC y) (t := 77) (by go_simp) ?_; intro gB hg_ w9 HG hbl; clear hg_; have HDan := Aside0.mk (hd_call (by first | exact HDa.out | exact hd_alloc HDa.out _ | exact hd_alloc (hd_alloc HDa.out _) _) hbl); clear HDa; have HDa := HDan; clear HDan; have HDb := Aside0.mk (show Hd w gB (entC y) w9 from ⟨HG, below_tr2 (w := w) HB.out hbl⟩); have HBn := Aside0.mk (below_tr2 (w := w) (by repeat (first | exact HB.out | exact Below.refl _ _ | apply below_alloc)) hbl); clear HB; have HB := HBn; clear HBn; clear HG hbl)
    | ((with_reducible refine gate_dst (N := 12) rfl ?_); refine wpList_load_hd (w0 := w) (g := gA) (x := x) (by first | exact HDa.out | exact hd_alloc HDa.out _) (rfl) (.tmp 4) rfl rfl ?_; dsimp only [entC])
    | ((with_reducible refine gate_dst (N := 13) rfl ?_); refine wpList_load_hd (w0 := w) (g := gB) (x := y) (by first | exact HDb.out | exact hd_alloc HDb.out _) (rfl) (.tmp 5) rfl rfl ?_; dsimp only [entC])
    | ((go_at_call 14); (with_reducible refine (HFEW.out _ _ w9.heap.size ?hb ?hg ?hgE).mono ?_); (case hb => exact below_alloc (below_alloc HB.out _) _); (case hg => exact blk_new2 _ _ _); (case hgE => exact blk_alloc (blk_new _ _) _); rintro e w8 ⟨rfl, hbl⟩; have HDan := Aside0.mk (hd_call (by first | exact HDa.out | exact hd_alloc HDa.out _ | exact hd_alloc (hd_alloc HDa.out _) _) hbl); clear HDa; have HDa := HDan; clear HDan; have HDbn := Aside0.mk (hd_call (by first | exact HDb.out | exact hd_alloc HDb.out _ | exact hd_alloc (hd_alloc HDb.out _) _) hbl); clear HDb; have HDb := HDbn; clear HDbn; have HBn := Aside0.mk (below_tr2 (w := w) (by repeat (first | exact HB.out | exact Below.refl _ _ | apply below_alloc)) hbl); clear HB; have HB := HBn; clear HBn; clear hbl)
    | ((go_at_call 16); (with_reducible refine (HOL.out _ (by repeat (first | exact HB.out | exact Below.refl _ _ | apply below_alloc))).mono ?_); rintro e w8 ⟨rfl, hbl⟩; have HDan := Aside0.mk (hd_call (by first | exact HDa.out | exact hd_alloc HDa.out _ | exact hd_alloc (hd_alloc HDa.out _) _) hbl); clear HDa; have HDa := HDan; clear HDan; have HDbn := Aside0.mk (hd_call (by first | exact HDb.out | exact hd_alloc HDb.out _ | exact hd_alloc (hd_alloc HDb.out _) _) hbl); clear HDb; have HDb := HDbn; clear HDbn; have HBn := Aside0.mk (below_tr2 (w := w) (by repeat (first | exact HB.out | exact Below.refl _ _ | apply below_alloc)) hbl); clear HB; have HB := HBn; clear HBn; clear hbl)
    | ((go_at_call 15); (with_reducible refine (HSANE.out _ (by repeat (first | exact HB.out | exact Below.refl _ _ | apply below_alloc))).mono ?_); rintro e w8 ⟨rfl, hbl⟩; have HDan := Aside0.mk (hd_call (by first | exact HDa.out | exact hd_alloc HDa.out _ | exact hd_alloc (hd_alloc HDa.out _) _) hbl); clear HDa; have HDa := HDan; clear HDan; have HDbn := Aside0.mk (hd_call (by first | exact HDb.out | exact hd_alloc HDb.out _ | exact hd_alloc (hd_alloc HDb.out _) _) hbl); clear HDb; have HDb := HDbn; clear HDbn; have HBn := Aside0.mk (below_tr2 (w := w) (by repeat (first | exact HB.out | exact Below.refl _ _ | apply below_alloc)) hbl); clear HB; have HB := HBn; clear HBn; clear hbl)
    )
  go_ret
  exact ⟨rfl, HB.out⟩
set_option maxRecDepth 1000000 in
set_option maxHeartbeats 8000000 in
theorem commutes_3 (l : List S77) (A : Option Addr) (c : Nat) (x y : S77) (w : World) (HSANE : Aside0 (Say w 15 #[] (.bool true))) (HFEW : Aside0 (Ans2e w A l.length c x y true)) (HOL : Aside0 (Say w 16 #[.slice A l.length c, .int .i64 0] (.bool true))) (HOX : Aside0 (∀ w1 gE, Below w.heap.size w w1 → w1.heap[gE]? = some (.cells (entC x) 77 (0, 0)) → Calls Try.prog 16 #[.slice (some ⟨gE, 0, none⟩) 1 1, .int .i64 0] w1 fun e w2 => e = .returned (.bool false) ∧ Below w1.heap.size w1 w2)) :
    Calls Try.prog 12 #[.slice A l.length c, .agg (entC x), .agg (entC y)] w fun e w' => e = .returned (.bool true) ∧ Below w.heap.size w w' := by
  go_enter Try.func12, Try.ntmps12
  go_wp2_with (first
    | ((with_reducible refine gate_dst (N := 4) rfl ?_); refine box_event (hgd := rfl) (N := 4) rfl (cs := entC x) (t := 77) (by go_simp) ?_; intro gA hg_ w9 HG hbl; clear hg_; have HDa := Aside0.mk (show Hd w gA (entC x) w9 from ⟨HG, hbl⟩); have HB := Aside0.mk hbl; clear HG hbl)
    | ((with_reducible refine gate_dst (N := 5) rfl ?_); refine box_event (hgd := rfl) (N := 5) rfl (cs := entC y) (t := 77) (by go_simp) ?_; intro gB hg_ w9 HG hbl; clear hg_; have HDan := Aside0.mk (hd_call (by first | exact HDa.out | exact hd_alloc HDa.out _ | exact hd_alloc (hd_alloc HDa.out _) _) hbl); clear HDa; have HDa := HDan; clear HDan; have HDb := Aside0.mk (show Hd w gB (entC y) w9 from ⟨HG, below_tr2 (w := w) HB.out hbl⟩); have HBn := Aside0.mk (below_tr2 (w := w) (by repeat (first | exact HB.out | exact Below.refl _ _ | apply below_alloc)) hbl); clear HB; have HB := HBn; clear HBn; clear HG hbl)
    | ((with_reducible refine gate_dst (N := 12) rfl ?_); refine wpList_load_hd (w0 := w) (g := gA) (x := x) (by first | exact HDa.out | exact hd_alloc HDa.out _) (rfl) (.tmp 4) rfl rfl ?_; dsimp only [entC])
    | ((with_reducible refine gate_dst (N := 13) rfl ?_); refine wpList_load_hd (w0 := w) (g := gB) (x := y) (by first | exact HDb.out | exact hd_alloc HDb.out _) (rfl) (.tmp 5) rfl rfl ?_; dsimp only [entC])
    | ((go_at_call 14); (with_reducible refine (HFEW.out _ _ w9.heap.size ?hb ?hg ?hgE).mono ?_); (case hb => exact below_alloc (below_alloc HB.out _) _); (case hg => exact blk_new2 _ _ _); (case hgE => exact blk_alloc (blk_new _ _) _); rintro e w8 ⟨rfl, hbl⟩; have HDan := Aside0.mk (hd_call (by first | exact HDa.out | exact hd_alloc HDa.out _ | exact hd_alloc (hd_alloc HDa.out _) _) hbl); clear HDa; have HDa := HDan; clear HDan; have HDbn := Aside0.mk (hd_call (by first | exact HDb.out | exact hd_alloc HDb.out _ | exact hd_alloc (hd_alloc HDb.out _) _) hbl); clear HDb; have HDb := HDbn; clear HDbn; have HBn := Aside0.mk (below_tr2 (w := w) (by repeat (first | exact HB.out | exact Below.refl _ _ | apply below_alloc)) hbl); clear HB; have HB := HBn; clear HBn; clear hbl)
    | ((go_at_call 16); (with_reducible refine (HOL.out _ (by repeat (first | exact HB.out | exact Below.refl _ _ | apply below_alloc))).mono ?_); rintro e w8 ⟨rfl, hbl⟩; have HDan := Aside0.mk (hd_call (by first | exact HDa.out | exact hd_alloc HDa.out _ | exact hd_alloc (hd_alloc HDa.out _) _) hbl); clear HDa; have HDa := HDan; clear HDan; have HDbn := Aside0.mk (hd_call (by first | exact HDb.out | exact hd_alloc HDb.out _ | exact hd_alloc (hd_alloc HDb.out _) _) hbl); clear HDb; have HDb := HDbn; clear HDbn; have HBn := Aside0.mk (below_tr2 (w := w) (by repeat (first | exact HB.out | exact Below.refl _ _ | apply below_alloc)) hbl); clear HB; have HB := HBn; clear HBn; clear hbl)
    | ((with_reducible refine gate_dst (N := 24) rfl ?_); refine wpList_load_hd (w0 := w) (g := gA) (x := x) (by first | exact HDa.out | exact hd_alloc HDa.out _) (by rfl) (.tmp 4) rfl rfl ?_; dsimp only [entC])
    | ((go_at_call 16); (with_reducible refine (HOX.out _ _ ?hb ?hgE).mono ?_); (case hb => exact below_alloc HB.out _); (case hgE => exact blk_new _ _); rintro e w8 ⟨rfl, hbl⟩; have HDan := Aside0.mk (hd_call (by first | exact HDa.out | exact hd_alloc HDa.out _ | exact hd_alloc (hd_alloc HDa.out _) _) hbl); clear HDa; have HDa := HDan; clear HDan; have HDbn := Aside0.mk (hd_call (by first | exact HDb.out | exact hd_alloc HDb.out _ | exact hd_alloc (hd_alloc HDb.out _) _) hbl); clear HDb; have HDb := HDbn; clear HDbn; have HBn := Aside0.mk (below_tr2 (w := w) (by repeat (first | exact HB.out | exact Below.refl _ _ | apply below_alloc)) hbl); clear HB; have HB := HBn; clear HBn; clear hbl)
    | ((go_at_call 15); (with_reducible refine (HSANE.out _ (by repeat (first | exact HB.out | exact Below.refl _ _ | apply below_alloc))).mono ?_); rintro e w8 ⟨rfl, hbl⟩; have HDan := Aside0.mk (hd_call (by first | exact HDa.out | exact hd_alloc HDa.out _ | exact hd_alloc (hd_alloc HDa.out _) _) hbl); clear HDa; have HDa := HDan; clear HDan; have HDbn := Aside0.mk (hd_call (by first | exact HDb.out | exact hd_alloc HDb.out _ | exact hd_alloc (hd_alloc HDb.out _) _) hbl); clear HDb; have HDb := HDbn; clear HDbn; have HBn := Aside0.mk (below_tr2 (w := w) (by repeat (first | exact HB.out | exact Below.refl _ _ | apply below_alloc)) hbl); clear HB; have HB := HBn; clear HBn; clear hbl)
    )
  go_ret
  exact ⟨rfl, HB.out⟩
set_option maxRecDepth 1000000 in
set_option maxHeartbeats 8000000 in
theorem commutes_4 (l : List S77) (A : Option Addr) (c : Nat) (x y : S77) (w : World) (HSANE : Aside0 (Say w 15 #[] (.bool true))) (HFEW : Aside0 (Ans2e w A l.length c x y true)) (HOL : Aside0 (Say w 16 #[.slice A l.length c, .int .i64 0] (.bool true))) (HOX : Aside0 (∀ w1 gE, Below w.heap.size w w1 → w1.heap[gE]? = some (.cells (entC x) 77 (0, 0)) → Calls Try.prog 16 #[.slice (some ⟨gE, 0, none⟩) 1 1, .int .i64 0] w1 fun e w2 => e = .returned (.bool true) ∧ Below w1.heap.size w1 w2)) (HOY : Aside0 (∀ w1 gE, Below w.heap.size w w1 → w1.heap[gE]? = some (.cells (entC y) 77 (0, 0)) → Calls Try.prog 16 #[.slice (some ⟨gE, 0, none⟩) 1 1, .int .i64 0] w1 fun e w2 => e = .returned (.bool false) ∧ Below w1.heap.size w1 w2)) :
    Calls Try.prog 12 #[.slice A l.length c, .agg (entC x), .agg (entC y)] w fun e w' => e = .returned (.bool true) ∧ Below w.heap.size w w' := by
  go_enter Try.func12, Try.ntmps12
  go_wp2_with (first
    | ((with_reducible refine gate_dst (N := 4) rfl ?_); refine box_event (hgd := rfl) (N := 4) rfl (cs := entC x) (t := 77) (by go_simp) ?_; intro gA hg_ w9 HG hbl; clear hg_; have HDa := Aside0.mk (show Hd w gA (entC x) w9 from ⟨HG, hbl⟩); have HB := Aside0.mk hbl; clear HG hbl)
    | ((with_reducible refine gate_dst (N := 5) rfl ?_); refine box_event (hgd := rfl) (N := 5) rfl (cs := entC y) (t := 77) (by go_simp) ?_; intro gB hg_ w9 HG hbl; clear hg_; have HDan := Aside0.mk (hd_call (by first | exact HDa.out | exact hd_alloc HDa.out _ | exact hd_alloc (hd_alloc HDa.out _) _) hbl); clear HDa; have HDa := HDan; clear HDan; have HDb := Aside0.mk (show Hd w gB (entC y) w9 from ⟨HG, below_tr2 (w := w) HB.out hbl⟩); have HBn := Aside0.mk (below_tr2 (w := w) (by repeat (first | exact HB.out | exact Below.refl _ _ | apply below_alloc)) hbl); clear HB; have HB := HBn; clear HBn; clear HG hbl)
    | ((with_reducible refine gate_dst (N := 12) rfl ?_); refine wpList_load_hd (w0 := w) (g := gA) (x := x) (by first | exact HDa.out | exact hd_alloc HDa.out _) (rfl) (.tmp 4) rfl rfl ?_; dsimp only [entC])
    | ((with_reducible refine gate_dst (N := 13) rfl ?_); refine wpList_load_hd (w0 := w) (g := gB) (x := y) (by first | exact HDb.out | exact hd_alloc HDb.out _) (rfl) (.tmp 5) rfl rfl ?_; dsimp only [entC])
    | ((go_at_call 14); (with_reducible refine (HFEW.out _ _ w9.heap.size ?hb ?hg ?hgE).mono ?_); (case hb => exact below_alloc (below_alloc HB.out _) _); (case hg => exact blk_new2 _ _ _); (case hgE => exact blk_alloc (blk_new _ _) _); rintro e w8 ⟨rfl, hbl⟩; have HDan := Aside0.mk (hd_call (by first | exact HDa.out | exact hd_alloc HDa.out _ | exact hd_alloc (hd_alloc HDa.out _) _) hbl); clear HDa; have HDa := HDan; clear HDan; have HDbn := Aside0.mk (hd_call (by first | exact HDb.out | exact hd_alloc HDb.out _ | exact hd_alloc (hd_alloc HDb.out _) _) hbl); clear HDb; have HDb := HDbn; clear HDbn; have HBn := Aside0.mk (below_tr2 (w := w) (by repeat (first | exact HB.out | exact Below.refl _ _ | apply below_alloc)) hbl); clear HB; have HB := HBn; clear HBn; clear hbl)
    | ((go_at_call 16); (with_reducible refine (HOL.out _ (by repeat (first | exact HB.out | exact Below.refl _ _ | apply below_alloc))).mono ?_); rintro e w8 ⟨rfl, hbl⟩; have HDan := Aside0.mk (hd_call (by first | exact HDa.out | exact hd_alloc HDa.out _ | exact hd_alloc (hd_alloc HDa.out _) _) hbl); clear HDa; have HDa := HDan; clear HDan; have HDbn := Aside0.mk (hd_call (by first | exact HDb.out | exact hd_alloc HDb.out _ | exact hd_alloc (hd_alloc HDb.out _) _) hbl); clear HDb; have HDb := HDbn; clear HDbn; have HBn := Aside0.mk (below_tr2 (w := w) (by repeat (first | exact HB.out | exact Below.refl _ _ | apply below_alloc)) hbl); clear HB; have HB := HBn; clear HBn; clear hbl)
    | ((with_reducible refine gate_dst (N := 24) rfl ?_); refine wpList_load_hd (w0 := w) (g := gA) (x := x) (by first | exact HDa.out | exact hd_alloc HDa.out _) (by rfl) (.tmp 4) rfl rfl ?_; dsimp only [entC])
    | ((go_at_call 16); (with_reducible refine (HOX.out _ _ ?hb ?hgE).mono ?_); (case hb => exact below_alloc HB.out _); (case hgE => exact blk_new _ _); rintro e w8 ⟨rfl, hbl⟩; have HDan := Aside0.mk (hd_call (by first | exact HDa.out | exact hd_alloc HDa.out _ | exact hd_alloc (hd_alloc HDa.out _) _) hbl); clear HDa; have HDa := HDan; clear HDan; have HDbn := Aside0.mk (hd_call (by first | exact HDb.out | exact hd_alloc HDb.out _ | exact hd_alloc (hd_alloc HDb.out _) _) hbl); clear HDb; have HDb := HDbn; clear HDbn; have HBn := Aside0.mk (below_tr2 (w := w) (by repeat (first | exact HB.out | exact Below.refl _ _ | apply below_alloc)) hbl); clear HB; have HB := HBn; clear HBn; clear hbl)
    | ((with_reducible refine gate_dst (N := 30) rfl ?_); refine wpList_load_hd (w0 := w) (g := gB) (x := y) (by first | exact HDb.out | exact hd_alloc HDb.out _) (by rfl) (.tmp 5) rfl rfl ?_; dsimp only [entC])
    | ((go_at_call 16); (with_reducible refine (HOY.out _ _ ?hb ?hgE).mono ?_); (case hb => exact below_alloc HB.out _); (case hgE => exact blk_new _ _); rintro e w8 ⟨rfl, hbl⟩; have HDan := Aside0.mk (hd_call (by first | exact HDa.out | exact hd_alloc HDa.out _ | exact hd_alloc (hd_alloc HDa.out _) _) hbl); clear HDa; have HDa := HDan; clear HDan; have HDbn := Aside0.mk (hd_call (by first | exact HDb.out | exact hd_alloc HDb.out _ | exact hd_alloc (hd_alloc HDb.out _) _) hbl); clear HDb; have HDb := HDbn; clear HDbn; have HBn := Aside0.mk (below_tr2 (w := w) (by repeat (first | exact HB.out | exact Below.refl _ _ | apply below_alloc)) hbl); clear HB; have HB := HBn; clear HBn; clear hbl)
    | ((go_at_call 15); (with_reducible refine (HSANE.out _ (by repeat (first | exact HB.out | exact Below.refl _ _ | apply below_alloc))).mono ?_); rintro e w8 ⟨rfl, hbl⟩; have HDan := Aside0.mk (hd_call (by first | exact HDa.out | exact hd_alloc HDa.out _ | exact hd_alloc (hd_alloc HDa.out _) _) hbl); clear HDa; have HDa := HDan; clear HDan; have HDbn := Aside0.mk (hd_call (by first | exact HDb.out | exact hd_alloc HDb.out _ | exact hd_alloc (hd_alloc HDb.out _) _) hbl); clear HDb; have HDb := HDbn; clear HDbn; have HBn := Aside0.mk (below_tr2 (w := w) (by repeat (first | exact HB.out | exact Below.refl _ _ | apply below_alloc)) hbl); clear HB; have HB := HBn; clear HBn; clear hbl)
    )
  go_ret
  exact ⟨rfl, HB.out⟩
set_option maxRecDepth 1000000 in
set_option maxHeartbeats 8000000 in
theorem commutes_5 (l : List S77) (A : Option Addr) (c : Nat) (x y : S77) (w : World) (HSANE : Aside0 (Say w 15 #[] (.bool true))) (HFEW : Aside0 (Ans2e w A l.length c x y true)) (HOL : Aside0 (Say w 16 #[.slice A l.length c, .int .i64 0] (.bool true))) (HOX : Aside0 (∀ w1 gE, Below w.heap.size w w1 → w1.heap[gE]? = some (.cells (entC x) 77 (0, 0)) → Calls Try.prog 16 #[.slice (some ⟨gE, 0, none⟩) 1 1, .int .i64 0] w1 fun e w2 => e = .returned (.bool true) ∧ Below w1.heap.size w1 w2)) (HOY : Aside0 (∀ w1 gE, Below w.heap.size w w1 → w1.heap[gE]? = some (.cells (entC y) 77 (0, 0)) → Calls Try.prog 16 #[.slice (some ⟨gE, 0, none⟩) 1 1, .int .i64 0] w1 fun e w2 => e = .returned (.bool true) ∧ Below w1.heap.size w1 w2))
    (PX PY PXY : List S77) (r : Int) (had : Bool) (H54x : Aside0 (SayL w 54 #[.slice A l.length c, .agg (entC x)] (fun v => v) PX)) (H54y : Aside0 (SayL w 54 #[.slice A l.length c, .agg (entC y)] (fun v => v) PY))
    (H54xy : Aside0 (∀ (W : World) A1 c1, Kd.C k77 W A1 PX.length PX → Calls Try.prog 54 #[.slice A1 PX.length c1, .agg (entC y)] W fun e w2 => ∃ v, e = .returned v ∧ Ow w2 W.heap.size v PXY ∧ Below W.heap.size W w2))
    (H54yx : Aside0 (∀ (W : World) A1 c1, Kd.C k77 W A1 PY.length PY → Calls Try.prog 54 #[.slice A1 PY.length c1, .agg (entC x)] W fun e w2 => ∃ v, e = .returned v ∧ Ow w2 W.heap.size v PXY ∧ Below W.heap.size W w2))
    (HSM : Aside0 (∀ (W : World) A1 A2 c1 c2, Kd.C k77 W A1 PXY.length PXY → Kd.C k77 W A2 PXY.length PXY → Calls Try.prog 37 #[.slice A1 PXY.length c1, .slice A2 PXY.length c2] W fun e w2 => e = .returned (.bool true) ∧ Below W.heap.size W w2)) (H25 : Aside0 (Say w 25 #[.slice A l.length c, .string x.f0] (.tuple #[.int .i64 r, .bool had])))
    (H55 : Aside0 (had = false → ∀ (W : World) A1 c1, Kd.C k77 W A1 PX.length PX → Calls Try.prog 55 #[.slice A1 PX.length c1, .string x.f0] W fun e w2 => ∃ v, e = .returned (.tuple #[v, .bool true]) ∧ Ow w2 W.heap.size v l ∧ Below W.heap.size W w2)) (HRL : Aside0 (∀ W, Below w.heap.size w W → Kd.C k77 W A l.length l))
    (HSL : Aside0 (∀ (W : World) A1 A2 c1 c2, Kd.C k77 W A1 l.length l → Kd.C k77 W A2 l.length l → Calls Try.prog 37 #[.slice A1 l.length c1, .slice A2 l.length c2] W fun e w2 => e = .returned (.bool true) ∧ Below W.heap.size W w2))
    (hkk : (x.f0.toList == y.f0.toList) = false) :
    Calls Try.prog 12 #[.slice A l.length c, .agg (entC x), .agg (entC y)] w fun e w' => e = .returned (.bool true) ∧ Below w.heap.size w w' := by
  go_enter Try.func12, Try.ntmps12
  go_upto_region 3 with (first
    | ((with_reducible refine gate_dst (N := 4) rfl ?_); refine box_event (hgd := rfl) (N := 4) rfl (cs := entC x) (t := 77) (by go_simp) ?_; intro gA hg_ w9 HG hbl; clear hg_; have HDa := Aside0.mk (show Hd w gA (entC x) w9 from ⟨HG, hbl⟩); have HB := Aside0.mk hbl; clear HG hbl)
    | ((with_reducible refine gate_dst (N := 5) rfl ?_); refine box_event (hgd := rfl) (N := 5) rfl (cs := entC y) (t := 77) (by go_simp) ?_; intro gB hg_ w9 HG hbl; clear hg_; have HDan := Aside0.mk (hd_call (by first | exact HDa.out | exact hd_alloc HDa.out _ | exact hd_alloc (hd_alloc HDa.out _) _) hbl); clear HDa; have HDa := HDan; clear HDan; have HDb := Aside0.mk (show Hd w gB (entC y) w9 from ⟨HG, below_tr2 (w := w) HB.out hbl⟩); have HBn := Aside0.mk (below_tr2 (w := w) (by repeat (first | exact HB.out | exact Below.refl _ _ | apply below_alloc)) hbl); clear HB; have HB := HBn; clear HBn; clear HG hbl)
    | ((with_reducible refine gate_dst (N := 12) rfl ?_); refine wpList_load_hd (w0 := w) (g := gA) (x := x) (by first | exact HDa.out | exact hd_alloc HDa.out _) (rfl) (.tmp 4) rfl rfl ?_; dsimp only [entC])
    | ((with_reducible refine gate_dst (N := 13) rfl ?_); refine wpList_load_hd (w0 := w) (g := gB) (x := y) (by first | exact HDb.out | exact hd_alloc HDb.out _) (rfl) (.tmp 5) rfl rfl ?_; dsimp only [entC])
    | ((go_at_call 14); (with_reducible refine (HFEW.out _ _ w9.heap.size ?hb ?hg ?hgE).mono ?_); (case hb => exact below_alloc (below_alloc HB.out _) _); (case hg => exact blk_new2 _ _ _); (case hgE => exact blk_alloc (blk_new _ _) _); rintro e w8 ⟨rfl, hbl⟩; have HDan := Aside0.mk (hd_call (by first | exact HDa.out | exact hd_alloc HDa.out _ | exact hd_alloc (hd_alloc HDa.out _) _) hbl); clear HDa; have HDa := HDan; clear HDan; have HDbn := Aside0.mk (hd_call (by first | exact HDb.out | exact hd_alloc HDb.out _ | exact hd_alloc (hd_alloc HDb.out _) _) hbl); clear HDb; have HDb := HDbn; clear HDbn; have HBn := Aside0.mk (below_tr2 (w := w) (by repeat (first | exact HB.out | exact Below.refl _ _ | apply below_alloc)) hbl); clear HB; have HB := HBn; clear HBn; clear hbl)
    | ((go_at_call 16); (with_reducible refine (HOL.out _ (by repeat (first | exact HB.out | exact Below.refl _ _ | apply below_alloc))).mono ?_); rintro e w8 ⟨rfl, hbl⟩; have HDan := Aside0.mk (hd_call (by first | exact HDa.out | exact hd_alloc HDa.out _ | exact hd_alloc (hd_alloc HDa.out _) _) hbl); clear HDa; have HDa := HDan; clear HDan; have HDbn := Aside0.mk (hd_call (by first | exact HDb.out | exact hd_alloc HDb.out _ | exact hd_alloc (hd_alloc HDb.out _) _) hbl); clear HDb; have HDb := HDbn; clear HDbn; have HBn := Aside0.mk (below_tr2 (w := w) (by repeat (first | exact HB.out | exact Below.refl _ _ | apply below_alloc)) hbl); clear HB; have HB := HBn; clear HBn; clear hbl)
    | ((with_reducible refine gate_dst (N := 24) rfl ?_); refine wpList_load_hd (w0 := w) (g := gA) (x := x) (by first | exact HDa.out | exact hd_alloc HDa.out _) (by rfl) (.tmp 4) rfl rfl ?_; dsimp only [entC])
    | ((go_at_call 16); (with_reducible refine (HOX.out _ _ ?hb ?hgE).mono ?_); (case hb => exact below_alloc HB.out _); (case hgE => exact blk_new _ _); rintro e w8 ⟨rfl, hbl⟩; have HDan := Aside0.mk (hd_call (by first | exact HDa.out | exact hd_alloc HDa.out _ | exact hd_alloc (hd_alloc HDa.out _) _) hbl); clear HDa; have HDa := HDan; clear HDan; have HDbn := Aside0.mk (hd_call (by first | exact HDb.out | exact hd_alloc HDb.out _ | exact hd_alloc (hd_alloc HDb.out _) _) hbl); clear HDb; have HDb := HDbn; clear HDbn; have HBn := Aside0.mk (below_tr2 (w := w) (by repeat (first | exact HB.out | exact Below.refl _ _ | apply below_alloc)) hbl); clear HB; have HB := HBn; clear HBn; clear hbl)
    | ((with_reducible refine gate_dst (N := 30) rfl ?_); refine wpList_load_hd (w0 := w) (g := gB) (x := y) (by first | exact HDb.out | exact hd_alloc HDb.out _) (by rfl) (.tmp 5) rfl rfl ?_; dsimp only [entC])
    | ((go_at_call 16); (with_reducible refine (HOY.out _ _ ?hb ?hgE).mono ?_); (case hb => exact below_alloc HB.out _); (case hgE => exact blk_new _ _); rintro e w8 ⟨rfl, hbl⟩; have HDan := Aside0.mk (hd_call (by first | exact HDa.out | exact hd_alloc HDa.out _ | exact hd_alloc (hd_alloc HDa.out _) _) hbl); clear HDa; have HDa := HDan; clear HDan; have HDbn := Aside0.mk (hd_call (by first | exact HDb.out | exact hd_alloc HDb.out _ | exact hd_alloc (hd_alloc HDb.out _) _) hbl); clear HDb; have HDb := HDbn; clear HDbn; have HBn := Aside0.mk (below_tr2 (w := w) (by repeat (first | exact HB.out | exact Below.refl _ _ | apply below_alloc)) hbl); clear HB; have HB := HBn; clear HBn; clear hbl)
    )
  clear HFEW HOL HOX HOY
  go_cut [54] (fun v54 wc => v54 = .bool false ∧ Aside0 (Below w.heap.size w wc) ∧ Aside0 (Hd w gA (entC x) wc) ∧ Aside0 (Hd w gB (entC y) wc))
  case first =>
    have hk2 : (x.f0.toList != y.f0.toList) = true := by rw [bne, hkk]; rfl
    refine start_ (n := 19) (S := fun W => W.heap[gA]? = some (.cells (entC x) 77 (0, 0)) ∧ W.heap[gB]? = some (.cells (entC y) 77 (0, 0))) (ds := []) #[false, false, false, false, false, false, false, false, false, false, false, false, false, false, false, false, false, false, false] (by kernel_rfl) rfl rfl (⟨blk_drew HDa.out.1, blk_drew HDb.out.1⟩) (fun hHeld => ?_)
    refine with_tabW rg12_3_tab rg12_3_bits (fun HT_ HW_ => ?_)
    have GA := Aside0.mk (blk_drew HDa.out.1)
    have GB := Aside0.mk (blk_drew HDb.out.1)
    have GW := Aside0.mk (below_drew1 HB.out)
    clear HDa HDb HB
    generalize w8.drew = w4 at GA GB GW hHeld ⊢
    refine pure_ (i := 0) (N := some 36) (v := ?_) (a' := ?_) #[true, false, false, false, false, false, false, false, false, false, false, false, false, false, false, false, false, false, false] rfl rfl (any_of HT_.out (by kernel_rfl)) (fun _ _ _ h => h) (Or.inl ⟨by rfl, ?_⟩) ?_ ?_
    rotate_left
    · intro w'
      go_simp
      with_reducible rfl
    rotate_left
    · simp only [Act.put, List.setIfInBounds_toArray, List.set_cons_zero, List.set_cons_succ, i64_w, i32_w]
      rfl
    refine take_ (i := 1) (N := some 37) (v := ?_) (a' := ?_) #[true, true, false, false, false, false, false, false, false, false, false, false, false, false, false, false, false, false, false] rfl rfl (take_ofW HT_.out HW_.out (by kernel_rfl)) (fun _ _ _ h => h) (Or.inl ⟨by rfl, ?_⟩) hHeld ?_ ?_
    rotate_left
    · intro w' hW
      have q0 : w'.cell? ⟨gA, 0, none⟩ = some (.string x.f0) := by rw [blk_cell hW.1]; rfl
      have q1 : w'.cell? ⟨gB, 0, none⟩ = some (.string y.f0) := by rw [blk_cell hW.2]; rfl
      go_simp
      with_reducible rfl
    rotate_left
    · simp only [Act.put, List.setIfInBounds_toArray, List.set_cons_zero, List.set_cons_succ, i64_w, i32_w]
      rfl
    refine pure_ (i := 2) (N := some 38) (v := ?_) (a' := ?_) #[true, true, true, false, false, false, false, false, false, false, false, false, false, false, false, false, false, false, false] rfl rfl (any_of HT_.out (by kernel_rfl)) (fun _ _ _ h => h) (Or.inl ⟨by rfl, ?_⟩) ?_ ?_
    rotate_left
    · intro w'
      go_simp
      with_reducible rfl
    rotate_left
    · simp only [Act.put, List.setIfInBounds_toArray, List.set_cons_zero, List.set_cons_succ, i64_w, i32_w]
      rfl
    refine take_ (i := 3) (N := some 39) (v := ?_) (a' := ?_) #[true, true, true, true, false, false, false, false, false, false, false, false, false, false, false, false, false, false, false] rfl rfl (take_ofW HT_.out HW_.out (by kernel_rfl)) (fun _ _ _ h => h) (Or.inl ⟨by rfl, ?_⟩) hHeld ?_ ?_
    rotate_left
    · intro w' hW
      have q0 : w'.cell? ⟨gA, 0, none⟩ = some (.string x.f0) := by rw [blk_cell hW.1]; rfl
      have q1 : w'.cell? ⟨gB, 0, none⟩ = some (.string y.f0) := by rw [blk_cell hW.2]; rfl
      go_simp
      with_reducible rfl
    rotate_left
    · simp only [Act.put, List.setIfInBounds_toArray, List.set_cons_zero, List.set_cons_succ, i64_w, i32_w]
      rfl
    refine pure_ (i := 4) (N := some 40) (v := ?_) (a' := ?_) #[true, true, true, true, true, false, false, false, false, false, false, false, false, false, false, false, false, false, false] rfl rfl (any_of HT_.out (by kernel_rfl)) (fun _ _ _ h => h) (Or.inl ⟨by rfl, ?_⟩) ?_ ?_
    rotate_left
    · intro w'
      go_simp
      with_reducible rfl
    rotate_left
    · simp only [Act.put, List.setIfInBounds_toArray, List.set_cons_zero, List.set_cons_succ, i64_w, i32_w]
      rfl
    refine pure_ (i := 5) (N := some 41) (v := ?_) (a' := ?_) #[true, true, true, true, true, true, false, false, false, false, false, false, false, false, false, false, false, false, false] rfl rfl (any_of HT_.out (by kernel_rfl)) (fun _ _ _ h => h) (Or.inl ⟨by rfl, ?_⟩) ?_ ?_
    rotate_left
    · intro w'
      go_simp
      with_reducible rfl
    rotate_left
    · simp only [Act.put, List.setIfInBounds_toArray, List.set_cons_zero, List.set_cons_succ, i64_w, i32_w]
      rfl
    refine pure_ (i := 6) (N := some 42) (v := ?_) (a' := ?_) #[true, true, true, true, true, true, true, false, false, false, false, false, false, false, false, false, false, false, false] rfl rfl (any_of HT_.out (by kernel_rfl)) (fun _ _ _ h => h) (Or.inl ⟨by rfl, ?_⟩) ?_ ?_
    rotate_left
    · intro w'
      go_simp
      with_reducible rfl
    rotate_left
    · simp only [Act.put, List.setIfInBounds_toArray, List.set_cons_zero, List.set_cons_succ, i64_w, i32_w]
      rfl
    refine take_ (i := 7) (N := some 43) (v := ?_) (a' := ?_) #[true, true, true, true, true, true, true, true, false, false, false, false, false, false, false, false, false, false, false] rfl rfl (take_ofW HT_.out HW_.out (by kernel_rfl)) (fun _ _ _ h => h) (Or.inl ⟨by rfl, ?_⟩) hHeld ?_ ?_
    rotate_left
    · intro w' hW
      have q0 : w'.cell? ⟨gA, 0, none⟩ = some (.string x.f0) := by rw [blk_cell hW.1]; rfl
      have q1 : w'.cell? ⟨gB, 0, none⟩ = some (.string y.f0) := by rw [blk_cell hW.2]; rfl
      refine load77 (.tmp 4) ?ho gA ?hx x hW.1
      case ho => rfl
      case hx => rfl
    rotate_left
    · simp only [Act.put, List.setIfInBounds_toArray, List.set_cons_zero, List.set_cons_succ, i64_w, i32_w]
      rfl
    refine take_ (i := 9) (N := some 45) (v := ?_) (a' := ?_) #[true, true, true, true, true, true, true, true, false, true, false, false, false, false, false, false, false, false, false] rfl rfl (take_ofW HT_.out HW_.out (by kernel_rfl)) (fun _ _ _ h => h) (Or.inl ⟨by rfl, ?_⟩) hHeld ?_ ?_
    rotate_left
    · intro w' hW
      have q0 : w'.cell? ⟨gA, 0, none⟩ = some (.string x.f0) := by rw [blk_cell hW.1]; rfl
      have q1 : w'.cell? ⟨gB, 0, none⟩ = some (.string y.f0) := by rw [blk_cell hW.2]; rfl
      refine load77 (.tmp 5) ?ho gB ?hx y hW.2
      case ho => rfl
      case hx => rfl
    rotate_left
    · simp only [Act.put, List.setIfInBounds_toArray, List.set_cons_zero, List.set_cons_succ, i64_w, i32_w]
      rfl
    refine pure_ (i := 11) (N := some 47) (v := ?_) (a' := ?_) #[true, true, true, true, true, true, true, true, false, true, false, true, false, false, false, false, false, false, false] rfl rfl (any_of HT_.out (by kernel_rfl)) (fun _ _ _ h => h) (Or.inl ⟨by rfl, ?_⟩) ?_ ?_
    rotate_left
    · intro w'
      go_simp
      with_reducible rfl
    rotate_left
    · simp only [Act.put, List.setIfInBounds_toArray, List.set_cons_zero, List.set_cons_succ, i64_w, i32_w]
      rfl
    refine take_ (i := 12) (N := some 48) (v := ?_) (a' := ?_) #[true, true, true, true, true, true, true, true, false, true, false, true, true, false, false, false, false, false, false] rfl rfl (take_ofW HT_.out HW_.out (by kernel_rfl)) (fun _ _ _ h => h) (Or.inl ⟨by rfl, ?_⟩) hHeld ?_ ?_
    rotate_left
    · intro w' hW
      have q0 : w'.cell? ⟨gA, 0, none⟩ = some (.string x.f0) := by rw [blk_cell hW.1]; rfl
      have q1 : w'.cell? ⟨gB, 0, none⟩ = some (.string y.f0) := by rw [blk_cell hW.2]; rfl
      refine load77 (.tmp 5) ?ho gB ?hx y hW.2
      case ho => rfl
      case hx => rfl
    rotate_left
    · simp only [Act.put, List.setIfInBounds_toArray, List.set_cons_zero, List.set_cons_succ, i64_w, i32_w]
      rfl
    refine take_ (i := 14) (N := some 50) (v := ?_) (a' := ?_) #[true, true, true, true, true, true, true, true, false, true, false, true, true, false, true, false, false, false, false] rfl rfl (take_ofW HT_.out HW_.out (by kernel_rfl)) (fun _ _ _ h => h) (Or.inl ⟨by rfl, ?_⟩) hHeld ?_ ?_
    rotate_left
    · intro w' hW
      have q0 : w'.cell? ⟨gA, 0, none⟩ = some (.string x.f0) := by rw [blk_cell hW.1]; rfl
      have q1 : w'.cell? ⟨gB, 0, none⟩ = some (.string y.f0) := by rw [blk_cell hW.2]; rfl
      refine load77 (.tmp 4) ?ho gA ?hx x hW.1
      case ho => rfl
      case hx => rfl
    rotate_left
    · simp only [Act.put, List.setIfInBounds_toArray, List.set_cons_zero, List.set_cons_succ, i64_w, i32_w]
      rfl
    refine one_ (i := 8) (N := some 44) #[true, true, true, true, true, true, true, true, true, true, false, true, true, false, true, false, false, false, false] rfl rfl (one_of HT_.out (by kernel_rfl)) (by decide) (fun K hK => ?_)
    refine goes_ Try.func54 (by kernel_rfl) rfl #[.slice A l.length c, .agg (entC x)] (by rfl) rfl rfl (by (try simp only [List.map_toArray, List.map_cons, List.map_nil]); first | done | rfl) ?_
    refine (H54x.out _ GW.out).mono ?_
    rintro e W2 ⟨v9, rfl, ho, hb⟩
    refine ⟨_, rfl, ?_⟩
    obtain ⟨A1, c1, rfl⟩ := Kd.R_slice ho
    have HO1 := Aside0.mk (show Kd.C k77 W2 A1 PX.length PX from ow_readsC ho)
    have GAn := Aside0.mk (blk_below GA.out hb)
    have GBn := Aside0.mk (blk_below GB.out hb)
    have GWn := Aside0.mk (below_tr2 (w := w) GW.out hb)
    clear GA GB GW  hb
    have GA := GAn
    have GB := GBn
    have GW := GWn
    clear GAn GBn GWn 
    clear ho
    refine hK.out _ _ (⟨GA.out, GB.out⟩) (fun hHeld => ?_)
    clear hK K
    refine norm_ (a' := ?_) ?_ ?_
    rotate_left
    · show Act.put _ (some 44) _ = _
      simp only [Act.put, List.setIfInBounds_toArray, List.set_cons_zero, List.set_cons_succ, i64_w, i32_w]
      rfl
    refine one_ (i := 10) (N := some 46) #[true, true, true, true, true, true, true, true, true, true, true, true, true, false, true, false, false, false, false] rfl rfl (one_of HT_.out (by kernel_rfl)) (by decide) (fun K hK => ?_)
    refine goes_ Try.func54 (by kernel_rfl) rfl #[.slice A1 PX.length c1, .agg (entC y)] (by rfl) rfl rfl (by (try simp only [List.map_toArray, List.map_cons, List.map_nil]); first | done | rfl) ?_
    refine (H54xy.out _ _ _ HO1.out).mono ?_
    rintro e W3 ⟨v9, rfl, ho, hb⟩
    refine ⟨_, rfl, ?_⟩
    obtain ⟨A2, c2, rfl⟩ := Kd.R_slice ho
    have HO2 := Aside0.mk (show Kd.C k77 W3 A2 PXY.length PXY from ow_readsC ho)
    have GAn := Aside0.mk (blk_below GA.out hb)
    have GBn := Aside0.mk (blk_below GB.out hb)
    have GWn := Aside0.mk (below_tr2 (w := w) GW.out hb)
    clear GA GB GW  hb
    have GA := GAn
    have GB := GBn
    have GW := GWn
    clear GAn GBn GWn 
    clear ho
    refine hK.out _ _ (⟨GA.out, GB.out⟩) (fun hHeld => ?_)
    clear hK K
    refine norm_ (a' := ?_) ?_ ?_
    rotate_left
    · show Act.put _ (some 46) _ = _
      simp only [Act.put, List.setIfInBounds_toArray, List.set_cons_zero, List.set_cons_succ, i64_w, i32_w]
      rfl
    refine one_ (i := 13) (N := some 49) #[true, true, true, true, true, true, true, true, true, true, true, true, true, true, true, false, false, false, false] rfl rfl (one_of HT_.out (by kernel_rfl)) (by decide) (fun K hK => ?_)
    refine goes_ Try.func54 (by kernel_rfl) rfl #[.slice A l.length c, .agg (entC y)] (by rfl) rfl rfl (by (try simp only [List.map_toArray, List.map_cons, List.map_nil]); first | done | rfl) ?_
    refine (H54y.out _ GW.out).mono ?_
    rintro e W4 ⟨v9, rfl, ho, hb⟩
    refine ⟨_, rfl, ?_⟩
    obtain ⟨A3, c3, rfl⟩ := Kd.R_slice ho
    have HO3 := Aside0.mk (show Kd.C k77 W4 A3 PY.length PY from ow_readsC ho)
    have GAn := Aside0.mk (blk_below GA.out hb)
    have GBn := Aside0.mk (blk_below GB.out hb)
    have GWn := Aside0.mk (below_tr2 (w := w) GW.out hb)
    have HO2n := Aside0.mk (Kd.C_below HO2.out hb)
    clear GA GB GW HO2 hb
    have GA := GAn
    have GB := GBn
    have GW := GWn
    have HO2 := HO2n
    clear GAn GBn GWn HO2n
    clear ho
    refine hK.out _ _ (⟨GA.out, GB.out⟩) (fun hHeld => ?_)
    clear hK K
    refine norm_ (a' := ?_) ?_ ?_
    rotate_left
    · show Act.put _ (some 49) _ = _
      simp only [Act.put, List.setIfInBounds_toArray, List.set_cons_zero, List.set_cons_succ, i64_w, i32_w]
      rfl
    refine one_ (i := 15) (N := some 51) #[true, true, true, true, true, true, true, true, true, true, true, true, true, true, true, true, false, false, false] rfl rfl (one_of HT_.out (by kernel_rfl)) (by decide) (fun K hK => ?_)
    refine goes_ Try.func54 (by kernel_rfl) rfl #[.slice A3 PY.length c3, .agg (entC x)] (by rfl) rfl rfl (by (try simp only [List.map_toArray, List.map_cons, List.map_nil]); first | done | rfl) ?_
    refine (H54yx.out _ _ _ HO3.out).mono ?_
    rintro e W5 ⟨v9, rfl, ho, hb⟩
    refine ⟨_, rfl, ?_⟩
    obtain ⟨A4, c4, rfl⟩ := Kd.R_slice ho
    have HO4 := Aside0.mk (show Kd.C k77 W5 A4 PXY.length PXY from ow_readsC ho)
    have GAn := Aside0.mk (blk_below GA.out hb)
    have GBn := Aside0.mk (blk_below GB.out hb)
    have GWn := Aside0.mk (below_tr2 (w := w) GW.out hb)
    have HO2n := Aside0.mk (Kd.C_below HO2.out hb)
    clear GA GB GW HO2 hb
    have GA := GAn
    have GB := GBn
    have GW := GWn
    have HO2 := HO2n
    clear GAn GBn GWn HO2n
    clear ho
    refine hK.out _ _ (⟨GA.out, GB.out⟩) (fun hHeld => ?_)
    clear hK K
    refine norm_ (a' := ?_) ?_ ?_
    rotate_left
    · show Act.put _ (some 51) _ = _
      simp only [Act.put, List.setIfInBounds_toArray, List.set_cons_zero, List.set_cons_succ, i64_w, i32_w]
      rfl
    refine one_ (i := 16) (N := some 52) #[true, true, true, true, true, true, true, true, true, true, true, true, true, true, true, true, true, false, false] rfl rfl (one_of HT_.out (by kernel_rfl)) (by decide) (fun K hK => ?_)
    refine goes_ Try.func37 (by kernel_rfl) rfl #[.slice A2 PXY.length c2, .slice A4 PXY.length c4] (by rfl) rfl rfl (by (try simp only [List.map_toArray, List.map_cons, List.map_nil]); first | done | rfl) ?_
    refine (HSM.out _ _ _ _ _ HO2.out HO4.out).mono ?_
    rintro e W6 ⟨rfl, hb⟩
    refine ⟨_, rfl, ?_⟩
    have GAn := Aside0.mk (blk_below GA.out hb)
    have GBn := Aside0.mk (blk_below GB.out hb)
    have GWn := Aside0.mk (below_tr2 (w := w) GW.out hb)
    clear GA GB GW  hb
    have GA := GAn
    have GB := GBn
    have GW := GWn
    clear GAn GBn GWn 
    refine hK.out _ _ (⟨GA.out, GB.out⟩) (fun hHeld => ?_)
    clear hK K
    refine norm_ (a' := ?_) ?_ ?_
    rotate_left
    · show Act.put _ (some 52) _ = _
      simp only [Act.put, List.setIfInBounds_toArray, List.set_cons_zero, List.set_cons_succ, i64_w, i32_w]
      rfl
    refine pure_ (i := 17) (N := some 53) (v := ?_) (a' := ?_) #[true, true, true, true, true, true, true, true, true, true, true, true, true, true, true, true, true, true, false] rfl rfl (any_of HT_.out (by kernel_rfl)) (fun _ _ _ h => h) (Or.inl ⟨by rfl, ?_⟩) ?_ ?_
    rotate_left
    · intro w'
      go_simp
      with_reducible rfl
    rotate_left
    · simp only [Act.put, List.setIfInBounds_toArray, List.set_cons_zero, List.set_cons_succ, i64_w, i32_w]
      rfl
    refine pure_ (i := 18) (N := some 54) (v := ?_) (a' := ?_) #[true, true, true, true, true, true, true, true, true, true, true, true, true, true, true, true, true, true, true] rfl rfl (any_of HT_.out (by kernel_rfl)) (fun _ _ _ h => h) (Or.inl ⟨by rfl, ?_⟩) ?_ ?_
    rotate_left
    · intro w'
      go_simp
      with_reducible rfl
    rotate_left
    · simp only [Act.put, List.setIfInBounds_toArray, List.set_cons_zero, List.set_cons_succ, i64_w, i32_w]
      rfl
    refine done_ (done_of HT_.out (by kernel_rfl)) ?_
    (try go_wp2_with fail)
    go_meet
    exact ⟨rfl, GW, ⟨⟨GA.out, GW.out⟩⟩, ⟨⟨GB.out, GW.out⟩⟩⟩
  case rest =>
    (try clear HB HDa HDb)
    obtain ⟨rfl, HB, HDa, HDb⟩ := hcut
    clear hkk
    have ck := hd_key HDa.out
    cases had with
    | true =>
      go_wp2_with (first
        | ((go_at_call 25); (with_reducible refine (H25.out _ HB.out).mono ?_); rintro e w8 ⟨rfl, hbl⟩; have HDan := Aside0.mk (hd_call (by first | exact HDa.out | exact hd_alloc HDa.out _ | exact hd_alloc (hd_alloc HDa.out _) _) hbl); clear HDa; have HDa := HDan; clear HDan; have HDbn := Aside0.mk (hd_call (by first | exact HDb.out | exact hd_alloc HDb.out _ | exact hd_alloc (hd_alloc HDb.out _) _) hbl); clear HDb; have HDb := HDbn; clear HDbn; have HBn := Aside0.mk (below_tr2 (w := w) (by repeat (first | exact HB.out | exact Below.refl _ _ | apply below_alloc)) hbl); clear HB; have HB := HBn; clear HBn; clear hbl)
        | ((go_at_call 15); (with_reducible refine (HSANE.out _ (by repeat (first | exact HB.out | exact Below.refl _ _ | apply below_alloc))).mono ?_); rintro e w8 ⟨rfl, hbl⟩; have HDan := Aside0.mk (hd_call (by first | exact HDa.out | exact hd_alloc HDa.out _ | exact hd_alloc (hd_alloc HDa.out _) _) hbl); clear HDa; have HDa := HDan; clear HDan; have HDbn := Aside0.mk (hd_call (by first | exact HDb.out | exact hd_alloc HDb.out _ | exact hd_alloc (hd_alloc HDb.out _) _) hbl); clear HDb; have HDb := HDbn; clear HDbn; have HBn := Aside0.mk (below_tr2 (w := w) (by repeat (first | exact HB.out | exact Below.refl _ _ | apply below_alloc)) hbl); clear HB; have HB := HBn; clear HBn; clear hbl)
        )
      go_ret
      exact ⟨rfl, HB.out⟩
    | false =>
      have H55n := Aside0.mk (H55.out rfl)
      clear H55
      have H55 := H55n
      clear H55n
      go_upto_region 7 with (first
        | ((go_at_call 25); (with_reducible refine (H25.out _ HB.out).mono ?_); rintro e w8 ⟨rfl, hbl⟩; have HDan := Aside0.mk (hd_call (by first | exact HDa.out | exact hd_alloc HDa.out _ | exact hd_alloc (hd_alloc HDa.out _) _) hbl); clear HDa; have HDa := HDan; clear HDan; have HDbn := Aside0.mk (hd_call (by first | exact HDb.out | exact hd_alloc HDb.out _ | exact hd_alloc (hd_alloc HDb.out _) _) hbl); clear HDb; have HDb := HDbn; clear HDbn; have HBn := Aside0.mk (below_tr2 (w := w) (by repeat (first | exact HB.out | exact Below.refl _ _ | apply below_alloc)) hbl); clear HB; have HB := HBn; clear HBn; clear hbl; (try clear ck); have ck := hd_key HDa.out)
        )
      clear ck
      refine start_ (n := 11) (S := fun W => W.heap[gA]? = some (.cells (entC x) 77 (0, 0)) ∧ W.heap[gB]? = some (.cells (entC y) 77 (0, 0))) (ds := []) #[false, false, false, false, false, false, false, false, false, false, false] (by kernel_rfl) rfl rfl (⟨blk_drew HDa.out.1, blk_drew HDb.out.1⟩) (fun hHeld => ?_)
      refine with_tabW rg12_7_tab rg12_7_bits (fun HT_ HW_ => ?_)
      have GA := Aside0.mk (blk_drew HDa.out.1)
      have GB := Aside0.mk (blk_drew HDb.out.1)
      have GW := Aside0.mk (below_drew1 HB.out)
      clear HDa HDb HB
      generalize w8.drew = w4 at GA GB GW hHeld ⊢
      refine pure_ (i := 0) (N := some 65) (v := ?_) (a' := ?_) #[true, false, false, false, false, false, false, false, false, false, false] rfl rfl (any_of HT_.out (by kernel_rfl)) (fun _ _ _ h => h) (Or.inl ⟨by rfl, ?_⟩) ?_ ?_
      rotate_left
      · intro w'
        go_simp
        with_reducible rfl
      rotate_left
      · simp only [Act.put, List.setIfInBounds_toArray, List.set_cons_zero, List.set_cons_succ, i64_w, i32_w]
        rfl
      refine take_ (i := 1) (N := some 66) (v := ?_) (a' := ?_) #[true, true, false, false, false, false, false, false, false, false, false] rfl rfl (take_ofW HT_.out HW_.out (by kernel_rfl)) (fun _ _ _ h => h) (Or.inl ⟨by rfl, ?_⟩) hHeld ?_ ?_
      rotate_left
      · intro w' hW
        have q0 : w'.cell? ⟨gA, 0, none⟩ = some (.string x.f0) := by rw [blk_cell hW.1]; rfl
        have q1 : w'.cell? ⟨gB, 0, none⟩ = some (.string y.f0) := by rw [blk_cell hW.2]; rfl
        refine load77 (.tmp 4) ?ho gA ?hx x hW.1
        case ho => rfl
        case hx => rfl
      rotate_left
      · simp only [Act.put, List.setIfInBounds_toArray, List.set_cons_zero, List.set_cons_succ, i64_w, i32_w]
        rfl
      refine pure_ (i := 3) (N := some 68) (v := ?_) (a' := ?_) #[true, true, false, true, false, false, false, false, false, false, false] rfl rfl (any_of HT_.out (by kernel_rfl)) (fun _ _ _ h => h) (Or.inl ⟨by rfl, ?_⟩) ?_ ?_
      rotate_left
      · intro w'
        go_simp
        with_reducible rfl
      rotate_left
      · simp only [Act.put, List.setIfInBounds_toArray, List.set_cons_zero, List.set_cons_succ, i64_w, i32_w]
        rfl
      refine take_ (i := 4) (N := some 69) (v := ?_) (a' := ?_) #[true, true, false, true, true, false, false, false, false, false, false] rfl rfl (take_ofW HT_.out HW_.out (by kernel_rfl)) (fun _ _ _ h => h) (Or.inl ⟨by rfl, ?_⟩) hHeld ?_ ?_
      rotate_left
      · intro w' hW
        have q0 : w'.cell? ⟨gA, 0, none⟩ = some (.string x.f0) := by rw [blk_cell hW.1]; rfl
        have q1 : w'.cell? ⟨gB, 0, none⟩ = some (.string y.f0) := by rw [blk_cell hW.2]; rfl
        go_simp
        with_reducible rfl
      rotate_left
      · simp only [Act.put, List.setIfInBounds_toArray, List.set_cons_zero, List.set_cons_succ, i64_w, i32_w]
        rfl
      refine one_ (i := 2) (N := some 67) #[true, true, true, true, true, false, false, false, false, false, false] rfl rfl (one_of HT_.out (by kernel_rfl)) (by decide) (fun K hK => ?_)
      refine goes_ Try.func54 (by kernel_rfl) rfl #[.slice A l.length c, .agg (entC x)] (by rfl) rfl rfl (by (try simp only [List.map_toArray, List.map_cons, List.map_nil]); first | done | rfl) ?_
      refine (H54x.out _ GW.out).mono ?_
      rintro e W2 ⟨v9, rfl, ho, hb⟩
      refine ⟨_, rfl, ?_⟩
      obtain ⟨A1, c1, rfl⟩ := Kd.R_slice ho
      have HO1 := Aside0.mk (show Kd.C k77 W2 A1 PX.length PX from ow_readsC ho)
      have GAn := Aside0.mk (blk_below GA.out hb)
      have GBn := Aside0.mk (blk_below GB.out hb)
      have GWn := Aside0.mk (below_tr2 (w := w) GW.out hb)
      clear GA GB GW  hb
      have GA := GAn
      have GB := GBn
      have GW := GWn
      clear GAn GBn GWn 
      clear ho
      refine hK.out _ _ (⟨GA.out, GB.out⟩) (fun hHeld => ?_)
      clear hK K
      refine norm_ (a' := ?_) ?_ ?_
      rotate_left
      · show Act.put _ (some 67) _ = _
        simp only [Act.put, List.setIfInBounds_toArray, List.set_cons_zero, List.set_cons_succ, i64_w, i32_w]
        rfl
      refine one_ (i := 5) (N := some 70) #[true, true, true, true, true, true, false, false, false, false, false] rfl rfl (one_of HT_.out (by kernel_rfl)) (by decide) (fun K hK => ?_)
      refine goes_ Try.func55 (by kernel_rfl) rfl #[.slice A1 PX.length c1, .string x.f0] (by rfl) rfl rfl (by (try simp only [List.map_toArray, List.map_cons, List.map_nil]); first | done | rfl) ?_
      refine (H55.out _ _ _ HO1.out).mono ?_
      rintro e W3 ⟨v9, rfl, ho, hb⟩
      refine ⟨_, rfl, ?_⟩
      obtain ⟨A2, c2, rfl⟩ := Kd.R_slice ho
      have HO2 := Aside0.mk (show Kd.C k77 W3 A2 l.length l from ow_readsC ho)
      have GAn := Aside0.mk (blk_below GA.out hb)
      have GBn := Aside0.mk (blk_below GB.out hb)
      have GWn := Aside0.mk (below_tr2 (w := w) GW.out hb)
      clear GA GB GW  hb
      have GA := GAn
      have GB := GBn
      have GW := GWn
      clear GAn GBn GWn 
      clear ho
      refine hK.out _ _ (⟨GA.out, GB.out⟩) (fun hHeld => ?_)
      clear hK K
      refine norm_ (a' := ?_) ?_ ?_
      rotate_left
      · show Act.put _ (some 70) _ = _
        simp only [Act.put, List.setIfInBounds_toArray, List.set_cons_zero, List.set_cons_succ, i64_w, i32_w]
        rfl
      refine pure_ (i := 6) (N := some 64) (v := ?_) (a' := ?_) #[true, true, true, true, true, true, true, false, false, false, false] rfl rfl (any_of HT_.out (by kernel_rfl)) (fun _ _ _ h => h) (Or.inl ⟨by rfl, ?_⟩) ?_ ?_
      rotate_left
      · intro w'
        go_simp
        with_reducible rfl
      rotate_left
      · simp only [Act.put, List.setIfInBounds_toArray, List.set_cons_zero, List.set_cons_succ, i64_w, i32_w]
        rfl
      refine pure_ (i := 7) (N := some 71) (v := ?_) (a' := ?_) #[true, true, true, true, true, true, true, true, false, false, false] rfl rfl (any_of HT_.out (by kernel_rfl)) (fun _ _ _ h => h) (Or.inl ⟨by rfl, ?_⟩) ?_ ?_
      rotate_left
      · intro w'
        go_simp
        with_reducible rfl
      rotate_left
      · simp only [Act.put, List.setIfInBounds_toArray, List.set_cons_zero, List.set_cons_succ, i64_w, i32_w]
        rfl
      refine pure_ (i := 8) (N := some 72) (v := ?_) (a' := ?_) #[true, true, true, true, true, true, true, true, true, false, false] rfl rfl (any_of HT_.out (by kernel_rfl)) (fun _ _ _ h => h) (Or.inl ⟨by rfl, ?_⟩) ?_ ?_
      rotate_left
      · intro w'
        go_simp
        with_reducible rfl
      rotate_left
      · simp only [Act.put, List.setIfInBounds_toArray, List.set_cons_zero, List.set_cons_succ, i64_w, i32_w]
        rfl
      refine pure_ (i := 9) (N := some 9) (v := ?_) (a' := ?_) #[true, true, true, true, true, true, true, true, true, true, false] rfl rfl (any_of HT_.out (by kernel_rfl)) (fun _ _ _ h => h) (Or.inl ⟨by rfl, ?_⟩) ?_ ?_
      rotate_left
      · intro w'
        go_simp
        with_reducible rfl
      rotate_left
      · simp only [Act.put, List.setIfInBounds_toArray, List.set_cons_zero, List.set_cons_succ, i64_w, i32_w]
        rfl
      refine pure_ (i := 10) (N := some 10) (v := ?_) (a' := ?_) #[true, true, true, true, true, true, true, true, true, true, true] rfl rfl (any_of HT_.out (by kernel_rfl)) (fun _ _ _ h => h) (Or.inl ⟨by rfl, ?_⟩) ?_ ?_
      rotate_left
      · intro w'
        go_simp
        with_reducible rfl
      rotate_left
      · simp only [Act.put, List.setIfInBounds_toArray, List.set_cons_zero, List.set_cons_succ, i64_w, i32_w]
        rfl
      refine done_ (done_of HT_.out (by kernel_rfl)) ?_
      go_wp2_with (first
        | ((go_at_call 37); (with_reducible refine (HSL.out _ _ _ _ _ HO2.out (HRL.out _ GW.out)).mono ?_); rintro e w8 ⟨rfl, hbl⟩; have HB := Aside0.mk (below_tr2 (w := w) GW.out hbl); clear hbl)
        | ((go_at_call 15); (with_reducible refine (HSANE.out _ HB.out).mono ?_); rintro e w7 ⟨rfl, hbl⟩; have HBn := Aside0.mk (below_tr2 (w := w) HB.out hbl); clear HB; have HB := HBn; clear HBn hbl)
        )
      go_ret
      exact ⟨rfl, HB.out⟩
set_option maxRecDepth 1000000 in
set_option maxHeartbeats 8000000 in
theorem commutes_6 (l : List S77) (A : Option Addr) (c : Nat) (x y : S77) (w : World) (HSANE : Aside0 (Say w 15 #[] (.bool true))) (HFEW : Aside0 (Ans2e w A l.length c x y true)) (HOL : Aside0 (Say w 16 #[.slice A l.length c, .int .i64 0] (.bool true))) (HOX : Aside0 (∀ w1 gE, Below w.heap.size w w1 → w1.heap[gE]? = some (.cells (entC x) 77 (0, 0)) → Calls Try.prog 16 #[.slice (some ⟨gE, 0, none⟩) 1 1, .int .i64 0] w1 fun e w2 => e = .returned (.bool true) ∧ Below w1.heap.size w1 w2)) (HOY : Aside0 (∀ w1 gE, Below w.heap.size w w1 → w1.heap[gE]? = some (.cells (entC y) 77 (0, 0)) → Calls Try.prog 16 #[.slice (some ⟨gE, 0, none⟩) 1 1, .int .i64 0] w1 fun e w2 => e = .returned (.bool true) ∧ Below w1.heap.size w1 w2))
    (PX : List S77) (r : Int) (had : Bool) (H54x : Aside0 (SayL w 54 #[.slice A l.length c, .agg (entC x)] (fun v => v) PX)) (H25 : Aside0 (Say w 25 #[.slice A l.length c, .string x.f0] (.tuple #[.int .i64 r, .bool had])))
    (H55 : Aside0 (had = false → ∀ (W : World) A1 c1, Kd.C k77 W A1 PX.length PX → Calls Try.prog 55 #[.slice A1 PX.length c1, .string x.f0] W fun e w2 => ∃ v, e = .returned (.tuple #[v, .bool true]) ∧ Ow w2 W.heap.size v l ∧ Below W.heap.size W w2)) (HRL : Aside0 (∀ W, Below w.heap.size w W → Kd.C k77 W A l.length l))
    (HSL : Aside0 (∀ (W : World) A1 A2 c1 c2, Kd.C k77 W A1 l.length l → Kd.C k77 W A2 l.length l → Calls Try.prog 37 #[.slice A1 l.length c1, .slice A2 l.length c2] W fun e w2 => e = .returned (.bool true) ∧ Below W.heap.size W w2))
    (hkk : (x.f0.toList == y.f0.toList) = true) :
    Calls Try.prog 12 #[.slice A l.length c, .agg (entC x), .agg (entC y)] w fun e w' => e = .returned (.bool true) ∧ Below w.heap.size w w' := by
  go_enter Try.func12, Try.ntmps12
  go_upto_region 3 with (first
    | ((with_reducible refine gate_dst (N := 4) rfl ?_); refine box_event (hgd := rfl) (N := 4) rfl (cs := entC x) (t := 77) (by go_simp) ?_; intro gA hg_ w9 HG hbl; clear hg_; have HDa := Aside0.mk (show Hd w gA (entC x) w9 from ⟨HG, hbl⟩); have HB := Aside0.mk hbl; clear HG hbl)
    | ((with_reducible refine gate_dst (N := 5) rfl ?_); refine box_event (hgd := rfl) (N := 5) rfl (cs := entC y) (t := 77) (by go_simp) ?_; intro gB hg_ w9 HG hbl; clear hg_; have HDan := Aside0.mk (hd_call (by first | exact HDa.out | exact hd_alloc HDa.out _ | exact hd_alloc (hd_alloc HDa.out _) _) hbl); clear HDa; have HDa := HDan; clear HDan; have HDb := Aside0.mk (show Hd w gB (entC y) w9 from ⟨HG, below_tr2 (w := w) HB.out hbl⟩); have HBn := Aside0.mk (below_tr2 (w := w) (by repeat (first | exact HB.out | exact Below.refl _ _ | apply below_alloc)) hbl); clear HB; have HB := HBn; clear HBn; clear HG hbl)
    | ((with_reducible refine gate_dst (N := 12) rfl ?_); refine wpList_load_hd (w0 := w) (g := gA) (x := x) (by first | exact HDa.out | exact hd_alloc HDa.out _) (rfl) (.tmp 4) rfl rfl ?_; dsimp only [entC])
    | ((with_reducible refine gate_dst (N := 13) rfl ?_); refine wpList_load_hd (w0 := w) (g := gB) (x := y) (by first | exact HDb.out | exact hd_alloc HDb.out _) (rfl) (.tmp 5) rfl rfl ?_; dsimp only [entC])
    | ((go_at_call 14); (with_reducible refine (HFEW.out _ _ w9.heap.size ?hb ?hg ?hgE).mono ?_); (case hb => exact below_alloc (below_alloc HB.out _) _); (case hg => exact blk_new2 _ _ _); (case hgE => exact blk_alloc (blk_new _ _) _); rintro e w8 ⟨rfl, hbl⟩; have HDan := Aside0.mk (hd_call (by first | exact HDa.out | exact hd_alloc HDa.out _ | exact hd_alloc (hd_alloc HDa.out _) _) hbl); clear HDa; have HDa := HDan; clear HDan; have HDbn := Aside0.mk (hd_call (by first | exact HDb.out | exact hd_alloc HDb.out _ | exact hd_alloc (hd_alloc HDb.out _) _) hbl); clear HDb; have HDb := HDbn; clear HDbn; have HBn := Aside0.mk (below_tr2 (w := w) (by repeat (first | exact HB.out | exact Below.refl _ _ | apply below_alloc)) hbl); clear HB; have HB := HBn; clear HBn; clear hbl)
    | ((go_at_call 16); (with_reducible refine (HOL.out _ (by repeat (first | exact HB.out | exact Below.refl _ _ | apply below_alloc))).mono ?_); rintro e w8 ⟨rfl, hbl⟩; have HDan := Aside0.mk (hd_call (by first | exact HDa.out | exact hd_alloc HDa.out _ | exact hd_alloc (hd_alloc HDa.out _) _) hbl); clear HDa; have HDa := HDan; clear HDan; have HDbn := Aside0.mk (hd_call (by first | exact HDb.out | exact hd_alloc HDb.out _ | exact hd_alloc (hd_alloc HDb.out _) _) hbl); clear HDb; have HDb := HDbn; clear HDbn; have HBn := Aside0.mk (below_tr2 (w := w) (by repeat (first | exact HB.out | exact Below.refl _ _ | apply below_alloc)) hbl); clear HB; have HB := HBn; clear HBn; clear hbl)
    | ((with_reducible refine gate_dst (N := 24) rfl ?_); refine wpList_load_hd (w0 := w) (g := gA) (x := x) (by first | exact HDa.out | exact hd_alloc HDa.out _) (by rfl) (.tmp 4) rfl rfl ?_; dsimp only [entC])
    | ((go_at_call 16); (with_reducible refine (HOX.out _ _ ?hb ?hgE).mono ?_); (case hb => exact below_alloc HB.out _); (case hgE => exact blk_new _ _); rintro e w8 ⟨rfl, hbl⟩; have HDan := Aside0.mk (hd_call (by first | exact HDa.out | exact hd_alloc HDa.out _ | exact hd_alloc (hd_alloc HDa.out _) _) hbl); clear HDa; have HDa := HDan; clear HDan; have HDbn := Aside0.mk (hd_call (by first | exact HDb.out | exact hd_alloc HDb.out _ | exact hd_alloc (hd_alloc HDb.out _) _) hbl); clear HDb; have HDb := HDbn; clear HDbn; have HBn := Aside0.mk (below_tr2 (w := w) (by repeat (first | exact HB.out | exact Below.refl _ _ | apply below_alloc)) hbl); clear HB; have HB := HBn; clear HBn; clear hbl)
    | ((with_reducible refine gate_dst (N := 30) rfl ?_); refine wpList_load_hd (w0 := w) (g := gB) (x := y) (by first | exact HDb.out | exact hd_alloc HDb.out _) (by rfl) (.tmp 5) rfl rfl ?_; dsimp only [entC])
    | ((go_at_call 16); (with_reducible refine (HOY.out _ _ ?hb ?hgE).mono ?_); (case hb => exact below_alloc HB.out _); (case hgE => exact blk_new _ _); rintro e w8 ⟨rfl, hbl⟩; have HDan := Aside0.mk (hd_call (by first | exact HDa.out | exact hd_alloc HDa.out _ | exact hd_alloc (hd_alloc HDa.out _) _) hbl); clear HDa; have HDa := HDan; clear HDan; have HDbn := Aside0.mk (hd_call (by first | exact HDb.out | exact hd_alloc HDb.out _ | exact hd_alloc (hd_alloc HDb.out _) _) hbl); clear HDb; have HDb := HDbn; clear HDbn; have HBn := Aside0.mk (below_tr2 (w := w) (by repeat (first | exact HB.out | exact Below.refl _ _ | apply below_alloc)) hbl); clear HB; have HB := HBn; clear HBn; clear hbl)
    )
  clear HFEW HOL HOX HOY
  go_cut [54] (fun v54 wc => v54 = .bool false ∧ Aside0 (Below w.heap.size w wc) ∧ Aside0 (Hd w gA (entC x) wc) ∧ Aside0 (Hd w gB (entC y) wc))
  case first =>
    have hk2 : (x.f0.toList != y.f0.toList) = false := by rw [bne, hkk]; rfl
    have c0 := hd_key HDa.out
    have c1 := hd_key HDb.out
    go_quiet (fail)
    (try go_wp2_with fail)
    go_meet
    exact ⟨rfl, ⟨by first | exact HB.out | exact below_drew1 HB.out | exact pw_below_drewN HB.out _⟩, ⟨by first | exact HDa.out | exact hd_drew HDa.out | exact hd_drewN HDa.out _⟩, ⟨by first | exact HDb.out | exact hd_drew HDb.out | exact hd_drewN HDb.out _⟩⟩
  case rest =>
    (try clear HB HDa HDb)
    obtain ⟨rfl, HB, HDa, HDb⟩ := hcut
    clear hkk
    have ck := hd_key HDa.out
    cases had with
    | true =>
      go_wp2_with (first
        | ((go_at_call 25); (with_reducible refine (H25.out _ HB.out).mono ?_); rintro e w8 ⟨rfl, hbl⟩; have HDan := Aside0.mk (hd_call (by first | exact HDa.out | exact hd_alloc HDa.out _ | exact hd_alloc (hd_alloc HDa.out _) _) hbl); clear HDa; have HDa := HDan; clear HDan; have HDbn := Aside0.mk (hd_call (by first | exact HDb.out | exact hd_alloc HDb.out _ | exact hd_alloc (hd_alloc HDb.out _) _) hbl); clear HDb; have HDb := HDbn; clear HDbn; have HBn := Aside0.mk (below_tr2 (w := w) (by repeat (first | exact HB.out | exact Below.refl _ _ | apply below_alloc)) hbl); clear HB; have HB := HBn; clear HBn; clear hbl)
        | ((go_at_call 15); (with_reducible refine (HSANE.out _ (by repeat (first | exact HB.out | exact Below.refl _ _ | apply below_alloc))).mono ?_); rintro e w8 ⟨rfl, hbl⟩; have HDan := Aside0.mk (hd_call (by first | exact HDa.out | exact hd_alloc HDa.out _ | exact hd_alloc (hd_alloc HDa.out _) _) hbl); clear HDa; have HDa := HDan; clear HDan; have HDbn := Aside0.mk (hd_call (by first | exact HDb.out | exact hd_alloc HDb.out _ | exact hd_alloc (hd_alloc HDb.out _) _) hbl); clear HDb; have HDb := HDbn; clear HDbn; have HBn := Aside0.mk (below_tr2 (w := w) (by repeat (first | exact HB.out | exact Below.refl _ _ | apply below_alloc)) hbl); clear HB; have HB := HBn; clear HBn; clear hbl)
        )
      go_ret
      exact ⟨rfl, HB.out⟩
    | false =>
      have H55n := Aside0.mk (H55.out rfl)
      clear H55
      have H55 := H55n
      clear H55n
      go_upto_region 7 with (first
        | ((go_at_call 25); (with_reducible refine (H25.out _ HB.out).mono ?_); rintro e w8 ⟨rfl, hbl⟩; have HDan := Aside0.mk (hd_call (by first | exact HDa.out | exact hd_alloc HDa.out _ | exact hd_alloc (hd_alloc HDa.out _) _) hbl); clear HDa; have HDa := HDan; clear HDan; have HDbn := Aside0.mk (hd_call (by first | exact HDb.out | exact hd_alloc HDb.out _ | exact hd_alloc (hd_alloc HDb.out _) _) hbl); clear HDb; have HDb := HDbn; clear HDbn; have HBn := Aside0.mk (below_tr2 (w := w) (by repeat (first | exact HB.out | exact Below.refl _ _ | apply below_alloc)) hbl); clear HB; have HB := HBn; clear HBn; clear hbl; (try clear ck); have ck := hd_key HDa.out)
        )
      clear ck
      refine start_ (n := 11) (S := fun W => W.heap[gA]? = some (.cells (entC x) 77 (0, 0)) ∧ W.heap[gB]? = some (.cells (entC y) 77 (0, 0))) (ds := []) #[false, false, false, false, false, false, false, false, false, false, false] (by kernel_rfl) rfl rfl (⟨blk_drew HDa.out.1, blk_drew HDb.out.1⟩) (fun hHeld => ?_)
      refine with_tabW rg12_7_tab rg12_7_bits (fun HT_ HW_ => ?_)
      have GA := Aside0.mk (blk_drew HDa.out.1)
      have GB := Aside0.mk (blk_drew HDb.out.1)
      have GW := Aside0.mk (below_drew1 HB.out)
      clear HDa HDb HB
      generalize w8.drew = w4 at GA GB GW hHeld ⊢
      refine pure_ (i := 0) (N := some 65) (v := ?_) (a' := ?_) #[true, false, false, false, false, false, false, false, false, false, false] rfl rfl (any_of HT_.out (by kernel_rfl)) (fun _ _ _ h => h) (Or.inl ⟨by rfl, ?_⟩) ?_ ?_
      rotate_left
      · intro w'
        go_simp
        with_reducible rfl
      rotate_left
      · simp only [Act.put, List.setIfInBounds_toArray, List.set_cons_zero, List.set_cons_succ, i64_w, i32_w]
        rfl
      refine take_ (i := 1) (N := some 66) (v := ?_) (a' := ?_) #[true, true, false, false, false, false, false, false, false, false, false] rfl rfl (take_ofW HT_.out HW_.out (by kernel_rfl)) (fun _ _ _ h => h) (Or.inl ⟨by rfl, ?_⟩) hHeld ?_ ?_
      rotate_left
      · intro w' hW
        have q0 : w'.cell? ⟨gA, 0, none⟩ = some (.string x.f0) := by rw [blk_cell hW.1]; rfl
        have q1 : w'.cell? ⟨gB, 0, none⟩ = some (.string y.f0) := by rw [blk_cell hW.2]; rfl
        refine load77 (.tmp 4) ?ho gA ?hx x hW.1
        case ho => rfl
        case hx => rfl
      rotate_left
      · simp only [Act.put, List.setIfInBounds_toArray, List.set_cons_zero, List.set_cons_succ, i64_w, i32_w]
        rfl
      refine pure_ (i := 3) (N := some 68) (v := ?_) (a' := ?_) #[true, true, false, true, false, false, false, false, false, false, false] rfl rfl (any_of HT_.out (by kernel_rfl)) (fun _ _ _ h => h) (Or.inl ⟨by rfl, ?_⟩) ?_ ?_
      rotate_left
      · intro w'
        go_simp
        with_reducible rfl
      rotate_left
      · simp only [Act.put, List.setIfInBounds_toArray, List.set_cons_zero, List.set_cons_succ, i64_w, i32_w]
        rfl
      refine take_ (i := 4) (N := some 69) (v := ?_) (a' := ?_) #[true, true, false, true, true, false, false, false, false, false, false] rfl rfl (take_ofW HT_.out HW_.out (by kernel_rfl)) (fun _ _ _ h => h) (Or.inl ⟨by rfl, ?_⟩) hHeld ?_ ?_
      rotate_left
      · intro w' hW
        have q0 : w'.cell? ⟨gA, 0, none⟩ = some (.string x.f0) := by rw [blk_cell hW.1]; rfl
        have q1 : w'.cell? ⟨gB, 0, none⟩ = some (.string y.f0) := by rw [blk_cell hW.2]; rfl
        go_simp
        with_reducible rfl
      rotate_left
      · simp only [Act.put, List.setIfInBounds_toArray, List.set_cons_zero, List.set_cons_succ, i64_w, i32_w]
        rfl
      refine one_ (i := 2) (N := some 67) #[true, true, true, true, true, false, false, false, false, false, false] rfl rfl (one_of HT_.out (by kernel_rfl)) (by decide) (fun K hK => ?_)
      refine goes_ Try.func54 (by kernel_rfl) rfl #[.slice A l.length c, .agg (entC x)] (by rfl) rfl rfl (by (try simp only [List.map_toArray, List.map_cons, List.map_nil]); first | done | rfl) ?_
      refine (H54x.out _ GW.out).mono ?_
      rintro e W2 ⟨v9, rfl, ho, hb⟩
      refine ⟨_, rfl, ?_⟩
      obtain ⟨A1, c1, rfl⟩ := Kd.R_slice ho
      have HO1 := Aside0.mk (show Kd.C k77 W2 A1 PX.length PX from ow_readsC ho)
      have GAn := Aside0.mk (blk_below GA.out hb)
      have GBn := Aside0.mk (blk_below GB.out hb)
      have GWn := Aside0.mk (below_tr2 (w := w) GW.out hb)
      clear GA GB GW  hb
      have GA := GAn
      have GB := GBn
      have GW := GWn
      clear GAn GBn GWn 
      clear ho
      refine hK.out _ _ (⟨GA.out, GB.out⟩) (fun hHeld => ?_)
      clear hK K
      refine norm_ (a' := ?_) ?_ ?_
      rotate_left
      · show Act.put _ (some 67) _ = _
        simp only [Act.put, List.setIfInBounds_toArray, List.set_cons_zero, List.set_cons_succ, i64_w, i32_w]
        rfl
      refine one_ (i := 5) (N := some 70) #[true, true, true, true, true, true, false, false, false, false, false] rfl rfl (one_of HT_.out (by kernel_rfl)) (by decide) (fun K hK => ?_)
      refine goes_ Try.func55 (by kernel_rfl) rfl #[.slice A1 PX.length c1, .string x.f0] (by rfl) rfl rfl (by (try simp only [List.map_toArray, List.map_cons, List.map_nil]); first | done | rfl) ?_
      refine (H55.out _ _ _ HO1.out).mono ?_
      rintro e W3 ⟨v9, rfl, ho, hb⟩
      refine ⟨_, rfl, ?_⟩
      obtain ⟨A2, c2, rfl⟩ := Kd.R_slice ho
      have HO2 := Aside0.mk (show Kd.C k77 W3 A2 l.length l from ow_readsC ho)
      have GAn := Aside0.mk (blk_below GA.out hb)
      have GBn := Aside0.mk (blk_below GB.out hb)
      have GWn := Aside0.mk (below_tr2 (w := w) GW.out hb)
      clear GA GB GW  hb
      have GA := GAn
      have GB := GBn
      have GW := GWn
      clear GAn GBn GWn 
      clear ho
      refine hK.out _ _ (⟨GA.out, GB.out⟩) (fun hHeld => ?_)
      clear hK K
      refine norm_ (a' := ?_) ?_ ?_
      rotate_left
      · show Act.put _ (some 70) _ = _
        simp only [Act.put, List.setIfInBounds_toArray, List.set_cons_zero, List.set_cons_succ, i64_w, i32_w]
        rfl
      refine pure_ (i := 6) (N := some 64) (v := ?_) (a' := ?_) #[true, true, true, true, true, true, true, false, false, false, false] rfl rfl (any_of HT_.out (by kernel_rfl)) (fun _ _ _ h => h) (Or.inl ⟨by rfl, ?_⟩) ?_ ?_
      rotate_left
      · intro w'
        go_simp
        with_reducible rfl
      rotate_left
      · simp only [Act.put, List.setIfInBounds_toArray, List.set_cons_zero, List.set_cons_succ, i64_w, i32_w]
        rfl
      refine pure_ (i := 7) (N := some 71) (v := ?_) (a' := ?_) #[true, true, true, true, true, true, true, true, false, false, false] rfl rfl (any_of HT_.out (by kernel_rfl)) (fun _ _ _ h => h) (Or.inl ⟨by rfl, ?_⟩) ?_ ?_
      rotate_left
      · intro w'
        go_simp
        with_reducible rfl
      rotate_left
      · simp only [Act.put, List.setIfInBounds_toArray, List.set_cons_zero, List.set_cons_succ, i64_w, i32_w]
        rfl
      refine pure_ (i := 8) (N := some 72) (v := ?_) (a' := ?_) #[true, true, true, true, true, true, true, true, true, false, false] rfl rfl (any_of HT_.out (by kernel_rfl)) (fun _ _ _ h => h) (Or.inl ⟨by rfl, ?_⟩) ?_ ?_
      rotate_left
      · intro w'
        go_simp
        with_reducible rfl
      rotate_left
      · simp only [Act.put, List.setIfInBounds_toArray, List.set_cons_zero, List.set_cons_succ, i64_w, i32_w]
        rfl
      refine pure_ (i := 9) (N := some 9) (v := ?_) (a' := ?_) #[true, true, true, true, true, true, true, true, true, true, false] rfl rfl (any_of HT_.out (by kernel_rfl)) (fun _ _ _ h => h) (Or.inl ⟨by rfl, ?_⟩) ?_ ?_
      rotate_left
      · intro w'
        go_simp
        with_reducible rfl
      rotate_left
      · simp only [Act.put, List.setIfInBounds_toArray, List.set_cons_zero, List.set_cons_succ, i64_w, i32_w]
        rfl
      refine pure_ (i := 10) (N := some 10) (v := ?_) (a' := ?_) #[true, true, true, true, true, true, true, true, true, true, true] rfl rfl (any_of HT_.out (by kernel_rfl)) (fun _ _ _ h => h) (Or.inl ⟨by rfl, ?_⟩) ?_ ?_
      rotate_left
      · intro w'
        go_simp
        with_reducible rfl
      rotate_left
      · simp only [Act.put, List.setIfInBounds_toArray, List.set_cons_zero, List.set_cons_succ, i64_w, i32_w]
        rfl
      refine done_ (done_of HT_.out (by kernel_rfl)) ?_
      go_wp2_with (first
        | ((go_at_call 37); (with_reducible refine (HSL.out _ _ _ _ _ HO2.out (HRL.out _ GW.out)).mono ?_); rintro e w8 ⟨rfl, hbl⟩; have HB := Aside0.mk (below_tr2 (w := w) GW.out hbl); clear hbl)
        | ((go_at_call 15); (with_reducible refine (HSANE.out _ HB.out).mono ?_); rintro e w7 ⟨rfl, hbl⟩; have HBn := Aside0.mk (below_tr2 (w := w) HB.out hbl); clear HB; have HB := HBn; clear HBn hbl)
        )
      go_ret
      exact ⟨rfl, HB.out⟩
end Go.Proofs.Ytalncokpbgbccaa.E

/- NodeCommutes, joined: whatever the entries, it returns true. -/
namespace Go.Proofs.Ytalncokpbgbccaa.E
set_option linter.unusedVariables false
set_option linter.unusedSimpArgs false
open Go.RowKit Go.Proofs.YtalncokpbgbccaaW.PrintWords Go.Proofs.YtalncokpbgbccaaW.PrintLast Go.Proofs.YtalncokpbgbccaaW.PrintMore
theorem one_ord (w : World) (x : S77) (w1 : World) (gE : Nat) (hb : Below w.heap.size w w1) (hg : w1.heap[gE]? = some (.cells (entC x) 77 (0, 0))) :
    Calls Try.prog 16 #[.slice (some ⟨gE, 0, none⟩) 1 1, .int .i64 0] w1 fun e w2 => e = .returned (.bool (ordL [x] 0)) ∧ Below w1.heap.size w1 w2 := by
  obtain ⟨k, e⟩ := ordered_eq [x] 0 (by simp)
  exact (understoryref06_Ordered.calls k (some ⟨gE, 0, none⟩) 1 [x] 0 _ w1 (C_one hg) (by simp) e).mono fun e w2 ⟨e1, n, b2⟩ => ⟨e1, by rw [b2]; exact pw_below_drewN (Below.refl _ _) _⟩
theorem commutes_c (l : List S77) (A : Option Addr) (c : Nat) (x y : S77) (w : World) (hr : Kd.C k77 w A l.length l) (hc : l.length ≤ c) :
    Calls Try.prog 12 #[.slice A l.length c, .agg (entC x), .agg (entC y)] w fun e w' => e = .returned (.bool true) ∧ Below w.heap.size w w' := by
  obtain ⟨v, hf, HF⟩ := few_twoe l x y
  have HFEW := Aside0.mk (HF w A c hr hc)
  have HS := Aside0.mk (show Say w 15 #[] (.bool true) from fun w1 _ => sane_c w1)
  cases v with
  | false => exact commutes_1 l A c x y w HS HFEW
  | true =>
  have hl := (hf rfl).1
  obtain ⟨k0, e0⟩ := ordered_eq l 0 hl
  have HOL := Aside0.mk (say_drawn (w := w) fun w1 q => understoryref06_Ordered.calls k0 A c l 0 _ w1 (Kd.C_below hr q) hc e0)
  have HOX := Aside0.mk (one_ord w x)
  have HOY := Aside0.mk (one_ord w y)
  cases ho : ordL l 0 with
  | false => rw [ho] at HOL; exact commutes_2 l A c x y w HS HFEW HOL
  | true =>
  rw [ho] at HOL
  cases hx : ordL [x] 0 with
  | false => rw [hx] at HOX; exact commutes_3 l A c x y w HS HFEW HOL HOX
  | true =>
  rw [hx] at HOX
  cases hy : ordL [y] 0 with
  | false => rw [hy] at HOY; exact commutes_4 l A c x y w HS HFEW HOL HOX HOY
  | true =>
  rw [hy] at HOY
  have hi := (ord_leaf.mp ho).1
  have h25 : Say w 25 #[.slice A l.length c, .string x.f0] (.tuple #[.int .i64 (searchP l x.f0 : Int), .bool (searchB l x.f0)]) := fun w1 q => search_c l A c x.f0 w1 (Kd.C_below hr q) (by omega)
  have hpx := leafPut_len l x
  have hpy := leafPut_len l y
  have h55 : searchB l x.f0 = false → ∀ (W : World) A1 c1, Kd.C k77 W A1 (leafPut l x).length (leafPut l x) → Calls Try.prog 55 #[.slice A1 (leafPut l x).length c1, .string x.f0] W fun e w2 => ∃ v, e = .returned (.tuple #[v, .bool true]) ∧ Ow w2 W.heap.size v l ∧ Below W.heap.size W w2 := by
    intro hs W A1 c1 hC
    have h := dropE_c (leafPut l x) x.f0 A1 c1 W hC (by omega)
    have h2 := put_drop hi x hs
    rw [h2.1, h2.2] at h
    exact h
  cases hk : (x.f0.toList == y.f0.toList) with
  | true =>
    exact commutes_6 l A c x y w HS HFEW HOL HOX HOY (leafPut l x) (searchP l x.f0) (searchB l x.f0) ⟨fun w1 q => putE_c l x A c w1 (Kd.C_below hr q) (by omega)⟩ ⟨h25⟩ ⟨h55⟩ ⟨fun W q => Kd.C_below hr q⟩ ⟨same_any l (by omega)⟩ hk
  | false =>
    have hne : x.f0 ≠ y.f0 := fun e => by rw [e] at hk; simp at hk
    have hpp := put_put hi x y hne
    have hpl := leafPut_len (leafPut l x) y
    exact commutes_5 l A c x y w HS HFEW HOL HOX HOY (leafPut l x) (leafPut l y) (leafPut (leafPut l x) y) (searchP l x.f0) (searchB l x.f0) ⟨fun w1 q => putE_c l x A c w1 (Kd.C_below hr q) (by omega)⟩ ⟨fun w1 q => putE_c l y A c w1 (Kd.C_below hr q) (by omega)⟩
      ⟨fun W A1 c1 hC => putE_c (leafPut l x) y A1 c1 W hC (by omega)⟩ ⟨fun W A1 c1 hC => by have h := putE_c (leafPut l y) x A1 c1 W hC (by omega); rw [← hpp] at h; exact h⟩ ⟨same_any _ (by omega)⟩ ⟨h25⟩ ⟨h55⟩ ⟨fun W q => Kd.C_below hr q⟩ ⟨same_any l (by omega)⟩ hk
end Go.Proofs.Ytalncokpbgbccaa.E

