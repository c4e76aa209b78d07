-- A slim copy of YA, YB, YC, written by wip/tools/prune2.py.
import Derived.Deep.DeepAppendRoom
import Derived.Laws.CopyOwn
import Derived.Laws.IdiomCopy
import Derived.Lib.AppendZerosOnto
import Derived.Lib.Overlaps
import Derived.Shelf.Spec.SlicesInsert
import Derived.Test.YtalncokpbgbccaaKMh
import Derived.Test.YtalncokpbgbccaaKSW
/- Rows of entries, cell by cell: what copy, append and clear do to a row of the call's own. -/
namespace Go.Proofs.Ytalncokpbgbccaa.E
set_option linter.unusedVariables false
set_option linter.unusedSimpArgs false
open Go.RowKit Go.Proofs.YtalncokpbgbccaaW.PrintWords Go.Proofs.YtalncokpbgbccaaW.PrintLast Go.Proofs.YtalncokpbgbccaaW.PrintMore
/-- the cells of some entries -/
def cellsL : List S77 → List Value
  | [] => []
  | x :: r => (entC x).toList ++ cellsL r
theorem entC_length (x : S77) : (entC x).toList.length = 22 := rfl
theorem cellsL_length (l : List S77) : (cellsL l).length = l.length * 22 := by
  induction l with
  | nil => rfl
  | cons x r ih => rw [cellsL, List.length_append, entC_length, ih, List.length_cons]; omega
theorem cellsL_append (l m : List S77) : cellsL (l ++ m) = cellsL l ++ cellsL m := by
  induction l with
  | nil => rfl
  | cons x r ih => rw [List.cons_append, cellsL, cellsL, ih, List.append_assoc]
theorem cellsL_one (l : List S77) : ∀ v ∈ cellsL l, v.oneCell' = true := by
  induction l with
  | nil => intro v hv; cases hv
  | cons x r ih =>
    intro v hv
    rw [cellsL] at hv
    rcases List.mem_append.mp hv with hv | hv
    · exact (Array.all_eq_true_iff_forall_mem.1 (entC_one x)) v (by simpa using hv)
    · exact ih v hv
theorem cellsL_take (l : List S77) (i : Nat) : cellsL (l.take i) = (cellsL l).take (i * 22) := by
  by_cases hi : i ≤ l.length
  · have e : cellsL l = cellsL (l.take i) ++ cellsL (l.drop i) := by rw [← cellsL_append, List.take_append_drop]
    have hl : (cellsL (l.take i)).length = i * 22 := by rw [cellsL_length, List.length_take, Nat.min_eq_left hi]
    rw [e, ← hl]
    exact List.take_left.symm
  · rw [List.take_of_length_le (by omega), List.take_of_length_le (by rw [cellsL_length]; omega)]
theorem cellsL_drop (l : List S77) (i : Nat) : cellsL (l.drop i) = (cellsL l).drop (i * 22) := by
  by_cases hi : i ≤ l.length
  · have e : cellsL l = cellsL (l.take i) ++ cellsL (l.drop i) := by rw [← cellsL_append, List.take_append_drop]
    have hl : (cellsL (l.take i)).length = i * 22 := by rw [cellsL_length, List.length_take, Nat.min_eq_left hi]
    rw [e, ← hl]
    exact List.drop_left.symm
  · rw [List.drop_eq_nil_of_le (by omega), List.drop_eq_nil_of_le (by rw [cellsL_length]; omega)]
    rfl
theorem reps_cells {R : S77 → List Value → Prop} (hR : ∀ x cs, R x cs → cs = (entC x).toList) : ∀ (l : List S77) (cs : List Value), Reps R 22 l cs → cs = cellsL l := by
  intro l
  induction l with
  | nil => intro cs h; exact List.eq_nil_of_length_eq_zero (by simpa using h.1)
  | cons x r ih =>
    intro cs h
    have h0 := hR _ _ (h.2 0 x rfl)
    rw [Nat.zero_mul, List.drop_zero] at h0
    have h1 := ih (cs.drop 22) ⟨by rw [List.length_drop, h.1, List.length_cons]; omega, fun j p hj => by
      have := h.2 (j + 1) p hj
      rw [List.drop_drop]
      rwa [show (j + 1) * 22 = 22 + j * 22 by omega] at this⟩
    rw [cellsL, ← h0, ← h1, List.take_append_drop]
theorem cells_reps {R : S77 → List Value → Prop} (hR : ∀ x, R x (entC x).toList) : ∀ l : List S77, Reps R 22 l (cellsL l) := by
  intro l
  induction l with
  | nil => exact Reps.none _ _
  | cons x r ih =>
    have h1 : Reps R 22 [x] (entC x).toList := by simpa using Reps.snoc (Reps.none R 22) (hR x) (entC_length x)
    exact Kd.reps_append h1 ih
theorem k77_M (W : World) (base : Nat) (ok : Nat → Prop) (x : S77) : k77.M W base ok x (entC x).toList := k77_mkM W base ok x
/-- a row of the call's own, cell by cell -/
theorem ow_open {W : World} {base g n c : Nat} {l : List S77} (h : Ow W base (.slice (some ⟨g, 0, none⟩) n c) l) :
    base ≤ g ∧ n = l.length ∧ l.length ≤ c ∧ c ≤ maxLen ∧ ∃ cur : List Value, W.heap[g]? = some (.cells cur.toArray 77 (0, 0)) ∧ cur.length = c * 22 ∧ cur.take (l.length * 22) = cellsL l := by
  have hq := Kd.R_reads' h
  obtain ⟨_, inner, ho, hr⟩ := h
  have hin := reps_cells (fun x cs hp => k77_openM hp) l inner hr
  rcases ho.2 with ⟨h0, _⟩ | ⟨g', cap, cur, hv, hg, hh, hnc, hcm, hcs, htake⟩
  · cases h0
  · injection hv with h1 h2 h3
    injection h1 with h1
    injection h1 with h1
    subst h1; subst h3
    refine ⟨hg, hq.1, hnc, hcm, cur.toList, by simpa using hh, by simpa [sz77] using hcs, ?_⟩
    rw [← hin, ← htake]
    rfl
theorem ow_shut {W : World} {base g c : Nat} {l : List S77} {cur : List Value} (hb : base ≤ g) (hc : l.length ≤ c) (hm : c ≤ maxLen) (hg : W.heap[g]? = some (.cells cur.toArray 77 (0, 0))) (hl : cur.length = c * 22) (ht : cur.take (l.length * 22) = cellsL l) :
    Ow W base (.slice (some ⟨g, 0, none⟩) l.length c) l :=
  ⟨fun _ _ => trivial, cellsL l, ⟨by rw [cellsL_length]; rfl, .inr ⟨g, c, cur.toArray, rfl, hb, hg, hc, hm, by simpa [sz77] using hl, by simpa [sz77] using ht⟩⟩, cells_reps (fun x => k77_M W base _ x) l⟩
/-- a row that is read, cell by cell -/
theorem c_cells {W : World} {ad : Addr} {n : Nat} {l : List S77} (h : Kd.C k77 W (some ad) n l) : ∀ j v, (cellsL l)[j]? = some v → W.cell? (ad.add j) = some v := by
  obtain ⟨inner, hr, hc⟩ := ReadsRow.inner_ h
  rw [← reps_cells (fun x cs hp => k77_open hp) l inner hr]
  exact hc
theorem sizeOf77 (W : World) : (Go.sizeOf 77).run Try.prog W = .ok 22 W := by
  obtain ⟨i, hi, hs⟩ := info77'
  simp [sizeOf, typeInfo, hi, hs]
/-- copy, between rows of entries -/
theorem run_copy22 (W : World) (ty : TypeId) (g off dLen dCap : Nat) (ad : Addr) (sLen sCap : Nat) (cur : List Value) (tt : TypeId) (hg : W.heap[g]? = some (.cells cur.toArray tt (0, 0))) (cs : List Value) (k : Nat) (hk : Nat.min sLen dLen = k) (hn : cs.length = k * 22)
    (hsrc : ∀ j v, cs[j]? = some v → W.cell? (ad.add j) = some v) (hfit : off + cs.length ≤ cur.length) (h1 : ∀ v ∈ cs, v.oneCell' = true) :
    (Builtin.copy_ #[22, 22] ty #[.slice (some ⟨g, off, none⟩) dLen dCap, .slice (some ad) sLen sCap]).run Try.prog W = .ok (goInt k) (W.setRow g (splice cur off cs).toArray) := by
  have hl := run_loadCells_list (P := Try.prog) W ad cs hsrc
  have hst := run_storeCells_at Try.prog g off tt cs 0 cur.toArray W hg (by simpa using hfit) h1
  have hsz := sizeOf77
  rw [hn] at hl
  simp [Builtin.copy_, run_underlying Try.underlying22, Builtin.lenOf, Builtin.firstCells, hsz, hk, hl, hst, splice]
theorem splice_shift {α : Type} (cur X B : List α) (a b : Nat) (h : b + X.length = a) (hf : a + B.length ≤ cur.length) : splice (splice cur a B) b X = cur.take b ++ (X ++ (B ++ cur.drop (a + B.length))) := by
  have h1 : (splice cur a B).take b = cur.take b := by
    unfold splice
    rw [List.take_append_of_le_length (by rw [List.length_take]; omega), List.take_take, Nat.min_eq_left (by omega)]
  have h2 : (splice cur a B).drop (b + X.length) = B ++ cur.drop (a + B.length) := by
    unfold splice
    rw [h]
    have e : (cur.take a).length = a := by rw [List.length_take, Nat.min_eq_left (by omega)]
    have := List.drop_left (l₁ := cur.take a) (l₂ := B ++ cur.drop (a + B.length))
    rwa [e] at this
  show (splice cur a B).take b ++ (X ++ (splice cur a B).drop (b + X.length)) = _
  rw [h1, h2]
theorem splice_behind {α : Type} (cur X B : List α) (a b : Nat) (h : b + X.length = a) (hf : a + B.length ≤ cur.length) : splice (splice cur b X) a B = cur.take b ++ (X ++ (B ++ cur.drop (a + B.length))) := by
  have e : (cur.take b ++ X).length = a := by rw [List.length_append, List.length_take, Nat.min_eq_left (by omega), h]
  have h0 : splice cur b X = (cur.take b ++ X) ++ cur.drop a := by unfold splice; rw [h, List.append_assoc]
  have h1 : (splice cur b X).take a = cur.take b ++ X := by
    rw [h0]
    have := List.take_left (l₁ := cur.take b ++ X) (l₂ := cur.drop a)
    rwa [e] at this
  have h2 : (splice cur b X).drop (a + B.length) = cur.drop (a + B.length) := by
    rw [h0]
    have := List.drop_append (l₁ := cur.take b ++ X) (l₂ := cur.drop a) (i := B.length)
    rw [e] at this
    rw [← List.drop_drop] 
    have h3 := List.drop_left (l₁ := cur.take b ++ X) (l₂ := cur.drop a)
    rw [e] at h3
    rw [h3, List.drop_drop]
  show (splice cur b X).take a ++ (B ++ (splice cur b X).drop (a + B.length)) = _
  rw [h1, h2, List.append_assoc]
theorem shape_blk {W : World} {g t : Nat} {cs : Array Value} {fr : Nat × Nat} (h : W.heap[g]? = some (.cells cs t fr)) : W.shape? g = some (t, cs.size) := by simp [World.shape?, h]
/-- the cells of a row of the call's own, read through a slice of it -/
theorem cur_cells {W : World} {g t : Nat} {cur cs : List Value} (hg : W.heap[g]? = some (.cells cur.toArray t (0, 0))) (off : Nat) (h : ∀ j v, cs[j]? = some v → cur[off + j]? = some v) : ∀ j v, cs[j]? = some v → W.cell? ((⟨g, off, none⟩ : Addr).add j) = some v := by
  intro j v hj
  rw [Addr.add_lit, cell_of_row W g (off + j) _ t (0, 0) hg]
  simpa using h j v hj
theorem drop_cells {cur : List Value} {l : List S77} {i : Nat} (ht : cur.take (l.length * 22) = cellsL l) : ∀ j v, (cellsL (l.drop i))[j]? = some v → cur[i * 22 + j]? = some v := by
  intro j v hj
  rw [cellsL_drop, List.getElem?_drop, ← ht, List.getElem?_take] at hj
  split at hj
  · exact hj
  · cases hj
end Go.Proofs.Ytalncokpbgbccaa.E

/- slices.Insert of one entry into a row of the call's own. -/
namespace Go.Proofs.Ytalncokpbgbccaa.E
set_option linter.unusedVariables false
set_option linter.unusedSimpArgs false
open Go.RowKit Go.Proofs.YtalncokpbgbccaaW.PrintWords Go.Proofs.YtalncokpbgbccaaW.PrintLast Go.Proofs.YtalncokpbgbccaaW.PrintMore
theorem slice_to (g n c m : Nat) (h : m ≤ c) (W : World) : (Instr.slice 22 (.slice (some ⟨g, 0, none⟩) n c) none (some (.int .i64 (m : Int))) none).run Try.prog W = .ok (.slice (some ⟨g, 0, none⟩) m c) W := by
  have hu : Try.prog.underlying 22 = some (.slice (Try.prog.elem 22)) := by
    have hel : Try.prog.elem 22 = 77 := by simp [Program.elem, Try.underlying22]
    rw [hel]; exact Try.underlying22
  have hel : Try.prog.elem 22 = 77 := by simp [Program.elem, Try.underlying22]
  rw [run_slice_h W 22 (some ⟨g, 0, none⟩) n c hu .i64 (m : Int) (by omega) (by omega), hel, sizeOf77]
  simp [Result.andThen, sliced, Addr.add]
theorem slice_from (g n c i : Nat) (h : i ≤ n) (hc : i < c) (W : World) : (Instr.slice 22 (.slice (some ⟨g, 0, none⟩) n c) (some (.int .i64 (i : Int))) none none).run Try.prog W = .ok (.slice (some ⟨g, i * 22, none⟩) (n - i) (c - i)) W := by
  have hu : Try.prog.underlying 22 = some (.slice (Try.prog.elem 22)) := by
    have hel : Try.prog.elem 22 = 77 := by simp [Program.elem, Try.underlying22]
    rw [hel]; exact Try.underlying22
  have hel : Try.prog.elem 22 = 77 := by simp [Program.elem, Try.underlying22]
  have hne : ¬ (c = i) := by omega
  rw [run_slice_l W 22 (some ⟨g, 0, none⟩) n c hu .i64 (i : Int) (by omega) (by omega), hel, sizeOf77]
  simp [Result.andThen, sliced, Addr.add, hne]
  try omega
theorem no_overlap {W : World} {g ge c ce : Nat} {cur cue : List Value} (hg : W.heap[g]? = some (.cells cur.toArray 77 (0, 0))) (he : W.heap[ge]? = some (.cells cue.toArray 77 (0, 0))) (hne : ge ≠ g) (hl : cur.length ≠ 0) (off lb cb : Nat) :
    (callFunc 97 #[.slice (some ⟨ge, 0, none⟩) 1 ce, .slice (some ⟨g, off, none⟩) lb cb]).run Try.prog W = .ok (.value (.bool false)) W := by
  rw [run_callFunc_extern Try.func97 (by kernel_rfl) (by kernel_rfl) (by kernel_rfl) (e := Extern.SlicesOverlaps.overlaps #[22, 22] #[4]) (by kernel_rfl),
    Lib.run_overlaps_apart W 22 4 77 Try.underlying22 22 sizeOf77 ⟨ge, 0, none⟩ ⟨g, off, none⟩ 1 ce lb cb hne 77 77 cue.toArray.size cur.toArray.size (shape_blk he) (shape_blk hg) (by simpa using hl) (blk_frozen he 0) (blk_frozen he _)]
  rfl
set_option maxRecDepth 1000000 in
set_option maxHeartbeats 8000000 in
theorem insert_shift (l : List S77) (x : S77) (i g c ge ce : Nat) (w : World) (base base2 : Nat) (hv : Ow w base (.slice (some ⟨g, 0, none⟩) l.length c) l) (he : Ow w base2 (.slice (some ⟨ge, 0, none⟩) 1 ce) [x]) (hne : ge ≠ g) (hi : i < l.length) (hroom : l.length + 1 ≤ c) (hb : base ≤ w.heap.size) (hl : l.length ≤ 1000000) :
    Calls Try.prog 82 #[.slice (some ⟨g, 0, none⟩) l.length c, .int .i64 i, .slice (some ⟨ge, 0, none⟩) 1 ce] w fun e w' => ∃ v', e = .returned v' ∧ Ow w' base v' (l.take i ++ [x] ++ l.drop i) ∧ Below base w w' := by
  obtain ⟨hbg, hx0, hlc, hcm, cur, hg, hcl, hct⟩ := ow_open hv
  clear hx0
  obtain ⟨hbe, hx0, hx1, hx2, cue, hge, hel, het⟩ := ow_open he
  clear hx0 hx1 hx2
  have hcx := c_cells (ow_readsC he)
  have hov := fun off lb cb => no_overlap (ce := ce) (c := c) hg hge hne (by rw [hcl]; omega) off lb cb
  have hB : (cellsL (l.drop i)).length = (l.length - i) * 22 := by rw [cellsL_length, List.length_drop]
  have hX : (cellsL [x]).length = 22 := by rw [cellsL_length]; rfl
  have hmin1 : Nat.min (l.length + 1 - i) (l.length + 1 - (i + 1)) = l.length - i := by simp only [Nat.min_def]; split <;> omega
  have hmin2 : Nat.min 1 (l.length + 1 - i) = 1 := by simp only [Nat.min_def]; split <;> omega
  have hfit1 : (i + 1) * 22 + (cellsL (l.drop i)).length ≤ cur.length := by rw [hB, hcl]; omega
  obtain ⟨cur1, hcur1⟩ : ∃ c1, splice cur ((i + 1) * 22) (cellsL (l.drop i)) = c1 := ⟨_, rfl⟩
  have hcur1l : cur1.length = c * 22 := by rw [← hcur1, length_splice _ _ _ hfit1]; exact hcl
  have hfit2 : i * 22 + (cellsL [x]).length ≤ cur1.length := by rw [hX, hcur1l]; omega
  obtain ⟨W1, hW1⟩ : ∃ W1, w.drew.setRow g cur1.toArray = W1 := ⟨_, rfl⟩
  have hcp1 : ∀ ty, (Builtin.copy_ #[22, 22] ty #[.slice (some ⟨g, (i + 1) * 22, none⟩) (l.length + 1 - (i + 1)) (c - (i + 1)), .slice (some ⟨g, i * 22, none⟩) (l.length + 1 - i) (c - i)]).run Try.prog w.drew = .ok (goInt ((l.length - i : Nat) : Int)) W1 := fun ty => by
    rw [← hW1, ← hcur1]
    exact run_copy22 w.drew ty g ((i + 1) * 22) (l.length + 1 - (i + 1)) (c - (i + 1)) ⟨g, i * 22, none⟩ (l.length + 1 - i) (c - i) cur 77 (blk_drew hg) (cellsL (l.drop i)) (l.length - i) hmin1 hB (cur_cells (blk_drew hg) _ (drop_cells hct)) hfit1 (cellsL_one _)
  have hg1 : W1.heap[g]? = some (.cells cur1.toArray 77 (0, 0)) := by rw [← hW1]; exact setRow_heap _ _ _ _ _ _ (blk_drew hg)
  have hge1 : W1.heap[ge]? = some (.cells cue.toArray 77 (0, 0)) := by rw [← hW1]; exact (setRow_other _ _ _ _ hne).trans (blk_drew hge)
  obtain ⟨cur2, hcur2⟩ : ∃ c1, splice cur1 (i * 22) (cellsL [x]) = c1 := ⟨_, rfl⟩
  obtain ⟨W2, hW2⟩ : ∃ W2, W1.setRow g cur2.toArray = W2 := ⟨_, rfl⟩
  have hcp2 : ∀ ty, (Builtin.copy_ #[22, 22] ty #[.slice (some ⟨g, i * 22, none⟩) (l.length + 1 - i) (c - i), .slice (some ⟨ge, 0, none⟩) 1 ce]).run Try.prog W1 = .ok (goInt 1) W2 := fun ty => by
    rw [← hW2, ← hcur2]
    refine run_copy22 W1 ty g (i * 22) (l.length + 1 - i) (c - i) ⟨ge, 0, none⟩ 1 ce cur1 77 hg1 (cellsL [x]) 1 hmin2 hX (cur_cells hge1 0 (fun j v hj => ?_)) hfit2 (cellsL_one _)
    rw [← het, List.getElem?_take] at hj
    split at hj
    · rw [Nat.zero_add]; exact hj
    · cases hj
  have HFIN := Aside0.mk (show Ow W2 base (.slice (some ⟨g, 0, none⟩) (l.length + 1) c) (l.take i ++ [x] ++ l.drop i) ∧ Below base w W2 by
    have hlen : (l.take i ++ [x] ++ l.drop i).length = l.length + 1 := by simp; omega
    refine ⟨?_, ?_⟩
    · have e2 : cur2 = cur.take (i * 22) ++ (cellsL [x] ++ (cellsL (l.drop i) ++ cur.drop ((i + 1) * 22 + (cellsL (l.drop i)).length))) := by
        rw [← hcur2, ← hcur1]; exact splice_shift cur (cellsL [x]) (cellsL (l.drop i)) _ _ (by rw [hX]; omega) hfit1
      have h3 : cur.take (i * 22) = cellsL (l.take i) := by
        rw [cellsL_take, ← hct, List.take_take, Nat.min_eq_left (by omega)]
      have h4 : cur2 = cellsL (l.take i ++ [x] ++ l.drop i) ++ cur.drop ((i + 1) * 22 + (cellsL (l.drop i)).length) := by
        rw [e2, h3, cellsL_append, cellsL_append, List.append_assoc, List.append_assoc]
      have h5 := ow_shut (W := W2) (base := base) (g := g) (c := c) (l := l.take i ++ [x] ++ l.drop i) (cur := cur2) hbg (by rw [hlen]; exact hroom) hcm (by rw [← hW2]; exact setRow_heap _ _ _ _ _ _ hg1)
        (by rw [← hcur2, length_splice _ _ _ hfit2]; exact hcur1l) (by rw [h4, ← cellsL_length]; exact List.take_left)
      rw [hlen] at h5
      exact h5
    · rw [← hW2, ← hW1]
      exact below_setRow (below_setRow (below_drew1 (Below.refl _ _)) hbg _) hbg _)
  have c1 := slice_from g l.length c i (by omega) (by omega)
  have c2 := slice_to g l.length c (l.length + 1) hroom
  have c3 := slice_from g (l.length + 1) c (i + 1) (by omega) (by omega)
  have c4 := slice_from g (l.length + 1) c i (by omega) (by omega)
  rw [show (((l.length + 1 : Nat) : Int)) = (l.length : Int) + 1 from by omega] at c2
  rw [show (((i + 1 : Nat) : Int)) = (i : Int) + 1 from by omega] at c3
  have k1 : ((i : Int) == (l.length : Int)) = false := beq_eq_false_iff_ne.mpr (by omega)
  have k2 : decide ((l.length : Int) + 1 > (c : Int)) = false := decide_eq_false (by omega)
  have k3 : decide ((c : Int) < (l.length : Int) + 1) = false := decide_eq_false (by omega)
  have v3 : (0 : Int) ≤ (i : Int) + 1 := by omega
  have v4 : ((i : Int) + 1).toNat = i + 1 := by omega
  have v5 : ¬ (c = i + 1) := by omega
  have v6 : ¬ (c = i) := by omega
  have v7 : (i : Int) ≤ (l.length : Int) + 1 := by omega
  have v8 : (i : Int) + 1 ≤ (l.length : Int) + 1 := by omega
  have mixed : Try.prog.follows .mixedOrders = true := by kernel_rfl
  have hi6 : i ≤ 1000000 := by omega
  have v2 : IntKind.i64.wrap ((i : Int) + 1) = (i : Int) + 1 := by rw [IntKind.wrap_i64]; omega
  have w1 := w_succ l.length hl
  have w2 := w_succ i hi6
  clear hmin1 hmin2 hfit1 hfit2
  clear hv he hbg hlc hcm hg hcl hct hbe hge hel het hcx hB hX hcur1 hcur1l hW1 hg1 hge1 hcur2 hW2 hne hi hroom hb hl
  go_enter Try.func82, Try.ntmps82
  go_wp2_with fail
  go_region_law_o (refine step_copy_runI rfl _ _ 22 22 rfl _ _ (by simp [Act.eval, Act.put]) (by simp [Act.eval, Act.put]) (hcp1 _) ?_)
  go_wp2_with (at_builtin; refine wpList_copy_runI _ rfl _ _ 22 22 rfl _ _ rfl rfl (hcp2 _) ?_)
  go_ret
  exact ⟨_, rfl, HFIN.out.1, HFIN.out.2⟩
end Go.Proofs.Ytalncokpbgbccaa.E

/- slices.Insert of one entry behind a row, and into a full one. -/
namespace Go.Proofs.Ytalncokpbgbccaa.E
set_option linter.unusedVariables false
set_option linter.unusedSimpArgs false
open Go.RowKit Go.Proofs.YtalncokpbgbccaaW.PrintWords Go.Proofs.YtalncokpbgbccaaW.PrintLast Go.Proofs.YtalncokpbgbccaaW.PrintMore
set_option maxRecDepth 1000000 in
set_option maxHeartbeats 8000000 in
theorem insert_end (l : List S77) (x : S77) (v : Value) (ge ce : Nat) (w : World) (base base2 : Nat) (hv : Ow w base v l) (he : Ow w base2 (.slice (some ⟨ge, 0, none⟩) 1 ce) [x]) (hb : base ≤ w.heap.size) (hl : l.length ≤ 1000000) :
    Calls Try.prog 82 #[v, .int .i64 l.length, .slice (some ⟨ge, 0, none⟩) 1 ce] w fun e w' => ∃ v', e = .returned v' ∧ Ow w' base v' (l ++ [x]) ∧ Below base w w' := by
  obtain ⟨A, c, rfl⟩ := Kd.R_slice hv
  obtain ⟨i77, hi77, hsz⟩ := info77'
  have hcv0 := cut_from (P := Try.prog) 22 77 .i64 Try.underlying22 hi77 22 hsz A l.length c (l.length : Int) (by omega) (by omega)
  rw [Int.toNat_natCast] at hcv0
  generalize (if c = l.length then A else A.map (·.add (l.length * 22))) = A2 at hcv0
  have HO := Aside0.mk hv
  have HE := Aside0.mk (ow_readsC he)
  have HBS := Aside0.mk hb
  have HXL := Aside0.mk (show (l.length + 1) * 80 ≤ 140737488355328 by omega)
  clear hv he hb hi77 hsz hl
  go_enter Try.func82, Try.ntmps82
  go_wp2_with (first
    | ((with_reducible refine gate_builtin (b := .append) (xs := #[.tmp 23, .tmp 24]) rfl ?_); at_builtin; refine Kd.R_append_rows k77 (w0 := w) base rfl (.tmp 23) (.tmp 24) 22 77 (.agg #[(.string ⟨#[]⟩), (.string ⟨#[]⟩), (.int .i64 0), (.int .i64 0), (.int .i64 0), (.int .i64 0), (.int .u8 0), (.int .u8 0), (.int .u8 0), (.int .u8 0), (.int .u8 0), (.int .u8 0), (.int .u8 0), (.int .u8 0), (.int .u8 0), (.int .u8 0), (.int .u8 0), (.int .u8 0), (.int .u8 0), (.int .u8 0), (.int .u8 0), (.int .u8 0)]) 80 rfl Try.underlying22 info77 rfl (by decide) (by omega) (.slice A l.length c) l [x] _ _ _ (fun _ => True) (fun _ => False) rfl rfl ?aO ?aR (fun _ _ h => h) (fun _ h => h.elim) ?aF ?aB ?aS ?aL ?_; (case aR => exact HE.out); (case aB => exact Below.refl _ _); (case aF => exact (fun _ _ => trivial)); (case aO => exact HO.out); (case aS => exact HBS.out); (case aL => exact HXL.out); intro vB w2 ho hb hg hat; have HB2 := Aside0.mk hb; have HO2 := Aside0.mk ho; clear ho hb hg hat))
  go_ret
  exact ⟨_, rfl, HO2.out, HB2.out⟩
theorem run_append_zeros22 (w : World) (g i m c : Nat) (cur : List Value) (l : List S77) (hg : w.heap[g]? = some (.cells cur.toArray 77 (0, 0))) (hl : l.length = i) (ht : cur.take (i * 22) = cellsL l) (h0 : 0 < m) (hgr : c < i + m) (hsz : i + m ≤ 2000000) :
    ∃ (G : Nat) (cur2 : List Value), (∀ ty, (Builtin.append_ #[22, 3] ty #[.slice (some ⟨g, 0, none⟩) i c, .int .i64 (m : Int)]).run Try.prog w = .ok (.slice (some ⟨w.heap.size, 0, none⟩) (i + m) G) (w.drew.alloc (.cells cur2.toArray 77 (0, 0)))) ∧ i + m ≤ G ∧ G ≤ maxLen ∧ cur2.length = G * 22 ∧ cur2.take (i * 22) = cellsL l := by
  obtain ⟨i0, hi, hz, hs, hb⟩ := info_parts info77
  have hold : (Builtin.firstCells i0.size i (.slice (some ⟨g, 0, none⟩) i c)).run Try.prog w.drew = .ok (cellsL l).toArray w.drew := by
    have hs' : i0.size = 22 := hs
    rw [hs']
    refine run_firstCells_some w.drew 22 i ⟨g, 0, none⟩ i c (cellsL l) (by rw [cellsL_length, hl]) (cur_cells (blk_drew hg) 0 (fun j v hj => ?_))
    rw [← ht, List.getElem?_take] at hj
    split at hj
    · rw [Nat.zero_add]; exact hj
    · cases hj
  have hs' : i0.size = 22 := hs
  have hb' : i0.bytes = 80 := hb
  have hfit : Builtin.nextslicecap (i + m) c * i0.bytes ≤ 281474976710656 := growslice_fits hgr (by rw [hb']; omega)
  obtain ⟨z, hzz, hzc⟩ : ∃ z, i0.zero = some z ∧ z.cells.size = 22 := ⟨_, hz, rfl⟩
  have h := fun ty => Lib.run_append_grow_zeros w 22 3 ty 77 i0 z .i64 .i64 Try.underlying22 Try.underlying3 hi hzz (some ⟨g, 0, none⟩) i c (cellsL l) hold m h0 (by omega) hgr (by omega) (by rw [hb']; omega) hfit
  have hge := grownCap_ge w (i + m) c 77
  have hcm := grownCap_le_maxLen w (i + m) c 77 (by unfold maxLen; omega)
  generalize grownCap w (i + m) c 77 = G at h hge hcm
  refine ⟨G, cellsL l ++ (Builtin.zeroCells z.cells m).toList ++ (Builtin.zeroCells z.cells (G - (i + m))).toList, ?_, hge, hcm, ?_, ?_⟩
  · have e : ∀ (a : List Value) (b c : Array Value), (a ++ b.toList ++ c.toList).toArray = a.toArray ++ b ++ c := fun a b c => by apply Array.ext'; simp
    intro ty
    rw [e]
    exact h ty
  · simp only [List.length_append, Array.length_toList, size_zeroCells, cellsL_length, hl, hzc]
    rw [← Nat.add_mul, ← Nat.add_mul, show i + m + (G - (i + m)) = G by omega]
  · rw [List.append_assoc, show i * 22 = (cellsL l).length by rw [cellsL_length, hl]]
    exact List.take_left
set_option maxRecDepth 1000000 in
set_option maxHeartbeats 8000000 in
theorem insert_grow (l : List S77) (x : S77) (i g c ge ce : Nat) (w : World) (base base2 : Nat) (hv : Ow w base (.slice (some ⟨g, 0, none⟩) l.length c) l) (he : Ow w base2 (.slice (some ⟨ge, 0, none⟩) 1 ce) [x]) (hi : i < l.length) (hroom : c < l.length + 1) (hb : base ≤ w.heap.size) (hl : l.length ≤ 1000000) :
    Calls Try.prog 82 #[.slice (some ⟨g, 0, none⟩) l.length c, .int .i64 i, .slice (some ⟨ge, 0, none⟩) 1 ce] w fun e w' => ∃ v', e = .returned v' ∧ Ow w' base v' (l.take i ++ [x] ++ l.drop i) ∧ Below base w w' := by
  obtain ⟨hbg, hx0, hlc, hcm, cur, hg, hcl, hct⟩ := ow_open hv
  clear hx0
  obtain ⟨hbe, hx0, hx1, hx2, cue, hge, hel, het⟩ := ow_open he
  clear hx0 hx1 hx2
  have hgl := blk_lt hg
  have hgel := blk_lt hge
  have hB : (cellsL (l.drop i)).length = (l.length - i) * 22 := by rw [cellsL_length, List.length_drop]
  have hX : (cellsL [x]).length = 22 := by rw [cellsL_length]; rfl
  have htk : cur.take (i * 22) = cellsL (l.take i) := by rw [cellsL_take, ← hct, List.take_take, Nat.min_eq_left (by omega)]
  obtain ⟨G, cur2, hrz0, hG, hGm, hc2l, hc2t⟩ := run_append_zeros22 w g i (l.length + 1 - i) c cur (l.take i) hg (by rw [List.length_take]; omega) htk (by omega) (by omega) (by omega)
  have hrz : ∀ ty, (Builtin.append_ #[22, 3] ty #[.slice (some ⟨g, 0, none⟩) i c, .int .i64 ((l.length + 1 - i : Nat) : Int)]).run Try.prog w = .ok (.slice (some ⟨w.heap.size, 0, none⟩) (l.length + 1) G) (w.drew.alloc (.cells cur2.toArray 77 (0, 0))) := fun ty => by
    have h := hrz0 ty
    rw [show i + (l.length + 1 - i) = l.length + 1 by omega] at h
    exact h
  rw [show i + (l.length + 1 - i) = l.length + 1 by omega] at hG
  clear hrz0
  obtain ⟨gn, hh⟩ : ∃ gn, w.heap.size = gn := ⟨_, rfl⟩
  have hgW : (w.drew.alloc (.cells cur2.toArray 77 (0, 0))).heap[gn]? = some (.cells cur2.toArray 77 (0, 0)) := by rw [← hh]; exact blk_new w.drew _
  have hgo : (w.drew.alloc (.cells cur2.toArray 77 (0, 0))).heap[g]? = some (.cells cur.toArray 77 (0, 0)) := blk_alloc (blk_drew hg) _
  have hgeo : (w.drew.alloc (.cells cur2.toArray 77 (0, 0))).heap[ge]? = some (.cells cue.toArray 77 (0, 0)) := blk_alloc (blk_drew hge) _
  have HB1 := Aside0.mk (show Below base w (w.drew.alloc (.cells cur2.toArray 77 (0, 0))) from (below_drew1 (Below.refl base w)).alloc hb _)
  rw [hh] at hrz
  obtain ⟨W1, hW1⟩ : ∃ W1, w.drew.alloc (.cells cur2.toArray 77 (0, 0)) = W1 := ⟨_, rfl⟩
  rw [hW1] at hrz hgW hgo hgeo HB1
  clear hW1
  have hmin1 : Nat.min 1 (l.length + 1 - i) = 1 := by simp only [Nat.min_def]; split <;> omega
  have hmin2 : Nat.min (l.length - i) (l.length + 1 - (i + 1)) = l.length - i := by simp only [Nat.min_def]; split <;> omega
  have hfit1 : i * 22 + (cellsL [x]).length ≤ cur2.length := by rw [hX, hc2l]; omega
  obtain ⟨cur3, hcur3⟩ : ∃ c1, splice cur2 (i * 22) (cellsL [x]) = c1 := ⟨_, rfl⟩
  have hcur3l : cur3.length = G * 22 := by rw [← hcur3, length_splice _ _ _ hfit1]; exact hc2l
  have hfit2 : (i + 1) * 22 + (cellsL (l.drop i)).length ≤ cur3.length := by rw [hB, hcur3l]; omega
  obtain ⟨W2, hW2⟩ : ∃ W2, W1.setRow gn cur3.toArray = W2 := ⟨_, rfl⟩
  have hcp1 : ∀ ty, (Builtin.copy_ #[22, 22] ty #[.slice (some ⟨gn, i * 22, none⟩) (l.length + 1 - i) (G - i), .slice (some ⟨ge, 0, none⟩) 1 ce]).run Try.prog W1 = .ok (goInt 1) W2 := fun ty => by
    rw [← hW2, ← hcur3]
    refine run_copy22 W1 ty gn (i * 22) (l.length + 1 - i) (G - i) ⟨ge, 0, none⟩ 1 ce cur2 77 hgW (cellsL [x]) 1 hmin1 hX (cur_cells hgeo 0 (fun j v hj => ?_)) hfit1 (cellsL_one _)
    rw [← het, List.getElem?_take] at hj
    split at hj
    · rw [Nat.zero_add]; exact hj
    · cases hj
  have hgW2 : W2.heap[gn]? = some (.cells cur3.toArray 77 (0, 0)) := by rw [← hW2]; exact setRow_heap _ _ _ _ _ _ hgW
  have hgo2 : W2.heap[g]? = some (.cells cur.toArray 77 (0, 0)) := by rw [← hW2]; exact (setRow_other _ _ _ _ (by omega)).trans hgo
  obtain ⟨cur4, hcur4⟩ : ∃ c1, splice cur3 ((i + 1) * 22) (cellsL (l.drop i)) = c1 := ⟨_, rfl⟩
  obtain ⟨W3, hW3⟩ : ∃ W3, W2.drew.setRow gn cur4.toArray = W3 := ⟨_, rfl⟩
  have hcp2 : ∀ ty, (Builtin.copy_ #[22, 22] ty #[.slice (some ⟨gn, (i + 1) * 22, none⟩) (l.length + 1 - (i + 1)) (G - (i + 1)), .slice (some ⟨g, i * 22, none⟩) (l.length - i) (c - i)]).run Try.prog W2.drew = .ok (goInt ((l.length - i : Nat) : Int)) W3 := fun ty => by
    rw [← hW3, ← hcur4]
    exact run_copy22 W2.drew ty gn ((i + 1) * 22) (l.length + 1 - (i + 1)) (G - (i + 1)) ⟨g, i * 22, none⟩ (l.length - i) (c - i) cur3 77 (blk_drew hgW2) (cellsL (l.drop i)) (l.length - i) hmin2 hB (cur_cells (blk_drew hgo2) _ (drop_cells hct)) hfit2 (cellsL_one _)
  have HFIN := Aside0.mk (show Ow W3 base (.slice (some ⟨gn, 0, none⟩) (l.length + 1) G) (l.take i ++ [x] ++ l.drop i) ∧ Below base w W3 by
    have hlen : (l.take i ++ [x] ++ l.drop i).length = l.length + 1 := by simp; omega
    have hbh : base ≤ gn := by omega
    refine ⟨?_, ?_⟩
    · have e2 : cur4 = cur2.take (i * 22) ++ (cellsL [x] ++ (cellsL (l.drop i) ++ cur2.drop ((i + 1) * 22 + (cellsL (l.drop i)).length))) := by
        rw [← hcur4, ← hcur3]
        exact splice_behind cur2 (cellsL [x]) (cellsL (l.drop i)) _ _ (by rw [hX]; omega) (by rw [hB, hc2l]; omega)
      have h4 : cur4 = cellsL (l.take i ++ [x] ++ l.drop i) ++ cur2.drop ((i + 1) * 22 + (cellsL (l.drop i)).length) := by
        rw [e2, hc2t, cellsL_append, cellsL_append, List.append_assoc, List.append_assoc]
      have h5 := ow_shut (W := W3) (base := base) (g := gn) (c := G) (l := l.take i ++ [x] ++ l.drop i) (cur := cur4) hbh (by rw [hlen]; exact hG) hGm (by rw [← hW3]; exact setRow_heap _ _ _ _ _ _ (blk_drew hgW2))
        (by rw [← hcur4, length_splice _ _ _ hfit2]; exact hcur3l) (by rw [h4, ← cellsL_length]; exact List.take_left)
      rw [hlen] at h5
      exact h5
    · rw [← hW3, ← hW2]
      exact below_setRow (below_drew1 (below_setRow HB1.out hbh _)) hbh _)
  have c1 := slice_from g l.length c i (by omega) (by omega)
  have c2 := slice_to g l.length c i (by omega)
  have c3 := slice_from gn (l.length + 1) G i (by omega) (by omega)
  have c4 := slice_from gn (l.length + 1) G (i + 1) (by omega) (by omega)
  rw [show (((i + 1 : Nat) : Int)) = (i : Int) + 1 from by omega] at c4
  have v3 : (0 : Int) ≤ (i : Int) + 1 := by omega
  have v4 : ((i : Int) + 1).toNat = i + 1 := by omega
  have v5 : ¬ (G = i + 1) := by omega
  have v6 : ¬ (c = i) := by omega
  have v7 : (i : Int) ≤ (l.length : Int) := by omega
  have v8 : (i : Int) + 1 ≤ (l.length : Int) + 1 := by omega
  have mixed : Try.prog.follows .mixedOrders = true := by kernel_rfl
  have k1 : ((i : Int) == (l.length : Int)) = false := beq_eq_false_iff_ne.mpr (by omega)
  have k2 : decide ((l.length : Int) + 1 > (c : Int)) = true := decide_eq_true (by omega)
  have k3 : decide ((c : Int) < (l.length : Int) + 1) = true := decide_eq_true (by omega)
  have hi6 : i ≤ 1000000 := by omega
  have w3 : wrap64 ((l.length : Int) + 1 - (i : Int)) = ((l.length + 1 - i : Nat) : Int) := by rw [w64 _ (by omega) (by omega)]; omega
  have v2 : IntKind.i64.wrap ((i : Int) + 1) = (i : Int) + 1 := by rw [IntKind.wrap_i64]; clear w3; omega
  obtain ⟨m, hm⟩ : ∃ m, ((l.length + 1 - i : Nat) : Int) = m := ⟨_, rfl⟩
  rw [hm] at hrz w3
  clear hm
  have w1 := w_succ l.length hl
  have w2 := w_succ i hi6
  clear hmin1 hmin2 hfit1 hfit2
  clear hv he hbg hlc hcm hg hcl hct hbe hge hel het hB hX htk hG hGm hc2l hc2t hh hgW hgo hgeo hcur3 hcur3l hW2 hgW2 hgo2 hcur4 hW3 hi hroom hb hl HB1 hgl hgel
  go_enter Try.func82, Try.ntmps82
  go_wp2_with (first
    | (at_builtin; refine Lib.wpList_append_run w rfl (.tmp 34) (.tmp 39) 22 3 rfl (.slice (some ⟨g, 0, none⟩) i c) (.int .i64 m) rfl (congrArg (Value.int .i64) w3) (.slice (some ⟨gn, 0, none⟩) (l.length + 1) G) W1 (hrz _) ?_)
    | (at_builtin; refine wpList_copy_runI _ rfl _ _ 22 22 rfl _ _ rfl rfl (hcp1 _) ?_))
  go_region_law_o (refine step_copy_runI rfl _ _ 22 22 rfl _ _ (by simp [Act.eval, Act.put]) (by simp [Act.eval, Act.put]) (hcp2 _) ?_)
  go_wp2_with fail
  go_ret
  exact ⟨_, rfl, HFIN.out.1, HFIN.out.2⟩
end Go.Proofs.Ytalncokpbgbccaa.E

