-- A slim copy of YD, YE, YF, written by wip/tools/prune2.py.
import Derived.Test.YtalncokpbgbccaaKTC
import Derived.Test.YtalncokpbgbccaaKYA
/- slices.Insert as one contract; slices.Delete of one entry of a row of the call's own. -/
namespace Go.Proofs.Ytalncokpbgbccaa.E
set_option linter.unusedVariables false
set_option linter.unusedSimpArgs false
open Go.RowKit Go.Proofs.YtalncokpbgbccaaW.PrintWords Go.Proofs.YtalncokpbgbccaaW.PrintLast Go.Proofs.YtalncokpbgbccaaW.PrintMore
theorem insert_c (l : List S77) (x : S77) (i ge ce : Nat) (v : Value) (w : World) (base base2 : Nat) (hv : Ow w base v l) (he : Ow w base2 (.slice (some ⟨ge, 0, none⟩) 1 ce) [x]) (hne : v.ownBlock ≠ some ge) (hi : i ≤ l.length) (hb : base ≤ w.heap.size) (hl : l.length ≤ 1000000) :
    Calls Try.prog 82 #[v, .int .i64 i, .slice (some ⟨ge, 0, none⟩) 1 ce] w fun e w' => ∃ v', e = .returned v' ∧ Ow w' base v' (l.take i ++ [x] ++ l.drop i) ∧ Below base w w' := by
  by_cases h : i = l.length
  · subst h
    rw [List.take_length, List.drop_length, List.append_nil]
    exact insert_end l x v ge ce w base base2 hv he hb hl
  · obtain ⟨g, c, rfl, _, _⟩ := ow_addr hv (by omega)
    by_cases hr : l.length + 1 ≤ c
    · exact insert_shift l x i g c ge ce w base base2 hv he (fun e => hne (by rw [e]; rfl)) (by omega) hr hb hl
    · exact insert_grow l x i g c ge ce w base base2 hv he (by omega) (by omega) hb hl
section
variable {P : Program}
theorem step_append_runI {ops : Array Oper} {o : Oper} {a : Act} {w : World} {K : Act → World → Prop} {Q : Exit → Act → World → Prop} {E : Prop}
    (hg : o.guard = none) (d x : Operand) (dT sT : TypeId) (hop : o.op = Op.call { callee := Callee.builtin Builtin.append, args := #[d, x], argTypes := #[dT, sT] })
    (v u : Value) (hd : a.eval d = v) (hx : a.eval x = u) {v' : Value} {w' : World} (hr : (Builtin.append_ #[dT, sT] o.type #[v, u]).run P w = .ok v' w') (hK : K (a.put o.dst v') w') :
    if Region.wanted o (yielded ops a.tmps) = true then Oper.wp P o a w K Q else E := by
  have hw : Region.wanted o (yielded ops a.tmps) = true := by simp [Region.wanted, hg]
  rw [if_pos hw]
  unfold Oper.wp
  simp [execOp, hop, resolve, invoke, builtin, hd, hx, hr, Result.andThen]
  exact hK
theorem wp_clear_runI (w : World) {o : Oper} {a : Act} {K : Act → World → Prop} {Q : Exit → Act → World → Prop} (d : Operand) (t : TypeId)
    (ho : o.op = .call { callee := .builtin .clear, args := #[d], argTypes := #[t] }) (v : Value) (hd : a.eval d = v) {v' : Value} {w' : World}
    (hr : (Builtin.clear_ #[t] o.type #[v]).run P w = .ok v' w') (h : K (a.put o.dst v') w') : o.wp P a w K Q := by
  unfold Oper.wp execOp
  simp only [ho, resolve, invoke, builtin, Sem.run_bind, Sem.run_pure, Result.andThen_ok, List.map_toArray, List.map_cons, List.map_nil, hd, hr]
  exact h
theorem wpList_clear_runI (w : World) {ops : Array Oper} {rest : List Oper} {o : Oper} {a : Act} {Q : Exit → Act → World → Prop} (hgd : o.guard = none) (d : Operand) (t : TypeId)
    (ho : o.op = .call { callee := .builtin .clear, args := #[d], argTypes := #[t] }) (v : Value) (hd : a.eval d = v) {v' : Value} {w' : World}
    (hr : (Builtin.clear_ #[t] o.type #[v]).run P w = .ok v' w') (h : wpList P ops Q rest (a.put o.dst v') w') : wpList P ops Q (o :: rest) a w :=
  wpList_plain hgd fun _ hK => wp_clear_runI w d t ho v hd hr (hK _ _ h)
end
theorem elem22 : Try.prog.elem 22 = 77 := by simp [Program.elem, Try.underlying22]
theorem under22 : Try.prog.underlying 22 = some (.slice (Try.prog.elem 22)) := by rw [elem22]; exact Try.underlying22
/-- s[i:], wherever i lies -/
theorem slice_any (g n c i : Nat) (h : i ≤ n) (hc : n ≤ c) : ∃ off, (i < n → off = i * 22) ∧ ∀ W : World, (Instr.slice 22 (.slice (some ⟨g, 0, none⟩) n c) (some (.int .i64 (i : Int))) none none).run Try.prog W = .ok (.slice (some ⟨g, off, none⟩) (n - i) (c - i)) W := by
  by_cases hh : c = i
  · refine ⟨0, fun h => by omega, fun W => ?_⟩
    rw [run_slice_l W 22 (some ⟨g, 0, none⟩) n c under22 .i64 (i : Int) (by omega) (by omega), elem22, sizeOf77]
    simp [Result.andThen, sliced, hh]
  · exact ⟨i * 22, fun _ => rfl, slice_from g n c i h (by omega)⟩
theorem slice_mid (g n c i j : Nat) (h : i ≤ j) (hj : j ≤ c) (hc : i < c) (W : World) : (Instr.slice 22 (.slice (some ⟨g, 0, none⟩) n c) (some (.int .i64 (i : Int))) (some (.int .i64 (j : Int))) none).run Try.prog W = .ok (.slice (some ⟨g, i * 22, none⟩) (j - i) (c - i)) W := by
  have hne : ¬ (c = i) := by omega
  rw [run_slice_lh W 22 (some ⟨g, 0, none⟩) n c under22 .i64 .i64 (i : Int) (j : Int) (by omega) (by omega) (by omega), elem22, sizeOf77]
  simp [Result.andThen, sliced, Addr.add, hne]
  try omega
theorem slice_cap (g n c i j m : Nat) (h : i ≤ j) (hj : j ≤ m) (hm : m ≤ c) (hc : i < m) (W : World) : (Instr.slice 22 (.slice (some ⟨g, 0, none⟩) n c) (some (.int .i64 (i : Int))) (some (.int .i64 (j : Int))) (some (.int .i64 (m : Int)))).run Try.prog W = .ok (.slice (some ⟨g, i * 22, none⟩) (j - i) (m - i)) W := by
  have hne : ¬ (m = i) := by omega
  rw [run_slice_lhm W 22 (some ⟨g, 0, none⟩) n c under22 .i64 .i64 .i64 (i : Int) (j : Int) (m : Int) (by omega) (by omega) (by omega) (by omega), elem22, sizeOf77]
  simp [Result.andThen, sliced, Addr.add, hne]
  try omega
theorem run_clear22 (W : World) (ty : TypeId) (g off c : Nat) (cur : List Value) (hg : W.heap[g]? = some (.cells cur.toArray 77 (0, 0))) (hfit : off + 22 ≤ cur.length) :
    ∃ zs : List Value, zs.length = 22 ∧ (Builtin.clear_ #[22] ty #[.slice (some ⟨g, off, none⟩) 1 c]).run Try.prog W = .ok (.tuple #[]) (W.setRow g (splice cur off zs).toArray) := by
  obtain ⟨z, hz, hzc⟩ : ∃ z : Value, (∀ W, (zeroValue 77).run Try.prog W = .ok z W) ∧ z.cells = entC z77 := by
    obtain ⟨i, hi, hz, hs, hb⟩ := info_parts info77
    exact ⟨_, fun W => by simp [zeroValue, typeInfo, hi, hz]; rfl, rfl⟩
  have h22 : z.cells.size = 22 := by rw [hzc]; rfl
  obtain ⟨zs, hzs⟩ : ∃ zs, (Builtin.zeroCells z.cells 1).toList = zs := ⟨_, rfl⟩
  have hl : zs.length = 22 := by rw [← hzs, Array.length_toList, size_zeroCells, h22]
  have h1 : ∀ v ∈ zs, v.oneCell' = true := by
    intro v hv
    rw [← hzs] at hv
    unfold Builtin.zeroCells at hv
    simp only [Array.toList_map, List.mem_map] at hv
    obtain ⟨j, hj, rfl⟩ := hv
    rw [hzc]
    have : (entC z77)[j % (entC z77).size]! ∈ entC z77 := by
      rw [getElem!_pos (entC z77) (j % (entC z77).size) (Nat.mod_lt _ (by decide))]
      exact Array.getElem_mem _
    exact (Array.all_eq_true_iff_forall_mem.1 (entC_one z77)) _ this
  have hst := run_storeCells_at Try.prog g off 77 zs 0 cur.toArray W hg (by rw [hl]; simpa using hfit) h1
  refine ⟨zs, hl, ?_⟩
  simp [Builtin.clear_, run_underlying Try.underlying22, hz, hzs, hst, splice]
end Go.Proofs.Ytalncokpbgbccaa.E

/- slices.Delete of one entry of a row of the call's own. -/
namespace Go.Proofs.Ytalncokpbgbccaa.E
set_option linter.unusedVariables false
set_option linter.unusedSimpArgs false
open Go.RowKit Go.Proofs.YtalncokpbgbccaaW.PrintWords Go.Proofs.YtalncokpbgbccaaW.PrintLast Go.Proofs.YtalncokpbgbccaaW.PrintMore
set_option maxRecDepth 1000000 in
set_option maxHeartbeats 8000000 in
theorem delete_c (l : List S77) (i : Nat) (v : Value) (w : World) (base : Nat) (hv : Ow w base v l) (hi : i < l.length) (hl : l.length ≤ 1000000) :
    Calls Try.prog 83 #[v, .int .i64 i, .int .i64 ((i : Int) + 1)] w fun e w' => ∃ v', e = .returned v' ∧ Ow w' base v' (l.take i ++ l.drop (i + 1)) ∧ Below base w w' := by
  obtain ⟨g, c, rfl, _, _⟩ := ow_addr hv (by omega)
  obtain ⟨hbg, hx0, hlc, hcm, cur, hg, hcl, hct⟩ := ow_open hv
  clear hx0
  obtain ⟨k, hk⟩ : ∃ k, l.length = k + 1 := ⟨l.length - 1, by omega⟩
  obtain ⟨i0, hi0, hz0, hs0, hb0⟩ := info_parts info77
  have hs' : i0.size = 22 := hs0
  have hB : (cellsL (l.drop (i + 1))).length = (l.length - (i + 1)) * 22 := by rw [cellsL_length, List.length_drop]
  obtain ⟨off, hoff, c3⟩ := slice_any g l.length c (i + 1) (by omega) hlc
  have hnews : ∀ j u, (cellsL (l.drop (i + 1)))[j]? = some u → w.drew.cell? ((⟨g, off, none⟩ : Addr).add j) = some u := by
    intro j u hj
    have hlt : i + 1 < l.length := by
      rcases Nat.lt_or_ge (i + 1) l.length with h | h
      · exact h
      · rw [List.drop_eq_nil_of_le h] at hj
        simp [cellsL] at hj
    rw [hoff hlt]
    exact cur_cells (blk_drew hg) _ (drop_cells hct) j u hj
  have hkk : i + (l.length - (i + 1)) = k := by omega
  have hfit1 : i * 22 + (cellsL (l.drop (i + 1))).length ≤ cur.length := by rw [hB, hcl]; omega
  obtain ⟨cur1, hcur1⟩ : ∃ c1, cur.take (i * 22) ++ cellsL (l.drop (i + 1)) ++ cur.drop (i * 22 + (cellsL (l.drop (i + 1))).length) = c1 := ⟨_, rfl⟩
  have hcur1l : cur1.length = c * 22 := by rw [← hcur1, List.length_append, List.length_append, List.length_take, List.length_drop, Nat.min_eq_left (by omega)]; omega
  obtain ⟨W1, hW1⟩ : ∃ W1, w.drew.setRow g cur1.toArray = W1 := ⟨_, rfl⟩
  have happ : ∀ ty, (Builtin.append_ #[22, 22] ty #[.slice (some ⟨g, 0, none⟩) i c, .slice (some ⟨g, off, none⟩) (l.length - (i + 1)) (c - (i + 1))]).run Try.prog w.drew = .ok (.slice (some ⟨g, 0, none⟩) k c) W1 := fun ty => by
    have h := run_append_room (P := Try.prog) w.drew 22 ty 77 i0 Try.underlying22 hi0 g i c cur.toArray (blk_drew hg) ⟨g, off, none⟩ (l.length - (i + 1)) (c - (i + 1)) (cellsL (l.drop (i + 1))) (by rw [hs', hB]) hnews (cellsL_one _) (by omega) (by rw [hs']; simpa using hfit1)
    rw [hs', hkk] at h
    rw [h, ← hW1, ← hcur1]
  have hg1 : W1.heap[g]? = some (.cells cur1.toArray 77 (0, 0)) := by rw [← hW1]; exact setRow_heap _ _ _ _ _ _ (blk_drew hg)
  obtain ⟨zs, hzl, _⟩ := run_clear22 W1 22 g (k * 22) (c - k) cur1 hg1 (by rw [hcur1l]; omega)
  have hclr : ∃ W2, (∀ ty, (Builtin.clear_ #[22] ty #[.slice (some ⟨g, k * 22, none⟩) 1 (c - k)]).run Try.prog W1 = .ok (.tuple #[]) W2) ∧ Ow W2 base (.slice (some ⟨g, 0, none⟩) k c) (l.take i ++ l.drop (i + 1)) ∧ Below base w W2 := by
    obtain ⟨zs, hzl, hz⟩ := run_clear22 W1 22 g (k * 22) (c - k) cur1 hg1 (by rw [hcur1l]; omega)
    refine ⟨_, fun ty => hz, ?_, ?_⟩
    · have hlen : (l.take i ++ l.drop (i + 1)).length = k := by rw [List.length_append, List.length_take, List.length_drop]; omega
      have ht : (splice cur1 (k * 22) zs).take (k * 22) = cellsL (l.take i ++ l.drop (i + 1)) := by
        unfold splice
        rw [List.take_append_of_le_length (by rw [List.length_take]; omega), List.take_take, Nat.min_self, ← hcur1]
        have e1 : cur.take (i * 22) = cellsL (l.take i) := by rw [cellsL_take, ← hct, List.take_take, Nat.min_eq_left (by omega)]
        have e2 : (cur.take (i * 22) ++ cellsL (l.drop (i + 1))).length = k * 22 := by rw [List.length_append, List.length_take, hB, Nat.min_eq_left (by omega)]; omega
        have := List.take_left (l₁ := cur.take (i * 22) ++ cellsL (l.drop (i + 1))) (l₂ := cur.drop (i * 22 + (cellsL (l.drop (i + 1))).length))
        rw [e2] at this
        rw [this, e1, cellsL_append]
      have h5 := ow_shut (W := W1.setRow g (splice cur1 (k * 22) zs).toArray) (base := base) (g := g) (c := c) (l := l.take i ++ l.drop (i + 1)) (cur := splice cur1 (k * 22) zs) hbg (by rw [hlen]; omega) hcm (setRow_heap _ _ _ _ _ _ hg1)
        (by rw [length_splice _ _ _ (by rw [hcur1l]; omega)]; exact hcur1l) (by rw [hlen]; exact ht)
      rw [hlen] at h5
      exact h5
    · rw [← hW1]
      exact below_setRow (below_setRow (below_drew1 (Below.refl _ _)) hbg _) hbg _
  obtain ⟨W2, hclr, hfin⟩ := hclr
  have HFIN := Aside0.mk hfin
  have c1 := slice_cap g l.length c i (i + 1) l.length (by omega) (by omega) hlc (by omega)
  have c2 := slice_to g l.length c i (by omega)
  have c4 := slice_mid g k c k l.length (by omega) hlc (by omega)
  rw [show l.length - k = 1 by omega] at c4
  rw [show (((i + 1 : Nat) : Int)) = (i : Int) + 1 from by omega] at c1 c3
  have mixed : Try.prog.follows .mixedOrders = true := by kernel_rfl
  have k1 : ((i : Int) == (i : Int) + 1) = false := beq_eq_false_iff_ne.mpr (by omega)
  have hi6 : i ≤ 1000000 := by omega
  have v3 : (0 : Int) ≤ (i : Int) + 1 := by omega
  have v7 : (i : Int) ≤ (c : Int) := by omega
  have v8 : (i : Int) + 1 ≤ (l.length : Int) := by omega
  clear hv hbg hlc hcm hg hcl hct hk hi0 hz0 hs0 hb0 hs' hB hoff hnews hkk hfit1 hcur1 hcur1l hW1 hg1 hzl hi hl hfin
  go_enter Try.func83, Try.ntmps83
  go_wp2_with fail
  go_region_law_o (refine step_append_runI rfl _ _ 22 22 rfl _ _ (by simp [Act.eval, Act.put]) (by simp [Act.eval, Act.put]) (happ _) ?_)
  go_wp2_with (at_builtin; refine wpList_clear_runI _ rfl _ 22 rfl _ rfl (hclr _) ?_)
  go_ret
  exact ⟨_, rfl, HFIN.out.1, HFIN.out.2⟩
end Go.Proofs.Ytalncokpbgbccaa.E

/- PutEntry and DropEntry of a leaf. -/
namespace Go.Proofs.Ytalncokpbgbccaa.E
set_option linter.unusedVariables false
set_option linter.unusedSimpArgs false
open Go.RowKit Go.Proofs.YtalncokpbgbccaaW.PrintWords Go.Proofs.YtalncokpbgbccaaW.PrintLast Go.Proofs.YtalncokpbgbccaaW.PrintMore
theorem lit_ow (W : World) (x : S77) : Ow (W.alloc (.cells (entC x) 77)) W.heap.size (.slice (some ⟨W.heap.size, 0, none⟩) 1 1) [x] :=
  ow_shut (l := [x]) (cur := (entC x).toList) (Nat.le_refl _) (by simp) (by unfold maxLen; omega) (by rw [Array.toArray_toList]; exact blk_new W _) (by rw [entC_length]) (by simp [cellsL]; rw [List.take_of_length_le (by rw [Array.length_toList]; exact Nat.le_refl _)])
theorem run_store77 (W : World) (g i : Nat) (cur : List Value) (x : S77) (hg : W.heap[g]? = some (.cells cur.toArray 77 (0, 0))) (hfit : i * 22 + 22 ≤ cur.length) :
    (storeCells ⟨g, i * 22, none⟩ (entC x).toList).run Try.prog W = .ok () (W.setRow g (splice cur (i * 22) (entC x).toList).toArray) := by
  have hst := run_storeCells_at Try.prog g (i * 22) 77 (entC x).toList 0 cur.toArray W hg (by rw [entC_length]; simpa using hfit) (fun v hv => (Array.all_eq_true_iff_forall_mem.1 (entC_one x)) v (by simpa using hv))
  simpa [splice] using hst
theorem ow_put {W : World} {base g n c : Nat} {l : List S77} (h : Ow W base (.slice (some ⟨g, 0, none⟩) n c) l) (i : Nat) (hi : i < l.length) (x : S77) :
    ∃ W', (storeCells ⟨g, i * 22, none⟩ (entC x).toList).run Try.prog W = .ok () W' ∧ Ow W' base (.slice (some ⟨g, 0, none⟩) n c) (l.take i ++ [x] ++ l.drop (i + 1)) ∧ ∀ (b0 : Nat) (w0 : World), b0 ≤ base → Below b0 w0 W → Below b0 w0 W' := by
  obtain ⟨hbg, hn, hlc, hcm, cur, hg, hcl, hct⟩ := ow_open h
  have hX : (cellsL [x]).length = 22 := by rw [cellsL_length]; rfl
  have hfit : i * 22 + 22 ≤ cur.length := by rw [hcl]; omega
  refine ⟨_, run_store77 W g i cur x hg hfit, ?_, fun b0 w0 hb hB => below_setRow hB (by omega) _⟩
  have hlen : (l.take i ++ [x] ++ l.drop (i + 1)).length = l.length := by simp; omega
  have ht : (splice cur (i * 22) (entC x).toList).take (l.length * 22) = cellsL (l.take i ++ [x] ++ l.drop (i + 1)) := by
    have e1 : cur.take (i * 22) = cellsL (l.take i) := by rw [cellsL_take, ← hct, List.take_take, Nat.min_eq_left (by omega)]
    have e2 : (cur.drop (i * 22 + 22)).take ((l.length - (i + 1)) * 22) = cellsL (l.drop (i + 1)) := by
      rw [cellsL_drop, ← hct, List.drop_take, show (i + 1) * 22 = i * 22 + 22 by omega]
      congr 1
      omega
    have e0 : (entC x).toList = cellsL [x] := by simp [cellsL]
    have e3 : splice cur (i * 22) (entC x).toList = cellsL (l.take i ++ [x]) ++ cur.drop (i * 22 + 22) := by
      rw [e0, cellsL_append, ← e1]
      unfold splice
      rw [hX, List.append_assoc]
    rw [e3, List.take_append, cellsL_append (l.take i ++ [x])]
    have e4 : (cellsL (l.take i ++ [x])).length = (i + 1) * 22 := by rw [cellsL_length]; simp; omega
    rw [e4, List.take_of_length_le (by rw [e4]; omega), show l.length * 22 - (i + 1) * 22 = (l.length - (i + 1)) * 22 by omega, e2]
  have h5 := ow_shut (W := W.setRow g (splice cur (i * 22) (entC x).toList).toArray) (base := base) (g := g) (c := c) (l := l.take i ++ [x] ++ l.drop (i + 1)) (cur := splice cur (i * 22) (entC x).toList) hbg (by rw [hlen]; exact hlc) hcm (setRow_heap _ _ _ _ _ _ hg)
    (by rw [length_splice _ _ _ (by rw [entC_length]; exact hfit)]; exact hcl) (by rw [hlen]; exact ht)
  rw [hlen, ← hn] at h5
  exact h5
set_option maxRecDepth 1000000 in
set_option maxHeartbeats 8000000 in
theorem put_is (l : List S77) (x : S77) (A : Option Addr) (c : Nat) (r : Nat) (w : World) (hr : Kd.C k77 w A l.length l) (hl : l.length ≤ 100000) (hrl : r ≤ l.length) (his : r < l.length) (HS : Aside0 (Say w 25 #[.slice A l.length c, .string x.f0] (.tuple #[.int .i64 (r : Int), .bool true]))) :
    Calls Try.prog 54 #[.slice A l.length c, .agg (entC x)] w fun e w' => ∃ v, e = .returned v ∧ Ow w' w.heap.size v (rputL l x r true) ∧ Below w.heap.size w w' := by
  have HCL := Aside0.mk (fun (W : World) (hb : Below w.heap.size w W) => clone_c l A c W (Kd.C_below hr hb) (by omega))
  rw [show rputL l x r true = l.take r ++ [x] ++ l.drop (r + 1) from rfl]
  have HIS := Aside0.mk his
  have HPOS := Aside0.mk (show 0 < l.length by omega)
  have i1 : (r : Int) < (l.length : Int) := by omega
  have i2 : (0 : Int) ≤ (r : Int) := by omega
  clear hr hl hrl his
  go_enter Try.func54, Try.ntmps54
  go_wp2_with (first | ((with_reducible refine gate_dst (N := 3) rfl ?_); refine box_event (hgd := rfl) (N := 3) rfl (cs := entC x) (t := 77) (by go_simp) ?_; intro g hg_ w1 HG hb; (subst hg_); have HD := Aside0.mk (show Hd w w.heap.size (entC x) w1 from ⟨HG, hb⟩); have HB1 := Aside0.mk hb; clear HG hb) | (go_at_call 68; refine (HCL.out _ HB1.out).mono ?_; rintro e w2 ⟨v, rfl, ho, hb⟩; have HO := Aside0.mk ho; have HV := Aside0.mk (show w.heap.size ≤ w1.heap.size from HB1.out.size); have HD2 := Aside0.mk (hd_call HD.out hb); have HB2 := Aside0.mk (below_tr2 (w := w) HB1.out hb); have HZ2 := Aside0.mk (show w1.heap.size ≤ w2.heap.size from hb.size); have c0 := hd_key HD2.out; clear ho hb) | (go_at_call 25; refine (HS.out _ HB2.out).mono ?_; rintro e w3 ⟨rfl, hb⟩; have HO3 := Aside0.mk (Kd.R_below HO.out hb); have HD3 := Aside0.mk (hd_call HD2.out hb); have HB3 := Aside0.mk (below_tr2 (w := w) HB2.out hb); have HZ3 := Aside0.mk (show w1.heap.size ≤ w3.heap.size from Nat.le_trans HZ2.out hb.size); clear c0 hb HO HD2 HB2 HD HB1; obtain ⟨g, c9, hv9, hg1, hg2⟩ := ow_addr HO3.out HPOS.out; subst hv9; obtain ⟨W4, hrun, hput, hbel⟩ := ow_put HO3.out r HIS.out x; have HPUT := Aside0.mk hput; have HBEL := Aside0.mk (hbel w.heap.size w HV.out HB3.out); clear hput hbel hg1 hg2) | ((with_reducible refine gate_dst (N := 20) rfl ?_); refine wpList_load_hd (w0 := w) (g := w.heap.size) (x := x) HD3.out rfl (.tmp 3) rfl rfl ?_))
  go_ret
  exact ⟨_, rfl, Kd.R_lower HPUT.out HV.out, HBEL.out⟩
set_option maxRecDepth 1000000 in
set_option maxHeartbeats 8000000 in
theorem put_not (l : List S77) (x : S77) (A : Option Addr) (c : Nat) (r : Nat) (w : World) (hr : Kd.C k77 w A l.length l) (hl : l.length ≤ 100000) (hrl : r ≤ l.length) (HS : Aside0 (Say w 25 #[.slice A l.length c, .string x.f0] (.tuple #[.int .i64 (r : Int), .bool false]))) :
    Calls Try.prog 54 #[.slice A l.length c, .agg (entC x)] w fun e w' => ∃ v, e = .returned v ∧ Ow w' w.heap.size v (rputL l x r false) ∧ Below w.heap.size w w' := by
  have HCL := Aside0.mk (fun (W : World) (hb : Below w.heap.size w W) => clone_c l A c W (Kd.C_below hr hb) (by omega))
  rw [show rputL l x r false = l.take r ++ [x] ++ l.drop r from rfl]
  have HRL := Aside0.mk hrl
  have HLL := Aside0.mk (show l.length ≤ 1000000 by omega)
  clear hr hl hrl
  go_enter Try.func54, Try.ntmps54
  go_wp2_with (first | ((with_reducible refine gate_dst (N := 3) rfl ?_); refine box_event (hgd := rfl) (N := 3) rfl (cs := entC x) (t := 77) (by go_simp) ?_; intro g hg_ w1 HG hb; (subst hg_); have HD := Aside0.mk (show Hd w w.heap.size (entC x) w1 from ⟨HG, hb⟩); have HB1 := Aside0.mk hb; clear HG hb) | (go_at_call 68; refine (HCL.out _ HB1.out).mono ?_; rintro e w2 ⟨v, rfl, ho, hb⟩; have HO := Aside0.mk ho; have HV := Aside0.mk (show w.heap.size ≤ w1.heap.size from HB1.out.size); have HD2 := Aside0.mk (hd_call HD.out hb); have HB2 := Aside0.mk (below_tr2 (w := w) HB1.out hb); have HZ2 := Aside0.mk (show w1.heap.size ≤ w2.heap.size from hb.size); have c0 := hd_key HD2.out; clear ho hb) | (go_at_call 25; refine (HS.out _ HB2.out).mono ?_; rintro e w3 ⟨rfl, hb⟩; have HO3 := Aside0.mk (Kd.R_below HO.out hb); have HD3 := Aside0.mk (hd_call HD2.out hb); have HB3 := Aside0.mk (below_tr2 (w := w) HB2.out hb); have HZ3 := Aside0.mk (show w1.heap.size ≤ w3.heap.size from Nat.le_trans HZ2.out hb.size); clear c0 hb HO HD2 HB2 HD HB1; skip) | ((with_reducible refine gate_dst (N := 25) rfl ?_); refine wpList_load_hd (w0 := w) (g := w.heap.size) (x := x) HD3.out rfl (.tmp 3) rfl rfl ?_; dsimp only [entC]) | (go_at_call 82; refine (insert_c l x r w3.heap.size 1 v _ w1.heap.size w3.heap.size (Kd.R_alloc HO3.out _) (lit_ow w3 x) (fun e => by have := Kd.R_lt HO3.out _ e; omega) HRL.out (by have := HZ3.out; rw [World.size_alloc]; omega) HLL.out).mono ?_; rintro e w5 ⟨v5, rfl, ho, hb⟩; have HO5 := Aside0.mk ho; have HB5 := Aside0.mk ((below_alloc HB3.out _).trans (hb.mono HV.out)); clear ho hb))
  go_ret
  exact ⟨_, rfl, Kd.R_lower HO5.out HV.out, HB5.out⟩
set_option maxRecDepth 1000000 in
set_option maxHeartbeats 8000000 in
theorem drop_not (l : List S77) (key : ByteArray) (A : Option Addr) (c : Nat) (r : Nat) (w : World) (hr : Kd.C k77 w A l.length l) (hl : l.length ≤ 100000) (HS : Aside0 (Say w 25 #[.slice A l.length c, .string key] (.tuple #[.int .i64 (r : Int), .bool false]))) :
    Calls Try.prog 55 #[.slice A l.length c, .string key] w fun e w' => ∃ v, e = .returned (.tuple #[v, .bool false]) ∧ Ow w' w.heap.size v l ∧ Below w.heap.size w w' := by
  have HCL := Aside0.mk (fun (W : World) (hb : Below w.heap.size w W) => clone_c l A c W (Kd.C_below hr hb) (by omega))
  clear hr hl
  go_enter Try.func55, Try.ntmps55
  go_wp2_with (first | (go_at_call 68; refine (HCL.out _ (Below.refl _ _)).mono ?_; rintro e w2 ⟨v, rfl, ho, hb⟩; have HO := Aside0.mk ho; have HB2 := Aside0.mk hb; clear ho hb) | (go_at_call 25; refine (HS.out _ HB2.out).mono ?_; rintro e w3 ⟨rfl, hb⟩; have HO3 := Aside0.mk (Kd.R_below HO.out hb); have HB3 := Aside0.mk (below_tr2 (w := w) HB2.out hb); clear hb HO HB2))
  go_ret2
  exact ⟨_, rfl, HO3.out, HB3.out⟩
set_option maxRecDepth 1000000 in
set_option maxHeartbeats 8000000 in
theorem drop_is (l : List S77) (key : ByteArray) (A : Option Addr) (c : Nat) (r : Nat) (w : World) (hr : Kd.C k77 w A l.length l) (hl : l.length ≤ 100000) (his : r < l.length) (HS : Aside0 (Say w 25 #[.slice A l.length c, .string key] (.tuple #[.int .i64 (r : Int), .bool true]))) :
    Calls Try.prog 55 #[.slice A l.length c, .string key] w fun e w' => ∃ v, e = .returned (.tuple #[v, .bool true]) ∧ Ow w' w.heap.size v (l.take r ++ l.drop (r + 1)) ∧ Below w.heap.size w w' := by
  have HCL := Aside0.mk (fun (W : World) (hb : Below w.heap.size w W) => clone_c l A c W (Kd.C_below hr hb) (by omega))
  have HIS := Aside0.mk his
  have HLL := Aside0.mk (show l.length ≤ 1000000 by omega)
  have hwr := w_succ r (by omega)
  clear hr hl his
  go_enter Try.func55, Try.ntmps55
  go_wp2_with (first | (go_at_call 68; refine (HCL.out _ (Below.refl _ _)).mono ?_; rintro e w2 ⟨v, rfl, ho, hb⟩; have HO := Aside0.mk ho; have HB2 := Aside0.mk hb; clear ho hb) | (go_at_call 25; refine (HS.out _ HB2.out).mono ?_; rintro e w3 ⟨rfl, hb⟩; have HO3 := Aside0.mk (Kd.R_below HO.out hb); have HB3 := Aside0.mk (below_tr2 (w := w) HB2.out hb); clear hb HO HB2) | (go_at_call 83; refine (delete_c l r v w3 w.heap.size HO3.out HIS.out HLL.out).mono ?_; rintro e w5 ⟨v5, rfl, ho, hb⟩; have HO5 := Aside0.mk ho; have HB5 := Aside0.mk (HB3.out.trans hb); clear ho hb))
  go_ret2
  exact ⟨_, rfl, HO5.out, HB5.out⟩
/-- a leaf with an entry -/
def leafPut (l : List S77) (x : S77) : List S77 := rputL l x (searchP l x.f0) (searchB l x.f0)
/-- a leaf without the entry with a key -/
def leafDrop (l : List S77) (key : ByteArray) : List S77 := if searchB l key = true then l.take (searchP l key) ++ l.drop (searchP l key + 1) else l
theorem searchB_lt {l : List S77} {key : ByteArray} (h : searchB l key = true) : searchP l key < l.length := by
  unfold searchB at h
  rw [Bool.and_eq_true] at h
  exact of_decide_eq_true h.1
theorem putE_c (l : List S77) (x : S77) (A : Option Addr) (c : Nat) (w : World) (hr : Kd.C k77 w A l.length l) (hl : l.length ≤ 100000) :
    Calls Try.prog 54 #[.slice A l.length c, .agg (entC x)] w fun e w' => ∃ v, e = .returned v ∧ Ow w' w.heap.size v (leafPut l x) ∧ Below w.heap.size w w' := by
  have HS := Aside0.mk (show Say w 25 #[.slice A l.length c, .string x.f0] _ from fun w1 b => search_c l A c x.f0 w1 (Kd.C_below hr b) (by omega))
  unfold leafPut
  cases hs : searchB l x.f0 with
  | false => rw [hs] at HS; exact put_not l x A c _ w hr hl (searchP_le l x.f0) HS
  | true => rw [hs] at HS; exact put_is l x A c _ w hr hl (searchP_le l x.f0) (searchB_lt hs) HS
theorem dropE_c (l : List S77) (key : ByteArray) (A : Option Addr) (c : Nat) (w : World) (hr : Kd.C k77 w A l.length l) (hl : l.length ≤ 100000) :
    Calls Try.prog 55 #[.slice A l.length c, .string key] w fun e w' => ∃ v, e = .returned (.tuple #[v, .bool (searchB l key)]) ∧ Ow w' w.heap.size v (leafDrop l key) ∧ Below w.heap.size w w' := by
  have HS := Aside0.mk (show Say w 25 #[.slice A l.length c, .string key] _ from fun w1 b => search_c l A c key w1 (Kd.C_below hr b) (by omega))
  unfold leafDrop
  cases hs : searchB l key with
  | false => rw [hs] at HS; rw [if_neg (by simp)]; exact drop_not l key A c _ w hr hl HS
  | true => rw [hs] at HS; rw [if_pos rfl]; exact drop_is l key A c _ w hr hl (searchB_lt hs) HS
end Go.Proofs.Ytalncokpbgbccaa.E

