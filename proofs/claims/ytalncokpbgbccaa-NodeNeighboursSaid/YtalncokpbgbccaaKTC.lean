-- A slim copy of TC, TD, written by wip/tools/prune2.py.
import Derived.Test.YtalncokpbgbccaaKTA
/- The reference's PutEntry. -/
namespace Go.Proofs.Ytalncokpbgbccaa.E
set_option linter.unusedVariables false
set_option linter.unusedSimpArgs false
open Go.RowKit Go.Proofs.YtalncokpbgbccaaW.PrintWords Go.Proofs.YtalncokpbgbccaaW.PrintLast Go.Proofs.YtalncokpbgbccaaW.PrintMore
/-- a list with an entry put in at place r, in the place of the one there if is -/
def rputL (l : List S77) (x : S77) (r : Nat) (is : Bool) : List S77 := l.take r ++ [x] ++ l.drop (if is = true then r + 1 else r)
set_option maxRecDepth 100000 in
set_option maxHeartbeats 8000000 in
theorem rput_is (l : List S77) (x : S77) (A : Option Addr) (c : Nat) (r : Nat) (w : World) (hr : Kd.C k77 w A l.length l) (hc : l.length ≤ c) (hl : l.length ≤ 100000) (hrl : r ≤ l.length) (his : r < l.length) (HS : Aside0 (Say w 30 #[.slice A l.length c, .string x.f0] (.agg #[.int .i64 (r : Int), .bool true]))) :
    Calls Try.prog 50 #[.slice A l.length c, .agg (entC x)] w fun e w' => ∃ v, e = .returned v ∧ Ow w' w.heap.size v (rputL l x r true) ∧ Below w.heap.size w w' := by
  rw [show rputL l x r true = l.take r ++ [x] ++ l.drop (r + 1) from rfl]
  obtain ⟨RL, hRL⟩ : ∃ RL, l.take r ++ [x] ++ l.drop (r + 1) = RL := ⟨_, rfl⟩
  have HRL := Aside0.mk hRL
  rw [hRL]
  clear hRL
  have hu39 := Try.underlying39
  have HR := Aside0.mk hr
  have HRL0 := Aside0.mk hrl
  have HLL := Aside0.mk hl
  have HC := Aside0.mk hc
  have HIS := Aside0.mk his
  clear hr hc hl hrl his
  go_enter Try.func50, Try.ntmps50
  go_upto_region 2 with (first | ((with_reducible refine gate_dst (N := 3) rfl ?_); refine box_event (hgd := rfl) (N := 3) rfl (cs := entC x) (t := 77) (by go_simp) ?_; intro g hg_ w1 HG hb; (subst hg_); have HD := Aside0.mk (show Hd w w.heap.size (entC x) w1 from ⟨HG, hb⟩); have HB1 := Aside0.mk hb; have c0 := hd_key HD.out; clear HG hb) | ((go_at_call 30); (with_reducible refine (HS.out _ HB1.out).mono ?_); rintro e w2 ⟨rfl, hb⟩; have HDn := Aside0.mk (hd_call HD.out hb); clear HD hb c0 HB1; have HD := HDn; clear HDn))
  have HX3 := Aside0.mk (blk_alloc HD.out.1 (.cells #[.int .i64 (r : Int), .bool true] 39))
  have HG3 := Aside0.mk (blk_new w2 (.cells #[.int .i64 (r : Int), .bool true] 39))
  have HB3 := Aside0.mk (below_alloc HD.out.2 (.cells #[.int .i64 (r : Int), .bool true] 39))
  clear HS HD
  generalize w2.alloc (.cells #[.int .i64 (r : Int), .bool true] 39) = W3 at HX3 HG3 HB3 ⊢
  generalize w2.heap.size = gs at HG3 ⊢
  have FX := Aside0.mk (fun (W : World) (hb : Below W3.heap.size W3 W) => (show Hd W3 w.heap.size (entC x) W from ⟨blk_below HX3.out hb, hb⟩))
  have FC0 := Aside0.mk (fun (W : World) (hb : Below W3.heap.size W3 W) => (show W.cell? ⟨gs, 0, none⟩ = some (.int .i64 (r : Int)) by rw [blk_cell (blk_below HG3.out hb)]; rfl))
  have FC1 := Aside0.mk (fun (W : World) (hb : Below W3.heap.size W3 W) => (show W.cell? ⟨gs, 1, none⟩ = some (.bool true) by rw [blk_cell (blk_below HG3.out hb)]; rfl))
  obtain ⟨i77, hi77, hsz⟩ := info77'
  have hcu0 := cut_to (P := Try.prog) 22 77 .i64 Try.underlying22 hi77 A l.length c (r : Int) (by omega) (by have := HRL0.out; omega) HC.out
  simp only [Int.toNat_natCast] at hcu0
  have hcv0 := cut_from (P := Try.prog) 22 77 .i64 Try.underlying22 hi77 22 hsz A l.length c ((r : Int) + 1) (by omega) (by have := HIS.out; omega)
  rw [show ((r : Int) + 1).toNat = r + 1 by omega] at hcv0
  have htl : (l.take r).length = r := by rw [List.length_take]; have := HRL0.out; omega
  have hdl : (l.drop (r + 1)).length = l.length - (r + 1) := by simp
  have HCT := Aside0.mk (fun (W : World) (hb : Below W3.heap.size W3 W) => (show Kd.C k77 W A r (l.take r) from C_take (Kd.C_below HR.out (below_tr2 (w := w) HB3.out hb)) HRL0.out))
  have HCD := Aside0.mk (fun (W : World) (hb : Below W3.heap.size W3 W) => C_drop (Kd.C_below HR.out (below_tr2 (w := w) HB3.out hb)) (show r + 1 ≤ l.length by have := HIS.out; omega) HC.out)
  have HXL := Aside0.mk (show ((([] : List S77).length + (l.take r).length) * 80 ≤ 140737488355328 ∧ ((l.take r).length + 1) * 80 ≤ 140737488355328 ∧ ((l.take r ++ [x]).length + (l.drop (r + 1)).length) * 80 ≤ 140737488355328) from by rw [List.length_append, htl, hdl]; simp only [List.length_nil, List.length_singleton]; have := HLL.out; have := HRL0.out; omega)
  rw [← hdl] at HCD hcv0
  obtain ⟨LX, hLX⟩ : ∃ LX, l.take r ++ [x] = LX := ⟨_, rfl⟩
  rw [hLX] at HRL HXL
  have HLX := Aside0.mk hLX
  clear hLX
  generalize (if c = r + 1 then A else A.map (·.add ((r + 1) * 22))) = A2 at HCD hcv0
  generalize c - (r + 1) = c2 at hcv0
  generalize l.drop (r + 1) = L2 at HCD hcv0 HXL HRL
  have HTL := Aside0.mk htl
  obtain ⟨L1, hL1⟩ : ∃ L1, l.take r = L1 := ⟨_, rfl⟩
  rw [hL1] at HTL HCT HXL HLX
  have hcu1 : ∀ W, (Instr.slice 22 (.slice A l.length c) none (some (.int .i64 (r : Int))) none).run Try.prog W = .ok (.slice A L1.length c) W := by rw [HTL.out]; exact hcu0
  clear hcu0 hi77 htl hL1 hdl hsz
  have hrw := w_succ r (by have := HIS.out; have := HLL.out; omega)
  go_wp2_with (first
    | ((with_reducible refine gate_dst (N := 11) rfl ?_); refine Kd.R_lit k77 W3.heap.size 77 rfl (N := 11) rfl (xs := ([] : List S77)) (inner := []) (ok := fun _ => True) (okp := fun _ => True) ?hr (Reps.none _ _) (fun _ hk => hk) trivial (Below.refl _ _) (Nat.le_refl _) (by simp) ?_; (case hr => first | (go_simp; done) | (go_simp; rfl)); intro vL wL ho hb hg_ hnew_; clear hg_ hnew_; have HB := Aside0.mk hb; have HO := Aside0.mk ho; (clear ho hb); have e0 := FC0.out _ HB.out; have e1 := FC1.out _ HB.out)
    | ((with_reducible refine gate_builtin (b := .append) (xs := #[.tmp 11, .tmp 15]) rfl ?_); at_builtin; refine Kd.R_append_rows k77 (w0 := W3) W3.heap.size rfl (.tmp 11) (.tmp 15) 22 77 (.agg #[(.string ⟨#[]⟩), (.string ⟨#[]⟩), (.int .i64 0), (.int .i64 0), (.int .i64 0), (.int .i64 0), (.int .u8 0), (.int .u8 0), (.int .u8 0), (.int .u8 0), (.int .u8 0), (.int .u8 0), (.int .u8 0), (.int .u8 0), (.int .u8 0), (.int .u8 0), (.int .u8 0), (.int .u8 0), (.int .u8 0), (.int .u8 0), (.int .u8 0), (.int .u8 0)]) 80 rfl Try.underlying22 info77 rfl (by decide) (by omega) vL ([] : List S77) L1 _ _ _ (fun _ => True) (fun _ => False) rfl rfl ?aO ?aR (fun _ _ h => h) (fun _ h => h.elim) ?aF ?aB ?aS ?aL ?_; (case aR => exact (by have := HCT.out _ HB.out; rwa [← HTL.out] at this)); (case aB => exact HB.out); (case aF => exact (fun _ _ => trivial)); (case aO => exact HO.out); (case aS => exact HB.out.size); (case aL => exact HXL.out.1); intro vA wA ho hb hg hat; have HBn := Aside0.mk hb; have HOn := Aside0.mk (show Ow wA W3.heap.size vA L1 from by simpa using ho); clear HB HO ho hb hg hat; have HB := HBn; have HO := HOn; clear HBn HOn; have e0 := FC0.out _ HB.out; have e1 := FC1.out _ HB.out)
    | ((with_reducible refine gate_dst (N := 18) rfl ?_); refine wpList_load_hd (w0 := W3) (g := w.heap.size) (x := x) (FX.out _ HB.out) rfl (.tmp 3) rfl rfl ?_; dsimp only [entC])
    | ((with_reducible refine gate_builtin (b := .append) (xs := #[.tmp 17, .tmp 19]) rfl ?_); at_builtin; refine Kd.R_append k77 (w0 := W3) W3.heap.size rfl (.tmp 17) (.tmp 19) 22 77 (.agg #[(.string ⟨#[]⟩), (.string ⟨#[]⟩), (.int .i64 0), (.int .i64 0), (.int .i64 0), (.int .i64 0), (.int .u8 0), (.int .u8 0), (.int .u8 0), (.int .u8 0), (.int .u8 0), (.int .u8 0), (.int .u8 0), (.int .u8 0), (.int .u8 0), (.int .u8 0), (.int .u8 0), (.int .u8 0), (.int .u8 0), (.int .u8 0), (.int .u8 0), (.int .u8 0)]) 80 rfl Try.underlying22 info77 rfl (by decide) (by omega) vA L1 x [.string x.f0, .string x.f1, .int .i64 x.f2, .int .i64 x.f3, .int .i64 x.f4, .int .i64 x.f5, .int .u8 x.f6.f0, .int .u8 x.f6.f1, .int .u8 x.f6.f2, .int .u8 x.f6.f3, .int .u8 x.f6.f4, .int .u8 x.f6.f5, .int .u8 x.f6.f6, .int .u8 x.f6.f7, .int .u8 x.f6.f8, .int .u8 x.f6.f9, .int .u8 x.f6.f10, .int .u8 x.f6.f11, .int .u8 x.f6.f12, .int .u8 x.f6.f13, .int .u8 x.f6.f14, .int .u8 x.f6.f15] (fun _ => True) (fun _ => False) rfl rfl ?aP (fun _ hk => hk.elim) ?aF ?aO ?aB ?aS ?aL ?_; (case aP => exact k77_mkM _ _ _ x); (case aB => exact HB.out); (case aF => exact (fun _ _ => trivial)); (case aO => exact HO.out); (case aS => exact HB.out.size); (case aL => exact HXL.out.2.1); intro vB wB ho hb hg hat; have HBn := Aside0.mk hb; have HOn := Aside0.mk (show Ow wB W3.heap.size vB LX from by rw [← HLX.out]; exact ho); clear HB HO ho hb hg hat; have HB := HBn; have HO := HOn; clear HBn HOn; have e0 := FC0.out _ HB.out; have e1 := FC1.out _ HB.out)
    | ((with_reducible refine gate_builtin (b := .append) (xs := #[.tmp 23, .tmp 28]) rfl ?_); at_builtin; refine Kd.R_append_rows k77 (w0 := W3) W3.heap.size rfl (.tmp 23) (.tmp 28) 22 77 (.agg #[(.string ⟨#[]⟩), (.string ⟨#[]⟩), (.int .i64 0), (.int .i64 0), (.int .i64 0), (.int .i64 0), (.int .u8 0), (.int .u8 0), (.int .u8 0), (.int .u8 0), (.int .u8 0), (.int .u8 0), (.int .u8 0), (.int .u8 0), (.int .u8 0), (.int .u8 0), (.int .u8 0), (.int .u8 0), (.int .u8 0), (.int .u8 0), (.int .u8 0), (.int .u8 0)]) 80 rfl Try.underlying22 info77 rfl (by decide) (by omega) vB LX L2 _ _ _ (fun _ => True) (fun _ => False) rfl rfl ?aO ?aR (fun _ _ h => h) (fun _ h => h.elim) ?aF ?aB ?aS ?aL ?_; (case aR => exact HCD.out _ HB.out); (case aB => exact HB.out); (case aF => exact (fun _ _ => trivial)); (case aO => exact HO.out); (case aS => exact HB.out.size); (case aL => exact HXL.out.2.2); intro vC wC ho hb hg hat; have HBn := Aside0.mk hb; have HOn := Aside0.mk (show Ow wC W3.heap.size vC RL from by rw [← HRL.out]; exact ho); clear HB HO ho hb hg hat; have HB := HBn; have HO := HOn; clear HBn HOn; have e0 := FC0.out _ HB.out; have e1 := FC1.out _ HB.out))
  go_ret
  exact ⟨_, rfl, Kd.R_lower HO.out HB3.out.size, below_tr2 (w := w) HB3.out HB.out⟩
set_option maxRecDepth 100000 in
set_option maxHeartbeats 8000000 in
theorem rput_not (l : List S77) (x : S77) (A : Option Addr) (c : Nat) (r : Nat) (w : World) (hr : Kd.C k77 w A l.length l) (hc : l.length ≤ c) (hl : l.length ≤ 100000) (hrl : r ≤ l.length) (HS : Aside0 (Say w 30 #[.slice A l.length c, .string x.f0] (.agg #[.int .i64 (r : Int), .bool false]))) :
    Calls Try.prog 50 #[.slice A l.length c, .agg (entC x)] w fun e w' => ∃ v, e = .returned v ∧ Ow w' w.heap.size v (rputL l x r false) ∧ Below w.heap.size w w' := by
  rw [show rputL l x r false = l.take r ++ [x] ++ l.drop (r) from rfl]
  obtain ⟨RL, hRL⟩ : ∃ RL, l.take r ++ [x] ++ l.drop (r) = RL := ⟨_, rfl⟩
  have HRL := Aside0.mk hRL
  rw [hRL]
  clear hRL
  have hu39 := Try.underlying39
  have HR := Aside0.mk hr
  have HRL0 := Aside0.mk hrl
  have HLL := Aside0.mk hl
  have HC := Aside0.mk hc
  clear hr hc hl hrl
  go_enter Try.func50, Try.ntmps50
  go_upto_region 2 with (first | ((with_reducible refine gate_dst (N := 3) rfl ?_); refine box_event (hgd := rfl) (N := 3) rfl (cs := entC x) (t := 77) (by go_simp) ?_; intro g hg_ w1 HG hb; (subst hg_); have HD := Aside0.mk (show Hd w w.heap.size (entC x) w1 from ⟨HG, hb⟩); have HB1 := Aside0.mk hb; have c0 := hd_key HD.out; clear HG hb) | ((go_at_call 30); (with_reducible refine (HS.out _ HB1.out).mono ?_); rintro e w2 ⟨rfl, hb⟩; have HDn := Aside0.mk (hd_call HD.out hb); clear HD hb c0 HB1; have HD := HDn; clear HDn))
  have HX3 := Aside0.mk (blk_alloc HD.out.1 (.cells #[.int .i64 (r : Int), .bool false] 39))
  have HG3 := Aside0.mk (blk_new w2 (.cells #[.int .i64 (r : Int), .bool false] 39))
  have HB3 := Aside0.mk (below_alloc HD.out.2 (.cells #[.int .i64 (r : Int), .bool false] 39))
  clear HS HD
  generalize w2.alloc (.cells #[.int .i64 (r : Int), .bool false] 39) = W3 at HX3 HG3 HB3 ⊢
  generalize w2.heap.size = gs at HG3 ⊢
  have FX := Aside0.mk (fun (W : World) (hb : Below W3.heap.size W3 W) => (show Hd W3 w.heap.size (entC x) W from ⟨blk_below HX3.out hb, hb⟩))
  have FC0 := Aside0.mk (fun (W : World) (hb : Below W3.heap.size W3 W) => (show W.cell? ⟨gs, 0, none⟩ = some (.int .i64 (r : Int)) by rw [blk_cell (blk_below HG3.out hb)]; rfl))
  have FC1 := Aside0.mk (fun (W : World) (hb : Below W3.heap.size W3 W) => (show W.cell? ⟨gs, 1, none⟩ = some (.bool false) by rw [blk_cell (blk_below HG3.out hb)]; rfl))
  obtain ⟨i77, hi77, hsz⟩ := info77'
  have hcu0 := cut_to (P := Try.prog) 22 77 .i64 Try.underlying22 hi77 A l.length c (r : Int) (by omega) (by have := HRL0.out; omega) HC.out
  simp only [Int.toNat_natCast] at hcu0
  have hcv0 := cut_from (P := Try.prog) 22 77 .i64 Try.underlying22 hi77 22 hsz A l.length c (r : Int) (by omega) (by have := HRL0.out; omega)
  rw [show ((r : Int)).toNat = r by omega] at hcv0
  have htl : (l.take r).length = r := by rw [List.length_take]; have := HRL0.out; omega
  have hdl : (l.drop (r)).length = l.length - (r) := by simp
  have HCT := Aside0.mk (fun (W : World) (hb : Below W3.heap.size W3 W) => (show Kd.C k77 W A r (l.take r) from C_take (Kd.C_below HR.out (below_tr2 (w := w) HB3.out hb)) HRL0.out))
  have HCD := Aside0.mk (fun (W : World) (hb : Below W3.heap.size W3 W) => C_drop (Kd.C_below HR.out (below_tr2 (w := w) HB3.out hb)) (show r ≤ l.length by have := HRL0.out; omega) HC.out)
  have HXL := Aside0.mk (show ((([] : List S77).length + (l.take r).length) * 80 ≤ 140737488355328 ∧ ((l.take r).length + 1) * 80 ≤ 140737488355328 ∧ ((l.take r ++ [x]).length + (l.drop (r)).length) * 80 ≤ 140737488355328) from by rw [List.length_append, htl, hdl]; simp only [List.length_nil, List.length_singleton]; have := HLL.out; have := HRL0.out; omega)
  rw [← hdl] at HCD hcv0
  obtain ⟨LX, hLX⟩ : ∃ LX, l.take r ++ [x] = LX := ⟨_, rfl⟩
  rw [hLX] at HRL HXL
  have HLX := Aside0.mk hLX
  clear hLX
  generalize (if c = r then A else A.map (·.add ((r) * 22))) = A2 at HCD hcv0
  generalize c - (r) = c2 at hcv0
  generalize l.drop (r) = L2 at HCD hcv0 HXL HRL
  have HTL := Aside0.mk htl
  obtain ⟨L1, hL1⟩ : ∃ L1, l.take r = L1 := ⟨_, rfl⟩
  rw [hL1] at HTL HCT HXL HLX
  have hcu1 : ∀ W, (Instr.slice 22 (.slice A l.length c) none (some (.int .i64 (r : Int))) none).run Try.prog W = .ok (.slice A L1.length c) W := by rw [HTL.out]; exact hcu0
  clear hcu0 hi77 htl hL1 hdl hsz
  go_wp2_with (first
    | ((with_reducible refine gate_dst (N := 11) rfl ?_); refine Kd.R_lit k77 W3.heap.size 77 rfl (N := 11) rfl (xs := ([] : List S77)) (inner := []) (ok := fun _ => True) (okp := fun _ => True) ?hr (Reps.none _ _) (fun _ hk => hk) trivial (Below.refl _ _) (Nat.le_refl _) (by simp) ?_; (case hr => first | (go_simp; done) | (go_simp; rfl)); intro vL wL ho hb hg_ hnew_; clear hg_ hnew_; have HB := Aside0.mk hb; have HO := Aside0.mk ho; (clear ho hb); have e0 := FC0.out _ HB.out; have e1 := FC1.out _ HB.out)
    | ((with_reducible refine gate_builtin (b := .append) (xs := #[.tmp 11, .tmp 15]) rfl ?_); at_builtin; refine Kd.R_append_rows k77 (w0 := W3) W3.heap.size rfl (.tmp 11) (.tmp 15) 22 77 (.agg #[(.string ⟨#[]⟩), (.string ⟨#[]⟩), (.int .i64 0), (.int .i64 0), (.int .i64 0), (.int .i64 0), (.int .u8 0), (.int .u8 0), (.int .u8 0), (.int .u8 0), (.int .u8 0), (.int .u8 0), (.int .u8 0), (.int .u8 0), (.int .u8 0), (.int .u8 0), (.int .u8 0), (.int .u8 0), (.int .u8 0), (.int .u8 0), (.int .u8 0), (.int .u8 0)]) 80 rfl Try.underlying22 info77 rfl (by decide) (by omega) vL ([] : List S77) L1 _ _ _ (fun _ => True) (fun _ => False) rfl rfl ?aO ?aR (fun _ _ h => h) (fun _ h => h.elim) ?aF ?aB ?aS ?aL ?_; (case aR => exact (by have := HCT.out _ HB.out; rwa [← HTL.out] at this)); (case aB => exact HB.out); (case aF => exact (fun _ _ => trivial)); (case aO => exact HO.out); (case aS => exact HB.out.size); (case aL => exact HXL.out.1); intro vA wA ho hb hg hat; have HBn := Aside0.mk hb; have HOn := Aside0.mk (show Ow wA W3.heap.size vA L1 from by simpa using ho); clear HB HO ho hb hg hat; have HB := HBn; have HO := HOn; clear HBn HOn; have e0 := FC0.out _ HB.out; have e1 := FC1.out _ HB.out)
    | ((with_reducible refine gate_dst (N := 18) rfl ?_); refine wpList_load_hd (w0 := W3) (g := w.heap.size) (x := x) (FX.out _ HB.out) rfl (.tmp 3) rfl rfl ?_; dsimp only [entC])
    | ((with_reducible refine gate_builtin (b := .append) (xs := #[.tmp 17, .tmp 19]) rfl ?_); at_builtin; refine Kd.R_append k77 (w0 := W3) W3.heap.size rfl (.tmp 17) (.tmp 19) 22 77 (.agg #[(.string ⟨#[]⟩), (.string ⟨#[]⟩), (.int .i64 0), (.int .i64 0), (.int .i64 0), (.int .i64 0), (.int .u8 0), (.int .u8 0), (.int .u8 0), (.int .u8 0), (.int .u8 0), (.int .u8 0), (.int .u8 0), (.int .u8 0), (.int .u8 0), (.int .u8 0), (.int .u8 0), (.int .u8 0), (.int .u8 0), (.int .u8 0), (.int .u8 0), (.int .u8 0)]) 80 rfl Try.underlying22 info77 rfl (by decide) (by omega) vA L1 x [.string x.f0, .string x.f1, .int .i64 x.f2, .int .i64 x.f3, .int .i64 x.f4, .int .i64 x.f5, .int .u8 x.f6.f0, .int .u8 x.f6.f1, .int .u8 x.f6.f2, .int .u8 x.f6.f3, .int .u8 x.f6.f4, .int .u8 x.f6.f5, .int .u8 x.f6.f6, .int .u8 x.f6.f7, .int .u8 x.f6.f8, .int .u8 x.f6.f9, .int .u8 x.f6.f10, .int .u8 x.f6.f11, .int .u8 x.f6.f12, .int .u8 x.f6.f13, .int .u8 x.f6.f14, .int .u8 x.f6.f15] (fun _ => True) (fun _ => False) rfl rfl ?aP (fun _ hk => hk.elim) ?aF ?aO ?aB ?aS ?aL ?_; (case aP => exact k77_mkM _ _ _ x); (case aB => exact HB.out); (case aF => exact (fun _ _ => trivial)); (case aO => exact HO.out); (case aS => exact HB.out.size); (case aL => exact HXL.out.2.1); intro vB wB ho hb hg hat; have HBn := Aside0.mk hb; have HOn := Aside0.mk (show Ow wB W3.heap.size vB LX from by rw [← HLX.out]; exact ho); clear HB HO ho hb hg hat; have HB := HBn; have HO := HOn; clear HBn HOn; have e0 := FC0.out _ HB.out; have e1 := FC1.out _ HB.out)
    | ((with_reducible refine gate_builtin (b := .append) (xs := #[.tmp 30, .tmp 34]) rfl ?_); at_builtin; refine Kd.R_append_rows k77 (w0 := W3) W3.heap.size rfl (.tmp 30) (.tmp 34) 22 77 (.agg #[(.string ⟨#[]⟩), (.string ⟨#[]⟩), (.int .i64 0), (.int .i64 0), (.int .i64 0), (.int .i64 0), (.int .u8 0), (.int .u8 0), (.int .u8 0), (.int .u8 0), (.int .u8 0), (.int .u8 0), (.int .u8 0), (.int .u8 0), (.int .u8 0), (.int .u8 0), (.int .u8 0), (.int .u8 0), (.int .u8 0), (.int .u8 0), (.int .u8 0), (.int .u8 0)]) 80 rfl Try.underlying22 info77 rfl (by decide) (by omega) vB LX L2 _ _ _ (fun _ => True) (fun _ => False) rfl rfl ?aO ?aR (fun _ _ h => h) (fun _ h => h.elim) ?aF ?aB ?aS ?aL ?_; (case aR => exact HCD.out _ HB.out); (case aB => exact HB.out); (case aF => exact (fun _ _ => trivial)); (case aO => exact HO.out); (case aS => exact HB.out.size); (case aL => exact HXL.out.2.2); intro vC wC ho hb hg hat; have HBn := Aside0.mk hb; have HOn := Aside0.mk (show Ow wC W3.heap.size vC RL from by rw [← HRL.out]; exact ho); clear HB HO ho hb hg hat; have HB := HBn; have HO := HOn; clear HBn HOn; have e0 := FC0.out _ HB.out; have e1 := FC1.out _ HB.out))
  go_ret
  exact ⟨_, rfl, Kd.R_lower HO.out HB3.out.size, below_tr2 (w := w) HB3.out HB.out⟩
end Go.Proofs.Ytalncokpbgbccaa.E

/- Neighbours: what Pack makes of two lists of which one is small, and of a node with one more entry. -/
namespace Go.Proofs.Ytalncokpbgbccaa.E
set_option linter.unusedVariables false
set_option linter.unusedSimpArgs false
open Go.RowKit Go.Proofs.YtalncokpbgbccaaW.PrintWords Go.Proofs.YtalncokpbgbccaaW.PrintLast Go.Proofs.YtalncokpbgbccaaW.PrintMore
theorem first_ge (f : Nat → Int) (t : Int) : ∀ n, t ≤ f n → ∃ i, i ≤ n ∧ t ≤ f i ∧ ∀ j, j < i → f j < t
  | 0, h => ⟨0, Nat.le_refl _, h, fun j hj => by omega⟩
  | n + 1, h => by
    by_cases hn : t ≤ f n
    · obtain ⟨i, h1, h2, h3⟩ := first_ge f t n hn
      exact ⟨i, by omega, h2, h3⟩
    · by_cases hx : ∃ i, i ≤ n ∧ t ≤ f i ∧ ∀ j, j < i → f j < t
      · obtain ⟨i, h1, h2, h3⟩ := hx
        exact ⟨i, by omega, h2, h3⟩
      · refine ⟨n + 1, Nat.le_refl _, h, fun j hj => ?_⟩
        apply Classical.byContradiction
        intro hlt
        obtain ⟨i, h1, h2, h3⟩ := first_ge f t j (by omega)
        exact hx ⟨i, by omega, h2, h3⟩
termination_by n => n
/-- both sides of the best cut of a list that isn't too heavy fit -/
theorem cut_fits {l : List S77} {level : Int} (hp : packable l level = true) (hW : 490 < wt level (bare level l)) (hT : wt level (bare level l) ≤ 697) (h2 : 2 ≤ l.length) :
    6 + wt level ((bare level l).take (bestN l level)) ≤ 496 ∧ 6 + (wt level (bare level l) - wt level ((bare level l).take (bestN l level)) - keyA l level (bestN l level)) ≤ 496 := by
  have hok := ((packable_iff l level).mp hp).2.2
  have hlen := bare_length level l
  obtain ⟨j, hj, hb, hmin⟩ := best_min l level (l.length - 1) (by omega)
  have hbn : bestN l level = j + 1 := by unfold bestN bestA; rw [hb]; simp
  rw [hbn]
  have hA : ∀ i, i < l.length → ahA l level i = 6 + wt level ((bare level l).take (i + 1)) := fun i hi => ahA_eq hp i hi
  have hTT : ahA l level (l.length - 1) = 6 + wt level (bare level l) := by rw [hA _ (by omega), show l.length - 1 + 1 = (bare level l).length by omega, List.take_length]
  have hlarg : ∀ i, i < l.length - 1 → largA l level i = mx (6 + wt level ((bare level l).take (i + 1))) (6 + (wt level (bare level l) - wt level ((bare level l).take (i + 1)) - keyA l level (i + 1))) := by
    intro i hi
    unfold largA
    rw [hA i (by omega), hTT]
    congr 1
    omega
  have hkey : ∀ i, 0 ≤ keyA l level i := by
    intro i
    unfold keyA
    split <;> omega
  have hent : ∀ i, i < l.length → (weighI ((bare level l).getD i z77) level).1 ≤ 117 := fun i hi => okB_small (all_at hok i (by omega))
  have hstep : ∀ i, i < l.length → wt level ((bare level l).take (i + 1)) = wt level ((bare level l).take i) + (weighI ((bare level l).getD i z77) level).1 := fun i hi => wt_take_succ level _ i (by omega)
  have hall : wt level ((bare level l).take l.length) = wt level (bare level l) := by rw [← hlen, List.take_length]
  have hnil : wt level ((bare level l).take 0) = 0 := by simp [wt]
  generalize wt level (bare level l) = T at *
  generalize hc : (fun i => wt level ((bare level l).take i)) = c
  have ec : ∀ i, wt level ((bare level l).take i) = c i := fun i => congrFun hc i
  generalize he : (fun i => (weighI ((bare level l).getD i z77) level).1) = e
  have ee : ∀ i, (weighI ((bare level l).getD i z77) level).1 = e i := fun i => congrFun he i
  generalize hk : keyA l level = K at *
  simp only [ec, ee] at *
  obtain ⟨i, i1, i2, i3⟩ := first_ge c (T - 490) l.length (by omega)
  have hi0 : i ≠ 0 := by intro h0; subst h0; omega
  obtain ⟨m, rfl⟩ : ∃ m, i = m + 1 := ⟨i - 1, by omega⟩
  have s1 := hstep m (by omega)
  have s2 := hent m (by omega)
  have s3 := i3 m (by omega)
  have s4 : m + 1 < l.length := by
    apply Classical.byContradiction
    intro hn
    rw [show m + 1 = l.length by omega] at s1
    omega
  have l1 := hlarg m (by omega)
  have l2 := hlarg j hj
  have hm := hmin m (by omega)
  have k1 := hkey (m + 1)
  unfold mx at l1 l2
  split at l1 <;> split at l2 <;> omega
/-- a list that isn't too heavy makes two nodes at most -/
theorem two_parts {l : List S77} {level : Int} (hp : packable l level = true) (hbr : bare level l = l) (hT : wt level l ≤ 697) (f : Nat) (x : List (List S77) × List ByteArray) (h : packO f l level = some x) : x.1.length ≤ 2 := by
  cases f with
  | zero => cases h
  | succ f =>
    rw [packO, hbr] at h
    split at h
    · cases h; simp
    rename_i hnf
    split at h
    · cases h
    obtain ⟨_, hb1, hb2⟩ := bestN_spec l level (by omega)
    obtain ⟨c1, c2⟩ := cut_fits hp (by rw [hbr]; omega) (by rw [hbr]; exact hT) (by omega)
    rw [hbr] at c1 c2
    generalize bestN l level = b at h hb1 hb2 c1 c2
    obtain ⟨y, hy, h⟩ := Option.bind_eq_some_iff.mp h
    obtain ⟨z, hz, h⟩ := Option.bind_eq_some_iff.mp h
    cases h
    have wz : 6 + (wt level l - wt level (l.take b) - keyA l level b) = 6 + wt level (bare level (l.drop b)) := by
      rw [wt_bare _ _ (by simp; omega), getD_drop, Nat.add_zero, keyA]
      have := wt_split level l b
      omega
    rw [wz] at c2
    cases f with
    | zero => cases hy
    | succ f =>
      rw [packO, bare_take, hbr, if_pos c1] at hy
      rw [packO, bare_bare, if_pos c2] at hz
      cases hy
      cases hz
      simp
theorem small_not {p : List S77} {level : Int} (hpk : packable p level = true) (hbar : bare level p = p) (hbig : 166 ≤ 6 + wt level p) : smallB p level = false := by
  have hw : weightO p level = some (6 + wt level p) := by
    have := packable_weight hpk
    rwa [hbar] at this
  unfold smallB
  rw [hw]
  exact decide_eq_false (by omega)
theorem wt_nonneg (level : Int) (l : List S77) : 0 ≤ wt level l := by
  induction l with
  | nil => simp [wt]
  | cons x r ih =>
    have h : 0 ≤ (weighI x level).1 := by
      unfold weighI
      split
      · show 0 ≤ (x.f0.size : Int) + 27; omega
      split
      · show 0 ≤ (x.f0.size : Int) + (x.f1.size : Int) + 5; omega
      split
      · show 0 ≤ (x.f0.size : Int) + 27; omega
      split
      · show 0 ≤ (x.f0.size : Int) + 29; omega
      · show (0 : Int) ≤ 0; omega
    simp only [wt, List.map_cons, List.sum_cons] at ih ⊢
    omega
theorem weightO_some {l : List S77} {level : Int} {n : Int} (h : weightO l level = some n) : l.all (okB level) = true ∧ n = 6 + wt level l := by
  have hl : inB level 0 20 = true := by
    unfold weightO at h
    split at h
    · assumption
    · cases h
  rw [weightO_eq level l hl] at h
  split at h
  · cases h; exact ⟨by assumption, rfl⟩
  · cases h
theorem oneB_ok {x : S77} {level : Int} (h : oneB x level = true) : okB level x = true := by
  unfold oneB at h
  rw [Bool.and_eq_true] at h
  obtain ⟨n, hn⟩ := Option.isSome_iff_exists.1 h.2
  simpa using (weightO_some hn).1
theorem eachB_ok {l : List S77} {level : Int} (h : eachB l level = true) : l.all (okB level) = true := by
  rw [List.all_eq_true]
  intro x hx
  exact oneB_ok (List.all_eq_true.1 h x hx)
/-- what Pack answers of a list that may be packed -/
theorem packR_two {l : List S77} {level : Int} (ho : ordL l level = true) (hok : l.all (okB level) = true) (hT : wt level l ≤ 697) :
    (packR l level).2 = 0 ∧ (packR l level).1.1.length ≤ 2 ∧ (0 < (packR l level).1.1.length → (packR l level).1.2.length + 1 = (packR l level).1.1.length)
    ∧ (∀ i, i < (packR l level).1.1.length → 2 ≤ (packR l level).1.1.length → smallB ((packR l level).1.1.getD i []) level = false)
    ∧ (∀ i, i < (packR l level).1.1.length → ((packR l level).1.1.getD i []).length ≤ l.length ∧ ∀ y ∈ (packR l level).1.1.getD i [], y.f0.size ≤ 48 ∧ (∃ z ∈ l, y.f1 = z.f1)) := by
  have hbr := ord_bare ho
  have hp : packable l level = true := (packable_iff l level).mpr ⟨ord_level ho, by have := ho; rw [ordL, Bool.and_eq_true] at this; simpa using this.2, by rw [hbr]; exact hok⟩
  by_cases h0 : l.length = 0
  · have hR : packR l level = (([], []), 0) := by rw [packR, if_pos hp, if_pos h0]
    rw [hR]
    exact ⟨rfl, by simp, by simp, by simp, by simp⟩
  · obtain ⟨x, hx⟩ := packO_some level (l.length + 1) l (by omega) hp
    have hR : packR l level = (x, 0) := by rw [packR, if_pos hp, if_neg h0, hx]
    rw [hR]
    have e1 := packO_len _ l level x (by omega) hx
    have e2 := packO_seps level _ l x (by omega) hx
    have e3 := packO_parts level _ l x (by omega) hp hbr hx
    refine ⟨rfl, two_parts hp hbr hT _ x hx, fun _ => e1.2, fun i hi h2 => small_not (e3 i hi).pack (e3 i hi).bar ((e3 i hi).big (Or.inl h2)), fun i hi => ?_⟩
    have h := e3 i hi
    have ha := atP_succ x.1 i hi
    have hb := atP_le x.1 (i + 1) x.1.length hi (Nat.le_refl _)
    rw [e2.1] at hb
    refine ⟨by show (x.1.getD i []).length ≤ _; omega, fun y hy => ?_⟩
    have hy' : y ∈ bare level ((l.drop (atP x.1 i)).take (x.1.getD i []).length) := by rw [← h.is]; exact hy
    have hkey : ∀ z ∈ l, z.f0.size ≤ 48 := by
      intro z hz
      have hz2 := List.all_eq_true.1 hok z hz
      unfold okB weighI at hz2
      split at hz2
      · have h3 : brB z = true := hz2
        unfold brB at h3
        simp only [Bool.and_eq_true, decide_eq_true_eq] at h3
        exact h3.1
      · refine form_key (x := z) (fun hf => ?_)
        rw [if_neg (by omega), if_neg (by omega), if_neg (by omega)] at hz2
        cases hz2
    have hmem : ∀ q : List S77, (∀ z ∈ q, z ∈ l) → y ∈ bare level q → y.f0.size ≤ 48 ∧ ∃ z ∈ l, y.f1 = z.f1 := by
      intro q hq hyq
      unfold bare at hyq
      split at hyq
      · cases q with
        | nil => simp at hyq
        | cons z r =>
          rcases List.mem_cons.1 hyq with e | e
          · rw [e]; exact ⟨by show (0 : Nat) ≤ 48; omega, z, hq z (by simp), rfl⟩
          · exact ⟨hkey y (hq y (by simp [e])), y, hq y (by simp [e]), rfl⟩
      · exact ⟨hkey y (hq y hyq), y, hq y hyq, rfl⟩
    exact hmem _ (fun z hz => List.mem_of_mem_drop (List.mem_of_mem_take hz)) hy'
/-- a node that fits, with one more entry -/
theorem put_two {a : List S77} {x : S77} {level : Int} (r : Nat) (is : Bool) (hr : rightB a level = true) (hf : fitsL a level = true) (hx : oneB x level = true) (ho : ordL (rputL a x r is) level = true) :
    (rputL a x r is).all (okB level) = true ∧ wt level (rputL a x r is) ≤ 697 := by
  have hv : validL a level = true := by unfold rightB at hr; simp only [Bool.and_eq_true] at hr; exact hr.2.2
  have hok := valid_okB hv
  have hxo := oneB_ok hx
  have hxw := okB_small hxo
  have hw : wt level a ≤ 490 := by
    unfold fitsL at hf
    rw [Bool.and_eq_true, decide_eq_true_eq] at hf
    have hl : inB level 0 20 = true := by unfold validL at hv; simp only [Bool.and_eq_true] at hv; exact hv.1
    rw [weightO_eq level a hl, if_pos hok] at hf
    have := hf.2
    simp only [weightR] at this
    omega
  have hd : wt level (a.drop (if is = true then r + 1 else r)) ≤ wt level (a.drop r) := by
    split
    · have h1 := wt_split level (a.drop r) 1
      rw [List.drop_drop] at h1
      have h2 := wt_nonneg level ((a.drop r).take 1)
      omega
    · exact Int.le_refl _
  have hs := wt_split level a r
  constructor
  · rw [List.all_eq_true]
    intro y hy
    unfold rputL at hy
    rw [List.mem_append, List.mem_append, List.mem_singleton] at hy
    rcases hy with (hy | hy) | hy
    · exact List.all_eq_true.1 hok y (List.mem_of_mem_take hy)
    · rw [hy]; exact hxo
    · exact List.all_eq_true.1 hok y (List.mem_of_mem_drop hy)
  · unfold rputL
    rw [wt_append, wt_append, show wt level [x] = (weighI x level).1 from wt_single level [x] rfl]
    omega
theorem less_to (a s b : List UInt8) (h1 : Op.bytesLess a s = true) (h2 : Op.bytesLess b s = false) : Op.bytesLess a b = true := by
  cases h : Op.bytesLess a b with
  | true => rfl
  | false =>
    have h3 := less_total b a
    rw [h] at h3
    have h4 : Op.bytesLess b a = true ∨ (b == a) = true := by simpa using h3
    rcases h4 with h4 | h4
    · rw [less_tr _ _ _ h4 h1] at h2; cases h2
    · rw [beq_iff_eq.1 h4, h1] at h2; cases h2
theorem getD_app_l (a b : List S77) (i : Nat) (h : i < a.length) : (a ++ b).getD i z77 = a.getD i z77 := by simp [List.getD, List.getElem?_append, h]
theorem getD_app_r (a b : List S77) (i : Nat) : (a ++ b).getD (a.length + i) z77 = b.getD i z77 := by
  rw [List.getD, List.getD, List.getElem?_append_right (by omega), Nat.add_sub_cancel_left]
theorem okAt_iff {l : List S77} {level : Int} {i : Nat} (h : ¬ (level > 0 ∧ i = 0)) : okAt l level i = true ↔ 1 ≤ (l.getD i z77).f0.size ∧ (l.getD i z77).f0.size ≤ 48 ∧ (i = 0 ∨ Op.bytesLess (l.getD (i - 1) z77).f0.toList (l.getD i z77).f0.toList = true) := by
  unfold okAt
  rw [if_neg h]
  simp only [Bool.and_eq_true, Bool.or_eq_true, decide_eq_true_eq]
/-- two neighbours with a key between them are in order -/
theorem comb_ord {a b : List S77} {sep : ByteArray} {level : Int} (ha : ordL a level = true) (hb : ordL b level = true) (hs : betwB a b sep level = true) : ordL (combL a b sep level) level = true := by
  have hlv := ord_level ha
  have h0 : 0 ≤ level := by unfold inB at hlv; simp at hlv; omega
  have oa : ∀ i, i < a.length → okAt a level i = true := by have := ha; rw [ordL, Bool.and_eq_true] at this; simpa using this.2
  have ob : ∀ i, i < b.length → okAt b level i = true := by have := hb; rw [ordL, Bool.and_eq_true] at this; simpa using this.2
  unfold betwB at hs
  simp only [Bool.and_eq_true, decide_eq_true_eq] at hs
  obtain ⟨s1, s2, s3, s4⟩ := hs
  have hlow : ∀ i, i < b.length → lowAt b sep level i = false := by
    intro i hi
    have h4 : (List.range b.length).any (lowAt b sep level) = false := by simpa using s4
    rw [List.any_eq_false] at h4
    simpa using h4 i (by simpa using hi)
  rw [ordL, hlv, Bool.true_and, List.all_eq_true]
  intro i hi
  have hi' : i < (combL a b sep level).length := by simpa using hi
  have hlen : (combL a b sep level).length = a.length + b.length := by unfold combL; split <;> simp
  rw [hlen] at hi'
  by_cases ga : a.length = 0
  · have e : combL a b sep level = b := by
      unfold combL
      rw [if_neg (by omega)]
      rw [List.length_eq_zero_iff.1 ga]; rfl
    rw [e]
    exact ob i (by omega)
  have hlast : Op.bytesLess (a.getD (a.length - 1) z77).f0.toList sep.toList = true := by
    have h3 : decide (a.length = 0) = true ∨ Op.bytesLess (a.getD (a.length - 1) z77).f0.toList sep.toList = true := by simpa using s3
    rcases h3 with h | h
    · exact absurd (of_decide_eq_true h) ga
    · exact h
  by_cases gl : level > 0
  · by_cases gb : 0 < b.length
    · have e : combL a b sep level = (a ++ b).set a.length (setKey ((a ++ b).getD a.length z77) sep) := by unfold combL; rw [if_pos ⟨gl, by omega, gb⟩]
      obtain ⟨y0, hy0⟩ : ∃ y0, (a ++ b).getD a.length z77 = y0 := ⟨_, rfl⟩
      rw [hy0] at e
      rw [e]
      clear hy0
      have hget : ∀ k, ((a ++ b).set a.length (setKey y0 sep)).getD k z77 = if k = a.length then setKey y0 sep else (a ++ b).getD k z77 := by
        intro k
        by_cases hk : k = a.length
        · subst hk
          rw [if_pos rfl, List.getD, List.getElem?_set_self (by rw [List.length_append]; omega)]
          rfl
        · rw [if_neg hk, List.getD, List.getD, List.getElem?_set_ne (Ne.symm hk)]
      by_cases hz : level > 0 ∧ i = 0
      · have h1 := hget i
        rw [if_neg (by omega), getD_app_l _ _ _ (by omega)] at h1
        have := oa i (by omega)
        rw [okAt, if_pos hz] at this ⊢
        rw [h1]; exact this
      · have hi0 : i ≠ 0 := fun h => hz ⟨gl, h⟩
        rw [okAt_iff hz]
        by_cases c1 : i < a.length
        · have h1 := hget i
          rw [if_neg (by omega), getD_app_l _ _ _ c1] at h1
          have h2 := hget (i - 1)
          rw [if_neg (by omega), getD_app_l _ _ _ (by omega)] at h2
          rw [h1, h2]
          exact (okAt_iff hz).1 (oa i c1)
        · by_cases c2 : i = a.length
          · subst c2
            have h1 := hget a.length
            rw [if_pos rfl] at h1
            have h2 := hget (a.length - 1)
            rw [if_neg (by omega), getD_app_l _ _ _ (by omega)] at h2
            rw [h1, h2]
            exact ⟨s1, s2, Or.inr hlast⟩
          · obtain ⟨j, rfl⟩ : ∃ j, i = a.length + (j + 1) := ⟨i - a.length - 1, by omega⟩
            obtain ⟨q1, q2, q3⟩ := (okAt_iff (l := b) (level := level) (i := j + 1) (by omega)).1 (ob (j + 1) (by omega))
            have h1 := hget (a.length + (j + 1))
            rw [if_neg (by omega), getD_app_r] at h1
            rw [h1]
            refine ⟨q1, q2, Or.inr ?_⟩
            by_cases c3 : j = 0
            · subst c3
              have h2 := hget (a.length + (0 + 1) - 1)
              rw [if_pos (by omega)] at h2
              rw [h2]
              show Op.bytesLess sep.toList (b.getD (0 + 1) z77).f0.toList = true
              have hl := hlow (0 + 1) (by omega)
              unfold lowAt at hl
              rw [decide_eq_true (show 0 < 0 + 1 by omega), decide_eq_true gl, Bool.true_or, Bool.true_and, Bool.true_and, less_total] at hl
              simpa using hl
            · have h2 := hget (a.length + (j + 1) - 1)
              rw [if_neg (by omega), show a.length + (j + 1) - 1 = a.length + j by omega, getD_app_r] at h2
              rw [show a.length + (j + 1) - 1 = a.length + j by omega, h2]
              rcases q3 with h | h
              · omega
              · simpa using h
    · have e : combL a b sep level = a := by
        unfold combL
        rw [if_neg (by omega)]
        rw [List.length_eq_zero_iff.1 (show b.length = 0 by omega), List.append_nil]
      rw [e]
      exact oa i (by omega)
  · have hz : level = 0 := by omega
    have e : combL a b sep level = a ++ b := by unfold combL; rw [if_neg (fun h => gl h.1)]
    rw [e]
    have hnz : ∀ k : Nat, ¬ (level > 0 ∧ k = 0) := fun k h => gl h.1
    rw [okAt_iff (hnz i)]
    by_cases c1 : i < a.length
    · rw [getD_app_l _ _ _ c1, getD_app_l _ _ _ (by omega)]
      exact (okAt_iff (hnz i)).1 (oa i c1)
    · obtain ⟨j, rfl⟩ : ∃ j, i = a.length + j := ⟨i - a.length, by omega⟩
      obtain ⟨q1, q2, q3⟩ := (okAt_iff (hnz j)).1 (ob j (by omega))
      rw [getD_app_r]
      refine ⟨q1, q2, Or.inr ?_⟩
      by_cases c3 : j = 0
      · subst c3
        rw [Nat.add_zero, getD_app_l _ _ _ (by omega)]
        refine less_to _ sep.toList _ hlast ?_
        have hl := hlow 0 (by omega)
        unfold lowAt at hl
        rw [decide_eq_true hz, Bool.or_true, Bool.true_and] at hl
        cases hq : Op.bytesLess (b.getD 0 z77).f0.toList sep.toList with
        | false => rfl
        | true => rw [hq, Bool.true_or] at hl; cases hl
      · rw [show a.length + j - 1 = a.length + (j - 1) by omega, getD_app_r]
        rcases q3 with h | h
        · omega
        · exact h
theorem okB_key {x : S77} {level : Int} {s : ByteArray} (hl : level > 0) (hs : s.size ≤ 48) (h : okB level x = true) : okB level (setKey x s) = true := by
  unfold okB weighI at *
  rw [if_pos hl] at *
  have h2 : brB x = true := h
  show brB (setKey x s) = true
  unfold brB at *
  simp only [Bool.and_eq_true, decide_eq_true_eq] at h2 ⊢
  exact ⟨hs, h2.2⟩
theorem comb_weight {a b : List S77} {sep : ByteArray} {level : Int} (ha : a.all (okB level) = true) (hb : b.all (okB level) = true) (hs : sep.size ≤ 48) :
    (combL a b sep level).all (okB level) = true ∧ wt level (combL a b sep level) ≤ wt level a + wt level b + 48 := by
  have hab : (a ++ b).all (okB level) = true := by rw [List.all_append, ha, hb]; rfl
  unfold combL
  split
  · rename_i h
    obtain ⟨hl, h1, h2⟩ := h
    obtain ⟨y, r, rfl⟩ : ∃ y r, b = y :: r := by
      cases b with
      | nil => simp at h2
      | cons y r => exact ⟨y, r, rfl⟩
    have hg : (a ++ y :: r).getD a.length z77 = y := by simp [List.getD]
    rw [hg, List.set_append_right _ _ (Nat.le_refl _), Nat.sub_self, List.set_cons_zero]
    have hy : okB level y = true := by simp at hb; exact hb.1
    constructor
    · rw [List.all_append, ha]
      simp only [List.all_cons, Bool.true_and, okB_key hl hs hy]
      simp at hb ⊢
      exact hb.2
    · rw [wt_append, show setKey y sep :: r = [setKey y sep] ++ r from rfl, show y :: r = [y] ++ r from rfl, wt_append, wt_append, wt_single level [setKey y sep] rfl, wt_single level [y] rfl]
      have h1 := okB_up hl (okB_key (s := sep) hl hs hy)
      have h2 := okB_up hl hy
      have h3 : (setKey y sep).f0.size = sep.size := rfl
      have e1 : (weighI ([setKey y sep].getD 0 z77) level).1 = (weighI (setKey y sep) level).1 := rfl
      have e2 : (weighI ([y].getD 0 z77) level).1 = (weighI y level).1 := rfl
      rw [e1, e2]
      omega
  · exact ⟨hab, by rw [wt_append]; omega⟩
theorem light_wt {l : List S77} {level : Int} (h : lightB l level = true) : wt level l ≤ 490 := by
  unfold lightB at h
  split at h
  · rename_i n hn
    have := (weightO_some hn).2
    have h2 := of_decide_eq_true h
    omega
  · cases h
theorem small_wt {l : List S77} {level : Int} (h : smallB l level = true) : wt level l ≤ 159 := by
  unfold smallB at h
  split at h
  · rename_i n hn
    have := (weightO_some hn).2
    have h2 := of_decide_eq_true h
    omega
  · cases h
end Go.Proofs.Ytalncokpbgbccaa.E

