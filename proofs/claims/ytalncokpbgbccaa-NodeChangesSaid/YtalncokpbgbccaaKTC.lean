-- A slim copy of TC, written by wip/tools/prune2.py.
import Derived.Test.YtalncokpbgbccaaKTB
/- The reference's PutEntry. -/
namespace Go.Proofs.Ytalncokpbgbccaa.E
set_option linter.unusedVariables false
set_option linter.unusedSimpArgs false
open Go.RowKit Go.Proofs.YtalncokpbgbccaaW.PrintWords Go.Proofs.YtalncokpbgbccaaW.PrintLast Go.Proofs.YtalncokpbgbccaaW.PrintMore
/-- a list with an entry put in at place r, in the place of the one there if is -/
def rputL (l : List S77) (x : S77) (r : Nat) (is : Bool) : List S77 := l.take r ++ [x] ++ l.drop (if is = true then r + 1 else r)
set_option maxRecDepth 100000 in
set_option maxHeartbeats 8000000 in
theorem rput_is (l : List S77) (x : S77) (A : Option Addr) (c : Nat) (r : Nat) (w : World) (hr : Kd.C k77 w A l.length l) (hc : l.length ≤ c) (hl : l.length ≤ 100000) (hrl : r ≤ l.length) (his : r < l.length) (HS : Aside0 (Say w 30 #[.slice A l.length c, .string x.f0] (.agg #[.int .i64 (r : Int), .bool true]))) :
    Calls Try.prog 50 #[.slice A l.length c, .agg (entC x)] w fun e w' => ∃ v, e = .returned v ∧ Ow w' w.heap.size v (rputL l x r true) ∧ Below w.heap.size w w' := by
  rw [show rputL l x r true = l.take r ++ [x] ++ l.drop (r + 1) from rfl]
  obtain ⟨RL, hRL⟩ : ∃ RL, l.take r ++ [x] ++ l.drop (r + 1) = RL := ⟨_, rfl⟩
  have HRL := Aside0.mk hRL
  rw [hRL]
  clear hRL
  have hu39 := Try.underlying39
  have HR := Aside0.mk hr
  have HRL0 := Aside0.mk hrl
  have HLL := Aside0.mk hl
  have HC := Aside0.mk hc
  have HIS := Aside0.mk his
  clear hr hc hl hrl his
  go_enter Try.func50, Try.ntmps50
  go_upto_region 2 with (first | ((with_reducible refine gate_dst (N := 3) rfl ?_); refine box_event (hgd := rfl) (N := 3) rfl (cs := entC x) (t := 77) (by go_simp) ?_; intro g hg_ w1 HG hb; (subst hg_); have HD := Aside0.mk (show Hd w w.heap.size (entC x) w1 from ⟨HG, hb⟩); have HB1 := Aside0.mk hb; have c0 := hd_key HD.out; clear HG hb) | ((go_at_call 30); (with_reducible refine (HS.out _ HB1.out).mono ?_); rintro e w2 ⟨rfl, hb⟩; have HDn := Aside0.mk (hd_call HD.out hb); clear HD hb c0 HB1; have HD := HDn; clear HDn))
  have HX3 := Aside0.mk (blk_alloc HD.out.1 (.cells #[.int .i64 (r : Int), .bool true] 39))
  have HG3 := Aside0.mk (blk_new w2 (.cells #[.int .i64 (r : Int), .bool true] 39))
  have HB3 := Aside0.mk (below_alloc HD.out.2 (.cells #[.int .i64 (r : Int), .bool true] 39))
  clear HS HD
  generalize w2.alloc (.cells #[.int .i64 (r : Int), .bool true] 39) = W3 at HX3 HG3 HB3 ⊢
  generalize w2.heap.size = gs at HG3 ⊢
  have FX := Aside0.mk (fun (W : World) (hb : Below W3.heap.size W3 W) => (show Hd W3 w.heap.size (entC x) W from ⟨blk_below HX3.out hb, hb⟩))
  have FC0 := Aside0.mk (fun (W : World) (hb : Below W3.heap.size W3 W) => (show W.cell? ⟨gs, 0, none⟩ = some (.int .i64 (r : Int)) by rw [blk_cell (blk_below HG3.out hb)]; rfl))
  have FC1 := Aside0.mk (fun (W : World) (hb : Below W3.heap.size W3 W) => (show W.cell? ⟨gs, 1, none⟩ = some (.bool true) by rw [blk_cell (blk_below HG3.out hb)]; rfl))
  obtain ⟨i77, hi77, hsz⟩ := info77'
  have hcu0 := cut_to (P := Try.prog) 22 77 .i64 Try.underlying22 hi77 A l.length c (r : Int) (by omega) (by have := HRL0.out; omega) HC.out
  simp only [Int.toNat_natCast] at hcu0
  have hcv0 := cut_from (P := Try.prog) 22 77 .i64 Try.underlying22 hi77 22 hsz A l.length c ((r : Int) + 1) (by omega) (by have := HIS.out; omega)
  rw [show ((r : Int) + 1).toNat = r + 1 by omega] at hcv0
  have htl : (l.take r).length = r := by rw [List.length_take]; have := HRL0.out; omega
  have hdl : (l.drop (r + 1)).length = l.length - (r + 1) := by simp
  have HCT := Aside0.mk (fun (W : World) (hb : Below W3.heap.size W3 W) => (show Kd.C k77 W A r (l.take r) from C_take (Kd.C_below HR.out (below_tr2 (w := w) HB3.out hb)) HRL0.out))
  have HCD := Aside0.mk (fun (W : World) (hb : Below W3.heap.size W3 W) => C_drop (Kd.C_below HR.out (below_tr2 (w := w) HB3.out hb)) (show r + 1 ≤ l.length by have := HIS.out; omega) HC.out)
  have HXL := Aside0.mk (show ((([] : List S77).length + (l.take r).length) * 80 ≤ 140737488355328 ∧ ((l.take r).length + 1) * 80 ≤ 140737488355328 ∧ ((l.take r ++ [x]).length + (l.drop (r + 1)).length) * 80 ≤ 140737488355328) from by rw [List.length_append, htl, hdl]; simp only [List.length_nil, List.length_singleton]; have := HLL.out; have := HRL0.out; omega)
  rw [← hdl] at HCD hcv0
  obtain ⟨LX, hLX⟩ : ∃ LX, l.take r ++ [x] = LX := ⟨_, rfl⟩
  rw [hLX] at HRL HXL
  have HLX := Aside0.mk hLX
  clear hLX
  generalize (if c = r + 1 then A else A.map (·.add ((r + 1) * 22))) = A2 at HCD hcv0
  generalize c - (r + 1) = c2 at hcv0
  generalize l.drop (r + 1) = L2 at HCD hcv0 HXL HRL
  have HTL := Aside0.mk htl
  obtain ⟨L1, hL1⟩ : ∃ L1, l.take r = L1 := ⟨_, rfl⟩
  rw [hL1] at HTL HCT HXL HLX
  have hcu1 : ∀ W, (Instr.slice 22 (.slice A l.length c) none (some (.int .i64 (r : Int))) none).run Try.prog W = .ok (.slice A L1.length c) W := by rw [HTL.out]; exact hcu0
  clear hcu0 hi77 htl hL1 hdl hsz
  have hrw := w_succ r (by have := HIS.out; have := HLL.out; omega)
  go_wp2_with (first
    | ((with_reducible refine gate_dst (N := 11) rfl ?_); refine Kd.R_lit k77 W3.heap.size 77 rfl (N := 11) rfl (xs := ([] : List S77)) (inner := []) (ok := fun _ => True) (okp := fun _ => True) ?hr (Reps.none _ _) (fun _ hk => hk) trivial (Below.refl _ _) (Nat.le_refl _) (by simp) ?_; (case hr => first | (go_simp; done) | (go_simp; rfl)); intro vL wL ho hb hg_ hnew_; clear hg_ hnew_; have HB := Aside0.mk hb; have HO := Aside0.mk ho; (clear ho hb); have e0 := FC0.out _ HB.out; have e1 := FC1.out _ HB.out)
    | ((with_reducible refine gate_builtin (b := .append) (xs := #[.tmp 11, .tmp 15]) rfl ?_); at_builtin; refine Kd.R_append_rows k77 (w0 := W3) W3.heap.size rfl (.tmp 11) (.tmp 15) 22 77 (.agg #[(.string ⟨#[]⟩), (.string ⟨#[]⟩), (.int .i64 0), (.int .i64 0), (.int .i64 0), (.int .i64 0), (.int .u8 0), (.int .u8 0), (.int .u8 0), (.int .u8 0), (.int .u8 0), (.int .u8 0), (.int .u8 0), (.int .u8 0), (.int .u8 0), (.int .u8 0), (.int .u8 0), (.int .u8 0), (.int .u8 0), (.int .u8 0), (.int .u8 0), (.int .u8 0)]) 80 rfl Try.underlying22 info77 rfl (by decide) (by omega) vL ([] : List S77) L1 _ _ _ (fun _ => True) (fun _ => False) rfl rfl ?aO ?aR (fun _ _ h => h) (fun _ h => h.elim) ?aF ?aB ?aS ?aL ?_; (case aR => exact (by have := HCT.out _ HB.out; rwa [← HTL.out] at this)); (case aB => exact HB.out); (case aF => exact (fun _ _ => trivial)); (case aO => exact HO.out); (case aS => exact HB.out.size); (case aL => exact HXL.out.1); intro vA wA ho hb hg hat; have HBn := Aside0.mk hb; have HOn := Aside0.mk (show Ow wA W3.heap.size vA L1 from by simpa using ho); clear HB HO ho hb hg hat; have HB := HBn; have HO := HOn; clear HBn HOn; have e0 := FC0.out _ HB.out; have e1 := FC1.out _ HB.out)
    | ((with_reducible refine gate_dst (N := 18) rfl ?_); refine wpList_load_hd (w0 := W3) (g := w.heap.size) (x := x) (FX.out _ HB.out) rfl (.tmp 3) rfl rfl ?_; dsimp only [entC])
    | ((with_reducible refine gate_builtin (b := .append) (xs := #[.tmp 17, .tmp 19]) rfl ?_); at_builtin; refine Kd.R_append k77 (w0 := W3) W3.heap.size rfl (.tmp 17) (.tmp 19) 22 77 (.agg #[(.string ⟨#[]⟩), (.string ⟨#[]⟩), (.int .i64 0), (.int .i64 0), (.int .i64 0), (.int .i64 0), (.int .u8 0), (.int .u8 0), (.int .u8 0), (.int .u8 0), (.int .u8 0), (.int .u8 0), (.int .u8 0), (.int .u8 0), (.int .u8 0), (.int .u8 0), (.int .u8 0), (.int .u8 0), (.int .u8 0), (.int .u8 0), (.int .u8 0), (.int .u8 0)]) 80 rfl Try.underlying22 info77 rfl (by decide) (by omega) vA L1 x [.string x.f0, .string x.f1, .int .i64 x.f2, .int .i64 x.f3, .int .i64 x.f4, .int .i64 x.f5, .int .u8 x.f6.f0, .int .u8 x.f6.f1, .int .u8 x.f6.f2, .int .u8 x.f6.f3, .int .u8 x.f6.f4, .int .u8 x.f6.f5, .int .u8 x.f6.f6, .int .u8 x.f6.f7, .int .u8 x.f6.f8, .int .u8 x.f6.f9, .int .u8 x.f6.f10, .int .u8 x.f6.f11, .int .u8 x.f6.f12, .int .u8 x.f6.f13, .int .u8 x.f6.f14, .int .u8 x.f6.f15] (fun _ => True) (fun _ => False) rfl rfl ?aP (fun _ hk => hk.elim) ?aF ?aO ?aB ?aS ?aL ?_; (case aP => exact k77_mkM _ _ _ x); (case aB => exact HB.out); (case aF => exact (fun _ _ => trivial)); (case aO => exact HO.out); (case aS => exact HB.out.size); (case aL => exact HXL.out.2.1); intro vB wB ho hb hg hat; have HBn := Aside0.mk hb; have HOn := Aside0.mk (show Ow wB W3.heap.size vB LX from by rw [← HLX.out]; exact ho); clear HB HO ho hb hg hat; have HB := HBn; have HO := HOn; clear HBn HOn; have e0 := FC0.out _ HB.out; have e1 := FC1.out _ HB.out)
    | ((with_reducible refine gate_builtin (b := .append) (xs := #[.tmp 23, .tmp 28]) rfl ?_); at_builtin; refine Kd.R_append_rows k77 (w0 := W3) W3.heap.size rfl (.tmp 23) (.tmp 28) 22 77 (.agg #[(.string ⟨#[]⟩), (.string ⟨#[]⟩), (.int .i64 0), (.int .i64 0), (.int .i64 0), (.int .i64 0), (.int .u8 0), (.int .u8 0), (.int .u8 0), (.int .u8 0), (.int .u8 0), (.int .u8 0), (.int .u8 0), (.int .u8 0), (.int .u8 0), (.int .u8 0), (.int .u8 0), (.int .u8 0), (.int .u8 0), (.int .u8 0), (.int .u8 0), (.int .u8 0)]) 80 rfl Try.underlying22 info77 rfl (by decide) (by omega) vB LX L2 _ _ _ (fun _ => True) (fun _ => False) rfl rfl ?aO ?aR (fun _ _ h => h) (fun _ h => h.elim) ?aF ?aB ?aS ?aL ?_; (case aR => exact HCD.out _ HB.out); (case aB => exact HB.out); (case aF => exact (fun _ _ => trivial)); (case aO => exact HO.out); (case aS => exact HB.out.size); (case aL => exact HXL.out.2.2); intro vC wC ho hb hg hat; have HBn := Aside0.mk hb; have HOn := Aside0.mk (show Ow wC W3.heap.size vC RL from by rw [← HRL.out]; exact ho); clear HB HO ho hb hg hat; have HB := HBn; have HO := HOn; clear HBn HOn; have e0 := FC0.out _ HB.out; have e1 := FC1.out _ HB.out))
  go_ret
  exact ⟨_, rfl, Kd.R_lower HO.out HB3.out.size, below_tr2 (w := w) HB3.out HB.out⟩
set_option maxRecDepth 100000 in
set_option maxHeartbeats 8000000 in
theorem rput_not (l : List S77) (x : S77) (A : Option Addr) (c : Nat) (r : Nat) (w : World) (hr : Kd.C k77 w A l.length l) (hc : l.length ≤ c) (hl : l.length ≤ 100000) (hrl : r ≤ l.length) (HS : Aside0 (Say w 30 #[.slice A l.length c, .string x.f0] (.agg #[.int .i64 (r : Int), .bool false]))) :
    Calls Try.prog 50 #[.slice A l.length c, .agg (entC x)] w fun e w' => ∃ v, e = .returned v ∧ Ow w' w.heap.size v (rputL l x r false) ∧ Below w.heap.size w w' := by
  rw [show rputL l x r false = l.take r ++ [x] ++ l.drop (r) from rfl]
  obtain ⟨RL, hRL⟩ : ∃ RL, l.take r ++ [x] ++ l.drop (r) = RL := ⟨_, rfl⟩
  have HRL := Aside0.mk hRL
  rw [hRL]
  clear hRL
  have hu39 := Try.underlying39
  have HR := Aside0.mk hr
  have HRL0 := Aside0.mk hrl
  have HLL := Aside0.mk hl
  have HC := Aside0.mk hc
  clear hr hc hl hrl
  go_enter Try.func50, Try.ntmps50
  go_upto_region 2 with (first | ((with_reducible refine gate_dst (N := 3) rfl ?_); refine box_event (hgd := rfl) (N := 3) rfl (cs := entC x) (t := 77) (by go_simp) ?_; intro g hg_ w1 HG hb; (subst hg_); have HD := Aside0.mk (show Hd w w.heap.size (entC x) w1 from ⟨HG, hb⟩); have HB1 := Aside0.mk hb; have c0 := hd_key HD.out; clear HG hb) | ((go_at_call 30); (with_reducible refine (HS.out _ HB1.out).mono ?_); rintro e w2 ⟨rfl, hb⟩; have HDn := Aside0.mk (hd_call HD.out hb); clear HD hb c0 HB1; have HD := HDn; clear HDn))
  have HX3 := Aside0.mk (blk_alloc HD.out.1 (.cells #[.int .i64 (r : Int), .bool false] 39))
  have HG3 := Aside0.mk (blk_new w2 (.cells #[.int .i64 (r : Int), .bool false] 39))
  have HB3 := Aside0.mk (below_alloc HD.out.2 (.cells #[.int .i64 (r : Int), .bool false] 39))
  clear HS HD
  generalize w2.alloc (.cells #[.int .i64 (r : Int), .bool false] 39) = W3 at HX3 HG3 HB3 ⊢
  generalize w2.heap.size = gs at HG3 ⊢
  have FX := Aside0.mk (fun (W : World) (hb : Below W3.heap.size W3 W) => (show Hd W3 w.heap.size (entC x) W from ⟨blk_below HX3.out hb, hb⟩))
  have FC0 := Aside0.mk (fun (W : World) (hb : Below W3.heap.size W3 W) => (show W.cell? ⟨gs, 0, none⟩ = some (.int .i64 (r : Int)) by rw [blk_cell (blk_below HG3.out hb)]; rfl))
  have FC1 := Aside0.mk (fun (W : World) (hb : Below W3.heap.size W3 W) => (show W.cell? ⟨gs, 1, none⟩ = some (.bool false) by rw [blk_cell (blk_below HG3.out hb)]; rfl))
  obtain ⟨i77, hi77, hsz⟩ := info77'
  have hcu0 := cut_to (P := Try.prog) 22 77 .i64 Try.underlying22 hi77 A l.length c (r : Int) (by omega) (by have := HRL0.out; omega) HC.out
  simp only [Int.toNat_natCast] at hcu0
  have hcv0 := cut_from (P := Try.prog) 22 77 .i64 Try.underlying22 hi77 22 hsz A l.length c (r : Int) (by omega) (by have := HRL0.out; omega)
  rw [show ((r : Int)).toNat = r by omega] at hcv0
  have htl : (l.take r).length = r := by rw [List.length_take]; have := HRL0.out; omega
  have hdl : (l.drop (r)).length = l.length - (r) := by simp
  have HCT := Aside0.mk (fun (W : World) (hb : Below W3.heap.size W3 W) => (show Kd.C k77 W A r (l.take r) from C_take (Kd.C_below HR.out (below_tr2 (w := w) HB3.out hb)) HRL0.out))
  have HCD := Aside0.mk (fun (W : World) (hb : Below W3.heap.size W3 W) => C_drop (Kd.C_below HR.out (below_tr2 (w := w) HB3.out hb)) (show r ≤ l.length by have := HRL0.out; omega) HC.out)
  have HXL := Aside0.mk (show ((([] : List S77).length + (l.take r).length) * 80 ≤ 140737488355328 ∧ ((l.take r).length + 1) * 80 ≤ 140737488355328 ∧ ((l.take r ++ [x]).length + (l.drop (r)).length) * 80 ≤ 140737488355328) from by rw [List.length_append, htl, hdl]; simp only [List.length_nil, List.length_singleton]; have := HLL.out; have := HRL0.out; omega)
  rw [← hdl] at HCD hcv0
  obtain ⟨LX, hLX⟩ : ∃ LX, l.take r ++ [x] = LX := ⟨_, rfl⟩
  rw [hLX] at HRL HXL
  have HLX := Aside0.mk hLX
  clear hLX
  generalize (if c = r then A else A.map (·.add ((r) * 22))) = A2 at HCD hcv0
  generalize c - (r) = c2 at hcv0
  generalize l.drop (r) = L2 at HCD hcv0 HXL HRL
  have HTL := Aside0.mk htl
  obtain ⟨L1, hL1⟩ : ∃ L1, l.take r = L1 := ⟨_, rfl⟩
  rw [hL1] at HTL HCT HXL HLX
  have hcu1 : ∀ W, (Instr.slice 22 (.slice A l.length c) none (some (.int .i64 (r : Int))) none).run Try.prog W = .ok (.slice A L1.length c) W := by rw [HTL.out]; exact hcu0
  clear hcu0 hi77 htl hL1 hdl hsz
  go_wp2_with (first
    | ((with_reducible refine gate_dst (N := 11) rfl ?_); refine Kd.R_lit k77 W3.heap.size 77 rfl (N := 11) rfl (xs := ([] : List S77)) (inner := []) (ok := fun _ => True) (okp := fun _ => True) ?hr (Reps.none _ _) (fun _ hk => hk) trivial (Below.refl _ _) (Nat.le_refl _) (by simp) ?_; (case hr => first | (go_simp; done) | (go_simp; rfl)); intro vL wL ho hb hg_ hnew_; clear hg_ hnew_; have HB := Aside0.mk hb; have HO := Aside0.mk ho; (clear ho hb); have e0 := FC0.out _ HB.out; have e1 := FC1.out _ HB.out)
    | ((with_reducible refine gate_builtin (b := .append) (xs := #[.tmp 11, .tmp 15]) rfl ?_); at_builtin; refine Kd.R_append_rows k77 (w0 := W3) W3.heap.size rfl (.tmp 11) (.tmp 15) 22 77 (.agg #[(.string ⟨#[]⟩), (.string ⟨#[]⟩), (.int .i64 0), (.int .i64 0), (.int .i64 0), (.int .i64 0), (.int .u8 0), (.int .u8 0), (.int .u8 0), (.int .u8 0), (.int .u8 0), (.int .u8 0), (.int .u8 0), (.int .u8 0), (.int .u8 0), (.int .u8 0), (.int .u8 0), (.int .u8 0), (.int .u8 0), (.int .u8 0), (.int .u8 0), (.int .u8 0)]) 80 rfl Try.underlying22 info77 rfl (by decide) (by omega) vL ([] : List S77) L1 _ _ _ (fun _ => True) (fun _ => False) rfl rfl ?aO ?aR (fun _ _ h => h) (fun _ h => h.elim) ?aF ?aB ?aS ?aL ?_; (case aR => exact (by have := HCT.out _ HB.out; rwa [← HTL.out] at this)); (case aB => exact HB.out); (case aF => exact (fun _ _ => trivial)); (case aO => exact HO.out); (case aS => exact HB.out.size); (case aL => exact HXL.out.1); intro vA wA ho hb hg hat; have HBn := Aside0.mk hb; have HOn := Aside0.mk (show Ow wA W3.heap.size vA L1 from by simpa using ho); clear HB HO ho hb hg hat; have HB := HBn; have HO := HOn; clear HBn HOn; have e0 := FC0.out _ HB.out; have e1 := FC1.out _ HB.out)
    | ((with_reducible refine gate_dst (N := 18) rfl ?_); refine wpList_load_hd (w0 := W3) (g := w.heap.size) (x := x) (FX.out _ HB.out) rfl (.tmp 3) rfl rfl ?_; dsimp only [entC])
    | ((with_reducible refine gate_builtin (b := .append) (xs := #[.tmp 17, .tmp 19]) rfl ?_); at_builtin; refine Kd.R_append k77 (w0 := W3) W3.heap.size rfl (.tmp 17) (.tmp 19) 22 77 (.agg #[(.string ⟨#[]⟩), (.string ⟨#[]⟩), (.int .i64 0), (.int .i64 0), (.int .i64 0), (.int .i64 0), (.int .u8 0), (.int .u8 0), (.int .u8 0), (.int .u8 0), (.int .u8 0), (.int .u8 0), (.int .u8 0), (.int .u8 0), (.int .u8 0), (.int .u8 0), (.int .u8 0), (.int .u8 0), (.int .u8 0), (.int .u8 0), (.int .u8 0), (.int .u8 0)]) 80 rfl Try.underlying22 info77 rfl (by decide) (by omega) vA L1 x [.string x.f0, .string x.f1, .int .i64 x.f2, .int .i64 x.f3, .int .i64 x.f4, .int .i64 x.f5, .int .u8 x.f6.f0, .int .u8 x.f6.f1, .int .u8 x.f6.f2, .int .u8 x.f6.f3, .int .u8 x.f6.f4, .int .u8 x.f6.f5, .int .u8 x.f6.f6, .int .u8 x.f6.f7, .int .u8 x.f6.f8, .int .u8 x.f6.f9, .int .u8 x.f6.f10, .int .u8 x.f6.f11, .int .u8 x.f6.f12, .int .u8 x.f6.f13, .int .u8 x.f6.f14, .int .u8 x.f6.f15] (fun _ => True) (fun _ => False) rfl rfl ?aP (fun _ hk => hk.elim) ?aF ?aO ?aB ?aS ?aL ?_; (case aP => exact k77_mkM _ _ _ x); (case aB => exact HB.out); (case aF => exact (fun _ _ => trivial)); (case aO => exact HO.out); (case aS => exact HB.out.size); (case aL => exact HXL.out.2.1); intro vB wB ho hb hg hat; have HBn := Aside0.mk hb; have HOn := Aside0.mk (show Ow wB W3.heap.size vB LX from by rw [← HLX.out]; exact ho); clear HB HO ho hb hg hat; have HB := HBn; have HO := HOn; clear HBn HOn; have e0 := FC0.out _ HB.out; have e1 := FC1.out _ HB.out)
    | ((with_reducible refine gate_builtin (b := .append) (xs := #[.tmp 30, .tmp 34]) rfl ?_); at_builtin; refine Kd.R_append_rows k77 (w0 := W3) W3.heap.size rfl (.tmp 30) (.tmp 34) 22 77 (.agg #[(.string ⟨#[]⟩), (.string ⟨#[]⟩), (.int .i64 0), (.int .i64 0), (.int .i64 0), (.int .i64 0), (.int .u8 0), (.int .u8 0), (.int .u8 0), (.int .u8 0), (.int .u8 0), (.int .u8 0), (.int .u8 0), (.int .u8 0), (.int .u8 0), (.int .u8 0), (.int .u8 0), (.int .u8 0), (.int .u8 0), (.int .u8 0), (.int .u8 0), (.int .u8 0)]) 80 rfl Try.underlying22 info77 rfl (by decide) (by omega) vB LX L2 _ _ _ (fun _ => True) (fun _ => False) rfl rfl ?aO ?aR (fun _ _ h => h) (fun _ h => h.elim) ?aF ?aB ?aS ?aL ?_; (case aR => exact HCD.out _ HB.out); (case aB => exact HB.out); (case aF => exact (fun _ _ => trivial)); (case aO => exact HO.out); (case aS => exact HB.out.size); (case aL => exact HXL.out.2.2); intro vC wC ho hb hg hat; have HBn := Aside0.mk hb; have HOn := Aside0.mk (show Ow wC W3.heap.size vC RL from by rw [← HRL.out]; exact ho); clear HB HO ho hb hg hat; have HB := HBn; have HO := HOn; clear HBn HOn; have e0 := FC0.out _ HB.out; have e1 := FC1.out _ HB.out))
  go_ret
  exact ⟨_, rfl, Kd.R_lower HO.out HB3.out.size, below_tr2 (w := w) HB3.out HB.out⟩
end Go.Proofs.Ytalncokpbgbccaa.E

