-- A slim copy of XD, XE, written by wip/tools/prune2.py.
import Derived.Test.YtalncokpbgbccaaUNZ
import Derived.Test.YtalncokpbgbccaaUPG
import Derived.Test.YtalncokpbgbccaaUSP
/- The last part of the reference's pack: the parts and the separators of both halves are joined. -/
namespace Go.Proofs.Ytalncokpbgbccaa.E
set_option linter.unusedVariables false
set_option linter.unusedSimpArgs false
open Go.RowKit Go.Proofs.YtalncokpbgbccaaW.PrintWords Go.Proofs.YtalncokpbgbccaaW.PrintLast Go.Proofs.YtalncokpbgbccaaW.PrintMore
def rg79_21_T : Bool × List (List Nat × List Nat) := (true, [([], []), ([0], [0]), ([], []), ([2], [2]), ([1, 3], [1, 3]), ([], []), ([5], [5]), ([], []), ([7], [7]), ([6, 8, 4], [6, 8]), ([], []), ([10], [10]), ([9, 11, 9], [9, 11]), ([4, 12], [4, 12]), ([13, 12, 0, 1, 2, 3, 4, 5, 6, 7, 8, 9, 10, 11, 12, 13], [13])])
def rg79_21_B : List Nat := [0, 1, 0, 4, 15, 0, 32, 0, 128, 511, 0, 1024, 4095, 8191, 16383]
theorem rg79_21_tab : rtab .any (opsOf Try.f79 21) = rg79_21_T := by kernel_rfl
theorem rg79_21_bits : waitsOk rg79_21_T.2 rg79_21_B = true := by kernel_rfl
/-- the code behind the first n pieces of a body -/
def dropTo : Nat → Code → Code
  | 0, c => c
  | n + 1, .seq _ b => dropTo n b
  | _ + 1, _ => .skip
noncomputable def tail79d : Code := (Try.f79.body.map (dropTo 13)).getD .skip
/-- what the reference's pack answers -/
def RPack (w0 : World) (B : Nat) (x : List (List S77) × List ByteArray) (e : Ending) (w' : World) : Prop :=
  ∃ v1 v2, e = .returned (.agg #[v1, v2, .int .i64 0]) ∧ kN.R 22 w' B (fun _ => True) v1 x.1 ∧ (∀ k, v1.ownBlock = some k → w0.heap.size ≤ k) ∧ Kd.string.R 9 w' w0.heap.size (fun _ => True) v2 x.2 ∧ Below w0.heap.size w0 w'
/-- the rows of one list of rows, read beside the row of another one -/
theorem kN_src {W : World} {B B' n c : Nat} {A : Option Addr} {v1 : Value} {xs ys : List (List S77)} (h3 : kN.R 22 W B (fun _ => True) (.slice A n c) ys) (h1 : kN.R 22 W B' (fun _ => True) v1 xs) : ReadsRow (fun p cs => kN.M W B (fun k => some k ≠ v1.ownBlock) p cs) kN.sz W A n ys := by
  obtain ⟨_, hr⟩ := h3
  obtain ⟨A', c', he, hl, hrow⟩ := OwnRow.reads hr
  injection he with e1 e2 e3
  subst e1; subst e2; subst e3
  refine hrow.imp_ (Below.refl _ _) (fun p cs hp => kN.M_mono (fun k hk => ?_) (kN.M_bound hp))
  intro he
  obtain ⟨_, _, _, q, hq, cells, hc⟩ := hk
  obtain ⟨cells', hc'⟩ := Kd.R_typed h1 k he.symm
  rw [hc] at hc'
  injection hc' with hc'
  injection hc' with _ hc'
  rcases List.mem_cons.mp (show q ∈ 77 :: ([] : List Nat) from hq) with rfl | h
  · exact absurd hc' (by decide)
  · exact absurd h List.not_mem_nil
theorem size67 : (Try.prog.info? 67).map (·.size) = some 3 := by kernel_rfl
theorem store67 {W : World} (o : Oper) (a : Act) (p q : Operand) (ho : o.op = .store 67 p q) (g : Nat) (hx : a.eval p = .pointer (some ⟨g, 0, none⟩)) (cs : Array Value) (hy : a.eval q = .agg cs) (old : Array Value) (hg : W.heap[g]? = some (.cells old 67 (0, 0))) (hs : cs.size = 3) (hz : old.size = 3) (h1 : cs.all (·.oneCell') = true) :
    (execOp a.eval o).run Try.prog W = .ok .skip (W.setRow g cs) := by
  have hl := run_storeVar_row (P := Try.prog) W g 67 67 old cs hg (by rw [size67, hs]) (by rw [hz, hs]) h1
  unfold execOp
  simp only [ho, hx, hy, Instr.storeAt, Instr.sureAddr, Sem.run_bind, Sem.run_pure, Result.andThen_ok, hl]
theorem R_setRow {α : Type} {d : Kd α} {e base g t : Nat} {W : World} {v : Value} {xs : List α} {old cs : Array Value} (h : d.R e W base (fun _ => True) v xs) (hg : W.heap[g]? = some (.cells old t (0, 0))) (ht : ∀ q, q ∈ e :: d.E → q ≠ t) : d.R e (W.setRow g cs) base (fun _ => True) v xs :=
  Kd.R_mono (Kd.R_step (Kd.R_types h hg ht) (fun k hk _ => setRow_other _ _ _ _ hk.2)) (fun _ _ => trivial)
set_option maxRecDepth 1000000 in
set_option maxHeartbeats 8000000 in
theorem rpack_end {u0 u1 u2 u3 u5 u6 u7 u8 u9 u13 u14 u15 u16 u17 u18 u19 u20 u21 u22 u23 u24 u25 u26 u27 u28 u29 u30 u31 u32 u33 u34 u35 u36 u37 u38 u39 u40 u41 u42 u43 u44 u45 u46 u47 u48 u49 u50 u51 u52 u53 u54 u55 u56 u57 u58 u59 u60 u61 u62 u63 u64 u65 u66 u67 u68 u69 u70 u71 u72 u73 u74 u75 u76 u77 u78 u79 u80 u81 u82 u83 u84 u85 u86 u87 u88 u89 u90 u91 u92 u93 u94 u95 u96 u97 u98 u99 u100 : Value} {w0 w : World} {B g0 g1 g2 : Nat} {v1 v2 v3 v4 : Value} {sep : ByteArray} {x y : List (List S77) × List ByteArray} (hB : B ≤ w0.heap.size) (hg : w0.heap.size ≤ g0)
    (h0 : w.heap[g0]? = some (.cells #[.slice none 0 0, .slice none 0 0, .int .i64 0] 67 (0, 0))) (h1 : w.heap[g1]? = some (.cells #[v1, v2, .int .i64 0] 67 (0, 0))) (h2 : w.heap[g2]? = some (.cells #[v3, v4, .int .i64 0] 67 (0, 0)))
    (r1 : kN.R 22 w B (fun _ => True) v1 x.1) (b1 : ∀ k, v1.ownBlock = some k → w0.heap.size ≤ k) (r2 : Kd.string.R 9 w w0.heap.size (fun _ => True) v2 x.2) (r3 : kN.R 22 w B (fun _ => True) v3 y.1) (r4 : Kd.string.R 9 w w0.heap.size (fun k => True ∧ some k ≠ v2.ownBlock) v4 y.2)
    (hl1 : x.1.length + y.1.length ≤ 1000000) (hl2 : x.2.length + 1 + y.2.length ≤ 1000000) (hb : Below w0.heap.size w0 w) :
    Code.wp Try.prog tail79d (bodyPost Try.prog Try.f79 fun e w' => RPack w0 B (x.1 ++ y.1, x.2 ++ [sep] ++ y.2) e w') ⟨#[u0, u1, u2, u3, .pointer (some ⟨g0, 0, none⟩), u5, u6, u7, u8, u9, .string sep, .pointer (some ⟨g1, 0, none⟩), .pointer (some ⟨g2, 0, none⟩), u13, u14, u15, u16, u17, u18, u19, u20, u21, u22, u23, u24, u25, u26, u27, u28, u29, u30, u31, u32, u33, u34, u35, u36, u37, u38, u39, u40, u41, u42, u43, u44, u45, u46, u47, u48, u49, u50, u51, u52, u53, u54, u55, u56, u57, u58, u59, u60, u61, u62, u63, u64, u65, u66, u67, u68, u69, u70, u71, u72, u73, u74, u75, u76, u77, u78, u79, u80, u81, u82, u83, u84, u85, u86, u87, u88, u89, u90, u91, u92, u93, u94, u95, u96, u97, u98, u99, u100], []⟩ w := by
  obtain ⟨A1, n1, c1, rfl⟩ : ∃ A n c, v1 = Value.slice A n c := by obtain ⟨A, c, h⟩ := Kd.R_slice r1; exact ⟨_, _, _, h⟩
  obtain ⟨A2, n2, c2, rfl⟩ : ∃ A n c, v2 = Value.slice A n c := by obtain ⟨A, c, h⟩ := Kd.R_slice r2; exact ⟨_, _, _, h⟩
  obtain ⟨A3, n3, c3, rfl⟩ : ∃ A n c, v3 = Value.slice A n c := by obtain ⟨A, c, h⟩ := Kd.R_slice r3; exact ⟨_, _, _, h⟩
  obtain ⟨A4, n4, c4, rfl⟩ : ∃ A n c, v4 = Value.slice A n c := by obtain ⟨A, c, h⟩ := Kd.R_slice r4; exact ⟨_, _, _, h⟩
  have HBS := Aside0.mk hB
  have HG0 := Aside0.mk hg
  have HB1 := Aside0.mk b1
  have HL1 := Aside0.mk hl1
  have HL2 := Aside0.mk hl2
  have I0 := Aside0.mk h0
  have I1 := Aside0.mk h1
  have I2 := Aside0.mk h2
  have J1 := Aside0.mk r1
  have J2 := Aside0.mk r2
  have J3 := Aside0.mk r3
  have J4 := Aside0.mk r4
  have JB := Aside0.mk hb
  clear hB hg b1 hl1 hl2 h0 h1 h2 r1 r2 r3 r4 hb
  conv => arg 2; whnf
  go_wp2_with fail
  refine start_ (n := 15) (S := fun W => W.heap[g1]? = some (.cells #[.slice A1 n1 c1, .slice A2 n2 c2, .int .i64 0] 67 (0, 0)) ∧ W.heap[g2]? = some (.cells #[.slice A3 n3 c3, .slice A4 n4 c4, .int .i64 0] 67 (0, 0))) (ds := [14]) #[false, false, false, false, false, false, false, false, false, false, false, false, false, false, false] (by kernel_rfl) rfl rfl ⟨blk_drew I1.out, blk_drew I2.out⟩ (fun hHeld => ?_)
  refine with_tabW rg79_21_tab rg79_21_bits (fun HT_ HW_ => ?_)
  have H0 := Aside0.mk (blk_drew I0.out)
  have H1 := Aside0.mk (blk_drew I1.out)
  have H2 := Aside0.mk (blk_drew I2.out)
  have R1 := Aside0.mk (Kd.R_drew J1.out)
  have R2 := Aside0.mk (Kd.R_drew J2.out)
  have R3 := Aside0.mk (Kd.R_drew J3.out)
  have R4 := Aside0.mk (Kd.R_drew J4.out)
  have HB := Aside0.mk (below_drew1 JB.out)
  clear I0 I1 I2 J1 J2 J3 J4 JB
  generalize w.drew = w1 at H0 H1 H2 R1 R2 R3 R4 HB hHeld ⊢
  refine pure_ (i := 0) (N := some 87) (v := ?_) (a' := ?_) #[true, false, false, false, false, false, false, false, false, false, false, false, false, false, false] rfl rfl (any_of HT_.out (by kernel_rfl)) (fun _ _ _ h => h) (Or.inl ⟨by rfl, ?_⟩) ?_ ?_
  rotate_left
  · intro w'
    go_simp
    with_reducible rfl
  rotate_left
  · simp only [Act.put, List.setIfInBounds_toArray, List.set_cons_zero, List.set_cons_succ, i64_w, i32_w]
    rfl
  refine pure_ (i := 2) (N := some 89) (v := ?_) (a' := ?_) #[true, false, true, false, false, false, false, false, false, false, false, false, false, false, false] rfl rfl (any_of HT_.out (by kernel_rfl)) (fun _ _ _ h => h) (Or.inl ⟨by rfl, ?_⟩) ?_ ?_
  rotate_left
  · intro w'
    go_simp
    with_reducible rfl
  rotate_left
  · simp only [Act.put, List.setIfInBounds_toArray, List.set_cons_zero, List.set_cons_succ, i64_w, i32_w]
    rfl
  refine pure_ (i := 5) (N := some 92) (v := ?_) (a' := ?_) #[true, false, true, false, false, true, false, false, false, false, false, false, false, false, false] rfl rfl (any_of HT_.out (by kernel_rfl)) (fun _ _ _ h => h) (Or.inl ⟨by rfl, ?_⟩) ?_ ?_
  rotate_left
  · intro w'
    go_simp
    with_reducible rfl
  rotate_left
  · simp only [Act.put, List.setIfInBounds_toArray, List.set_cons_zero, List.set_cons_succ, i64_w, i32_w]
    rfl
  refine pure_ (i := 7) (N := some 94) (v := ?_) (a' := ?_) #[true, false, true, false, false, true, false, true, false, false, false, false, false, false, false] rfl rfl (any_of HT_.out (by kernel_rfl)) (fun _ _ _ h => h) (Or.inl ⟨by rfl, ?_⟩) ?_ ?_
  rotate_left
  · intro w'
    go_simp
    with_reducible rfl
  rotate_left
  · simp only [Act.put, List.setIfInBounds_toArray, List.set_cons_zero, List.set_cons_succ, i64_w, i32_w]
    rfl
  refine pure_ (i := 10) (N := some 97) (v := ?_) (a' := ?_) #[true, false, true, false, false, true, false, true, false, false, true, false, false, false, false] rfl rfl (any_of HT_.out (by kernel_rfl)) (fun _ _ _ h => h) (Or.inl ⟨by rfl, ?_⟩) ?_ ?_
  rotate_left
  · intro w'
    go_simp
    with_reducible rfl
  rotate_left
  · simp only [Act.put, List.setIfInBounds_toArray, List.set_cons_zero, List.set_cons_succ, i64_w, i32_w]
    rfl
  refine take_ (i := 1) (N := some 88) (v := ?_) (a' := ?_) #[true, true, true, false, false, true, false, true, false, false, true, false, false, false, false] rfl rfl (take_ofW HT_.out HW_.out (by kernel_rfl)) (fun _ _ _ h => h) (Or.inl ⟨by rfl, ?_⟩) hHeld ?_ ?_
  rotate_left
  · intro w' hW
    have q : w'.cell? ⟨g1, 0, none⟩ = some (.slice A1 n1 c1) := by rw [blk_cell hW.1]; rfl
    go_simp
    with_reducible rfl
  rotate_left
  · simp only [Act.put, List.setIfInBounds_toArray, List.set_cons_zero, List.set_cons_succ, i64_w, i32_w]
    rfl
  refine take_ (i := 3) (N := some 90) (v := ?_) (a' := ?_) #[true, true, true, true, false, true, false, true, false, false, true, false, false, false, false] rfl rfl (take_ofW HT_.out HW_.out (by kernel_rfl)) (fun _ _ _ h => h) (Or.inl ⟨by rfl, ?_⟩) hHeld ?_ ?_
  rotate_left
  · intro w' hW
    have q : w'.cell? ⟨g2, 0, none⟩ = some (.slice A3 n3 c3) := by rw [blk_cell hW.2]; rfl
    go_simp
    with_reducible rfl
  rotate_left
  · simp only [Act.put, List.setIfInBounds_toArray, List.set_cons_zero, List.set_cons_succ, i64_w, i32_w]
    rfl
  refine take_ (i := 6) (N := some 93) (v := ?_) (a' := ?_) #[true, true, true, true, false, true, true, true, false, false, true, false, false, false, false] rfl rfl (take_ofW HT_.out HW_.out (by kernel_rfl)) (fun _ _ _ h => h) (Or.inl ⟨by rfl, ?_⟩) hHeld ?_ ?_
  rotate_left
  · intro w' hW
    have q : w'.cell? ⟨g1, 1, none⟩ = some (.slice A2 n2 c2) := by rw [blk_cell hW.1]; rfl
    go_simp
    with_reducible rfl
  rotate_left
  · simp only [Act.put, List.setIfInBounds_toArray, List.set_cons_zero, List.set_cons_succ, i64_w, i32_w]
    rfl
  refine take_ (i := 11) (N := some 98) (v := ?_) (a' := ?_) #[true, true, true, true, false, true, true, true, false, false, true, true, false, false, false] rfl rfl (take_ofW HT_.out HW_.out (by kernel_rfl)) (fun _ _ _ h => h) (Or.inl ⟨by rfl, ?_⟩) hHeld ?_ ?_
  rotate_left
  · intro w' hW
    have q : w'.cell? ⟨g2, 1, none⟩ = some (.slice A4 n4 c4) := by rw [blk_cell hW.2]; rfl
    go_simp
    with_reducible rfl
  rotate_left
  · simp only [Act.put, List.setIfInBounds_toArray, List.set_cons_zero, List.set_cons_succ, i64_w, i32_w]
    rfl
  refine memo_ (fun X hX => ?_)
  have st11 : ∀ (A5 : Option Addr) (n5 c5 : Nat) (A6 : Option Addr) (n6 c6 : Nat) (W : World), Aside0 (W.heap[g0]? = some (.cells #[.slice none 0 0, .slice none 0 0, .int .i64 0] 67 (0, 0))) → Aside0 (W.heap[g1]? = some (.cells #[.slice A1 n1 c1, .slice A2 n2 c2, .int .i64 0] 67 (0, 0))) → Aside0 (W.heap[g2]? = some (.cells #[.slice A3 n3 c3, .slice A4 n4 c4, .int .i64 0] 67 (0, 0))) → Aside0 (kN.R 22 W B (fun _ => True) (.slice A5 n5 c5) (x.1 ++ y.1)) → Aside0 (∀ k, (Value.slice A5 n5 c5).ownBlock = some k → w0.heap.size ≤ k) → Aside0 (Kd.string.R 9 W w0.heap.size (fun _ => True) (.slice A2 n2 c2) x.2) → Aside0 (Kd.string.R 9 W w0.heap.size (fun k => True ∧ some k ≠ (Value.slice A2 n2 c2).ownBlock) (.slice A4 n4 c4) y.2) → Aside0 (Kd.string.R 9 W w0.heap.size (fun _ => True) (.slice A6 n6 c6) [sep]) → Aside0 (Below w0.heap.size w0 W) → X 4 #[true, true, true, true, true, true, true, true, true, false, true, true, false, false, false] { tmps := #[u0, u1, u2, u3, .pointer (some ⟨g0, 0, none⟩), u5, u6, u7, u8, u9, .string sep, .pointer (some ⟨g1, 0, none⟩), .pointer (some ⟨g2, 0, none⟩), u13, u14, u15, u16, u17, u18, u19, u20, u21, u22, u23, u24, u25, u26, u27, u28, u29, u30, u31, u32, u33, u34, u35, u36, u37, u38, u39, u40, u41, u42, u43, u44, u45, u46, u47, u48, u49, u50, u51, u52, u53, u54, u55, u56, u57, u58, u59, u60, u61, u62, u63, u64, u65, u66, u67, u68, u69, u70, u71, u72, u73, u74, u75, u76, u77, u78, u79, u80, u81, u82, u83, u84, u85, u86, .pointer (some ⟨g1, 0, none⟩), .slice A1 n1 c1, .pointer (some ⟨g2, 0, none⟩), .slice A3 n3 c3, .slice A5 n5 c5, .pointer (some ⟨g1, 1, none⟩), .slice A2 n2 c2, .string sep, .slice A6 n6 c6, u96, .pointer (some ⟨g2, 1, none⟩), .slice A4 n4 c4, u99, u100], defers := [] } W := by
    intro A5 n5 c5 A6 n6 c6 W H0 H1 H2 R5 B5 R2 R4 R6 HB
    refine (hX _ _ _ _).2 ?_
    refine one_ (i := 9) (N := some 96) #[true, true, true, true, true, true, true, true, true, true, true, true, false, false, false] rfl rfl (one_of HT_.out (by kernel_rfl)) (by decide) (fun K hK => ?_)
    refine Kd.R_append_rows_step Kd.string (w0 := w0) w0.heap.size (by rfl) (.tmp 93) (.tmp 95) 48 9 (.string ⟨#[]⟩) 16 rfl Try.underlying48 info9 rfl (by decide) (by omega) (.slice A2 n2 c2) x.2 [sep] A6 n6 c6 (fun _ => True) (fun _ => False) rfl rfl R2.out (by have h := Kd.R_reads' R6.out; rw [h.1]; exact h.2.2) (fun _ _ h => h) (fun _ h => h.elim) (fun _ _ => trivial) HB.out HB.out.size (by rw [(Kd.R_reads' R6.out).1]; have := HL2.out; simp only [List.length_singleton]; omega) ?_
    intro v7 W2 ho hb hg hat
    obtain ⟨A7, n7, c7, rfl⟩ : ∃ A n c, v7 = Value.slice A n c := by obtain ⟨A, c, h⟩ := Kd.R_slice ho; exact ⟨_, _, _, h⟩
    have H0x := Aside0.mk (blk_grown H0.out hg (Kd.R_ne R2.out H0.out (by decide)))
    have H1x := Aside0.mk (blk_grown H1.out hg (Kd.R_ne R2.out H1.out (by decide)))
    have H2x := Aside0.mk (blk_grown H2.out hg (Kd.R_ne R2.out H2.out (by decide)))
    have R5x := Aside0.mk (Kd.R_over R5.out R2.out (kN_only (by decide) (by decide)) hg)
    have R4x := Aside0.mk (Kd.R_grown R4.out hg (fun _ hk => hk.2))
    have R7 := Aside0.mk ho
    have HBx := Aside0.mk hb
    clear ho hb hg hat H0 H1 H2 R5 R4 HB R2 R6
    refine hK.out _ _ ⟨H1x.out, H2x.out⟩ (fun _ => ?_)
    clear hK K
    refine norm_ (a' := ?_) ?_ ?_
    rotate_left
    · show Act.put _ (some 96) _ = _
      simp only [Act.put, List.setIfInBounds_toArray, List.set_cons_zero, List.set_cons_succ, i64_w, i32_w]
      rfl
    refine one_ (i := 12) (N := some 99) #[true, true, true, true, true, true, true, true, true, true, true, true, true, false, false] rfl rfl (one_of HT_.out (by kernel_rfl)) (by decide) (fun K hK => ?_)
    refine Kd.R_append_rows_step Kd.string (w0 := w0) w0.heap.size (by rfl) (.tmp 96) (.tmp 98) 48 9 (.string ⟨#[]⟩) 16 rfl Try.underlying48 info9 rfl (by decide) (by omega) (.slice A7 n7 c7) (x.2 ++ [sep]) y.2 A4 n4 c4 (fun _ => True) (fun _ => False) rfl rfl R7.out (by have h := Kd.R_reads' R4x.out; rw [h.1]; exact h.2.2) (fun _ _ h => h) (fun _ h => h.elim) (fun _ _ => trivial) HBx.out HBx.out.size (by rw [(Kd.R_reads' R4x.out).1, List.length_append]; have := HL2.out; simp only [List.length_singleton]; omega) ?_
    intro v8 W3 ho hb hg hat
    obtain ⟨A8, n8, c8, rfl⟩ : ∃ A n c, v8 = Value.slice A n c := by obtain ⟨A, c, h⟩ := Kd.R_slice ho; exact ⟨_, _, _, h⟩
    have H0 := Aside0.mk (blk_grown H0x.out hg (Kd.R_ne R7.out H0x.out (by decide)))
    have H1 := Aside0.mk (blk_grown H1x.out hg (Kd.R_ne R7.out H1x.out (by decide)))
    have H2 := Aside0.mk (blk_grown H2x.out hg (Kd.R_ne R7.out H2x.out (by decide)))
    have R5 := Aside0.mk (Kd.R_over R5x.out R7.out (kN_only (by decide) (by decide)) hg)
    have R8 := Aside0.mk ho
    have HB := Aside0.mk hb
    clear ho hb hg hat H0x H1x H2x R5x R4x HBx R7
    refine hK.out _ _ ⟨H1.out, H2.out⟩ (fun _ => ?_)
    clear hK K
    refine norm_ (a' := ?_) ?_ ?_
    rotate_left
    · show Act.put _ (some 99) _ = _
      simp only [Act.put, List.setIfInBounds_toArray, List.set_cons_zero, List.set_cons_succ, i64_w, i32_w]
      rfl
    refine pure_ (i := 13) (N := some 100) (v := ?_) (a' := ?_) #[true, true, true, true, true, true, true, true, true, true, true, true, true, true, false] rfl rfl (any_of HT_.out (by kernel_rfl)) (fun _ _ _ h => h) (Or.inl ⟨by rfl, ?_⟩) ?_ ?_
    rotate_left
    · intro w'
      go_simp
      with_reducible rfl
    rotate_left
    · simp only [Act.put, List.setIfInBounds_toArray, List.set_cons_zero, List.set_cons_succ, i64_w, i32_w]
      rfl
    refine last_ (i := 14) (N := none) #[true, true, true, true, true, true, true, true, true, true, true, true, true, true, true] rfl rfl (one_of HT_.out (by kernel_rfl)) (by decide) (fun K hK => ?_)
    refine skip_ (w1 := W3.setRow g0 #[.slice A5 n5 c5, .slice A8 n8 c8, .int .i64 0]) (by rfl) rfl (store67 _ _ (.tmp 4) (.tmp 100) rfl g0 rfl _ rfl _ H0.out rfl rfl (by simp [Value.oneCell'])) ?_
    have K0 := Aside0.mk (setRow_heap W3 g0 _ #[.slice A5 n5 c5, .slice A8 n8 c8, .int .i64 0] _ _ H0.out)
    have K5 := Aside0.mk (R_setRow (cs := #[.slice A5 n5 c5, .slice A8 n8 c8, .int .i64 0]) R5.out H0.out (kN_only (by decide) (by decide)))
    have K8 := Aside0.mk (R_setRow (cs := #[.slice A5 n5 c5, .slice A8 n8 c8, .int .i64 0]) R8.out H0.out (str_only (by decide)))
    have KB := Aside0.mk (below_setRow HB.out HG0.out #[.slice A5 n5 c5, .slice A8 n8 c8, .int .i64 0])
    clear H0 H1 H2 R5 R8 HB
    generalize W3.setRow g0 #[.slice A5 n5 c5, .slice A8 n8 c8, .int .i64 0] = W4 at K0 K5 K8 KB ⊢
    refine hK.out _ _ ?_
    clear hK K
    refine done_ (done_of HT_.out (by kernel_rfl)) ?_
    clear hX
    try go_wp2_with fail
    refine bodyPost_ret (results_cell_row rfl _ _ g0 67 #[.slice A5 n5 c5, .slice A8 n8 c8, .int .i64 0] (0, 0) _ rfl K0.out Try.underlying67 rfl (by kernel_rfl)) rfl ?_
    exact ⟨_, _, rfl, K5.out, B5.out, K8.out, KB.out⟩
  have st10 : ∀ (A5 : Option Addr) (n5 c5 : Nat) (W : World), Aside0 (W.heap[g0]? = some (.cells #[.slice none 0 0, .slice none 0 0, .int .i64 0] 67 (0, 0))) → Aside0 (W.heap[g1]? = some (.cells #[.slice A1 n1 c1, .slice A2 n2 c2, .int .i64 0] 67 (0, 0))) → Aside0 (W.heap[g2]? = some (.cells #[.slice A3 n3 c3, .slice A4 n4 c4, .int .i64 0] 67 (0, 0))) → Aside0 (kN.R 22 W B (fun _ => True) (.slice A5 n5 c5) (x.1 ++ y.1)) → Aside0 (∀ k, (Value.slice A5 n5 c5).ownBlock = some k → w0.heap.size ≤ k) → Aside0 (Kd.string.R 9 W w0.heap.size (fun _ => True) (.slice A2 n2 c2) x.2) → Aside0 (Kd.string.R 9 W w0.heap.size (fun k => True ∧ some k ≠ (Value.slice A2 n2 c2).ownBlock) (.slice A4 n4 c4) y.2) → Aside0 (Below w0.heap.size w0 W) → X 5 #[true, true, true, true, true, true, true, true, false, false, true, true, false, false, false] { tmps := #[u0, u1, u2, u3, .pointer (some ⟨g0, 0, none⟩), u5, u6, u7, u8, u9, .string sep, .pointer (some ⟨g1, 0, none⟩), .pointer (some ⟨g2, 0, none⟩), u13, u14, u15, u16, u17, u18, u19, u20, u21, u22, u23, u24, u25, u26, u27, u28, u29, u30, u31, u32, u33, u34, u35, u36, u37, u38, u39, u40, u41, u42, u43, u44, u45, u46, u47, u48, u49, u50, u51, u52, u53, u54, u55, u56, u57, u58, u59, u60, u61, u62, u63, u64, u65, u66, u67, u68, u69, u70, u71, u72, u73, u74, u75, u76, u77, u78, u79, u80, u81, u82, u83, u84, u85, u86, .pointer (some ⟨g1, 0, none⟩), .slice A1 n1 c1, .pointer (some ⟨g2, 0, none⟩), .slice A3 n3 c3, .slice A5 n5 c5, .pointer (some ⟨g1, 1, none⟩), .slice A2 n2 c2, .string sep, u95, u96, .pointer (some ⟨g2, 1, none⟩), .slice A4 n4 c4, u99, u100], defers := [] } W := by
    intro A5 n5 c5 W H0 H1 H2 R5 B5 R2 R4 HB
    refine (hX _ _ _ _).2 ?_
    refine one_ (i := 8) (N := some 95) #[true, true, true, true, true, true, true, true, true, false, true, true, false, false, false] rfl rfl (one_of HT_.out (by kernel_rfl)) (by decide) (fun K hK => ?_)
    refine Kd.R_lit_step Kd.string (w0 := w0) w0.heap.size 9 ?hg (N := 95) ?hd (xs := [sep]) (inner := [.string sep]) (ok := fun _ => True) (okp := fun _ => True) ?hr ?hp (fun _ hk => hk) trivial HB.out HB.out.size (by simp) ?_; (case hd => rfl); (case hg => rfl); (case hr => first | (go_simp; done) | (go_simp; rfl)); (case hp => exact (Reps.one (show Kd.M Kd.string _ _ _ sep [.string sep] from rfl) (Reps.none _ _)))
    intro v6 W2 ho hb hg hnew
    obtain ⟨A6, n6, c6, rfl⟩ : ∃ A n c, v6 = Value.slice A n c := by obtain ⟨A, c, h⟩ := Kd.R_slice ho; exact ⟨_, _, _, h⟩
    have H0x := Aside0.mk (blk_grown H0.out hg (by simp))
    have H1x := Aside0.mk (blk_grown H1.out hg (by simp))
    have H2x := Aside0.mk (blk_grown H2.out hg (by simp))
    have R6x := Aside0.mk ho
    have B5x := B5
    have R5x := Aside0.mk (Kd.R_grown R5.out hg (fun _ _ => by simp))
    have R2x := Aside0.mk (Kd.R_grown R2.out hg (fun _ _ => by simp))
    have R4x := Aside0.mk (Kd.R_grown R4.out hg (fun _ _ => by simp))
    have HBx := Aside0.mk hb
    clear ho hb hg hnew
    refine hK.out _ _ ⟨H1x.out, H2x.out⟩ (fun _ => ?_)
    clear hK K
    refine norm_ (a' := ?_) ?_ ?_
    rotate_left
    · show Act.put _ (some 95) _ = _
      simp only [Act.put, List.setIfInBounds_toArray, List.set_cons_zero, List.set_cons_succ, i64_w, i32_w]
      rfl
    exact (hX _ _ _ _).1 (st11 _ _ _ _ _ _ _ H0x H1x H2x R5x B5x R2x R4x R6x HBx)
  have st01 : ∀ (A6 : Option Addr) (n6 c6 : Nat) (W : World), Aside0 (W.heap[g0]? = some (.cells #[.slice none 0 0, .slice none 0 0, .int .i64 0] 67 (0, 0))) → Aside0 (W.heap[g1]? = some (.cells #[.slice A1 n1 c1, .slice A2 n2 c2, .int .i64 0] 67 (0, 0))) → Aside0 (W.heap[g2]? = some (.cells #[.slice A3 n3 c3, .slice A4 n4 c4, .int .i64 0] 67 (0, 0))) → Aside0 (kN.R 22 W B (fun _ => True) (.slice A1 n1 c1) x.1) → Aside0 (kN.R 22 W B (fun _ => True) (.slice A3 n3 c3) y.1) → Aside0 (Kd.string.R 9 W w0.heap.size (fun _ => True) (.slice A2 n2 c2) x.2) → Aside0 (Kd.string.R 9 W w0.heap.size (fun k => True ∧ some k ≠ (Value.slice A2 n2 c2).ownBlock) (.slice A4 n4 c4) y.2) → Aside0 (Kd.string.R 9 W w0.heap.size (fun _ => True) (.slice A6 n6 c6) [sep]) → Aside0 (Below w0.heap.size w0 W) → X 5 #[true, true, true, true, false, true, true, true, true, false, true, true, false, false, false] { tmps := #[u0, u1, u2, u3, .pointer (some ⟨g0, 0, none⟩), u5, u6, u7, u8, u9, .string sep, .pointer (some ⟨g1, 0, none⟩), .pointer (some ⟨g2, 0, none⟩), u13, u14, u15, u16, u17, u18, u19, u20, u21, u22, u23, u24, u25, u26, u27, u28, u29, u30, u31, u32, u33, u34, u35, u36, u37, u38, u39, u40, u41, u42, u43, u44, u45, u46, u47, u48, u49, u50, u51, u52, u53, u54, u55, u56, u57, u58, u59, u60, u61, u62, u63, u64, u65, u66, u67, u68, u69, u70, u71, u72, u73, u74, u75, u76, u77, u78, u79, u80, u81, u82, u83, u84, u85, u86, .pointer (some ⟨g1, 0, none⟩), .slice A1 n1 c1, .pointer (some ⟨g2, 0, none⟩), .slice A3 n3 c3, u91, .pointer (some ⟨g1, 1, none⟩), .slice A2 n2 c2, .string sep, .slice A6 n6 c6, u96, .pointer (some ⟨g2, 1, none⟩), .slice A4 n4 c4, u99, u100], defers := [] } W := by
    intro A6 n6 c6 W H0 H1 H2 R1 R3 R2 R4 R6 HB
    refine (hX _ _ _ _).2 ?_
    refine one_ (i := 4) (N := some 91) #[true, true, true, true, true, true, true, true, true, false, true, true, false, false, false] rfl rfl (one_of HT_.out (by kernel_rfl)) (by decide) (fun K hK => ?_)
    refine Kd.R_append_rows_step kN (w0 := w0) B (by rfl) (.tmp 88) (.tmp 90) 58 22 (.slice none 0 0) 24 rfl Try.underlying58 info22 rfl (by decide) (by omega) (.slice A1 n1 c1) x.1 y.1 A3 n3 c3 (fun _ => True) (fun k => some k ≠ (Value.slice A1 n1 c1).ownBlock) rfl rfl R1.out (kN_src R3.out R1.out) (fun _ _ h => h) (fun _ h => ⟨trivial, h⟩) (fun _ _ => trivial) (HB.out.mono HBS.out) (Nat.le_trans HBS.out HB.out.size) (by rw [(Kd.R_reads' R3.out).1]; have := HL1.out; omega) ?_
    intro v5 W2 ho hb hg hat
    obtain ⟨A5, n5, c5, rfl⟩ : ∃ A n c, v5 = Value.slice A n c := by obtain ⟨A, c, h⟩ := Kd.R_slice ho; exact ⟨_, _, _, h⟩
    have H0x := Aside0.mk (blk_grown H0.out hg (Kd.R_ne R1.out H0.out (by decide)))
    have H1x := Aside0.mk (blk_grown H1.out hg (Kd.R_ne R1.out H1.out (by decide)))
    have H2x := Aside0.mk (blk_grown H2.out hg (Kd.R_ne R1.out H2.out (by decide)))
    have R5x := Aside0.mk ho
    have B5x := Aside0.mk (show ∀ k, (Value.slice A5 n5 c5).ownBlock = some k → w0.heap.size ≤ k by
      intro k hk
      rcases hat with h | ⟨b, h, h2⟩
      · exact HB1.out k (h ▸ hk)
      · have := HB.out.size
        have : b = k := by rw [h] at hk; exact Option.some.inj hk
        omega)
    have R2x := Aside0.mk (Kd.R_over R2.out R1.out (str_only (by decide)) hg)
    have R4x := Aside0.mk (Kd.R_over R4.out R1.out (str_only (by decide)) hg)
    have R6x := Aside0.mk (Kd.R_over R6.out R1.out (str_only (by decide)) hg)
    have HBx := Aside0.mk (HB.out.grown hg HB.out.size HB1.out)
    clear ho hb hg hat
    refine hK.out _ _ ⟨H1x.out, H2x.out⟩ (fun _ => ?_)
    clear hK K
    refine norm_ (a' := ?_) ?_ ?_
    rotate_left
    · show Act.put _ (some 91) _ = _
      simp only [Act.put, List.setIfInBounds_toArray, List.set_cons_zero, List.set_cons_succ, i64_w, i32_w]
      rfl
    exact (hX _ _ _ _).1 (st11 _ _ _ _ _ _ _ H0x H1x H2x R5x B5x R2x R4x R6x HBx)
  have st00 : ∀ (W : World), Aside0 (W.heap[g0]? = some (.cells #[.slice none 0 0, .slice none 0 0, .int .i64 0] 67 (0, 0))) → Aside0 (W.heap[g1]? = some (.cells #[.slice A1 n1 c1, .slice A2 n2 c2, .int .i64 0] 67 (0, 0))) → Aside0 (W.heap[g2]? = some (.cells #[.slice A3 n3 c3, .slice A4 n4 c4, .int .i64 0] 67 (0, 0))) → Aside0 (kN.R 22 W B (fun _ => True) (.slice A1 n1 c1) x.1) → Aside0 (kN.R 22 W B (fun _ => True) (.slice A3 n3 c3) y.1) → Aside0 (Kd.string.R 9 W w0.heap.size (fun _ => True) (.slice A2 n2 c2) x.2) → Aside0 (Kd.string.R 9 W w0.heap.size (fun k => True ∧ some k ≠ (Value.slice A2 n2 c2).ownBlock) (.slice A4 n4 c4) y.2) → Aside0 (Below w0.heap.size w0 W) → X 6 #[true, true, true, true, false, true, true, true, false, false, true, true, false, false, false] { tmps := #[u0, u1, u2, u3, .pointer (some ⟨g0, 0, none⟩), u5, u6, u7, u8, u9, .string sep, .pointer (some ⟨g1, 0, none⟩), .pointer (some ⟨g2, 0, none⟩), u13, u14, u15, u16, u17, u18, u19, u20, u21, u22, u23, u24, u25, u26, u27, u28, u29, u30, u31, u32, u33, u34, u35, u36, u37, u38, u39, u40, u41, u42, u43, u44, u45, u46, u47, u48, u49, u50, u51, u52, u53, u54, u55, u56, u57, u58, u59, u60, u61, u62, u63, u64, u65, u66, u67, u68, u69, u70, u71, u72, u73, u74, u75, u76, u77, u78, u79, u80, u81, u82, u83, u84, u85, u86, .pointer (some ⟨g1, 0, none⟩), .slice A1 n1 c1, .pointer (some ⟨g2, 0, none⟩), .slice A3 n3 c3, u91, .pointer (some ⟨g1, 1, none⟩), .slice A2 n2 c2, .string sep, u95, u96, .pointer (some ⟨g2, 1, none⟩), .slice A4 n4 c4, u99, u100], defers := [] } W := by
    intro W H0 H1 H2 R1 R3 R2 R4 HB
    refine (hX _ _ _ _).2 ?_
    refine two_ (i := 4) (j := 8) (Ni := some 91) (Nj := some 95) #[true, true, true, true, true, true, true, true, false, false, true, true, false, false, false] #[true, true, true, true, false, true, true, true, true, false, true, true, false, false, false] rfl rfl rfl rfl (two_of HT_.out (by kernel_rfl)) (by decide) (by decide) (fun K hK => ?_) (fun K hK => ?_)
    · refine Kd.R_append_rows_step kN (w0 := w0) B (by rfl) (.tmp 88) (.tmp 90) 58 22 (.slice none 0 0) 24 rfl Try.underlying58 info22 rfl (by decide) (by omega) (.slice A1 n1 c1) x.1 y.1 A3 n3 c3 (fun _ => True) (fun k => some k ≠ (Value.slice A1 n1 c1).ownBlock) rfl rfl R1.out (kN_src R3.out R1.out) (fun _ _ h => h) (fun _ h => ⟨trivial, h⟩) (fun _ _ => trivial) (HB.out.mono HBS.out) (Nat.le_trans HBS.out HB.out.size) (by rw [(Kd.R_reads' R3.out).1]; have := HL1.out; omega) ?_
      intro v5 W2 ho hb hg hat
      obtain ⟨A5, n5, c5, rfl⟩ : ∃ A n c, v5 = Value.slice A n c := by obtain ⟨A, c, h⟩ := Kd.R_slice ho; exact ⟨_, _, _, h⟩
      have H0x := Aside0.mk (blk_grown H0.out hg (Kd.R_ne R1.out H0.out (by decide)))
      have H1x := Aside0.mk (blk_grown H1.out hg (Kd.R_ne R1.out H1.out (by decide)))
      have H2x := Aside0.mk (blk_grown H2.out hg (Kd.R_ne R1.out H2.out (by decide)))
      have R5x := Aside0.mk ho
      have B5x := Aside0.mk (show ∀ k, (Value.slice A5 n5 c5).ownBlock = some k → w0.heap.size ≤ k by
        intro k hk
        rcases hat with h | ⟨b, h, h2⟩
        · exact HB1.out k (h ▸ hk)
        · have := HB.out.size
          have : b = k := by rw [h] at hk; exact Option.some.inj hk
          omega)
      have R2x := Aside0.mk (Kd.R_over R2.out R1.out (str_only (by decide)) hg)
      have R4x := Aside0.mk (Kd.R_over R4.out R1.out (str_only (by decide)) hg)
      have HBx := Aside0.mk (HB.out.grown hg HB.out.size HB1.out)
      clear ho hb hg hat
      refine hK.out _ _ ⟨H1x.out, H2x.out⟩ (fun _ => ?_)
      clear hK K
      refine norm_ (a' := ?_) ?_ ?_
      rotate_left
      · show Act.put _ (some 91) _ = _
        simp only [Act.put, List.setIfInBounds_toArray, List.set_cons_zero, List.set_cons_succ, i64_w, i32_w]
        rfl
      exact (hX _ _ _ _).1 (st10 _ _ _ _ H0x H1x H2x R5x B5x R2x R4x HBx)
    · refine Kd.R_lit_step Kd.string (w0 := w0) w0.heap.size 9 ?hg (N := 95) ?hd (xs := [sep]) (inner := [.string sep]) (ok := fun _ => True) (okp := fun _ => True) ?hr ?hp (fun _ hk => hk) trivial HB.out HB.out.size (by simp) ?_; (case hd => rfl); (case hg => rfl); (case hr => first | (go_simp; done) | (go_simp; rfl)); (case hp => exact (Reps.one (show Kd.M Kd.string _ _ _ sep [.string sep] from rfl) (Reps.none _ _)))
      intro v6 W2 ho hb hg hnew
      obtain ⟨A6, n6, c6, rfl⟩ : ∃ A n c, v6 = Value.slice A n c := by obtain ⟨A, c, h⟩ := Kd.R_slice ho; exact ⟨_, _, _, h⟩
      have H0x := Aside0.mk (blk_grown H0.out hg (by simp))
      have H1x := Aside0.mk (blk_grown H1.out hg (by simp))
      have H2x := Aside0.mk (blk_grown H2.out hg (by simp))
      have R6x := Aside0.mk ho
      have R1x := Aside0.mk (Kd.R_grown R1.out hg (fun _ _ => by simp))
      have R3x := Aside0.mk (Kd.R_grown R3.out hg (fun _ _ => by simp))
      have R2x := Aside0.mk (Kd.R_grown R2.out hg (fun _ _ => by simp))
      have R4x := Aside0.mk (Kd.R_grown R4.out hg (fun _ _ => by simp))
      have HBx := Aside0.mk hb
      clear ho hb hg hnew
      refine hK.out _ _ ⟨H1x.out, H2x.out⟩ (fun _ => ?_)
      clear hK K
      refine norm_ (a' := ?_) ?_ ?_
      rotate_left
      · show Act.put _ (some 95) _ = _
        simp only [Act.put, List.setIfInBounds_toArray, List.set_cons_zero, List.set_cons_succ, i64_w, i32_w]
        rfl
      exact (hX _ _ _ _).1 (st01 _ _ _ _ H0x H1x H2x R1x R3x R2x R4x R6x HBx)
  exact st00 w1 H0 H1 H2 R1 R3 R2 R4 HB
end Go.Proofs.Ytalncokpbgbccaa.E

/- The reference's pack, from the left half on: both halves are packed, and joined. -/
namespace Go.Proofs.Ytalncokpbgbccaa.E
set_option linter.unusedVariables false
set_option linter.unusedSimpArgs false
open Go.RowKit Go.Proofs.YtalncokpbgbccaaW.PrintWords Go.Proofs.YtalncokpbgbccaaW.PrintLast Go.Proofs.YtalncokpbgbccaaW.PrintMore
noncomputable def tail79c : Code := (Try.f79.body.map (dropTo 10)).getD .skip
/-- the contract of the reference's packing, for lists shorter than f -/
def RPackC (level : Int) (f : Nat) : Prop := ∀ (l : List S77) (v : Value) (w : World) (B : Nat) (x : List (List S77) × List ByteArray), l.length < f → 1 ≤ l.length → packable l level = true → Fine l → (∀ x ∈ l, x.f0.size ≤ 1000000) → B ≤ w.heap.size → Ow w B v l → packO f l level = some x → Calls Try.prog 79 #[v, .int .i64 level] w (RPack w B x)
set_option maxRecDepth 1000000 in
set_option maxHeartbeats 8000000 in
theorem rpack_tail {u2 u3 u5 u6 u7 u11 u12 u13 u14 u15 u16 u17 u18 u19 u20 u21 u22 u23 u24 u25 u26 u27 u28 u29 u30 u31 u32 u33 u34 u35 u36 u37 u38 u39 u40 u41 u42 u43 u44 u45 u46 u47 u48 u49 u50 u51 u52 u53 u54 u55 u56 u57 u58 u59 u60 u61 u62 u63 u64 u65 u66 u67 u68 u69 u70 u71 u72 u73 u74 u75 u76 u77 u78 u79 u80 u81 u82 u83 u84 u85 u86 u87 u88 u89 u90 u91 u92 u93 u94 u95 u96 u97 u98 u99 u100 : Value} {w0 w : World} {B g0 b c f : Nat} {A : Option Addr} {vr : Value} {level : Int} {l : List S77} {sep : ByteArray} {x y : List (List S77) × List ByteArray} (IH : RPackC level f) (hB : B ≤ w0.heap.size) (hg : w0.heap.size ≤ g0)
    (h0 : w.heap[g0]? = some (.cells #[.slice none 0 0, .slice none 0 0, .int .i64 0] 67 (0, 0))) (hr : Kd.C k77 w0 A l.length l) (hc : l.length ≤ c) (hf : Fine l) (hks : ∀ x ∈ l, x.f0.size ≤ 1000000) (hp : packable l level = true) (hlf : l.length ≤ f) (hb1 : 1 ≤ b) (hb2 : b < l.length)
    (ho : Ow w w0.heap.size vr (bare level (l.drop b))) (hb : Below w0.heap.size w0 w) (hx : packO f (l.take b) level = some x) (hy : packO f (bare level (l.drop b)) level = some y) :
    Code.wp Try.prog tail79c (bodyPost Try.prog Try.f79 fun e w' => RPack w0 B (x.1 ++ y.1, x.2 ++ [sep] ++ y.2) e w') ⟨#[.slice A l.length c, .int .i64 level, u2, u3, .pointer (some ⟨g0, 0, none⟩), u5, u6, u7, .int .i64 (b : Int), vr, .string sep, u11, u12, u13, u14, u15, u16, u17, u18, u19, u20, u21, u22, u23, u24, u25, u26, u27, u28, u29, u30, u31, u32, u33, u34, u35, u36, u37, u38, u39, u40, u41, u42, u43, u44, u45, u46, u47, u48, u49, u50, u51, u52, u53, u54, u55, u56, u57, u58, u59, u60, u61, u62, u63, u64, u65, u66, u67, u68, u69, u70, u71, u72, u73, u74, u75, u76, u77, u78, u79, u80, u81, u82, u83, u84, u85, u86, u87, u88, u89, u90, u91, u92, u93, u94, u95, u96, u97, u98, u99, u100], []⟩ w := by
  have hll : (l.take b).length = b := by rw [List.length_take]; omega
  have hfl : Fine (l.take b) := by have := fine_cut hf 0 b; simpa [partE] using this
  have hrl : (bare level (l.drop b)).length = l.length - b := by rw [bare_length, List.length_drop]
  have hfr : Fine (bare level (l.drop b)) := by have := fine_bare (fine_cut hf b l.length) level; simpa [partE] using this
  have hxl := packO_len f (l.take b) level x (by rw [hll]; exact hb1) hx
  have hyl := packO_len f _ level y (by rw [hrl]; omega) hy
  rw [hll] at hxl
  rw [hrl] at hyl
  have hlen := hf.1
  have HL1 := Aside0.mk (show x.1.length + y.1.length ≤ 1000000 by omega)
  have HL2 := Aside0.mk (show x.2.length + 1 + y.2.length ≤ 1000000 by omega)
  have HIX := Aside0.mk (fun (W : World) (v : Value) (hW : Below w.heap.size w W) (hO : Ow W w.heap.size v (l.take b)) => IH (l.take b) v W w.heap.size x (by rw [hll]; omega) (by rw [hll]; exact hb1) (packable_take (by omega) hp) hfl (fun x hx => hks x (List.mem_of_mem_take hx)) hW.size hO hx)
  have HIY := Aside0.mk (fun (W : World) (hW : Below w.heap.size w W) => IH (bare level (l.drop b)) vr W w0.heap.size y (by rw [hrl]; omega) (by rw [hrl]; omega) (packable_drop hb1 (by omega) hp) hfr (keys_bare level _ (fun x hx => hks x (List.mem_of_mem_drop hx))) (Nat.le_trans hb.size hW.size) (Kd.R_below ho hW) hy)
  obtain ⟨i77, hi77, hsz⟩ := info77'
  have hcu0 := cut_to (P := Try.prog) 22 77 .i64 Try.underlying22 hi77 A l.length c (b : Int) (by omega) (by omega) hc
  simp only [Int.toNat_natCast] at hcu0
  have HCT := Aside0.mk (fun (W : World) (hW : Below w.heap.size w W) => (show Kd.C k77 W A b (l.take b) from C_take (Kd.C_below hr (below_tr2 (w := w0) hb hW)) (by omega)))
  have HXL := Aside0.mk (show (([] : List S77).length + b) * 80 ≤ 140737488355328 from by simp only [List.length_nil]; omega)
  obtain ⟨L1, hL1⟩ : ∃ L1, l.take b = L1 := ⟨_, rfl⟩
  rw [hL1] at HCT HIX
  have HBS := Aside0.mk hB
  have HG0 := Aside0.mk hg
  have HZ := Aside0.mk h0
  have HBW := Aside0.mk hb
  have hbl : (b : Int) ≤ 1000000 := by omega
  have HB := Aside0.mk (Below.refl w.heap.size w)
  clear hll hfl hrl hfr hxl hyl hlen hi77 hsz hL1 hB hg h0 hr hc hf hks hp hlf hb1 hb2 ho hb hx hy IH
  conv => arg 2; whnf
  go_upto_if 85 with (first | ((with_reducible refine gate_dst (N := 68) rfl ?_); refine Kd.R_lit k77 w.heap.size 77 rfl (N := 68) rfl (xs := ([] : List S77)) (inner := []) (ok := fun _ => True) (okp := fun _ => True) ?hr (Reps.none _ _) (fun _ hk => hk) trivial HB.out HB.out.size (by simp) ?_; (case hr => first | (go_simp; done) | (go_simp; rfl)); intro vL wL ho hb hg_ hnew_; clear hg_ hnew_; have HBn := Aside0.mk hb; have HO := Aside0.mk ho; clear HB ho hb; have HB := HBn; clear HBn; skip) | ((with_reducible refine gate_builtin (b := .append) (xs := #[.tmp 68, .tmp 71]) rfl ?_); at_builtin; refine Kd.R_append_rows k77 (w0 := w) w.heap.size rfl (.tmp 68) (.tmp 71) 22 77 (.agg #[(.string ⟨#[]⟩), (.string ⟨#[]⟩), (.int .i64 0), (.int .i64 0), (.int .i64 0), (.int .i64 0), (.int .u8 0), (.int .u8 0), (.int .u8 0), (.int .u8 0), (.int .u8 0), (.int .u8 0), (.int .u8 0), (.int .u8 0), (.int .u8 0), (.int .u8 0), (.int .u8 0), (.int .u8 0), (.int .u8 0), (.int .u8 0), (.int .u8 0), (.int .u8 0)]) 80 rfl Try.underlying22 info77 rfl (by decide) (by omega) vL ([] : List S77) L1 _ _ _ (fun _ => True) (fun _ => False) rfl rfl ?aO ?aR (fun _ _ h => h) (fun _ h => h.elim) ?aF ?aB ?aS ?aL ?_; (case aR => exact HCT.out _ HB.out); (case aB => exact HB.out); (case aF => exact (fun _ _ => trivial)); (case aO => exact HO.out); (case aS => exact HB.out.size); (case aL => exact HXL.out); intro vA wA ho hb hg hat; have HBn := Aside0.mk hb; have HOn := Aside0.mk (show Ow wA w.heap.size vA L1 from by simpa using ho); clear HB HO ho hb hg hat; have HB := HBn; have HO := HOn; clear HBn HOn; skip) | (go_at_call 79; refine (HIX.out _ _ HB.out HO.out).mono ?_; rintro e W1 ⟨v1, v2, rfl, r1, b1, r2, hb1⟩; obtain ⟨A1, n1, c1, rfl⟩ : ∃ A n c, v1 = Value.slice A n c := (by obtain ⟨A, c, h⟩ := Kd.R_slice r1; exact ⟨_, _, _, h⟩); obtain ⟨A2, n2, c2, rfl⟩ : ∃ A n c, v2 = Value.slice A n c := (by obtain ⟨A, c, h⟩ := Kd.R_slice r2; exact ⟨_, _, _, h⟩); have J1 := Aside0.mk r1; have JB1 := Aside0.mk b1; have J2 := Aside0.mk r2; have HB1 := Aside0.mk (HB.out.trans (hb1.mono HB.out.size)); have HWA := HB; clear r1 b1 r2 hb1 HB HO HIX HCT) | (go_at_call 79; refine (HIY.out _ (below_alloc HB1.out _)).mono ?_; rintro e W2 ⟨v3, v4, rfl, r3, b3, r4, hb2⟩; obtain ⟨A3, n3, c3, rfl⟩ : ∃ A n c, v3 = Value.slice A n c := (by obtain ⟨A, c, h⟩ := Kd.R_slice r3; exact ⟨_, _, _, h⟩); obtain ⟨A4, n4, c4, rfl⟩ : ∃ A n c, v4 = Value.slice A n c := (by obtain ⟨A, c, h⟩ := Kd.R_slice r4; exact ⟨_, _, _, h⟩); have J3 := Aside0.mk r3; have J4 := Aside0.mk r4; have HB2 := Aside0.mk hb2; have hg1 := blk_alloc (blk_below (blk_new W1 (.cells #[.slice A1 n1 c1, .slice A2 n2 c2, .int .i64 0] 67)) hb2) (.cells #[.slice A3 n3 c3, .slice A4 n4 c4, .int .i64 0] 67); have hg2 := blk_new W2 (.cells #[.slice A3 n3 c3, .slice A4 n4 c4, .int .i64 0] 67); have q1 : (W2.alloc (.cells #[.slice A3 n3 c3, .slice A4 n4 c4, .int .i64 0] 67)).cell? ⟨W1.heap.size, 2, none⟩ = some (.int .i64 0) := (by rw [blk_cell hg1]; rfl); have q2 : (W2.alloc (.cells #[.slice A3 n3 c3, .slice A4 n4 c4, .int .i64 0] 67)).cell? ⟨W2.heap.size, 2, none⟩ = some (.int .i64 0) := (by rw [blk_cell hg2]; rfl); have G1 := Aside0.mk hg1; have G2 := Aside0.mk hg2; clear r3 b3 r4 hb2 HIY hg1 hg2))
  have HB3 := Aside0.mk ((below_alloc HB1.out (.cells #[.slice A1 n1 c1, .slice A2 n2 c2, .int .i64 0] 67)).trans (HB2.out.mono (below_alloc HB1.out _).size))
  have HB4 := Aside0.mk (HB2.out.trans ((below_alloc (Below.refl W2.heap.size W2) (.cells #[.slice A3 n3 c3, .slice A4 n4 c4, .int .i64 0] 67)).mono HB2.out.size))
  have HB5 := Aside0.mk ((below_alloc HB3.out (.cells #[.slice A3 n3 c3, .slice A4 n4 c4, .int .i64 0] 67)))
  have hlt2 : ∀ k, (Value.slice A2 n2 c2).ownBlock = some k → k < (W1.alloc (.cells #[.slice A1 n1 c1, .slice A2 n2 c2, .int .i64 0] 67)).heap.size := by
    intro k hk
    obtain ⟨cells, hc⟩ := Kd.R_typed J2.out k hk
    have := blk_lt hc
    rw [World.size_alloc]
    omega
  have hbw : B ≤ w.heap.size := Nat.le_trans HBS.out HBW.out.size
  have hwa : w0.heap.size ≤ wA.heap.size := Nat.le_trans HBW.out.size HWA.out.size
  have hw1 : w0.heap.size ≤ (W1.alloc (.cells #[.slice A1 n1 c1, .slice A2 n2 c2, .int .i64 0] 67)).heap.size := by have := HB1.out.size; have := HBW.out.size; rw [World.size_alloc]; omega
  have K0 := Aside0.mk (blk_below HZ.out HB5.out)
  have K1 := Aside0.mk (Kd.R_lower (Kd.R_below (Kd.R_alloc J1.out (.cells #[.slice A1 n1 c1, .slice A2 n2 c2, .int .i64 0] 67)) HB4.out) hbw)
  have K2 := Aside0.mk (Kd.R_lower (Kd.R_below (Kd.R_alloc J2.out (.cells #[.slice A1 n1 c1, .slice A2 n2 c2, .int .i64 0] 67)) HB4.out) hwa)
  have K3 := Aside0.mk (Kd.R_lower (Kd.R_alloc J3.out (.cells #[.slice A3 n3 c3, .slice A4 n4 c4, .int .i64 0] 67)) HBS.out)
  have K4 := Aside0.mk (Kd.R_lower (Kd.R_alloc (Kd.R_new' J4.out hlt2) (.cells #[.slice A3 n3 c3, .slice A4 n4 c4, .int .i64 0] 67)) hw1)
  have KB1 := Aside0.mk (show ∀ k, (Value.slice A1 n1 c1).ownBlock = some k → w0.heap.size ≤ k from fun k hk => Nat.le_trans hwa (JB1.out k hk))
  have KB := Aside0.mk (below_tr2 (w := w0) HBW.out HB5.out)
  clear hlt2 hbw hwa hw1 J1 J2 J3 J4 JB1 HB4 HB5 HB3
  obtain ⟨W3, hW3⟩ : ∃ W3, W2.alloc (.cells #[.slice A3 n3 c3, .slice A4 n4 c4, .int .i64 0] 67) = W3 := ⟨_, rfl⟩
  have HW3 := Aside0.mk hW3
  rw [hW3] at q1 q2 G1 G2 K0 K1 K2 K3 K4 KB ⊢
  clear hW3
  go_cut [] (fun wc => Aside0 (wc = W3))
  case first =>
    go_wp2_with fail
    go_meet
    exact ⟨rfl⟩
  case rest =>
    clear q1 q2
    obtain ⟨rfl⟩ := hcut
    rename_i ha
    refine ha _ _ ?_
    exact rpack_end (x := x) (y := y) HBS.out HG0.out K0.out G1.out G2.out K1.out KB1.out K2.out K3.out K4.out HL1.out HL2.out KB.out
end Go.Proofs.Ytalncokpbgbccaa.E

