-- A slim copy of TA, TB, written by wip/tools/prune2.py.
import Derived.Test.YtalncokpbgbccaaKDP
import Derived.Test.YtalncokpbgbccaaKRV
import Derived.Test.YtalncokpbgbccaaKSW
/- The law's own helpers: light, each, between; and the reference's Combine. -/
namespace Go.Proofs.Ytalncokpbgbccaa.E
set_option linter.unusedVariables false
set_option linter.unusedSimpArgs false
open Go.RowKit Go.Proofs.YtalncokpbgbccaaW.PrintWords Go.Proofs.YtalncokpbgbccaaW.PrintLast Go.Proofs.YtalncokpbgbccaaW.PrintMore
def lightB (l : List S77) (level : Int) : Bool := match weightO l level with | some n => decide (n ≤ 496) | none => false
set_option maxRecDepth 100000 in
set_option maxHeartbeats 8000000 in
theorem light_c (l : List S77) (A : Option Addr) (c : Nat) (level : Int) (w : World) (hr : Kd.C k77 w A l.length l) (hf : Fine l) :
    Calls Try.prog 51 #[.slice A l.length c, .int .i64 level] w fun e w' => e = .returned (.bool (lightB l level)) ∧ Below w.heap.size w w' := by
  have HW := rweight_c l A c level w hr hf
  have hu93 := Try.underlying93
  cases hw : weightO l level with
  | none =>
    rw [hw] at HW
    have HWA := Aside0.mk HW
    have HR := Aside0.mk (show lightB l level = false by simp [lightB, hw])
    clear HW hw hr hf
    rw [HR.out]
    go_enter Try.func51, Try.ntmps51
    go_wp2_with (first | (go_at_call 62; refine HWA.out.mono ?_; simp only [weightR]; rintro e w2 ⟨rfl, hb⟩; have HB := Aside0.mk hb; clear hb))
    go_ret
    exact ⟨rfl, by first | exact HB.out | exact below_alloc HB.out _ | exact (below_alloc HB.out _).setCell HB.out.size _⟩
  | some n =>
    rw [hw] at HW
    have HWA := Aside0.mk HW
    have HR := Aside0.mk (show lightB l level = decide (n ≤ 496) by simp [lightB, hw])
    clear HW hw hr hf
    rw [HR.out]
    go_enter Try.func51, Try.ntmps51
    go_wp2_with (first | (go_at_call 62; refine HWA.out.mono ?_; simp only [weightR]; rintro e w2 ⟨rfl, hb⟩; have HB := Aside0.mk hb; clear hb))
    go_ret
    exact ⟨rfl, by first | exact HB.out | exact below_alloc HB.out _ | exact (below_alloc HB.out _).setCell HB.out.size _⟩
set_option maxRecDepth 100000 in
set_option maxHeartbeats 8000000 in
theorem rcomb_c (a b : List S77) (A B : Option Addr) (c d : Nat) (sep : ByteArray) (level : Int) (w : World) (ha : Kd.C k77 w A a.length a) (hca : a.length ≤ c) (hb : Kd.C k77 w B b.length b) (hcb : b.length ≤ d) (hla : a.length ≤ 100000) (hlb : b.length ≤ 100000) :
    Calls Try.prog 53 #[.slice A a.length c, .slice B b.length d, .string sep, .int .i64 level] w fun e w' => ∃ v, e = .returned v ∧ Ow w' w.heap.size v (combL a b sep level) ∧ Below w.heap.size w w' := by
  obtain ⟨RL, hRL⟩ : ∃ RL, a ++ b = RL := ⟨_, rfl⟩
  have hlr : RL.length = a.length + b.length := by rw [← hRL, List.length_append]
  have HRA := Aside0.mk (fun (W : World) (hW : Below w.heap.size w W) => Kd.C_below ha hW)
  have HRB := Aside0.mk (fun (W : World) (hW : Below w.heap.size w W) => Kd.C_below hb hW)
  have HXL := Aside0.mk (show (([] : List S77).length + a.length) * 80 ≤ 140737488355328 ∧ (a.length + b.length) * 80 ≤ 140737488355328 from ⟨by simp; omega, by omega⟩)
  have HRL := Aside0.mk hRL
  have HLEN := Aside0.mk hlr
  clear ha hca hb hcb hla hlb hRL hlr
  by_cases g0 : level > 0
  · have d11 : decide (level > 0) = true := decide_eq_true (by omega)
    have d12 : decide (0 < level) = true := decide_eq_true (by omega)
    by_cases g1 : 0 < a.length
    · have d13 : decide ((a.length : Int) > 0) = true := decide_eq_true (by omega)
      have d14 : decide (0 < (a.length : Int)) = true := decide_eq_true (by omega)
      have d15 : decide (0 < a.length) = true := decide_eq_true (by omega)
      by_cases g2 : 0 < b.length
      · have d8 : decide ((b.length : Int) > 0) = true := decide_eq_true (by omega)
        have d9 : decide (0 < (b.length : Int)) = true := decide_eq_true (by omega)
        have d10 : decide (0 < b.length) = true := decide_eq_true (by omega)
        have HLR := Aside0.mk (show a.length < RL.length by have := HLEN.out; omega)
        rw [show combL a b sep level = RL.set a.length (setKey (RL.getD a.length z77) sep) from by unfold combL; rw [if_pos ⟨g0, g1, g2⟩, HRL.out]]
        have m1 : (a.length : Int) < (RL.length : Int) := by have := HLR.out; omega
        have m2 : a.length < RL.length := HLR.out
        have m3 : (0 : Int) ≤ (a.length : Int) := by omega
        clear g0 g1 g2
        go_enter Try.func53, Try.ntmps53
        go_wp2_with (first | ((with_reducible refine gate_dst (N := 10) rfl ?_); refine Kd.R_lit k77 w.heap.size 77 rfl (N := 10) rfl (xs := ([] : List S77)) (inner := []) (ok := fun _ => True) (okp := fun _ => True) ?hr (Reps.none _ _) (fun _ hk => hk) trivial (Below.refl _ _) (Nat.le_refl _) (by simp) ?_; (case hr => first | (go_simp; done) | (go_simp; rfl)); intro vL wL ho hb hg_ hnew_; clear hg_ hnew_; have HB := Aside0.mk hb; have HO := Aside0.mk ho; (clear ho hb)) | ((with_reducible refine gate_builtin (b := .append) (xs := #[.tmp 10, .tmp 11]) rfl ?_); at_builtin; refine Kd.R_append_rows k77 (w0 := w) w.heap.size rfl (.tmp 10) (.tmp 11) 22 77 (.agg #[(.string ⟨#[]⟩), (.string ⟨#[]⟩), (.int .i64 0), (.int .i64 0), (.int .i64 0), (.int .i64 0), (.int .u8 0), (.int .u8 0), (.int .u8 0), (.int .u8 0), (.int .u8 0), (.int .u8 0), (.int .u8 0), (.int .u8 0), (.int .u8 0), (.int .u8 0), (.int .u8 0), (.int .u8 0), (.int .u8 0), (.int .u8 0), (.int .u8 0), (.int .u8 0)]) 80 rfl Try.underlying22 info77 rfl (by decide) (by omega) vL ([] : List S77) a _ _ _ (fun _ => True) (fun _ => False) rfl rfl ?aO ?aR (fun _ _ h => h) (fun _ h => h.elim) ?aF ?aB ?aS ?aL ?_; (case aR => exact HRA.out _ HB.out); (case aB => exact HB.out); (case aF => exact (fun _ _ => trivial)); (case aO => exact HO.out); (case aS => exact HB.out.size); (case aL => exact HXL.out.1); intro vA wA ho hb hg hat; have HBn := Aside0.mk hb; have HOn := Aside0.mk (show Ow wA w.heap.size vA a from by simpa using ho); clear HB HO ho hb hg hat; have HB := HBn; have HO := HOn; clear HBn HOn) | ((with_reducible refine gate_builtin (b := .append) (xs := #[.tmp 12, .tmp 13]) rfl ?_); at_builtin; refine Kd.R_append_rows k77 (w0 := w) w.heap.size rfl (.tmp 12) (.tmp 13) 22 77 (.agg #[(.string ⟨#[]⟩), (.string ⟨#[]⟩), (.int .i64 0), (.int .i64 0), (.int .i64 0), (.int .i64 0), (.int .u8 0), (.int .u8 0), (.int .u8 0), (.int .u8 0), (.int .u8 0), (.int .u8 0), (.int .u8 0), (.int .u8 0), (.int .u8 0), (.int .u8 0), (.int .u8 0), (.int .u8 0), (.int .u8 0), (.int .u8 0), (.int .u8 0), (.int .u8 0)]) 80 rfl Try.underlying22 info77 rfl (by decide) (by omega) vA a b _ _ _ (fun _ => True) (fun _ => False) rfl rfl ?aO ?aR (fun _ _ h => h) (fun _ h => h.elim) ?aF ?aB ?aS ?aL ?_; (case aR => exact HRB.out _ HB.out); (case aB => exact HB.out); (case aF => exact (fun _ _ => trivial)); (case aO => exact HO.out); (case aS => exact HB.out.size); (case aL => exact HXL.out.2); intro vB w2 ho hb hg hat; have HBn := Aside0.mk hb; have HOn := Aside0.mk (show Ow w2 w.heap.size vB RL from by rw [← HRL.out]; exact ho); clear HB HO ho hb hg hat; have HB := HBn; have HO := HOn; clear HBn HOn; obtain ⟨Ao, co, rfl⟩ := Kd.R_slice HO.out; obtain ⟨go, c9, hv, hg1, hg2⟩ := ow_addr HO.out (Nat.lt_of_le_of_lt (Nat.zero_le _) HLR.out); obtain ⟨rfl, rfl⟩ : Ao = some ⟨go, 0, none⟩ ∧ co = c9 := (by injection hv with h1 _ h3; exact ⟨h1, h3⟩); have hk := ow_key HO.out a.length HLR.out sep; obtain ⟨hk1, hk2, hk3⟩ := hk; have HO8 := Aside0.mk hk3; have HG1 := Aside0.mk hg1; clear hk3 hv hg1 hg2))
        go_ret
        exact ⟨_, rfl, HO8.out, HB.out.setCell (p := ⟨go, a.length * 22, none⟩) HG1.out _⟩
      · have d5 : decide ((b.length : Int) > 0) = false := decide_eq_false (by omega)
        have d6 : decide (0 < (b.length : Int)) = false := decide_eq_false (by omega)
        have d7 : decide (0 < b.length) = false := decide_eq_false (by omega)
        rw [show combL a b sep level = RL from by unfold combL; rw [if_neg (fun h => g2 h.2.2)]; exact HRL.out]
        clear g0 g1 g2
        go_enter Try.func53, Try.ntmps53
        go_wp2_with (first | ((with_reducible refine gate_dst (N := 10) rfl ?_); refine Kd.R_lit k77 w.heap.size 77 rfl (N := 10) rfl (xs := ([] : List S77)) (inner := []) (ok := fun _ => True) (okp := fun _ => True) ?hr (Reps.none _ _) (fun _ hk => hk) trivial (Below.refl _ _) (Nat.le_refl _) (by simp) ?_; (case hr => first | (go_simp; done) | (go_simp; rfl)); intro vL wL ho hb hg_ hnew_; clear hg_ hnew_; have HB := Aside0.mk hb; have HO := Aside0.mk ho; (clear ho hb)) | ((with_reducible refine gate_builtin (b := .append) (xs := #[.tmp 10, .tmp 11]) rfl ?_); at_builtin; refine Kd.R_append_rows k77 (w0 := w) w.heap.size rfl (.tmp 10) (.tmp 11) 22 77 (.agg #[(.string ⟨#[]⟩), (.string ⟨#[]⟩), (.int .i64 0), (.int .i64 0), (.int .i64 0), (.int .i64 0), (.int .u8 0), (.int .u8 0), (.int .u8 0), (.int .u8 0), (.int .u8 0), (.int .u8 0), (.int .u8 0), (.int .u8 0), (.int .u8 0), (.int .u8 0), (.int .u8 0), (.int .u8 0), (.int .u8 0), (.int .u8 0), (.int .u8 0), (.int .u8 0)]) 80 rfl Try.underlying22 info77 rfl (by decide) (by omega) vL ([] : List S77) a _ _ _ (fun _ => True) (fun _ => False) rfl rfl ?aO ?aR (fun _ _ h => h) (fun _ h => h.elim) ?aF ?aB ?aS ?aL ?_; (case aR => exact HRA.out _ HB.out); (case aB => exact HB.out); (case aF => exact (fun _ _ => trivial)); (case aO => exact HO.out); (case aS => exact HB.out.size); (case aL => exact HXL.out.1); intro vA wA ho hb hg hat; have HBn := Aside0.mk hb; have HOn := Aside0.mk (show Ow wA w.heap.size vA a from by simpa using ho); clear HB HO ho hb hg hat; have HB := HBn; have HO := HOn; clear HBn HOn) | ((with_reducible refine gate_builtin (b := .append) (xs := #[.tmp 12, .tmp 13]) rfl ?_); at_builtin; refine Kd.R_append_rows k77 (w0 := w) w.heap.size rfl (.tmp 12) (.tmp 13) 22 77 (.agg #[(.string ⟨#[]⟩), (.string ⟨#[]⟩), (.int .i64 0), (.int .i64 0), (.int .i64 0), (.int .i64 0), (.int .u8 0), (.int .u8 0), (.int .u8 0), (.int .u8 0), (.int .u8 0), (.int .u8 0), (.int .u8 0), (.int .u8 0), (.int .u8 0), (.int .u8 0), (.int .u8 0), (.int .u8 0), (.int .u8 0), (.int .u8 0), (.int .u8 0), (.int .u8 0)]) 80 rfl Try.underlying22 info77 rfl (by decide) (by omega) vA a b _ _ _ (fun _ => True) (fun _ => False) rfl rfl ?aO ?aR (fun _ _ h => h) (fun _ h => h.elim) ?aF ?aB ?aS ?aL ?_; (case aR => exact HRB.out _ HB.out); (case aB => exact HB.out); (case aF => exact (fun _ _ => trivial)); (case aO => exact HO.out); (case aS => exact HB.out.size); (case aL => exact HXL.out.2); intro vB w2 ho hb hg hat; have HBn := Aside0.mk hb; have HOn := Aside0.mk (show Ow w2 w.heap.size vB RL from by rw [← HRL.out]; exact ho); clear HB HO ho hb hg hat; have HB := HBn; have HO := HOn; clear HBn HOn; obtain ⟨Ao, co, rfl⟩ := Kd.R_slice HO.out; skip))
        go_ret
        exact ⟨_, rfl, HO.out, HB.out⟩
    · have d2 : decide ((a.length : Int) > 0) = false := decide_eq_false (by omega)
      have d3 : decide (0 < (a.length : Int)) = false := decide_eq_false (by omega)
      have d4 : decide (0 < a.length) = false := decide_eq_false (by omega)
      rw [show combL a b sep level = RL from by unfold combL; rw [if_neg (fun h => g1 h.2.1)]; exact HRL.out]
      clear g0 g1
      go_enter Try.func53, Try.ntmps53
      go_wp2_with (first | ((with_reducible refine gate_dst (N := 10) rfl ?_); refine Kd.R_lit k77 w.heap.size 77 rfl (N := 10) rfl (xs := ([] : List S77)) (inner := []) (ok := fun _ => True) (okp := fun _ => True) ?hr (Reps.none _ _) (fun _ hk => hk) trivial (Below.refl _ _) (Nat.le_refl _) (by simp) ?_; (case hr => first | (go_simp; done) | (go_simp; rfl)); intro vL wL ho hb hg_ hnew_; clear hg_ hnew_; have HB := Aside0.mk hb; have HO := Aside0.mk ho; (clear ho hb)) | ((with_reducible refine gate_builtin (b := .append) (xs := #[.tmp 10, .tmp 11]) rfl ?_); at_builtin; refine Kd.R_append_rows k77 (w0 := w) w.heap.size rfl (.tmp 10) (.tmp 11) 22 77 (.agg #[(.string ⟨#[]⟩), (.string ⟨#[]⟩), (.int .i64 0), (.int .i64 0), (.int .i64 0), (.int .i64 0), (.int .u8 0), (.int .u8 0), (.int .u8 0), (.int .u8 0), (.int .u8 0), (.int .u8 0), (.int .u8 0), (.int .u8 0), (.int .u8 0), (.int .u8 0), (.int .u8 0), (.int .u8 0), (.int .u8 0), (.int .u8 0), (.int .u8 0), (.int .u8 0)]) 80 rfl Try.underlying22 info77 rfl (by decide) (by omega) vL ([] : List S77) a _ _ _ (fun _ => True) (fun _ => False) rfl rfl ?aO ?aR (fun _ _ h => h) (fun _ h => h.elim) ?aF ?aB ?aS ?aL ?_; (case aR => exact HRA.out _ HB.out); (case aB => exact HB.out); (case aF => exact (fun _ _ => trivial)); (case aO => exact HO.out); (case aS => exact HB.out.size); (case aL => exact HXL.out.1); intro vA wA ho hb hg hat; have HBn := Aside0.mk hb; have HOn := Aside0.mk (show Ow wA w.heap.size vA a from by simpa using ho); clear HB HO ho hb hg hat; have HB := HBn; have HO := HOn; clear HBn HOn) | ((with_reducible refine gate_builtin (b := .append) (xs := #[.tmp 12, .tmp 13]) rfl ?_); at_builtin; refine Kd.R_append_rows k77 (w0 := w) w.heap.size rfl (.tmp 12) (.tmp 13) 22 77 (.agg #[(.string ⟨#[]⟩), (.string ⟨#[]⟩), (.int .i64 0), (.int .i64 0), (.int .i64 0), (.int .i64 0), (.int .u8 0), (.int .u8 0), (.int .u8 0), (.int .u8 0), (.int .u8 0), (.int .u8 0), (.int .u8 0), (.int .u8 0), (.int .u8 0), (.int .u8 0), (.int .u8 0), (.int .u8 0), (.int .u8 0), (.int .u8 0), (.int .u8 0), (.int .u8 0)]) 80 rfl Try.underlying22 info77 rfl (by decide) (by omega) vA a b _ _ _ (fun _ => True) (fun _ => False) rfl rfl ?aO ?aR (fun _ _ h => h) (fun _ h => h.elim) ?aF ?aB ?aS ?aL ?_; (case aR => exact HRB.out _ HB.out); (case aB => exact HB.out); (case aF => exact (fun _ _ => trivial)); (case aO => exact HO.out); (case aS => exact HB.out.size); (case aL => exact HXL.out.2); intro vB w2 ho hb hg hat; have HBn := Aside0.mk hb; have HOn := Aside0.mk (show Ow w2 w.heap.size vB RL from by rw [← HRL.out]; exact ho); clear HB HO ho hb hg hat; have HB := HBn; have HO := HOn; clear HBn HOn; obtain ⟨Ao, co, rfl⟩ := Kd.R_slice HO.out; skip))
      go_ret
      exact ⟨_, rfl, HO.out, HB.out⟩
  · have d0 : decide (level > 0) = false := decide_eq_false (by omega)
    have d1 : decide (0 < level) = false := decide_eq_false (by omega)
    rw [show combL a b sep level = RL from by unfold combL; rw [if_neg (fun h => g0 h.1)]; exact HRL.out]
    clear g0
    go_enter Try.func53, Try.ntmps53
    go_wp2_with (first | ((with_reducible refine gate_dst (N := 10) rfl ?_); refine Kd.R_lit k77 w.heap.size 77 rfl (N := 10) rfl (xs := ([] : List S77)) (inner := []) (ok := fun _ => True) (okp := fun _ => True) ?hr (Reps.none _ _) (fun _ hk => hk) trivial (Below.refl _ _) (Nat.le_refl _) (by simp) ?_; (case hr => first | (go_simp; done) | (go_simp; rfl)); intro vL wL ho hb hg_ hnew_; clear hg_ hnew_; have HB := Aside0.mk hb; have HO := Aside0.mk ho; (clear ho hb)) | ((with_reducible refine gate_builtin (b := .append) (xs := #[.tmp 10, .tmp 11]) rfl ?_); at_builtin; refine Kd.R_append_rows k77 (w0 := w) w.heap.size rfl (.tmp 10) (.tmp 11) 22 77 (.agg #[(.string ⟨#[]⟩), (.string ⟨#[]⟩), (.int .i64 0), (.int .i64 0), (.int .i64 0), (.int .i64 0), (.int .u8 0), (.int .u8 0), (.int .u8 0), (.int .u8 0), (.int .u8 0), (.int .u8 0), (.int .u8 0), (.int .u8 0), (.int .u8 0), (.int .u8 0), (.int .u8 0), (.int .u8 0), (.int .u8 0), (.int .u8 0), (.int .u8 0), (.int .u8 0)]) 80 rfl Try.underlying22 info77 rfl (by decide) (by omega) vL ([] : List S77) a _ _ _ (fun _ => True) (fun _ => False) rfl rfl ?aO ?aR (fun _ _ h => h) (fun _ h => h.elim) ?aF ?aB ?aS ?aL ?_; (case aR => exact HRA.out _ HB.out); (case aB => exact HB.out); (case aF => exact (fun _ _ => trivial)); (case aO => exact HO.out); (case aS => exact HB.out.size); (case aL => exact HXL.out.1); intro vA wA ho hb hg hat; have HBn := Aside0.mk hb; have HOn := Aside0.mk (show Ow wA w.heap.size vA a from by simpa using ho); clear HB HO ho hb hg hat; have HB := HBn; have HO := HOn; clear HBn HOn) | ((with_reducible refine gate_builtin (b := .append) (xs := #[.tmp 12, .tmp 13]) rfl ?_); at_builtin; refine Kd.R_append_rows k77 (w0 := w) w.heap.size rfl (.tmp 12) (.tmp 13) 22 77 (.agg #[(.string ⟨#[]⟩), (.string ⟨#[]⟩), (.int .i64 0), (.int .i64 0), (.int .i64 0), (.int .i64 0), (.int .u8 0), (.int .u8 0), (.int .u8 0), (.int .u8 0), (.int .u8 0), (.int .u8 0), (.int .u8 0), (.int .u8 0), (.int .u8 0), (.int .u8 0), (.int .u8 0), (.int .u8 0), (.int .u8 0), (.int .u8 0), (.int .u8 0), (.int .u8 0)]) 80 rfl Try.underlying22 info77 rfl (by decide) (by omega) vA a b _ _ _ (fun _ => True) (fun _ => False) rfl rfl ?aO ?aR (fun _ _ h => h) (fun _ h => h.elim) ?aF ?aB ?aS ?aL ?_; (case aR => exact HRB.out _ HB.out); (case aB => exact HB.out); (case aF => exact (fun _ _ => trivial)); (case aO => exact HO.out); (case aS => exact HB.out.size); (case aL => exact HXL.out.2); intro vB w2 ho hb hg hat; have HBn := Aside0.mk hb; have HOn := Aside0.mk (show Ow w2 w.heap.size vB RL from by rw [← HRL.out]; exact ho); clear HB HO ho hb hg hat; have HB := HBn; have HO := HOn; clear HBn HOn; obtain ⟨Ao, co, rfl⟩ := Kd.R_slice HO.out; skip))
    go_ret
    exact ⟨_, rfl, HO.out, HB.out⟩
/-- is an entry valid, by itself -/
def oneB (x : S77) (level : Int) : Bool := decide (x.f0.size ≤ 48) && (weightO [x] level).isSome
def eachB (l : List S77) (level : Int) : Bool := l.all fun x => oneB x level
theorem eachB_drop (l : List S77) (level : Int) (k : Nat) (h : k < l.length) : eachB (l.drop k) level = (oneB (l.getD k z77) level && eachB (l.drop (k + 1)) level) := by
  rw [eachB, List.drop_eq_getElem_cons h, List.all_cons, show l.getD k z77 = l[k] by simp [h]]
  rfl
theorem field93_1 (n m : Int) (W : World) : (Instr.field 93 (.agg #[.int .i64 n, .int .i64 m]) 1).run Try.prog W = .ok (.int .i64 m) W := by kernel_rfl
theorem weightR_err (o : Option Int) : ((weightR o).2 != 0) = !o.isSome := by cases o <;> rfl
set_option maxRecDepth 100000 in
set_option maxHeartbeats 8000000 in
theorem each_c (l : List S77) (A : Option Addr) (c : Nat) (level : Int) (w : World) (hr : Kd.C k77 w A l.length l) (hc : l.length ≤ c) (hf : Fine l) :
    Calls Try.prog 49 #[.slice A l.length c, .int .i64 level] w fun e w' => e = .returned (.bool (eachB l level)) ∧ Below w.heap.size w w' := by
  obtain ⟨T, hT⟩ : ∃ T, eachB l level = T := ⟨_, rfl⟩
  have HT := Aside0.mk (show eachB (l.drop 0) level = T from hT)
  rw [hT]
  have HR := Aside0.mk (fun (W : World) (hb : Below w.heap.size w W) => Kd.C_below hr hb)
  have HC := Aside0.mk hc
  have HLEN := Aside0.mk hf.1
  have HF1 := Aside0.mk (fun (x : S77) (hx : x ∈ l) => (show Fine [x] from ⟨by simp, fun y hy => by rw [List.mem_singleton.1 hy]; exact hf.2 x hx⟩))
  obtain ⟨i77, hi77, hsz⟩ := info77'
  have HI77 := Aside0.mk hi77
  have HSZ := Aside0.mk hsz
  have hu93 := Try.underlying93
  clear hr hc hf hT hi77 hsz
  go_enter Try.func49, Try.ntmps49
  go_wp2_with fail
  go_loopw [5] (fun iv wr => ∃ (k : Nat), k ≤ l.length ∧ iv = .int .i64 k ∧ Aside0 (eachB (l.drop k) level = T) ∧ Aside0 (Below w.heap.size w wr)) (fun iv _ => l.length - (intOf iv).toNat)
  case atStart => exact ⟨0, Nat.zero_le _, rfl, HT, ⟨Below.refl _ _⟩⟩
  case round =>
    obtain ⟨k, hk, rfl, HQ, HB⟩ := hrel
    by_cases hlt : k < l.length
    · have HLT := Aside0.mk hlt
      obtain ⟨ad, rfl, _⟩ := elem_at (HR.out wr HB.out) k hlt
      have hq0 := prev_key (HR.out wr HB.out) k hlt
      have HST := Aside0.mk (eachB_drop l level k hlt)
      have hcu0 := cut_mid (P := Try.prog) 22 77 .i64 .i64 Try.underlying22 HI77.out 22 HSZ.out (some ad) l.length c (k : Int) ((k : Int) + 1) (by omega) (by omega) (by omega) HC.out
      have hcu : ∀ W : World, (Instr.slice 22 (.slice (some ad) l.length c) (some (.int .i64 (k : Int))) (some (.int .i64 ((k : Int) + 1))) none).run Try.prog W = .ok (.slice (some (ad.add (k * 22))) 1 (c - k)) W := by
        intro W
        have h := hcu0 W
        rw [Int.toNat_natCast, show ((k : Int) + 1).toNat = k + 1 by omega, if_neg (by have := HC.out; omega), Nat.add_sub_cancel_left] at h
        exact h
      clear hcu0
      have HWT := Aside0.mk (fun (W : World) (hb : Below w.heap.size w W) => (show Calls Try.prog 62 #[.slice (some (ad.add (k * 22))) 1 (c - k), .int .i64 level] W fun e w2 => e = .returned (.agg #[.int .i64 (weightR (weightO [l.getD k z77] level)).1, .int .i64 (weightR (weightO [l.getD k z77] level)).2]) ∧ Below W.heap.size W w2 from by
        have h1 := C_drop (HR.out W hb) (Nat.le_of_lt hlt) HC.out
        rw [if_neg (by have := HC.out; omega)] at h1
        have h2 := C_take h1 (m := 1) (by omega)
        rw [show (l.drop k).take 1 = [l.getD k z77] by rw [List.drop_eq_getElem_cons hlt, List.take_succ_cons, List.take_zero, show l.getD k z77 = l[k] by simp [hlt]]] at h2
        exact rweight_c [l.getD k z77] _ _ level W h2 (HF1.out _ (by simp [hlt]))))
      generalize l.getD k z77 = x at HWT HST hq0
      have hwe := weightR_err (weightO [x] level)
      obtain ⟨f1, hf1⟩ : ∃ f1, (weightR (weightO [x] level)).1 = f1 := ⟨_, rfl⟩
      obtain ⟨f2, hf2⟩ : ∃ f2, (weightR (weightO [x] level)).2 = f2 := ⟨_, rfl⟩
      rw [hf1, hf2] at HWT
      rw [hf2] at hwe
      have hfl := field93_1 f1 f2
      have hk1 : (k : Int) < (l.length : Int) := by omega
      have hk2 : (0 : Int) ≤ (k : Int) := by omega
      have hkw := w_succ k (by have := HLEN.out; omega)
      clear hf1 hf2 hlt hk
      by_cases hz : 48 < x.f0.size
      · have d16 : decide ((48 : Int) < (x.f0.size : Int)) = true := decide_eq_true (by omega)
        have d17 : decide ((x.f0.size : Int) > 48) = true := decide_eq_true (by omega)
        have d18 : decide (48 < x.f0.size) = true := decide_eq_true (by omega)
        have HT3 := Aside0.mk (show T = false by rw [← HQ.out, HST.out, show oneB x level = false by unfold oneB; rw [decide_eq_false (by omega)]; rfl]; rfl)
        clear hz hwe
        go_wp2_with fail
        go_ret
        exact ⟨by rw [HT3.out]; rfl, HB.out⟩
      · have d19 : decide ((48 : Int) < (x.f0.size : Int)) = false := decide_eq_false (by omega)
        have d20 : decide ((x.f0.size : Int) > 48) = false := decide_eq_false (by omega)
        have d21 : decide (48 < x.f0.size) = false := decide_eq_false (by omega)
        cases hs : (weightO [x] level).isSome
        · rw [hs] at hwe
          have HT3 := Aside0.mk (show T = false by rw [← HQ.out, HST.out, show oneB x level = false by unfold oneB; rw [hs]; simp]; rfl)
          clear hz hs
          have hwe2 : (f2 == 0) = false := by simpa using hwe
          go_wp2_with (first | (go_at_call 62; refine (HWT.out _ HB.out).mono ?_; rintro e w2 ⟨rfl, hb⟩; have HB2 := Aside0.mk (below_tr2 (w := w) HB.out hb); clear hb))
          go_ret
          exact ⟨by rw [HT3.out]; rfl, HB2.out⟩
        · rw [hs] at hwe
          have HT3 := Aside0.mk (show eachB (l.drop (k + 1)) level = T by rw [← HQ.out, HST.out, show oneB x level = true by unfold oneB; rw [hs, decide_eq_true (by omega)]; rfl]; rfl)
          clear hz hs
          have hwe2 : (f2 == 0) = true := by simpa using hwe
          go_wp2_with (first | (go_at_call 62; refine (HWT.out _ HB.out).mono ?_; rintro e w2 ⟨rfl, hb⟩; have HB2 := Aside0.mk (below_tr2 (w := w) HB.out hb); clear hb))
          go_roundw
          case rel => exact ⟨k + 1, HLT.out, by rw [hkw]; simp, HT3, HB2⟩
          case measure => (have h9 := HLT.out; rw [hkw]; clear hkw; show l.length - ((k : Int) + 1).toNat < l.length - (k : Int).toNat; omega)
    · obtain rfl : k = l.length := by omega
      have HT2 := Aside0.mk (show T = true by rw [← HQ.out, List.drop_length]; rfl)
      go_wp2_with fail
      go_ret
      exact ⟨by rw [HT2.out]; rfl, HB.out⟩
end Go.Proofs.Ytalncokpbgbccaa.E

/- between: whether a key lies between two lists of a level. -/
namespace Go.Proofs.Ytalncokpbgbccaa.E
set_option linter.unusedVariables false
set_option linter.unusedSimpArgs false
open Go.RowKit Go.Proofs.YtalncokpbgbccaaW.PrintWords Go.Proofs.YtalncokpbgbccaaW.PrintLast Go.Proofs.YtalncokpbgbccaaW.PrintMore
/-- does the key of entry i of the right list lie too low -/
def lowAt (b : List S77) (sep : ByteArray) (level : Int) (i : Nat) : Bool := (decide (0 < i) || decide (level = 0)) && (Op.bytesLess (b.getD i z77).f0.toList sep.toList || (decide (0 < level) && (b.getD i z77).f0.toList == sep.toList))
def betwB (a b : List S77) (sep : ByteArray) (level : Int) : Bool :=
  decide (1 ≤ sep.size) && (decide (sep.size ≤ 48) && ((decide (a.length = 0) || Op.bytesLess (a.getD (a.length - 1) z77).f0.toList sep.toList) && !(List.range b.length).any (lowAt b sep level)))
set_option maxRecDepth 100000 in
set_option maxHeartbeats 8000000 in
theorem betw_1 (a b : List S77) (A B : Option Addr) (c d : Nat) (sep : ByteArray) (level : Int) (w : World) (h : sep.size < 1) :
    Calls Try.prog 52 #[.slice A a.length c, .slice B b.length d, .string sep, .int .i64 level] w fun e w' => e = .returned (.bool false) ∧ Below w.heap.size w w' := by
  have d0 : decide ((sep.size : Int) < 1) = true := decide_eq_true (by omega)
  have d1 : decide (sep.size < 1) = true := decide_eq_true (by omega)
  clear h
  go_enter Try.func52, Try.ntmps52
  go_wp2_with fail
  go_ret
  exact ⟨rfl, Below.refl _ _⟩
set_option maxRecDepth 100000 in
set_option maxHeartbeats 8000000 in
theorem betw_2 (a b : List S77) (A B : Option Addr) (c d : Nat) (sep : ByteArray) (level : Int) (w : World) (h : ¬ sep.size < 1) (h2 : 48 < sep.size) :
    Calls Try.prog 52 #[.slice A a.length c, .slice B b.length d, .string sep, .int .i64 level] w fun e w' => e = .returned (.bool false) ∧ Below w.heap.size w w' := by
  have d2 : decide ((sep.size : Int) < 1) = false := decide_eq_false (by omega)
  have d3 : decide (sep.size < 1) = false := decide_eq_false (by omega)
  have d4 : decide ((sep.size : Int) > 48) = true := decide_eq_true (by omega)
  have d5 : decide ((48 : Int) < (sep.size : Int)) = true := decide_eq_true (by omega)
  have d6 : decide (48 < sep.size) = true := decide_eq_true (by omega)
  clear h h2
  go_enter Try.func52, Try.ntmps52
  go_wp2_with fail
  go_ret
  exact ⟨rfl, Below.refl _ _⟩
set_option maxRecDepth 100000 in
set_option maxHeartbeats 8000000 in
theorem betw_3 (a b : List S77) (A B : Option Addr) (c d : Nat) (sep : ByteArray) (level : Int) (w : World) (ha : Kd.C k77 w A a.length a) (hla : a.length ≤ 1000000) (h : ¬ sep.size < 1) (h2 : ¬ 48 < sep.size) (h3 : 0 < a.length) (h4 : Op.bytesLess (a.getD (a.length - 1) z77).f0.toList sep.toList = false) :
    Calls Try.prog 52 #[.slice A a.length c, .slice B b.length d, .string sep, .int .i64 level] w fun e w' => e = .returned (.bool false) ∧ Below w.heap.size w w' := by
  have d7 : decide ((sep.size : Int) < 1) = false := decide_eq_false (by omega)
  have d8 : decide (sep.size < 1) = false := decide_eq_false (by omega)
  have d9 : decide ((sep.size : Int) > 48) = false := decide_eq_false (by omega)
  have d10 : decide ((48 : Int) < (sep.size : Int)) = false := decide_eq_false (by omega)
  have d11 : decide (48 < sep.size) = false := decide_eq_false (by omega)
  have d12 : decide ((a.length : Int) > 0) = true := decide_eq_true (by omega)
  have d13 : decide (0 < (a.length : Int)) = true := decide_eq_true (by omega)
  have d14 : decide (0 < a.length) = true := decide_eq_true (by omega)
  obtain ⟨p, hp⟩ : ∃ p, a.length = p + 1 := ⟨a.length - 1, by omega⟩
  obtain ⟨ad, rfl, _⟩ := elem_at ha p (by omega)
  have hq := prev_key ha p (by omega)
  have hl1 : (a.length : Int) > 0 := by omega
  have i1 : (p : Int) < (a.length : Int) := by omega
  have i2 : (0 : Int) ≤ (p : Int) := by omega
  have hwm : wrap64 ((a.length : Int) - 1) = (p : Int) := w_pred a.length p hp (by omega)
  rw [show a.length - 1 = p by clear hwm; omega] at h4
  generalize (a.getD p z77).f0 = x at hq h4
  clear h h2 h3 hp hl1 ha hla
  go_enter Try.func52, Try.ntmps52
  go_wp2_with fail
  go_ret
  exact ⟨rfl, Below.refl _ _⟩
set_option maxRecDepth 100000 in
set_option maxHeartbeats 8000000 in
theorem betw_4 (a b : List S77) (A B : Option Addr) (c d : Nat) (sep : ByteArray) (level : Int) (w : World) (ha : Kd.C k77 w A a.length a) (hla : a.length ≤ 1000000) (hr : Kd.C k77 w B b.length b) (hlb : b.length ≤ 1000000) (h : ¬ sep.size < 1) (h2 : ¬ 48 < sep.size) (h0 : level = 0) (h3 : a.length = 0) :
    Calls Try.prog 52 #[.slice A a.length c, .slice B b.length d, .string sep, .int .i64 level] w fun e w' => e = .returned (.bool (!(List.range b.length).any (lowAt b sep level))) ∧ Below w.heap.size w w' := by
  have d15 : decide ((sep.size : Int) < 1) = false := decide_eq_false (by omega)
  have d16 : decide (sep.size < 1) = false := decide_eq_false (by omega)
  have d17 : decide ((sep.size : Int) > 48) = false := decide_eq_false (by omega)
  have d18 : decide ((48 : Int) < (sep.size : Int)) = false := decide_eq_false (by omega)
  have d19 : decide (48 < sep.size) = false := decide_eq_false (by omega)
  have d20 : decide ((a.length : Int) > 0) = false := decide_eq_false (by omega)
  have d21 : decide (0 < (a.length : Int)) = false := decide_eq_false (by omega)
  have d22 : decide (0 < a.length) = false := decide_eq_false (by omega)
  have k4 : (level == 0) = true := beq_iff_eq.mpr (by omega)
  have k5 : decide (0 < level) = false := decide_eq_false (by omega)
  have k6 : decide (level > 0) = false := k5
  have k7 : decide (level = 0) = true := decide_eq_true (by omega)
  have HR := Aside0.mk (fun (W : World) (hb : Below w.heap.size w W) => Kd.C_below hr hb)
  have HLEN := Aside0.mk hlb
  obtain ⟨R, hR⟩ : ∃ R, (!(List.range b.length).any (lowAt b sep level)) = R := ⟨_, rfl⟩
  have HRES := Aside0.mk hR
  rw [hR]
  clear hR ha hr hla hlb h h2 h0 h3
  go_enter Try.func52, Try.ntmps52
  go_wp2_with fail
  go_loopw [9] (fun i wr => ∃ (k : Nat), k ≤ b.length ∧ i = .int .i64 k ∧ Aside0 (∀ j, j < k → lowAt b sep level j = false) ∧ Aside0 (Below w.heap.size w wr)) (fun i _ => b.length - (intOf i).toNat)
  case atStart => exact ⟨0, Nat.zero_le _, rfl, ⟨fun j hj => by omega⟩, ⟨Below.refl _ _⟩⟩
  case round =>
    obtain ⟨k, hk, rfl, HO, HB⟩ := hrel
    by_cases hlt : k < b.length
    · have HLT := Aside0.mk hlt
      obtain ⟨bd, rfl, _⟩ := elem_at (HR.out wr HB.out) k hlt
      have hq0 := prev_key (HR.out wr HB.out) k hlt
      have HVAL := Aside0.mk (show lowAt b sep level k = ((decide (0 < k) || decide (level = 0)) && (Op.bytesLess (b.getD k z77).f0.toList sep.toList || (decide (0 < level) && (b.getD k z77).f0.toList == sep.toList))) from rfl)
      generalize (b.getD k z77).f0 = x at hq0 HVAL
      have HNEXT := Aside0.mk (show lowAt b sep level k = false → ∀ j, j < k + 1 → lowAt b sep level j = false from fun hv j hj => by
        by_cases h : j = k
        · subst h; exact hv
        · exact HO.out j (by omega))
      have hk1 : (k : Int) < (b.length : Int) := by omega
      have hk2 : (0 : Int) ≤ (k : Int) := by omega
      have hkw := w_succ k (by have := HLEN.out; omega)
      clear hlt hk
      by_cases hk0 : 0 < k
      · have d23 : decide ((k : Int) > 0) = true := decide_eq_true (by omega)
        have d24 : decide (0 < (k : Int)) = true := decide_eq_true (by omega)
        have d25 : decide (0 < k) = true := decide_eq_true (by omega)
        rw [decide_eq_true hk0, k7, k5] at HVAL
        clear hk0
        cases hL : Op.bytesLess x.toList sep.toList
        · have HV := Aside0.mk (show lowAt b sep level k = false by rw [HVAL.out]; simp [*])
          clear HVAL
          go_wp2_with fail
          go_roundw
          case rel => exact ⟨k + 1, HLT.out, by rw [hkw]; simp, ⟨HNEXT.out HV.out⟩, HB⟩
          case measure => (have h9 := HLT.out; rw [hkw]; clear hkw; show b.length - ((k : Int) + 1).toNat < b.length - (k : Int).toNat; omega)
        · have HV := Aside0.mk (show lowAt b sep level k = true by rw [HVAL.out]; simp [*])
          clear HVAL
          go_wp2_with fail
          go_ret
          refine ⟨?_, HB.out⟩
          rw [show R = false from by rw [← HRES.out, any_is _ _ k HLT.out HV.out]; rfl] <;> rfl
      · have d26 : decide ((k : Int) > 0) = false := decide_eq_false (by omega)
        have d27 : decide (0 < (k : Int)) = false := decide_eq_false (by omega)
        have d28 : decide (0 < k) = false := decide_eq_false (by omega)
        rw [decide_eq_false hk0, k7, k5] at HVAL
        clear hk0
        cases hL : Op.bytesLess x.toList sep.toList
        · have HV := Aside0.mk (show lowAt b sep level k = false by rw [HVAL.out]; simp [*])
          clear HVAL
          go_wp2_with fail
          go_roundw
          case rel => exact ⟨k + 1, HLT.out, by rw [hkw]; simp, ⟨HNEXT.out HV.out⟩, HB⟩
          case measure => (have h9 := HLT.out; rw [hkw]; clear hkw; show b.length - ((k : Int) + 1).toNat < b.length - (k : Int).toNat; omega)
        · have HV := Aside0.mk (show lowAt b sep level k = true by rw [HVAL.out]; simp [*])
          clear HVAL
          go_wp2_with fail
          go_ret
          refine ⟨?_, HB.out⟩
          rw [show R = false from by rw [← HRES.out, any_is _ _ k HLT.out HV.out]; rfl] <;> rfl
    · obtain rfl : k = b.length := by omega
      have HTT := Aside0.mk (show R = true by rw [← HRES.out, any_not _ _ HO.out]; rfl)
      go_wp2_with fail
      go_ret
      refine ⟨?_, HB.out⟩
      rw [HTT.out] <;> rfl
set_option maxRecDepth 100000 in
set_option maxHeartbeats 8000000 in
theorem betw_5 (a b : List S77) (A B : Option Addr) (c d : Nat) (sep : ByteArray) (level : Int) (w : World) (ha : Kd.C k77 w A a.length a) (hla : a.length ≤ 1000000) (hr : Kd.C k77 w B b.length b) (hlb : b.length ≤ 1000000) (h : ¬ sep.size < 1) (h2 : ¬ 48 < sep.size) (h0 : level = 0) (h3 : 0 < a.length) (h4 : Op.bytesLess (a.getD (a.length - 1) z77).f0.toList sep.toList = true) :
    Calls Try.prog 52 #[.slice A a.length c, .slice B b.length d, .string sep, .int .i64 level] w fun e w' => e = .returned (.bool (!(List.range b.length).any (lowAt b sep level))) ∧ Below w.heap.size w w' := by
  have d29 : decide ((sep.size : Int) < 1) = false := decide_eq_false (by omega)
  have d30 : decide (sep.size < 1) = false := decide_eq_false (by omega)
  have d31 : decide ((sep.size : Int) > 48) = false := decide_eq_false (by omega)
  have d32 : decide ((48 : Int) < (sep.size : Int)) = false := decide_eq_false (by omega)
  have d33 : decide (48 < sep.size) = false := decide_eq_false (by omega)
  have d34 : decide ((a.length : Int) > 0) = true := decide_eq_true (by omega)
  have d35 : decide (0 < (a.length : Int)) = true := decide_eq_true (by omega)
  have d36 : decide (0 < a.length) = true := decide_eq_true (by omega)
  obtain ⟨p, hp⟩ : ∃ p, a.length = p + 1 := ⟨a.length - 1, by omega⟩
  obtain ⟨ad, rfl, _⟩ := elem_at ha p (by omega)
  have hq := prev_key ha p (by omega)
  have hl1 : (a.length : Int) > 0 := by omega
  have i1 : (p : Int) < (a.length : Int) := by omega
  have i2 : (0 : Int) ≤ (p : Int) := by omega
  have hwm : wrap64 ((a.length : Int) - 1) = (p : Int) := w_pred a.length p hp (by omega)
  rw [show a.length - 1 = p by clear hwm; omega] at h4
  generalize (a.getD p z77).f0 = xa at hq h4
  clear hp hl1
  have k4 : (level == 0) = true := beq_iff_eq.mpr (by clear hwm; omega)
  have k5 : decide (0 < level) = false := decide_eq_false (by clear hwm; omega)
  have k6 : decide (level > 0) = false := k5
  have k7 : decide (level = 0) = true := decide_eq_true (by clear hwm; omega)
  have HR := Aside0.mk (fun (W : World) (hb : Below w.heap.size w W) => Kd.C_below hr hb)
  have HLEN := Aside0.mk hlb
  obtain ⟨R, hR⟩ : ∃ R, (!(List.range b.length).any (lowAt b sep level)) = R := ⟨_, rfl⟩
  have HRES := Aside0.mk hR
  rw [hR]
  clear hR ha hr hla hlb h h2 h0 h3
  go_enter Try.func52, Try.ntmps52
  go_wp2_with fail
  clear hq h4 hwm i1 i2
  go_loopw [9] (fun i wr => ∃ (k : Nat), k ≤ b.length ∧ i = .int .i64 k ∧ Aside0 (∀ j, j < k → lowAt b sep level j = false) ∧ Aside0 (Below w.heap.size w wr)) (fun i _ => b.length - (intOf i).toNat)
  case atStart => exact ⟨0, Nat.zero_le _, rfl, ⟨fun j hj => by omega⟩, ⟨Below.refl _ _⟩⟩
  case round =>
    obtain ⟨k, hk, rfl, HO, HB⟩ := hrel
    by_cases hlt : k < b.length
    · have HLT := Aside0.mk hlt
      obtain ⟨bd, rfl, _⟩ := elem_at (HR.out wr HB.out) k hlt
      have hq0 := prev_key (HR.out wr HB.out) k hlt
      have HVAL := Aside0.mk (show lowAt b sep level k = ((decide (0 < k) || decide (level = 0)) && (Op.bytesLess (b.getD k z77).f0.toList sep.toList || (decide (0 < level) && (b.getD k z77).f0.toList == sep.toList))) from rfl)
      generalize (b.getD k z77).f0 = x at hq0 HVAL
      have HNEXT := Aside0.mk (show lowAt b sep level k = false → ∀ j, j < k + 1 → lowAt b sep level j = false from fun hv j hj => by
        by_cases h : j = k
        · subst h; exact hv
        · exact HO.out j (by omega))
      have hk1 : (k : Int) < (b.length : Int) := by omega
      have hk2 : (0 : Int) ≤ (k : Int) := by omega
      have hkw := w_succ k (by have := HLEN.out; omega)
      clear hlt hk
      by_cases hk0 : 0 < k
      · have d37 : decide ((k : Int) > 0) = true := decide_eq_true (by omega)
        have d38 : decide (0 < (k : Int)) = true := decide_eq_true (by omega)
        have d39 : decide (0 < k) = true := decide_eq_true (by omega)
        rw [decide_eq_true hk0, k7, k5] at HVAL
        clear hk0
        cases hL : Op.bytesLess x.toList sep.toList
        · have HV := Aside0.mk (show lowAt b sep level k = false by rw [HVAL.out]; simp [*])
          clear HVAL
          go_wp2_with fail
          go_roundw
          case rel => exact ⟨k + 1, HLT.out, by rw [hkw]; simp, ⟨HNEXT.out HV.out⟩, HB⟩
          case measure => (have h9 := HLT.out; rw [hkw]; clear hkw; show b.length - ((k : Int) + 1).toNat < b.length - (k : Int).toNat; omega)
        · have HV := Aside0.mk (show lowAt b sep level k = true by rw [HVAL.out]; simp [*])
          clear HVAL
          go_wp2_with fail
          go_ret
          refine ⟨?_, HB.out⟩
          rw [show R = false from by rw [← HRES.out, any_is _ _ k HLT.out HV.out]; rfl] <;> rfl
      · have d40 : decide ((k : Int) > 0) = false := decide_eq_false (by omega)
        have d41 : decide (0 < (k : Int)) = false := decide_eq_false (by omega)
        have d42 : decide (0 < k) = false := decide_eq_false (by omega)
        rw [decide_eq_false hk0, k7, k5] at HVAL
        clear hk0
        cases hL : Op.bytesLess x.toList sep.toList
        · have HV := Aside0.mk (show lowAt b sep level k = false by rw [HVAL.out]; simp [*])
          clear HVAL
          go_wp2_with fail
          go_roundw
          case rel => exact ⟨k + 1, HLT.out, by rw [hkw]; simp, ⟨HNEXT.out HV.out⟩, HB⟩
          case measure => (have h9 := HLT.out; rw [hkw]; clear hkw; show b.length - ((k : Int) + 1).toNat < b.length - (k : Int).toNat; omega)
        · have HV := Aside0.mk (show lowAt b sep level k = true by rw [HVAL.out]; simp [*])
          clear HVAL
          go_wp2_with fail
          go_ret
          refine ⟨?_, HB.out⟩
          rw [show R = false from by rw [← HRES.out, any_is _ _ k HLT.out HV.out]; rfl] <;> rfl
    · obtain rfl : k = b.length := by omega
      have HTT := Aside0.mk (show R = true by rw [← HRES.out, any_not _ _ HO.out]; rfl)
      go_wp2_with fail
      go_ret
      refine ⟨?_, HB.out⟩
      rw [HTT.out] <;> rfl
set_option maxRecDepth 100000 in
set_option maxHeartbeats 8000000 in
theorem betw_6 (a b : List S77) (A B : Option Addr) (c d : Nat) (sep : ByteArray) (level : Int) (w : World) (ha : Kd.C k77 w A a.length a) (hla : a.length ≤ 1000000) (hr : Kd.C k77 w B b.length b) (hlb : b.length ≤ 1000000) (h : ¬ sep.size < 1) (h2 : ¬ 48 < sep.size) (h0 : 0 < level) (h3 : a.length = 0) :
    Calls Try.prog 52 #[.slice A a.length c, .slice B b.length d, .string sep, .int .i64 level] w fun e w' => e = .returned (.bool (!(List.range b.length).any (lowAt b sep level))) ∧ Below w.heap.size w w' := by
  have d43 : decide ((sep.size : Int) < 1) = false := decide_eq_false (by omega)
  have d44 : decide (sep.size < 1) = false := decide_eq_false (by omega)
  have d45 : decide ((sep.size : Int) > 48) = false := decide_eq_false (by omega)
  have d46 : decide ((48 : Int) < (sep.size : Int)) = false := decide_eq_false (by omega)
  have d47 : decide (48 < sep.size) = false := decide_eq_false (by omega)
  have d48 : decide ((a.length : Int) > 0) = false := decide_eq_false (by omega)
  have d49 : decide (0 < (a.length : Int)) = false := decide_eq_false (by omega)
  have d50 : decide (0 < a.length) = false := decide_eq_false (by omega)
  have k4 : (level == 0) = false := beq_eq_false_iff_ne.mpr (by omega)
  have k5 : decide (0 < level) = true := decide_eq_true (by omega)
  have k6 : decide (level > 0) = true := k5
  have k7 : decide (level = 0) = false := decide_eq_false (by omega)
  have HR := Aside0.mk (fun (W : World) (hb : Below w.heap.size w W) => Kd.C_below hr hb)
  have HLEN := Aside0.mk hlb
  obtain ⟨R, hR⟩ : ∃ R, (!(List.range b.length).any (lowAt b sep level)) = R := ⟨_, rfl⟩
  have HRES := Aside0.mk hR
  rw [hR]
  clear hR ha hr hla hlb h h2 h0 h3
  go_enter Try.func52, Try.ntmps52
  go_wp2_with fail
  go_loopw [9] (fun i wr => ∃ (k : Nat), k ≤ b.length ∧ i = .int .i64 k ∧ Aside0 (∀ j, j < k → lowAt b sep level j = false) ∧ Aside0 (Below w.heap.size w wr)) (fun i _ => b.length - (intOf i).toNat)
  case atStart => exact ⟨0, Nat.zero_le _, rfl, ⟨fun j hj => by omega⟩, ⟨Below.refl _ _⟩⟩
  case round =>
    obtain ⟨k, hk, rfl, HO, HB⟩ := hrel
    by_cases hlt : k < b.length
    · have HLT := Aside0.mk hlt
      obtain ⟨bd, rfl, _⟩ := elem_at (HR.out wr HB.out) k hlt
      have hq0 := prev_key (HR.out wr HB.out) k hlt
      have HVAL := Aside0.mk (show lowAt b sep level k = ((decide (0 < k) || decide (level = 0)) && (Op.bytesLess (b.getD k z77).f0.toList sep.toList || (decide (0 < level) && (b.getD k z77).f0.toList == sep.toList))) from rfl)
      generalize (b.getD k z77).f0 = x at hq0 HVAL
      have HNEXT := Aside0.mk (show lowAt b sep level k = false → ∀ j, j < k + 1 → lowAt b sep level j = false from fun hv j hj => by
        by_cases h : j = k
        · subst h; exact hv
        · exact HO.out j (by omega))
      have hk1 : (k : Int) < (b.length : Int) := by omega
      have hk2 : (0 : Int) ≤ (k : Int) := by omega
      have hkw := w_succ k (by have := HLEN.out; omega)
      clear hlt hk
      by_cases hk0 : 0 < k
      · have d51 : decide ((k : Int) > 0) = true := decide_eq_true (by omega)
        have d52 : decide (0 < (k : Int)) = true := decide_eq_true (by omega)
        have d53 : decide (0 < k) = true := decide_eq_true (by omega)
        rw [decide_eq_true hk0, k7, k5] at HVAL
        clear hk0
        cases hL : Op.bytesLess x.toList sep.toList
        · cases hE : (x.toList == sep.toList)
          · have HV := Aside0.mk (show lowAt b sep level k = false by rw [HVAL.out]; simp [*])
            clear HVAL
            go_wp2_with fail
            go_roundw
            case rel => exact ⟨k + 1, HLT.out, by rw [hkw]; simp, ⟨HNEXT.out HV.out⟩, HB⟩
            case measure => (have h9 := HLT.out; rw [hkw]; clear hkw; show b.length - ((k : Int) + 1).toNat < b.length - (k : Int).toNat; omega)
          · have HV := Aside0.mk (show lowAt b sep level k = true by rw [HVAL.out]; simp [*])
            clear HVAL
            go_wp2_with fail
            go_ret
            refine ⟨?_, HB.out⟩
            rw [show R = false from by rw [← HRES.out, any_is _ _ k HLT.out HV.out]; rfl] <;> rfl
        · have HV := Aside0.mk (show lowAt b sep level k = true by rw [HVAL.out]; simp [*])
          clear HVAL
          go_wp2_with fail
          go_ret
          refine ⟨?_, HB.out⟩
          rw [show R = false from by rw [← HRES.out, any_is _ _ k HLT.out HV.out]; rfl] <;> rfl
      · have d54 : decide ((k : Int) > 0) = false := decide_eq_false (by omega)
        have d55 : decide (0 < (k : Int)) = false := decide_eq_false (by omega)
        have d56 : decide (0 < k) = false := decide_eq_false (by omega)
        rw [decide_eq_false hk0, k7, k5] at HVAL
        clear hk0
        have HV := Aside0.mk (show lowAt b sep level k = false by rw [HVAL.out]; simp [*])
        clear HVAL
        go_wp2_with fail
        go_roundw
        case rel => exact ⟨k + 1, HLT.out, by rw [hkw]; simp, ⟨HNEXT.out HV.out⟩, HB⟩
        case measure => (have h9 := HLT.out; rw [hkw]; clear hkw; show b.length - ((k : Int) + 1).toNat < b.length - (k : Int).toNat; omega)
    · obtain rfl : k = b.length := by omega
      have HTT := Aside0.mk (show R = true by rw [← HRES.out, any_not _ _ HO.out]; rfl)
      go_wp2_with fail
      go_ret
      refine ⟨?_, HB.out⟩
      rw [HTT.out] <;> rfl
set_option maxRecDepth 100000 in
set_option maxHeartbeats 8000000 in
theorem betw_7 (a b : List S77) (A B : Option Addr) (c d : Nat) (sep : ByteArray) (level : Int) (w : World) (ha : Kd.C k77 w A a.length a) (hla : a.length ≤ 1000000) (hr : Kd.C k77 w B b.length b) (hlb : b.length ≤ 1000000) (h : ¬ sep.size < 1) (h2 : ¬ 48 < sep.size) (h0 : 0 < level) (h3 : 0 < a.length) (h4 : Op.bytesLess (a.getD (a.length - 1) z77).f0.toList sep.toList = true) :
    Calls Try.prog 52 #[.slice A a.length c, .slice B b.length d, .string sep, .int .i64 level] w fun e w' => e = .returned (.bool (!(List.range b.length).any (lowAt b sep level))) ∧ Below w.heap.size w w' := by
  have d57 : decide ((sep.size : Int) < 1) = false := decide_eq_false (by omega)
  have d58 : decide (sep.size < 1) = false := decide_eq_false (by omega)
  have d59 : decide ((sep.size : Int) > 48) = false := decide_eq_false (by omega)
  have d60 : decide ((48 : Int) < (sep.size : Int)) = false := decide_eq_false (by omega)
  have d61 : decide (48 < sep.size) = false := decide_eq_false (by omega)
  have d62 : decide ((a.length : Int) > 0) = true := decide_eq_true (by omega)
  have d63 : decide (0 < (a.length : Int)) = true := decide_eq_true (by omega)
  have d64 : decide (0 < a.length) = true := decide_eq_true (by omega)
  obtain ⟨p, hp⟩ : ∃ p, a.length = p + 1 := ⟨a.length - 1, by omega⟩
  obtain ⟨ad, rfl, _⟩ := elem_at ha p (by omega)
  have hq := prev_key ha p (by omega)
  have hl1 : (a.length : Int) > 0 := by omega
  have i1 : (p : Int) < (a.length : Int) := by omega
  have i2 : (0 : Int) ≤ (p : Int) := by omega
  have hwm : wrap64 ((a.length : Int) - 1) = (p : Int) := w_pred a.length p hp (by omega)
  rw [show a.length - 1 = p by clear hwm; omega] at h4
  generalize (a.getD p z77).f0 = xa at hq h4
  clear hp hl1
  have k4 : (level == 0) = false := beq_eq_false_iff_ne.mpr (by clear hwm; omega)
  have k5 : decide (0 < level) = true := decide_eq_true (by clear hwm; omega)
  have k6 : decide (level > 0) = true := k5
  have k7 : decide (level = 0) = false := decide_eq_false (by clear hwm; omega)
  have HR := Aside0.mk (fun (W : World) (hb : Below w.heap.size w W) => Kd.C_below hr hb)
  have HLEN := Aside0.mk hlb
  obtain ⟨R, hR⟩ : ∃ R, (!(List.range b.length).any (lowAt b sep level)) = R := ⟨_, rfl⟩
  have HRES := Aside0.mk hR
  rw [hR]
  clear hR ha hr hla hlb h h2 h0 h3
  go_enter Try.func52, Try.ntmps52
  go_wp2_with fail
  clear hq h4 hwm i1 i2
  go_loopw [9] (fun i wr => ∃ (k : Nat), k ≤ b.length ∧ i = .int .i64 k ∧ Aside0 (∀ j, j < k → lowAt b sep level j = false) ∧ Aside0 (Below w.heap.size w wr)) (fun i _ => b.length - (intOf i).toNat)
  case atStart => exact ⟨0, Nat.zero_le _, rfl, ⟨fun j hj => by omega⟩, ⟨Below.refl _ _⟩⟩
  case round =>
    obtain ⟨k, hk, rfl, HO, HB⟩ := hrel
    by_cases hlt : k < b.length
    · have HLT := Aside0.mk hlt
      obtain ⟨bd, rfl, _⟩ := elem_at (HR.out wr HB.out) k hlt
      have hq0 := prev_key (HR.out wr HB.out) k hlt
      have HVAL := Aside0.mk (show lowAt b sep level k = ((decide (0 < k) || decide (level = 0)) && (Op.bytesLess (b.getD k z77).f0.toList sep.toList || (decide (0 < level) && (b.getD k z77).f0.toList == sep.toList))) from rfl)
      generalize (b.getD k z77).f0 = x at hq0 HVAL
      have HNEXT := Aside0.mk (show lowAt b sep level k = false → ∀ j, j < k + 1 → lowAt b sep level j = false from fun hv j hj => by
        by_cases h : j = k
        · subst h; exact hv
        · exact HO.out j (by omega))
      have hk1 : (k : Int) < (b.length : Int) := by omega
      have hk2 : (0 : Int) ≤ (k : Int) := by omega
      have hkw := w_succ k (by have := HLEN.out; omega)
      clear hlt hk
      by_cases hk0 : 0 < k
      · have d65 : decide ((k : Int) > 0) = true := decide_eq_true (by omega)
        have d66 : decide (0 < (k : Int)) = true := decide_eq_true (by omega)
        have d67 : decide (0 < k) = true := decide_eq_true (by omega)
        rw [decide_eq_true hk0, k7, k5] at HVAL
        clear hk0
        cases hL : Op.bytesLess x.toList sep.toList
        · cases hE : (x.toList == sep.toList)
          · have HV := Aside0.mk (show lowAt b sep level k = false by rw [HVAL.out]; simp [*])
            clear HVAL
            go_wp2_with fail
            go_roundw
            case rel => exact ⟨k + 1, HLT.out, by rw [hkw]; simp, ⟨HNEXT.out HV.out⟩, HB⟩
            case measure => (have h9 := HLT.out; rw [hkw]; clear hkw; show b.length - ((k : Int) + 1).toNat < b.length - (k : Int).toNat; omega)
          · have HV := Aside0.mk (show lowAt b sep level k = true by rw [HVAL.out]; simp [*])
            clear HVAL
            go_wp2_with fail
            go_ret
            refine ⟨?_, HB.out⟩
            rw [show R = false from by rw [← HRES.out, any_is _ _ k HLT.out HV.out]; rfl] <;> rfl
        · have HV := Aside0.mk (show lowAt b sep level k = true by rw [HVAL.out]; simp [*])
          clear HVAL
          go_wp2_with fail
          go_ret
          refine ⟨?_, HB.out⟩
          rw [show R = false from by rw [← HRES.out, any_is _ _ k HLT.out HV.out]; rfl] <;> rfl
      · have d68 : decide ((k : Int) > 0) = false := decide_eq_false (by omega)
        have d69 : decide (0 < (k : Int)) = false := decide_eq_false (by omega)
        have d70 : decide (0 < k) = false := decide_eq_false (by omega)
        rw [decide_eq_false hk0, k7, k5] at HVAL
        clear hk0
        have HV := Aside0.mk (show lowAt b sep level k = false by rw [HVAL.out]; simp [*])
        clear HVAL
        go_wp2_with fail
        go_roundw
        case rel => exact ⟨k + 1, HLT.out, by rw [hkw]; simp, ⟨HNEXT.out HV.out⟩, HB⟩
        case measure => (have h9 := HLT.out; rw [hkw]; clear hkw; show b.length - ((k : Int) + 1).toNat < b.length - (k : Int).toNat; omega)
    · obtain rfl : k = b.length := by omega
      have HTT := Aside0.mk (show R = true by rw [← HRES.out, any_not _ _ HO.out]; rfl)
      go_wp2_with fail
      go_ret
      refine ⟨?_, HB.out⟩
      rw [HTT.out] <;> rfl
theorem between_c (a b : List S77) (A B : Option Addr) (c d : Nat) (sep : ByteArray) (level : Int) (w : World) (ha : Kd.C k77 w A a.length a) (hla : a.length ≤ 1000000) (hr : Kd.C k77 w B b.length b) (hlb : b.length ≤ 1000000) (h0 : 0 ≤ level) :
    Calls Try.prog 52 #[.slice A a.length c, .slice B b.length d, .string sep, .int .i64 level] w fun e w' => e = .returned (.bool (betwB a b sep level)) ∧ Below w.heap.size w w' := by
  unfold betwB
  by_cases h : sep.size < 1
  · rw [decide_eq_false (show ¬ 1 ≤ sep.size by omega), Bool.false_and]; exact betw_1 a b A B c d sep level w h
  rw [decide_eq_true (show 1 ≤ sep.size by omega), Bool.true_and]
  by_cases h2 : 48 < sep.size
  · rw [decide_eq_false (show ¬ sep.size ≤ 48 by omega), Bool.false_and]; exact betw_2 a b A B c d sep level w h h2
  rw [decide_eq_true (show sep.size ≤ 48 by omega), Bool.true_and]
  by_cases h3 : a.length = 0
  · rw [decide_eq_true h3, Bool.true_or, Bool.true_and]
    by_cases hz : level = 0
    · exact betw_4 a b A B c d sep level w ha hla hr hlb h h2 hz h3
    · exact betw_6 a b A B c d sep level w ha hla hr hlb h h2 (by omega) h3
  · rw [decide_eq_false h3, Bool.false_or]
    cases h4 : Op.bytesLess (a.getD (a.length - 1) z77).f0.toList sep.toList with
    | false => rw [Bool.false_and]; exact betw_3 a b A B c d sep level w ha hla h h2 (by omega) h4
    | true =>
      rw [Bool.true_and]
      by_cases hz : level = 0
      · exact betw_5 a b A B c d sep level w ha hla hr hlb h h2 hz (by omega) h4
      · exact betw_7 a b A B c d sep level w ha hla hr hlb h h2 (by omega) (by omega) h4
end Go.Proofs.Ytalncokpbgbccaa.E

