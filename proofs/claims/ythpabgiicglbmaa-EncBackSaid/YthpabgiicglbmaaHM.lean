import Derived.Test.YthpabgiicglbmaaHK
import Derived.Test.YthpabgiicglbmaaHP
import Derived.Laws.EntriesVeiled
import Derived.Laws.BitsLemmas
import Derived.RegionTactic
import Derived.Deep.RegionHeld3
namespace Go.Proofs.Ythpabgiicglbmaa.E
set_option linter.unusedVariables false
set_option linter.unusedSimpArgs false
open Go.RowKit Go.Proofs.YthpabgiicglbmaaW.PrintWords Go.Proofs.YthpabgiicglbmaaW.PrintLast Go.Proofs.YthpabgiicglbmaaW.PrintMore

/-- a datum's value -/
abbrev datV (k n : Int) (s : ByteArray) : Value := .agg #[.int .i64 k, .int .i64 n, .string s]
theorem empty_size (s : ByteArray) : s.toList.isEmpty = (s.size == 0) := by
  obtain ⟨l, rfl⟩ : ∃ l, s = ofL l := ⟨toL s, (ofL_toL s).symm⟩
  rw [toList_ofL, size_ofL]
  cases l <;> rfl
theorem bv_one (m : BitVec 64) : m &&& ~~~1#64 = 0#64 ↔ m.toNat < 2 := by
  constructor
  · intro h
    have e : m = m &&& 1#64 := by
      have e2 : m = (m &&& 1#64) ||| (m &&& ~~~1#64) := by
        apply BitVec.eq_of_getLsbD_eq
        intro i hi
        simp only [BitVec.getLsbD_or, BitVec.getLsbD_and, BitVec.getLsbD_not, hi, decide_true, Bool.true_and]
        cases m.getLsbD i <;> cases (1#64).getLsbD i <;> rfl
      rw [h] at e2
      simpa using e2
    have e3 : m.toNat = m.toNat % 2 := by
      have := congrArg BitVec.toNat e
      rw [BitVec.toNat_and] at this
      simpa [Nat.and_one_is_mod] using this
    omega
  · intro h
    have : m = 0#64 ∨ m = 1#64 := by
      have h2 : m.toNat = 0 ∨ m.toNat = 1 := by omega
      rcases h2 with h2 | h2
      · exact .inl (BitVec.eq_of_toNat_eq h2)
      · exact .inr (BitVec.eq_of_toNat_eq h2)
    rcases this with rfl | rfl <;> decide
theorem andNot_one (n : Int) (h0 : -9223372036854775808 ≤ n) (h1 : n ≤ 9223372036854775807) : Go.bits .andNot .i64 n 1 = 0 ↔ (n = 0 ∨ n = 1) := by
  have e : Go.bits .andNot .i64 n 1 = IntKind.i64.wrap (((BitVec.ofInt 64 n &&& ~~~1#64).toNat : Nat) : Int) := rfl
  have hlt := (BitVec.ofInt 64 n &&& ~~~1#64).isLt
  have hw : IntKind.i64.wrap (((BitVec.ofInt 64 n &&& ~~~1#64).toNat : Nat) : Int) = 0 ↔ (BitVec.ofInt 64 n &&& ~~~1#64).toNat = 0 := by
    rw [IntKind.wrap_i64]
    omega
  have hz : (BitVec.ofInt 64 n &&& ~~~1#64).toNat = 0 ↔ BitVec.ofInt 64 n &&& ~~~1#64 = 0#64 :=
    ⟨fun h => BitVec.eq_of_toNat_eq h, fun h => by rw [h]; rfl⟩
  rw [e, hw, hz, bv_one, BitVec.toNat_ofInt]
  omega
set_option maxRecDepth 100000 in
theorem valid_null (k n : Int) (s : ByteArray) (w : World) :
    Calls Try.prog 96 #[datV k n s] w fun e w' => e = .returned (.bool (n == 0 && s.size == 0)) ∧ Below w.heap.size w w' := by
  go_enter Try.func96, Try.ntmps96
  go_wp2
  · rename_i h
    go_ret
    exact ⟨by simp [h, empty_size], (Below.refl _ w).alloc (Nat.le_refl _) _⟩
  · rename_i h
    go_ret
    exact ⟨by simp [h], (Below.refl _ w).alloc (Nat.le_refl _) _⟩
set_option maxRecDepth 100000 in
theorem valid_bool (k n : Int) (s : ByteArray) (w : World) (h0 : -9223372036854775808 ≤ n) (h1 : n ≤ 9223372036854775807) :
    Calls Try.prog 99 #[datV k n s] w fun e w' => e = .returned (.bool ((n == 0 || n == 1) && s.size == 0)) ∧ Below w.heap.size w w' := by
  go_enter Try.func99, Try.ntmps99
  go_wp2
  · rename_i h
    rw [andNot_one n h0 h1] at h
    go_ret
    exact ⟨by rcases h with h | h <;> simp [h, empty_size], (Below.refl _ w).alloc (Nat.le_refl _) _⟩
  · rename_i h
    rw [andNot_one n h0 h1, not_or] at h
    go_ret
    exact ⟨by simp [h], (Below.refl _ w).alloc (Nat.le_refl _) _⟩
set_option maxRecDepth 100000 in
theorem valid_int (k n : Int) (s : ByteArray) (w : World) :
    Calls Try.prog 102 #[datV k n s] w fun e w' => e = .returned (.bool (s.size == 0)) ∧ Below w.heap.size w w' := by
  go_enter Try.func102, Try.ntmps102
  go_wp2
  go_ret
  exact ⟨by simp [empty_size], (Below.refl _ w).alloc (Nat.le_refl _) _⟩
set_option maxRecDepth 100000 in
theorem valid_text (k n : Int) (s : ByteArray) (w : World) :
    Calls Try.prog 105 #[datV k n s] w fun e w' => e = .returned (.bool (n == 0)) ∧ Below w.heap.size w w' := by
  go_enter Try.func105, Try.ntmps105
  go_wp2
  go_ret
  exact ⟨rfl, (Below.refl _ w).alloc (Nat.le_refl _) _⟩
set_option maxRecDepth 100000 in
theorem put_null (k n : Int) (s : ByteArray) (w : World) :
    Calls Try.prog 97 #[datV k n s] w fun e w' => e = .returned (.string ⟨#[]⟩) ∧ Below w.heap.size w w' := by
  go_enter Try.func97, Try.ntmps97
  go_wp2
  go_ret
  exact ⟨rfl, (Below.refl _ w).alloc (Nat.le_refl _) _⟩
set_option maxRecDepth 100000 in
theorem put_bool (k n : Int) (s : ByteArray) (w : World) (h0 : 0 ≤ n) (h1 : n ≤ 1) :
    Calls Try.prog 100 #[datV k n s] w fun e w' => e = .returned (.string (ofL [UInt8.ofNat n.toNat])) ∧ Below w.heap.size w w' := by
  obtain ⟨m, rfl⟩ := Int.eq_ofNat_of_zero_le h0
  rw [Int.toNat_natCast]
  have hb : bigL m 1 = [UInt8.ofNat m] := by simp [bigL, Nat.mod_eq_of_lt (show m < 256 by omega)]
  go_enter Try.func100, Try.ntmps100
  go_wp2_with fail
  refine (enc_big.calls 2 _ 1 _ _ (big_spec m 1 (by omega))).mono ?_
  rintro e w1 ⟨rfl, hb1⟩
  go_wp2
  go_ret
  exact ⟨rfl, ((Below.refl _ w).alloc (Nat.le_refl _) _).trans (hb1.mono (by simp))⟩
set_option maxRecDepth 100000 in
theorem put_int (k n : Int) (s : ByteArray) (w : World) :
    Calls Try.prog 103 #[datV k n s] w fun e w' => e = .returned (.string (ofL (putIntL n))) ∧ Below w.heap.size w w' := by
  go_enter Try.func103, Try.ntmps103
  go_wp2_with fail
  refine (enc_PutInt.calls 9 n _ _ (putInt_spec n)).mono ?_
  rintro e w1 ⟨rfl, hb1⟩
  go_wp2
  go_ret
  exact ⟨rfl, ((Below.refl _ w).alloc (Nat.le_refl _) _).trans (hb1.mono (by simp))⟩
set_option maxRecDepth 100000 in
theorem put_txt (k n : Int) (s : ByteArray) (w : World) (hs : s.size ≤ 1000000) :
    Calls Try.prog 106 #[datV k n s] w fun e w' => e = .returned (.string (ofL (escL (toL s)))) ∧ Below w.heap.size w w' := by
  go_enter Try.func106, Try.ntmps106
  go_wp2_with fail
  refine (enc_PutText.calls s _ _ (if_pos hs)).mono ?_
  rintro e w1 ⟨rfl, hb1⟩
  go_wp2
  go_ret
  exact ⟨rfl, ((Below.refl _ w).alloc (Nat.le_refl _) _).trans (hb1.mono (by simp))⟩
/-- the table of kinds -/
abbrev kindsV : Value := .agg #[.func (.func 96) #[] #[], .func (.func 97) #[] #[], .func (.func 98) #[] #[], .func (.func 99) #[] #[], .func (.func 100) #[] #[], .func (.func 101) #[] #[], .func (.func 102) #[] #[], .func (.func 103) #[] #[], .func (.func 104) #[] #[], .func (.func 105) #[] #[], .func (.func 106) #[] #[], .func (.func 107) #[] #[]]
set_option maxRecDepth 100000 in
theorem kinds_walk (w : World) :
    Calls Try.prog 65 #[] w fun e w' => e = .returned kindsV ∧ Below w.heap.size w w' := by
  go_enter Try.func65, Try.ntmps65
  go_wp2
  exact bodyPost_ret (v := kindsV) (by simp [results, Try.results65, go_sem]) rfl ⟨rfl, (Below.refl _ w).alloc (Nat.le_refl _) _⟩
end Go.Proofs.Ythpabgiicglbmaa.E

namespace Go.Proofs.Ythpabgiicglbmaa.E
open Go.RowKit Go.Proofs.YthpabgiicglbmaaW.PrintWords Go.Proofs.YthpabgiicglbmaaW.PrintLast Go.Proofs.YthpabgiicglbmaaW.PrintMore

theorem held_first (w : World) (v0 v1 v2 : Value) (t : TypeId) :
    (w.alloc (.cells #[v0, v1, v2] t)).cell? ⟨w.heap.size, 0, none⟩ = some v0 ∧ (w.alloc (.cells #[v0, v1, v2] t)).cell? ⟨w.heap.size, 1, none⟩ = some v1 ∧ (w.alloc (.cells #[v0, v1, v2] t)).cell? ⟨w.heap.size, 2, none⟩ = some v2 ∧ Below w.heap.size w (w.alloc (.cells #[v0, v1, v2] t)) ∧ w.heap.size < (w.alloc (.cells #[v0, v1, v2] t)).heap.size :=
  ⟨by simp [go_sem], by simp [go_sem], by simp [go_sem], (Below.refl _ w).alloc (Nat.le_refl _) _, by simp⟩
theorem held_drew {b : Nat} {w W : World} {v0 v1 v2 : Value} (h : W.cell? ⟨b, 0, none⟩ = some v0 ∧ W.cell? ⟨b, 1, none⟩ = some v1 ∧ W.cell? ⟨b, 2, none⟩ = some v2 ∧ Below b w W ∧ b < W.heap.size) :
    (W.drew).cell? ⟨b, 0, none⟩ = some v0 ∧ (W.drew).cell? ⟨b, 1, none⟩ = some v1 ∧ (W.drew).cell? ⟨b, 2, none⟩ = some v2 ∧ Below b w (W.drew) ∧ b < (W.drew).heap.size := by
  obtain ⟨h0, h1, h2, h3, h4⟩ := h
  exact ⟨by simp [go_sem, h0], by simp [go_sem, h1], by simp [go_sem, h2], below_drew1 h3, by simp [go_sem, h4]⟩
theorem held_call {b : Nat} {w W W' : World} {v0 v1 v2 : Value} (hk : Below W.heap.size W W') (h : W.cell? ⟨b, 0, none⟩ = some v0 ∧ W.cell? ⟨b, 1, none⟩ = some v1 ∧ W.cell? ⟨b, 2, none⟩ = some v2 ∧ Below b w W ∧ b < W.heap.size) :
    W'.cell? ⟨b, 0, none⟩ = some v0 ∧ W'.cell? ⟨b, 1, none⟩ = some v1 ∧ W'.cell? ⟨b, 2, none⟩ = some v2 ∧ Below b w W' ∧ b < W'.heap.size := by
  obtain ⟨h0, h1, h2, h3, h4⟩ := h
  exact ⟨(hk.cell (p := ⟨b, 0, none⟩) h4).trans h0, (hk.cell (p := ⟨b, 1, none⟩) h4).trans h1, (hk.cell (p := ⟨b, 2, none⟩) h4).trans h2, h3.trans (hk.mono (Nat.le_of_lt h4)), Nat.lt_of_lt_of_le h4 hk.size⟩
theorem index_0 (W : World) : (Instr.index 100 kindsV (.int .i64 0)).run Try.prog W = .ok (.agg #[.func (.func 96) #[] #[], .func (.func 97) #[] #[], .func (.func 98) #[] #[]]) W := by kernel_rfl
theorem field_0_0 (W : World) : (Instr.field 99 (.agg #[.func (.func 96) #[] #[], .func (.func 97) #[] #[], .func (.func 98) #[] #[]]) 0).run Try.prog W = .ok (.func (.func 96) #[] #[]) W := by kernel_rfl
theorem field_0_1 (W : World) : (Instr.field 99 (.agg #[.func (.func 96) #[] #[], .func (.func 97) #[] #[], .func (.func 98) #[] #[]]) 1).run Try.prog W = .ok (.func (.func 97) #[] #[]) W := by kernel_rfl
theorem field_0_2 (W : World) : (Instr.field 99 (.agg #[.func (.func 96) #[] #[], .func (.func 97) #[] #[], .func (.func 98) #[] #[]]) 2).run Try.prog W = .ok (.func (.func 98) #[] #[]) W := by kernel_rfl
theorem index_1 (W : World) : (Instr.index 100 kindsV (.int .i64 1)).run Try.prog W = .ok (.agg #[.func (.func 99) #[] #[], .func (.func 100) #[] #[], .func (.func 101) #[] #[]]) W := by kernel_rfl
theorem field_1_0 (W : World) : (Instr.field 99 (.agg #[.func (.func 99) #[] #[], .func (.func 100) #[] #[], .func (.func 101) #[] #[]]) 0).run Try.prog W = .ok (.func (.func 99) #[] #[]) W := by kernel_rfl
theorem field_1_1 (W : World) : (Instr.field 99 (.agg #[.func (.func 99) #[] #[], .func (.func 100) #[] #[], .func (.func 101) #[] #[]]) 1).run Try.prog W = .ok (.func (.func 100) #[] #[]) W := by kernel_rfl
theorem field_1_2 (W : World) : (Instr.field 99 (.agg #[.func (.func 99) #[] #[], .func (.func 100) #[] #[], .func (.func 101) #[] #[]]) 2).run Try.prog W = .ok (.func (.func 101) #[] #[]) W := by kernel_rfl
theorem index_2 (W : World) : (Instr.index 100 kindsV (.int .i64 2)).run Try.prog W = .ok (.agg #[.func (.func 102) #[] #[], .func (.func 103) #[] #[], .func (.func 104) #[] #[]]) W := by kernel_rfl
theorem field_2_0 (W : World) : (Instr.field 99 (.agg #[.func (.func 102) #[] #[], .func (.func 103) #[] #[], .func (.func 104) #[] #[]]) 0).run Try.prog W = .ok (.func (.func 102) #[] #[]) W := by kernel_rfl
theorem field_2_1 (W : World) : (Instr.field 99 (.agg #[.func (.func 102) #[] #[], .func (.func 103) #[] #[], .func (.func 104) #[] #[]]) 1).run Try.prog W = .ok (.func (.func 103) #[] #[]) W := by kernel_rfl
theorem field_2_2 (W : World) : (Instr.field 99 (.agg #[.func (.func 102) #[] #[], .func (.func 103) #[] #[], .func (.func 104) #[] #[]]) 2).run Try.prog W = .ok (.func (.func 104) #[] #[]) W := by kernel_rfl
theorem index_3 (W : World) : (Instr.index 100 kindsV (.int .i64 3)).run Try.prog W = .ok (.agg #[.func (.func 105) #[] #[], .func (.func 106) #[] #[], .func (.func 107) #[] #[]]) W := by kernel_rfl
theorem field_3_0 (W : World) : (Instr.field 99 (.agg #[.func (.func 105) #[] #[], .func (.func 106) #[] #[], .func (.func 107) #[] #[]]) 0).run Try.prog W = .ok (.func (.func 105) #[] #[]) W := by kernel_rfl
theorem field_3_1 (W : World) : (Instr.field 99 (.agg #[.func (.func 105) #[] #[], .func (.func 106) #[] #[], .func (.func 107) #[] #[]]) 1).run Try.prog W = .ok (.func (.func 106) #[] #[]) W := by kernel_rfl
theorem field_3_2 (W : World) : (Instr.field 99 (.agg #[.func (.func 105) #[] #[], .func (.func 106) #[] #[], .func (.func 107) #[] #[]]) 2).run Try.prog W = .ok (.func (.func 107) #[] #[]) W := by kernel_rfl
set_option maxRecDepth 100000 in
theorem check_0 (n : Int) (s : ByteArray) (w : World) (v : Bool) (hv : (n == 0 && s.size == 0) = v) :
    Calls Try.prog 32 #[datV 0 n s] w fun e w' => e = .returned (.int .i64 (if v then 0 else 2)) ∧ Below w.heap.size w w' := by
  have hc : ∀ w, Calls Try.prog 96 #[datV 0 n s] w fun e w' => e = .returned (.bool v) ∧ Below w.heap.size w w' := fun w => by rw [← hv]; exact valid_null _ _ _ _
  clear hv
  have HC := Aside0.mk hc
  clear hc
  go_enter Try.func32, Try.ntmps32
  go_wp2
  have hix := index_0
  have hfl := field_0_0
  have H := Aside0.mk (held_first w (.int .i64 0) (.int .i64 n) (.string s) 49)
  go_region_held3 (fun w' => w'.cell? ⟨w.heap.size, 0, none⟩ = some (.int .i64 0) ∧ w'.cell? ⟨w.heap.size, 1, none⟩ = some (.int .i64 n) ∧ w'.cell? ⟨w.heap.size, 2, none⟩ = some (.string s) ∧ Below w.heap.size w w' ∧ w.heap.size < w'.heap.size) (first | assumption | exact H.out | exact held_drew H.out | exact held_call hb (by assumption))
    (first | (go_at_call 65; refine (kinds_walk _).mono ?_; rintro e w' ⟨rfl, hb⟩) | (go_at_call 96; refine (HC.out _).mono ?_; rintro e w' ⟨rfl, hb⟩))
  rename_i hh
  have HB := Aside0.mk hh.2.2.2.1
  clear hh hb hix hfl H HC
  cases v
  all_goals go_wp2
  all_goals go_ret
  all_goals exact ⟨rfl, HB.out⟩
set_option maxRecDepth 100000 in
theorem check_1 (n : Int) (s : ByteArray) (w : World) (h0 : -9223372036854775808 ≤ n) (h1 : n ≤ 9223372036854775807) (v : Bool) (hv : ((n == 0 || n == 1) && s.size == 0) = v) :
    Calls Try.prog 32 #[datV 1 n s] w fun e w' => e = .returned (.int .i64 (if v then 0 else 2)) ∧ Below w.heap.size w w' := by
  have hc : ∀ w, Calls Try.prog 99 #[datV 1 n s] w fun e w' => e = .returned (.bool v) ∧ Below w.heap.size w w' := fun w => by rw [← hv]; exact valid_bool _ _ _ _ h0 h1
  clear hv
  have HC := Aside0.mk hc
  clear hc
  go_enter Try.func32, Try.ntmps32
  go_wp2
  have hix := index_1
  have hfl := field_1_0
  have H := Aside0.mk (held_first w (.int .i64 1) (.int .i64 n) (.string s) 49)
  go_region_held3 (fun w' => w'.cell? ⟨w.heap.size, 0, none⟩ = some (.int .i64 1) ∧ w'.cell? ⟨w.heap.size, 1, none⟩ = some (.int .i64 n) ∧ w'.cell? ⟨w.heap.size, 2, none⟩ = some (.string s) ∧ Below w.heap.size w w' ∧ w.heap.size < w'.heap.size) (first | assumption | exact H.out | exact held_drew H.out | exact held_call hb (by assumption))
    (first | (go_at_call 65; refine (kinds_walk _).mono ?_; rintro e w' ⟨rfl, hb⟩) | (go_at_call 99; refine (HC.out _).mono ?_; rintro e w' ⟨rfl, hb⟩))
  rename_i hh
  have HB := Aside0.mk hh.2.2.2.1
  clear hh hb hix hfl H HC
  cases v
  all_goals go_wp2
  all_goals go_ret
  all_goals exact ⟨rfl, HB.out⟩
set_option maxRecDepth 100000 in
theorem check_2 (n : Int) (s : ByteArray) (w : World) (v : Bool) (hv : (s.size == 0) = v) :
    Calls Try.prog 32 #[datV 2 n s] w fun e w' => e = .returned (.int .i64 (if v then 0 else 2)) ∧ Below w.heap.size w w' := by
  have hc : ∀ w, Calls Try.prog 102 #[datV 2 n s] w fun e w' => e = .returned (.bool v) ∧ Below w.heap.size w w' := fun w => by rw [← hv]; exact valid_int _ _ _ _
  clear hv
  have HC := Aside0.mk hc
  clear hc
  go_enter Try.func32, Try.ntmps32
  go_wp2
  have hix := index_2
  have hfl := field_2_0
  have H := Aside0.mk (held_first w (.int .i64 2) (.int .i64 n) (.string s) 49)
  go_region_held3 (fun w' => w'.cell? ⟨w.heap.size, 0, none⟩ = some (.int .i64 2) ∧ w'.cell? ⟨w.heap.size, 1, none⟩ = some (.int .i64 n) ∧ w'.cell? ⟨w.heap.size, 2, none⟩ = some (.string s) ∧ Below w.heap.size w w' ∧ w.heap.size < w'.heap.size) (first | assumption | exact H.out | exact held_drew H.out | exact held_call hb (by assumption))
    (first | (go_at_call 65; refine (kinds_walk _).mono ?_; rintro e w' ⟨rfl, hb⟩) | (go_at_call 102; refine (HC.out _).mono ?_; rintro e w' ⟨rfl, hb⟩))
  rename_i hh
  have HB := Aside0.mk hh.2.2.2.1
  clear hh hb hix hfl H HC
  cases v
  all_goals go_wp2
  all_goals go_ret
  all_goals exact ⟨rfl, HB.out⟩
set_option maxRecDepth 100000 in
theorem check_3 (n : Int) (s : ByteArray) (w : World) (v : Bool) (hv : (n == 0) = v) :
    Calls Try.prog 32 #[datV 3 n s] w fun e w' => e = .returned (.int .i64 (if v then 0 else 2)) ∧ Below w.heap.size w w' := by
  have hc : ∀ w, Calls Try.prog 105 #[datV 3 n s] w fun e w' => e = .returned (.bool v) ∧ Below w.heap.size w w' := fun w => by rw [← hv]; exact valid_text _ _ _ _
  clear hv
  have HC := Aside0.mk hc
  clear hc
  go_enter Try.func32, Try.ntmps32
  go_wp2
  have hix := index_3
  have hfl := field_3_0
  have H := Aside0.mk (held_first w (.int .i64 3) (.int .i64 n) (.string s) 49)
  go_region_held3 (fun w' => w'.cell? ⟨w.heap.size, 0, none⟩ = some (.int .i64 3) ∧ w'.cell? ⟨w.heap.size, 1, none⟩ = some (.int .i64 n) ∧ w'.cell? ⟨w.heap.size, 2, none⟩ = some (.string s) ∧ Below w.heap.size w w' ∧ w.heap.size < w'.heap.size) (first | assumption | exact H.out | exact held_drew H.out | exact held_call hb (by assumption))
    (first | (go_at_call 65; refine (kinds_walk _).mono ?_; rintro e w' ⟨rfl, hb⟩) | (go_at_call 105; refine (HC.out _).mono ?_; rintro e w' ⟨rfl, hb⟩))
  rename_i hh
  have HB := Aside0.mk hh.2.2.2.1
  clear hh hb hix hfl H HC
  cases v
  all_goals go_wp2
  all_goals go_ret
  all_goals exact ⟨rfl, HB.out⟩
set_option maxRecDepth 100000 in
theorem check_high (k n : Int) (s : ByteArray) (w : World) (hk : 3 < k) :
    Calls Try.prog 32 #[datV k n s] w fun e w' => e = .returned (.int .i64 2) ∧ Below w.heap.size w w' := by
  have h0 : decide (k < 0) = false := decide_eq_false (by omega)
  have h3 : decide (k > 3) = true := decide_eq_true (by omega)
  have h3' : decide (3 < k) = true := decide_eq_true (by omega)
  clear hk
  go_enter Try.func32, Try.ntmps32
  go_wp2
  go_region
  all_goals go_wp2
  all_goals go_ret
  all_goals exact ⟨rfl, by repeat (first | exact (Below.refl _ w).alloc (Nat.le_refl _) _ | apply below_drew1)⟩
set_option maxRecDepth 100000 in
theorem check_low (k n : Int) (s : ByteArray) (w : World) (hk : k < 0) :
    Calls Try.prog 32 #[datV k n s] w fun e w' => e = .returned (.int .i64 2) ∧ Below w.heap.size w w' := by
  have h0 : decide (k < 0) = true := decide_eq_true (by omega)
  clear hk
  go_enter Try.func32, Try.ntmps32
  go_wp2
  go_region
  all_goals go_wp2
  all_goals go_ret
  all_goals exact ⟨rfl, by repeat (first | exact (Below.refl _ w).alloc (Nat.le_refl _) _ | apply below_drew1)⟩
theorem enc_CheckDatum.calls (a0_0 : Int) (a0_1 : Int) (a0_2 : ByteArray) (r : Int) (w : World) (h : enc_CheckDatum.f a0_0 a0_1 a0_2 = some r) :
    Calls Try.prog 32 #[.agg #[.int .i64 a0_0, .int .i64 a0_1, .string a0_2]] w fun e w' => e = .returned (.int .i64 r) ∧ Below w.heap.size w w' := by
  unfold enc_CheckDatum.f at h
  split at h
  · rename_i hi
    have hi := of_decide_eq_true hi
    obtain rfl := Option.some.inj h
    by_cases hl : a0_0 < 0
    · rw [if_neg (by simp [validB]; omega)]
      exact check_low _ _ _ _ hl
    · by_cases hg : 3 < a0_0
      · rw [if_neg (by simp [validB]; omega)]
        exact check_high _ _ _ _ hg
      · have : a0_0 = 0 ∨ a0_0 = 1 ∨ a0_0 = 2 ∨ a0_0 = 3 := by omega
        rcases this with rfl | rfl | rfl | rfl
        · exact check_0 _ _ _ _ (by simp [validB])
        · exact check_1 _ _ _ hi.1 hi.2 _ (by simp [validB])
        · exact check_2 _ _ _ _ (by simp [validB])
        · exact check_3 _ _ _ _ (by simp [validB])
  · cases h
end Go.Proofs.Ythpabgiicglbmaa.E
