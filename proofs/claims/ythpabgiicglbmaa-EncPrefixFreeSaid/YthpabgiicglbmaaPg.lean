import Derived.Test.YthpabgiicglbmaaPf
namespace Go.Proofs.Ythpabgiicglbmaa.Pure
set_option linter.unusedVariables false
set_option linter.unusedSimpArgs false
open Go.RowKit Go.Proofs.Ythpabgiicglbmaa.E Go.Proofs.YthpabgiicglbmaaW.PrintWords Go.Proofs.YthpabgiicglbmaaW.PrintLast

theorem cmpB_empty (a b : ByteArray) (ha : a.size = 0) (hb : b.size = 0) : cmpB a b = 0 := by
  obtain ⟨l, rfl⟩ : ∃ l, a = ofL l := ⟨toL a, (ofL_toL a).symm⟩
  obtain ⟨m, rfl⟩ : ∃ l, b = ofL l := ⟨toL b, (ofL_toL b).symm⟩
  rw [size_ofL] at ha hb
  rw [List.length_eq_zero_iff.mp ha, List.length_eq_zero_iff.mp hb, cmpB_L]; rfl
theorem cmpI_zero (a b : Int) : cmpI a b = 0 ↔ a = b := by
  unfold cmpI
  split
  · omega
  · split <;> omega
theorem cmpI_self (a : Int) : cmpI a a = 0 := (cmpI_zero a a).mpr rfl
theorem cmpI_neg (a b : Int) : cmpI b a = -cmpI a b := by
  unfold cmpI
  by_cases h : a < b
  · rw [if_neg (by omega), if_pos h, if_pos h]; rfl
  · by_cases h2 : b < a
    · rw [if_pos h2, if_neg h, if_pos h2]
    · rw [if_neg h2, if_neg h, if_neg h, if_neg h2]; rfl
theorem cmpL_neg (a b : Bytes) : cmpL b a = -cmpL a b := by
  fun_induction cmpL a b with
  | case1 => rfl
  | case2 => rfl
  | case3 => rfl
  | case4 x a y b h => rw [cmpL, if_neg (by omega), if_pos h]; rfl
  | case5 x a y b h h2 => rw [cmpL, if_pos h2]
  | case6 x a y b h h2 ih => rw [cmpL, if_neg h2, if_neg h]; exact ih
theorem cmpB_neg (a b : ByteArray) : cmpB b a = -cmpB a b := by
  obtain ⟨l, rfl⟩ : ∃ l, a = ofL l := ⟨toL a, (ofL_toL a).symm⟩
  obtain ⟨m, rfl⟩ : ∃ l, b = ofL l := ⟨toL b, (ofL_toL b).symm⟩
  rw [cmpB_L, cmpB_L]; exact cmpL_neg l m
theorem data_neg (a b : S49) : cmpData b a = -cmpData a b := by
  have e0 := cmpI_neg a.f0 b.f0
  have e1 := cmpI_neg a.f1 b.f1
  have e2 := cmpB_neg a.f2 b.f2
  unfold cmpData
  rw [e0, e1, e2]
  generalize cmpI a.f0 b.f0 = c0
  generalize cmpI a.f1 b.f1 = c1
  generalize cmpB a.f2 b.f2 = c2
  by_cases h0 : c0 = 0
  · by_cases h1 : c1 = 0
    · simp [h0, h1]
    · simp [h0, h1]
  · simp [h0]
end Go.Proofs.Ythpabgiicglbmaa.Pure
