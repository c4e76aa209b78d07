-- Printed by this session's wip/tools/oracle.py, which runs the kit's print program; Lean checks it.
import Derived.Test.YthpabgiicglbmaaEx0
import Derived.Test.YthpabgiicglbmaaEx1
import Derived.Test.YthpabgiicglbmaaEx3
import Derived.Test.YthpabgiicglbmaaEx4
import Derived.Test.YthpabgiicglbmaaHand
namespace Go.Proofs.Ythpabgiicglbmaa.E
open Go.RowKit Go.Proofs.YthpabgiicglbmaaW.PrintWords Go.Proofs.YthpabgiicglbmaaW.PrintLast Go.Proofs.YthpabgiicglbmaaW.PrintMore
attribute [local go_sem] max2_int min2_int max_two min_two max_three min_three max_four min_four   -- for this text's walks alone
set_option linter.unusedVariables false
set_option linter.unusedSimpArgs false

attribute [local go_sem high] eqA49
/-! ### understorylaw01_sane: function 16 -/
mutual
def understorylaw01_sane.j0 : Nat → ByteArray → ByteArray → ByteArray → ByteArray → List (S49) → ByteArray → Int → Int → Int → Int → Bool → Option (Bool)
  | 0, _, _, _, _, _, _, _, _, _, _, _ => none
  | k + 1, x1, x3, x5, x7, x9, x11, x12, x14, x15, x17, x94 => if x94 = true then (some false) else (if x1.toList = ([98] : List UInt8) then (if x3.toList = ([97, 98, 100] : List UInt8) then (if x5.toList = ([241, 1, 0] : List UInt8) then (if x7.toList = ([1, 253, 254] : List UInt8) then (if 1 < (x9.length : Int) then (understorylaw01_sane.j1 k x9 x11 x12 x14 x15 x17 (((rd_T49 x9 1).f0) == 1 && (((rd_T49 x9 1).f1) == 1 && ((((rd_T49 x9 1).f2).toList) == ([] : List UInt8))))) else (none)) else (understorylaw01_sane.j1 k x9 x11 x12 x14 x15 x17 false)) else (understorylaw01_sane.j1 k x9 x11 x12 x14 x15 x17 false)) else (understorylaw01_sane.j1 k x9 x11 x12 x14 x15 x17 false)) else (understorylaw01_sane.j1 k x9 x11 x12 x14 x15 x17 false))
def understorylaw01_sane.j1 : Nat → List (S49) → ByteArray → Int → Int → Int → Int → Bool → Option (Bool)
  | 0, _, _, _, _, _, _, _ => none
  | k + 1, x9, x11, x12, x14, x15, x17, x19 => if x11.toList = ([97] : List UInt8) then (if x12 = 3 then (if x14 = (-1) then (if x15 = 8 then (if x17 = 258 then ((enc_Put32.f k 258).bind fun t169 => (if t169.toList = ([0, 0, 1, 2] : List UInt8) then ((enc_PutText.f (⟨#[97, 0]⟩ : ByteArray)).bind fun t170 => (understorylaw01_sane.j2 k x9 x19 (t170.toList == ([97, 0, 255, 0, 1] : List UInt8)))) else (understorylaw01_sane.j2 k x9 x19 false))) else (understorylaw01_sane.j2 k x9 x19 false)) else (understorylaw01_sane.j2 k x9 x19 false)) else (understorylaw01_sane.j2 k x9 x19 false)) else (understorylaw01_sane.j2 k x9 x19 false)) else (understorylaw01_sane.j2 k x9 x19 false)
def understorylaw01_sane.j2 : Nat → List (S49) → Bool → Bool → Option (Bool)
  | 0, _, _, _ => none
  | k + 1, x9, x19, x20 => if x19 = true then (if x20 = true then ((enc_Compare.f (⟨#[98]⟩ : ByteArray) (⟨#[97, 98]⟩ : ByteArray)).bind fun t171 => (if t171 = 1 then ((enc_Prefix.f k (⟨#[97, 98, 99]⟩ : ByteArray) (⟨#[97, 98, 100]⟩ : ByteArray)).bind fun t172 => (if t172 = 2 then ((enc_Flip.f (⟨#[1]⟩ : ByteArray)).bind fun t173 => (if t173.toList = ([254] : List UInt8) then (if 1 ≤ (x9.length : Int) then ((enc_CompareKeys.f x9 (x9.take 1) ([] : List Bool)).bind fun t178 => (some (t178 == 1))) else (none)) else (some false))) else (some false))) else (some false))) else (some false)) else (some false)
end
def understorylaw01_sane.f (k : Nat)  : Option (Bool) := (enc_After.f k (⟨#[97, 255]⟩ : ByteArray)).bind fun bt139 => ((enc_Between.f k (⟨#[97, 98, 99]⟩ : ByteArray) (⟨#[97, 98, 120]⟩ : ByteArray)).bind fun bt141 => ((enc_PutUint.f k 496).bind fun bt143 => ((enc_PutKey.f (([(⟨0, 0, (⟨#[]⟩ : ByteArray)⟩ : S49), (⟨1, 1, (⟨#[]⟩ : ByteArray)⟩ : S49)] : List (S49))) (([false, true] : List Bool))).bind fun bt151 => ((enc_GetKey.f (⟨#[1, 253, 254]⟩ : ByteArray) (([false, true] : List Bool))).bind fun bt156 => ((enc_GetText.f (⟨#[97, 0, 1, 98, 99]⟩ : ByteArray)).bind fun bt160 => ((enc_GetInt.f (⟨#[127, 255, 255, 255, 255, 255, 255, 255]⟩ : ByteArray)).bind fun bt163 => ((enc_Get32.f (⟨#[0, 0, 1, 2]⟩ : ByteArray)).bind fun bt166 => (if bt139.2 = true then (if bt141.2 = 0 then (if bt143.2 = 0 then (if bt151.2 = 0 then (if bt156.2 = 0 then (if bt160.2.2 = 0 then (if bt163.2.2 = 0 then (if bt166.2 = 0 then (understorylaw01_sane.j0 k bt139.1 bt141.1 bt143.1 bt151.1 bt156.1 bt160.1 bt160.2.1 bt163.1 bt163.2.1 bt166.1 ((bt156.1.length : Int) != 2)) else (understorylaw01_sane.j0 k bt139.1 bt141.1 bt143.1 bt151.1 bt156.1 bt160.1 bt160.2.1 bt163.1 bt163.2.1 bt166.1 true)) else (understorylaw01_sane.j0 k bt139.1 bt141.1 bt143.1 bt151.1 bt156.1 bt160.1 bt160.2.1 bt163.1 bt163.2.1 bt166.1 true)) else (understorylaw01_sane.j0 k bt139.1 bt141.1 bt143.1 bt151.1 bt156.1 bt160.1 bt160.2.1 bt163.1 bt163.2.1 bt166.1 true)) else (understorylaw01_sane.j0 k bt139.1 bt141.1 bt143.1 bt151.1 bt156.1 bt160.1 bt160.2.1 bt163.1 bt163.2.1 bt166.1 true)) else (understorylaw01_sane.j0 k bt139.1 bt141.1 bt143.1 bt151.1 bt156.1 bt160.1 bt160.2.1 bt163.1 bt163.2.1 bt166.1 true)) else (understorylaw01_sane.j0 k bt139.1 bt141.1 bt143.1 bt151.1 bt156.1 bt160.1 bt160.2.1 bt163.1 bt163.2.1 bt166.1 true)) else (understorylaw01_sane.j0 k bt139.1 bt141.1 bt143.1 bt151.1 bt156.1 bt160.1 bt160.2.1 bt163.1 bt163.2.1 bt166.1 true)) else (understorylaw01_sane.j0 k bt139.1 bt141.1 bt143.1 bt151.1 bt156.1 bt160.1 bt160.2.1 bt163.1 bt163.2.1 bt166.1 true)))))))))
theorem understorylaw01_sane.mono_l : ∀ k, (∀ y0 y1 y2 y3 y4 y5 y6 y7 y8 y9 y10, LeO (understorylaw01_sane.j0 k y0 y1 y2 y3 y4 y5 y6 y7 y8 y9 y10) (understorylaw01_sane.j0 (k + 1) y0 y1 y2 y3 y4 y5 y6 y7 y8 y9 y10)) ∧ (∀ y0 y1 y2 y3 y4 y5 y6, LeO (understorylaw01_sane.j1 k y0 y1 y2 y3 y4 y5 y6) (understorylaw01_sane.j1 (k + 1) y0 y1 y2 y3 y4 y5 y6)) ∧ (∀ y0 y1 y2, LeO (understorylaw01_sane.j2 k y0 y1 y2) (understorylaw01_sane.j2 (k + 1) y0 y1 y2))
  | 0 => ⟨fun _ _ _ _ _ _ _ _ _ _ _ r h => by simp [understorylaw01_sane.j0] at h, fun _ _ _ _ _ _ _ r h => by simp [understorylaw01_sane.j1] at h, fun _ _ _ r h => by simp [understorylaw01_sane.j2] at h⟩
  | k + 1 => by
    obtain ⟨ih0, ih1, ih2⟩ := understorylaw01_sane.mono_l k
    refine ⟨?_, ?_, ?_⟩
    · intro y0 y1 y2 y3 y4 y5 y6 y7 y8 y9 y10
      unfold understorylaw01_sane.j0
      repeat' first
      | (with_reducible exact ih0 _ _ _ _ _ _ _ _ _ _ _)
      | (with_reducible exact ih1 _ _ _ _ _ _ _)
      | (with_reducible exact ih2 _ _ _)
      | (with_reducible exact enc_After.mono _ _)
      | (with_reducible exact enc_Between.mono _ _ _)
      | (with_reducible exact enc_Prefix.mono _ _ _)
      | (with_reducible exact enc_Put32.mono _ _)
      | (with_reducible exact enc_PutUint.mono _ _)
      | (with_reducible exact LeO.refl _)
      | (with_reducible exact LeO.none _)
      | (with_reducible refine LeO.ite ?_ ?_)
      | (with_reducible refine LeO.bind ?_ (fun _ => ?_))
      | exact ih0 _ _ _ _ _ _ _ _ _ _ _
      | exact ih1 _ _ _ _ _ _ _
      | exact ih2 _ _ _
      | exact enc_After.mono _ _
      | exact enc_Between.mono _ _ _
      | exact enc_Prefix.mono _ _ _
      | exact enc_Put32.mono _ _
      | exact enc_PutUint.mono _ _
      | exact LeO.none _
      | refine LeO.ite ?_ ?_
      | refine LeO.bind ?_ (fun _ => ?_)
    · intro y0 y1 y2 y3 y4 y5 y6
      unfold understorylaw01_sane.j1
      repeat' first
      | (with_reducible exact ih0 _ _ _ _ _ _ _ _ _ _ _)
      | (with_reducible exact ih1 _ _ _ _ _ _ _)
      | (with_reducible exact ih2 _ _ _)
      | (with_reducible exact enc_After.mono _ _)
      | (with_reducible exact enc_Between.mono _ _ _)
      | (with_reducible exact enc_Prefix.mono _ _ _)
      | (with_reducible exact enc_Put32.mono _ _)
      | (with_reducible exact enc_PutUint.mono _ _)
      | (with_reducible exact LeO.refl _)
      | (with_reducible exact LeO.none _)
      | (with_reducible refine LeO.ite ?_ ?_)
      | (with_reducible refine LeO.bind ?_ (fun _ => ?_))
      | exact ih0 _ _ _ _ _ _ _ _ _ _ _
      | exact ih1 _ _ _ _ _ _ _
      | exact ih2 _ _ _
      | exact enc_After.mono _ _
      | exact enc_Between.mono _ _ _
      | exact enc_Prefix.mono _ _ _
      | exact enc_Put32.mono _ _
      | exact enc_PutUint.mono _ _
      | exact LeO.none _
      | refine LeO.ite ?_ ?_
      | refine LeO.bind ?_ (fun _ => ?_)
    · intro y0 y1 y2
      unfold understorylaw01_sane.j2
      repeat' first
      | (with_reducible exact ih0 _ _ _ _ _ _ _ _ _ _ _)
      | (with_reducible exact ih1 _ _ _ _ _ _ _)
      | (with_reducible exact ih2 _ _ _)
      | (with_reducible exact enc_After.mono _ _)
      | (with_reducible exact enc_Between.mono _ _ _)
      | (with_reducible exact enc_Prefix.mono _ _ _)
      | (with_reducible exact enc_Put32.mono _ _)
      | (with_reducible exact enc_PutUint.mono _ _)
      | (with_reducible exact LeO.refl _)
      | (with_reducible exact LeO.none _)
      | (with_reducible refine LeO.ite ?_ ?_)
      | (with_reducible refine LeO.bind ?_ (fun _ => ?_))
      | exact ih0 _ _ _ _ _ _ _ _ _ _ _
      | exact ih1 _ _ _ _ _ _ _
      | exact ih2 _ _ _
      | exact enc_After.mono _ _
      | exact enc_Between.mono _ _ _
      | exact enc_Prefix.mono _ _ _
      | exact enc_Put32.mono _ _
      | exact enc_PutUint.mono _ _
      | exact LeO.none _
      | refine LeO.ite ?_ ?_
      | refine LeO.bind ?_ (fun _ => ?_)
theorem understorylaw01_sane.mono : ∀ k, LeO (understorylaw01_sane.f k ) (understorylaw01_sane.f (k + 1) ) := by
  intro  k
  obtain ⟨ih0, ih1, ih2⟩ := understorylaw01_sane.mono_l k
  unfold understorylaw01_sane.f
  repeat' first
      | (with_reducible exact ih0 _ _ _ _ _ _ _ _ _ _ _)
      | (with_reducible exact ih1 _ _ _ _ _ _ _)
      | (with_reducible exact ih2 _ _ _)
      | (with_reducible exact enc_After.mono _ _)
      | (with_reducible exact enc_Between.mono _ _ _)
      | (with_reducible exact enc_Prefix.mono _ _ _)
      | (with_reducible exact enc_Put32.mono _ _)
      | (with_reducible exact enc_PutUint.mono _ _)
      | (with_reducible exact LeO.refl _)
      | (with_reducible exact LeO.none _)
      | (with_reducible refine LeO.ite ?_ ?_)
      | (with_reducible refine LeO.bind ?_ (fun _ => ?_))
      | exact ih0 _ _ _ _ _ _ _ _ _ _ _
      | exact ih1 _ _ _ _ _ _ _
      | exact ih2 _ _ _
      | exact enc_After.mono _ _
      | exact enc_Between.mono _ _ _
      | exact enc_Prefix.mono _ _ _
      | exact enc_Put32.mono _ _
      | exact enc_PutUint.mono _ _
      | exact LeO.none _
      | refine LeO.ite ?_ ?_
      | refine LeO.bind ?_ (fun _ => ?_)
set_option maxHeartbeats 8000000 in
set_option maxRecDepth 100000 in
theorem understorylaw01_sane.calls (k : Nat)  (r : Bool) (w : World) (h : understorylaw01_sane.f k  = some r) :
    Calls Try.prog 16 #[] w fun e w' => e = .returned (.bool r) ∧ Below w.heap.size w w' := by
  have hu49 := Try.underlying49
  have HB := Aside0.mk (Below.refl w.heap.size w)
  have H : ((enc_After.f k (⟨#[97, 255]⟩ : ByteArray)).bind fun bt139 => ((enc_Between.f k (⟨#[97, 98, 99]⟩ : ByteArray) (⟨#[97, 98, 120]⟩ : ByteArray)).bind fun bt141 => ((enc_PutUint.f k 496).bind fun bt143 => ((enc_PutKey.f (([(⟨0, 0, (⟨#[]⟩ : ByteArray)⟩ : S49), (⟨1, 1, (⟨#[]⟩ : ByteArray)⟩ : S49)] : List (S49))) (([false, true] : List Bool))).bind fun bt151 => ((enc_GetKey.f (⟨#[1, 253, 254]⟩ : ByteArray) (([false, true] : List Bool))).bind fun bt156 => ((enc_GetText.f (⟨#[97, 0, 1, 98, 99]⟩ : ByteArray)).bind fun bt160 => ((enc_GetInt.f (⟨#[127, 255, 255, 255, 255, 255, 255, 255]⟩ : ByteArray)).bind fun bt163 => ((enc_Get32.f (⟨#[0, 0, 1, 2]⟩ : ByteArray)).bind fun bt166 => (if bt139.2 = true then (if bt141.2 = 0 then (if bt143.2 = 0 then (if bt151.2 = 0 then (if bt156.2 = 0 then (if bt160.2.2 = 0 then (if bt163.2.2 = 0 then (if bt166.2 = 0 then (understorylaw01_sane.j0 k bt139.1 bt141.1 bt143.1 bt151.1 bt156.1 bt160.1 bt160.2.1 bt163.1 bt163.2.1 bt166.1 ((bt156.1.length : Int) != 2)) else (understorylaw01_sane.j0 k bt139.1 bt141.1 bt143.1 bt151.1 bt156.1 bt160.1 bt160.2.1 bt163.1 bt163.2.1 bt166.1 true)) else (understorylaw01_sane.j0 k bt139.1 bt141.1 bt143.1 bt151.1 bt156.1 bt160.1 bt160.2.1 bt163.1 bt163.2.1 bt166.1 true)) else (understorylaw01_sane.j0 k bt139.1 bt141.1 bt143.1 bt151.1 bt156.1 bt160.1 bt160.2.1 bt163.1 bt163.2.1 bt166.1 true)) else (understorylaw01_sane.j0 k bt139.1 bt141.1 bt143.1 bt151.1 bt156.1 bt160.1 bt160.2.1 bt163.1 bt163.2.1 bt166.1 true)) else (understorylaw01_sane.j0 k bt139.1 bt141.1 bt143.1 bt151.1 bt156.1 bt160.1 bt160.2.1 bt163.1 bt163.2.1 bt166.1 true)) else (understorylaw01_sane.j0 k bt139.1 bt141.1 bt143.1 bt151.1 bt156.1 bt160.1 bt160.2.1 bt163.1 bt163.2.1 bt166.1 true)) else (understorylaw01_sane.j0 k bt139.1 bt141.1 bt143.1 bt151.1 bt156.1 bt160.1 bt160.2.1 bt163.1 bt163.2.1 bt166.1 true)) else (understorylaw01_sane.j0 k bt139.1 bt141.1 bt143.1 bt151.1 bt156.1 bt160.1 bt160.2.1 bt163.1 bt163.2.1 bt166.1 true)))))))))) = some r := h
  clear h
  replace H := Option.bind_eq_some_iff.mp H
  obtain ⟨⟨t139, t140⟩, A10, H⟩ := H
  replace H : ((enc_Between.f k (⟨#[97, 98, 99]⟩ : ByteArray) (⟨#[97, 98, 120]⟩ : ByteArray)).bind fun bt141 => ((enc_PutUint.f k 496).bind fun bt143 => ((enc_PutKey.f (([(⟨0, 0, (⟨#[]⟩ : ByteArray)⟩ : S49), (⟨1, 1, (⟨#[]⟩ : ByteArray)⟩ : S49)] : List (S49))) (([false, true] : List Bool))).bind fun bt151 => ((enc_GetKey.f (⟨#[1, 253, 254]⟩ : ByteArray) (([false, true] : List Bool))).bind fun bt156 => ((enc_GetText.f (⟨#[97, 0, 1, 98, 99]⟩ : ByteArray)).bind fun bt160 => ((enc_GetInt.f (⟨#[127, 255, 255, 255, 255, 255, 255, 255]⟩ : ByteArray)).bind fun bt163 => ((enc_Get32.f (⟨#[0, 0, 1, 2]⟩ : ByteArray)).bind fun bt166 => (if t140 = true then (if bt141.2 = 0 then (if bt143.2 = 0 then (if bt151.2 = 0 then (if bt156.2 = 0 then (if bt160.2.2 = 0 then (if bt163.2.2 = 0 then (if bt166.2 = 0 then (understorylaw01_sane.j0 k t139 bt141.1 bt143.1 bt151.1 bt156.1 bt160.1 bt160.2.1 bt163.1 bt163.2.1 bt166.1 ((bt156.1.length : Int) != 2)) else (understorylaw01_sane.j0 k t139 bt141.1 bt143.1 bt151.1 bt156.1 bt160.1 bt160.2.1 bt163.1 bt163.2.1 bt166.1 true)) else (understorylaw01_sane.j0 k t139 bt141.1 bt143.1 bt151.1 bt156.1 bt160.1 bt160.2.1 bt163.1 bt163.2.1 bt166.1 true)) else (understorylaw01_sane.j0 k t139 bt141.1 bt143.1 bt151.1 bt156.1 bt160.1 bt160.2.1 bt163.1 bt163.2.1 bt166.1 true)) else (understorylaw01_sane.j0 k t139 bt141.1 bt143.1 bt151.1 bt156.1 bt160.1 bt160.2.1 bt163.1 bt163.2.1 bt166.1 true)) else (understorylaw01_sane.j0 k t139 bt141.1 bt143.1 bt151.1 bt156.1 bt160.1 bt160.2.1 bt163.1 bt163.2.1 bt166.1 true)) else (understorylaw01_sane.j0 k t139 bt141.1 bt143.1 bt151.1 bt156.1 bt160.1 bt160.2.1 bt163.1 bt163.2.1 bt166.1 true)) else (understorylaw01_sane.j0 k t139 bt141.1 bt143.1 bt151.1 bt156.1 bt160.1 bt160.2.1 bt163.1 bt163.2.1 bt166.1 true)) else (understorylaw01_sane.j0 k t139 bt141.1 bt143.1 bt151.1 bt156.1 bt160.1 bt160.2.1 bt163.1 bt163.2.1 bt166.1 true))))))))) = some r := H
  have A1 := Aside0.mk A10
  clear A10
  replace H := Option.bind_eq_some_iff.mp H
  obtain ⟨⟨t141, t142⟩, A20, H⟩ := H
  replace H : ((enc_PutUint.f k 496).bind fun bt143 => ((enc_PutKey.f (([(⟨0, 0, (⟨#[]⟩ : ByteArray)⟩ : S49), (⟨1, 1, (⟨#[]⟩ : ByteArray)⟩ : S49)] : List (S49))) (([false, true] : List Bool))).bind fun bt151 => ((enc_GetKey.f (⟨#[1, 253, 254]⟩ : ByteArray) (([false, true] : List Bool))).bind fun bt156 => ((enc_GetText.f (⟨#[97, 0, 1, 98, 99]⟩ : ByteArray)).bind fun bt160 => ((enc_GetInt.f (⟨#[127, 255, 255, 255, 255, 255, 255, 255]⟩ : ByteArray)).bind fun bt163 => ((enc_Get32.f (⟨#[0, 0, 1, 2]⟩ : ByteArray)).bind fun bt166 => (if t140 = true then (if t142 = 0 then (if bt143.2 = 0 then (if bt151.2 = 0 then (if bt156.2 = 0 then (if bt160.2.2 = 0 then (if bt163.2.2 = 0 then (if bt166.2 = 0 then (understorylaw01_sane.j0 k t139 t141 bt143.1 bt151.1 bt156.1 bt160.1 bt160.2.1 bt163.1 bt163.2.1 bt166.1 ((bt156.1.length : Int) != 2)) else (understorylaw01_sane.j0 k t139 t141 bt143.1 bt151.1 bt156.1 bt160.1 bt160.2.1 bt163.1 bt163.2.1 bt166.1 true)) else (understorylaw01_sane.j0 k t139 t141 bt143.1 bt151.1 bt156.1 bt160.1 bt160.2.1 bt163.1 bt163.2.1 bt166.1 true)) else (understorylaw01_sane.j0 k t139 t141 bt143.1 bt151.1 bt156.1 bt160.1 bt160.2.1 bt163.1 bt163.2.1 bt166.1 true)) else (understorylaw01_sane.j0 k t139 t141 bt143.1 bt151.1 bt156.1 bt160.1 bt160.2.1 bt163.1 bt163.2.1 bt166.1 true)) else (understorylaw01_sane.j0 k t139 t141 bt143.1 bt151.1 bt156.1 bt160.1 bt160.2.1 bt163.1 bt163.2.1 bt166.1 true)) else (understorylaw01_sane.j0 k t139 t141 bt143.1 bt151.1 bt156.1 bt160.1 bt160.2.1 bt163.1 bt163.2.1 bt166.1 true)) else (understorylaw01_sane.j0 k t139 t141 bt143.1 bt151.1 bt156.1 bt160.1 bt160.2.1 bt163.1 bt163.2.1 bt166.1 true)) else (understorylaw01_sane.j0 k t139 t141 bt143.1 bt151.1 bt156.1 bt160.1 bt160.2.1 bt163.1 bt163.2.1 bt166.1 true)))))))) = some r := H
  have A2 := Aside0.mk A20
  clear A20
  replace H := Option.bind_eq_some_iff.mp H
  obtain ⟨⟨t143, t144⟩, A30, H⟩ := H
  replace H : ((enc_PutKey.f (([(⟨0, 0, (⟨#[]⟩ : ByteArray)⟩ : S49), (⟨1, 1, (⟨#[]⟩ : ByteArray)⟩ : S49)] : List (S49))) (([false, true] : List Bool))).bind fun bt151 => ((enc_GetKey.f (⟨#[1, 253, 254]⟩ : ByteArray) (([false, true] : List Bool))).bind fun bt156 => ((enc_GetText.f (⟨#[97, 0, 1, 98, 99]⟩ : ByteArray)).bind fun bt160 => ((enc_GetInt.f (⟨#[127, 255, 255, 255, 255, 255, 255, 255]⟩ : ByteArray)).bind fun bt163 => ((enc_Get32.f (⟨#[0, 0, 1, 2]⟩ : ByteArray)).bind fun bt166 => (if t140 = true then (if t142 = 0 then (if t144 = 0 then (if bt151.2 = 0 then (if bt156.2 = 0 then (if bt160.2.2 = 0 then (if bt163.2.2 = 0 then (if bt166.2 = 0 then (understorylaw01_sane.j0 k t139 t141 t143 bt151.1 bt156.1 bt160.1 bt160.2.1 bt163.1 bt163.2.1 bt166.1 ((bt156.1.length : Int) != 2)) else (understorylaw01_sane.j0 k t139 t141 t143 bt151.1 bt156.1 bt160.1 bt160.2.1 bt163.1 bt163.2.1 bt166.1 true)) else (understorylaw01_sane.j0 k t139 t141 t143 bt151.1 bt156.1 bt160.1 bt160.2.1 bt163.1 bt163.2.1 bt166.1 true)) else (understorylaw01_sane.j0 k t139 t141 t143 bt151.1 bt156.1 bt160.1 bt160.2.1 bt163.1 bt163.2.1 bt166.1 true)) else (understorylaw01_sane.j0 k t139 t141 t143 bt151.1 bt156.1 bt160.1 bt160.2.1 bt163.1 bt163.2.1 bt166.1 true)) else (understorylaw01_sane.j0 k t139 t141 t143 bt151.1 bt156.1 bt160.1 bt160.2.1 bt163.1 bt163.2.1 bt166.1 true)) else (understorylaw01_sane.j0 k t139 t141 t143 bt151.1 bt156.1 bt160.1 bt160.2.1 bt163.1 bt163.2.1 bt166.1 true)) else (understorylaw01_sane.j0 k t139 t141 t143 bt151.1 bt156.1 bt160.1 bt160.2.1 bt163.1 bt163.2.1 bt166.1 true)) else (understorylaw01_sane.j0 k t139 t141 t143 bt151.1 bt156.1 bt160.1 bt160.2.1 bt163.1 bt163.2.1 bt166.1 true))))))) = some r := H
  have A3 := Aside0.mk A30
  clear A30
  obtain ⟨y145, hy145⟩ : ∃ y_ : List (S49), y_ = (([(⟨0, 0, (⟨#[]⟩ : ByteArray)⟩ : S49), (⟨1, 1, (⟨#[]⟩ : ByteArray)⟩ : S49)] : List (S49))) := ⟨_, rfl⟩
  replace H : ((enc_PutKey.f y145 (([false, true] : List Bool))).bind fun bt151 => ((enc_GetKey.f (⟨#[1, 253, 254]⟩ : ByteArray) (([false, true] : List Bool))).bind fun bt156 => ((enc_GetText.f (⟨#[97, 0, 1, 98, 99]⟩ : ByteArray)).bind fun bt160 => ((enc_GetInt.f (⟨#[127, 255, 255, 255, 255, 255, 255, 255]⟩ : ByteArray)).bind fun bt163 => ((enc_Get32.f (⟨#[0, 0, 1, 2]⟩ : ByteArray)).bind fun bt166 => (if t140 = true then (if t142 = 0 then (if t144 = 0 then (if bt151.2 = 0 then (if bt156.2 = 0 then (if bt160.2.2 = 0 then (if bt163.2.2 = 0 then (if bt166.2 = 0 then (understorylaw01_sane.j0 k t139 t141 t143 bt151.1 bt156.1 bt160.1 bt160.2.1 bt163.1 bt163.2.1 bt166.1 ((bt156.1.length : Int) != 2)) else (understorylaw01_sane.j0 k t139 t141 t143 bt151.1 bt156.1 bt160.1 bt160.2.1 bt163.1 bt163.2.1 bt166.1 true)) else (understorylaw01_sane.j0 k t139 t141 t143 bt151.1 bt156.1 bt160.1 bt160.2.1 bt163.1 bt163.2.1 bt166.1 true)) else (understorylaw01_sane.j0 k t139 t141 t143 bt151.1 bt156.1 bt160.1 bt160.2.1 bt163.1 bt163.2.1 bt166.1 true)) else (understorylaw01_sane.j0 k t139 t141 t143 bt151.1 bt156.1 bt160.1 bt160.2.1 bt163.1 bt163.2.1 bt166.1 true)) else (understorylaw01_sane.j0 k t139 t141 t143 bt151.1 bt156.1 bt160.1 bt160.2.1 bt163.1 bt163.2.1 bt166.1 true)) else (understorylaw01_sane.j0 k t139 t141 t143 bt151.1 bt156.1 bt160.1 bt160.2.1 bt163.1 bt163.2.1 bt166.1 true)) else (understorylaw01_sane.j0 k t139 t141 t143 bt151.1 bt156.1 bt160.1 bt160.2.1 bt163.1 bt163.2.1 bt166.1 true)) else (understorylaw01_sane.j0 k t139 t141 t143 bt151.1 bt156.1 bt160.1 bt160.2.1 bt163.1 bt163.2.1 bt166.1 true))))))) = some r := by first | (rw [hy145]; with_reducible exact H) | (have H2_ := (Option.bind_some _ _).symm.trans H; rw [hy145]; with_reducible exact H2_) | (have H2_ := (Option.bind_some _ _).symm.trans H; with_reducible exact H2_) | with_reducible exact H | (rw [hy145]; exact H) | exact H
  have Ny145 := Aside0.mk hy145
  clear hy145
  obtain ⟨y148, hy148⟩ : ∃ y_ : List Bool, y_ = (([false, true] : List Bool)) := ⟨_, rfl⟩
  replace H : ((enc_PutKey.f y145 y148).bind fun bt151 => ((enc_GetKey.f (⟨#[1, 253, 254]⟩ : ByteArray) (([false, true] : List Bool))).bind fun bt156 => ((enc_GetText.f (⟨#[97, 0, 1, 98, 99]⟩ : ByteArray)).bind fun bt160 => ((enc_GetInt.f (⟨#[127, 255, 255, 255, 255, 255, 255, 255]⟩ : ByteArray)).bind fun bt163 => ((enc_Get32.f (⟨#[0, 0, 1, 2]⟩ : ByteArray)).bind fun bt166 => (if t140 = true then (if t142 = 0 then (if t144 = 0 then (if bt151.2 = 0 then (if bt156.2 = 0 then (if bt160.2.2 = 0 then (if bt163.2.2 = 0 then (if bt166.2 = 0 then (understorylaw01_sane.j0 k t139 t141 t143 bt151.1 bt156.1 bt160.1 bt160.2.1 bt163.1 bt163.2.1 bt166.1 ((bt156.1.length : Int) != 2)) else (understorylaw01_sane.j0 k t139 t141 t143 bt151.1 bt156.1 bt160.1 bt160.2.1 bt163.1 bt163.2.1 bt166.1 true)) else (understorylaw01_sane.j0 k t139 t141 t143 bt151.1 bt156.1 bt160.1 bt160.2.1 bt163.1 bt163.2.1 bt166.1 true)) else (understorylaw01_sane.j0 k t139 t141 t143 bt151.1 bt156.1 bt160.1 bt160.2.1 bt163.1 bt163.2.1 bt166.1 true)) else (understorylaw01_sane.j0 k t139 t141 t143 bt151.1 bt156.1 bt160.1 bt160.2.1 bt163.1 bt163.2.1 bt166.1 true)) else (understorylaw01_sane.j0 k t139 t141 t143 bt151.1 bt156.1 bt160.1 bt160.2.1 bt163.1 bt163.2.1 bt166.1 true)) else (understorylaw01_sane.j0 k t139 t141 t143 bt151.1 bt156.1 bt160.1 bt160.2.1 bt163.1 bt163.2.1 bt166.1 true)) else (understorylaw01_sane.j0 k t139 t141 t143 bt151.1 bt156.1 bt160.1 bt160.2.1 bt163.1 bt163.2.1 bt166.1 true)) else (understorylaw01_sane.j0 k t139 t141 t143 bt151.1 bt156.1 bt160.1 bt160.2.1 bt163.1 bt163.2.1 bt166.1 true))))))) = some r := by first | (rw [hy148]; with_reducible exact H) | (have H2_ := (Option.bind_some _ _).symm.trans H; rw [hy148]; with_reducible exact H2_) | (have H2_ := (Option.bind_some _ _).symm.trans H; with_reducible exact H2_) | with_reducible exact H | (rw [hy148]; exact H) | exact H
  have Ny148 := Aside0.mk hy148
  clear hy148
  replace H := Option.bind_eq_some_iff.mp H
  obtain ⟨⟨t151, t152⟩, A40, H⟩ := H
  replace H : ((enc_GetKey.f (⟨#[1, 253, 254]⟩ : ByteArray) (([false, true] : List Bool))).bind fun bt156 => ((enc_GetText.f (⟨#[97, 0, 1, 98, 99]⟩ : ByteArray)).bind fun bt160 => ((enc_GetInt.f (⟨#[127, 255, 255, 255, 255, 255, 255, 255]⟩ : ByteArray)).bind fun bt163 => ((enc_Get32.f (⟨#[0, 0, 1, 2]⟩ : ByteArray)).bind fun bt166 => (if t140 = true then (if t142 = 0 then (if t144 = 0 then (if t152 = 0 then (if bt156.2 = 0 then (if bt160.2.2 = 0 then (if bt163.2.2 = 0 then (if bt166.2 = 0 then (understorylaw01_sane.j0 k t139 t141 t143 t151 bt156.1 bt160.1 bt160.2.1 bt163.1 bt163.2.1 bt166.1 ((bt156.1.length : Int) != 2)) else (understorylaw01_sane.j0 k t139 t141 t143 t151 bt156.1 bt160.1 bt160.2.1 bt163.1 bt163.2.1 bt166.1 true)) else (understorylaw01_sane.j0 k t139 t141 t143 t151 bt156.1 bt160.1 bt160.2.1 bt163.1 bt163.2.1 bt166.1 true)) else (understorylaw01_sane.j0 k t139 t141 t143 t151 bt156.1 bt160.1 bt160.2.1 bt163.1 bt163.2.1 bt166.1 true)) else (understorylaw01_sane.j0 k t139 t141 t143 t151 bt156.1 bt160.1 bt160.2.1 bt163.1 bt163.2.1 bt166.1 true)) else (understorylaw01_sane.j0 k t139 t141 t143 t151 bt156.1 bt160.1 bt160.2.1 bt163.1 bt163.2.1 bt166.1 true)) else (understorylaw01_sane.j0 k t139 t141 t143 t151 bt156.1 bt160.1 bt160.2.1 bt163.1 bt163.2.1 bt166.1 true)) else (understorylaw01_sane.j0 k t139 t141 t143 t151 bt156.1 bt160.1 bt160.2.1 bt163.1 bt163.2.1 bt166.1 true)) else (understorylaw01_sane.j0 k t139 t141 t143 t151 bt156.1 bt160.1 bt160.2.1 bt163.1 bt163.2.1 bt166.1 true)))))) = some r := H
  have A4 := Aside0.mk A40
  clear A40
  obtain ⟨y153, hy153⟩ : ∃ y_ : List Bool, y_ = (([false, true] : List Bool)) := ⟨_, rfl⟩
  replace H : ((enc_GetKey.f (⟨#[1, 253, 254]⟩ : ByteArray) y153).bind fun bt156 => ((enc_GetText.f (⟨#[97, 0, 1, 98, 99]⟩ : ByteArray)).bind fun bt160 => ((enc_GetInt.f (⟨#[127, 255, 255, 255, 255, 255, 255, 255]⟩ : ByteArray)).bind fun bt163 => ((enc_Get32.f (⟨#[0, 0, 1, 2]⟩ : ByteArray)).bind fun bt166 => (if t140 = true then (if t142 = 0 then (if t144 = 0 then (if t152 = 0 then (if bt156.2 = 0 then (if bt160.2.2 = 0 then (if bt163.2.2 = 0 then (if bt166.2 = 0 then (understorylaw01_sane.j0 k t139 t141 t143 t151 bt156.1 bt160.1 bt160.2.1 bt163.1 bt163.2.1 bt166.1 ((bt156.1.length : Int) != 2)) else (understorylaw01_sane.j0 k t139 t141 t143 t151 bt156.1 bt160.1 bt160.2.1 bt163.1 bt163.2.1 bt166.1 true)) else (understorylaw01_sane.j0 k t139 t141 t143 t151 bt156.1 bt160.1 bt160.2.1 bt163.1 bt163.2.1 bt166.1 true)) else (understorylaw01_sane.j0 k t139 t141 t143 t151 bt156.1 bt160.1 bt160.2.1 bt163.1 bt163.2.1 bt166.1 true)) else (understorylaw01_sane.j0 k t139 t141 t143 t151 bt156.1 bt160.1 bt160.2.1 bt163.1 bt163.2.1 bt166.1 true)) else (understorylaw01_sane.j0 k t139 t141 t143 t151 bt156.1 bt160.1 bt160.2.1 bt163.1 bt163.2.1 bt166.1 true)) else (understorylaw01_sane.j0 k t139 t141 t143 t151 bt156.1 bt160.1 bt160.2.1 bt163.1 bt163.2.1 bt166.1 true)) else (understorylaw01_sane.j0 k t139 t141 t143 t151 bt156.1 bt160.1 bt160.2.1 bt163.1 bt163.2.1 bt166.1 true)) else (understorylaw01_sane.j0 k t139 t141 t143 t151 bt156.1 bt160.1 bt160.2.1 bt163.1 bt163.2.1 bt166.1 true)))))) = some r := by first | (rw [hy153]; with_reducible exact H) | (have H2_ := (Option.bind_some _ _).symm.trans H; rw [hy153]; with_reducible exact H2_) | (have H2_ := (Option.bind_some _ _).symm.trans H; with_reducible exact H2_) | with_reducible exact H | (rw [hy153]; exact H) | exact H
  have Ny153 := Aside0.mk hy153
  clear hy153
  replace H := Option.bind_eq_some_iff.mp H
  obtain ⟨⟨t156, t157⟩, A50, H⟩ := H
  replace H : ((enc_GetText.f (⟨#[97, 0, 1, 98, 99]⟩ : ByteArray)).bind fun bt160 => ((enc_GetInt.f (⟨#[127, 255, 255, 255, 255, 255, 255, 255]⟩ : ByteArray)).bind fun bt163 => ((enc_Get32.f (⟨#[0, 0, 1, 2]⟩ : ByteArray)).bind fun bt166 => (if t140 = true then (if t142 = 0 then (if t144 = 0 then (if t152 = 0 then (if t157 = 0 then (if bt160.2.2 = 0 then (if bt163.2.2 = 0 then (if bt166.2 = 0 then (understorylaw01_sane.j0 k t139 t141 t143 t151 t156 bt160.1 bt160.2.1 bt163.1 bt163.2.1 bt166.1 ((t156.length : Int) != 2)) else (understorylaw01_sane.j0 k t139 t141 t143 t151 t156 bt160.1 bt160.2.1 bt163.1 bt163.2.1 bt166.1 true)) else (understorylaw01_sane.j0 k t139 t141 t143 t151 t156 bt160.1 bt160.2.1 bt163.1 bt163.2.1 bt166.1 true)) else (understorylaw01_sane.j0 k t139 t141 t143 t151 t156 bt160.1 bt160.2.1 bt163.1 bt163.2.1 bt166.1 true)) else (understorylaw01_sane.j0 k t139 t141 t143 t151 t156 bt160.1 bt160.2.1 bt163.1 bt163.2.1 bt166.1 true)) else (understorylaw01_sane.j0 k t139 t141 t143 t151 t156 bt160.1 bt160.2.1 bt163.1 bt163.2.1 bt166.1 true)) else (understorylaw01_sane.j0 k t139 t141 t143 t151 t156 bt160.1 bt160.2.1 bt163.1 bt163.2.1 bt166.1 true)) else (understorylaw01_sane.j0 k t139 t141 t143 t151 t156 bt160.1 bt160.2.1 bt163.1 bt163.2.1 bt166.1 true)) else (understorylaw01_sane.j0 k t139 t141 t143 t151 t156 bt160.1 bt160.2.1 bt163.1 bt163.2.1 bt166.1 true))))) = some r := H
  have A5 := Aside0.mk A50
  clear A50
  replace H := Option.bind_eq_some_iff.mp H
  obtain ⟨⟨t160, t161, t162⟩, A60, H⟩ := H
  replace H : ((enc_GetInt.f (⟨#[127, 255, 255, 255, 255, 255, 255, 255]⟩ : ByteArray)).bind fun bt163 => ((enc_Get32.f (⟨#[0, 0, 1, 2]⟩ : ByteArray)).bind fun bt166 => (if t140 = true then (if t142 = 0 then (if t144 = 0 then (if t152 = 0 then (if t157 = 0 then (if t162 = 0 then (if bt163.2.2 = 0 then (if bt166.2 = 0 then (understorylaw01_sane.j0 k t139 t141 t143 t151 t156 t160 t161 bt163.1 bt163.2.1 bt166.1 ((t156.length : Int) != 2)) else (understorylaw01_sane.j0 k t139 t141 t143 t151 t156 t160 t161 bt163.1 bt163.2.1 bt166.1 true)) else (understorylaw01_sane.j0 k t139 t141 t143 t151 t156 t160 t161 bt163.1 bt163.2.1 bt166.1 true)) else (understorylaw01_sane.j0 k t139 t141 t143 t151 t156 t160 t161 bt163.1 bt163.2.1 bt166.1 true)) else (understorylaw01_sane.j0 k t139 t141 t143 t151 t156 t160 t161 bt163.1 bt163.2.1 bt166.1 true)) else (understorylaw01_sane.j0 k t139 t141 t143 t151 t156 t160 t161 bt163.1 bt163.2.1 bt166.1 true)) else (understorylaw01_sane.j0 k t139 t141 t143 t151 t156 t160 t161 bt163.1 bt163.2.1 bt166.1 true)) else (understorylaw01_sane.j0 k t139 t141 t143 t151 t156 t160 t161 bt163.1 bt163.2.1 bt166.1 true)) else (understorylaw01_sane.j0 k t139 t141 t143 t151 t156 t160 t161 bt163.1 bt163.2.1 bt166.1 true)))) = some r := H
  have A6 := Aside0.mk A60
  clear A60
  replace H := Option.bind_eq_some_iff.mp H
  obtain ⟨⟨t163, t164, t165⟩, A70, H⟩ := H
  replace H : ((enc_Get32.f (⟨#[0, 0, 1, 2]⟩ : ByteArray)).bind fun bt166 => (if t140 = true then (if t142 = 0 then (if t144 = 0 then (if t152 = 0 then (if t157 = 0 then (if t162 = 0 then (if t165 = 0 then (if bt166.2 = 0 then (understorylaw01_sane.j0 k t139 t141 t143 t151 t156 t160 t161 t163 t164 bt166.1 ((t156.length : Int) != 2)) else (understorylaw01_sane.j0 k t139 t141 t143 t151 t156 t160 t161 t163 t164 bt166.1 true)) else (understorylaw01_sane.j0 k t139 t141 t143 t151 t156 t160 t161 t163 t164 bt166.1 true)) else (understorylaw01_sane.j0 k t139 t141 t143 t151 t156 t160 t161 t163 t164 bt166.1 true)) else (understorylaw01_sane.j0 k t139 t141 t143 t151 t156 t160 t161 t163 t164 bt166.1 true)) else (understorylaw01_sane.j0 k t139 t141 t143 t151 t156 t160 t161 t163 t164 bt166.1 true)) else (understorylaw01_sane.j0 k t139 t141 t143 t151 t156 t160 t161 t163 t164 bt166.1 true)) else (understorylaw01_sane.j0 k t139 t141 t143 t151 t156 t160 t161 t163 t164 bt166.1 true)) else (understorylaw01_sane.j0 k t139 t141 t143 t151 t156 t160 t161 t163 t164 bt166.1 true))) = some r := H
  have A7 := Aside0.mk A70
  clear A70
  replace H := Option.bind_eq_some_iff.mp H
  obtain ⟨⟨t166, t167⟩, A80, H⟩ := H
  replace H : (if t140 = true then (if t142 = 0 then (if t144 = 0 then (if t152 = 0 then (if t157 = 0 then (if t162 = 0 then (if t165 = 0 then (if t167 = 0 then (understorylaw01_sane.j0 k t139 t141 t143 t151 t156 t160 t161 t163 t164 t166 ((t156.length : Int) != 2)) else (understorylaw01_sane.j0 k t139 t141 t143 t151 t156 t160 t161 t163 t164 t166 true)) else (understorylaw01_sane.j0 k t139 t141 t143 t151 t156 t160 t161 t163 t164 t166 true)) else (understorylaw01_sane.j0 k t139 t141 t143 t151 t156 t160 t161 t163 t164 t166 true)) else (understorylaw01_sane.j0 k t139 t141 t143 t151 t156 t160 t161 t163 t164 t166 true)) else (understorylaw01_sane.j0 k t139 t141 t143 t151 t156 t160 t161 t163 t164 t166 true)) else (understorylaw01_sane.j0 k t139 t141 t143 t151 t156 t160 t161 t163 t164 t166 true)) else (understorylaw01_sane.j0 k t139 t141 t143 t151 t156 t160 t161 t163 t164 t166 true)) else (understorylaw01_sane.j0 k t139 t141 t143 t151 t156 t160 t161 t163 t164 t166 true)) = some r := H
  have A8 := Aside0.mk A80
  clear A80
  have HC9 := Aside0.mk H
  clear H
  go_enter Try.func16, Try.ntmps16
  go_upto_region 9 with (first | ((with_reducible refine gate_callee (f := 17) rfl ?_); refine goesL_ (some 22) rfl rfl Try.func17 (by kernel_rfl) rfl #[.string (⟨#[97, 255]⟩ : ByteArray)] rfl (by (try simp only [List.map_toArray, List.map_cons, List.map_nil]); first | done | rfl | (simp only [List.length_drop, List.length_take]; rfl)) ?_; (with_reducible refine (enc_After.calls k (⟨#[97, 255]⟩ : ByteArray) t139 t140 _ A1.out).mono ?_); rintro e w10 ⟨rfl, hb⟩; refine ⟨_, rfl, ?_⟩; have n0_ := Aside0.mk (below_step (by repeat (first | (with_reducible first | exact HB.out | apply below_alloc | apply pw_below_drewN | apply below_drew1) | exact HB.out)) hb); clear HB; have HB := n0_; clear n0_; (try clear hb); (try clear hb2); (try clear hk); (try clear hi)) | ((with_reducible refine gate_callee (f := 19) rfl ?_); refine goesL_ (some 26) rfl rfl Try.func19 (by kernel_rfl) rfl #[.string (⟨#[97, 98, 99]⟩ : ByteArray), .string (⟨#[97, 98, 120]⟩ : ByteArray)] rfl (by (try simp only [List.map_toArray, List.map_cons, List.map_nil]); first | done | rfl | (simp only [List.length_drop, List.length_take]; rfl)) ?_; (with_reducible refine (enc_Between.calls k (⟨#[97, 98, 99]⟩ : ByteArray) (⟨#[97, 98, 120]⟩ : ByteArray) t141 t142 _ A2.out).mono ?_); rintro e w11 ⟨rfl, hb⟩; refine ⟨_, rfl, ?_⟩; have n0_ := Aside0.mk (below_step (by repeat (first | (with_reducible first | exact HB.out | apply below_alloc | apply pw_below_drewN | apply below_drew1) | exact HB.out)) hb); clear HB; have HB := n0_; clear n0_; (try clear hb); (try clear hb2); (try clear hk); (try clear hi)) | ((with_reducible refine gate_callee (f := 44) rfl ?_); refine goesL_ (some 30) rfl rfl Try.func44 (by kernel_rfl) rfl #[.int .i64 496] rfl (by (try simp only [List.map_toArray, List.map_cons, List.map_nil]); first | done | rfl | (simp only [List.length_drop, List.length_take]; rfl)) ?_; (with_reducible refine (enc_PutUint.calls k 496 t143 t144 _ A3.out).mono ?_); rintro e w12 ⟨rfl, hb⟩; refine ⟨_, rfl, ?_⟩; have n0_ := Aside0.mk (below_step (by repeat (first | (with_reducible first | exact HB.out | apply below_alloc | apply pw_below_drewN | apply below_drew1) | exact HB.out)) hb); clear HB; have HB := n0_; clear n0_; (try clear hb); (try clear hb2); (try clear hk); (try clear hi)) | ((with_reducible refine gate_dst (N := 36) rfl ?_); (try (refine gate_guard (by rfl) ?_; dsimp only)); refine Kd.R_lit k49 _ 49 ?hg (N := 36) ?hd (xs := ([(⟨0, 0, (⟨#[]⟩ : ByteArray)⟩ : S49), (⟨1, 1, (⟨#[]⟩ : ByteArray)⟩ : S49)] : List (S49))) (inner := [.int .i64 0, .int .i64 0, .string (⟨#[]⟩ : ByteArray), .int .i64 1, .int .i64 1, .string (⟨#[]⟩ : ByteArray)]) (ok := fun _ => True) (okp := fun _ => True) ?hr ?hp (fun _ hk => hk) trivial (Below.refl _ _) (Nat.le_refl _) (by simp) ?_; (case hd => rfl); (case hg => rfl); (case hr => first | (go_simp; done) | (go_simp; rfl)); (case hp => exact (Reps.c3 (show Kd.M k49 _ _ _ (⟨0, 0, (⟨#[]⟩ : ByteArray)⟩ : S49) [.int .i64 0, .int .i64 0, .string (⟨#[]⟩ : ByteArray)] from (k49_mkM _ _ _ (⟨0, 0, (⟨#[]⟩ : ByteArray)⟩ : S49) )) (Reps.c3 (show Kd.M k49 _ _ _ (⟨1, 1, (⟨#[]⟩ : ByteArray)⟩ : S49) [.int .i64 1, .int .i64 1, .string (⟨#[]⟩ : ByteArray)] from (k49_mkM _ _ _ (⟨1, 1, (⟨#[]⟩ : ByteArray)⟩ : S49) )) (Reps.none _ _)))); intro v146 w13 ho14 hb hg_ hnew_; clear hg_ hnew_; (first | rw [← Ny145.out] at ho14 | (simp only [Int.reduceToNat] at ho14; rw [← Ny145.out] at ho14)); have n0_ := Aside0.mk (Kd.R_lower ho14 (below_size (by repeat (first | (with_reducible first | exact HB.out | apply below_alloc | apply pw_below_drewN | apply below_drew1) | exact HB.out)))); have n1_ := Aside0.mk (below_step (by repeat (first | (with_reducible first | exact HB.out | apply below_alloc | apply pw_below_drewN | apply below_drew1) | exact HB.out)) hb); clear HB; have HO147 := n0_; have HB := n1_; clear n0_ n1_; clear hb ho14) | ((with_reducible refine gate_dst (N := 37) rfl ?_); (try (refine gate_guard (by rfl) ?_; dsimp only)); refine Kd.R_lit Kd.bool _ 4 ?hg (N := 37) ?hd (xs := ([false, true] : List Bool)) (inner := [.bool false, .bool true]) (ok := fun _ => True) (okp := fun _ => True) ?hr ?hp (fun _ hk => hk) trivial (Below.refl _ _) (Nat.le_refl _) (by simp) ?_; (case hd => rfl); (case hg => rfl); (case hr => first | (go_simp; done) | (go_simp; rfl)); (case hp => exact (Reps.one (show Kd.M Kd.bool _ _ _ false [.bool false] from rfl) (Reps.one (show Kd.M Kd.bool _ _ _ true [.bool true] from rfl) (Reps.none _ _)))); intro v149 w15 ho16 hb hg_ hnew_; clear hg_ hnew_; (first | rw [← Ny148.out] at ho16 | (simp only [Int.reduceToNat] at ho16; rw [← Ny148.out] at ho16)); have n0_ := Aside0.mk (Kd.R_below (by (with_reducible repeat (first | apply Kd.R_alloc | apply Kd.R_drewN | apply Kd.R_drew)); exact HO147.out) hb); have n1_ := Aside0.mk (Kd.R_lower ho16 (below_size (by repeat (first | (with_reducible first | exact HB.out | apply below_alloc | apply pw_below_drewN | apply below_drew1) | exact HB.out)))); have n2_ := Aside0.mk (below_step (by repeat (first | (with_reducible first | exact HB.out | apply below_alloc | apply pw_below_drewN | apply below_drew1) | exact HB.out)) hb); clear HO147; clear HB; have HO147 := n0_; have HO150 := n1_; have HB := n2_; clear n0_ n1_ n2_; clear hb ho16; obtain ⟨Ao17, co17, eo17⟩ := Kd.R_slice HO147.out; subst eo17; obtain ⟨Ao18, co18, eo18⟩ := Kd.R_slice HO150.out; subst eo18) | ((with_reducible refine gate_callee (f := 39) rfl ?_); refine goesL_ (some 38) rfl rfl Try.func39 (by kernel_rfl) rfl #[.slice Ao17 y145.length co17, .slice Ao18 y148.length co18] rfl (by (try simp only [List.map_toArray, List.map_cons, List.map_nil]); first | done | rfl | (simp only [List.length_drop, List.length_take]; rfl)) ?_; (with_reducible refine (enc_PutKey.calls _ _ y145 _ _ y148 t151 t152 _ ?side1 ?side2 ?side3 ?side4 A4.out).mono ?_); (case side1 => repeat (first | exact (Kd.R_reads' HO147.out).2.2 | (with_reducible refine Kd.C_alloc ?_ _) | (with_reducible refine Kd.C_drewN ?_ _) | (with_reducible refine Kd.C_drew ?_))); (case side2 => exact (Kd.R_reads' HO147.out).2.1); (case side3 => repeat (first | exact (Kd.R_reads' HO150.out).2.2 | (with_reducible refine Kd.C_alloc ?_ _) | (with_reducible refine Kd.C_drewN ?_ _) | (with_reducible refine Kd.C_drew ?_))); (case side4 => exact (Kd.R_reads' HO150.out).2.1); rintro e w19 ⟨rfl, hb⟩; refine ⟨_, rfl, ?_⟩; have n0_ := Aside0.mk (Kd.R_below (by (with_reducible repeat (first | apply Kd.R_alloc | apply Kd.R_drewN | apply Kd.R_drew)); exact HO147.out) hb); have n1_ := Aside0.mk (Kd.R_below (by (with_reducible repeat (first | apply Kd.R_alloc | apply Kd.R_drewN | apply Kd.R_drew)); exact HO150.out) hb); have n2_ := Aside0.mk (below_step (by repeat (first | (with_reducible first | exact HB.out | apply below_alloc | apply pw_below_drewN | apply below_drew1) | exact HB.out)) hb); clear HO147; clear HO150; clear HB; have HO147 := n0_; have HO150 := n1_; have HB := n2_; clear n0_ n1_ n2_; (try clear hb); (try clear hb2); (try clear hk); (try clear hi)) | ((with_reducible refine gate_dst (N := 42) rfl ?_); (try (refine gate_guard (by rfl) ?_; dsimp only)); refine Kd.R_lit Kd.bool _ 4 ?hg (N := 42) ?hd (xs := ([false, true] : List Bool)) (inner := [.bool false, .bool true]) (ok := fun _ => True) (okp := fun _ => True) ?hr ?hp (fun _ hk => hk) trivial (Below.refl _ _) (Nat.le_refl _) (by simp) ?_; (case hd => rfl); (case hg => rfl); (case hr => first | (go_simp; done) | (go_simp; rfl)); (case hp => exact (Reps.one (show Kd.M Kd.bool _ _ _ false [.bool false] from rfl) (Reps.one (show Kd.M Kd.bool _ _ _ true [.bool true] from rfl) (Reps.none _ _)))); intro v154 w20 ho21 hb hg_ hnew_; clear hg_ hnew_; (first | rw [← Ny153.out] at ho21 | (simp only [Int.reduceToNat] at ho21; rw [← Ny153.out] at ho21)); have n0_ := Aside0.mk (Kd.R_below (by (with_reducible repeat (first | apply Kd.R_alloc | apply Kd.R_drewN | apply Kd.R_drew)); exact HO147.out) hb); have n1_ := Aside0.mk (Kd.R_elder' (by (with_reducible repeat (first | apply Kd.R_alloc | apply Kd.R_drewN | apply Kd.R_drew)); exact HO150.out) (Kd.R_base ho21) hb); have n2_ := Aside0.mk (Kd.R_lower (Kd.R_new' ho21 (Kd.R_lt (by (with_reducible repeat (first | apply Kd.R_alloc | apply Kd.R_drewN | apply Kd.R_drew)); exact HO150.out))) (below_size (by repeat (first | (with_reducible first | exact HB.out | apply below_alloc | apply pw_below_drewN | apply below_drew1) | exact HB.out)))); have n3_ := Aside0.mk (below_step (by repeat (first | (with_reducible first | exact HB.out | apply below_alloc | apply pw_below_drewN | apply below_drew1) | exact HB.out)) hb); clear HO147; clear HO150; clear HB; have HO147 := n0_; have HO150 := n1_; have HO155 := n2_; have HB := n3_; clear n0_ n1_ n2_ n3_; clear hb ho21; obtain ⟨Ao22, co22, eo22⟩ := Kd.R_slice HO155.out; subst eo22) | ((with_reducible refine gate_callee (f := 41) rfl ?_); refine goesL_ (some 43) rfl rfl Try.func41 (by kernel_rfl) rfl #[.string (⟨#[1, 253, 254]⟩ : ByteArray), .slice Ao22 y153.length co22] rfl (by (try simp only [List.map_toArray, List.map_cons, List.map_nil]); first | done | rfl | (simp only [List.length_drop, List.length_take]; rfl)) ?_; (with_reducible refine (enc_GetKey.calls (⟨#[1, 253, 254]⟩ : ByteArray) _ _ y153 t156 t157 _ ?side1 ?side2 A5.out).mono ?_); (case side1 => repeat (first | exact (Kd.R_reads' HO155.out).2.2 | (with_reducible refine Kd.C_alloc ?_ _) | (with_reducible refine Kd.C_drewN ?_ _) | (with_reducible refine Kd.C_drew ?_))); (case side2 => exact (Kd.R_reads' HO155.out).2.1); rintro e w23 ⟨v158, rfl, ho0, hb⟩; refine ⟨_, rfl, ?_⟩; have n0_ := Aside0.mk (Kd.R_elder' (by (with_reducible repeat (first | apply Kd.R_alloc | apply Kd.R_drewN | apply Kd.R_drew)); exact HO147.out) (Kd.R_base ho0) hb); have n1_ := Aside0.mk (Kd.R_below (by (with_reducible repeat (first | apply Kd.R_alloc | apply Kd.R_drewN | apply Kd.R_drew)); exact HO150.out) hb); have n2_ := Aside0.mk (Kd.R_below (by (with_reducible repeat (first | apply Kd.R_alloc | apply Kd.R_drewN | apply Kd.R_drew)); exact HO155.out) hb); have n3_ := Aside0.mk (Kd.R_lower (Kd.R_new' ho0 (Kd.R_lt (by (with_reducible repeat (first | apply Kd.R_alloc | apply Kd.R_drewN | apply Kd.R_drew)); exact HO147.out))) (below_size (by repeat (first | (with_reducible first | exact HB.out | apply below_alloc | apply pw_below_drewN | apply below_drew1) | exact HB.out)))); have n4_ := Aside0.mk (below_step (by repeat (first | (with_reducible first | exact HB.out | apply below_alloc | apply pw_below_drewN | apply below_drew1) | exact HB.out)) hb); clear HO147; clear HO150; clear HO155; clear HB; have HO147 := n0_; have HO150 := n1_; have HO155 := n2_; have HO159 := n3_; have HB := n4_; clear n0_ n1_ n2_ n3_ n4_; (try clear hb); (try clear hb2); (try clear hk); (try clear hi); (try clear ho0)) | ((with_reducible refine gate_callee (f := 27) rfl ?_); refine goesL_ (some 47) rfl rfl Try.func27 (by kernel_rfl) rfl #[.string (⟨#[97, 0, 1, 98, 99]⟩ : ByteArray)] rfl (by (try simp only [List.map_toArray, List.map_cons, List.map_nil]); first | done | rfl | (simp only [List.length_drop, List.length_take]; rfl)) ?_; (with_reducible refine (enc_GetText.calls (⟨#[97, 0, 1, 98, 99]⟩ : ByteArray) t160 t161 t162 _ A6.out).mono ?_); rintro e w24 ⟨rfl, hb⟩; refine ⟨_, rfl, ?_⟩; have n0_ := Aside0.mk (Kd.R_below (by (with_reducible repeat (first | apply Kd.R_alloc | apply Kd.R_drewN | apply Kd.R_drew)); exact HO147.out) hb); have n1_ := Aside0.mk (Kd.R_below (by (with_reducible repeat (first | apply Kd.R_alloc | apply Kd.R_drewN | apply Kd.R_drew)); exact HO150.out) hb); have n2_ := Aside0.mk (Kd.R_below (by (with_reducible repeat (first | apply Kd.R_alloc | apply Kd.R_drewN | apply Kd.R_drew)); exact HO155.out) hb); have n3_ := Aside0.mk (Kd.R_below (by (with_reducible repeat (first | apply Kd.R_alloc | apply Kd.R_drewN | apply Kd.R_drew)); exact HO159.out) hb); have n4_ := Aside0.mk (below_step (by repeat (first | (with_reducible first | exact HB.out | apply below_alloc | apply pw_below_drewN | apply below_drew1) | exact HB.out)) hb); clear HO147; clear HO150; clear HO155; clear HO159; clear HB; have HO147 := n0_; have HO150 := n1_; have HO155 := n2_; have HO159 := n3_; have HB := n4_; clear n0_ n1_ n2_ n3_ n4_; (try clear hb); (try clear hb2); (try clear hk); (try clear hi)) | ((with_reducible refine gate_callee (f := 51) rfl ?_); refine goesL_ (some 52) rfl rfl Try.func51 (by kernel_rfl) rfl #[.string (⟨#[127, 255, 255, 255, 255, 255, 255, 255]⟩ : ByteArray)] rfl (by (try simp only [List.map_toArray, List.map_cons, List.map_nil]); first | done | rfl | (simp only [List.length_drop, List.length_take]; rfl)) ?_; (with_reducible refine (enc_GetInt.calls (⟨#[127, 255, 255, 255, 255, 255, 255, 255]⟩ : ByteArray) t163 t164 t165 _ A7.out).mono ?_); rintro e w25 ⟨rfl, hb⟩; refine ⟨_, rfl, ?_⟩; have n0_ := Aside0.mk (Kd.R_below (by (with_reducible repeat (first | apply Kd.R_alloc | apply Kd.R_drewN | apply Kd.R_drew)); exact HO147.out) hb); have n1_ := Aside0.mk (Kd.R_below (by (with_reducible repeat (first | apply Kd.R_alloc | apply Kd.R_drewN | apply Kd.R_drew)); exact HO150.out) hb); have n2_ := Aside0.mk (Kd.R_below (by (with_reducible repeat (first | apply Kd.R_alloc | apply Kd.R_drewN | apply Kd.R_drew)); exact HO155.out) hb); have n3_ := Aside0.mk (Kd.R_below (by (with_reducible repeat (first | apply Kd.R_alloc | apply Kd.R_drewN | apply Kd.R_drew)); exact HO159.out) hb); have n4_ := Aside0.mk (below_step (by repeat (first | (with_reducible first | exact HB.out | apply below_alloc | apply pw_below_drewN | apply below_drew1) | exact HB.out)) hb); clear HO147; clear HO150; clear HO155; clear HO159; clear HB; have HO147 := n0_; have HO150 := n1_; have HO155 := n2_; have HO159 := n3_; have HB := n4_; clear n0_ n1_ n2_ n3_ n4_; (try clear hb); (try clear hb2); (try clear hk); (try clear hi)) | ((with_reducible refine gate_callee (f := 53) rfl ?_); refine goesL_ (some 57) rfl rfl Try.func53 (by kernel_rfl) rfl #[.string (⟨#[0, 0, 1, 2]⟩ : ByteArray)] rfl (by (try simp only [List.map_toArray, List.map_cons, List.map_nil]); first | done | rfl | (simp only [List.length_drop, List.length_take]; rfl)) ?_; (with_reducible refine (enc_Get32.calls (⟨#[0, 0, 1, 2]⟩ : ByteArray) t166 t167 _ A8.out).mono ?_); rintro e w26 ⟨rfl, hb⟩; refine ⟨_, rfl, ?_⟩; have n0_ := Aside0.mk (Kd.R_below (by (with_reducible repeat (first | apply Kd.R_alloc | apply Kd.R_drewN | apply Kd.R_drew)); exact HO147.out) hb); have n1_ := Aside0.mk (Kd.R_below (by (with_reducible repeat (first | apply Kd.R_alloc | apply Kd.R_drewN | apply Kd.R_drew)); exact HO150.out) hb); have n2_ := Aside0.mk (Kd.R_below (by (with_reducible repeat (first | apply Kd.R_alloc | apply Kd.R_drewN | apply Kd.R_drew)); exact HO155.out) hb); have n3_ := Aside0.mk (Kd.R_below (by (with_reducible repeat (first | apply Kd.R_alloc | apply Kd.R_drewN | apply Kd.R_drew)); exact HO159.out) hb); have n4_ := Aside0.mk (below_step (by repeat (first | (with_reducible first | exact HB.out | apply below_alloc | apply pw_below_drewN | apply below_drew1) | exact HB.out)) hb); clear HO147; clear HO150; clear HO155; clear HO159; clear HB; have HO147 := n0_; have HO150 := n1_; have HO155 := n2_; have HO159 := n3_; have HB := n4_; clear n0_ n1_ n2_ n3_ n4_; (try clear hb); (try clear hb2); (try clear hk); (try clear hi)))
  (try simp only [Act.put, List.setIfInBounds_toArray, List.set_cons_zero, List.set_cons_succ])
  go_cut [94] (fun v94 wc => ∃ (kq : Nat) (x94_8 : Bool), v94 = .bool x94_8 ∧ Aside0 (understorylaw01_sane.j0 kq t139 t141 t143 t151 t156 t160 t161 t163 t164 t166 x94_8 = some r) ∧ Aside0 (kq ≤ k) ∧ Aside0 (Kd.R k49 49 wc w.heap.size (fun _ => True) v158 t156) ∧ Aside0 (Below w.heap.size w wc))
  case first =>
    have H := HC9.out
    clear HC9
    by_cases c27 : t140 = true
    · subst c27
      have H1 : (if t142 = 0 then (if t144 = 0 then (if t152 = 0 then (if t157 = 0 then (if t162 = 0 then (if t165 = 0 then (if t167 = 0 then (understorylaw01_sane.j0 k t139 t141 t143 t151 t156 t160 t161 t163 t164 t166 ((t156.length : Int) != 2)) else (understorylaw01_sane.j0 k t139 t141 t143 t151 t156 t160 t161 t163 t164 t166 true)) else (understorylaw01_sane.j0 k t139 t141 t143 t151 t156 t160 t161 t163 t164 t166 true)) else (understorylaw01_sane.j0 k t139 t141 t143 t151 t156 t160 t161 t163 t164 t166 true)) else (understorylaw01_sane.j0 k t139 t141 t143 t151 t156 t160 t161 t163 t164 t166 true)) else (understorylaw01_sane.j0 k t139 t141 t143 t151 t156 t160 t161 t163 t164 t166 true)) else (understorylaw01_sane.j0 k t139 t141 t143 t151 t156 t160 t161 t163 t164 t166 true)) else (understorylaw01_sane.j0 k t139 t141 t143 t151 t156 t160 t161 t163 t164 t166 true)) = some r := by rw [if_pos rfl] at H; exact H
      clear H
      have H := H1
      clear H1
      by_cases c28 : t142 = 0
      · rw [if_pos c28] at H
        have c28b0 : (t142 == 0) = true := beq_iff_eq.mpr c28
        have c28b1 : (t142 != 0) = false := bne_eq_false_iff_eq.mpr c28
        clear c28
        (first | rw [c28b0] | (simp only [i64_w, i32_w]; rw [c28b0]) | skip)
        by_cases c29 : t144 = 0
        · rw [if_pos c29] at H
          have c29b0 : (t144 == 0) = true := beq_iff_eq.mpr c29
          have c29b1 : (t144 != 0) = false := bne_eq_false_iff_eq.mpr c29
          clear c29
          by_cases c30 : t152 = 0
          · rw [if_pos c30] at H
            have c30b0 : (t152 == 0) = true := beq_iff_eq.mpr c30
            have c30b1 : (t152 != 0) = false := bne_eq_false_iff_eq.mpr c30
            clear c30
            by_cases c31 : t157 = 0
            · rw [if_pos c31] at H
              have c31b0 : (t157 == 0) = true := beq_iff_eq.mpr c31
              have c31b1 : (t157 != 0) = false := bne_eq_false_iff_eq.mpr c31
              clear c31
              by_cases c32 : t162 = 0
              · rw [if_pos c32] at H
                have c32b0 : (t162 == 0) = true := beq_iff_eq.mpr c32
                have c32b1 : (t162 != 0) = false := bne_eq_false_iff_eq.mpr c32
                clear c32
                by_cases c33 : t165 = 0
                · rw [if_pos c33] at H
                  have c33b0 : (t165 == 0) = true := beq_iff_eq.mpr c33
                  have c33b1 : (t165 != 0) = false := bne_eq_false_iff_eq.mpr c33
                  clear c33
                  by_cases c34 : t167 = 0
                  · rw [if_pos c34] at H
                    have c34b0 : (t167 == 0) = true := beq_iff_eq.mpr c34
                    have c34b1 : (t167 != 0) = false := bne_eq_false_iff_eq.mpr c34
                    clear c34
                    have H' := Aside0.mk H
                    clear H
                    obtain ⟨Ao35, co35, eo35⟩ := Kd.R_slice HO159.out
                    subst eo35
                    go_wp2
                    go_meet
                    case rel => exact ⟨_, (((t156.length : Int) != 2)), (by first | rfl | (simp; done) | (simp [*]; done)), H', ⟨by first | omega | exact Nat.le_refl _⟩, ⟨by (with_reducible repeat (first | apply Kd.R_alloc | apply Kd.R_drewN | apply Kd.R_drew)); exact Kd.R_mono HO159.out (fun _ hk => trivial)⟩, ⟨by repeat (first | (with_reducible first | exact HB.out | apply below_alloc | apply pw_below_drewN | apply below_drew1) | exact HB.out)⟩⟩
                  · rw [if_neg c34] at H
                    have c34b0 : (t167 == 0) = false := beq_eq_false_iff_ne.mpr c34
                    have c34b1 : (t167 != 0) = true := bne_iff_ne.mpr c34
                    have H' := Aside0.mk H
                    clear H
                    go_wp2
                    go_meet
                    case rel => exact ⟨_, (true), (by first | rfl | (simp; done) | (simp [*]; done)), H', ⟨by first | omega | exact Nat.le_refl _⟩, ⟨by (with_reducible repeat (first | apply Kd.R_alloc | apply Kd.R_drewN | apply Kd.R_drew)); exact Kd.R_mono HO159.out (fun _ hk => trivial)⟩, ⟨by repeat (first | (with_reducible first | exact HB.out | apply below_alloc | apply pw_below_drewN | apply below_drew1) | exact HB.out)⟩⟩
                · rw [if_neg c33] at H
                  have c33b0 : (t165 == 0) = false := beq_eq_false_iff_ne.mpr c33
                  have c33b1 : (t165 != 0) = true := bne_iff_ne.mpr c33
                  have H' := Aside0.mk H
                  clear H
                  go_wp2
                  go_meet
                  case rel => exact ⟨_, (true), (by first | rfl | (simp; done) | (simp [*]; done)), H', ⟨by first | omega | exact Nat.le_refl _⟩, ⟨by (with_reducible repeat (first | apply Kd.R_alloc | apply Kd.R_drewN | apply Kd.R_drew)); exact Kd.R_mono HO159.out (fun _ hk => trivial)⟩, ⟨by repeat (first | (with_reducible first | exact HB.out | apply below_alloc | apply pw_below_drewN | apply below_drew1) | exact HB.out)⟩⟩
              · rw [if_neg c32] at H
                have c32b0 : (t162 == 0) = false := beq_eq_false_iff_ne.mpr c32
                have c32b1 : (t162 != 0) = true := bne_iff_ne.mpr c32
                have H' := Aside0.mk H
                clear H
                go_wp2
                go_meet
                case rel => exact ⟨_, (true), (by first | rfl | (simp; done) | (simp [*]; done)), H', ⟨by first | omega | exact Nat.le_refl _⟩, ⟨by (with_reducible repeat (first | apply Kd.R_alloc | apply Kd.R_drewN | apply Kd.R_drew)); exact Kd.R_mono HO159.out (fun _ hk => trivial)⟩, ⟨by repeat (first | (with_reducible first | exact HB.out | apply below_alloc | apply pw_below_drewN | apply below_drew1) | exact HB.out)⟩⟩
            · rw [if_neg c31] at H
              have c31b0 : (t157 == 0) = false := beq_eq_false_iff_ne.mpr c31
              have c31b1 : (t157 != 0) = true := bne_iff_ne.mpr c31
              have H' := Aside0.mk H
              clear H
              go_wp2
              go_meet
              case rel => exact ⟨_, (true), (by first | rfl | (simp; done) | (simp [*]; done)), H', ⟨by first | omega | exact Nat.le_refl _⟩, ⟨by (with_reducible repeat (first | apply Kd.R_alloc | apply Kd.R_drewN | apply Kd.R_drew)); exact Kd.R_mono HO159.out (fun _ hk => trivial)⟩, ⟨by repeat (first | (with_reducible first | exact HB.out | apply below_alloc | apply pw_below_drewN | apply below_drew1) | exact HB.out)⟩⟩
          · rw [if_neg c30] at H
            have c30b0 : (t152 == 0) = false := beq_eq_false_iff_ne.mpr c30
            have c30b1 : (t152 != 0) = true := bne_iff_ne.mpr c30
            have H' := Aside0.mk H
            clear H
            go_wp2
            go_meet
            case rel => exact ⟨_, (true), (by first | rfl | (simp; done) | (simp [*]; done)), H', ⟨by first | omega | exact Nat.le_refl _⟩, ⟨by (with_reducible repeat (first | apply Kd.R_alloc | apply Kd.R_drewN | apply Kd.R_drew)); exact Kd.R_mono HO159.out (fun _ hk => trivial)⟩, ⟨by repeat (first | (with_reducible first | exact HB.out | apply below_alloc | apply pw_below_drewN | apply below_drew1) | exact HB.out)⟩⟩
        · rw [if_neg c29] at H
          have c29b0 : (t144 == 0) = false := beq_eq_false_iff_ne.mpr c29
          have c29b1 : (t144 != 0) = true := bne_iff_ne.mpr c29
          have H' := Aside0.mk H
          clear H
          go_wp2
          go_meet
          case rel => exact ⟨_, (true), (by first | rfl | (simp; done) | (simp [*]; done)), H', ⟨by first | omega | exact Nat.le_refl _⟩, ⟨by (with_reducible repeat (first | apply Kd.R_alloc | apply Kd.R_drewN | apply Kd.R_drew)); exact Kd.R_mono HO159.out (fun _ hk => trivial)⟩, ⟨by repeat (first | (with_reducible first | exact HB.out | apply below_alloc | apply pw_below_drewN | apply below_drew1) | exact HB.out)⟩⟩
      · rw [if_neg c28] at H
        have c28b0 : (t142 == 0) = false := beq_eq_false_iff_ne.mpr c28
        have c28b1 : (t142 != 0) = true := bne_iff_ne.mpr c28
        (first | rw [c28b0] | (simp only [i64_w, i32_w]; rw [c28b0]) | skip)
        have H' := Aside0.mk H
        clear H
        go_wp2
        go_meet
        case rel => exact ⟨_, (true), (by first | rfl | (simp; done) | (simp [*]; done)), H', ⟨by first | omega | exact Nat.le_refl _⟩, ⟨by (with_reducible repeat (first | apply Kd.R_alloc | apply Kd.R_drewN | apply Kd.R_drew)); exact Kd.R_mono HO159.out (fun _ hk => trivial)⟩, ⟨by repeat (first | (with_reducible first | exact HB.out | apply below_alloc | apply pw_below_drewN | apply below_drew1) | exact HB.out)⟩⟩
    · replace c27 := Bool.eq_false_iff.mpr c27
      subst c27
      have H1 : (understorylaw01_sane.j0 k t139 t141 t143 t151 t156 t160 t161 t163 t164 t166 true) = some r := by rw [if_neg (show ¬ (false = true) by decide)] at H; exact H
      clear H
      have H := H1
      clear H1
      have H' := Aside0.mk H
      clear H
      go_wp2
      go_meet
      case rel => exact ⟨_, (true), (by first | rfl | (simp; done) | (simp [*]; done)), H', ⟨by first | omega | exact Nat.le_refl _⟩, ⟨by (with_reducible repeat (first | apply Kd.R_alloc | apply Kd.R_drewN | apply Kd.R_drew)); exact Kd.R_mono HO159.out (fun _ hk => trivial)⟩, ⟨by repeat (first | (with_reducible first | exact HB.out | apply below_alloc | apply pw_below_drewN | apply below_drew1) | exact HB.out)⟩⟩
  case rest =>
    clear HC9
    try clear c1
    try clear c2
    try clear p2
    try clear c3
    try clear c4
    try clear c5
    try clear c16
    try clear c17
    try clear c19
    try clear c27
    try clear c28
    try clear c28b0
    try clear c28b1
    try clear c29
    try clear c29b0
    try clear c29b1
    try clear c30
    try clear c30b0
    try clear c30b1
    try clear c31
    try clear c31b0
    try clear c31b1
    try clear c32
    try clear c32b0
    try clear c32b1
    try clear c33
    try clear c33b0
    try clear c33b1
    try clear c34
    try clear c34b0
    try clear c34b1
    obtain ⟨kq, x94_8, rfl, HA, HJ8, HO_9, HB⟩ := hcut
    cases kq with
    | zero => exact absurd HA.out (by simp [understorylaw01_sane.j0])
    | succ kj8 =>
      have H := HA.out
      clear HA
      simp only [understorylaw01_sane.j0] at H
      by_cases c36 : x94_8 = true
      · subst c36
        have H1 : (some false) = some r := by rw [if_pos rfl] at H; exact H
        clear H
        have H := H1
        clear H1
        obtain rfl := Option.some.inj H
        go_wp2
        go_ret
        exact ⟨by first | rfl | (simp [errW_none, errW_some] <;> rfl) | (simp [*, errW_none, errW_some] <;> rfl), by repeat (first | (with_reducible first | exact HB.out | apply below_alloc | apply pw_below_drewN | apply below_drew1) | exact HB.out)⟩
      · replace c36 := Bool.eq_false_iff.mpr c36
        subst c36
        have H1 : (if t139.toList = ([98] : List UInt8) then (if t141.toList = ([97, 98, 100] : List UInt8) then (if t143.toList = ([241, 1, 0] : List UInt8) then (if t151.toList = ([1, 253, 254] : List UInt8) then (if 1 < (t156.length : Int) then (understorylaw01_sane.j1 kj8 t156 t160 t161 t163 t164 t166 (((rd_T49 t156 1).f0) == 1 && (((rd_T49 t156 1).f1) == 1 && ((((rd_T49 t156 1).f2).toList) == ([] : List UInt8))))) else (none)) else (understorylaw01_sane.j1 kj8 t156 t160 t161 t163 t164 t166 false)) else (understorylaw01_sane.j1 kj8 t156 t160 t161 t163 t164 t166 false)) else (understorylaw01_sane.j1 kj8 t156 t160 t161 t163 t164 t166 false)) else (understorylaw01_sane.j1 kj8 t156 t160 t161 t163 t164 t166 false)) = some r := by rw [if_neg (show ¬ (false = true) by decide)] at H; exact H
        clear H
        have H := H1
        clear H1
        have HC37 := Aside0.mk H
        clear H
        go_upto_region 11 with (fail)
        go_cut [19] (fun v19 wc => ∃ (kq : Nat) (x19_36 : Bool), v19 = .bool x19_36 ∧ Aside0 (understorylaw01_sane.j1 kq t156 t160 t161 t163 t164 t166 x19_36 = some r) ∧ Aside0 (kq ≤ kj8) ∧ Aside0 (Kd.R k49 49 wc w.heap.size (fun _ => True) v158 t156) ∧ Aside0 (Below w.heap.size w wc))
        case first =>
          have H := HC37.out
          clear HC37
          by_cases c38 : t139.toList = ([98] : List UInt8)
          · rw [if_pos c38] at H
            have c38b0 : (t139.toList == ([98] : List UInt8)) = true := beq_iff_eq.mpr c38
            have c38b1 : (t139.toList != ([98] : List UInt8)) = false := bne_eq_false_iff_eq.mpr c38
            clear c38
            (first | rw [c38b0] | (simp only [i64_w, i32_w]; rw [c38b0]) | skip)
            by_cases c39 : t141.toList = ([97, 98, 100] : List UInt8)
            · rw [if_pos c39] at H
              have c39b0 : (t141.toList == ([97, 98, 100] : List UInt8)) = true := beq_iff_eq.mpr c39
              have c39b1 : (t141.toList != ([97, 98, 100] : List UInt8)) = false := bne_eq_false_iff_eq.mpr c39
              clear c39
              by_cases c40 : t143.toList = ([241, 1, 0] : List UInt8)
              · rw [if_pos c40] at H
                have c40b0 : (t143.toList == ([241, 1, 0] : List UInt8)) = true := beq_iff_eq.mpr c40
                have c40b1 : (t143.toList != ([241, 1, 0] : List UInt8)) = false := bne_eq_false_iff_eq.mpr c40
                clear c40
                by_cases c41 : t151.toList = ([1, 253, 254] : List UInt8)
                · rw [if_pos c41] at H
                  have c41b0 : (t151.toList == ([1, 253, 254] : List UInt8)) = true := beq_iff_eq.mpr c41
                  have c41b1 : (t151.toList != ([1, 253, 254] : List UInt8)) = false := bne_eq_false_iff_eq.mpr c41
                  clear c41
                  by_cases c42 : 1 < (t156.length : Int)
                  · rw [if_pos c42] at H
                    have c42b0 : decide (1 < (t156.length : Int)) = true := decide_eq_true c42
                    have c42b1 : decide (1 < t156.length) = true := decide_eq_true (by omega)
                    clear c42
                    have H' := Aside0.mk H
                    clear H
                    obtain ⟨Ao43, co43, eo43⟩ := Kd.R_slice HO_9.out
                    subst eo43
                    have p168 : 0 ≤ (1 : Int) := (by omega)
                    have q168 : 1 < (t156.length : Int) := of_decide_eq_true (by first | (with_reducible assumption) | assumption)
                    obtain ⟨ad168, e168, hx168_0, hx168_1, hx168_2⟩ := at_T49 (Kd.R_reads' HO_9.out).2.2 1 p168 q168
                    cases e168
                    (try simp only [show (1 : Int).toNat = 1 from rfl, Nat.reduceMul, Nat.reduceEqDiff, Go.Addr.add, ↓reduceIte] at hx168_0)
                    (try simp only [show (1 : Int).toNat = 1 from rfl, Nat.reduceMul, Nat.reduceEqDiff, Go.Addr.add, ↓reduceIte] at hx168_1)
                    (try simp only [show (1 : Int).toNat = 1 from rfl, Nat.reduceMul, Nat.reduceEqDiff, Go.Addr.add, ↓reduceIte] at hx168_2)
                    have qi168 : (1 < t156.length) = True := eq_true (by omega)
                    (try rw [show ((1 : Int)).toNat = 1 from rfl] at hx168_0)
                    (try rw [show 1 * 3 = 3 from rfl] at hx168_0)
                    (try rw [show ((1 : Int)).toNat = 1 from rfl] at hx168_1)
                    (try rw [show 1 * 3 = 3 from rfl] at hx168_1)
                    (try rw [show ((1 : Int)).toNat = 1 from rfl] at hx168_2)
                    (try rw [show 1 * 3 = 3 from rfl] at hx168_2)
                    replace p168 := eq_true p168
                    replace q168 := eq_true q168
                    go_wp2
                    go_meet
                    case rel => exact ⟨_, ((((rd_T49 t156 1).f0) == 1 && (((rd_T49 t156 1).f1) == 1 && ((((rd_T49 t156 1).f2).toList) == ([] : List UInt8))))), (by first | rfl | (simp; done) | (simp [*]; done)), H', ⟨by have := HJ8.out; first | omega | exact Nat.le_refl _⟩, ⟨by (with_reducible repeat (first | apply Kd.R_alloc | apply Kd.R_drewN | apply Kd.R_drew)); exact HO_9.out⟩, ⟨by repeat (first | (with_reducible first | exact HB.out | apply below_alloc | apply pw_below_drewN | apply below_drew1) | exact HB.out)⟩⟩
                  · rw [if_neg c42] at H
                    exact absurd H (by simp)
                · rw [if_neg c41] at H
                  have c41b0 : (t151.toList == ([1, 253, 254] : List UInt8)) = false := beq_eq_false_iff_ne.mpr c41
                  have c41b1 : (t151.toList != ([1, 253, 254] : List UInt8)) = true := bne_iff_ne.mpr c41
                  have H' := Aside0.mk H
                  clear H
                  go_wp2
                  go_meet
                  case rel => exact ⟨_, (false), (by first | rfl | (simp; done) | (simp [*]; done)), H', ⟨by have := HJ8.out; first | omega | exact Nat.le_refl _⟩, ⟨by (with_reducible repeat (first | apply Kd.R_alloc | apply Kd.R_drewN | apply Kd.R_drew)); exact HO_9.out⟩, ⟨by repeat (first | (with_reducible first | exact HB.out | apply below_alloc | apply pw_below_drewN | apply below_drew1) | exact HB.out)⟩⟩
              · rw [if_neg c40] at H
                have c40b0 : (t143.toList == ([241, 1, 0] : List UInt8)) = false := beq_eq_false_iff_ne.mpr c40
                have c40b1 : (t143.toList != ([241, 1, 0] : List UInt8)) = true := bne_iff_ne.mpr c40
                have H' := Aside0.mk H
                clear H
                go_wp2
                go_meet
                case rel => exact ⟨_, (false), (by first | rfl | (simp; done) | (simp [*]; done)), H', ⟨by have := HJ8.out; first | omega | exact Nat.le_refl _⟩, ⟨by (with_reducible repeat (first | apply Kd.R_alloc | apply Kd.R_drewN | apply Kd.R_drew)); exact HO_9.out⟩, ⟨by repeat (first | (with_reducible first | exact HB.out | apply below_alloc | apply pw_below_drewN | apply below_drew1) | exact HB.out)⟩⟩
            · rw [if_neg c39] at H
              have c39b0 : (t141.toList == ([97, 98, 100] : List UInt8)) = false := beq_eq_false_iff_ne.mpr c39
              have c39b1 : (t141.toList != ([97, 98, 100] : List UInt8)) = true := bne_iff_ne.mpr c39
              have H' := Aside0.mk H
              clear H
              go_wp2
              go_meet
              case rel => exact ⟨_, (false), (by first | rfl | (simp; done) | (simp [*]; done)), H', ⟨by have := HJ8.out; first | omega | exact Nat.le_refl _⟩, ⟨by (with_reducible repeat (first | apply Kd.R_alloc | apply Kd.R_drewN | apply Kd.R_drew)); exact HO_9.out⟩, ⟨by repeat (first | (with_reducible first | exact HB.out | apply below_alloc | apply pw_below_drewN | apply below_drew1) | exact HB.out)⟩⟩
          · rw [if_neg c38] at H
            have c38b0 : (t139.toList == ([98] : List UInt8)) = false := beq_eq_false_iff_ne.mpr c38
            have c38b1 : (t139.toList != ([98] : List UInt8)) = true := bne_iff_ne.mpr c38
            (first | rw [c38b0] | (simp only [i64_w, i32_w]; rw [c38b0]) | skip)
            have H' := Aside0.mk H
            clear H
            go_wp2
            go_meet
            case rel => exact ⟨_, (false), (by first | rfl | (simp; done) | (simp [*]; done)), H', ⟨by have := HJ8.out; first | omega | exact Nat.le_refl _⟩, ⟨by (with_reducible repeat (first | apply Kd.R_alloc | apply Kd.R_drewN | apply Kd.R_drew)); exact HO_9.out⟩, ⟨by repeat (first | (with_reducible first | exact HB.out | apply below_alloc | apply pw_below_drewN | apply below_drew1) | exact HB.out)⟩⟩
        case rest =>
          clear HC37
          try clear c1
          try clear p1
          try clear q1
          try clear hx1
          try clear qi1
          try clear c2
          try clear p2
          try clear c3
          try clear c4
          try clear c5
          try clear c16
          try clear p16
          try clear q16
          try clear hx16
          try clear qi16
          try clear c17
          try clear c19
          try clear c27
          try clear c28
          try clear c28b0
          try clear c28b1
          try clear c29
          try clear c29b0
          try clear c29b1
          try clear c30
          try clear c30b0
          try clear c30b1
          try clear c31
          try clear c31b0
          try clear c31b1
          try clear c32
          try clear c32b0
          try clear c32b1
          try clear c33
          try clear c33b0
          try clear c33b1
          try clear c34
          try clear c34b0
          try clear c34b1
          try clear c36
          try clear c38
          try clear c38b0
          try clear c38b1
          try clear c39
          try clear c39b0
          try clear c39b1
          try clear c40
          try clear c40b0
          try clear c40b1
          try clear c41
          try clear c41b0
          try clear c41b1
          try clear c42
          try clear c42b0
          try clear c42b1
          try clear hx168_0
          try clear hx168_1
          try clear hx168_2
          try clear p168
          try clear p2
          try clear q168
          obtain ⟨kq, x19_36, rfl, HA, HJ36, HO_9, HB⟩ := hcut
          cases kq with
          | zero => exact absurd HA.out (by simp [understorylaw01_sane.j1])
          | succ kj36 =>
            have H := HA.out
            clear HA
            simp only [understorylaw01_sane.j1] at H
            have HC44 := Aside0.mk H
            clear H
            go_upto_region 12 with (fail)
            go_cut [20] (fun v20 wc => ∃ (kq : Nat) (x20_43 : Bool), v20 = .bool x20_43 ∧ Aside0 (understorylaw01_sane.j2 kq t156 x19_36 x20_43 = some r) ∧ Aside0 (kq ≤ kj36) ∧ Aside0 (Kd.R k49 49 wc w.heap.size (fun _ => True) v158 t156) ∧ Aside0 (Below w.heap.size w wc))
            case first =>
              have H := HC44.out
              clear HC44
              by_cases c45 : t160.toList = ([97] : List UInt8)
              · rw [if_pos c45] at H
                have c45b0 : (t160.toList == ([97] : List UInt8)) = true := beq_iff_eq.mpr c45
                have c45b1 : (t160.toList != ([97] : List UInt8)) = false := bne_eq_false_iff_eq.mpr c45
                clear c45
                (first | rw [c45b0] | (simp only [i64_w, i32_w]; rw [c45b0]) | skip)
                by_cases c46 : t161 = 3
                · rw [if_pos c46] at H
                  have c46b0 : (t161 == 3) = true := beq_iff_eq.mpr c46
                  have c46b1 : (t161 != 3) = false := bne_eq_false_iff_eq.mpr c46
                  clear c46
                  by_cases c47 : t163 = (-1)
                  · rw [if_pos c47] at H
                    have c47b0 : (t163 == (-1)) = true := beq_iff_eq.mpr c47
                    have c47b1 : (t163 != (-1)) = false := bne_eq_false_iff_eq.mpr c47
                    clear c47
                    by_cases c48 : t164 = 8
                    · rw [if_pos c48] at H
                      have c48b0 : (t164 == 8) = true := beq_iff_eq.mpr c48
                      have c48b1 : (t164 != 8) = false := bne_eq_false_iff_eq.mpr c48
                      clear c48
                      by_cases c49 : t166 = 258
                      · rw [if_pos c49] at H
                        have c49b0 : (t166 == 258) = true := beq_iff_eq.mpr c49
                        have c49b1 : (t166 != 258) = false := bne_eq_false_iff_eq.mpr c49
                        clear c49
                        replace H := Option.bind_eq_some_iff.mp H
                        obtain ⟨t169, A500, H⟩ := H
                        replace H : (if t169.toList = ([0, 0, 1, 2] : List UInt8) then ((enc_PutText.f (⟨#[97, 0]⟩ : ByteArray)).bind fun t170 => (understorylaw01_sane.j2 kj36 t156 x19_36 (t170.toList == ([97, 0, 255, 0, 1] : List UInt8)))) else (understorylaw01_sane.j2 kj36 t156 x19_36 false)) = some r := H
                        have A50 := Aside0.mk A500
                        clear A500
                        by_cases c51 : t169.toList = ([0, 0, 1, 2] : List UInt8)
                        · rw [if_pos c51] at H
                          have c51b0 : (t169.toList == ([0, 0, 1, 2] : List UInt8)) = true := beq_iff_eq.mpr c51
                          have c51b1 : (t169.toList != ([0, 0, 1, 2] : List UInt8)) = false := bne_eq_false_iff_eq.mpr c51
                          clear c51
                          replace H := Option.bind_eq_some_iff.mp H
                          obtain ⟨t170, A520, H⟩ := H
                          replace H : (understorylaw01_sane.j2 kj36 t156 x19_36 (t170.toList == ([97, 0, 255, 0, 1] : List UInt8))) = some r := H
                          have A52 := Aside0.mk A520
                          clear A520
                          have H' := Aside0.mk H
                          clear H
                          go_wp2_with (first | (go_at_call 56; (with_reducible refine (enc_Put32.calls kj36 258 t169 _ A50.out).mono ?_); rintro e w53 ⟨rfl, hb⟩; have n0_ := Aside0.mk (Kd.R_below (by (with_reducible repeat (first | apply Kd.R_alloc | apply Kd.R_drewN | apply Kd.R_drew)); exact HO_9.out) hb); have n1_ := Aside0.mk (below_step (by repeat (first | (with_reducible first | exact HB.out | apply below_alloc | apply pw_below_drewN | apply below_drew1) | exact HB.out)) hb); clear HO_9; clear HB; have HO_9 := n0_; have HB := n1_; clear n0_ n1_; (try clear hb); (try clear hb2); (try clear hk); (try clear hi)) | (go_at_call 29; (with_reducible refine (enc_PutText.calls (⟨#[97, 0]⟩ : ByteArray) t170 _ A52.out).mono ?_); rintro e w54 ⟨rfl, hb⟩; have n0_ := Aside0.mk (Kd.R_below (by (with_reducible repeat (first | apply Kd.R_alloc | apply Kd.R_drewN | apply Kd.R_drew)); exact HO_9.out) hb); have n1_ := Aside0.mk (below_step (by repeat (first | (with_reducible first | exact HB.out | apply below_alloc | apply pw_below_drewN | apply below_drew1) | exact HB.out)) hb); clear HO_9; clear HB; have HO_9 := n0_; have HB := n1_; clear n0_ n1_; (try clear hb); (try clear hb2); (try clear hk); (try clear hi)))
                          go_meet
                          case rel => exact ⟨_, ((t170.toList == ([97, 0, 255, 0, 1] : List UInt8))), (by first | rfl | (simp; done) | (simp [*]; done)), H', ⟨by have := HJ8.out; have := HJ36.out; first | omega | exact Nat.le_refl _⟩, ⟨by (with_reducible repeat (first | apply Kd.R_alloc | apply Kd.R_drewN | apply Kd.R_drew)); exact HO_9.out⟩, ⟨by repeat (first | (with_reducible first | exact HB.out | apply below_alloc | apply pw_below_drewN | apply below_drew1) | exact HB.out)⟩⟩
                        · rw [if_neg c51] at H
                          have c51b0 : (t169.toList == ([0, 0, 1, 2] : List UInt8)) = false := beq_eq_false_iff_ne.mpr c51
                          have c51b1 : (t169.toList != ([0, 0, 1, 2] : List UInt8)) = true := bne_iff_ne.mpr c51
                          have H' := Aside0.mk H
                          clear H
                          go_wp2_with (first | (go_at_call 56; (with_reducible refine (enc_Put32.calls kj36 258 t169 _ A50.out).mono ?_); rintro e w55 ⟨rfl, hb⟩; have n0_ := Aside0.mk (Kd.R_below (by (with_reducible repeat (first | apply Kd.R_alloc | apply Kd.R_drewN | apply Kd.R_drew)); exact HO_9.out) hb); have n1_ := Aside0.mk (below_step (by repeat (first | (with_reducible first | exact HB.out | apply below_alloc | apply pw_below_drewN | apply below_drew1) | exact HB.out)) hb); clear HO_9; clear HB; have HO_9 := n0_; have HB := n1_; clear n0_ n1_; (try clear hb); (try clear hb2); (try clear hk); (try clear hi)))
                          go_meet
                          case rel => exact ⟨_, (false), (by first | rfl | (simp; done) | (simp [*]; done)), H', ⟨by have := HJ8.out; have := HJ36.out; first | omega | exact Nat.le_refl _⟩, ⟨by (with_reducible repeat (first | apply Kd.R_alloc | apply Kd.R_drewN | apply Kd.R_drew)); exact HO_9.out⟩, ⟨by repeat (first | (with_reducible first | exact HB.out | apply below_alloc | apply pw_below_drewN | apply below_drew1) | exact HB.out)⟩⟩
                      · rw [if_neg c49] at H
                        have c49b0 : (t166 == 258) = false := beq_eq_false_iff_ne.mpr c49
                        have c49b1 : (t166 != 258) = true := bne_iff_ne.mpr c49
                        have H' := Aside0.mk H
                        clear H
                        go_wp2
                        go_meet
                        case rel => exact ⟨_, (false), (by first | rfl | (simp; done) | (simp [*]; done)), H', ⟨by have := HJ8.out; have := HJ36.out; first | omega | exact Nat.le_refl _⟩, ⟨by (with_reducible repeat (first | apply Kd.R_alloc | apply Kd.R_drewN | apply Kd.R_drew)); exact HO_9.out⟩, ⟨by repeat (first | (with_reducible first | exact HB.out | apply below_alloc | apply pw_below_drewN | apply below_drew1) | exact HB.out)⟩⟩
                    · rw [if_neg c48] at H
                      have c48b0 : (t164 == 8) = false := beq_eq_false_iff_ne.mpr c48
                      have c48b1 : (t164 != 8) = true := bne_iff_ne.mpr c48
                      have H' := Aside0.mk H
                      clear H
                      go_wp2
                      go_meet
                      case rel => exact ⟨_, (false), (by first | rfl | (simp; done) | (simp [*]; done)), H', ⟨by have := HJ8.out; have := HJ36.out; first | omega | exact Nat.le_refl _⟩, ⟨by (with_reducible repeat (first | apply Kd.R_alloc | apply Kd.R_drewN | apply Kd.R_drew)); exact HO_9.out⟩, ⟨by repeat (first | (with_reducible first | exact HB.out | apply below_alloc | apply pw_below_drewN | apply below_drew1) | exact HB.out)⟩⟩
                  · rw [if_neg c47] at H
                    have c47b0 : (t163 == (-1)) = false := beq_eq_false_iff_ne.mpr c47
                    have c47b1 : (t163 != (-1)) = true := bne_iff_ne.mpr c47
                    have H' := Aside0.mk H
                    clear H
                    go_wp2
                    go_meet
                    case rel => exact ⟨_, (false), (by first | rfl | (simp; done) | (simp [*]; done)), H', ⟨by have := HJ8.out; have := HJ36.out; first | omega | exact Nat.le_refl _⟩, ⟨by (with_reducible repeat (first | apply Kd.R_alloc | apply Kd.R_drewN | apply Kd.R_drew)); exact HO_9.out⟩, ⟨by repeat (first | (with_reducible first | exact HB.out | apply below_alloc | apply pw_below_drewN | apply below_drew1) | exact HB.out)⟩⟩
                · rw [if_neg c46] at H
                  have c46b0 : (t161 == 3) = false := beq_eq_false_iff_ne.mpr c46
                  have c46b1 : (t161 != 3) = true := bne_iff_ne.mpr c46
                  have H' := Aside0.mk H
                  clear H
                  go_wp2
                  go_meet
                  case rel => exact ⟨_, (false), (by first | rfl | (simp; done) | (simp [*]; done)), H', ⟨by have := HJ8.out; have := HJ36.out; first | omega | exact Nat.le_refl _⟩, ⟨by (with_reducible repeat (first | apply Kd.R_alloc | apply Kd.R_drewN | apply Kd.R_drew)); exact HO_9.out⟩, ⟨by repeat (first | (with_reducible first | exact HB.out | apply below_alloc | apply pw_below_drewN | apply below_drew1) | exact HB.out)⟩⟩
              · rw [if_neg c45] at H
                have c45b0 : (t160.toList == ([97] : List UInt8)) = false := beq_eq_false_iff_ne.mpr c45
                have c45b1 : (t160.toList != ([97] : List UInt8)) = true := bne_iff_ne.mpr c45
                (first | rw [c45b0] | (simp only [i64_w, i32_w]; rw [c45b0]) | skip)
                have H' := Aside0.mk H
                clear H
                go_wp2
                go_meet
                case rel => exact ⟨_, (false), (by first | rfl | (simp; done) | (simp [*]; done)), H', ⟨by have := HJ8.out; have := HJ36.out; first | omega | exact Nat.le_refl _⟩, ⟨by (with_reducible repeat (first | apply Kd.R_alloc | apply Kd.R_drewN | apply Kd.R_drew)); exact HO_9.out⟩, ⟨by repeat (first | (with_reducible first | exact HB.out | apply below_alloc | apply pw_below_drewN | apply below_drew1) | exact HB.out)⟩⟩
            case rest =>
              clear HC44
              try clear c1
              try clear p1
              try clear q1
              try clear hx1
              try clear qi1
              try clear c2
              try clear p2
              try clear c3
              try clear c4
              try clear c5
              try clear c16
              try clear p16
              try clear q16
              try clear hx16
              try clear qi16
              try clear c17
              try clear c19
              try clear c27
              try clear c28
              try clear c28b0
              try clear c28b1
              try clear c29
              try clear c29b0
              try clear c29b1
              try clear c30
              try clear c30b0
              try clear c30b1
              try clear c31
              try clear c31b0
              try clear c31b1
              try clear c32
              try clear c32b0
              try clear c32b1
              try clear c33
              try clear c33b0
              try clear c33b1
              try clear c34
              try clear c34b0
              try clear c34b1
              try clear c36
              try clear c38
              try clear c38b0
              try clear c38b1
              try clear c39
              try clear c39b0
              try clear c39b1
              try clear c40
              try clear c40b0
              try clear c40b1
              try clear c41
              try clear c41b0
              try clear c41b1
              try clear c42
              try clear c42b0
              try clear c42b1
              try clear c44
              try clear c45
              try clear c45b0
              try clear c45b1
              try clear c46
              try clear c46b0
              try clear c46b1
              try clear c47
              try clear c47b0
              try clear c47b1
              try clear c48
              try clear c48b0
              try clear c48b1
              try clear c49
              try clear c49b0
              try clear c49b1
              try clear c51
              try clear c51b0
              try clear c51b1
              try clear c53
              try clear hx168_0
              try clear hx168_1
              try clear hx168_2
              try clear p1
              try clear p16
              try clear p168
              try clear p2
              try clear q1
              try clear q16
              try clear q168
              obtain ⟨kq, x20_43, rfl, HA, HJ43, HO_9, HB⟩ := hcut
              cases kq with
              | zero => exact absurd HA.out (by simp [understorylaw01_sane.j2])
              | succ kj43 =>
                have H := HA.out
                clear HA
                simp only [understorylaw01_sane.j2] at H
                by_cases c56 : x19_36 = true
                · subst c56
                  have H1 : (if x20_43 = true then ((enc_Compare.f (⟨#[98]⟩ : ByteArray) (⟨#[97, 98]⟩ : ByteArray)).bind fun t171 => (if t171 = 1 then ((enc_Prefix.f kj43 (⟨#[97, 98, 99]⟩ : ByteArray) (⟨#[97, 98, 100]⟩ : ByteArray)).bind fun t172 => (if t172 = 2 then ((enc_Flip.f (⟨#[1]⟩ : ByteArray)).bind fun t173 => (if t173.toList = ([254] : List UInt8) then (if 1 ≤ (t156.length : Int) then ((enc_CompareKeys.f t156 (t156.take 1) ([] : List Bool)).bind fun t178 => (some (t178 == 1))) else (none)) else (some false))) else (some false))) else (some false))) else (some false)) = some r := by rw [if_pos rfl] at H; exact H
                  clear H
                  have H := H1
                  clear H1
                  by_cases c57 : x20_43 = true
                  · subst c57
                    have H1 : ((enc_Compare.f (⟨#[98]⟩ : ByteArray) (⟨#[97, 98]⟩ : ByteArray)).bind fun t171 => (if t171 = 1 then ((enc_Prefix.f kj43 (⟨#[97, 98, 99]⟩ : ByteArray) (⟨#[97, 98, 100]⟩ : ByteArray)).bind fun t172 => (if t172 = 2 then ((enc_Flip.f (⟨#[1]⟩ : ByteArray)).bind fun t173 => (if t173.toList = ([254] : List UInt8) then (if 1 ≤ (t156.length : Int) then ((enc_CompareKeys.f t156 (t156.take 1) ([] : List Bool)).bind fun t178 => (some (t178 == 1))) else (none)) else (some false))) else (some false))) else (some false))) = some r := by rw [if_pos rfl] at H; exact H
                    clear H
                    have H := H1
                    clear H1
                    replace H := Option.bind_eq_some_iff.mp H
                    obtain ⟨t171, A580, H⟩ := H
                    replace H : (if t171 = 1 then ((enc_Prefix.f kj43 (⟨#[97, 98, 99]⟩ : ByteArray) (⟨#[97, 98, 100]⟩ : ByteArray)).bind fun t172 => (if t172 = 2 then ((enc_Flip.f (⟨#[1]⟩ : ByteArray)).bind fun t173 => (if t173.toList = ([254] : List UInt8) then (if 1 ≤ (t156.length : Int) then ((enc_CompareKeys.f t156 (t156.take 1) ([] : List Bool)).bind fun t178 => (some (t178 == 1))) else (none)) else (some false))) else (some false))) else (some false)) = some r := H
                    have A58 := Aside0.mk A580
                    clear A580
                    by_cases c59 : t171 = 1
                    · rw [if_pos c59] at H
                      have c59b0 : (t171 == 1) = true := beq_iff_eq.mpr c59
                      have c59b1 : (t171 != 1) = false := bne_eq_false_iff_eq.mpr c59
                      clear c59
                      replace H := Option.bind_eq_some_iff.mp H
                      obtain ⟨t172, A600, H⟩ := H
                      replace H : (if t172 = 2 then ((enc_Flip.f (⟨#[1]⟩ : ByteArray)).bind fun t173 => (if t173.toList = ([254] : List UInt8) then (if 1 ≤ (t156.length : Int) then ((enc_CompareKeys.f t156 (t156.take 1) ([] : List Bool)).bind fun t178 => (some (t178 == 1))) else (none)) else (some false))) else (some false)) = some r := H
                      have A60 := Aside0.mk A600
                      clear A600
                      by_cases c61 : t172 = 2
                      · rw [if_pos c61] at H
                        have c61b0 : (t172 == 2) = true := beq_iff_eq.mpr c61
                        have c61b1 : (t172 != 2) = false := bne_eq_false_iff_eq.mpr c61
                        clear c61
                        replace H := Option.bind_eq_some_iff.mp H
                        obtain ⟨t173, A620, H⟩ := H
                        replace H : (if t173.toList = ([254] : List UInt8) then (if 1 ≤ (t156.length : Int) then ((enc_CompareKeys.f t156 (t156.take 1) ([] : List Bool)).bind fun t178 => (some (t178 == 1))) else (none)) else (some false)) = some r := H
                        have A62 := Aside0.mk A620
                        clear A620
                        by_cases c63 : t173.toList = ([254] : List UInt8)
                        · rw [if_pos c63] at H
                          have c63b0 : (t173.toList == ([254] : List UInt8)) = true := beq_iff_eq.mpr c63
                          have c63b1 : (t173.toList != ([254] : List UInt8)) = false := bne_eq_false_iff_eq.mpr c63
                          clear c63
                          by_cases c64 : 1 ≤ (t156.length : Int)
                          · rw [if_pos c64] at H
                            have c64b0 := eq_true c64
                            have c64b1 : decide (1 ≤ (t156.length : Int)) = true := decide_eq_true c64
                            clear c64
                            obtain ⟨y174, hy174⟩ : ∃ y_ : List (S49), y_ = (t156.take 1) := ⟨_, rfl⟩
                            replace H : ((enc_CompareKeys.f t156 y174 ([] : List Bool)).bind fun t178 => (some (t178 == 1))) = some r := by first | (rw [hy174]; with_reducible exact H) | (have H2_ := (Option.bind_some _ _).symm.trans H; rw [hy174]; with_reducible exact H2_) | (have H2_ := (Option.bind_some _ _).symm.trans H; with_reducible exact H2_) | with_reducible exact H | (rw [hy174]; exact H) | exact H
                            have Ny174 := Aside0.mk hy174
                            clear hy174
                            replace H := Option.bind_eq_some_iff.mp H
                            obtain ⟨t178, A650, H⟩ := H
                            replace H : (some (t178 == 1)) = some r := H
                            have A65 := Aside0.mk A650
                            clear A650
                            obtain rfl := Option.some.inj H
                            go_wp2_with (first | (go_at_call 21; (with_reducible refine (enc_Compare.calls (⟨#[98]⟩ : ByteArray) (⟨#[97, 98]⟩ : ByteArray) t171 _ A58.out).mono ?_); rintro e w' ⟨rfl, ⟨nd, rfl⟩⟩) | (go_at_call 23; (with_reducible refine (enc_Prefix.calls kj43 (⟨#[97, 98, 99]⟩ : ByteArray) (⟨#[97, 98, 100]⟩ : ByteArray) t172 _ A60.out).mono ?_); rintro e w66 ⟨rfl, hb⟩; have n0_ := Aside0.mk (Kd.R_below (by (with_reducible repeat (first | apply Kd.R_alloc | apply Kd.R_drewN | apply Kd.R_drew)); exact HO_9.out) hb); have n1_ := Aside0.mk (below_step (by repeat (first | (with_reducible first | exact HB.out | apply below_alloc | apply pw_below_drewN | apply below_drew1) | exact HB.out)) hb); clear HO_9; clear HB; have HO_9 := n0_; have HB := n1_; clear n0_ n1_; (try clear hb); (try clear hb2); (try clear hk); (try clear hi)) | (go_at_call 25; (with_reducible refine (enc_Flip.calls (⟨#[1]⟩ : ByteArray) t173 _ A62.out).mono ?_); rintro e w67 ⟨rfl, hb⟩; have n0_ := Aside0.mk (Kd.R_below (by (with_reducible repeat (first | apply Kd.R_alloc | apply Kd.R_drewN | apply Kd.R_drew)); exact HO_9.out) hb); have n1_ := Aside0.mk (below_step (by repeat (first | (with_reducible first | exact HB.out | apply below_alloc | apply pw_below_drewN | apply below_drew1) | exact HB.out)) hb); clear HO_9; clear HB; have HO_9 := n0_; have HB := n1_; clear n0_ n1_; (try clear hb); (try clear hb2); (try clear hk); (try clear hi); obtain ⟨Ao69, co69, eo69⟩ := Kd.R_slice HO_9.out; subst eo69; have q68 : (1 : Int) ≤ ((t156.length : Int) : Int) := of_decide_eq_true (by first | (with_reducible assumption) | assumption); obtain ⟨i068, hi068, _, hsz68, _⟩ := info_parts info49; have hroom68 : t156.length ≤ co69 := (Kd.R_reads' HO_9.out).2.1; have hC68 : Kd.C k49 _ Ao69 t156.length t156 := (Kd.R_reads' HO_9.out).2.2; have hcut68 := cut_to (P := Try.prog) 44 49 .i64 Try.underlying44 hi068 Ao69 t156.length co69 1 (by omega) q68 hroom68; have hr68 := Kd.C_take (m := 1) hC68 (by omega); have hy68 : y174.length = (1 : Int).toNat := (by rw [Ny174.out, List.length_take]; omega); rw [← Ny174.out] at hr68; rw [← hy68] at hcut68; have HR177 := Aside0.mk hr68; have HC177 := Aside0.mk (show y174.length ≤ co69 from by omega); clear hr68 hC68 hroom68 hi068 hsz68; have KY68 := Aside0.mk hy68; clear hy68; have KL68 := Aside0.mk (show 1 ≤ t156.length from by omega); replace q68 := eq_true q68) | (go_at_call 37; (refine (enc_CompareKeys.calls _ _ t156 _ _ y174 _ _ ([] : List Bool) t178 _ ?side1 ?side2 ?side3 ?side4 ?side5 ?side6 A65.out).mono ?_); (case side1 => repeat (first | exact (Kd.R_reads' HO_9.out).2.2 | (with_reducible refine Kd.C_alloc ?_ _) | (with_reducible refine Kd.C_drewN ?_ _) | (with_reducible refine Kd.C_drew ?_))); (case side2 => exact (Kd.R_reads' HO_9.out).2.1); (case side3 => repeat (first | exact (by repeat (first | (with_reducible exact HR177.out) | (with_reducible refine Kd.C_alloc ?_ _) | (with_reducible refine Kd.C_drewN ?_ _) | (with_reducible refine Kd.C_drew ?_) | exact HR177.out)) | (with_reducible refine Kd.C_alloc ?_ _) | (with_reducible refine Kd.C_drewN ?_ _) | (with_reducible refine Kd.C_drew ?_))); (case side4 => exact HC177.out); (case side5 => exact Kd.C_nil _ _); (case side6 => exact Nat.le_refl _); rintro e w70 ⟨rfl, hb⟩; have n0_ := Aside0.mk (Kd.R_below (by (with_reducible repeat (first | apply Kd.R_alloc | apply Kd.R_drewN | apply Kd.R_drew)); exact HO_9.out) hb); have n1_ := Aside0.mk (Kd.C_below (by repeat (first | (with_reducible exact HR177.out) | (with_reducible refine Kd.C_alloc ?_ _) | (with_reducible refine Kd.C_drewN ?_ _) | (with_reducible refine Kd.C_drew ?_) | exact HR177.out)) hb); have n2_ := Aside0.mk (below_step (by repeat (first | (with_reducible first | exact HB.out | apply below_alloc | apply pw_below_drewN | apply below_drew1) | exact HB.out)) hb); clear HO_9; clear HR177; clear HB; have HO_9 := n0_; have HR177 := n1_; have HB := n2_; clear n0_ n1_ n2_; (try clear hb); (try clear hb2); (try clear hk); (try clear hi)))
                            go_ret
                            exact ⟨by first | rfl | (simp [errW_none, errW_some] <;> rfl) | (simp [*, errW_none, errW_some] <;> rfl), by repeat (first | (with_reducible first | exact HB.out | apply below_alloc | apply pw_below_drewN | apply below_drew1) | exact HB.out)⟩
                          · rw [if_neg c64] at H
                            exact absurd H (by simp)
                        · rw [if_neg c63] at H
                          have c63b0 : (t173.toList == ([254] : List UInt8)) = false := beq_eq_false_iff_ne.mpr c63
                          have c63b1 : (t173.toList != ([254] : List UInt8)) = true := bne_iff_ne.mpr c63
                          obtain rfl := Option.some.inj H
                          go_wp2_with (first | (go_at_call 21; (with_reducible refine (enc_Compare.calls (⟨#[98]⟩ : ByteArray) (⟨#[97, 98]⟩ : ByteArray) t171 _ A58.out).mono ?_); rintro e w' ⟨rfl, ⟨nd, rfl⟩⟩) | (go_at_call 23; (with_reducible refine (enc_Prefix.calls kj43 (⟨#[97, 98, 99]⟩ : ByteArray) (⟨#[97, 98, 100]⟩ : ByteArray) t172 _ A60.out).mono ?_); rintro e w71 ⟨rfl, hb⟩; have n0_ := Aside0.mk (Kd.R_below (by (with_reducible repeat (first | apply Kd.R_alloc | apply Kd.R_drewN | apply Kd.R_drew)); exact HO_9.out) hb); have n1_ := Aside0.mk (below_step (by repeat (first | (with_reducible first | exact HB.out | apply below_alloc | apply pw_below_drewN | apply below_drew1) | exact HB.out)) hb); clear HO_9; clear HB; have HO_9 := n0_; have HB := n1_; clear n0_ n1_; (try clear hb); (try clear hb2); (try clear hk); (try clear hi)) | (go_at_call 25; (with_reducible refine (enc_Flip.calls (⟨#[1]⟩ : ByteArray) t173 _ A62.out).mono ?_); rintro e w72 ⟨rfl, hb⟩; have n0_ := Aside0.mk (Kd.R_below (by (with_reducible repeat (first | apply Kd.R_alloc | apply Kd.R_drewN | apply Kd.R_drew)); exact HO_9.out) hb); have n1_ := Aside0.mk (below_step (by repeat (first | (with_reducible first | exact HB.out | apply below_alloc | apply pw_below_drewN | apply below_drew1) | exact HB.out)) hb); clear HO_9; clear HB; have HO_9 := n0_; have HB := n1_; clear n0_ n1_; (try clear hb); (try clear hb2); (try clear hk); (try clear hi)))
                          go_ret
                          exact ⟨by first | rfl | (simp [errW_none, errW_some] <;> rfl) | (simp [*, errW_none, errW_some] <;> rfl), by repeat (first | (with_reducible first | exact HB.out | apply below_alloc | apply pw_below_drewN | apply below_drew1) | exact HB.out)⟩
                      · rw [if_neg c61] at H
                        have c61b0 : (t172 == 2) = false := beq_eq_false_iff_ne.mpr c61
                        have c61b1 : (t172 != 2) = true := bne_iff_ne.mpr c61
                        obtain rfl := Option.some.inj H
                        go_wp2_with (first | (go_at_call 21; (with_reducible refine (enc_Compare.calls (⟨#[98]⟩ : ByteArray) (⟨#[97, 98]⟩ : ByteArray) t171 _ A58.out).mono ?_); rintro e w' ⟨rfl, ⟨nd, rfl⟩⟩) | (go_at_call 23; (with_reducible refine (enc_Prefix.calls kj43 (⟨#[97, 98, 99]⟩ : ByteArray) (⟨#[97, 98, 100]⟩ : ByteArray) t172 _ A60.out).mono ?_); rintro e w73 ⟨rfl, hb⟩; have n0_ := Aside0.mk (Kd.R_below (by (with_reducible repeat (first | apply Kd.R_alloc | apply Kd.R_drewN | apply Kd.R_drew)); exact HO_9.out) hb); have n1_ := Aside0.mk (below_step (by repeat (first | (with_reducible first | exact HB.out | apply below_alloc | apply pw_below_drewN | apply below_drew1) | exact HB.out)) hb); clear HO_9; clear HB; have HO_9 := n0_; have HB := n1_; clear n0_ n1_; (try clear hb); (try clear hb2); (try clear hk); (try clear hi)))
                        go_ret
                        exact ⟨by first | rfl | (simp [errW_none, errW_some] <;> rfl) | (simp [*, errW_none, errW_some] <;> rfl), by repeat (first | (with_reducible first | exact HB.out | apply below_alloc | apply pw_below_drewN | apply below_drew1) | exact HB.out)⟩
                    · rw [if_neg c59] at H
                      have c59b0 : (t171 == 1) = false := beq_eq_false_iff_ne.mpr c59
                      have c59b1 : (t171 != 1) = true := bne_iff_ne.mpr c59
                      obtain rfl := Option.some.inj H
                      go_wp2_with (first | (go_at_call 21; (with_reducible refine (enc_Compare.calls (⟨#[98]⟩ : ByteArray) (⟨#[97, 98]⟩ : ByteArray) t171 _ A58.out).mono ?_); rintro e w' ⟨rfl, ⟨nd, rfl⟩⟩))
                      go_ret
                      exact ⟨by first | rfl | (simp [errW_none, errW_some] <;> rfl) | (simp [*, errW_none, errW_some] <;> rfl), by repeat (first | (with_reducible first | exact HB.out | apply below_alloc | apply pw_below_drewN | apply below_drew1) | exact HB.out)⟩
                  · replace c57 := Bool.eq_false_iff.mpr c57
                    subst c57
                    have H1 : (some false) = some r := by rw [if_neg (show ¬ (false = true) by decide)] at H; exact H
                    clear H
                    have H := H1
                    clear H1
                    obtain rfl := Option.some.inj H
                    go_wp2
                    go_ret
                    exact ⟨by first | rfl | (simp [errW_none, errW_some] <;> rfl) | (simp [*, errW_none, errW_some] <;> rfl), by repeat (first | (with_reducible first | exact HB.out | apply below_alloc | apply pw_below_drewN | apply below_drew1) | exact HB.out)⟩
                · replace c56 := Bool.eq_false_iff.mpr c56
                  subst c56
                  have H1 : (some false) = some r := by rw [if_neg (show ¬ (false = true) by decide)] at H; exact H
                  clear H
                  have H := H1
                  clear H1
                  obtain rfl := Option.some.inj H
                  go_wp2
                  go_ret
                  exact ⟨by first | rfl | (simp [errW_none, errW_some] <;> rfl) | (simp [*, errW_none, errW_some] <;> rfl), by repeat (first | (with_reducible first | exact HB.out | apply below_alloc | apply pw_below_drewN | apply below_drew1) | exact HB.out)⟩

end Go.Proofs.Ythpabgiicglbmaa.E
