import Derived.Test.YthpabgiicglbmaaPe
import Derived.Test.YthpabgiicglbmaaEw8
namespace Go.Proofs.Ythpabgiicglbmaa.Pure
set_option linter.unusedVariables false
set_option linter.unusedSimpArgs false
open Go.RowKit Go.Proofs.Ythpabgiicglbmaa.E Go.Proofs.YthpabgiicglbmaaW.PrintWords Go.Proofs.YthpabgiicglbmaaW.PrintLast

def validS (x : S49) : Bool := validB x.f0 x.f1 x.f2
theorem toList_nil (s : ByteArray) : (s.toList == ([] : List UInt8)) = (s.size == 0) := by
  obtain ⟨l, rfl⟩ : ∃ l, s = ofL l := ⟨toL s, (ofL_toL s).symm⟩
  rw [toList_ofL, size_ofL]
  cases l <;> rfl
theorem refValid (x : S49) : understoryref01_Valid.f x.f0 x.f1 x.f2 = some (validS x) := by
  simp only [understoryref01_Valid.f, validS, validB, toList_nil]
  by_cases h0 : x.f0 = 0
  · by_cases h1 : x.f1 = 0 <;> simp [h0, h1]
  · by_cases h2 : x.f0 = 1
    · by_cases h1 : x.f1 = 0
      · simp [h2, h1]
      · by_cases h3 : x.f1 = 1 <;> simp [h2, h1, h3]
    · by_cases h3 : x.f0 = 2
      · simp [h3]
      · by_cases h4 : x.f0 = 3 <;> simp [h0, h2, h3, h4]
theorem refDown (ds : List Bool) (i : Nat) : understoryref01_down.f ds i = some (desc ds i) := by
  rw [understoryref01_down.f]
  split
  · rw [if_pos (by omega)]; simp [rdOf, desc]
  · rename_i h
    rw [desc, List.getD_eq_getElem?_getD, List.getElem?_eq_none (by omega)]; rfl
theorem rd_mem (l : List S49) (i : Nat) (h : i < l.length) : rd_T49 l i ∈ l := by simp [rd_T49, h]
theorem few_loop (l : List S49) (hs : ∀ x ∈ l, x.f2.size ≤ 281474976710656) (hb : l.length ≤ 9223372036854775807) : ∀ (d k i n : Nat), l.length - i = d → i ≤ l.length → d < k → n ≤ 281474976713656 → (n ≤ 3000 → ∀ x ∈ l.take i, x.f2.size ≤ n) →
    ∃ b, understorylaw01_few.l0 k l (n : Int) (i : Int) = some b ∧ (b = true → l.length ≤ 60 ∧ ∀ x ∈ l, x.f2.size ≤ 3000) := by
  intro d
  induction d with
  | zero =>
    intro k i n hd hi hk hn hx
    obtain ⟨k, rfl⟩ : ∃ j, k = j + 1 := ⟨k - 1, by omega⟩
    have he : i = l.length := by omega
    rw [understorylaw01_few.l0, if_neg (by omega)]
    by_cases h60 : (l.length : Int) ≤ 60
    · rw [if_pos h60]
      refine ⟨_, rfl, fun h => ⟨by omega, fun x hxm => ?_⟩⟩
      have h3 : (n : Int) ≤ 3000 := of_decide_eq_true h
      have := hx (by omega) x (by rw [he, List.take_length]; exact hxm)
      omega
    · rw [if_neg h60]; exact ⟨_, rfl, fun h => by cases h⟩
  | succ d ih =>
    intro k i n hd hi hk hn hx
    obtain ⟨k, rfl⟩ : ∃ j, k = j + 1 := ⟨k - 1, by omega⟩
    have hlt : i < l.length := by omega
    rw [understorylaw01_few.l0, if_pos (by omega)]
    by_cases h3 : (n : Int) ≤ 3000
    · have hsz := hs _ (rd_mem l i hlt)
      rw [if_pos h3, if_pos (by omega), w64 _ (by omega) (by omega), w64 _ (by omega) (by omega), show ((i : Int) + 1) = ((i + 1 : Nat) : Int) by omega, show ((n : Int) + ((rd_T49 l i).f2.size : Int)) = ((n + (rd_T49 l i).f2.size : Nat) : Int) by omega]
      refine ih k (i + 1) _ (by omega) (by omega) (by omega) (by omega) (fun hn3 x hxm => ?_)
      rw [List.take_succ_eq_append_getElem hlt, List.mem_append] at hxm
      rcases hxm with hxm | hxm
      · have := hx (by omega) x hxm; omega
      · have : x = rd_T49 l i := by simpa [rd_T49, hlt] using hxm
        rw [this]; omega
    · rw [if_neg h3]
      by_cases h60 : (l.length : Int) ≤ 60
      · rw [if_pos h60]
        exact ⟨_, rfl, fun h => absurd (of_decide_eq_true h) h3⟩
      · rw [if_neg h60]; exact ⟨_, rfl, fun h => by cases h⟩
theorem few_spec (l : List S49) (hs : ∀ x ∈ l, x.f2.size ≤ 281474976710656) (hb : l.length ≤ 9223372036854775807) (k : Nat) (hk : l.length < k) : ∃ b, understorylaw01_few.f k l = some b ∧ (b = true → l.length ≤ 60 ∧ ∀ x ∈ l, x.f2.size ≤ 3000) :=
  few_loop l hs hb l.length k 0 0 rfl (by omega) hk (by omega) (fun _ x hx => by simp at hx)
/-- what is told of a slice of data that came in -/
def DataOk (l : List S49) : Prop := l.length ≤ 9223372036854775807 ∧ ∀ x ∈ l, (-9223372036854775808 ≤ x.f0 ∧ x.f0 ≤ 9223372036854775807) ∧ (Lit.int .i64 x.f1).wf = true ∧ x.f2.size ≤ 281474976710656
theorem wf_rangeD (n : Int) (h : (Lit.int .i64 n).wf = true) : -9223372036854775808 ≤ n ∧ n ≤ 9223372036854775807 := by
  have e1 : IntKind.i64.min = -9223372036854775808 := rfl
  have e2 : IntKind.i64.max = 9223372036854775807 := rfl
  simp [Lit.wf] at h
  omega
end Go.Proofs.Ythpabgiicglbmaa.Pure
