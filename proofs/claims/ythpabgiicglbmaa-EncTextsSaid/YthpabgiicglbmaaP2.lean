import Derived.Test.YthpabgiicglbmaaP0
import Derived.Test.YthpabgiicglbmaaEx8
namespace Go.Proofs.Ythpabgiicglbmaa.Pure
set_option linter.unusedVariables false
set_option linter.unusedSimpArgs false
open Go.RowKit Go.Proofs.Ythpabgiicglbmaa.E Go.Proofs.YthpabgiicglbmaaW.PrintWords Go.Proofs.YthpabgiicglbmaaW.PrintLast

def txtR (acc : Bytes) (i : Nat) (o : Option (Bytes × Nat)) : ByteArray × Int × Int := match o with | some x => (ofL (acc ++ x.1), ((i + x.2 : Nat) : Int), 0) | none => (⟨#[]⟩, 0, 2)
theorem snocNums (acc : Bytes) (b : UInt8) : numsOf acc ++ [(b.toNat : Int)] = numsOf (acc ++ [b]) := by simp [numsOf]
theorem byte_eq (b : UInt8) (n : Nat) (hn : n < 256) : ((b.toNat : Int) = (n : Int)) ↔ b = UInt8.ofNat n := by
  constructor
  · intro h
    have : b.toNat = n := by omega
    rw [← this]; simp
  · intro h
    rw [h, UInt8.toNat_ofNat', Nat.mod_eq_of_lt (by omega)]
theorem byte0 (b : UInt8) : ((b.toNat : Int) = 0) ↔ b = 0 := byte_eq b 0 (by decide)
theorem byte1 (b : UInt8) : ((b.toNat : Int) = 1) ↔ b = 1 := byte_eq b 1 (by decide)
theorem byte255 (b : UInt8) : ((b.toNat : Int) = 255) ↔ b = 255 := byte_eq b 255 (by decide)
theorem refGetText_loop (s : Bytes) (h : s.length ≤ 1000000) : ∀ n k i (acc : Bytes), s.length - i ≤ n → i ≤ s.length → acc.length ≤ i → 2 * n + 2 ≤ k → understoryref01_GetText.l0 k (ofL s) (numsOf acc) (i : Int) = some (txtR acc i (unescL (s.drop i))) := by
  intro n
  induction n using Nat.strongRecOn with
  | ind n ih =>
    intro k i acc hn hi ha hk
    obtain ⟨k, rfl⟩ : ∃ j, k = j + 2 := ⟨k - 2, by omega⟩
    unfold understoryref01_GetText.l0
    rw [size_ofL]
    by_cases hlt : i < s.length
    · have ew : wrap64 ((i : Int) + 1) = ((i + 1 : Nat) : Int) := by rw [w64 _ (by omega) (by omega)]; omega
      have eq : ((((i + 1 : Nat) : Int)) = (s.length : Int)) = (i + 1 = s.length) := propext ⟨by omega, by omega⟩
      have hdr := List.drop_eq_getElem_cons hlt
      rw [if_pos (by omega), if_pos (by omega), bt_ofL s i hlt, ew, hdr]
      obtain ⟨b, hb⟩ : ∃ b, s[i] = b := ⟨_, rfl⟩
      rw [hb] at hdr ⊢
      have hacc : (numsOf acc).length < 140737488355328 := by simp [numsOf]; omega
      by_cases hz : b = 0
      · rw [if_pos ((byte0 b).mpr hz)]
        by_cases he : i + 1 = s.length
        · rw [if_pos (by omega)]
          unfold understoryref01_GetText.j1
          rw [if_pos rfl, he, List.drop_length]
          rfl
        · have hlt2 : i + 1 < s.length := by omega
          have hd2 := List.drop_eq_getElem_cons hlt2
          rw [if_neg (by omega), if_pos (by omega), if_pos (by omega), bt_ofL s (i + 1) hlt2, hd2]
          obtain ⟨c, hc⟩ : ∃ c, s[i + 1] = c := ⟨_, rfl⟩
          rw [hc]
          have e2 : wrap64 ((i : Int) + 2) = ((i + 2 : Nat) : Int) := by rw [w64 _ (by omega) (by omega)]; omega
          have e3 : wrap64 (((i + 1 : Nat) : Int) + 1) = ((i + 2 : Nat) : Int) := by rw [w64 _ (by omega) (by omega)]; omega
          by_cases h1 : c = 1
          · have hc1 : ((c.toNat : Int) = 1) := (byte1 c).mpr h1
            rw [if_neg (by omega), show ((c.toNat : Int) != 1) = false by rw [hc1]; rfl]
            unfold understoryref01_GetText.j1
            rw [if_neg (by simp), ew, if_pos (by omega), if_pos (by rw [size_ofL]; omega), bt_ofL s (i + 1) hlt2, hc, if_pos hc1, e2, strOfNums_numsOf]
            simp [unescL, hz, h1, txtR]
          · have hn1 : ¬ ((c.toNat : Int) = 1) := fun e => h1 ((byte1 c).mp e)
            by_cases h255 : c = 255
            · have hc2 : ((c.toNat : Int) = 255) := (byte255 c).mpr h255
              rw [if_pos hc2]
              unfold understoryref01_GetText.j1
              rw [if_neg (by simp), ew, if_pos (by omega), if_pos (by rw [size_ofL]; omega), bt_ofL s (i + 1) hlt2, hc, if_neg hn1, if_pos hacc, e3]
              rw [show numsOf acc ++ [(0 : Int)] = numsOf (acc ++ [0]) from snocNums acc 0]
              rw [ih (n - 2) (by omega) k (i + 2) (acc ++ [0]) (by omega) (by omega) (by simp; omega) (by omega)]
              simp only [unescL, hz, h255]
              cases unescL (s.drop (i + 2)) with
              | none => rfl
              | some x => simp [txtR]; omega
            · have hn2 : ¬ ((c.toNat : Int) = 255) := fun e => h255 ((byte255 c).mp e)
              rw [if_neg hn2, show ((c.toNat : Int) != 1) = true by simpa using hn1]
              unfold understoryref01_GetText.j1
              rw [if_pos rfl]
              simp [unescL, hz, h1, h255, txtR]
      · rw [if_neg (fun e => hz ((byte0 b).mp e)), if_pos hacc, snocNums]
        rw [ih (n - 1) (by omega) (k + 1) (i + 1) (acc ++ [b]) (by omega) (by omega) (by simp; omega) (by omega)]
        cases hd : s.drop (i + 1) with
        | nil => rfl
        | cons c r =>
          rw [show unescL (b :: c :: r) = (unescL (c :: r)).map fun x => (b :: x.1, x.2 + 1) from by rw [unescL, if_neg hz]]
          cases unescL (c :: r) with
          | none => rfl
          | some x => simp [txtR]; omega
    · rw [if_neg (by omega), List.drop_of_length_le (by omega)]; rfl
theorem refGetText (s : Bytes) (h : s.length ≤ 1000000) (k : Nat) (hk : 2 * s.length + 2 ≤ k) : understoryref01_GetText.f k (ofL s) = some (txtR [] 0 (unescL s)) := by
  have := refGetText_loop s h s.length k 0 [] (by omega) (by omega) (by simp) hk
  simpa [understoryref01_GetText.f, numsOf] using this
theorem encGetText (s : Bytes) (h : s.length ≤ 1000000) : enc_GetText.f (ofL s) = some (txtR [] 0 (unescL s)) := by
  rw [enc_GetText.f, if_pos (by rw [size_ofL]; exact h), toL_ofL]
  cases unescL s with
  | none => rfl
  | some x => simp [txtR]
theorem refPutText_loop (s : Bytes) (h : s.length ≤ 1000000) : ∀ k i, i ≤ s.length → s.length - i < k → understoryref01_PutText.l0 k (ofL s) (numsOf (escB (s.take i))) (i : Int) = some (ofL (escL s)) := by
  intro k
  induction k with
  | zero => intro i _ hk; omega
  | succ k ih =>
    intro i hi hk
    unfold understoryref01_PutText.l0
    rw [size_ofL]
    have hlen := escB_len (s.take i)
    rw [List.length_take] at hlen
    have hl2 : (numsOf (escB (s.take i))).length ≤ 2 * i := by simp [numsOf]; omega
    by_cases hlt : i < s.length
    · have ew : wrap64 ((i : Int) + 1) = ((i + 1 : Nat) : Int) := by rw [w64 _ (by omega) (by omega)]; omega
      rw [if_pos (by omega), if_pos (by omega), if_pos (by omega), bt_ofL s i hlt, ew]
      simp only [Option.bind_some]
      have ih := ih (i + 1) (by omega) (by omega)
      rw [List.take_succ_eq_append_getElem hlt, escB_snoc] at ih
      by_cases hz : s[i] = 0
      · rw [if_pos hz] at ih
        rw [if_pos ((byte0 _).mpr hz), if_pos (by simp; omega), hz]
        rw [show (numsOf (escB (s.take i)) ++ [((0 : UInt8).toNat : Int)]) ++ [(255 : Int)] = numsOf (escB (s.take i) ++ [0, 255]) by simp [numsOf]]
        exact ih
      · rw [if_neg hz] at ih
        rw [if_neg (fun e => hz ((byte0 _).mp e)), snocNums]
        exact ih
    · rw [if_neg (by omega), show i = s.length by omega, List.take_length]
      have hl3 := escB_len s
      simp only [Option.bind_some]
      rw [if_pos (by simp [numsOf]; omega)]
      rw [show numsOf (escB s) ++ ([0, 1] : List Int) = numsOf (escL s) by rw [escL_escB]; simp [numsOf], strOfNums_numsOf]
theorem refPutText (s : Bytes) (h : s.length ≤ 1000000) (k : Nat) (hk : s.length < k) : understoryref01_PutText.f k (ofL s) = some (ofL (escL s)) := by
  have := refPutText_loop s h k 0 (by omega) (by omega)
  simpa [understoryref01_PutText.f, numsOf, escB] using this
theorem encPutText (s : Bytes) (h : s.length ≤ 1000000) : enc_PutText.f (ofL s) = some (ofL (escL s)) := by
  rw [enc_PutText.f, if_pos (by rw [size_ofL]; exact h), toL_ofL]
end Go.Proofs.Ythpabgiicglbmaa.Pure
