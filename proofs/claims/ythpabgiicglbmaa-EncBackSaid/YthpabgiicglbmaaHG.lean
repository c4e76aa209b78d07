import Derived.Test.YthpabgiicglbmaaHA
import Derived.Test.YthpabgiicglbmaaHP
import Derived.Lib.ConvBytes
import Derived.Laws.BytesArg
namespace Go.Proofs.Ythpabgiicglbmaa.E
open Go.RowKit Go.Proofs.YthpabgiicglbmaaW.PrintWords Go.Proofs.YthpabgiicglbmaaW.PrintLast Go.Proofs.YthpabgiicglbmaaW.PrintMore

def byteAt (l : Bytes) (j : Nat) : Int := ((l.getD j 0).toNat : Int)
theorem byteAt_range (l : Bytes) (j : Nat) : 0 ≤ byteAt l j ∧ byteAt l j ≤ 255 := by
  have := (l.getD j 0).toNat_lt
  unfold byteAt; omega
def FlipInv (l : Bytes) (B k : Nat) (wr : World) : Prop :=
  ∀ j, j < l.length → wr.cell? ⟨B, j, none⟩ = some (.int .u8 (if j < k then 255 - byteAt l j else byteAt l j)) ∧ wr.frozen? ⟨B, j, none⟩ = false

theorem flip_start (w : World) (l : Bytes) : FlipInv l w.heap.size 0 (Lib.bytesWorld w 5 (ofL l)) := by
  intro j hj
  constructor
  · rw [Lib.bytesWorld_cell w 5 (ofL l) j hj]
    simp [byteAt, ofL]
  · have h := Lib.bytesWorld_at_new w 5 (ofL l)
    have hsz : (ofL l).size ≤ (Lib.bytesCells w 5 (ofL l)).size := by simp [Lib.bytesCells]
    unfold World.frozen?
    simp only [h]
    rw [size_ofL] at hsz
    simp
    omega
theorem flip_step (l : Bytes) (B k : Nat) (wr : World) (h : FlipInv l B k wr) (hk : k < l.length) : FlipInv l B (k + 1) (wr.setCell ⟨B, k, none⟩ (.int .u8 (255 - byteAt l k))) := by
  intro j hj
  obtain ⟨h1, h2⟩ := h j hj
  refine ⟨?_, by rw [World.frozen?_setCell]; exact h2⟩
  by_cases e : j = k
  · subst e
    rw [if_pos (by omega)]
    exact World.cell?_setCell_same' _ _ _ (by rw [h1]; rfl)
  · rw [World.cell?_setCell_other _ _ _ _ (by intro e'; injection e' with _ e' _; exact e e'.symm), h1]
    by_cases hjk : j < k
    · rw [if_pos hjk, if_pos (by omega)]
    · rw [if_neg hjk, if_neg (by omega)]
theorem flip_nums (l : Bytes) (j : Nat) (hj : j < l.length) : (numsOf (flipL l)).getD j 0 = 255 - byteAt l j := by
  have hx : (l[j]).toNat ≤ 255 := by have := l[j].toNat_lt; omega
  have hb : byteAt l j = ((l[j]).toNat : Int) := by simp [byteAt, List.getD, hj]
  have e : (255 - l[j] : UInt8).toNat = 255 - (l[j]).toNat := by
    rw [UInt8.toNat_sub_of_le _ _ (UInt8.le_iff_toNat_le.mpr (by simpa using hx))]; rfl
  simp [numsOf, flipL, List.getD, hj]
  rw [e, hb]
  omega
theorem flip_any (l : Bytes) (w : World) (hs : l.length ≤ 1000000) : Calls Try.prog 25 #[.string (ofL l)] w fun e w' => e = .returned (.string (ofL (flipL l))) ∧ Below w.heap.size w w' := by
  have hconv := Lib.run_convert_string_bytes (P := Try.prog) w 9 82 5 (ofL l) Try.underlying9 Try.underlying82 Try.underlying5
  have HI := Aside0.mk (flip_start w l)
  have HB := Aside0.mk (show Below w.heap.size w (Lib.bytesWorld w 5 (ofL l)) from ⟨rfl, rfl, rfl, by rw [Lib.bytesWorld_size]; omega, fun k hk => Lib.bytesWorld_at_old w 5 (ofL l) k hk⟩)
  rw [size_ofL] at hconv
  generalize Lib.bytesWorld w 5 (ofL l) = w1 at hconv HI HB
  generalize grownCap w l.length 0 5 = cap at hconv
  go_enter Try.func25, Try.ntmps25
  go_wp2
  go_loopw [9] (fun i wr => ∃ k : Nat, k ≤ l.length ∧ i = .int .i64 k ∧ Aside0 (FlipInv l w.heap.size k wr) ∧ Aside0 (Below w.heap.size w wr)) (fun i _ => l.length - (intOf i).toNat)
  case atStart => exact ⟨0, Nat.zero_le _, rfl, HI, HB⟩
  case round =>
    clear hconv HI HB
    obtain ⟨k, hk, rfl, HI, HB⟩ := hrel
    by_cases hlt : k < l.length
    · obtain ⟨hc, hf⟩ := HI.out k hlt
      rw [if_neg (by omega)] at hc
      obtain ⟨c0, c1⟩ := byteAt_range l k
      have HS := Aside0.mk (flip_step l w.heap.size k wr HI.out hlt)
      have HB2 := Aside0.mk (HB.out.setCell (p := ⟨w.heap.size, k, none⟩) (Nat.le_refl _) (.int .u8 (255 - byteAt l k)))
      clear HI HB
      go_wp2
      go_roundw
      case rel => exact ⟨k + 1, by omega, by go_num, HS, HB2⟩
      case measure => simp [intOf]; omega
    · have e : k = l.length := by omega
      subst e
      have hcv := run_convert_bytes_arg (P := Try.prog) wr 82 5 Try.underlying82 Try.underlying5 w.heap.size 0 l.length cap (numsOf (flipL l)) (by simp [numsOf, flipL]) (fun i hi => by
        rw [flip_nums l i hi, Nat.zero_add, (HI.out i hi).1, if_pos hi]) 9 Try.underlying9
      rw [strOfNums_numsOf] at hcv
      go_wp2
      go_ret
      exact ⟨rfl, HB.out⟩
theorem enc_Flip.calls (a0 : ByteArray) (r : ByteArray) (w : World) (h : enc_Flip.f a0 = some r) :
    Calls Try.prog 25 #[.string a0] w fun e w' => e = .returned (.string r) ∧ Below w.heap.size w w' := by
  unfold enc_Flip.f at h
  split at h
  · rename_i hs
    obtain ⟨l, rfl⟩ : ∃ l, a0 = ofL l := ⟨toL a0, (ofL_toL a0).symm⟩
    obtain rfl := Option.some.inj h
    rw [toL_ofL]
    exact flip_any l w hs
  · cases h
end Go.Proofs.Ythpabgiicglbmaa.E
