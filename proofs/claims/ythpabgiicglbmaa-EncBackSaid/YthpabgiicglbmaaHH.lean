import Derived.Test.YthpabgiicglbmaaHD
import Derived.Test.YthpabgiicglbmaaHC
namespace Go.Proofs.Ythpabgiicglbmaa.E
open Go.RowKit Go.Proofs.YthpabgiicglbmaaW.PrintWords Go.Proofs.YthpabgiicglbmaaW.PrintLast Go.Proofs.YthpabgiicglbmaaW.PrintMore

theorem But.below_trans {g : Nat} {a b c : World} (h : But g a b) (k : Below a.heap.size b c) : But g a c :=
  ⟨k.os.trans h.os, k.tape.trans h.tape, k.output.trans h.output, Nat.le_trans h.size k.size, fun i hi hg => (k.block i hi).trans (h.block i hi hg)⟩
theorem Now.below_trans {g : Nat} {l : Bytes} {a b c : World} (h : Now g l a b) (hg : g < a.heap.size) (k : Below a.heap.size b c) : Now g l a c :=
  ⟨(k.cell (p := ⟨g, 0, none⟩) hg).trans h.cell, (k.frozen (p := ⟨g, 0, none⟩) hg).trans h.frozen, h.but.below_trans k⟩

def textGo (acc r : Bytes) : Option (Bytes × Bytes) := (unescL r).map fun x => (acc ++ x.1, r.drop x.2)
theorem textGo_nil (acc : Bytes) : textGo acc [] = none := rfl
theorem textGo_one (acc : Bytes) (b : UInt8) : textGo acc [b] = none := rfl
theorem textGo_end (acc r : Bytes) : textGo acc (0 :: 1 :: r) = some (acc, r) := by simp [textGo, unescL]
theorem textGo_zero (acc r : Bytes) : textGo acc (0 :: 255 :: r) = textGo (acc ++ [0]) r := by
  have e : ¬ ((255 : UInt8) = 1) := by decide
  simp only [textGo, unescL, if_true]
  rw [if_neg e]
  cases unescL r <;> simp
theorem textGo_bad (acc r : Bytes) (c : UInt8) (h1 : c ≠ 1) (h2 : c ≠ 255) : textGo acc (0 :: c :: r) = none := by simp [textGo, unescL, h1, h2]
theorem textGo_step (acc r : Bytes) (b : UInt8) (h : b ≠ 0) : textGo acc (b :: r) = textGo (acc ++ [b]) r := by
  cases r with
  | nil => rfl
  | cons c r =>
    simp only [textGo]
    rw [show unescL (b :: c :: r) = (unescL (c :: r)).map fun x => (b :: x.1, x.2 + 1) from by rw [unescL, if_neg h]]
    cases unescL (c :: r) <;> simp

def TextPost (tgt : Option (Bytes × Bytes)) (g : Nat) (w : World) (e : Ending) (w' : World) : Prop :=
  (∃ t rest, tgt = some (t, rest) ∧ e = .returned (.string (ofL t)) ∧ Now g rest w w') ∨ (tgt = none ∧ e = .panicked fail ∧ But g w w')

theorem u8_beq (b : UInt8) (n : Nat) (hn : n < 256) (h : b = UInt8.ofNat n) : ((b.toNat : Int) == (n : Int)) = true := by
  subst h; rw [beq_iff_eq, UInt8.toNat_ofNat', Nat.mod_eq_of_lt (by omega)]
theorem u8_bne (b : UInt8) (n : Nat) (h : b ≠ UInt8.ofNat n) : ((b.toNat : Int) == (n : Int)) = false := by
  rw [beq_eq_false_iff_ne]; intro e; apply h
  have : b.toNat = n := by omega
  rw [← this]; simp

theorem take1' (g : Nat) (b : UInt8) (r : Bytes) (w : World) (hc : w.cell? ⟨g, 0, none⟩ = some (.string (ofL (b :: r)))) (hf : w.frozen? ⟨g, 0, none⟩ = false) :
    Calls Try.prog 88 #[.pointer (some ⟨g, 0, none⟩), .int .i64 1] w fun e w' => e = .returned (.string (ofL [b])) ∧ Aside0 (w' = w.setCell ⟨g, 0, none⟩ (.string (ofL r))) :=
  (take1 g b r w hc hf).mono fun _ _ ⟨h, k⟩ => ⟨h, ⟨k⟩⟩
theorem nums_snoc (acc : Bytes) (b : UInt8) : numsOf acc ++ [(b.toNat : Int)] = numsOf (acc ++ [b]) := by simp [numsOf]
theorem text_next {g : Nat} {b : UInt8} {r : Bytes} {w wr W : World} {v : Value} {acc : Bytes} (HW : W = wr.setCell ⟨g, 0, none⟩ (.string (ofL r))) (HN : Now g (b :: r) w wr) (HO : Kd.R (Kd.int .u8) 5 wr w.heap.size (fun k => k ≠ g) v (numsOf acc)) :
    Now g r w W ∧ Kd.R (Kd.int .u8) 5 W w.heap.size (fun k => k ≠ g) v (numsOf acc) := by
  subst HW
  exact ⟨HN.trans (Now.set r HN.cell HN.frozen), Kd.R_far HO (fun _ h => h) _⟩

set_option maxRecDepth 100000 in
set_option maxHeartbeats 2000000 in
theorem text_any (g : Nat) (l : Bytes) (w : World) (hc : w.cell? ⟨g, 0, none⟩ = some (.string (ofL l))) (hf : w.frozen? ⟨g, 0, none⟩ = false) (hl : l.length ≤ 1000000) :
    Calls Try.prog 61 #[.pointer (some ⟨g, 0, none⟩)] w fun e w' => TextPost (textGo [] l) g w e w' := by
  have hgw := lt_cell hc
  have HN := Aside0.mk (Now.here hc hf)
  clear hc hf
  generalize htg : textGo [] l = tgt
  have HT := Aside0.mk htg
  clear htg
  go_enter Try.func61, Try.ntmps61
  go_wp2
  go_loopg [3] (l.length + 1) (fun kq v wr => ∃ acc r : Bytes, Aside0 (textGo acc r = tgt) ∧ Aside0 (acc.length + r.length ≤ l.length) ∧ Aside0 (r.length < kq) ∧ Aside0 (Kd.R (Kd.int .u8) 5 wr w.heap.size (fun k => k ≠ g) v (numsOf acc)) ∧ Aside0 (Now g r w wr))
  case atStart => exact ⟨[], l, HT, ⟨by simp⟩, ⟨by omega⟩, ⟨Kd.R_nil _ _ _ _ _⟩, HN⟩
  case round =>
    clear HN HT
    obtain ⟨acc, r, HT, HL, HK, HO, HN⟩ := hrel
    have hc := HN.out.cell
    have hf := HN.out.frozen
    cases r with
    | nil =>
      go_wp2_with fail
      refine (take1_no g _ hc).mono ?_
      rintro e w' ⟨rfl, rfl⟩
      exact ⟨rfl, .inr ⟨by rw [← HT.out]; rfl, rfl, HN.out.but⟩⟩
    | cons b r =>
      obtain ⟨k1, rfl⟩ : ∃ k1, gk = k1 + 1 := ⟨gk - 1, by have := HK.out; omega⟩
      have hi := idx0 b
      have hs := len1 b
      go_wp2_with fail
      refine (take1' g b r _ hc hf).mono ?_
      rintro e W ⟨rfl, HW⟩
      obtain ⟨hn, ho⟩ := text_next HW.out HN.out HO.out
      clear HW HN HO hc hf
      have HN := Aside0.mk hn
      have HO := Aside0.mk ho
      clear hn ho
      have hc := HN.out.cell
      have hf := HN.out.frozen
      by_cases h0 : b = 0
      · have ht := u8_beq b 0 (by decide) h0
        have H0 := Aside0.mk h0
        clear h0
        cases r with
        | nil =>
          go_wp2_with fail
          refine (take1_no g _ hc).mono ?_
          rintro e w' ⟨rfl, rfl⟩
          exact ⟨rfl, .inr ⟨by rw [← HT.out]; rfl, rfl, HN.out.but⟩⟩
        | cons c r =>
          have hi2 := idx0 c
          have hs2 := len1 c
          go_wp2_with fail
          refine (take1' g c r _ hc hf).mono ?_
          rintro e W2 ⟨rfl, HW⟩
          obtain ⟨hn, ho⟩ := text_next HW.out HN.out HO.out
          clear HW HN HO hc hf
          have HN2 := Aside0.mk hn
          have HO2 := Aside0.mk ho
          clear hn ho
          have hc := HN2.out.cell
          by_cases h1 : c = 1
          · have ht2 := u8_beq c 1 (by decide) h1
            have HE := Aside0.mk (show textGo acc (b :: c :: r) = some (acc, r) by rw [H0.out, h1]; exact textGo_end acc r)
            have hcv := own_string (P := Try.prog) Try.underlying82 Try.underlying5 Try.underlying9 (Kd.own_of_R HO2.out)
            rw [strOfNums_numsOf] at hcv
            clear h1
            go_wp2
            go_ret
            exact .inl ⟨acc, r, by rw [← HT.out, HE.out], rfl, HN2.out⟩
          · have ht2 := u8_bne c 1 h1
            by_cases h2 : c = 255
            · have ht3 := u8_beq c 255 (by decide) h2
              have HF := Aside0.mk (show ∀ k, W2.heap.size ≤ k → k ≠ g from fun k hk => by have := lt_cell hc; omega)
              have HSZ := Aside0.mk (show w.heap.size ≤ W2.heap.size from HN2.out.but.size)
              have HT2 := Aside0.mk (show textGo (acc ++ [b]) r = tgt by rw [← HT.out, H0.out, h2]; exact (textGo_zero acc r).symm)
              clear h1 h2 HT
              go_wp2_with (first | ((with_reducible refine gate_builtin (b := .append) (xs := #[.tmp 20, .tmp 22]) rfl ?_); at_builtin; refine Kd.R_append (Kd.int .u8) (w0 := W2) w.heap.size rfl (.tmp 20) (.tmp 22) 82 5 (.int .u8 0) 1 rfl Try.underlying82 info5 rfl (by decide) (by omega) u3 (numsOf acc) (b.toNat : Int) [.int .u8 b.toNat] (fun k => k ≠ g) (fun _ => False) rfl rfl ?aP (fun _ hk => hk.elim) ?aF ?aO ?aB ?aS ?aL ?_; (case aP => exact rfl); (case aB => exact Below.refl _ _); (case aF => exact HF.out); (case aO => exact HO2.out); (case aS => exact HSZ.out); (case aL => have := HL.out; simp only [numsOf, List.length_map, List.length_cons] at *; omega); intro v1 w6 ho hb hg hat; rw [nums_snoc] at ho; have HO3 := Aside0.mk ho; have HN3 := Aside0.mk (HN2.out.below_trans hgw hb); clear HO2 HN2; clear ho hb hg hat))
              go_roundg k1
              case measure => omega
              case rel => exact ⟨acc ++ [b], r, HT2, ⟨by have := HL.out; simp at *; omega⟩, ⟨by have := HK.out; simp at this; omega⟩, HO3, HN3⟩
            · have ht3 := u8_bne c 255 h2
              have HE := Aside0.mk (show textGo acc (b :: c :: r) = none by rw [H0.out]; exact textGo_bad acc r c h1 h2)
              clear h1 h2
              go_wp2_with fail
              refine (must_no _).mono ?_
              rintro e w' ⟨rfl, rfl⟩
              exact ⟨rfl, .inr ⟨by rw [← HT.out, HE.out], rfl, HN2.out.but⟩⟩
      · have ht := u8_bne b 0 h0
        have HF := Aside0.mk (show ∀ k, W.heap.size ≤ k → k ≠ g from fun k hk => by have := lt_cell hc; omega)
        have HSZ := Aside0.mk (show w.heap.size ≤ W.heap.size from HN.out.but.size)
        have HT2 := Aside0.mk ((textGo_step acc r b h0).symm.trans HT.out)
        clear h0 HT
        go_wp2_with (first | ((with_reducible refine gate_builtin (b := .append) (xs := #[.tmp 20, .tmp 22]) rfl ?_); at_builtin; refine Kd.R_append (Kd.int .u8) (w0 := W) w.heap.size rfl (.tmp 20) (.tmp 22) 82 5 (.int .u8 0) 1 rfl Try.underlying82 info5 rfl (by decide) (by omega) u3 (numsOf acc) (b.toNat : Int) [.int .u8 b.toNat] (fun k => k ≠ g) (fun _ => False) rfl rfl ?aP (fun _ hk => hk.elim) ?aF ?aO ?aB ?aS ?aL ?_; (case aP => exact rfl); (case aB => exact Below.refl _ _); (case aF => exact HF.out); (case aO => exact HO.out); (case aS => exact HSZ.out); (case aL => have := HL.out; simp only [numsOf, List.length_map, List.length_cons] at *; omega); intro v1 w6 ho hb hg hat; rw [nums_snoc] at ho; have HO2 := Aside0.mk ho; have HN2 := Aside0.mk (HN.out.below_trans hgw hb); clear HO HN; clear ho hb hg hat))
        go_roundg k1
        case measure => omega
        case rel => exact ⟨acc ++ [b], r, HT2, ⟨by have := HL.out; simp at *; omega⟩, ⟨by have := HK.out; simp at this; omega⟩, HO2, HN2⟩
end Go.Proofs.Ythpabgiicglbmaa.E

namespace Go.Proofs.Ythpabgiicglbmaa.E
open Go.RowKit Go.Proofs.YthpabgiicglbmaaW.PrintWords Go.Proofs.YthpabgiicglbmaaW.PrintLast Go.Proofs.YthpabgiicglbmaaW.PrintMore

theorem unescL_len (l : Bytes) (x : Bytes × Nat) (h : unescL l = some x) : x.2 ≤ l.length ∧ x.1.length + 2 ≤ x.2 := by
  fun_induction unescL l generalizing x with
  | case1 => cases h
  | case2 => cases h
  | case3 r =>
    obtain rfl := Option.some.inj h
    simp
  | case4 r _ ih =>
    cases hu : unescL r with
    | none => rw [hu] at h; cases h
    | some y =>
      rw [hu] at h
      obtain rfl := Option.some.inj h
      have := ih y hu
      simp only [List.length_cons]
      omega
  | case5 => cases h
  | case6 b c r _ ih =>
    cases hu : unescL (c :: r) with
    | none => rw [hu] at h; cases h
    | some y =>
      rw [hu] at h
      obtain rfl := Option.some.inj h
      have := ih y hu
      simp only [List.length_cons] at *
      omega
theorem call61 : ∀ args w, (callFunc 61 args).run Try.prog w = .ok (.enter 61 args) w := run_call 61 _ Try.func61 (by kernel_rfl) (by kernel_rfl)

theorem get_text_bad (l : Bytes) (w : World) (hl : l.length ≤ 1000000) (hg : unescL l = none) :
    Calls Try.prog 27 #[.string (ofL l)] w fun e w' => e = .returned (.tuple #[.string ⟨#[]⟩, .int .i64 0, .int .i64 2]) ∧ Below w.heap.size w w' := by
  have HG := Aside0.mk (show textGo [] l = none by rw [textGo, hg]; rfl)
  clear hg
  go_enter Try.func27, Try.ntmps27
  go_wp2_with fail
  refine (got_no_9 61 #[] (ofL l) _ call61 (fun g W hc hf _ _ => (text_any g l W hc hf hl).mono ?_)).mono ?_
  · rintro e w' (⟨t, r, hx, _⟩ | ⟨_, he, hb⟩)
    · rw [HG.out] at hx; cases hx
    · exact ⟨he, hb⟩
  rintro e w1 ⟨rfl, hb⟩
  have HB := Aside0.mk hb
  clear hb
  go_wp2
  go_ret3
  exact ⟨rfl, HB.out⟩
theorem get_text_ok (l : Bytes) (x : Bytes × Nat) (w : World) (hl : l.length ≤ 1000000) (hg : unescL l = some x) :
    Calls Try.prog 27 #[.string (ofL l)] w fun e w' => e = .returned (.tuple #[.string (ofL x.1), .int .i64 x.2, .int .i64 0]) ∧ Below w.heap.size w w' := by
  have hn := (unescL_len l x hg).1
  have hs : (ofL l).size ≤ 1000000000000000 := by rw [size_ofL]; omega
  have hz : ((ofL l).size : Int) - ((ofL (l.drop x.2)).size : Int) = x.2 := by rw [size_ofL, size_ofL, List.length_drop]; omega
  have HZ := Aside0.mk hz
  have HG := Aside0.mk (show textGo [] l = some (x.1, l.drop x.2) by rw [textGo, hg]; rfl)
  clear hg hz
  go_enter Try.func27, Try.ntmps27
  go_wp2_with fail
  refine (got_yes_9 61 #[] (ofL l) (ofL (l.drop x.2)) (ofL x.1) _ call61 hs (by rw [size_ofL, size_ofL, List.length_drop]; omega) (fun g W hc hf _ _ => (text_any g l W hc hf hl).mono ?_)).mono ?_
  · rintro e w' (⟨t, r, hy, he, hnow⟩ | ⟨hx, _⟩)
    · rw [HG.out] at hy
      cases hy
      exact ⟨he, hnow.cell, hnow.but⟩
    · rw [HG.out] at hx; cases hx
  rintro e w1 ⟨rfl, hb⟩
  have HB := Aside0.mk hb
  clear hb
  rw [HZ.out]
  go_wp2
  go_ret3
  exact ⟨rfl, HB.out⟩
theorem enc_GetText.calls (a0 : ByteArray) (r1 : ByteArray) (r2 r3 : Int) (w : World) (h : enc_GetText.f a0 = some (r1, r2, r3)) :
    Calls Try.prog 27 #[.string a0] w fun e w' => e = .returned (.tuple #[.string r1, .int .i64 r2, .int .i64 r3]) ∧ Below w.heap.size w w' := by
  unfold enc_GetText.f at h
  split at h
  · rename_i hs
    obtain ⟨l, rfl⟩ : ∃ l, a0 = ofL l := ⟨toL a0, (ofL_toL a0).symm⟩
    rw [toL_ofL] at h
    rw [size_ofL] at hs
    cases hg : unescL l with
    | none =>
      rw [hg] at h
      simp only [Option.some.injEq, Prod.mk.injEq] at h
      obtain ⟨rfl, rfl, rfl⟩ := h
      exact get_text_bad l w hs hg
    | some x =>
      rw [hg] at h
      simp only [Option.some.injEq, Prod.mk.injEq] at h
      obtain ⟨rfl, rfl, rfl⟩ := h
      exact get_text_ok l x w hs hg
  · cases h
end Go.Proofs.Ythpabgiicglbmaa.E
