-- A slim copy of DW, written by wip/tools/prune2.py.
import Derived.Test.YtalncokpbgbccaaUDP
import Derived.Test.YtalncokpbgbccaaUSW
/- NodeDivides, walked and joined: whatever the entries, it returns true. -/
namespace Go.Proofs.Ytalncokpbgbccaa.E
set_option linter.unusedVariables false
set_option linter.unusedSimpArgs false
open Go.RowKit Go.Proofs.YtalncokpbgbccaaW.PrintWords Go.Proofs.YtalncokpbgbccaaW.PrintLast Go.Proofs.YtalncokpbgbccaaW.PrintMore
/-- the key ahead of a part -/
def sepAt (S : List ByteArray) (k : Nat) : ByteArray := if k = 0 then ⟨#[]⟩ else S.getD (k - 1) ByteArray.empty
set_option maxRecDepth 100000 in
set_option maxHeartbeats 4000000 in
theorem divides_1 (l : List S77) (A : Option Addr) (c : Nat) (level : Int) (w : World) (HSANE : Aside0 (Say w 15 #[] (.bool true))) (HFEW : Aside0 (Ans1 w A l.length c false)) :
    Calls Try.prog 9 #[.slice A l.length c, .int .i64 level] w fun e w' => e = .returned (.bool true) ∧ Below w.heap.size w w' := by
  go_enter Try.func9, Try.ntmps9
  go_wp2_with (first
    | ((go_at_call 14); (with_reducible refine (HFEW.out _ _ (by repeat (first | exact HB.out | exact Below.refl _ _ | apply below_alloc | apply pw_below_drewN | apply below_drew1)) ?hg).mono ?_); (case hg => first | exact blk_new _ _ | exact heap_alloc_new _ _); rintro e w9 ⟨rfl, hb9⟩; (try clear HB); have HB := Aside0.mk hb9; clear hb9)
    | ((go_at_call 15); (with_reducible refine (HSANE.out _ (by repeat (first | exact HB.out | exact Below.refl _ _ | apply below_alloc | apply pw_below_drewN | apply below_drew1))).mono ?_); rintro e w9 ⟨rfl, hbl⟩; have HBn := Aside0.mk (below_tr2 (w := w) (by repeat (first | exact HB.out | exact Below.refl _ _ | apply below_alloc | apply pw_below_drewN | apply below_drew1)) hbl); (try clear HB); have HB := HBn; clear HBn hbl)
    )
  go_ret
  exact ⟨rfl, HB.out⟩
set_option maxRecDepth 100000 in
set_option maxHeartbeats 4000000 in
theorem divides_2 (l : List S77) (A : Option Addr) (c : Nat) (level : Int) (w : World) (HSANE : Aside0 (Say w 15 #[] (.bool true))) (HFEW : Aside0 (Ans1 w A l.length c true)) (H46 : Aside0 (Say w 46 #[.slice A l.length c, .int .i64 level] (.bool false))) :
    Calls Try.prog 9 #[.slice A l.length c, .int .i64 level] w fun e w' => e = .returned (.bool true) ∧ Below w.heap.size w w' := by
  go_enter Try.func9, Try.ntmps9
  go_wp2_with (first
    | ((go_at_call 14); (with_reducible refine (HFEW.out _ _ (by repeat (first | exact HB.out | exact Below.refl _ _ | apply below_alloc | apply pw_below_drewN | apply below_drew1)) ?hg).mono ?_); (case hg => first | exact blk_new _ _ | exact heap_alloc_new _ _); rintro e w9 ⟨rfl, hb9⟩; (try clear HB); have HB := Aside0.mk hb9; clear hb9)
    | ((go_at_call 15); (with_reducible refine (HSANE.out _ (by repeat (first | exact HB.out | exact Below.refl _ _ | apply below_alloc | apply pw_below_drewN | apply below_drew1))).mono ?_); rintro e w9 ⟨rfl, hbl⟩; have HBn := Aside0.mk (below_tr2 (w := w) (by repeat (first | exact HB.out | exact Below.refl _ _ | apply below_alloc | apply pw_below_drewN | apply below_drew1)) hbl); (try clear HB); have HB := HBn; clear HBn hbl)
    | ((go_at_call 46); (with_reducible refine (H46.out _ (by repeat (first | exact HB.out | exact Below.refl _ _ | apply below_alloc | apply pw_below_drewN | apply below_drew1))).mono ?_); rintro e w9 ⟨rfl, hbl⟩; have HBn := Aside0.mk (below_tr2 (w := w) (by repeat (first | exact HB.out | exact Below.refl _ _ | apply below_alloc | apply pw_below_drewN | apply below_drew1)) hbl); (try clear HB); have HB := HBn; clear HBn hbl)
    )
  go_ret
  exact ⟨rfl, HB.out⟩
set_option maxRecDepth 100000 in
set_option maxHeartbeats 4000000 in
theorem divides_3 (l : List S77) (A : Option Addr) (c : Nat) (level : Int) (w : World) (HSANE : Aside0 (Say w 15 #[] (.bool true))) (HFEW : Aside0 (Ans1 w A l.length c true)) (H46 : Aside0 (Say w 46 #[.slice A l.length c, .int .i64 level] (.bool true))) (P : List (List S77)) (S : List ByteArray) (hr : Kd.C k77 w A l.length l) (hll : l.length ≤ 100) (hlen : S.length + 1 = P.length) (hlen2 : P.length ≤ 100) (hfull : l.take (atP P P.length) = l)
    (HPART : Aside0 (∀ k, k < P.length → ∀ (W : World) (A0 : Option Addr) (c0 : Nat), Kd.C k77 W A0 (P.getD k []).length (P.getD k []) → (P.getD k []).length ≤ c0 →
      (Calls Try.prog 46 #[.slice A0 (P.getD k []).length c0, .int .i64 level] W fun e w2 => e = .returned (.bool true) ∧ Below W.heap.size W w2)
      ∧ (Calls Try.prog 47 #[.slice A0 (P.getD k []).length c0, .int .i64 level] W fun e w2 => e = .returned (.bool true) ∧ Below W.heap.size W w2)
      ∧ (2 ≤ P.length → Calls Try.prog 20 #[.slice A0 (P.getD k []).length c0, .int .i64 level] W fun e w2 => e = .returned (.bool false) ∧ Below W.heap.size W w2)))
    (HCMB : Aside0 (∀ k, k < P.length → ∀ (W : World) (Aa : Option Addr) (ca : Nat) (A0 : Option Addr) (c0 : Nat), Kd.C k77 W Aa (l.take (atP P k)).length (l.take (atP P k)) → (l.take (atP P k)).length ≤ ca → Kd.C k77 W A0 (P.getD k []).length (P.getD k []) → (P.getD k []).length ≤ c0 →
      Calls Try.prog 48 #[.slice Aa (l.take (atP P k)).length ca, .slice A0 (P.getD k []).length c0, .string (sepAt S k), .int .i64 level] W fun e w2 => ∃ v, e = .returned v ∧ Ow w2 W.heap.size v (l.take (atP P (k + 1))) ∧ Below W.heap.size W w2))
    (HSM : Aside0 (∀ (W : World) (Aa : Option Addr) (ca : Nat), Kd.C k77 W Aa l.length l → Kd.C k77 W A l.length l → Calls Try.prog 37 #[.slice Aa l.length ca, .slice A l.length c] W fun e w2 => e = .returned (.bool true) ∧ Below W.heap.size W w2))
    (HPK : Aside0 (∀ w1, Below w.heap.size w w1 → Calls Try.prog 39 #[.slice A l.length c, .int .i64 level] w1 fun e w2 => ∃ A1 c1 A2 c2, e = .returned (.tuple #[.slice A1 P.length c1, .slice A2 S.length c2, .int .i64 0]) ∧ kN.C w2 A1 P.length P ∧ Kd.string.C w2 A2 S.length S ∧ Below w1.heap.size w1 w2)) :
    Calls Try.prog 9 #[.slice A l.length c, .int .i64 level] w fun e w' => e = .returned (.bool true) ∧ Below w.heap.size w w' := by
  have HR := Aside0.mk (fun (W : World) (hb : Below w.heap.size w W) => Kd.C_below hr hb)
  have HLL := Aside0.mk hll
  have HLEN := Aside0.mk hlen
  have HLEN2 := Aside0.mk hlen2
  have HFULL := Aside0.mk hfull
  have hwp : wrap64 ((P.length : Int) - 1) = (S.length : Int) := w_pred P.length S.length (by omega) (by omega)
  have d12 : decide ((P.length : Int) < 1) = false := decide_eq_false (by omega)
  have d13 : decide (P.length < 1) = false := decide_eq_false (by omega)
  have d14 : decide (P.length = 0) = false := decide_eq_false (by omega)
  clear hr hll hlen hlen2 hfull
  go_enter Try.func9, Try.ntmps9
  go_wp2_with (first
    | ((go_at_call 14); (with_reducible refine (HFEW.out _ _ (by repeat (first | exact HB.out | exact Below.refl _ _ | apply below_alloc | apply pw_below_drewN | apply below_drew1)) ?hg).mono ?_); (case hg => first | exact blk_new _ _ | exact heap_alloc_new _ _); rintro e w9 ⟨rfl, hb9⟩; (try clear HB); have HB := Aside0.mk hb9; clear hb9)
    | ((go_at_call 46); (with_reducible refine (H46.out _ (by repeat (first | exact HB.out | exact Below.refl _ _ | apply below_alloc | apply pw_below_drewN | apply below_drew1))).mono ?_); rintro e w9 ⟨rfl, hbl⟩; have HBn := Aside0.mk (below_tr2 (w := w) (by repeat (first | exact HB.out | exact Below.refl _ _ | apply below_alloc | apply pw_below_drewN | apply below_drew1)) hbl); (try clear HB); have HB := HBn; clear HBn hbl)
    | ((go_at_call 39); (with_reducible refine (HPK.out _ HB.out).mono ?_); rintro e w5 ⟨A1, c1, A2, c2, rfl, hP, hS, hbl⟩; have HP := Aside0.mk hP; have HS := Aside0.mk hS; have HB5 := Aside0.mk (below_tr2 (w := w) HB.out hbl); clear hP hS hbl HB)
    )
  clear hwp HFEW H46 HPK
  go_loopw [8, 9] (fun v8 iv wr => ∃ k : Nat, k ≤ P.length ∧ iv = .int .i64 k ∧ Aside0 (Ow wr w5.heap.size v8 (l.take (atP P k))) ∧ Aside0 (Below w5.heap.size w5 wr)) (fun _ iv _ => P.length - (intOf iv).toNat)
  case atStart => exact ⟨0, Nat.zero_le _, rfl, ⟨by rw [show atP P 0 = 0 by simp [atP], List.take_zero]; exact Kd.R_nil _ _ _ _ _⟩, ⟨Below.refl _ _⟩⟩
  case round =>
    obtain ⟨k, hk, rfl, HO, HBr⟩ := hrel
    by_cases hlt : k < P.length
    · have HLT := Aside0.mk hlt
      obtain ⟨ad, A0, c0, rfl, hc, hl0, hC⟩ := at_L5 HP.out (k : Int) (by omega) (by omega)
      simp only [rd_L5, Int.toNat_natCast] at hc hl0 hC
      have HCELL := Aside0.mk (fun (W : World) (hb : Below w5.heap.size w5 W) => (⟨cell_below hc hb, Kd.C_below hC hb⟩ : W.cell? (ad.add k) = some (.slice A0 (P.getD k []).length c0) ∧ Kd.C k77 W A0 (P.getD k []).length (P.getD k [])))
      have HL0 := Aside0.mk hl0
      have HPT := Aside0.mk (HPART.out k hlt)
      have HCM := Aside0.mk (HCMB.out k hlt)
      have hq0 := (HCELL.out _ HBr.out).1
      clear hc hl0 hC
      obtain ⟨Aa, ca, rfl⟩ := Kd.R_slice HO.out
      obtain ⟨YS, hYS⟩ : ∃ YS, l.take (atP P (k + 1)) = YS := ⟨_, rfl⟩
      have HYS := Aside0.mk hYS
      rw [hYS] at HCM
      clear hYS
      have hk1 : (k : Int) < (P.length : Int) := by omega
      have hk2 : (0 : Int) ≤ (k : Int) := by omega
      have hkw := w_succ k (by have := HLEN2.out; omega)
      have HSEP := Aside0.mk (fun (hk0 : 0 < k) => (show ∃ asp, A2 = some asp ∧ w5.cell? (asp.add (k - 1)) = some (.string (sepAt S k)) by
        obtain ⟨asp, e, hcs⟩ := Kd.at_string HS.out ((k - 1 : Nat) : Int) (by omega) (by have := HLEN.out; omega)
        simp only [Int.toNat_natCast] at hcs
        refine ⟨asp, e, ?_⟩
        rw [sepAt, if_neg (by omega)]
        exact hcs))
      have hks0 : k = 0 → sepAt S k = ⟨#[]⟩ := fun h => by rw [sepAt, if_pos h]
      generalize sepAt S k = sp at HCM HSEP hks0
      generalize hpk : (P.getD k []).length = m at HCELL HL0 HPT HCM hq0 ⊢
      clear hpk
      generalize P.getD k [] = pk at HCELL HPT HCM
      generalize l.take (atP P k) = XS at HO HCM ⊢
      have HOc := HO
      have HBc := HBr
      clear HO HBr
      by_cases hm : 2 ≤ P.length
      · have d9 : decide ((P.length : Int) > 1) = true := decide_eq_true (by omega)
        have d10 : decide (1 < (P.length : Int)) = true := decide_eq_true (by omega)
        have d11 : decide (1 < P.length) = true := decide_eq_true (by omega)
        by_cases hk0 : k = 0
        · have hsp := hks0 hk0
          subst hsp
          have d0 : decide ((k : Int) > 0) = false := decide_eq_false (by omega)
          have d1 : decide (0 < (k : Int)) = false := decide_eq_false (by omega)
          have d2 : decide (0 < k) = false := decide_eq_false (by omega)
          clear hks0 HSEP hk0
          have HM := Aside0.mk hm
          clear hm hlt hk
          go_wp2_with (first
            | ((go_at_call 46); (with_reducible refine ((HPT.out _ A0 c0 (HCELL.out _ HBc.out).2 HL0.out).1).mono ?_); rintro e wa ⟨rfl, hb⟩; have HBn := Aside0.mk (below_tr2 (w := w5) HBc.out hb); have HOn := Aside0.mk (ow_below HOc.out hb); have qwa := (HCELL.out _ HBn.out).1; clear HBc HOc hb; have HBc := HBn; have HOc := HOn; clear HBn HOn)
            | ((go_at_call 47); (with_reducible refine ((HPT.out _ A0 c0 (HCELL.out _ HBc.out).2 HL0.out).2.1).mono ?_); rintro e wb ⟨rfl, hb⟩; have HBn := Aside0.mk (below_tr2 (w := w5) HBc.out hb); have HOn := Aside0.mk (ow_below HOc.out hb); have qwb := (HCELL.out _ HBn.out).1; clear HBc HOc hb; have HBc := HBn; have HOc := HOn; clear HBn HOn)
            | ((go_at_call 20); (with_reducible refine ((HPT.out _ A0 c0 (HCELL.out _ HBc.out).2 HL0.out).2.2 HM.out).mono ?_); rintro e wc ⟨rfl, hb⟩; have HBn := Aside0.mk (below_tr2 (w := w5) HBc.out hb); have HOn := Aside0.mk (ow_below HOc.out hb); have qwc := (HCELL.out _ HBn.out).1; clear HBc HOc hb; have HBc := HBn; have HOc := HOn; clear HBn HOn)
            | ((go_at_call 48); (with_reducible refine (HCM.out _ Aa ca A0 c0 (ow_readsC HOc.out) (Kd.R_reads' HOc.out).2.1 (HCELL.out _ HBc.out).2 HL0.out).mono ?_); rintro e wd ⟨v2, rfl, ho, hb⟩; have HO2 := Aside0.mk (show Ow wd w5.heap.size v2 YS from Kd.R_lower ho HBc.out.size); have HB2 := Aside0.mk (below_tr2 (w := w5) HBc.out hb); clear ho hb)
            )
          go_roundw
          case rel => exact ⟨k + 1, HLT.out, by rw [hkw]; simp, ⟨by rw [HYS.out]; exact HO2.out⟩, HB2⟩
          case measure => (have h9 := HLT.out; rw [hkw]; clear hkw; show P.length - ((k : Int) + 1).toNat < P.length - (k : Int).toNat; omega)
        · obtain ⟨asp, rfl, hcs⟩ := HSEP.out (by omega)
          have HSC := Aside0.mk (fun (W : World) (hb : Below w5.heap.size w5 W) => cell_below hcs hb)
          obtain ⟨p, hp⟩ : ∃ p, k = p + 1 := ⟨k - 1, by omega⟩
          have hp1 : k - 1 = p := by omega
          rw [hp1] at HSC
          have d6 : decide ((k : Int) > 0) = true := decide_eq_true (by omega)
          have d7 : decide (0 < (k : Int)) = true := decide_eq_true (by omega)
          have d8 : decide (0 < k) = true := decide_eq_true (by omega)
          have hpw := w_pred k p hp (by have := HLEN2.out; omega)
          have hp2 : (p : Int) < (S.length : Int) := by have := HLEN.out; omega
          have hp3 : (0 : Int) ≤ (p : Int) := by omega
          have HM := Aside0.mk hm
          clear hcs hks0 HSEP hp hp1 hm hlt hk hk0
          go_wp2_with (first
            | ((go_at_call 46); (with_reducible refine ((HPT.out _ A0 c0 (HCELL.out _ HBc.out).2 HL0.out).1).mono ?_); rintro e wa ⟨rfl, hb⟩; have HBn := Aside0.mk (below_tr2 (w := w5) HBc.out hb); have HOn := Aside0.mk (ow_below HOc.out hb); have qwa := (HCELL.out _ HBn.out).1; have sa := HSC.out _ HBn.out; clear HBc HOc hb; have HBc := HBn; have HOc := HOn; clear HBn HOn)
            | ((go_at_call 47); (with_reducible refine ((HPT.out _ A0 c0 (HCELL.out _ HBc.out).2 HL0.out).2.1).mono ?_); rintro e wb ⟨rfl, hb⟩; have HBn := Aside0.mk (below_tr2 (w := w5) HBc.out hb); have HOn := Aside0.mk (ow_below HOc.out hb); have qwb := (HCELL.out _ HBn.out).1; have sb := HSC.out _ HBn.out; clear HBc HOc hb; have HBc := HBn; have HOc := HOn; clear HBn HOn)
            | ((go_at_call 20); (with_reducible refine ((HPT.out _ A0 c0 (HCELL.out _ HBc.out).2 HL0.out).2.2 HM.out).mono ?_); rintro e wc ⟨rfl, hb⟩; have HBn := Aside0.mk (below_tr2 (w := w5) HBc.out hb); have HOn := Aside0.mk (ow_below HOc.out hb); have qwc := (HCELL.out _ HBn.out).1; have sc := HSC.out _ HBn.out; clear HBc HOc hb; have HBc := HBn; have HOc := HOn; clear HBn HOn)
            | ((go_at_call 48); (with_reducible refine (HCM.out _ Aa ca A0 c0 (ow_readsC HOc.out) (Kd.R_reads' HOc.out).2.1 (HCELL.out _ HBc.out).2 HL0.out).mono ?_); rintro e wd ⟨v2, rfl, ho, hb⟩; have HO2 := Aside0.mk (show Ow wd w5.heap.size v2 YS from Kd.R_lower ho HBc.out.size); have HB2 := Aside0.mk (below_tr2 (w := w5) HBc.out hb); clear ho hb)
            )
          go_roundw
          case rel => exact ⟨k + 1, HLT.out, by rw [hkw]; simp, ⟨by rw [HYS.out]; exact HO2.out⟩, HB2⟩
          case measure => (have h9 := HLT.out; rw [hkw]; clear hkw; show P.length - ((k : Int) + 1).toNat < P.length - (k : Int).toNat; omega)
      · have d3 : decide ((P.length : Int) > 1) = false := decide_eq_false (by omega)
        have d4 : decide (1 < (P.length : Int)) = false := decide_eq_false (by omega)
        have d5 : decide (1 < P.length) = false := decide_eq_false (by omega)
        have hk0 : k = 0 := by omega
        have hsp := hks0 hk0
        subst hsp
        have d0 : decide ((k : Int) > 0) = false := decide_eq_false (by omega)
        have d1 : decide (0 < (k : Int)) = false := decide_eq_false (by omega)
        have d2 : decide (0 < k) = false := decide_eq_false (by omega)
        clear hks0 HSEP hk0
        clear hm hlt hk
        go_wp2_with (first
          | ((go_at_call 46); (with_reducible refine ((HPT.out _ A0 c0 (HCELL.out _ HBc.out).2 HL0.out).1).mono ?_); rintro e wa ⟨rfl, hb⟩; have HBn := Aside0.mk (below_tr2 (w := w5) HBc.out hb); have HOn := Aside0.mk (ow_below HOc.out hb); have qwa := (HCELL.out _ HBn.out).1; clear HBc HOc hb; have HBc := HBn; have HOc := HOn; clear HBn HOn)
          | ((go_at_call 47); (with_reducible refine ((HPT.out _ A0 c0 (HCELL.out _ HBc.out).2 HL0.out).2.1).mono ?_); rintro e wb ⟨rfl, hb⟩; have HBn := Aside0.mk (below_tr2 (w := w5) HBc.out hb); have HOn := Aside0.mk (ow_below HOc.out hb); have qwb := (HCELL.out _ HBn.out).1; clear HBc HOc hb; have HBc := HBn; have HOc := HOn; clear HBn HOn)
          | ((go_at_call 48); (with_reducible refine (HCM.out _ Aa ca A0 c0 (ow_readsC HOc.out) (Kd.R_reads' HOc.out).2.1 (HCELL.out _ HBc.out).2 HL0.out).mono ?_); rintro e wd ⟨v2, rfl, ho, hb⟩; have HO2 := Aside0.mk (show Ow wd w5.heap.size v2 YS from Kd.R_lower ho HBc.out.size); have HB2 := Aside0.mk (below_tr2 (w := w5) HBc.out hb); clear ho hb)
          )
        go_roundw
        case rel => exact ⟨k + 1, HLT.out, by rw [hkw]; simp, ⟨by rw [HYS.out]; exact HO2.out⟩, HB2⟩
        case measure => (have h9 := HLT.out; rw [hkw]; clear hkw; show P.length - ((k : Int) + 1).toNat < P.length - (k : Int).toNat; omega)
    · obtain rfl : k = P.length := by omega
      rw [HFULL.out] at HO
      obtain ⟨Aa, ca, rfl⟩ := Kd.R_slice HO.out
      have HB := Aside0.mk (below_tr2 (w := w) HB5.out HBr.out)
      clear HPART HCMB HP HS
      go_wp2_with (first
        | ((go_at_call 15); (with_reducible refine (HSANE.out _ HB.out).mono ?_); rintro e w9 ⟨rfl, hbl⟩; have HOc := Aside0.mk (ow_readsC (ow_below HO.out hbl)); have HRc := Aside0.mk (HR.out _ (below_tr2 (w := w) HB.out hbl)); have HBn := Aside0.mk (below_tr2 (w := w) HB.out hbl); clear HB HO hbl; have HB := HBn; clear HBn)
        | ((go_at_call 37); (with_reducible refine (HSM.out _ _ _ HOc.out HRc.out).mono ?_); rintro e we ⟨rfl, hbl⟩; have HBn := Aside0.mk (below_tr2 (w := w) HB.out hbl); clear HB hbl; have HB := HBn; clear HBn)
        )
      go_ret
      exact ⟨rfl, HB.out⟩
theorem divides_c (l : List S77) (A : Option Addr) (c : Nat) (level : Int) (w : World) (hr : Kd.C k77 w A l.length l) (hc : l.length ≤ c) :
    Calls Try.prog 9 #[.slice A l.length c, .int .i64 level] w fun e w' => e = .returned (.bool true) ∧ Below w.heap.size w w' := by
  obtain ⟨bf, hf, HF⟩ := few_one l
  have HFEW := Aside0.mk (HF w A c hr hc)
  have HS := Aside0.mk (show Say w 15 #[] (.bool true) from fun w1 _ => sane_c w1)
  cases bf with
  | false => exact divides_1 l A c level w HS HFEW
  | true =>
  have hl := (hf rfl).1
  have hfine : Fine l := by
    refine ⟨by omega, fun x hx => ?_⟩
    obtain ⟨j, hj, rfl⟩ := List.getElem_of_mem hx
    have := (hf rfl).2 j hj
    rw [show l.getD j z77 = l[j] by simp [hj]] at this
    omega
  have hks : ∀ x ∈ l, x.f0.size ≤ 1000000 := by
    intro x hx
    obtain ⟨j, hj, rfl⟩ := List.getElem_of_mem hx
    have := (hf rfl).2 j hj
    rw [show l.getD j z77 = l[j] by simp [hj]] at this
    omega
  have H46 := Aside0.mk (show Say w 46 #[.slice A l.length c, .int .i64 level] _ from fun w1 b => right_c l A c level w1 (Kd.C_below hr b) hc hl)
  cases hrt : rightB l level with
  | false => rw [hrt] at H46; exact divides_2 l A c level w HS HFEW H46
  | true =>
    rw [hrt] at H46
    have hp := right_packable hrt
    have ho : ordL l level = true := by unfold rightB at hrt; rw [Bool.and_eq_true] at hrt; exact hrt.1
    have hbr := ord_bare ho
    have hne : 1 ≤ l.length := by
      unfold rightB at hrt
      simp only [Bool.and_eq_true, Bool.or_eq_true, decide_eq_true_eq] at hrt
      omega
    obtain ⟨x, hx⟩ := packO_some level (l.length + 1) l (by omega) hp
    have e1 := packO_len _ l level x hne hx
    have e2 := packO_seps level _ l x hne hx
    have e3 := packO_parts level _ l x hne hp hbr hx
    have hR : packR l level = (x, 0) := by rw [packR, if_pos hp, if_neg (by omega), hx]
    have hat : ∀ k, k < x.1.length → atP x.1 (k + 1) = atP x.1 k + (x.1.getD k []).length ∧ atP x.1 (k + 1) ≤ l.length := fun k hk => ⟨atP_succ x.1 k hk, by rw [← e2.1]; exact atP_le x.1 _ _ (by omega) (Nat.le_refl _)⟩
    have hpf : ∀ k, k < x.1.length → Fine (x.1.getD k []) := by
      intro k hk
      obtain ⟨g1, g2⟩ := hat k hk
      rw [(e3 k hk).is]
      refine fine_bare ⟨by simp; omega, fun y hy => hfine.2 y (List.mem_of_mem_drop (List.mem_of_mem_take hy))⟩ level
    have hgood : ∀ k, k < x.1.length → rightB (x.1.getD k []) level = true ∧ fitsL (x.1.getD k []) level = true ∧ (2 ≤ x.1.length → smallB (x.1.getD k []) level = false) := by
      intro k hk
      have h := e3 k hk
      refine part_good (n := x.1.length) hrt h.pack h.bar h.len h.fits (fun h2 => h.big (Or.inl h2)) (fun h1 => ?_) (by omega)
      have hk0 : k = 0 := by omega
      subst hk0
      have h2 := h.is
      have h3 : atP x.1 1 = atP x.1 0 + (x.1.getD 0 []).length := (hat 0 hk).1
      rw [show atP x.1 0 = 0 by simp [atP]] at h2 h3
      have h4 : atP x.1 1 = l.length := by rw [← e2.1, h1]
      rw [show (x.1.getD 0 []).length = l.length by omega, List.drop_zero, List.take_length, hbr] at h2
      exact h2
    refine divides_3 l A c level w HS HFEW H46 x.1 x.2 hr hl e1.2 (by omega) (by rw [e2.1, List.take_length]) ⟨fun k hk W A0 c0 hC hc0 => ?_⟩ ⟨fun k hk W Aa ca A0 c0 hCa hca hC hc0 => ?_⟩ ⟨fun W Aa ca h1 h2 => ?_⟩ ⟨fun w1 b => ?_⟩
    · obtain ⟨g1, g2, g3⟩ := hgood k hk
      obtain ⟨g4, g5⟩ := hat k hk
      refine ⟨?_, ?_, fun h2 => ?_⟩
      · have := right_c (x.1.getD k []) A0 c0 level W hC hc0 (by omega)
        rwa [g1] at this
      · have := rfits_c (x.1.getD k []) A0 c0 level W hC (hpf k hk)
        rwa [g2] at this
      · have := small_c (x.1.getD k []) A0 c0 level W hC (hpf k hk)
        rwa [g3 h2] at this
    · obtain ⟨g4, g5⟩ := hat k hk
      have h := e3 k hk
      have hcomb : combL (l.take (atP x.1 k)) (x.1.getD k []) (sepAt x.2 k) level = l.take (atP x.1 (k + 1)) := by
        rw [g4]
        have := comb_part (l := l) (level := level) hbr (atP x.1 k) (x.1.getD k []).length h.len (by omega) (sepAt x.2 k) (fun ha hlv => ?_)
        · rwa [← h.is] at this
        · have hk0 : k ≠ 0 := by
            intro e0
            subst e0
            simp [atP] at ha
          rw [sepAt, if_neg hk0]
          obtain ⟨q1, q2, q3⟩ := e2.2 (k - 1) (by omega)
          rw [show k - 1 + 1 = k by omega] at q3
          rw [q3, sepF, if_pos hlv]
      rw [← hcomb]
      exact combine_c _ _ Aa A0 ca c0 (sepAt x.2 k) level W hCa hca hC hc0 (by simp; omega) (by omega)
    · have := same_c l l Aa A ca c W h1 h2 (by omega)
      rwa [(sameL_iff _ _).2 rfl] at this
    · have := packs_c l A c level w1 (Kd.C_below hr b) hc hfine hks
      rw [hR] at this
      refine this.mono ?_
      rintro e w2 ⟨A1, c1, A2, c2, rfl, ⟨_, q1⟩, ⟨_, q2⟩, q3⟩
      exact ⟨A1, c1, A2, c2, rfl, q1, q2, q3⟩
end Go.Proofs.Ytalncokpbgbccaa.E

