import Derived.Test.YthpabgiicglbmaaHM
import Derived.Test.YthpabgiicglbmaaHO
import Derived.Test.YthpabgiicglbmaaHG
namespace Go.Proofs.Ythpabgiicglbmaa.E
set_option linter.unusedVariables false
set_option linter.unusedSimpArgs false
open Go.RowKit Go.Proofs.YthpabgiicglbmaaW.PrintWords Go.Proofs.YthpabgiicglbmaaW.PrintLast Go.Proofs.YthpabgiicglbmaaW.PrintMore

theorem bld_below {B b : Nat} {bs : List Value} {A C : World} (h : Bld B b bs A) (k : Below A.heap.size A C) : Bld B b bs C := by
  have old : ∀ (i : Nat) (o : Obj), A.heap[i]? = some o → C.heap[i]? = some o := fun i o hi => (k.block i (Array.getElem?_eq_some_iff.1 hi).1).trans hi
  have one : ∀ p, BldAt B b p bs A → BldAt B b p bs C := by
    rintro p ⟨hB, v, hb, hown, hne⟩
    refine ⟨hB, v, old _ _ hb, ⟨hown.1, ?_⟩, hne⟩
    rcases hown.2 with h | ⟨g, cap, cur, hv, hg, hgb, r⟩
    · exact .inl h
    · exact .inr ⟨g, cap, cur, hv, hg, old _ _ hgb, r⟩
  exact h.imp (one _) (one _)

/-- what follows a datum's kind -/
def payL (x : S49) : Bytes := if x.f0 = 1 then [UInt8.ofNat x.f1.toNat] else if x.f0 = 2 then putIntL x.f1 else if x.f0 = 3 then escL (toL x.f2) else []
theorem big1 (k : Nat) (h : k < 255) : enc_big.f 2 ((k + 1 : Nat) : Int) 1 = some (ofL [UInt8.ofNat (k + 1)]) := by
  have e := big_spec (k + 1) 1 (by omega)
  rw [show bigL (k + 1) 1 = [UInt8.ofNat (k + 1)] by simp [bigL, Nat.mod_eq_of_lt (show k + 1 < 256 by omega)]] at e
  exact e
theorem datum_pay (x : S49) (k : Nat) (hk : x.f0 = k) (h3 : k ≤ 3) : datumL x = UInt8.ofNat (k + 1) :: payL x := by
  have : k = 0 ∨ k = 1 ∨ k = 2 ∨ k = 3 := by omega
  rcases this with rfl | rfl | rfl | rfl <;> simp [datumL, payL, hk]
theorem putKeyL_step (ds : List Bool) (j i : Nat) (l : List S49) (h : i < l.length) :
    putKeyL ds j (l.drop i) = if validB (rd_T49 l i).f0 (rd_T49 l i).f1 (rd_T49 l i).f2 then (putKeyL ds (j + 1) (l.drop (i + 1))).map (fun y => (if desc ds j then flipL (datumL (rd_T49 l i)) else datumL (rd_T49 l i)) ++ y) else none := by
  rw [List.drop_eq_getElem_cons h]
  simp [putKeyL, rd_T49, h]
theorem escL_len (l : Bytes) : (escL l).length ≤ 2 * l.length + 2 := by
  have := escB_len l
  rw [escL_escB]; simp; omega
theorem payL_len (x : S49) (h : x.f2.size ≤ 100000) : (payL x).length ≤ 200010 := by
  unfold payL
  split
  · simp
  · split
    · simp [putIntL, bigL_length]
    · split
      · have := escL_len (toL x.f2)
        rw [length_toL] at this
        omega
      · simp
theorem valid_kind (x : S49) (h : validB x.f0 x.f1 x.f2 = true) : x.f0 = 0 ∨ x.f0 = 1 ∨ x.f0 = 2 ∨ x.f0 = 3 := by
  simp only [validB, Bool.or_eq_true, Bool.and_eq_true, beq_iff_eq] at h
  omega
theorem valid_one (x : S49) (h : validB x.f0 x.f1 x.f2 = true) (h1 : x.f0 = 1) : 0 ≤ x.f1 ∧ x.f1 ≤ 1 := by
  simp only [validB, Bool.or_eq_true, Bool.and_eq_true, beq_iff_eq] at h
  omega
theorem bytes_app (a s : Bytes) : Lib.byteCells (a ++ s) = Lib.byteCells a ++ Lib.strCells (ofL s) := by simp [Lib.byteCells, Lib.strCells, ofL]
def keyV (o : Option Bytes) : Value := match o with | some x => .tuple #[.string (ofL x), .int .i64 0] | none => .tuple #[.string ⟨#[]⟩, .int .i64 2]

set_option maxRecDepth 100000 in
set_option maxHeartbeats 8000000 in
theorem put_walk (ds : List Bool) (A0 A1 : Option Addr) (c0 c1 : Nat) (l : List S49) (w : World) (hr0 : Kd.C k49 w A0 l.length l) (hc0 : l.length ≤ c0) (hr1 : Kd.C Kd.bool w A1 ds.length ds) (hc1 : ds.length ≤ c1) (hlen : l.length ≤ 100000) (hall : ∀ d ∈ l, i64B d.f1 ∧ d.f2.size ≤ 100000) :
    Calls Try.prog 39 #[.slice A0 l.length c0, .slice A1 ds.length c1] w fun e w' => e = .returned (keyV (putKeyL ds 0 l)) ∧ Below w.heap.size w w' := by
  have hmo : Try.prog.follows .mixedOrders = true := by kernel_rfl
  have HALL := Aside0.mk (fun (i : Nat) (h : i < l.length) => hall (rd_T49 l i) (by simp [rd_T49, h]))
  have HR0 := Aside0.mk hr0
  have HR1 := Aside0.mk hr1
  have HC1 := Aside0.mk hc1
  clear hr0 hr1 hc1 hall
  generalize htg : putKeyL ds 0 l = tgt
  have HT := Aside0.mk (show tgt = (putKeyL ds 0 (l.drop 0)).map ([] ++ ·) by simp [htg])
  clear htg
  have HBLD := Aside0.mk (bld_new w)
  go_enter Try.func39, Try.ntmps39
  go_wp2
  go_loopw [13] (fun v wr => ∃ (i : Nat) (pre : Bytes), v = .int .i64 i ∧ i ≤ l.length ∧ Aside0 (tgt = (putKeyL ds i (l.drop i)).map (pre ++ ·)) ∧ Aside0 (pre.length ≤ i * 300000) ∧ Aside0 (Bld w.heap.size w.heap.size (Lib.byteCells pre) wr) ∧ Aside0 (Below w.heap.size w wr)) (fun v _ => l.length - (intOf v).toNat)
  case atStart => exact ⟨0, [], rfl, Nat.zero_le _, HT, ⟨by simp⟩, HBLD, ⟨(Below.refl _ w).alloc (Nat.le_refl _) _⟩⟩
  case round =>
    clear HT HBLD
    obtain ⟨i, pre, rfl, hi, HT, HL, HBLD, HB⟩ := hrel
    by_cases hlt : i < l.length
    · obtain ⟨ad0, hA0, x0, x1, x2⟩ := at_T49 (Kd.C_below HR0.out HB.out) i (by omega) (by omega)
      rw [Int.toNat_natCast] at x0 x1 x2
      subst hA0
      obtain ⟨x, hx⟩ : ∃ x, rd_T49 l i = x := ⟨_, rfl⟩
      have hxa := HALL.out i hlt
      have HS := Aside0.mk (putKeyL_step ds i i l hlt)
      rw [hx] at x0 x1 x2 HS hxa
      clear hx
      have HXS := Aside0.mk hxa.2
      have HXI := Aside0.mk hxa.1
      clear hxa
      obtain ⟨v, hv⟩ : ∃ v, validB x.f0 x.f1 x.f2 = v := ⟨_, rfl⟩
      have HV := Aside0.mk hv
      have HCK := Aside0.mk (show enc_CheckDatum.f x.f0 x.f1 x.f2 = some (if v then 0 else 2) by rw [enc_CheckDatum.f, if_pos HXI.out, hv])
      clear hv
      go_wp2_with fail
      refine (enc_CheckDatum.calls _ _ _ _ _ HCK.out).mono ?_
      rintro e w1 ⟨rfl, hb⟩
      have H := Aside0.mk (held_call hb (held_first wr (.int .i64 x.f0) (.int .i64 x.f1) (.string x.f2) 49))
      clear hb x0 x1 x2 HCK
      cases v
      · have HN : Aside0 (tgt = none) := ⟨by rw [HT.out, HS.out, HV.out]; rfl⟩
        have HB2 := Aside0.mk (HB.out.trans (H.out.2.2.2.1.mono HB.out.size))
        clear HT HS HV HB H
        go_wp2
        go_ret2
        exact ⟨by rw [HN.out]; rfl, HB2.out⟩
      · have HVO := Aside0.mk (fun h => valid_one x HV.out h)
        have hk := valid_kind x HV.out
        have HP := Aside0.mk (payL_len x HXS.out)
        rcases hk with hk | hk | hk | hk
        · have HPU := Aside0.mk (show ∀ W, Calls Try.prog 97 #[datV 0 x.f1 x.f2] W fun e w' => e = .returned (.string (ofL (payL x))) ∧ Below W.heap.size W w' from fun W => by rw [show ofL (payL x) = ⟨#[]⟩ by simp [payL, hk]; rfl]; exact put_null _ _ _ _)
          have HDP := Aside0.mk (datum_pay x 0 hk (by decide))
          have hbg := big1 0 (by decide)
          rw [hk] at H
          clear hk HVO
          have HDL : Aside0 ((datumL x).length ≤ 200020) := ⟨by rw [HDP.out]; have := HP.out; simp; omega⟩
          have hix := index_0
          have hfl := field_0_1
          obtain ⟨pk, hpk⟩ : ∃ pk, ofL [UInt8.ofNat (0 + 1)] = pk := ⟨_, rfl⟩
          obtain ⟨pp, hpp⟩ : ∃ pp, ofL (payL x) = pp := ⟨_, rfl⟩
          have hcat : pk.size + pp.size ≤ 9223372036854775807 := by rw [← hpk, ← hpp, size_ofL, size_ofL]; have := HP.out; simp; omega
          rw [hpk] at hbg
          rw [hpp] at HPU
          have HBG := Aside0.mk hbg
          have hadd : ∀ W, (Op.stringOp .add pk pp).run Try.prog W = .ok (.string (pk ++ pp)) W := fun W => run_string_add_sum W pk pp hcat
          have HPK := Aside0.mk (show pk ++ pp = ofL (datumL x) by rw [← hpk, ← hpp, HDP.out, append_ofL]; rfl)
          clear hbg hpk hpp
          go_wp2
          go_region_held3 (fun W' => W'.cell? ⟨wr.heap.size, 0, none⟩ = some (.int .i64 0) ∧ W'.cell? ⟨wr.heap.size, 1, none⟩ = some (.int .i64 x.f1) ∧ W'.cell? ⟨wr.heap.size, 2, none⟩ = some (.string x.f2) ∧ Below wr.heap.size wr W' ∧ wr.heap.size < W'.heap.size) (first | assumption | exact H.out | exact held_drew H.out | exact held_call hb (by assumption))
            (first | (go_at_call 65; refine (kinds_walk _).mono ?_; rintro e w' ⟨rfl, hb⟩) | (go_at_call 97; refine (HPU.out _).mono ?_; rintro e w' ⟨rfl, hb⟩) | (go_at_call 73; refine (enc_big.calls 2 _ 1 _ _ HBG.out).mono ?_; rintro e w' ⟨rfl, hb⟩))
          rename_i hh
          have HW := Aside0.mk hh.2.2.2.1
          clear hh hb H hix hfl HPU HBG
          rw [HPK.out]
          clear HPK HDP hcat hadd
          obtain ⟨dt, hdt⟩ : ∃ dt, datumL x = dt := ⟨_, rfl⟩
          rw [hdt] at HS HDL ⊢
          clear hdt
          obtain ⟨dv, hdv⟩ : ∃ dv, desc ds i = dv := ⟨_, rfl⟩
          have HF := Aside0.mk ((falls_spec ds i).trans (congrArg some hdv))
          have HN : Aside0 (tgt = (putKeyL ds (i + 1) (l.drop (i + 1))).map (fun y => pre ++ ((if dv then flipL dt else dt) ++ y))) := ⟨by rw [HT.out, HS.out, HV.out, hdv]; simp [Function.comp_def]⟩
          clear hdv HT HS HV
          go_wp2_with fail
          refine (enc_falls.calls A1 c1 ds i dv _ (Kd.C_below HR1.out (HB.out.trans (HW.out.mono HB.out.size))) HC1.out HF.out).mono ?_
          rintro e w2 ⟨rfl, ⟨n1, rfl⟩⟩
          have HW2 := Aside0.mk (pw_below_drewN HW.out n1)
          clear HF HW
          cases dv
          · go_wp2_with fail
            refine (writeString w.heap.size w.heap.size (Lib.byteCells pre) (ofL dt) _ (bld_below HBLD.out HW2.out) (by rw [Lib.byteCells_length, size_ofL]; have := HL.out; have := HDL.out; omega) (Nat.le_trans HB.out.size HW2.out.size)).mono ?_
            rintro e w3 ⟨rfl, hbl, hb3, _, _⟩
            have HBL := Aside0.mk hbl
            have HB3 := Aside0.mk ((HB.out.trans (HW2.out.mono HB.out.size)).trans hb3)
            clear hbl hb3 HW2 HB HBLD
            go_wp2
            go_roundw
            case rel => exact ⟨i + 1, pre ++ dt, by simp, by omega, ⟨by rw [HN.out]; simp⟩, ⟨by have := HL.out; have := HDL.out; rw [List.length_append]; omega⟩, ⟨.inr (by rw [bytes_app]; exact HBL.out)⟩, HB3⟩
            case measure => simp [intOf]; omega
          · go_wp2_with fail
            refine (enc_Flip.calls (ofL dt) (ofL (flipL dt)) _ (by rw [enc_Flip.f, if_pos (by rw [size_ofL]; have := HDL.out; omega), toL_ofL])).mono ?_
            rintro e w4 ⟨rfl, hb4⟩
            have HW4 := Aside0.mk (HW2.out.trans (hb4.mono HW2.out.size))
            clear hb4 HW2
            go_wp2_with fail
            refine (writeString w.heap.size w.heap.size (Lib.byteCells pre) (ofL (flipL dt)) _ (bld_below HBLD.out HW4.out) (by rw [Lib.byteCells_length, size_ofL, flipL, List.length_map]; have := HL.out; have := HDL.out; omega) (Nat.le_trans HB.out.size HW4.out.size)).mono ?_
            rintro e w3 ⟨rfl, hbl, hb3, _, _⟩
            have HBL := Aside0.mk hbl
            have HB3 := Aside0.mk ((HB.out.trans (HW4.out.mono HB.out.size)).trans hb3)
            clear hbl hb3 HW4 HB HBLD
            go_wp2
            go_roundw
            case rel => exact ⟨i + 1, pre ++ flipL dt, by simp, by omega, ⟨by rw [HN.out]; simp⟩, ⟨by have := HL.out; have := HDL.out; rw [List.length_append, flipL, List.length_map]; omega⟩, ⟨.inr (by rw [bytes_app]; exact HBL.out)⟩, HB3⟩
            case measure => simp [intOf]; omega
        · have HPU := Aside0.mk (show ∀ W, Calls Try.prog 100 #[datV 1 x.f1 x.f2] W fun e w' => e = .returned (.string (ofL (payL x))) ∧ Below W.heap.size W w' from fun W => by rw [show ofL (payL x) = ofL [UInt8.ofNat x.f1.toNat] by simp [payL, hk]]; exact put_bool _ _ _ _ (HVO.out hk).1 (HVO.out hk).2)
          have HDP := Aside0.mk (datum_pay x 1 hk (by decide))
          have hbg := big1 1 (by decide)
          rw [hk] at H
          clear hk HVO
          have HDL : Aside0 ((datumL x).length ≤ 200020) := ⟨by rw [HDP.out]; have := HP.out; simp; omega⟩
          have hix := index_1
          have hfl := field_1_1
          obtain ⟨pk, hpk⟩ : ∃ pk, ofL [UInt8.ofNat (1 + 1)] = pk := ⟨_, rfl⟩
          obtain ⟨pp, hpp⟩ : ∃ pp, ofL (payL x) = pp := ⟨_, rfl⟩
          have hcat : pk.size + pp.size ≤ 9223372036854775807 := by rw [← hpk, ← hpp, size_ofL, size_ofL]; have := HP.out; simp; omega
          rw [hpk] at hbg
          rw [hpp] at HPU
          have HBG := Aside0.mk hbg
          have hadd : ∀ W, (Op.stringOp .add pk pp).run Try.prog W = .ok (.string (pk ++ pp)) W := fun W => run_string_add_sum W pk pp hcat
          have HPK := Aside0.mk (show pk ++ pp = ofL (datumL x) by rw [← hpk, ← hpp, HDP.out, append_ofL]; rfl)
          clear hbg hpk hpp
          go_wp2
          go_region_held3 (fun W' => W'.cell? ⟨wr.heap.size, 0, none⟩ = some (.int .i64 1) ∧ W'.cell? ⟨wr.heap.size, 1, none⟩ = some (.int .i64 x.f1) ∧ W'.cell? ⟨wr.heap.size, 2, none⟩ = some (.string x.f2) ∧ Below wr.heap.size wr W' ∧ wr.heap.size < W'.heap.size) (first | assumption | exact H.out | exact held_drew H.out | exact held_call hb (by assumption))
            (first | (go_at_call 65; refine (kinds_walk _).mono ?_; rintro e w' ⟨rfl, hb⟩) | (go_at_call 100; refine (HPU.out _).mono ?_; rintro e w' ⟨rfl, hb⟩) | (go_at_call 73; refine (enc_big.calls 2 _ 1 _ _ HBG.out).mono ?_; rintro e w' ⟨rfl, hb⟩))
          rename_i hh
          have HW := Aside0.mk hh.2.2.2.1
          clear hh hb H hix hfl HPU HBG
          rw [HPK.out]
          clear HPK HDP hcat hadd
          obtain ⟨dt, hdt⟩ : ∃ dt, datumL x = dt := ⟨_, rfl⟩
          rw [hdt] at HS HDL ⊢
          clear hdt
          obtain ⟨dv, hdv⟩ : ∃ dv, desc ds i = dv := ⟨_, rfl⟩
          have HF := Aside0.mk ((falls_spec ds i).trans (congrArg some hdv))
          have HN : Aside0 (tgt = (putKeyL ds (i + 1) (l.drop (i + 1))).map (fun y => pre ++ ((if dv then flipL dt else dt) ++ y))) := ⟨by rw [HT.out, HS.out, HV.out, hdv]; simp [Function.comp_def]⟩
          clear hdv HT HS HV
          go_wp2_with fail
          refine (enc_falls.calls A1 c1 ds i dv _ (Kd.C_below HR1.out (HB.out.trans (HW.out.mono HB.out.size))) HC1.out HF.out).mono ?_
          rintro e w2 ⟨rfl, ⟨n1, rfl⟩⟩
          have HW2 := Aside0.mk (pw_below_drewN HW.out n1)
          clear HF HW
          cases dv
          · go_wp2_with fail
            refine (writeString w.heap.size w.heap.size (Lib.byteCells pre) (ofL dt) _ (bld_below HBLD.out HW2.out) (by rw [Lib.byteCells_length, size_ofL]; have := HL.out; have := HDL.out; omega) (Nat.le_trans HB.out.size HW2.out.size)).mono ?_
            rintro e w3 ⟨rfl, hbl, hb3, _, _⟩
            have HBL := Aside0.mk hbl
            have HB3 := Aside0.mk ((HB.out.trans (HW2.out.mono HB.out.size)).trans hb3)
            clear hbl hb3 HW2 HB HBLD
            go_wp2
            go_roundw
            case rel => exact ⟨i + 1, pre ++ dt, by simp, by omega, ⟨by rw [HN.out]; simp⟩, ⟨by have := HL.out; have := HDL.out; rw [List.length_append]; omega⟩, ⟨.inr (by rw [bytes_app]; exact HBL.out)⟩, HB3⟩
            case measure => simp [intOf]; omega
          · go_wp2_with fail
            refine (enc_Flip.calls (ofL dt) (ofL (flipL dt)) _ (by rw [enc_Flip.f, if_pos (by rw [size_ofL]; have := HDL.out; omega), toL_ofL])).mono ?_
            rintro e w4 ⟨rfl, hb4⟩
            have HW4 := Aside0.mk (HW2.out.trans (hb4.mono HW2.out.size))
            clear hb4 HW2
            go_wp2_with fail
            refine (writeString w.heap.size w.heap.size (Lib.byteCells pre) (ofL (flipL dt)) _ (bld_below HBLD.out HW4.out) (by rw [Lib.byteCells_length, size_ofL, flipL, List.length_map]; have := HL.out; have := HDL.out; omega) (Nat.le_trans HB.out.size HW4.out.size)).mono ?_
            rintro e w3 ⟨rfl, hbl, hb3, _, _⟩
            have HBL := Aside0.mk hbl
            have HB3 := Aside0.mk ((HB.out.trans (HW4.out.mono HB.out.size)).trans hb3)
            clear hbl hb3 HW4 HB HBLD
            go_wp2
            go_roundw
            case rel => exact ⟨i + 1, pre ++ flipL dt, by simp, by omega, ⟨by rw [HN.out]; simp⟩, ⟨by have := HL.out; have := HDL.out; rw [List.length_append, flipL, List.length_map]; omega⟩, ⟨.inr (by rw [bytes_app]; exact HBL.out)⟩, HB3⟩
            case measure => simp [intOf]; omega
        · have HPU := Aside0.mk (show ∀ W, Calls Try.prog 103 #[datV 2 x.f1 x.f2] W fun e w' => e = .returned (.string (ofL (payL x))) ∧ Below W.heap.size W w' from fun W => by rw [show ofL (payL x) = ofL (putIntL x.f1) by simp [payL, hk]]; exact put_int _ _ _ _)
          have HDP := Aside0.mk (datum_pay x 2 hk (by decide))
          have hbg := big1 2 (by decide)
          rw [hk] at H
          clear hk HVO
          have HDL : Aside0 ((datumL x).length ≤ 200020) := ⟨by rw [HDP.out]; have := HP.out; simp; omega⟩
          have hix := index_2
          have hfl := field_2_1
          obtain ⟨pk, hpk⟩ : ∃ pk, ofL [UInt8.ofNat (2 + 1)] = pk := ⟨_, rfl⟩
          obtain ⟨pp, hpp⟩ : ∃ pp, ofL (payL x) = pp := ⟨_, rfl⟩
          have hcat : pk.size + pp.size ≤ 9223372036854775807 := by rw [← hpk, ← hpp, size_ofL, size_ofL]; have := HP.out; simp; omega
          rw [hpk] at hbg
          rw [hpp] at HPU
          have HBG := Aside0.mk hbg
          have hadd : ∀ W, (Op.stringOp .add pk pp).run Try.prog W = .ok (.string (pk ++ pp)) W := fun W => run_string_add_sum W pk pp hcat
          have HPK := Aside0.mk (show pk ++ pp = ofL (datumL x) by rw [← hpk, ← hpp, HDP.out, append_ofL]; rfl)
          clear hbg hpk hpp
          go_wp2
          go_region_held3 (fun W' => W'.cell? ⟨wr.heap.size, 0, none⟩ = some (.int .i64 2) ∧ W'.cell? ⟨wr.heap.size, 1, none⟩ = some (.int .i64 x.f1) ∧ W'.cell? ⟨wr.heap.size, 2, none⟩ = some (.string x.f2) ∧ Below wr.heap.size wr W' ∧ wr.heap.size < W'.heap.size) (first | assumption | exact H.out | exact held_drew H.out | exact held_call hb (by assumption))
            (first | (go_at_call 65; refine (kinds_walk _).mono ?_; rintro e w' ⟨rfl, hb⟩) | (go_at_call 103; refine (HPU.out _).mono ?_; rintro e w' ⟨rfl, hb⟩) | (go_at_call 73; refine (enc_big.calls 2 _ 1 _ _ HBG.out).mono ?_; rintro e w' ⟨rfl, hb⟩))
          rename_i hh
          have HW := Aside0.mk hh.2.2.2.1
          clear hh hb H hix hfl HPU HBG
          rw [HPK.out]
          clear HPK HDP hcat hadd
          obtain ⟨dt, hdt⟩ : ∃ dt, datumL x = dt := ⟨_, rfl⟩
          rw [hdt] at HS HDL ⊢
          clear hdt
          obtain ⟨dv, hdv⟩ : ∃ dv, desc ds i = dv := ⟨_, rfl⟩
          have HF := Aside0.mk ((falls_spec ds i).trans (congrArg some hdv))
          have HN : Aside0 (tgt = (putKeyL ds (i + 1) (l.drop (i + 1))).map (fun y => pre ++ ((if dv then flipL dt else dt) ++ y))) := ⟨by rw [HT.out, HS.out, HV.out, hdv]; simp [Function.comp_def]⟩
          clear hdv HT HS HV
          go_wp2_with fail
          refine (enc_falls.calls A1 c1 ds i dv _ (Kd.C_below HR1.out (HB.out.trans (HW.out.mono HB.out.size))) HC1.out HF.out).mono ?_
          rintro e w2 ⟨rfl, ⟨n1, rfl⟩⟩
          have HW2 := Aside0.mk (pw_below_drewN HW.out n1)
          clear HF HW
          cases dv
          · go_wp2_with fail
            refine (writeString w.heap.size w.heap.size (Lib.byteCells pre) (ofL dt) _ (bld_below HBLD.out HW2.out) (by rw [Lib.byteCells_length, size_ofL]; have := HL.out; have := HDL.out; omega) (Nat.le_trans HB.out.size HW2.out.size)).mono ?_
            rintro e w3 ⟨rfl, hbl, hb3, _, _⟩
            have HBL := Aside0.mk hbl
            have HB3 := Aside0.mk ((HB.out.trans (HW2.out.mono HB.out.size)).trans hb3)
            clear hbl hb3 HW2 HB HBLD
            go_wp2
            go_roundw
            case rel => exact ⟨i + 1, pre ++ dt, by simp, by omega, ⟨by rw [HN.out]; simp⟩, ⟨by have := HL.out; have := HDL.out; rw [List.length_append]; omega⟩, ⟨.inr (by rw [bytes_app]; exact HBL.out)⟩, HB3⟩
            case measure => simp [intOf]; omega
          · go_wp2_with fail
            refine (enc_Flip.calls (ofL dt) (ofL (flipL dt)) _ (by rw [enc_Flip.f, if_pos (by rw [size_ofL]; have := HDL.out; omega), toL_ofL])).mono ?_
            rintro e w4 ⟨rfl, hb4⟩
            have HW4 := Aside0.mk (HW2.out.trans (hb4.mono HW2.out.size))
            clear hb4 HW2
            go_wp2_with fail
            refine (writeString w.heap.size w.heap.size (Lib.byteCells pre) (ofL (flipL dt)) _ (bld_below HBLD.out HW4.out) (by rw [Lib.byteCells_length, size_ofL, flipL, List.length_map]; have := HL.out; have := HDL.out; omega) (Nat.le_trans HB.out.size HW4.out.size)).mono ?_
            rintro e w3 ⟨rfl, hbl, hb3, _, _⟩
            have HBL := Aside0.mk hbl
            have HB3 := Aside0.mk ((HB.out.trans (HW4.out.mono HB.out.size)).trans hb3)
            clear hbl hb3 HW4 HB HBLD
            go_wp2
            go_roundw
            case rel => exact ⟨i + 1, pre ++ flipL dt, by simp, by omega, ⟨by rw [HN.out]; simp⟩, ⟨by have := HL.out; have := HDL.out; rw [List.length_append, flipL, List.length_map]; omega⟩, ⟨.inr (by rw [bytes_app]; exact HBL.out)⟩, HB3⟩
            case measure => simp [intOf]; omega
        · have HPU := Aside0.mk (show ∀ W, Calls Try.prog 106 #[datV 3 x.f1 x.f2] W fun e w' => e = .returned (.string (ofL (payL x))) ∧ Below W.heap.size W w' from fun W => by rw [show ofL (payL x) = ofL (escL (toL x.f2)) by simp [payL, hk]]; exact put_txt _ _ _ _ (Nat.le_trans HXS.out (by decide)))
          have HDP := Aside0.mk (datum_pay x 3 hk (by decide))
          have hbg := big1 3 (by decide)
          rw [hk] at H
          clear hk HVO
          have HDL : Aside0 ((datumL x).length ≤ 200020) := ⟨by rw [HDP.out]; have := HP.out; simp; omega⟩
          have hix := index_3
          have hfl := field_3_1
          obtain ⟨pk, hpk⟩ : ∃ pk, ofL [UInt8.ofNat (3 + 1)] = pk := ⟨_, rfl⟩
          obtain ⟨pp, hpp⟩ : ∃ pp, ofL (payL x) = pp := ⟨_, rfl⟩
          have hcat : pk.size + pp.size ≤ 9223372036854775807 := by rw [← hpk, ← hpp, size_ofL, size_ofL]; have := HP.out; simp; omega
          rw [hpk] at hbg
          rw [hpp] at HPU
          have HBG := Aside0.mk hbg
          have hadd : ∀ W, (Op.stringOp .add pk pp).run Try.prog W = .ok (.string (pk ++ pp)) W := fun W => run_string_add_sum W pk pp hcat
          have HPK := Aside0.mk (show pk ++ pp = ofL (datumL x) by rw [← hpk, ← hpp, HDP.out, append_ofL]; rfl)
          clear hbg hpk hpp
          go_wp2
          go_region_held3 (fun W' => W'.cell? ⟨wr.heap.size, 0, none⟩ = some (.int .i64 3) ∧ W'.cell? ⟨wr.heap.size, 1, none⟩ = some (.int .i64 x.f1) ∧ W'.cell? ⟨wr.heap.size, 2, none⟩ = some (.string x.f2) ∧ Below wr.heap.size wr W' ∧ wr.heap.size < W'.heap.size) (first | assumption | exact H.out | exact held_drew H.out | exact held_call hb (by assumption))
            (first | (go_at_call 65; refine (kinds_walk _).mono ?_; rintro e w' ⟨rfl, hb⟩) | (go_at_call 106; refine (HPU.out _).mono ?_; rintro e w' ⟨rfl, hb⟩) | (go_at_call 73; refine (enc_big.calls 2 _ 1 _ _ HBG.out).mono ?_; rintro e w' ⟨rfl, hb⟩))
          rename_i hh
          have HW := Aside0.mk hh.2.2.2.1
          clear hh hb H hix hfl HPU HBG
          rw [HPK.out]
          clear HPK HDP hcat hadd
          obtain ⟨dt, hdt⟩ : ∃ dt, datumL x = dt := ⟨_, rfl⟩
          rw [hdt] at HS HDL ⊢
          clear hdt
          obtain ⟨dv, hdv⟩ : ∃ dv, desc ds i = dv := ⟨_, rfl⟩
          have HF := Aside0.mk ((falls_spec ds i).trans (congrArg some hdv))
          have HN : Aside0 (tgt = (putKeyL ds (i + 1) (l.drop (i + 1))).map (fun y => pre ++ ((if dv then flipL dt else dt) ++ y))) := ⟨by rw [HT.out, HS.out, HV.out, hdv]; simp [Function.comp_def]⟩
          clear hdv HT HS HV
          go_wp2_with fail
          refine (enc_falls.calls A1 c1 ds i dv _ (Kd.C_below HR1.out (HB.out.trans (HW.out.mono HB.out.size))) HC1.out HF.out).mono ?_
          rintro e w2 ⟨rfl, ⟨n1, rfl⟩⟩
          have HW2 := Aside0.mk (pw_below_drewN HW.out n1)
          clear HF HW
          cases dv
          · go_wp2_with fail
            refine (writeString w.heap.size w.heap.size (Lib.byteCells pre) (ofL dt) _ (bld_below HBLD.out HW2.out) (by rw [Lib.byteCells_length, size_ofL]; have := HL.out; have := HDL.out; omega) (Nat.le_trans HB.out.size HW2.out.size)).mono ?_
            rintro e w3 ⟨rfl, hbl, hb3, _, _⟩
            have HBL := Aside0.mk hbl
            have HB3 := Aside0.mk ((HB.out.trans (HW2.out.mono HB.out.size)).trans hb3)
            clear hbl hb3 HW2 HB HBLD
            go_wp2
            go_roundw
            case rel => exact ⟨i + 1, pre ++ dt, by simp, by omega, ⟨by rw [HN.out]; simp⟩, ⟨by have := HL.out; have := HDL.out; rw [List.length_append]; omega⟩, ⟨.inr (by rw [bytes_app]; exact HBL.out)⟩, HB3⟩
            case measure => simp [intOf]; omega
          · go_wp2_with fail
            refine (enc_Flip.calls (ofL dt) (ofL (flipL dt)) _ (by rw [enc_Flip.f, if_pos (by rw [size_ofL]; have := HDL.out; omega), toL_ofL])).mono ?_
            rintro e w4 ⟨rfl, hb4⟩
            have HW4 := Aside0.mk (HW2.out.trans (hb4.mono HW2.out.size))
            clear hb4 HW2
            go_wp2_with fail
            refine (writeString w.heap.size w.heap.size (Lib.byteCells pre) (ofL (flipL dt)) _ (bld_below HBLD.out HW4.out) (by rw [Lib.byteCells_length, size_ofL, flipL, List.length_map]; have := HL.out; have := HDL.out; omega) (Nat.le_trans HB.out.size HW4.out.size)).mono ?_
            rintro e w3 ⟨rfl, hbl, hb3, _, _⟩
            have HBL := Aside0.mk hbl
            have HB3 := Aside0.mk ((HB.out.trans (HW4.out.mono HB.out.size)).trans hb3)
            clear hbl hb3 HW4 HB HBLD
            go_wp2
            go_roundw
            case rel => exact ⟨i + 1, pre ++ flipL dt, by simp, by omega, ⟨by rw [HN.out]; simp⟩, ⟨by have := HL.out; have := HDL.out; rw [List.length_append, flipL, List.length_map]; omega⟩, ⟨.inr (by rw [bytes_app]; exact HBL.out)⟩, HB3⟩
            case measure => simp [intOf]; omega
    · have hie : i = l.length := by omega
      have HN : Aside0 (tgt = some pre) := ⟨by rw [HT.out, hie, List.drop_length]; simp [putKeyL]⟩
      clear HT
      go_wp2_with fail
      refine (string_any w.heap.size w.heap.size pre _ HBLD.out HB.out.size).mono ?_
      rintro e w1 ⟨rfl, hb, _⟩
      have HB2 := Aside0.mk (HB.out.trans hb)
      clear hb
      go_wp2
      go_ret2
      exact ⟨by rw [HN.out]; rfl, HB2.out⟩
theorem enc_PutKey.calls (A0 : Option Addr) (c0 : Nat) (l0 : List (S49)) (A1 : Option Addr) (c1 : Nat) (l1 : List Bool) (r1 : ByteArray) (r2 : Int) (w : World) (hr0 : Kd.C k49 w A0 l0.length l0) (hc0 : l0.length ≤ c0) (hr1 : Kd.C Kd.bool w A1 l1.length l1) (hc1 : l1.length ≤ c1) (h : enc_PutKey.f l0 l1 = some (r1, r2)) :
    Calls Try.prog 39 #[.slice A0 l0.length c0, .slice A1 l1.length c1] w fun e w' => e = .returned (.tuple #[.string r1, .int .i64 r2]) ∧ Below w.heap.size w w' := by
  unfold enc_PutKey.f at h
  split at h
  · rename_i hh
    refine (put_walk l1 A0 A1 c0 c1 l0 w hr0 hc0 hr1 hc1 hh.1 hh.2).mono ?_
    rintro e w' ⟨rfl, hb⟩
    refine ⟨?_, hb⟩
    cases hp : putKeyL l1 0 l0 with
    | none =>
      rw [hp] at h
      simp only [Option.some.injEq, Prod.mk.injEq] at h
      obtain ⟨rfl, rfl⟩ := h
      rfl
    | some x =>
      rw [hp] at h
      simp only [Option.some.injEq, Prod.mk.injEq] at h
      obtain ⟨rfl, rfl⟩ := h
      rfl
  · cases h
end Go.Proofs.Ythpabgiicglbmaa.E
