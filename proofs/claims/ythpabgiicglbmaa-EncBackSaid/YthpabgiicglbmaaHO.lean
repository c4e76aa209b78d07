import Derived.Test.YthpabgiicglbmaaHH
import Derived.RegionTactic
import Derived.Deep.RegionHeld3
namespace Go.Proofs.Ythpabgiicglbmaa.E
set_option linter.unusedVariables false
set_option linter.unusedSimpArgs false
open Go.RowKit Go.Proofs.YthpabgiicglbmaaW.PrintWords Go.Proofs.YthpabgiicglbmaaW.PrintLast Go.Proofs.YthpabgiicglbmaaW.PrintMore

theorem cmpI_spec (a b : Int) : cmp_Compare_int.f a b = some (cmpI a b) := by
  simp only [cmp_Compare_int.f, cmp_isNaN_int.f, Option.bind_some, bne_self_eq_false, Bool.false_eq_true, if_false, cmpI]
  split
  · rfl
  · split <;> rfl
theorem cmpB_spec (a b : ByteArray) : cmp_Compare_string.f a b = some (cmpB a b) := by
  simp only [cmp_Compare_string.f, cmp_isNaN_string.f, Option.bind_some, bne_self_eq_false, Bool.false_eq_true, if_false, cmpB]
  split
  · rfl
  · split <;> rfl
theorem or3 (a b c : Int) : cmp_Or_int.f 4 [a, b, c] = some (if a ≠ 0 then a else if b ≠ 0 then b else c) := by
  have e : wrap64 1 = 1 := by unfold wrap64; omega
  have e2 : wrap64 2 = 2 := by unfold wrap64; omega
  have e3 : wrap64 3 = 3 := by unfold wrap64; omega
  by_cases ha : a = 0
  · by_cases hb : b = 0
    · by_cases hc : c = 0 <;> simp [cmp_Or_int.f, cmp_Or_int.l0, rd, ha, hb, hc, e, e2, e3]
    · simp [cmp_Or_int.f, cmp_Or_int.l0, rd, ha, hb, e]
  · simp [cmp_Or_int.f, cmp_Or_int.l0, rd, ha]
theorem data_spec (a b : S49) : enc_CompareData.f 4 a.f0 a.f1 a.f2 b.f0 b.f1 b.f2 = some (cmpData a b) := by
  simp only [enc_CompareData.f, cmpI_spec, cmpB_spec, Option.bind_some, or3, cmpData]
theorem falls_spec (ds : List Bool) (i : Nat) : enc_falls.f ds i = some (desc ds i) := by
  unfold enc_falls.f
  split
  · rw [if_pos (by omega)]; simp [rdOf, desc]
  · rename_i h
    rw [desc, List.getD_eq_getElem?_getD, List.getElem?_eq_none (by omega)]; rfl
def cmpOne (ds : List Bool) (i : Nat) (x y : S49) : Int := if desc ds i then cmpData y x else cmpData x y

abbrev sV (x : S49) : Value := .agg #[.int .i64 x.f0, .int .i64 x.f1, .string x.f2]
set_option maxRecDepth 100000 in
theorem one_walk (ds : List Bool) (A2 : Option Addr) (c2 : Nat) (d : Nat) (i : Nat) (x y : S49) (w : World) (hr2 : Kd.C Kd.bool w A2 ds.length ds) (hc2 : ds.length ≤ c2) (hbox : w.cell? ⟨d, 0, none⟩ = some (.slice A2 ds.length c2)) :
    Calls Try.prog 70 #[.int .i64 i, sV x, sV y, .pointer (some ⟨d, 0, none⟩)] w fun e w' => e = .returned (.int .i64 (cmpOne ds i x y)) ∧ Below w.heap.size w w' := by
  have hdw := lt_cell hbox
  have HR := Aside0.mk hr2
  have HC := Aside0.mk hc2
  clear hr2 hc2
  obtain ⟨v, hv⟩ : ∃ v, desc ds i = v := ⟨_, rfl⟩
  have HF := Aside0.mk ((falls_spec ds i).trans (congrArg some hv))
  have HX := Aside0.mk (data_spec x y)
  have HY := Aside0.mk (data_spec y x)
  have HV := Aside0.mk hv
  clear hv
  have HB := Aside0.mk ((((Below.refl _ w).alloc (Nat.le_refl _) (.cells #[.int .i64 x.f0, .int .i64 x.f1, .string x.f2] 49)).alloc (by simp) (.cells #[.int .i64 y.f0, .int .i64 y.f1, .string y.f2] 49)))
  go_enter Try.func70, Try.ntmps70
  go_wp2_with fail
  refine (enc_falls.calls A2 c2 ds i v _ (Kd.C_alloc (Kd.C_alloc HR.out _) _) HC.out HF.out).mono ?_
  rintro e w1 ⟨rfl, ⟨n1, rfl⟩⟩
  cases v
  · go_wp2_with fail
    refine (enc_CompareData.calls 4 _ _ _ _ _ _ _ _ HX.out).mono ?_
    rintro e w2 ⟨rfl, hb⟩
    have HB2 := Aside0.mk ((pw_below_drewN HB.out n1).trans (hb.mono (by simp; omega)))
    clear hb
    go_wp2
    go_ret
    exact ⟨by rw [cmpOne, HV.out]; rfl, HB2.out⟩
  · go_wp2_with fail
    refine (enc_CompareData.calls 4 _ _ _ _ _ _ _ _ HY.out).mono ?_
    rintro e w2 ⟨rfl, hb⟩
    have HB2 := Aside0.mk ((pw_below_drewN HB.out n1).trans (hb.mono (by simp; omega)))
    clear hb
    go_wp2
    go_ret
    exact ⟨by rw [cmpOne, HV.out]; rfl, HB2.out⟩

theorem held6 {b : Nat} {w W W' : World} {p0 p1 p2 q0 q1 q2 : Addr} {x0 x1 x2 y0 y1 y2 : Value} (hk : Below W.heap.size W W')
    (h : W.cell? p0 = some x0 ∧ W.cell? p1 = some x1 ∧ W.cell? p2 = some x2 ∧ W.cell? q0 = some y0 ∧ W.cell? q1 = some y1 ∧ W.cell? q2 = some y2 ∧ Below b w W ∧ b ≤ W.heap.size) :
    W'.cell? p0 = some x0 ∧ W'.cell? p1 = some x1 ∧ W'.cell? p2 = some x2 ∧ W'.cell? q0 = some y0 ∧ W'.cell? q1 = some y1 ∧ W'.cell? q2 = some y2 ∧ Below b w W' ∧ b ≤ W'.heap.size := by
  obtain ⟨h0, h1, h2, k0, k1, k2, h3, h4⟩ := h
  have hl : ∀ {p : Addr} {x : Value}, W.cell? p = some x → W'.cell? p = some x := fun {p x} hc => (hk.cell (World.block_lt_of_cell? W p hc)).trans hc
  exact ⟨hl h0, hl h1, hl h2, hl k0, hl k1, hl k2, h3.trans (hk.mono h4), Nat.le_trans h4 hk.size⟩
theorem held6_drew {b : Nat} {w W : World} {p0 p1 p2 q0 q1 q2 : Addr} {x0 x1 x2 y0 y1 y2 : Value}
    (h : W.cell? p0 = some x0 ∧ W.cell? p1 = some x1 ∧ W.cell? p2 = some x2 ∧ W.cell? q0 = some y0 ∧ W.cell? q1 = some y1 ∧ W.cell? q2 = some y2 ∧ Below b w W ∧ b ≤ W.heap.size) :
    W.drew.cell? p0 = some x0 ∧ W.drew.cell? p1 = some x1 ∧ W.drew.cell? p2 = some x2 ∧ W.drew.cell? q0 = some y0 ∧ W.drew.cell? q1 = some y1 ∧ W.drew.cell? q2 = some y2 ∧ Below b w W.drew ∧ b ≤ W.drew.heap.size := held6 (below_drew1 (Below.refl _ W)) h
theorem held6_below {b : Nat} {w W : World} {a0 a1 a2 a3 a4 a5 : Prop} (h : a0 ∧ a1 ∧ a2 ∧ a3 ∧ a4 ∧ a5 ∧ Below b w W ∧ b ≤ W.heap.size) : Below b w W := h.2.2.2.2.2.2.1

theorem cmpKeys_step (ds : List Bool) (i j : Nat) (l0 l1 : List S49) (h0 : i < l0.length) (h1 : i < l1.length) :
    cmpKeys ds j (l0.drop i) (l1.drop i) = if cmpOne ds j (rd_T49 l0 i) (rd_T49 l1 i) ≠ 0 then cmpOne ds j (rd_T49 l0 i) (rd_T49 l1 i) else cmpKeys ds (j + 1) (l0.drop (i + 1)) (l1.drop (i + 1)) := by
  rw [List.drop_eq_getElem_cons h0, List.drop_eq_getElem_cons h1]
  simp [cmpKeys, cmpOne, rd_T49, h0, h1]
theorem cmpKeys_end (ds : List Bool) (j : Nat) (l0 l1 : List S49) (i : Nat) (h0 : i ≤ l0.length) (h1 : i ≤ l1.length) (h : i = l0.length ∨ i = l1.length) :
    cmpKeys ds j (l0.drop i) (l1.drop i) = cmpI l0.length l1.length := by
  rcases h with rfl | rfl
  · rw [List.drop_length]
    cases hd : l1.drop l0.length with
    | nil =>
      have : l1.length ≤ l0.length := List.drop_eq_nil_iff.mp hd
      rw [show l1.length = l0.length by omega]; simp [cmpKeys, cmpI]
    | cons x r =>
      have : l0.length < l1.length := Nat.lt_of_not_le fun hh => by
        rw [List.drop_eq_nil_iff.mpr hh] at hd; cases hd
      simp [cmpKeys, cmpI, this]
  · rw [List.drop_length]
    cases hd : l0.drop l1.length with
    | nil =>
      have : l0.length ≤ l1.length := List.drop_eq_nil_iff.mp hd
      rw [show l1.length = l0.length by omega]; simp [cmpKeys, cmpI]
    | cons x r =>
      have : l1.length < l0.length := Nat.lt_of_not_le fun hh => by
        rw [List.drop_eq_nil_iff.mpr hh] at hd; cases hd
      have h2 : ¬ (l0.length : Int) < l1.length := by omega
      simp [cmpKeys, cmpI, this, h2]

set_option maxRecDepth 100000 in
set_option maxHeartbeats 4000000 in
theorem lists_walk (ds : List Bool) (A0 A1 A2 : Option Addr) (c0 c1 c2 : Nat) (d : Nat) (l0 l1 : List S49) (w : World) (hr0 : Kd.C k49 w A0 l0.length l0) (hc0 : l0.length ≤ c0) (hr1 : Kd.C k49 w A1 l1.length l1) (hc1 : l1.length ≤ c1) (hr2 : Kd.C Kd.bool w A2 ds.length ds) (hc2 : ds.length ≤ c2) (hbox : w.cell? ⟨d, 0, none⟩ = some (.slice A2 ds.length c2)) :
    Calls Try.prog 69 #[.slice A0 l0.length c0, .slice A1 l1.length c1, .func (.func 70) #[] #[.pointer (some ⟨d, 0, none⟩)]] w fun e w' => e = .returned (.int .i64 (cmpKeys ds 0 l0 l1)) ∧ Below w.heap.size w w' := by
  have hm0 := Kd.C_max hr0
  have hm1 := Kd.C_max hr1
  have HONE := Aside0.mk (fun (i : Nat) (x y : S49) (W : World) (hb : Below w.heap.size w W) => one_walk ds A2 c2 d i x y W (Kd.C_below hr2 hb) hc2 ((hb.cell (p := ⟨d, 0, none⟩) (lt_cell hbox)).trans hbox))
  have HR0 := Aside0.mk hr0
  have HR1 := Aside0.mk hr1
  clear hr0 hr1 hr2 hc2 hbox
  generalize htg : cmpKeys ds 0 l0 l1 = tgt
  have HT := Aside0.mk htg
  clear htg
  obtain ⟨m, hm⟩ : ∃ m, min l0.length l1.length = m := ⟨_, rfl⟩
  have HM := Aside0.mk hm
  have hmin : min (l0.length : Int) (l1.length : Int) = (m : Int) := by omega
  clear hm
  go_enter Try.func69, Try.ntmps69
  go_wp2
  all_goals go_loopw [14] (fun v wr => ∃ i : Nat, v = .int .i64 i ∧ i ≤ m ∧ Aside0 (cmpKeys ds i (l0.drop i) (l1.drop i) = tgt) ∧ Aside0 (Below w.heap.size w wr)) (fun v _ => m - (intOf v).toNat)
  case atStart => exact ⟨0, rfl, Nat.zero_le _, HT, ⟨Below.refl _ _⟩⟩
  case atStart => exact ⟨0, rfl, Nat.zero_le _, HT, ⟨Below.refl _ _⟩⟩
  all_goals
    clear HT
    obtain ⟨i, rfl, hi, HT, HB⟩ := hrel
    by_cases hlt : i < m
    · have hi0 : i < l0.length := by have := HM.out; omega
      have hi1 : i < l1.length := by have := HM.out; omega
      have hii : ((i : Int)) < 9223372036854775807 := by omega
      obtain ⟨ad0, hA0, x0, x1, x2⟩ := at_T49 (Kd.C_below HR0.out HB.out) i (by omega) (by omega)
      obtain ⟨ad1, hA1, y0, y1, y2⟩ := at_T49 (Kd.C_below HR1.out HB.out) i (by omega) (by omega)
      rw [Int.toNat_natCast] at x0 x1 x2 y0 y1 y2
      subst hA0 hA1
      obtain ⟨x, hx⟩ : ∃ x, rd_T49 l0 i = x := ⟨_, rfl⟩
      obtain ⟨y, hy⟩ : ∃ y, rd_T49 l1 i = y := ⟨_, rfl⟩
      have HS := Aside0.mk (cmpKeys_step ds i i l0 l1 hi0 hi1)
      rw [hx] at x0 x1 x2 HS
      rw [hy] at y0 y1 y2 HS
      clear hx hy
      go_wp2
      have H : Aside0 (wr.cell? (ad0.add (i * 3)) = some (.int .i64 x.f0) ∧ wr.cell? ⟨(ad0.add (i * 3)).block, (ad0.add (i * 3)).off + 1, none⟩ = some (.int .i64 x.f1) ∧ wr.cell? ⟨(ad0.add (i * 3)).block, (ad0.add (i * 3)).off + 2, none⟩ = some (.string x.f2) ∧ wr.cell? (ad1.add (i * 3)) = some (.int .i64 y.f0) ∧ wr.cell? ⟨(ad1.add (i * 3)).block, (ad1.add (i * 3)).off + 1, none⟩ = some (.int .i64 y.f1) ∧ wr.cell? ⟨(ad1.add (i * 3)).block, (ad1.add (i * 3)).off + 2, none⟩ = some (.string y.f2) ∧ Below w.heap.size w wr ∧ w.heap.size ≤ wr.heap.size) := ⟨⟨x0, x1, x2, y0, y1, y2, HB.out, HB.out.size⟩⟩
      clear x0 x1 x2 y0 y1 y2
      go_region_held3 (fun W' => W'.cell? (ad0.add (i * 3)) = some (.int .i64 x.f0) ∧ W'.cell? ⟨(ad0.add (i * 3)).block, (ad0.add (i * 3)).off + 1, none⟩ = some (.int .i64 x.f1) ∧ W'.cell? ⟨(ad0.add (i * 3)).block, (ad0.add (i * 3)).off + 2, none⟩ = some (.string x.f2) ∧ W'.cell? (ad1.add (i * 3)) = some (.int .i64 y.f0) ∧ W'.cell? ⟨(ad1.add (i * 3)).block, (ad1.add (i * 3)).off + 1, none⟩ = some (.int .i64 y.f1) ∧ W'.cell? ⟨(ad1.add (i * 3)).block, (ad1.add (i * 3)).off + 2, none⟩ = some (.string y.f2) ∧ Below w.heap.size w W' ∧ w.heap.size ≤ W'.heap.size) (first | assumption | exact H.out | exact held6_drew H.out | exact held6 hb (by assumption))
        (first | (go_at_call 70; refine (HONE.out i x y _ (held6_below (by assumption))).mono ?_; rintro e w' ⟨rfl, hb⟩))
      rename_i hh
      have HB2 := Aside0.mk (held6_below hh)
      clear hh hb H HB
      obtain ⟨c, hc⟩ : ∃ c, cmpOne ds i x y = c := ⟨_, rfl⟩
      rw [hc] at HS ⊢
      clear hc
      by_cases hz : c = 0
      · have hzb : (c != 0) = false := by simp [hz]
        have HN : Aside0 (cmpKeys ds (i + 1) (l0.drop (i + 1)) (l1.drop (i + 1)) = tgt) := ⟨by rw [← HT.out, HS.out, if_neg (by simp [hz])]⟩
        clear hz
        go_wp2
        go_roundw
        case rel => exact ⟨i + 1, by simp, by omega, HN, HB2⟩
        case measure => simp [intOf]; omega
      · have hzb : (c != 0) = true := by simp [hz]
        have HN : Aside0 (c = tgt) := ⟨by rw [← HT.out, HS.out, if_pos hz]⟩
        clear hz
        go_wp2
        go_ret
        exact ⟨by rw [← HN.out]; rfl, HB2.out⟩
    · have hge0 : ¬ (i < l0.length ∧ i < l1.length) := by have := HM.out; omega
      have HE := Aside0.mk (cmpKeys_end ds i l0 l1 i (by have := HM.out; omega) (by have := HM.out; omega) (by have := HM.out; omega))
      first
        | (have hx : ¬ i < l0.length := by have := HM.out; omega)
        | (have hx : ¬ i < l1.length := by have := HM.out; omega)
      have HCI := Aside0.mk (cmpI_spec l0.length l1.length)
      go_wp2_with fail
      refine (cmp_Compare_int.calls _ _ _ _ HCI.out).mono ?_
      rintro e w1 ⟨rfl, ⟨n1, rfl⟩⟩
      go_wp2
      go_ret
      exact ⟨by rw [← HT.out, HE.out]; rfl, pw_below_drewN HB.out _⟩
set_option maxRecDepth 100000 in
theorem enc_CompareKeys.calls (A0 : Option Addr) (c0 : Nat) (l0 : List (S49)) (A1 : Option Addr) (c1 : Nat) (l1 : List (S49)) (A2 : Option Addr) (c2 : Nat) (l2 : List Bool) (r : Int) (w : World) (hr0 : Kd.C k49 w A0 l0.length l0) (hc0 : l0.length ≤ c0) (hr1 : Kd.C k49 w A1 l1.length l1) (hc1 : l1.length ≤ c1) (hr2 : Kd.C Kd.bool w A2 l2.length l2) (hc2 : l2.length ≤ c2) (h : enc_CompareKeys.f l0 l1 l2 = some r) :
    Calls Try.prog 37 #[.slice A0 l0.length c0, .slice A1 l1.length c1, .slice A2 l2.length c2] w fun e w' => e = .returned (.int .i64 r) ∧ Below w.heap.size w w' := by
  have hmf : ∀ (fn : Fn) (first cap : Array Value) (w : World), (Instr.makeFunc fn first cap).run Try.prog w = .ok (.func fn first cap) w := fun _ _ _ _ => rfl
  have HL := Aside0.mk (lists_walk l2 A0 A1 A2 c0 c1 c2 w.heap.size l0 l1 (w.alloc (.cells #[.slice A2 l2.length c2] 45)) (Kd.C_alloc hr0 _) hc0 (Kd.C_alloc hr1 _) hc1 (Kd.C_alloc hr2 _) hc2 (by simp [go_sem]))
  obtain rfl := Option.some.inj h
  clear hr0 hr1 hr2 hc0 hc1 hc2 h
  go_enter Try.func37, Try.ntmps37
  go_wp2_with fail
  refine HL.out.mono ?_
  rintro e w1 ⟨rfl, hb⟩
  have HB := Aside0.mk (((Below.refl _ w).alloc (Nat.le_refl _) (.cells #[.slice A2 l2.length c2] 45)).trans (hb.mono (by simp)))
  clear hb
  go_wp2
  go_ret
  exact ⟨rfl, HB.out⟩
end Go.Proofs.Ythpabgiicglbmaa.E
