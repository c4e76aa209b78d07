-- A slim copy of RV, RX, written by wip/tools/prune2.py.
import Derived.Test.YtalncokpbgbccaaUMc
import Derived.Test.YtalncokpbgbccaaUMd
import Derived.Test.YtalncokpbgbccaaUQC
/- The reference's Valid: the walk. -/
namespace Go.Proofs.Ytalncokpbgbccaa.E
set_option linter.unusedVariables false
set_option linter.unusedSimpArgs false
open Go.RowKit Go.Proofs.YtalncokpbgbccaaW.PrintWords Go.Proofs.YtalncokpbgbccaaW.PrintLast Go.Proofs.YtalncokpbgbccaaW.PrintMore
/-- may the entry at place i stand there, as the reference asks -/
def rvAt (l : List S77) (level : Int) (i : Nat) : Bool :=
  (if level = 0 then leafB (l.getD i z77) else (branchB (l.getD i z77) && (decide (i = 0) || (decide (1 ≤ (l.getD i z77).f0.size) && decide ((l.getD i z77).f0.size ≤ 48)))))
  && (decide (i = 0) || Op.bytesLess (l.getD (i - 1) z77).f0.toList (l.getD i z77).f0.toList)
theorem size_list (b : ByteArray) : b.toList.length = b.size := by rw [Lib.toList_data]; rfl
theorem branch_eq (x : S77) : brB x = (decide (x.f0.size ≤ 48) && branchB x) := by
  unfold brB branchB
  cases (x.f1.toList == ([] : List UInt8)) <;> cases (x.f2 == 0) <;> cases (x.f3 == 0) <;> cases pageB x.f4 <;> cases cntB x.f5 <;> simp
theorem rv_all0 (l : List S77) : rvAt l 0 = vAt l 0 := by
  funext i
  simp only [rvAt, vAt, if_pos]
  rw [leafB_eq]
  cases h : (formI (l.getD i z77) == 0)
  · rw [decide_eq_true (by simpa using h)]; rfl
  · rw [decide_eq_false (by simpa using h)]; rfl
theorem rv_allb (l : List S77) (level : Int) (h : ¬ level = 0) (h0 : (l.getD 0 z77).f0.toList.isEmpty = true) : rvAt l level = vAt l level := by
  funext i
  simp only [rvAt, vAt, if_neg h]
  rw [branch_eq]
  by_cases hi : i = 0
  · subst hi
    have : (l.getD 0 z77).f0.size = 0 := by rw [← size_list]; simpa using h0
    rw [decide_eq_true (show (l.getD 0 z77).f0.size ≤ 48 by omega)]
    simp
  · have he : (!(l.getD i z77).f0.toList.isEmpty) = decide (1 ≤ (l.getD i z77).f0.size) := by
      rw [← size_list]
      cases (l.getD i z77).f0.toList <;> simp
    rw [he]
    cases branchB (l.getD i z77) <;> cases decide (1 ≤ (l.getD i z77).f0.size) <;> cases decide ((l.getD i z77).f0.size ≤ 48) <;> simp [hi]
set_option maxRecDepth 100000 in
set_option maxHeartbeats 4000000 in
theorem rv_lv (l : List S77) (A : Option Addr) (c : Nat) (level : Int) (w : World) (hl : inB level 0 20 = false) :
    Calls Try.prog 81 #[.slice A l.length c, .int .i64 level] w fun e w' => e = .returned (.bool false) ∧ Below w.heap.size w w' := by
  rcases (show level < 0 ∨ (¬ level < 0 ∧ 20 < level) by unfold inB at hl; simp at hl; omega) with h | ⟨h, h2⟩
  · have k1 : decide (level < 0) = true := decide_eq_true h
    clear h hl
    go_enter Try.func81, Try.ntmps81
    go_wp2_with fail
    go_ret
    exact ⟨rfl, by repeat (first | exact Below.refl _ _ | apply below_alloc | apply pw_below_drewN | apply below_drew1)⟩
  · have k1 : decide (level < 0) = false := decide_eq_false h
    have k2 : decide (20 < level) = true := decide_eq_true h2
    have k3 : decide (level > 20) = true := decide_eq_true h2
    clear h h2 hl
    go_enter Try.func81, Try.ntmps81
    go_wp2_with fail
    go_ret
    exact ⟨rfl, by repeat (first | exact Below.refl _ _ | apply below_alloc | apply pw_below_drewN | apply below_drew1)⟩
set_option maxRecDepth 100000 in
set_option maxHeartbeats 4000000 in
theorem rv_nil (A : Option Addr) (c : Nat) (w : World) :
    Calls Try.prog 81 #[.slice A 0 c, .int .i64 0] w fun e w' => e = .returned (.bool false) ∧ Below w.heap.size w w' := by
  go_enter Try.func81, Try.ntmps81
  go_wp2_with fail
  go_ret
  exact ⟨rfl, by repeat (first | exact Below.refl _ _ | apply below_alloc | apply pw_below_drewN | apply below_drew1)⟩
set_option maxRecDepth 100000 in
set_option maxHeartbeats 4000000 in
theorem rv_one (l : List S77) (A : Option Addr) (c : Nat) (level : Int) (w : World) (hl : inB level 0 20 = true) (h0 : ¬ level = 0) (hn : l.length < 2) :
    Calls Try.prog 81 #[.slice A l.length c, .int .i64 level] w fun e w' => e = .returned (.bool false) ∧ Below w.heap.size w w' := by
  have hlv : 0 < level ∧ level ≤ 20 := by unfold inB at hl; simp at hl; omega
  have k1 : decide (level < 0) = false := decide_eq_false (by omega)
  have k2 : decide (20 < level) = false := decide_eq_false (by omega)
  have k3 : decide (level > 20) = false := k2
  have k4 : (level == 0) = false := beq_eq_false_iff_ne.mpr (by omega)
  have k5 : decide (0 < level) = true := decide_eq_true hlv.1
  have k6 : decide (level > 0) = true := decide_eq_true hlv.1
  have n1 : decide ((l.length : Int) < 2) = true := decide_eq_true (by omega)
  have n2 : decide (l.length < 2) = true := decide_eq_true hn
  clear hl h0 hn hlv
  go_enter Try.func81, Try.ntmps81
  go_wp2_with fail
  go_ret
  exact ⟨rfl, by repeat (first | exact Below.refl _ _ | apply below_alloc | apply pw_below_drewN | apply below_drew1)⟩
set_option maxRecDepth 100000 in
set_option maxHeartbeats 4000000 in
theorem rv_key (l : List S77) (A : Option Addr) (c : Nat) (level : Int) (w : World) (hr : Kd.C k77 w A l.length l) (hl : inB level 0 20 = true) (h0 : ¬ level = 0) (hn : 2 ≤ l.length) (hk0 : (l.getD 0 z77).f0.toList.isEmpty = false) :
    Calls Try.prog 81 #[.slice A l.length c, .int .i64 level] w fun e w' => e = .returned (.bool false) ∧ Below w.heap.size w w' := by
  have hlv : 0 < level ∧ level ≤ 20 := by unfold inB at hl; simp at hl; omega
  have k1 : decide (level < 0) = false := decide_eq_false (by omega)
  have k2 : decide (20 < level) = false := decide_eq_false (by omega)
  have k3 : decide (level > 20) = false := k2
  have k4 : (level == 0) = false := beq_eq_false_iff_ne.mpr (by omega)
  have k5 : decide (0 < level) = true := decide_eq_true hlv.1
  have k6 : decide (level > 0) = true := decide_eq_true hlv.1
  have n1 : decide ((l.length : Int) < 2) = false := decide_eq_false (by omega)
  have n2 : decide (l.length < 2) = false := decide_eq_false (by omega)
  have hi0 : (0 : Int) < (l.length : Int) := by omega
  have hi1 : 0 < l.length := by omega
  have HLV := Aside0.mk h0
  have HR := Aside0.mk hr
  obtain ⟨ad, rfl, _⟩ := elem_at hr 0 (by omega)
  have HPK := Aside0.mk (fun (W : World) (hB : Below w.heap.size w W) => (show W.cell? ad = some (.string (l.getD 0 z77).f0) by have := prev_key (Kd.C_below hr hB) 0 (by omega); rwa [Nat.zero_mul, Addr.add_zero'] at this))
  have hk0' : ((l.getD 0 z77).f0.toList == ([] : List UInt8)) = false := by cases hh : (l.getD 0 z77).f0.toList <;> simp_all
  obtain ⟨x0, hx0⟩ : ∃ x0, l.getD 0 z77 = x0 := ⟨_, rfl⟩
  rw [hx0] at HPK hk0 hk0'
  clear hx0
  have c0 := HPK.out w (Below.refl _ _)
  clear hr hl h0 hn hlv
  go_enter Try.func81, Try.ntmps81
  go_wp2_with fail
  go_ret
  exact ⟨rfl, by repeat (first | exact Below.refl _ _ | apply below_alloc | apply pw_below_drewN | apply below_drew1)⟩
set_option maxRecDepth 100000 in
set_option maxHeartbeats 4000000 in
theorem rv_0 (l : List S77) (A : Option Addr) (c : Nat) (w : World) (hr : Kd.C k77 w A l.length l) (hlen : l.length ≤ 1000000) (hn : 1 ≤ l.length) :
    Calls Try.prog 81 #[.slice A l.length c, .int .i64 0] w fun e w' => e = .returned (.bool ((List.range l.length).all (rvAt l 0))) ∧ Below w.heap.size w w' := by
  have n1 : decide ((l.length : Int) < 1) = false := decide_eq_false (by omega)
  have n2 : decide (l.length < 1) = false := decide_eq_false (by omega)
  have n3 : decide (l.length = 0) = false := decide_eq_false (by omega)
  have HR := Aside0.mk hr
  have HLEN := Aside0.mk hlen
  clear hlen
  obtain ⟨R, hR⟩ : ∃ R, (List.range l.length).all (rvAt l 0) = R := ⟨_, rfl⟩
  have HRES := Aside0.mk hR
  rw [hR]
  clear hR
  clear hr hn
  go_enter Try.func81, Try.ntmps81
  go_wp2_with fail
  clear n1 n2 n3
  go_loopw [5] (fun i wr => ∃ (k : Nat), k ≤ l.length ∧ i = .int .i64 k ∧ Aside0 (∀ j, j < k → rvAt l 0 j = true) ∧ Aside0 (Below w.heap.size w wr)) (fun i _ => l.length - (intOf i).toNat)
  case atStart => exact ⟨0, Nat.zero_le _, rfl, ⟨fun j hj => by omega⟩, ⟨by repeat (first | exact Below.refl _ _ | apply below_alloc | apply pw_below_drewN | apply below_drew1)⟩⟩
  case round =>
    obtain ⟨k, hk, rfl, HO, HBr⟩ := hrel
    by_cases hlt : k < l.length
    · obtain ⟨ad, hade, _⟩ := elem_at HR.out k hlt
      subst hade
      have HLT := Aside0.mk hlt
      have HELW := Aside0.mk (fun (W' : World) (hb : Below w.heap.size w W') => elem_has HR.out hb k hlt)
      have HKEY := Aside0.mk (fun (W' : World) (hb : Below w.heap.size w W') => prev_key (Kd.C_below HR.out hb) k hlt)
      have HVAL := Aside0.mk (show rvAt l 0 k = (leafB (l.getD k z77) && (decide (k = 0) || Op.bytesLess (l.getD (k - 1) z77).f0.toList (l.getD k z77).f0.toList)) by simp [rvAt])
      obtain ⟨x, hx⟩ : ∃ x, l.getD k z77 = x := ⟨_, rfl⟩
      rw [hx] at HELW HKEY HVAL
      clear hx
      have HNEXT := Aside0.mk (show rvAt l 0 k = true → ∀ j, j < k + 1 → rvAt l 0 j = true from fun hv j hj => by
        by_cases h : j = k
        · subst h; exact hv
        · exact HO.out j (by omega))
      have hk1 : (k : Int) < (l.length : Int) := by omega
      have hk2 : (0 : Int) ≤ (k : Int) := by omega
      have hF := fun (W : World) => leaf_c x W
      cases hbr : leafB x
      · rw [hbr] at hF
        have HCE := Aside0.mk hF
        have HV := Aside0.mk (show rvAt l 0 k = false by rw [HVAL.out, hbr]; rfl)
        clear hF hbr hk
        have hkw : wrap64 ((k : Int) + 1) = (k : Int) + 1 := w64 _ (by have := HLEN.out; have := HLT.out; (try clear hw1 hw2); omega) (by have := HLEN.out; have := HLT.out; (try clear hw1 hw2); omega)
        clear hlt
        go_wp2_with (first
          | ((with_reducible refine gate_dst (N := 49) rfl ?_); refine wpList_load_elG (by rfl) (.tmp 48) rfl _ rfl x (HELW.out _ HBr.out) ?_)
          | (go_at_call 87; refine (HCE.out _).mono ?_; rintro e w3 ⟨rfl, hb⟩; have HB3 := Aside0.mk (below_tr3 (w := w) HBr.out hb); (clear hb); have hq0 := HKEY.out _ HB3.out; (try have hp0 := HPREV.out _ HB3.out)))
        repeat (go_quiet (fail); try go_wp2)
        go_ret
        refine ⟨?_, by first | exact HB3.out | exact below_drew1 HB3.out | exact pw_below_drewN HB3.out _⟩
        rw [show R = false from by rw [← HRES.out, all_not _ _ k HLT.out HV.out]] <;> rfl
      · rw [hbr] at hF
        have HCE := Aside0.mk hF
        have HVAL2 := Aside0.mk (show rvAt l 0 k = (decide (k = 0) || Op.bytesLess (l.getD (k - 1) z77).f0.toList x.f0.toList) by rw [HVAL.out, hbr]; simp)
        clear hF hbr HVAL hk
        by_cases hK : k = 0
        · have HV := Aside0.mk (show rvAt l 0 k = true by rw [HVAL2.out, decide_eq_true hK]; rfl)
          have q3 : decide ((k : Int) > 0) = false := decide_eq_false (by omega)
          have q4 : decide (0 < (k : Int)) = false := decide_eq_false (by omega)
          have q5 : decide (0 < k) = false := decide_eq_false (by omega)
          clear hK
          have hkw : wrap64 ((k : Int) + 1) = (k : Int) + 1 := w64 _ (by have := HLEN.out; have := HLT.out; (try clear hw1 hw2); omega) (by have := HLEN.out; have := HLT.out; (try clear hw1 hw2); omega)
          clear hlt
          go_wp2_with (first
            | ((with_reducible refine gate_dst (N := 49) rfl ?_); refine wpList_load_elG (by rfl) (.tmp 48) rfl _ rfl x (HELW.out _ HBr.out) ?_)
            | (go_at_call 87; refine (HCE.out _).mono ?_; rintro e w3 ⟨rfl, hb⟩; have HB3 := Aside0.mk (below_tr3 (w := w) HBr.out hb); (clear hb); have hq0 := HKEY.out _ HB3.out; (try have hp0 := HPREV.out _ HB3.out)))
          repeat (go_quiet (fail); try go_wp2)
          go_roundw
          case rel => exact ⟨k + 1, by have := HLT.out; clear hkw; omega, by rw [hkw]; simp, ⟨HNEXT.out HV.out⟩, ⟨by first | exact HB3.out | exact below_drew1 HB3.out | exact pw_below_drewN HB3.out _⟩⟩
          case measure => (have h9 := HLT.out; rw [hkw]; clear hkw; show l.length - ((k : Int) + 1).toNat < l.length - (k : Int).toNat; omega)
        · have q3 : decide ((k : Int) > 0) = true := decide_eq_true (by omega)
          have q4 : decide (0 < (k : Int)) = true := decide_eq_true (by omega)
          have q5 : decide (0 < k) = true := decide_eq_true (by omega)
          obtain ⟨p, hp⟩ : ∃ p : Nat, k = p + 1 := ⟨k - 1, by omega⟩
          have hw4 : p < l.length := by omega
          have hw6 : (p : Int) < (l.length : Int) := by omega
          have hw7 : 0 ≤ (p : Int) := by omega
          have hpk : k - 1 = p := by omega
          rw [hpk, decide_eq_false hK] at HVAL2
          obtain ⟨y, hyy⟩ : ∃ y, l.getD p z77 = y := ⟨_, rfl⟩
          have HPREV := Aside0.mk (fun (W : World) (hB : Below w.heap.size w W) => prev_key (Kd.C_below HR.out hB) p hw4)
          rw [hyy] at HPREV HVAL2
          have hw2 : wrap64 ((k : Int) - 1) = (p : Int) := by rw [w64 _ (by have := HLEN.out; omega) (by have := HLEN.out; omega)]; omega
          have hw1 : IntKind.i64.wrap ((k : Int) - 1) = (p : Int) := by rw [i64w _ (by have := HLEN.out; clear hw2; omega) (by have := HLEN.out; clear hw2; omega)]; clear hw2; omega
          clear hyy hp hpk hK
          cases hL : Op.bytesLess y.f0.toList x.f0.toList
          · cases hM : Op.bytesLess x.f0.toList y.f0.toList
            · have hE : (x.f0.toList == y.f0.toList) = true := by have := less_total x.f0.toList y.f0.toList; rw [hM, hL] at this; simpa using this
              have HV := Aside0.mk (show rvAt l 0 k = false by rw [HVAL2.out, hL]; rfl)
              have hkw : wrap64 ((k : Int) + 1) = (k : Int) + 1 := w64 _ (by have := HLEN.out; have := HLT.out; (try clear hw1 hw2); omega) (by have := HLEN.out; have := HLT.out; (try clear hw1 hw2); omega)
              clear hlt
              go_wp2_with (first
                | ((with_reducible refine gate_dst (N := 49) rfl ?_); refine wpList_load_elG (by rfl) (.tmp 48) rfl _ rfl x (HELW.out _ HBr.out) ?_)
                | (go_at_call 87; refine (HCE.out _).mono ?_; rintro e w3 ⟨rfl, hb⟩; have HB3 := Aside0.mk (below_tr3 (w := w) HBr.out hb); (clear hb); have hq0 := HKEY.out _ HB3.out; (try have hp0 := HPREV.out _ HB3.out)))
              repeat (go_quiet (fail); try go_wp2)
              go_ret
              refine ⟨?_, by first | exact HB3.out | exact below_drew1 HB3.out | exact pw_below_drewN HB3.out _⟩
              rw [show R = false from by rw [← HRES.out, all_not _ _ k HLT.out HV.out]] <;> rfl
            · have HV := Aside0.mk (show rvAt l 0 k = false by rw [HVAL2.out, hL]; rfl)
              have hkw : wrap64 ((k : Int) + 1) = (k : Int) + 1 := w64 _ (by have := HLEN.out; have := HLT.out; (try clear hw1 hw2); omega) (by have := HLEN.out; have := HLT.out; (try clear hw1 hw2); omega)
              clear hlt
              go_wp2_with (first
                | ((with_reducible refine gate_dst (N := 49) rfl ?_); refine wpList_load_elG (by rfl) (.tmp 48) rfl _ rfl x (HELW.out _ HBr.out) ?_)
                | (go_at_call 87; refine (HCE.out _).mono ?_; rintro e w3 ⟨rfl, hb⟩; have HB3 := Aside0.mk (below_tr3 (w := w) HBr.out hb); (clear hb); have hq0 := HKEY.out _ HB3.out; (try have hp0 := HPREV.out _ HB3.out)))
              repeat (go_quiet (fail); try go_wp2)
              go_ret
              refine ⟨?_, by first | exact HB3.out | exact below_drew1 HB3.out | exact pw_below_drewN HB3.out _⟩
              rw [show R = false from by rw [← HRES.out, all_not _ _ k HLT.out HV.out]] <;> rfl
          · have hcmp : (Op.bytesLess x.f0.toList y.f0.toList || x.f0.toList == y.f0.toList) = false := by rw [less_total, hL]; rfl
            obtain ⟨hM, hE⟩ : Op.bytesLess x.f0.toList y.f0.toList = false ∧ (x.f0.toList == y.f0.toList) = false := by simpa only [Bool.or_eq_false_iff] using hcmp
            clear hcmp
            have HV := Aside0.mk (show rvAt l 0 k = true by rw [HVAL2.out, hL]; rfl)
            have hkw : wrap64 ((k : Int) + 1) = (k : Int) + 1 := w64 _ (by have := HLEN.out; have := HLT.out; (try clear hw1 hw2); omega) (by have := HLEN.out; have := HLT.out; (try clear hw1 hw2); omega)
            clear hlt
            go_wp2_with (first
              | ((with_reducible refine gate_dst (N := 49) rfl ?_); refine wpList_load_elG (by rfl) (.tmp 48) rfl _ rfl x (HELW.out _ HBr.out) ?_)
              | (go_at_call 87; refine (HCE.out _).mono ?_; rintro e w3 ⟨rfl, hb⟩; have HB3 := Aside0.mk (below_tr3 (w := w) HBr.out hb); (clear hb); have hq0 := HKEY.out _ HB3.out; (try have hp0 := HPREV.out _ HB3.out)))
            repeat (go_quiet (fail); try go_wp2)
            go_roundw
            case rel => exact ⟨k + 1, by have := HLT.out; clear hkw; omega, by rw [hkw]; simp, ⟨HNEXT.out HV.out⟩, ⟨by first | exact HB3.out | exact below_drew1 HB3.out | exact pw_below_drewN HB3.out _⟩⟩
            case measure => (have h9 := HLT.out; rw [hkw]; clear hkw; show l.length - ((k : Int) + 1).toNat < l.length - (k : Int).toNat; omega)
    · obtain rfl : k = l.length := by omega
      have HTT := Aside0.mk (show R = true by rw [← HRES.out]; exact all_to _ _ HO.out)
      go_wp2
      go_ret
      refine ⟨?_, HBr.out⟩
      rw [HTT.out] <;> rfl
set_option maxRecDepth 100000 in
set_option maxHeartbeats 4000000 in
theorem rv_b (l : List S77) (A : Option Addr) (c : Nat) (level : Int) (w : World) (hr : Kd.C k77 w A l.length l) (hlen : l.length ≤ 1000000) (hl : inB level 0 20 = true) (h0 : ¬ level = 0) (hn : 2 ≤ l.length) (hk0 : (l.getD 0 z77).f0.toList.isEmpty = true) :
    Calls Try.prog 81 #[.slice A l.length c, .int .i64 level] w fun e w' => e = .returned (.bool ((List.range l.length).all (rvAt l level))) ∧ Below w.heap.size w w' := by
  have HLEN := Aside0.mk hlen
  clear hlen
  obtain ⟨R, hR⟩ : ∃ R, (List.range l.length).all (rvAt l level) = R := ⟨_, rfl⟩
  have HRES := Aside0.mk hR
  rw [hR]
  clear hR
  have hlv : 0 < level ∧ level ≤ 20 := by unfold inB at hl; simp at hl; omega
  have k1 : decide (level < 0) = false := decide_eq_false (by omega)
  have k2 : decide (20 < level) = false := decide_eq_false (by omega)
  have k3 : decide (level > 20) = false := k2
  have k4 : (level == 0) = false := beq_eq_false_iff_ne.mpr (by omega)
  have k5 : decide (0 < level) = true := decide_eq_true hlv.1
  have k6 : decide (level > 0) = true := decide_eq_true hlv.1
  have n1 : decide ((l.length : Int) < 2) = false := decide_eq_false (by omega)
  have n2 : decide (l.length < 2) = false := decide_eq_false (by omega)
  have hi0 : (0 : Int) < (l.length : Int) := by omega
  have hi1 : 0 < l.length := by omega
  have HLV := Aside0.mk h0
  have HR := Aside0.mk hr
  obtain ⟨ad, rfl, _⟩ := elem_at hr 0 (by omega)
  have HPK := Aside0.mk (fun (W : World) (hB : Below w.heap.size w W) => (show W.cell? ad = some (.string (l.getD 0 z77).f0) by have := prev_key (Kd.C_below hr hB) 0 (by omega); rwa [Nat.zero_mul, Addr.add_zero'] at this))
  have hk0' : ((l.getD 0 z77).f0.toList == ([] : List UInt8)) = true := by cases hh : (l.getD 0 z77).f0.toList <;> simp_all
  obtain ⟨x0, hx0⟩ : ∃ x0, l.getD 0 z77 = x0 := ⟨_, rfl⟩
  rw [hx0] at HPK hk0 hk0'
  clear hx0
  have c0 := HPK.out w (Below.refl _ _)
  clear hr hl h0 hn hlv
  go_enter Try.func81, Try.ntmps81
  go_wp2_with fail
  clear n1 n2 c0 hi0 hi1 hk0 hk0'
  go_loopw [5] (fun i wr => ∃ (k : Nat), k ≤ l.length ∧ i = .int .i64 k ∧ Aside0 (∀ j, j < k → rvAt l level j = true) ∧ Aside0 (Below w.heap.size w wr)) (fun i _ => l.length - (intOf i).toNat)
  case atStart => exact ⟨0, Nat.zero_le _, rfl, ⟨fun j hj => by omega⟩, ⟨by repeat (first | exact Below.refl _ _ | apply below_alloc | apply pw_below_drewN | apply below_drew1)⟩⟩
  case round =>
    obtain ⟨k, hk, rfl, HO, HBr⟩ := hrel
    by_cases hlt : k < l.length
    · obtain ⟨ad, hade, _⟩ := elem_at HR.out k hlt
      obtain rfl := Option.some.inj hade
      have HLT := Aside0.mk hlt
      have HELW := Aside0.mk (fun (W' : World) (hb : Below w.heap.size w W') => elem_has HR.out hb k hlt)
      have HKEY := Aside0.mk (fun (W' : World) (hb : Below w.heap.size w W') => prev_key (Kd.C_below HR.out hb) k hlt)
      have HVAL := Aside0.mk (show rvAt l level k = ((branchB (l.getD k z77) && (decide (k = 0) || (decide (1 ≤ (l.getD k z77).f0.size) && decide ((l.getD k z77).f0.size ≤ 48)))) && (decide (k = 0) || Op.bytesLess (l.getD (k - 1) z77).f0.toList (l.getD k z77).f0.toList)) by simp [rvAt, HLV.out])
      obtain ⟨x, hx⟩ : ∃ x, l.getD k z77 = x := ⟨_, rfl⟩
      rw [hx] at HELW HKEY HVAL
      clear hx
      have HNEXT := Aside0.mk (show rvAt l level k = true → ∀ j, j < k + 1 → rvAt l level j = true from fun hv j hj => by
        by_cases h : j = k
        · subst h; exact hv
        · exact HO.out j (by omega))
      have hk1 : (k : Int) < (l.length : Int) := by omega
      have hk2 : (0 : Int) ≤ (k : Int) := by omega
      have hF := fun (W : World) => branch_c x W
      cases hbr : branchB x
      · rw [hbr] at hF
        have HCE := Aside0.mk hF
        have HV := Aside0.mk (show rvAt l level k = false by rw [HVAL.out, hbr]; rfl)
        clear hF hbr hk
        have hkw : wrap64 ((k : Int) + 1) = (k : Int) + 1 := w64 _ (by have := HLEN.out; have := HLT.out; (try clear hw1 hw2); omega) (by have := HLEN.out; have := HLT.out; (try clear hw1 hw2); omega)
        clear hlt
        go_wp2_with (first
          | ((with_reducible refine gate_dst (N := 60) rfl ?_); refine wpList_load_elG (by rfl) (.tmp 59) rfl _ rfl x (HELW.out _ HBr.out) ?_)
          | (go_at_call 88; refine (HCE.out _).mono ?_; rintro e w3 ⟨rfl, hb⟩; have HB3 := Aside0.mk (below_tr3 (w := w) HBr.out hb); (clear hb); have hq0 := HKEY.out _ HB3.out; (try have hp0 := HPREV.out _ HB3.out)))
        repeat (go_quiet (fail); try go_wp2)
        go_ret
        refine ⟨?_, by first | exact HB3.out | exact below_drew1 HB3.out | exact pw_below_drewN HB3.out _⟩
        rw [show R = false from by rw [← HRES.out, all_not _ _ k HLT.out HV.out]] <;> rfl
      · rw [hbr] at hF
        have HCE := Aside0.mk hF
        have HVAL1 := Aside0.mk (show rvAt l level k = ((decide (k = 0) || (decide (1 ≤ x.f0.size) && decide (x.f0.size ≤ 48))) && (decide (k = 0) || Op.bytesLess (l.getD (k - 1) z77).f0.toList x.f0.toList)) by rw [HVAL.out, hbr]; simp)
        clear hF hbr HVAL hk
        by_cases hK : k = 0
        · have HV := Aside0.mk (show rvAt l level k = true by rw [HVAL1.out, decide_eq_true hK]; rfl)
          have q3 : decide ((k : Int) > 0) = false := decide_eq_false (by omega)
          have q4 : decide (0 < (k : Int)) = false := decide_eq_false (by omega)
          have q5 : decide (0 < k) = false := decide_eq_false (by omega)
          clear hK
          have hkw : wrap64 ((k : Int) + 1) = (k : Int) + 1 := w64 _ (by have := HLEN.out; have := HLT.out; (try clear hw1 hw2); omega) (by have := HLEN.out; have := HLT.out; (try clear hw1 hw2); omega)
          clear hlt
          go_wp2_with (first
            | ((with_reducible refine gate_dst (N := 60) rfl ?_); refine wpList_load_elG (by rfl) (.tmp 59) rfl _ rfl x (HELW.out _ HBr.out) ?_)
            | (go_at_call 88; refine (HCE.out _).mono ?_; rintro e w3 ⟨rfl, hb⟩; have HB3 := Aside0.mk (below_tr3 (w := w) HBr.out hb); (clear hb); have hq0 := HKEY.out _ HB3.out; (try have hp0 := HPREV.out _ HB3.out)))
          repeat (go_quiet (fail); try go_wp2)
          go_roundw
          case rel => exact ⟨k + 1, by have := HLT.out; clear hkw; omega, by rw [hkw]; simp, ⟨HNEXT.out HV.out⟩, ⟨by first | exact HB3.out | exact below_drew1 HB3.out | exact pw_below_drewN HB3.out _⟩⟩
          case measure => (have h9 := HLT.out; rw [hkw]; clear hkw; show l.length - ((k : Int) + 1).toNat < l.length - (k : Int).toNat; omega)
        · have q3 : decide ((k : Int) > 0) = true := decide_eq_true (by omega)
          have q4 : decide (0 < (k : Int)) = true := decide_eq_true (by omega)
          have q5 : decide (0 < k) = true := decide_eq_true (by omega)
          by_cases hA : x.f0.size < 1
          · have HV := Aside0.mk (show rvAt l level k = false by rw [HVAL1.out, decide_eq_false hK, decide_eq_false (show ¬ 1 ≤ x.f0.size by omega)]; rfl)
            have s1 : decide ((x.f0.size : Int) < 1) = true := decide_eq_true (by omega)
            have s2 : decide (x.f0.size < 1) = true := decide_eq_true (by omega)
            clear hA hK
            have hkw : wrap64 ((k : Int) + 1) = (k : Int) + 1 := w64 _ (by have := HLEN.out; have := HLT.out; (try clear hw1 hw2); omega) (by have := HLEN.out; have := HLT.out; (try clear hw1 hw2); omega)
            clear hlt
            go_wp2_with (first
              | ((with_reducible refine gate_dst (N := 60) rfl ?_); refine wpList_load_elG (by rfl) (.tmp 59) rfl _ rfl x (HELW.out _ HBr.out) ?_)
              | (go_at_call 88; refine (HCE.out _).mono ?_; rintro e w3 ⟨rfl, hb⟩; have HB3 := Aside0.mk (below_tr3 (w := w) HBr.out hb); (clear hb); have hq0 := HKEY.out _ HB3.out; (try have hp0 := HPREV.out _ HB3.out)))
            repeat (go_quiet (fail); try go_wp2)
            go_ret
            refine ⟨?_, by first | exact HB3.out | exact below_drew1 HB3.out | exact pw_below_drewN HB3.out _⟩
            rw [show R = false from by rw [← HRES.out, all_not _ _ k HLT.out HV.out]] <;> rfl
          · by_cases hB : 48 < x.f0.size
            · have HV := Aside0.mk (show rvAt l level k = false by rw [HVAL1.out, decide_eq_false hK, decide_eq_false (show ¬ x.f0.size ≤ 48 by omega)]; simp)
              have s1 : decide ((x.f0.size : Int) < 1) = false := decide_eq_false (by omega)
              have s2 : decide (x.f0.size < 1) = false := decide_eq_false (by omega)
              have s3 : decide ((48 : Int) < (x.f0.size : Int)) = true := decide_eq_true (by omega)
              have s4 : decide ((x.f0.size : Int) > 48) = true := decide_eq_true (by omega)
              clear hA hB hK
              have hkw : wrap64 ((k : Int) + 1) = (k : Int) + 1 := w64 _ (by have := HLEN.out; have := HLT.out; (try clear hw1 hw2); omega) (by have := HLEN.out; have := HLT.out; (try clear hw1 hw2); omega)
              clear hlt
              go_wp2_with (first
                | ((with_reducible refine gate_dst (N := 60) rfl ?_); refine wpList_load_elG (by rfl) (.tmp 59) rfl _ rfl x (HELW.out _ HBr.out) ?_)
                | (go_at_call 88; refine (HCE.out _).mono ?_; rintro e w3 ⟨rfl, hb⟩; have HB3 := Aside0.mk (below_tr3 (w := w) HBr.out hb); (clear hb); have hq0 := HKEY.out _ HB3.out; (try have hp0 := HPREV.out _ HB3.out)))
              repeat (go_quiet (fail); try go_wp2)
              go_ret
              refine ⟨?_, by first | exact HB3.out | exact below_drew1 HB3.out | exact pw_below_drewN HB3.out _⟩
              rw [show R = false from by rw [← HRES.out, all_not _ _ k HLT.out HV.out]] <;> rfl
            · have HVAL2 := Aside0.mk (show rvAt l level k = (decide (k = 0) || Op.bytesLess (l.getD (k - 1) z77).f0.toList x.f0.toList) by rw [HVAL1.out, decide_eq_true (show 1 ≤ x.f0.size by omega), decide_eq_true (show x.f0.size ≤ 48 by omega)]; simp)
              have s1 : decide ((x.f0.size : Int) < 1) = false := decide_eq_false (by omega)
              have s2 : decide (x.f0.size < 1) = false := decide_eq_false (by omega)
              have s3 : decide ((48 : Int) < (x.f0.size : Int)) = false := decide_eq_false (by omega)
              have s4 : decide ((x.f0.size : Int) > 48) = false := decide_eq_false (by omega)
              clear hA hB HVAL1
              obtain ⟨p, hp⟩ : ∃ p : Nat, k = p + 1 := ⟨k - 1, by omega⟩
              have hw4 : p < l.length := by omega
              have hw6 : (p : Int) < (l.length : Int) := by omega
              have hw7 : 0 ≤ (p : Int) := by omega
              have hpk : k - 1 = p := by omega
              rw [hpk, decide_eq_false hK] at HVAL2
              obtain ⟨y, hyy⟩ : ∃ y, l.getD p z77 = y := ⟨_, rfl⟩
              have HPREV := Aside0.mk (fun (W : World) (hB : Below w.heap.size w W) => prev_key (Kd.C_below HR.out hB) p hw4)
              rw [hyy] at HPREV HVAL2
              have hw2 : wrap64 ((k : Int) - 1) = (p : Int) := by rw [w64 _ (by have := HLEN.out; omega) (by have := HLEN.out; omega)]; omega
              have hw1 : IntKind.i64.wrap ((k : Int) - 1) = (p : Int) := by rw [i64w _ (by have := HLEN.out; clear hw2; omega) (by have := HLEN.out; clear hw2; omega)]; clear hw2; omega
              clear hyy hp hpk hK
              cases hL : Op.bytesLess y.f0.toList x.f0.toList
              · cases hM : Op.bytesLess x.f0.toList y.f0.toList
                · have hE : (x.f0.toList == y.f0.toList) = true := by have := less_total x.f0.toList y.f0.toList; rw [hM, hL] at this; simpa using this
                  have HV := Aside0.mk (show rvAt l level k = false by rw [HVAL2.out, hL]; rfl)
                  have hkw : wrap64 ((k : Int) + 1) = (k : Int) + 1 := w64 _ (by have := HLEN.out; have := HLT.out; (try clear hw1 hw2); omega) (by have := HLEN.out; have := HLT.out; (try clear hw1 hw2); omega)
                  clear hlt
                  go_wp2_with (first
                    | ((with_reducible refine gate_dst (N := 60) rfl ?_); refine wpList_load_elG (by rfl) (.tmp 59) rfl _ rfl x (HELW.out _ HBr.out) ?_)
                    | (go_at_call 88; refine (HCE.out _).mono ?_; rintro e w3 ⟨rfl, hb⟩; have HB3 := Aside0.mk (below_tr3 (w := w) HBr.out hb); (clear hb); have hq0 := HKEY.out _ HB3.out; (try have hp0 := HPREV.out _ HB3.out)))
                  repeat (go_quiet (fail); try go_wp2)
                  go_ret
                  refine ⟨?_, by first | exact HB3.out | exact below_drew1 HB3.out | exact pw_below_drewN HB3.out _⟩
                  rw [show R = false from by rw [← HRES.out, all_not _ _ k HLT.out HV.out]] <;> rfl
                · have HV := Aside0.mk (show rvAt l level k = false by rw [HVAL2.out, hL]; rfl)
                  have hkw : wrap64 ((k : Int) + 1) = (k : Int) + 1 := w64 _ (by have := HLEN.out; have := HLT.out; (try clear hw1 hw2); omega) (by have := HLEN.out; have := HLT.out; (try clear hw1 hw2); omega)
                  clear hlt
                  go_wp2_with (first
                    | ((with_reducible refine gate_dst (N := 60) rfl ?_); refine wpList_load_elG (by rfl) (.tmp 59) rfl _ rfl x (HELW.out _ HBr.out) ?_)
                    | (go_at_call 88; refine (HCE.out _).mono ?_; rintro e w3 ⟨rfl, hb⟩; have HB3 := Aside0.mk (below_tr3 (w := w) HBr.out hb); (clear hb); have hq0 := HKEY.out _ HB3.out; (try have hp0 := HPREV.out _ HB3.out)))
                  repeat (go_quiet (fail); try go_wp2)
                  go_ret
                  refine ⟨?_, by first | exact HB3.out | exact below_drew1 HB3.out | exact pw_below_drewN HB3.out _⟩
                  rw [show R = false from by rw [← HRES.out, all_not _ _ k HLT.out HV.out]] <;> rfl
              · have hcmp : (Op.bytesLess x.f0.toList y.f0.toList || x.f0.toList == y.f0.toList) = false := by rw [less_total, hL]; rfl
                obtain ⟨hM, hE⟩ : Op.bytesLess x.f0.toList y.f0.toList = false ∧ (x.f0.toList == y.f0.toList) = false := by simpa only [Bool.or_eq_false_iff] using hcmp
                clear hcmp
                have HV := Aside0.mk (show rvAt l level k = true by rw [HVAL2.out, hL]; rfl)
                have hkw : wrap64 ((k : Int) + 1) = (k : Int) + 1 := w64 _ (by have := HLEN.out; have := HLT.out; (try clear hw1 hw2); omega) (by have := HLEN.out; have := HLT.out; (try clear hw1 hw2); omega)
                clear hlt
                go_wp2_with (first
                  | ((with_reducible refine gate_dst (N := 60) rfl ?_); refine wpList_load_elG (by rfl) (.tmp 59) rfl _ rfl x (HELW.out _ HBr.out) ?_)
                  | (go_at_call 88; refine (HCE.out _).mono ?_; rintro e w3 ⟨rfl, hb⟩; have HB3 := Aside0.mk (below_tr3 (w := w) HBr.out hb); (clear hb); have hq0 := HKEY.out _ HB3.out; (try have hp0 := HPREV.out _ HB3.out)))
                repeat (go_quiet (fail); try go_wp2)
                go_roundw
                case rel => exact ⟨k + 1, by have := HLT.out; clear hkw; omega, by rw [hkw]; simp, ⟨HNEXT.out HV.out⟩, ⟨by first | exact HB3.out | exact below_drew1 HB3.out | exact pw_below_drewN HB3.out _⟩⟩
                case measure => (have h9 := HLT.out; rw [hkw]; clear hkw; show l.length - ((k : Int) + 1).toNat < l.length - (k : Int).toNat; omega)
    · obtain rfl : k = l.length := by omega
      have HTT := Aside0.mk (show R = true by rw [← HRES.out]; exact all_to _ _ HO.out)
      go_wp2
      go_ret
      refine ⟨?_, HBr.out⟩
      rw [HTT.out] <;> rfl
theorem rvalid_c (l : List S77) (A : Option Addr) (c : Nat) (level : Int) (w : World) (hr : Kd.C k77 w A l.length l) (hlen : l.length ≤ 1000000) :
    Calls Try.prog 81 #[.slice A l.length c, .int .i64 level] w fun e w' => e = .returned (.bool (validL l level)) ∧ Below w.heap.size w w' := by
  cases hl : inB level 0 20 with
  | false => rw [show validL l level = false by simp [validL, hl]]; exact rv_lv l A c level w hl
  | true =>
    by_cases hz : level = 0
    · subst hz
      by_cases h0 : l.length = 0
      · rw [show validL l 0 = false by simp [validL, h0], h0]; exact rv_nil A c w
      · rw [show validL l 0 = (List.range l.length).all (vAt l 0) by simp [validL, hl, h0], ← rv_all0]
        exact rv_0 l A c w hr hlen (by omega)
    · by_cases h1 : l.length < 2
      · rw [show validL l level = false by unfold validL; rw [decide_eq_false hz, decide_eq_false (show ¬ 2 ≤ l.length by omega)]; simp]; exact rv_one l A c level w hl hz h1
      · cases hk : (l.getD 0 z77).f0.toList.isEmpty with
        | false =>
          rw [show validL l level = false by unfold validL; rw [hk]; simp [hz]]
          exact rv_key l A c level w hr hl hz (by omega) hk
        | true =>
          rw [show validL l level = (List.range l.length).all (vAt l level) by unfold validL; rw [hk, hl, decide_eq_false (show ¬ l.length = 0 by omega), decide_eq_true (show 2 ≤ l.length by omega)]; simp, ← rv_allb l level hz hk]
          exact rv_b l A c level w hr hlen hl hz (by omega) hk
end Go.Proofs.Ytalncokpbgbccaa.E

/- The reference's Fits, Small and Check: the walks. -/
namespace Go.Proofs.Ytalncokpbgbccaa.E
set_option linter.unusedVariables false
set_option linter.unusedSimpArgs false
open Go.RowKit Go.Proofs.YtalncokpbgbccaaW.PrintWords Go.Proofs.YtalncokpbgbccaaW.PrintLast Go.Proofs.YtalncokpbgbccaaW.PrintMore
theorem field93_0 (n m : Int) (W : World) : (Instr.field 93 (.agg #[.int .i64 n, .int .i64 m]) 0).run Try.prog W = .ok (.int .i64 n) W := by kernel_rfl
theorem rweight_c (l : List S77) (A : Option Addr) (c : Nat) (level : Int) (w : World) (hr : Kd.C k77 w A l.length l) (hf : Fine l) :
    Calls Try.prog 62 #[.slice A l.length c, .int .i64 level] w fun e w' => e = .returned (.agg #[.int .i64 (weightR (weightO l level)).1, .int .i64 (weightR (weightO l level)).2]) ∧ Below w.heap.size w w' := by
  cases hl : inB level 0 20 with
  | false => rw [show weightO l level = none by simp [weightO, hl]]; exact rw_bad l A c level w hl
  | true => exact rw_ok l A c level w hr hf hl
set_option maxRecDepth 100000 in
set_option maxHeartbeats 4000000 in
theorem rfits_c (l : List S77) (A : Option Addr) (c : Nat) (level : Int) (w : World) (hr : Kd.C k77 w A l.length l) (hf : Fine l) :
    Calls Try.prog 47 #[.slice A l.length c, .int .i64 level] w fun e w' => e = .returned (.bool (fitsL l level)) ∧ Below w.heap.size w w' := by
  have HV := rvalid_c l A c level w hr hf.1
  have HW := fun (W : World) (hb : Below w.heap.size w W) => rweight_c l A c level W (Kd.C_below hr hb) hf
  obtain ⟨v, hv⟩ : ∃ v, validL l level = v := ⟨_, rfl⟩
  obtain ⟨n, hn⟩ : ∃ n, (weightR (weightO l level)).1 = n := ⟨_, rfl⟩
  obtain ⟨m, hm⟩ : ∃ m, (weightR (weightO l level)).2 = m := ⟨_, rfl⟩
  have HR := Aside0.mk (show fitsL l level = (v && decide (n ≤ 496)) by rw [fitsL, hv, hn])
  rw [hv] at HV
  rw [hn, hm] at HW
  rw [HR.out]
  have HVA := Aside0.mk HV
  have HWA := Aside0.mk HW
  have hu93 := Try.underlying93
  have hfl : ∀ W, (Instr.field 93 (.agg #[.int .i64 n, .int .i64 m]) 0).run Try.prog W = .ok (.int .i64 n) W := fun W => field93_0 n m W
  clear HV HW hv hn hm hr hf HR
  cases v
  · go_enter Try.func47, Try.ntmps47
    go_wp2_with (first | (go_at_call 81; refine HVA.out.mono ?_; rintro e w2 ⟨rfl, hb⟩; have HB := Aside0.mk hb; clear hb))
    go_ret
    exact ⟨rfl, HB.out⟩
  · go_enter Try.func47, Try.ntmps47
    go_wp2_with (first | (go_at_call 81; refine HVA.out.mono ?_; rintro e w2 ⟨rfl, hb⟩; have HB := Aside0.mk hb; clear hb) | (go_at_call 62; refine (HWA.out _ HB.out).mono ?_; rintro e w3 ⟨rfl, hb⟩; have HB3 := Aside0.mk (below_tr3 (w := w) HB.out hb); clear hb))
    go_ret
    exact ⟨rfl, HB3.out⟩
end Go.Proofs.Ytalncokpbgbccaa.E

