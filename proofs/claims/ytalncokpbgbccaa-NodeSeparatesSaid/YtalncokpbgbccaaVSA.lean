-- A slim copy of SA, QE, RV, Rd, PG, RX, written by wip/tools/prune.py.
import Derived.Test.YtalncokpbgbccaaVMc
import Derived.Lib.Strings
import Derived.Test.YtalncokpbgbccaaVMk
import Derived.Test.YtalncokpbgbccaaVNx0
import Derived.Test.YtalncokpbgbccaaVRe
import Derived.Test.YtalncokpbgbccaaVMd
/- The reference's SameEntries: whether two lists of entries are equal, entry by entry. -/
namespace Go.Proofs.Ytalncokpbgbccaa.E
set_option linter.unusedVariables false
set_option linter.unusedSimpArgs false
open Go.RowKit Go.Proofs.YtalncokpbgbccaaW.PrintWords Go.Proofs.YtalncokpbgbccaaW.PrintLast Go.Proofs.YtalncokpbgbccaaW.PrintMore
theorem elem_has {W W' : World} {ad : Addr} {n : Nat} {xs : List S77} (h : Kd.C k77 W (some ad) n xs) (hb : Below W.heap.size W W') (i : Nat) (hi : i < n) : ∀ j v, (entC (xs.getD i z77)).toList[j]? = some v → W'.cell? ((ad.add (i * 22)).add j) = some v := by
  obtain ⟨ad', e, hx⟩ := elem_at (Kd.C_below h hb) i hi
  cases e
  exact hx
end Go.Proofs.Ytalncokpbgbccaa.E

/- The reference's Weight: the walk. -/
namespace Go.Proofs.Ytalncokpbgbccaa.E
set_option linter.unusedVariables false
set_option linter.unusedSimpArgs false
open Go.RowKit Go.Proofs.YtalncokpbgbccaaW.PrintWords Go.Proofs.YtalncokpbgbccaaW.PrintLast Go.Proofs.YtalncokpbgbccaaW.PrintMore
theorem wpList_load_elG {ops : Array Oper} {rest : List Oper} {o : Oper} {a : Act} {W : World} {Q : Exit → Act → World → Prop} (hgd : Region.wanted o (yielded ops a.tmps) = true) (p : Operand) (ho : o.op = .load 77 p) (ad : Addr) (hx : a.eval p = .pointer (some ad)) (x : S77)
    (hc : ∀ j v, (entC x).toList[j]? = some v → W.cell? (ad.add j) = some v) (h : wpList Try.prog ops Q rest (a.put o.dst (.agg (entC x))) W) : wpList Try.prog ops Q (o :: rest) a W := by
  have hl := run_loadVar_at W ad (entC x).toList hc (entC_list x)
  refine Go.BigFrame.wpList_want hgd fun K hK => ?_
  unfold Oper.wp execOp
  simp only [ho, hx, Instr.loadAt, Instr.sureAddr, Sem.run_bind, Sem.run_pure, Result.andThen_ok, hl]
  exact hK _ _ h
end Go.Proofs.Ytalncokpbgbccaa.E

/- The reference's Valid: the walk. -/
namespace Go.Proofs.Ytalncokpbgbccaa.E
set_option linter.unusedVariables false
set_option linter.unusedSimpArgs false
open Go.RowKit Go.Proofs.YtalncokpbgbccaaW.PrintWords Go.Proofs.YtalncokpbgbccaaW.PrintLast Go.Proofs.YtalncokpbgbccaaW.PrintMore
/-- may the entry at place i stand there, as the reference asks -/
def rvAt (l : List S77) (level : Int) (i : Nat) : Bool :=
  (if level = 0 then leafB (l.getD i z77) else (branchB (l.getD i z77) && (decide (i = 0) || (decide (1 ≤ (l.getD i z77).f0.size) && decide ((l.getD i z77).f0.size ≤ 48)))))
  && (decide (i = 0) || Op.bytesLess (l.getD (i - 1) z77).f0.toList (l.getD i z77).f0.toList)
theorem size_list (b : ByteArray) : b.toList.length = b.size := by rw [Lib.toList_data]; rfl
theorem branch_eq (x : S77) : brB x = (decide (x.f0.size ≤ 48) && branchB x) := by
  unfold brB branchB
  cases (x.f1.toList == ([] : List UInt8)) <;> cases (x.f2 == 0) <;> cases (x.f3 == 0) <;> cases pageB x.f4 <;> cases cntB x.f5 <;> simp
theorem rv_all0 (l : List S77) : rvAt l 0 = vAt l 0 := by
  funext i
  simp only [rvAt, vAt, if_pos]
  rw [leafB_eq]
  cases h : (formI (l.getD i z77) == 0)
  · rw [decide_eq_true (by simpa using h)]; rfl
  · rw [decide_eq_false (by simpa using h)]; rfl
theorem rv_allb (l : List S77) (level : Int) (h : ¬ level = 0) (h0 : (l.getD 0 z77).f0.toList.isEmpty = true) : rvAt l level = vAt l level := by
  funext i
  simp only [rvAt, vAt, if_neg h]
  rw [branch_eq]
  by_cases hi : i = 0
  · subst hi
    have : (l.getD 0 z77).f0.size = 0 := by rw [← size_list]; simpa using h0
    rw [decide_eq_true (show (l.getD 0 z77).f0.size ≤ 48 by omega)]
    simp
  · have he : (!(l.getD i z77).f0.toList.isEmpty) = decide (1 ≤ (l.getD i z77).f0.size) := by
      rw [← size_list]
      cases (l.getD i z77).f0.toList <;> simp
    rw [he]
    cases branchB (l.getD i z77) <;> cases decide (1 ≤ (l.getD i z77).f0.size) <;> cases decide ((l.getD i z77).f0.size ≤ 48) <;> simp [hi]
set_option maxRecDepth 100000 in
set_option maxHeartbeats 4000000 in
theorem rv_lv (l : List S77) (A : Option Addr) (c : Nat) (level : Int) (w : World) (hl : inB level 0 20 = false) :
    Calls Try.prog 81 #[.slice A l.length c, .int .i64 level] w fun e w' => e = .returned (.bool false) ∧ Below w.heap.size w w' := by
  rcases (show level < 0 ∨ (¬ level < 0 ∧ 20 < level) by unfold inB at hl; simp at hl; omega) with h | ⟨h, h2⟩
  · have k1 : decide (level < 0) = true := decide_eq_true h
    clear h hl
    go_enter Try.func81, Try.ntmps81
    go_wp2_with fail
    go_ret
    exact ⟨rfl, by repeat (first | exact Below.refl _ _ | apply below_alloc | apply pw_below_drewN | apply below_drew1)⟩
  · have k1 : decide (level < 0) = false := decide_eq_false h
    have k2 : decide (20 < level) = true := decide_eq_true h2
    have k3 : decide (level > 20) = true := decide_eq_true h2
    clear h h2 hl
    go_enter Try.func81, Try.ntmps81
    go_wp2_with fail
    go_ret
    exact ⟨rfl, by repeat (first | exact Below.refl _ _ | apply below_alloc | apply pw_below_drewN | apply below_drew1)⟩
set_option maxRecDepth 100000 in
set_option maxHeartbeats 4000000 in
theorem rv_nil (A : Option Addr) (c : Nat) (w : World) :
    Calls Try.prog 81 #[.slice A 0 c, .int .i64 0] w fun e w' => e = .returned (.bool false) ∧ Below w.heap.size w w' := by
  go_enter Try.func81, Try.ntmps81
  go_wp2_with fail
  go_ret
  exact ⟨rfl, by repeat (first | exact Below.refl _ _ | apply below_alloc | apply pw_below_drewN | apply below_drew1)⟩
set_option maxRecDepth 100000 in
set_option maxHeartbeats 4000000 in
theorem rv_one (l : List S77) (A : Option Addr) (c : Nat) (level : Int) (w : World) (hl : inB level 0 20 = true) (h0 : ¬ level = 0) (hn : l.length < 2) :
    Calls Try.prog 81 #[.slice A l.length c, .int .i64 level] w fun e w' => e = .returned (.bool false) ∧ Below w.heap.size w w' := by
  have hlv : 0 < level ∧ level ≤ 20 := by unfold inB at hl; simp at hl; omega
  have k1 : decide (level < 0) = false := decide_eq_false (by omega)
  have k2 : decide (20 < level) = false := decide_eq_false (by omega)
  have k3 : decide (level > 20) = false := k2
  have k4 : (level == 0) = false := beq_eq_false_iff_ne.mpr (by omega)
  have k5 : decide (0 < level) = true := decide_eq_true hlv.1
  have k6 : decide (level > 0) = true := decide_eq_true hlv.1
  have n1 : decide ((l.length : Int) < 2) = true := decide_eq_true (by omega)
  have n2 : decide (l.length < 2) = true := decide_eq_true hn
  clear hl h0 hn hlv
  go_enter Try.func81, Try.ntmps81
  go_wp2_with fail
  go_ret
  exact ⟨rfl, by repeat (first | exact Below.refl _ _ | apply below_alloc | apply pw_below_drewN | apply below_drew1)⟩
set_option maxRecDepth 100000 in
set_option maxHeartbeats 4000000 in
theorem rv_key (l : List S77) (A : Option Addr) (c : Nat) (level : Int) (w : World) (hr : Kd.C k77 w A l.length l) (hl : inB level 0 20 = true) (h0 : ¬ level = 0) (hn : 2 ≤ l.length) (hk0 : (l.getD 0 z77).f0.toList.isEmpty = false) :
    Calls Try.prog 81 #[.slice A l.length c, .int .i64 level] w fun e w' => e = .returned (.bool false) ∧ Below w.heap.size w w' := by
  have hlv : 0 < level ∧ level ≤ 20 := by unfold inB at hl; simp at hl; omega
  have k1 : decide (level < 0) = false := decide_eq_false (by omega)
  have k2 : decide (20 < level) = false := decide_eq_false (by omega)
  have k3 : decide (level > 20) = false := k2
  have k4 : (level == 0) = false := beq_eq_false_iff_ne.mpr (by omega)
  have k5 : decide (0 < level) = true := decide_eq_true hlv.1
  have k6 : decide (level > 0) = true := decide_eq_true hlv.1
  have n1 : decide ((l.length : Int) < 2) = false := decide_eq_false (by omega)
  have n2 : decide (l.length < 2) = false := decide_eq_false (by omega)
  have hi0 : (0 : Int) < (l.length : Int) := by omega
  have hi1 : 0 < l.length := by omega
  have HLV := Aside0.mk h0
  have HR := Aside0.mk hr
  obtain ⟨ad, rfl, _⟩ := elem_at hr 0 (by omega)
  have HPK := Aside0.mk (fun (W : World) (hB : Below w.heap.size w W) => (show W.cell? ad = some (.string (l.getD 0 z77).f0) by have := prev_key (Kd.C_below hr hB) 0 (by omega); rwa [Nat.zero_mul, Addr.add_zero'] at this))
  have hk0' : ((l.getD 0 z77).f0.toList == ([] : List UInt8)) = false := by cases hh : (l.getD 0 z77).f0.toList <;> simp_all
  obtain ⟨x0, hx0⟩ : ∃ x0, l.getD 0 z77 = x0 := ⟨_, rfl⟩
  rw [hx0] at HPK hk0 hk0'
  clear hx0
  have c0 := HPK.out w (Below.refl _ _)
  clear hr hl h0 hn hlv
  go_enter Try.func81, Try.ntmps81
  go_wp2_with fail
  go_ret
  exact ⟨rfl, by repeat (first | exact Below.refl _ _ | apply below_alloc | apply pw_below_drewN | apply below_drew1)⟩
set_option maxRecDepth 100000 in
set_option maxHeartbeats 4000000 in
theorem rv_0 (l : List S77) (A : Option Addr) (c : Nat) (w : World) (hr : Kd.C k77 w A l.length l) (hlen : l.length ≤ 1000000) (hn : 1 ≤ l.length) :
    Calls Try.prog 81 #[.slice A l.length c, .int .i64 0] w fun e w' => e = .returned (.bool ((List.range l.length).all (rvAt l 0))) ∧ Below w.heap.size w w' := by
  have n1 : decide ((l.length : Int) < 1) = false := decide_eq_false (by omega)
  have n2 : decide (l.length < 1) = false := decide_eq_false (by omega)
  have n3 : decide (l.length = 0) = false := decide_eq_false (by omega)
  have HR := Aside0.mk hr
  have HLEN := Aside0.mk hlen
  clear hlen
  obtain ⟨R, hR⟩ : ∃ R, (List.range l.length).all (rvAt l 0) = R := ⟨_, rfl⟩
  have HRES := Aside0.mk hR
  rw [hR]
  clear hR
  clear hr hn
  go_enter Try.func81, Try.ntmps81
  go_wp2_with fail
  clear n1 n2 n3
  go_loopw [5] (fun i wr => ∃ (k : Nat), k ≤ l.length ∧ i = .int .i64 k ∧ Aside0 (∀ j, j < k → rvAt l 0 j = true) ∧ Aside0 (Below w.heap.size w wr)) (fun i _ => l.length - (intOf i).toNat)
  case atStart => exact ⟨0, Nat.zero_le _, rfl, ⟨fun j hj => by omega⟩, ⟨by repeat (first | exact Below.refl _ _ | apply below_alloc | apply pw_below_drewN | apply below_drew1)⟩⟩
  case round =>
    obtain ⟨k, hk, rfl, HO, HBr⟩ := hrel
    by_cases hlt : k < l.length
    · obtain ⟨ad, hade, _⟩ := elem_at HR.out k hlt
      subst hade
      have HLT := Aside0.mk hlt
      have HELW := Aside0.mk (fun (W' : World) (hb : Below w.heap.size w W') => elem_has HR.out hb k hlt)
      have HKEY := Aside0.mk (fun (W' : World) (hb : Below w.heap.size w W') => prev_key (Kd.C_below HR.out hb) k hlt)
      have HVAL := Aside0.mk (show rvAt l 0 k = (leafB (l.getD k z77) && (decide (k = 0) || Op.bytesLess (l.getD (k - 1) z77).f0.toList (l.getD k z77).f0.toList)) by simp [rvAt])
      obtain ⟨x, hx⟩ : ∃ x, l.getD k z77 = x := ⟨_, rfl⟩
      rw [hx] at HELW HKEY HVAL
      clear hx
      have HNEXT := Aside0.mk (show rvAt l 0 k = true → ∀ j, j < k + 1 → rvAt l 0 j = true from fun hv j hj => by
        by_cases h : j = k
        · subst h; exact hv
        · exact HO.out j (by omega))
      have hk1 : (k : Int) < (l.length : Int) := by omega
      have hk2 : (0 : Int) ≤ (k : Int) := by omega
      have hF := fun (W : World) => leaf_c x W
      cases hbr : leafB x
      · rw [hbr] at hF
        have HCE := Aside0.mk hF
        have HV := Aside0.mk (show rvAt l 0 k = false by rw [HVAL.out, hbr]; rfl)
        clear hF hbr hk
        have hkw : wrap64 ((k : Int) + 1) = (k : Int) + 1 := w64 _ (by have := HLEN.out; have := HLT.out; (try clear hw1 hw2); omega) (by have := HLEN.out; have := HLT.out; (try clear hw1 hw2); omega)
        clear hlt
        go_wp2_with (first
          | ((with_reducible refine gate_dst (N := 49) rfl ?_); refine wpList_load_elG (by rfl) (.tmp 48) rfl _ rfl x (HELW.out _ HBr.out) ?_)
          | (go_at_call 87; refine (HCE.out _).mono ?_; rintro e w3 ⟨rfl, hb⟩; have HB3 := Aside0.mk (below_tr3 (w := w) HBr.out hb); (clear hb); have hq0 := HKEY.out _ HB3.out; (try have hp0 := HPREV.out _ HB3.out)))
        repeat (go_quiet (fail); try go_wp2)
        go_ret
        refine ⟨?_, by first | exact HB3.out | exact below_drew1 HB3.out | exact pw_below_drewN HB3.out _⟩
        rw [show R = false from by rw [← HRES.out, all_not _ _ k HLT.out HV.out]] <;> rfl
      · rw [hbr] at hF
        have HCE := Aside0.mk hF
        have HVAL2 := Aside0.mk (show rvAt l 0 k = (decide (k = 0) || Op.bytesLess (l.getD (k - 1) z77).f0.toList x.f0.toList) by rw [HVAL.out, hbr]; simp)
        clear hF hbr HVAL hk
        by_cases hK : k = 0
        · have HV := Aside0.mk (show rvAt l 0 k = true by rw [HVAL2.out, decide_eq_true hK]; rfl)
          have q3 : decide ((k : Int) > 0) = false := decide_eq_false (by omega)
          have q4 : decide (0 < (k : Int)) = false := decide_eq_false (by omega)
          have q5 : decide (0 < k) = false := decide_eq_false (by omega)
          clear hK
          have hkw : wrap64 ((k : Int) + 1) = (k : Int) + 1 := w64 _ (by have := HLEN.out; have := HLT.out; (try clear hw1 hw2); omega) (by have := HLEN.out; have := HLT.out; (try clear hw1 hw2); omega)
          clear hlt
          go_wp2_with (first
            | ((with_reducible refine gate_dst (N := 49) rfl ?_); refine wpList_load_elG (by rfl) (.tmp 48) rfl _ rfl x (HELW.out _ HBr.out) ?_)
            | (go_at_call 87; refine (HCE.out _).mono ?_; rintro e w3 ⟨rfl, hb⟩; have HB3 := Aside0.mk (below_tr3 (w := w) HBr.out hb); (clear hb); have hq0 := HKEY.out _ HB3.out; (try have hp0 := HPREV.out _ HB3.out)))
          repeat (go_quiet (fail); try go_wp2)
          go_roundw
          case rel => exact ⟨k + 1, by have := HLT.out; clear hkw; omega, by rw [hkw]; simp, ⟨HNEXT.out HV.out⟩, ⟨by first | exact HB3.out | exact below_drew1 HB3.out | exact pw_below_drewN HB3.out _⟩⟩
          case measure => (have h9 := HLT.out; rw [hkw]; clear hkw; show l.length - ((k : Int) + 1).toNat < l.length - (k : Int).toNat; omega)
        · have q3 : decide ((k : Int) > 0) = true := decide_eq_true (by omega)
          have q4 : decide (0 < (k : Int)) = true := decide_eq_true (by omega)
          have q5 : decide (0 < k) = true := decide_eq_true (by omega)
          obtain ⟨p, hp⟩ : ∃ p : Nat, k = p + 1 := ⟨k - 1, by omega⟩
          have hw4 : p < l.length := by omega
          have hw6 : (p : Int) < (l.length : Int) := by omega
          have hw7 : 0 ≤ (p : Int) := by omega
          have hpk : k - 1 = p := by omega
          rw [hpk, decide_eq_false hK] at HVAL2
          obtain ⟨y, hyy⟩ : ∃ y, l.getD p z77 = y := ⟨_, rfl⟩
          have HPREV := Aside0.mk (fun (W : World) (hB : Below w.heap.size w W) => prev_key (Kd.C_below HR.out hB) p hw4)
          rw [hyy] at HPREV HVAL2
          have hw2 : wrap64 ((k : Int) - 1) = (p : Int) := by rw [w64 _ (by have := HLEN.out; omega) (by have := HLEN.out; omega)]; omega
          have hw1 : IntKind.i64.wrap ((k : Int) - 1) = (p : Int) := by rw [i64w _ (by have := HLEN.out; clear hw2; omega) (by have := HLEN.out; clear hw2; omega)]; clear hw2; omega
          clear hyy hp hpk hK
          cases hL : Op.bytesLess y.f0.toList x.f0.toList
          · cases hM : Op.bytesLess x.f0.toList y.f0.toList
            · have hE : (x.f0.toList == y.f0.toList) = true := by have := less_total x.f0.toList y.f0.toList; rw [hM, hL] at this; simpa using this
              have HV := Aside0.mk (show rvAt l 0 k = false by rw [HVAL2.out, hL]; rfl)
              have hkw : wrap64 ((k : Int) + 1) = (k : Int) + 1 := w64 _ (by have := HLEN.out; have := HLT.out; (try clear hw1 hw2); omega) (by have := HLEN.out; have := HLT.out; (try clear hw1 hw2); omega)
              clear hlt
              go_wp2_with (first
                | ((with_reducible refine gate_dst (N := 49) rfl ?_); refine wpList_load_elG (by rfl) (.tmp 48) rfl _ rfl x (HELW.out _ HBr.out) ?_)
                | (go_at_call 87; refine (HCE.out _).mono ?_; rintro e w3 ⟨rfl, hb⟩; have HB3 := Aside0.mk (below_tr3 (w := w) HBr.out hb); (clear hb); have hq0 := HKEY.out _ HB3.out; (try have hp0 := HPREV.out _ HB3.out)))
              repeat (go_quiet (fail); try go_wp2)
              go_ret
              refine ⟨?_, by first | exact HB3.out | exact below_drew1 HB3.out | exact pw_below_drewN HB3.out _⟩
              rw [show R = false from by rw [← HRES.out, all_not _ _ k HLT.out HV.out]] <;> rfl
            · have HV := Aside0.mk (show rvAt l 0 k = false by rw [HVAL2.out, hL]; rfl)
              have hkw : wrap64 ((k : Int) + 1) = (k : Int) + 1 := w64 _ (by have := HLEN.out; have := HLT.out; (try clear hw1 hw2); omega) (by have := HLEN.out; have := HLT.out; (try clear hw1 hw2); omega)
              clear hlt
              go_wp2_with (first
                | ((with_reducible refine gate_dst (N := 49) rfl ?_); refine wpList_load_elG (by rfl) (.tmp 48) rfl _ rfl x (HELW.out _ HBr.out) ?_)
                | (go_at_call 87; refine (HCE.out _).mono ?_; rintro e w3 ⟨rfl, hb⟩; have HB3 := Aside0.mk (below_tr3 (w := w) HBr.out hb); (clear hb); have hq0 := HKEY.out _ HB3.out; (try have hp0 := HPREV.out _ HB3.out)))
              repeat (go_quiet (fail); try go_wp2)
              go_ret
              refine ⟨?_, by first | exact HB3.out | exact below_drew1 HB3.out | exact pw_below_drewN HB3.out _⟩
              rw [show R = false from by rw [← HRES.out, all_not _ _ k HLT.out HV.out]] <;> rfl
          · have hcmp : (Op.bytesLess x.f0.toList y.f0.toList || x.f0.toList == y.f0.toList) = false := by rw [less_total, hL]; rfl
            obtain ⟨hM, hE⟩ : Op.bytesLess x.f0.toList y.f0.toList = false ∧ (x.f0.toList == y.f0.toList) = false := by simpa only [Bool.or_eq_false_iff] using hcmp
            clear hcmp
            have HV := Aside0.mk (show rvAt l 0 k = true by rw [HVAL2.out, hL]; rfl)
            have hkw : wrap64 ((k : Int) + 1) = (k : Int) + 1 := w64 _ (by have := HLEN.out; have := HLT.out; (try clear hw1 hw2); omega) (by have := HLEN.out; have := HLT.out; (try clear hw1 hw2); omega)
            clear hlt
            go_wp2_with (first
              | ((with_reducible refine gate_dst (N := 49) rfl ?_); refine wpList_load_elG (by rfl) (.tmp 48) rfl _ rfl x (HELW.out _ HBr.out) ?_)
              | (go_at_call 87; refine (HCE.out _).mono ?_; rintro e w3 ⟨rfl, hb⟩; have HB3 := Aside0.mk (below_tr3 (w := w) HBr.out hb); (clear hb); have hq0 := HKEY.out _ HB3.out; (try have hp0 := HPREV.out _ HB3.out)))
            repeat (go_quiet (fail); try go_wp2)
            go_roundw
            case rel => exact ⟨k + 1, by have := HLT.out; clear hkw; omega, by rw [hkw]; simp, ⟨HNEXT.out HV.out⟩, ⟨by first | exact HB3.out | exact below_drew1 HB3.out | exact pw_below_drewN HB3.out _⟩⟩
            case measure => (have h9 := HLT.out; rw [hkw]; clear hkw; show l.length - ((k : Int) + 1).toNat < l.length - (k : Int).toNat; omega)
    · obtain rfl : k = l.length := by omega
      have HTT := Aside0.mk (show R = true by rw [← HRES.out]; exact all_to _ _ HO.out)
      go_wp2
      go_ret
      refine ⟨?_, HBr.out⟩
      rw [HTT.out] <;> rfl
set_option maxRecDepth 100000 in
set_option maxHeartbeats 4000000 in
theorem rv_b (l : List S77) (A : Option Addr) (c : Nat) (level : Int) (w : World) (hr : Kd.C k77 w A l.length l) (hlen : l.length ≤ 1000000) (hl : inB level 0 20 = true) (h0 : ¬ level = 0) (hn : 2 ≤ l.length) (hk0 : (l.getD 0 z77).f0.toList.isEmpty = true) :
    Calls Try.prog 81 #[.slice A l.length c, .int .i64 level] w fun e w' => e = .returned (.bool ((List.range l.length).all (rvAt l level))) ∧ Below w.heap.size w w' := by
  have HLEN := Aside0.mk hlen
  clear hlen
  obtain ⟨R, hR⟩ : ∃ R, (List.range l.length).all (rvAt l level) = R := ⟨_, rfl⟩
  have HRES := Aside0.mk hR
  rw [hR]
  clear hR
  have hlv : 0 < level ∧ level ≤ 20 := by unfold inB at hl; simp at hl; omega
  have k1 : decide (level < 0) = false := decide_eq_false (by omega)
  have k2 : decide (20 < level) = false := decide_eq_false (by omega)
  have k3 : decide (level > 20) = false := k2
  have k4 : (level == 0) = false := beq_eq_false_iff_ne.mpr (by omega)
  have k5 : decide (0 < level) = true := decide_eq_true hlv.1
  have k6 : decide (level > 0) = true := decide_eq_true hlv.1
  have n1 : decide ((l.length : Int) < 2) = false := decide_eq_false (by omega)
  have n2 : decide (l.length < 2) = false := decide_eq_false (by omega)
  have hi0 : (0 : Int) < (l.length : Int) := by omega
  have hi1 : 0 < l.length := by omega
  have HLV := Aside0.mk h0
  have HR := Aside0.mk hr
  obtain ⟨ad, rfl, _⟩ := elem_at hr 0 (by omega)
  have HPK := Aside0.mk (fun (W : World) (hB : Below w.heap.size w W) => (show W.cell? ad = some (.string (l.getD 0 z77).f0) by have := prev_key (Kd.C_below hr hB) 0 (by omega); rwa [Nat.zero_mul, Addr.add_zero'] at this))
  have hk0' : ((l.getD 0 z77).f0.toList == ([] : List UInt8)) = true := by cases hh : (l.getD 0 z77).f0.toList <;> simp_all
  obtain ⟨x0, hx0⟩ : ∃ x0, l.getD 0 z77 = x0 := ⟨_, rfl⟩
  rw [hx0] at HPK hk0 hk0'
  clear hx0
  have c0 := HPK.out w (Below.refl _ _)
  clear hr hl h0 hn hlv
  go_enter Try.func81, Try.ntmps81
  go_wp2_with fail
  clear n1 n2 c0 hi0 hi1 hk0 hk0'
  go_loopw [5] (fun i wr => ∃ (k : Nat), k ≤ l.length ∧ i = .int .i64 k ∧ Aside0 (∀ j, j < k → rvAt l level j = true) ∧ Aside0 (Below w.heap.size w wr)) (fun i _ => l.length - (intOf i).toNat)
  case atStart => exact ⟨0, Nat.zero_le _, rfl, ⟨fun j hj => by omega⟩, ⟨by repeat (first | exact Below.refl _ _ | apply below_alloc | apply pw_below_drewN | apply below_drew1)⟩⟩
  case round =>
    obtain ⟨k, hk, rfl, HO, HBr⟩ := hrel
    by_cases hlt : k < l.length
    · obtain ⟨ad, hade, _⟩ := elem_at HR.out k hlt
      obtain rfl := Option.some.inj hade
      have HLT := Aside0.mk hlt
      have HELW := Aside0.mk (fun (W' : World) (hb : Below w.heap.size w W') => elem_has HR.out hb k hlt)
      have HKEY := Aside0.mk (fun (W' : World) (hb : Below w.heap.size w W') => prev_key (Kd.C_below HR.out hb) k hlt)
      have HVAL := Aside0.mk (show rvAt l level k = ((branchB (l.getD k z77) && (decide (k = 0) || (decide (1 ≤ (l.getD k z77).f0.size) && decide ((l.getD k z77).f0.size ≤ 48)))) && (decide (k = 0) || Op.bytesLess (l.getD (k - 1) z77).f0.toList (l.getD k z77).f0.toList)) by simp [rvAt, HLV.out])
      obtain ⟨x, hx⟩ : ∃ x, l.getD k z77 = x := ⟨_, rfl⟩
      rw [hx] at HELW HKEY HVAL
      clear hx
      have HNEXT := Aside0.mk (show rvAt l level k = true → ∀ j, j < k + 1 → rvAt l level j = true from fun hv j hj => by
        by_cases h : j = k
        · subst h; exact hv
        · exact HO.out j (by omega))
      have hk1 : (k : Int) < (l.length : Int) := by omega
      have hk2 : (0 : Int) ≤ (k : Int) := by omega
      have hF := fun (W : World) => branch_c x W
      cases hbr : branchB x
      · rw [hbr] at hF
        have HCE := Aside0.mk hF
        have HV := Aside0.mk (show rvAt l level k = false by rw [HVAL.out, hbr]; rfl)
        clear hF hbr hk
        have hkw : wrap64 ((k : Int) + 1) = (k : Int) + 1 := w64 _ (by have := HLEN.out; have := HLT.out; (try clear hw1 hw2); omega) (by have := HLEN.out; have := HLT.out; (try clear hw1 hw2); omega)
        clear hlt
        go_wp2_with (first
          | ((with_reducible refine gate_dst (N := 60) rfl ?_); refine wpList_load_elG (by rfl) (.tmp 59) rfl _ rfl x (HELW.out _ HBr.out) ?_)
          | (go_at_call 88; refine (HCE.out _).mono ?_; rintro e w3 ⟨rfl, hb⟩; have HB3 := Aside0.mk (below_tr3 (w := w) HBr.out hb); (clear hb); have hq0 := HKEY.out _ HB3.out; (try have hp0 := HPREV.out _ HB3.out)))
        repeat (go_quiet (fail); try go_wp2)
        go_ret
        refine ⟨?_, by first | exact HB3.out | exact below_drew1 HB3.out | exact pw_below_drewN HB3.out _⟩
        rw [show R = false from by rw [← HRES.out, all_not _ _ k HLT.out HV.out]] <;> rfl
      · rw [hbr] at hF
        have HCE := Aside0.mk hF
        have HVAL1 := Aside0.mk (show rvAt l level k = ((decide (k = 0) || (decide (1 ≤ x.f0.size) && decide (x.f0.size ≤ 48))) && (decide (k = 0) || Op.bytesLess (l.getD (k - 1) z77).f0.toList x.f0.toList)) by rw [HVAL.out, hbr]; simp)
        clear hF hbr HVAL hk
        by_cases hK : k = 0
        · have HV := Aside0.mk (show rvAt l level k = true by rw [HVAL1.out, decide_eq_true hK]; rfl)
          have q3 : decide ((k : Int) > 0) = false := decide_eq_false (by omega)
          have q4 : decide (0 < (k : Int)) = false := decide_eq_false (by omega)
          have q5 : decide (0 < k) = false := decide_eq_false (by omega)
          clear hK
          have hkw : wrap64 ((k : Int) + 1) = (k : Int) + 1 := w64 _ (by have := HLEN.out; have := HLT.out; (try clear hw1 hw2); omega) (by have := HLEN.out; have := HLT.out; (try clear hw1 hw2); omega)
          clear hlt
          go_wp2_with (first
            | ((with_reducible refine gate_dst (N := 60) rfl ?_); refine wpList_load_elG (by rfl) (.tmp 59) rfl _ rfl x (HELW.out _ HBr.out) ?_)
            | (go_at_call 88; refine (HCE.out _).mono ?_; rintro e w3 ⟨rfl, hb⟩; have HB3 := Aside0.mk (below_tr3 (w := w) HBr.out hb); (clear hb); have hq0 := HKEY.out _ HB3.out; (try have hp0 := HPREV.out _ HB3.out)))
          repeat (go_quiet (fail); try go_wp2)
          go_roundw
          case rel => exact ⟨k + 1, by have := HLT.out; clear hkw; omega, by rw [hkw]; simp, ⟨HNEXT.out HV.out⟩, ⟨by first | exact HB3.out | exact below_drew1 HB3.out | exact pw_below_drewN HB3.out _⟩⟩
          case measure => (have h9 := HLT.out; rw [hkw]; clear hkw; show l.length - ((k : Int) + 1).toNat < l.length - (k : Int).toNat; omega)
        · have q3 : decide ((k : Int) > 0) = true := decide_eq_true (by omega)
          have q4 : decide (0 < (k : Int)) = true := decide_eq_true (by omega)
          have q5 : decide (0 < k) = true := decide_eq_true (by omega)
          by_cases hA : x.f0.size < 1
          · have HV := Aside0.mk (show rvAt l level k = false by rw [HVAL1.out, decide_eq_false hK, decide_eq_false (show ¬ 1 ≤ x.f0.size by omega)]; rfl)
            have s1 : decide ((x.f0.size : Int) < 1) = true := decide_eq_true (by omega)
            have s2 : decide (x.f0.size < 1) = true := decide_eq_true (by omega)
            clear hA hK
            have hkw : wrap64 ((k : Int) + 1) = (k : Int) + 1 := w64 _ (by have := HLEN.out; have := HLT.out; (try clear hw1 hw2); omega) (by have := HLEN.out; have := HLT.out; (try clear hw1 hw2); omega)
            clear hlt
            go_wp2_with (first
              | ((with_reducible refine gate_dst (N := 60) rfl ?_); refine wpList_load_elG (by rfl) (.tmp 59) rfl _ rfl x (HELW.out _ HBr.out) ?_)
              | (go_at_call 88; refine (HCE.out _).mono ?_; rintro e w3 ⟨rfl, hb⟩; have HB3 := Aside0.mk (below_tr3 (w := w) HBr.out hb); (clear hb); have hq0 := HKEY.out _ HB3.out; (try have hp0 := HPREV.out _ HB3.out)))
            repeat (go_quiet (fail); try go_wp2)
            go_ret
            refine ⟨?_, by first | exact HB3.out | exact below_drew1 HB3.out | exact pw_below_drewN HB3.out _⟩
            rw [show R = false from by rw [← HRES.out, all_not _ _ k HLT.out HV.out]] <;> rfl
          · by_cases hB : 48 < x.f0.size
            · have HV := Aside0.mk (show rvAt l level k = false by rw [HVAL1.out, decide_eq_false hK, decide_eq_false (show ¬ x.f0.size ≤ 48 by omega)]; simp)
              have s1 : decide ((x.f0.size : Int) < 1) = false := decide_eq_false (by omega)
              have s2 : decide (x.f0.size < 1) = false := decide_eq_false (by omega)
              have s3 : decide ((48 : Int) < (x.f0.size : Int)) = true := decide_eq_true (by omega)
              have s4 : decide ((x.f0.size : Int) > 48) = true := decide_eq_true (by omega)
              clear hA hB hK
              have hkw : wrap64 ((k : Int) + 1) = (k : Int) + 1 := w64 _ (by have := HLEN.out; have := HLT.out; (try clear hw1 hw2); omega) (by have := HLEN.out; have := HLT.out; (try clear hw1 hw2); omega)
              clear hlt
              go_wp2_with (first
                | ((with_reducible refine gate_dst (N := 60) rfl ?_); refine wpList_load_elG (by rfl) (.tmp 59) rfl _ rfl x (HELW.out _ HBr.out) ?_)
                | (go_at_call 88; refine (HCE.out _).mono ?_; rintro e w3 ⟨rfl, hb⟩; have HB3 := Aside0.mk (below_tr3 (w := w) HBr.out hb); (clear hb); have hq0 := HKEY.out _ HB3.out; (try have hp0 := HPREV.out _ HB3.out)))
              repeat (go_quiet (fail); try go_wp2)
              go_ret
              refine ⟨?_, by first | exact HB3.out | exact below_drew1 HB3.out | exact pw_below_drewN HB3.out _⟩
              rw [show R = false from by rw [← HRES.out, all_not _ _ k HLT.out HV.out]] <;> rfl
            · have HVAL2 := Aside0.mk (show rvAt l level k = (decide (k = 0) || Op.bytesLess (l.getD (k - 1) z77).f0.toList x.f0.toList) by rw [HVAL1.out, decide_eq_true (show 1 ≤ x.f0.size by omega), decide_eq_true (show x.f0.size ≤ 48 by omega)]; simp)
              have s1 : decide ((x.f0.size : Int) < 1) = false := decide_eq_false (by omega)
              have s2 : decide (x.f0.size < 1) = false := decide_eq_false (by omega)
              have s3 : decide ((48 : Int) < (x.f0.size : Int)) = false := decide_eq_false (by omega)
              have s4 : decide ((x.f0.size : Int) > 48) = false := decide_eq_false (by omega)
              clear hA hB HVAL1
              obtain ⟨p, hp⟩ : ∃ p : Nat, k = p + 1 := ⟨k - 1, by omega⟩
              have hw4 : p < l.length := by omega
              have hw6 : (p : Int) < (l.length : Int) := by omega
              have hw7 : 0 ≤ (p : Int) := by omega
              have hpk : k - 1 = p := by omega
              rw [hpk, decide_eq_false hK] at HVAL2
              obtain ⟨y, hyy⟩ : ∃ y, l.getD p z77 = y := ⟨_, rfl⟩
              have HPREV := Aside0.mk (fun (W : World) (hB : Below w.heap.size w W) => prev_key (Kd.C_below HR.out hB) p hw4)
              rw [hyy] at HPREV HVAL2
              have hw2 : wrap64 ((k : Int) - 1) = (p : Int) := by rw [w64 _ (by have := HLEN.out; omega) (by have := HLEN.out; omega)]; omega
              have hw1 : IntKind.i64.wrap ((k : Int) - 1) = (p : Int) := by rw [i64w _ (by have := HLEN.out; clear hw2; omega) (by have := HLEN.out; clear hw2; omega)]; clear hw2; omega
              clear hyy hp hpk hK
              cases hL : Op.bytesLess y.f0.toList x.f0.toList
              · cases hM : Op.bytesLess x.f0.toList y.f0.toList
                · have hE : (x.f0.toList == y.f0.toList) = true := by have := less_total x.f0.toList y.f0.toList; rw [hM, hL] at this; simpa using this
                  have HV := Aside0.mk (show rvAt l level k = false by rw [HVAL2.out, hL]; rfl)
                  have hkw : wrap64 ((k : Int) + 1) = (k : Int) + 1 := w64 _ (by have := HLEN.out; have := HLT.out; (try clear hw1 hw2); omega) (by have := HLEN.out; have := HLT.out; (try clear hw1 hw2); omega)
                  clear hlt
                  go_wp2_with (first
                    | ((with_reducible refine gate_dst (N := 60) rfl ?_); refine wpList_load_elG (by rfl) (.tmp 59) rfl _ rfl x (HELW.out _ HBr.out) ?_)
                    | (go_at_call 88; refine (HCE.out _).mono ?_; rintro e w3 ⟨rfl, hb⟩; have HB3 := Aside0.mk (below_tr3 (w := w) HBr.out hb); (clear hb); have hq0 := HKEY.out _ HB3.out; (try have hp0 := HPREV.out _ HB3.out)))
                  repeat (go_quiet (fail); try go_wp2)
                  go_ret
                  refine ⟨?_, by first | exact HB3.out | exact below_drew1 HB3.out | exact pw_below_drewN HB3.out _⟩
                  rw [show R = false from by rw [← HRES.out, all_not _ _ k HLT.out HV.out]] <;> rfl
                · have HV := Aside0.mk (show rvAt l level k = false by rw [HVAL2.out, hL]; rfl)
                  have hkw : wrap64 ((k : Int) + 1) = (k : Int) + 1 := w64 _ (by have := HLEN.out; have := HLT.out; (try clear hw1 hw2); omega) (by have := HLEN.out; have := HLT.out; (try clear hw1 hw2); omega)
                  clear hlt
                  go_wp2_with (first
                    | ((with_reducible refine gate_dst (N := 60) rfl ?_); refine wpList_load_elG (by rfl) (.tmp 59) rfl _ rfl x (HELW.out _ HBr.out) ?_)
                    | (go_at_call 88; refine (HCE.out _).mono ?_; rintro e w3 ⟨rfl, hb⟩; have HB3 := Aside0.mk (below_tr3 (w := w) HBr.out hb); (clear hb); have hq0 := HKEY.out _ HB3.out; (try have hp0 := HPREV.out _ HB3.out)))
                  repeat (go_quiet (fail); try go_wp2)
                  go_ret
                  refine ⟨?_, by first | exact HB3.out | exact below_drew1 HB3.out | exact pw_below_drewN HB3.out _⟩
                  rw [show R = false from by rw [← HRES.out, all_not _ _ k HLT.out HV.out]] <;> rfl
              · have hcmp : (Op.bytesLess x.f0.toList y.f0.toList || x.f0.toList == y.f0.toList) = false := by rw [less_total, hL]; rfl
                obtain ⟨hM, hE⟩ : Op.bytesLess x.f0.toList y.f0.toList = false ∧ (x.f0.toList == y.f0.toList) = false := by simpa only [Bool.or_eq_false_iff] using hcmp
                clear hcmp
                have HV := Aside0.mk (show rvAt l level k = true by rw [HVAL2.out, hL]; rfl)
                have hkw : wrap64 ((k : Int) + 1) = (k : Int) + 1 := w64 _ (by have := HLEN.out; have := HLT.out; (try clear hw1 hw2); omega) (by have := HLEN.out; have := HLT.out; (try clear hw1 hw2); omega)
                clear hlt
                go_wp2_with (first
                  | ((with_reducible refine gate_dst (N := 60) rfl ?_); refine wpList_load_elG (by rfl) (.tmp 59) rfl _ rfl x (HELW.out _ HBr.out) ?_)
                  | (go_at_call 88; refine (HCE.out _).mono ?_; rintro e w3 ⟨rfl, hb⟩; have HB3 := Aside0.mk (below_tr3 (w := w) HBr.out hb); (clear hb); have hq0 := HKEY.out _ HB3.out; (try have hp0 := HPREV.out _ HB3.out)))
                repeat (go_quiet (fail); try go_wp2)
                go_roundw
                case rel => exact ⟨k + 1, by have := HLT.out; clear hkw; omega, by rw [hkw]; simp, ⟨HNEXT.out HV.out⟩, ⟨by first | exact HB3.out | exact below_drew1 HB3.out | exact pw_below_drewN HB3.out _⟩⟩
                case measure => (have h9 := HLT.out; rw [hkw]; clear hkw; show l.length - ((k : Int) + 1).toNat < l.length - (k : Int).toNat; omega)
    · obtain rfl : k = l.length := by omega
      have HTT := Aside0.mk (show R = true by rw [← HRES.out]; exact all_to _ _ HO.out)
      go_wp2
      go_ret
      refine ⟨?_, HBr.out⟩
      rw [HTT.out] <;> rfl
theorem rvalid_c (l : List S77) (A : Option Addr) (c : Nat) (level : Int) (w : World) (hr : Kd.C k77 w A l.length l) (hlen : l.length ≤ 1000000) :
    Calls Try.prog 81 #[.slice A l.length c, .int .i64 level] w fun e w' => e = .returned (.bool (validL l level)) ∧ Below w.heap.size w w' := by
  cases hl : inB level 0 20 with
  | false => rw [show validL l level = false by simp [validL, hl]]; exact rv_lv l A c level w hl
  | true =>
    by_cases hz : level = 0
    · subst hz
      by_cases h0 : l.length = 0
      · rw [show validL l 0 = false by simp [validL, h0], h0]; exact rv_nil A c w
      · rw [show validL l 0 = (List.range l.length).all (vAt l 0) by simp [validL, hl, h0], ← rv_all0]
        exact rv_0 l A c w hr hlen (by omega)
    · by_cases h1 : l.length < 2
      · rw [show validL l level = false by unfold validL; rw [decide_eq_false hz, decide_eq_false (show ¬ 2 ≤ l.length by omega)]; simp]; exact rv_one l A c level w hl hz h1
      · cases hk : (l.getD 0 z77).f0.toList.isEmpty with
        | false =>
          rw [show validL l level = false by unfold validL; rw [hk]; simp [hz]]
          exact rv_key l A c level w hr hl hz (by omega) hk
        | true =>
          rw [show validL l level = (List.range l.length).all (vAt l level) by unfold validL; rw [hk, hl, decide_eq_false (show ¬ l.length = 0 by omega), decide_eq_true (show 2 ≤ l.length by omega)]; simp, ← rv_allb l level hz hk]
          exact rv_b l A c level w hr hlen hl hz (by omega) hk
end Go.Proofs.Ytalncokpbgbccaa.E

-- Printed by this session's wip/tools/oracle.py, which runs the kit's print program; Lean checks it.
namespace Go.Proofs.Ytalncokpbgbccaa.E
open Go.RowKit Go.Proofs.YtalncokpbgbccaaW.PrintWords Go.Proofs.YtalncokpbgbccaaW.PrintLast Go.Proofs.YtalncokpbgbccaaW.PrintMore
attribute [local go_sem] max2_int min2_int max_two min_two max_three min_three max_four min_four   -- for this text's walks alone
set_option linter.unusedVariables false
set_option linter.unusedSimpArgs false

/-! ### understoryref06_Bounds: function 31 -/
def understoryref06_Bounds.j0 : Nat → List (S77) → Int → ByteArray → ByteArray → Bool → Option (ByteArray × ByteArray × Int)
  | 0, _, _, _, _, _ => none
  | k + 1, x0, x1, x2, x3, x16 => if x16 = true then (some ((⟨#[]⟩ : ByteArray), (⟨#[]⟩ : ByteArray), 1)) else (if x1 > 0 then (if 0 ≤ x1 then (if x1 < (x0.length : Int) then (if (wrap64 (x1 + 1)) < (x0.length : Int) then (if 0 ≤ (wrap64 (x1 + 1)) then (some ((rd_T77 x0 x1).f0, (rd_T77 x0 (wrap64 (x1 + 1))).f0, 0)) else (none)) else (some ((rd_T77 x0 x1).f0, x3, 0))) else (none)) else (none)) else (if (wrap64 (x1 + 1)) < (x0.length : Int) then (if 0 ≤ (wrap64 (x1 + 1)) then (some (x2, (rd_T77 x0 (wrap64 (x1 + 1))).f0, 0)) else (none)) else (some (x2, x3, 0))))
def understoryref06_Bounds.f (k : Nat) (l0 : List (S77)) (a1 : Int) (a2 : ByteArray) (a3 : ByteArray) : Option (ByteArray × ByteArray × Int) := if a1 < 0 then (understoryref06_Bounds.j0 k l0 a1 a2 a3 true) else (understoryref06_Bounds.j0 k l0 a1 a2 a3 (decide (a1 ≥ (l0.length : Int))))
theorem understoryref06_Bounds.mono_l : ∀ k, (∀ y0 y1 y2 y3 y4, LeO (understoryref06_Bounds.j0 k y0 y1 y2 y3 y4) (understoryref06_Bounds.j0 (k + 1) y0 y1 y2 y3 y4))
  | 0 => fun _ _ _ _ _ r h => by simp [understoryref06_Bounds.j0] at h
  | k + 1 => by
    have ih0 := understoryref06_Bounds.mono_l k
    · intro y0 y1 y2 y3 y4
      unfold understoryref06_Bounds.j0
      repeat' first
      | (with_reducible exact ih0 _ _ _ _ _)
      | (with_reducible exact LeO.refl _)
      | (with_reducible exact LeO.none _)
      | (with_reducible refine LeO.ite ?_ ?_)
      | (with_reducible refine LeO.bind ?_ (fun _ => ?_))
      | exact ih0 _ _ _ _ _
      | exact LeO.none _
      | refine LeO.ite ?_ ?_
      | refine LeO.bind ?_ (fun _ => ?_)
theorem understoryref06_Bounds.mono : ∀ a0 a1 a2 a3 k, LeO (understoryref06_Bounds.f k a0 a1 a2 a3) (understoryref06_Bounds.f (k + 1) a0 a1 a2 a3) := by
  intro a0 a1 a2 a3 k
  have ih0 := understoryref06_Bounds.mono_l k
  unfold understoryref06_Bounds.f
  repeat' first
      | (with_reducible exact ih0 _ _ _ _ _)
      | (with_reducible exact LeO.refl _)
      | (with_reducible exact LeO.none _)
      | (with_reducible refine LeO.ite ?_ ?_)
      | (with_reducible refine LeO.bind ?_ (fun _ => ?_))
      | exact ih0 _ _ _ _ _
      | exact LeO.none _
      | refine LeO.ite ?_ ?_
      | refine LeO.bind ?_ (fun _ => ?_)
set_option maxHeartbeats 8000000 in
set_option maxRecDepth 100000 in
theorem understoryref06_Bounds.calls (k : Nat) (A0 : Option Addr) (c0 : Nat) (l0 : List (S77)) (a1 : Int) (a2 : ByteArray) (a3 : ByteArray) (r1 : ByteArray) (r2 : ByteArray) (r3 : Int) (w : World) (hr0 : Kd.C k77 w A0 l0.length l0) (hc0 : l0.length ≤ c0) (h : understoryref06_Bounds.f k l0 a1 a2 a3 = some (r1, r2, r3)) :
    Calls Try.prog 31 #[.slice A0 l0.length c0, .int .i64 a1, .string a2, .string a3] w fun e w' => e = .returned (.agg #[.string r1, .string r2, .int .i64 r3]) ∧ Below w.heap.size w w' := by
  have hu42 := Try.underlying42
  have HR0 := Aside0.mk hr0
  have HC0 := Aside0.mk hc0
  clear hr0 hc0
  have HB := Aside0.mk (Below.refl w.heap.size w)
  have H : (if a1 < 0 then (understoryref06_Bounds.j0 k l0 a1 a2 a3 true) else (understoryref06_Bounds.j0 k l0 a1 a2 a3 (decide (a1 ≥ (l0.length : Int))))) = some (r1, r2, r3) := h
  clear h
  have HC5 := Aside0.mk H
  clear H
  go_enter Try.func31, Try.ntmps31
  go_upto_region 1 with (first | ((with_reducible refine gate_dst (N := 8) rfl ?_); (try (refine gate_guard (by rfl) ?_; dsimp only)); refine box_event ?hg (N := 8) ?hd (cs := #[.string (⟨#[]⟩ : ByteArray), .string (⟨#[]⟩ : ByteArray), .int .i64 0]) (t := 42) ?hr ?_; (case hd => rfl); (case hg => rfl); (case hr => first | (go_simp; done) | (go_simp; rfl)); intro gb304 hg w6 hbox hb; have n0_ := Aside0.mk (below_step (by repeat (first | (with_reducible first | exact HB.out | apply below_alloc | apply pw_below_drewN | apply below_drew1) | exact HB.out)) hb); have n1_ := Aside0.mk (hbox); have n2_ := Aside0.mk ((by rw [hg]; exact (below_size (by repeat (first | (with_reducible first | exact HB.out | apply below_alloc | apply pw_below_drewN | apply below_drew1) | exact HB.out))) : w.heap.size ≤ gb304)); have n3_ := Aside0.mk ((by rw [hg]; exact (below_size (by repeat (first | (with_reducible first | exact HB.out | apply below_alloc | apply pw_below_drewN | apply below_drew1) | exact HB.out))) : w.heap.size ≤ gb304)); clear HB; have HB := n0_; have BK304 := n1_; have GW304 := n2_; have GE304 := n3_; clear n0_ n1_ n2_ n3_; clear hb hbox hg))
  (try simp only [Act.put, List.setIfInBounds_toArray, List.set_cons_zero, List.set_cons_succ])
  go_cut [16] (fun v16 wc => ∃ (kq : Nat) (x16_4 : Bool), v16 = .bool x16_4 ∧ Aside0 (understoryref06_Bounds.j0 kq l0 a1 a2 a3 x16_4 = some (r1, r2, r3)) ∧ Aside0 (kq ≤ k) ∧ Aside0 (wc.heap[gb304]? = some (.cells #[.string (⟨#[]⟩ : ByteArray), .string (⟨#[]⟩ : ByteArray), .int .i64 0] 42 (0, 0))) ∧ Aside0 (Below w.heap.size w wc))
  case first =>
    have H := HC5.out
    clear HC5
    by_cases c7 : a1 < 0
    · rw [if_pos c7] at H
      have c7b0 : decide (a1 < 0) = true := decide_eq_true c7
      clear c7
      (first | rw [c7b0] | (simp only [i64_w, i32_w]; rw [c7b0]) | skip)
      have H' := Aside0.mk H
      clear H
      go_wp2
      go_meet
      case rel => exact ⟨_, (true), (by first | rfl | (simp; done) | (simp [*]; done)), H', ⟨by first | omega | exact Nat.le_refl _⟩, ⟨by (with_reducible repeat (first | refine blk_drewN ?_ _ | refine blk_drew ?_ | refine blk_alloc ?_ _)); exact BK304.out⟩, ⟨by repeat (first | (with_reducible first | exact HB.out | apply below_alloc | apply pw_below_drewN | apply below_drew1 | refine below_set ?_ GE304.out) | exact HB.out)⟩⟩
    · rw [if_neg c7] at H
      have c7b0 : decide (a1 < 0) = false := decide_eq_false c7
      clear c7
      (first | rw [c7b0] | (simp only [i64_w, i32_w]; rw [c7b0]) | skip)
      have H' := Aside0.mk H
      clear H
      go_wp2
      go_meet
      case rel => exact ⟨_, (decide (a1 ≥ (l0.length : Int))), (by first | rfl | (simp; done) | (simp [*]; done)), H', ⟨by first | omega | exact Nat.le_refl _⟩, ⟨by (with_reducible repeat (first | refine blk_drewN ?_ _ | refine blk_drew ?_ | refine blk_alloc ?_ _)); exact BK304.out⟩, ⟨by repeat (first | (with_reducible first | exact HB.out | apply below_alloc | apply pw_below_drewN | apply below_drew1 | refine below_set ?_ GE304.out) | exact HB.out)⟩⟩
  case rest =>
    clear HC5
    try clear p2
    try clear c3
    try clear c7
    try clear c7b0
    obtain ⟨kq, x16_4, rfl, HA, HJ4, BK304, HB⟩ := hcut
    cases kq with
    | zero => exact absurd HA.out (by simp [understoryref06_Bounds.j0])
    | succ kj4 =>
      have H := HA.out
      clear HA
      simp only [understoryref06_Bounds.j0] at H
      by_cases c8 : x16_4 = true
      · subst c8
        have H1 : (some ((⟨#[]⟩ : ByteArray), (⟨#[]⟩ : ByteArray), 1)) = some (r1, r2, r3) := by rw [if_pos rfl] at H; exact H
        clear H
        have H := H1
        clear H1
        simp only [Option.some.injEq, Prod.mk.injEq] at H
        obtain ⟨rfl, rfl, rfl⟩ := H
        have hcz9_0 : wc.cell? ⟨gb304, 0, none⟩ = some (.string (⟨#[]⟩ : ByteArray)) := (blk_cell BK304.out 0).trans rfl
        have hcz9_1 : wc.cell? ⟨gb304, 1, none⟩ = some (.string (⟨#[]⟩ : ByteArray)) := (blk_cell BK304.out 1).trans rfl
        have hcz9_2 : wc.cell? ⟨gb304, 2, none⟩ = some (.int .i64 0) := (blk_cell BK304.out 2).trans rfl
        have hfz9_0 := blk_frozen BK304.out 0
        have hfz9_1 := blk_frozen BK304.out 1
        have hfz9_2 := blk_frozen BK304.out 2
        go_wp2
        refine bodyPost_ret (results_cell_row rfl _ _ gb304 42 #[.string (⟨#[]⟩ : ByteArray), .string (⟨#[]⟩ : ByteArray), .int .i64 1] (0, 0) _ rfl (by (with_reducible repeat (first | refine blk_drewN ?_ _ | refine blk_drew ?_ | refine blk_alloc ?_ _)); refine blk_put (cs := #[.string (⟨#[]⟩ : ByteArray), .string (⟨#[]⟩ : ByteArray), .int .i64 0]) ?_ 2 _ rfl; (with_reducible repeat (first | refine blk_drewN ?_ _ | refine blk_drew ?_ | refine blk_alloc ?_ _)); refine blk_put (cs := #[.string (⟨#[]⟩ : ByteArray), .string (⟨#[]⟩ : ByteArray), .int .i64 0]) ?_ 1 _ rfl; (with_reducible repeat (first | refine blk_drewN ?_ _ | refine blk_drew ?_ | refine blk_alloc ?_ _)); refine blk_put (cs := #[.string (⟨#[]⟩ : ByteArray), .string (⟨#[]⟩ : ByteArray), .int .i64 0]) ?_ 0 _ rfl; (with_reducible repeat (first | refine blk_drewN ?_ _ | refine blk_drew ?_ | refine blk_alloc ?_ _)); exact BK304.out) Try.underlying42 rfl (by kernel_rfl)) rfl ?_
        exact ⟨by first | rfl | (simp [errW_none, errW_some] <;> rfl) | (simp [*, errW_none, errW_some] <;> rfl), by repeat (first | (with_reducible first | exact HB.out | apply below_alloc | apply pw_below_drewN | apply below_drew1 | refine below_set ?_ GE304.out) | exact HB.out)⟩
      · replace c8 := Bool.eq_false_iff.mpr c8
        subst c8
        have H1 : (if a1 > 0 then (if 0 ≤ a1 then (if a1 < (l0.length : Int) then (if (wrap64 (a1 + 1)) < (l0.length : Int) then (if 0 ≤ (wrap64 (a1 + 1)) then (some ((rd_T77 l0 a1).f0, (rd_T77 l0 (wrap64 (a1 + 1))).f0, 0)) else (none)) else (some ((rd_T77 l0 a1).f0, a3, 0))) else (none)) else (none)) else (if (wrap64 (a1 + 1)) < (l0.length : Int) then (if 0 ≤ (wrap64 (a1 + 1)) then (some (a2, (rd_T77 l0 (wrap64 (a1 + 1))).f0, 0)) else (none)) else (some (a2, a3, 0)))) = some (r1, r2, r3) := by rw [if_neg (show ¬ (false = true) by decide)] at H; exact H
        clear H
        have H := H1
        clear H1
        by_cases c10 : a1 > 0
        · rw [if_pos c10] at H
          have c10b0 : decide (0 < a1) = true := decide_eq_true c10
          clear c10
          by_cases c11 : 0 ≤ a1
          · rw [if_pos c11] at H
            have c11b0 : decide (0 ≤ a1) = true := decide_eq_true c11
            clear c11
            by_cases c12 : a1 < (l0.length : Int)
            · rw [if_pos c12] at H
              have c12b0 : decide (a1 < (l0.length : Int)) = true := decide_eq_true c12
              clear c12
              by_cases c13 : (wrap64 (a1 + 1)) < (l0.length : Int)
              · rw [if_pos c13] at H
                have c13b0 : decide ((wrap64 (a1 + 1)) < (l0.length : Int)) = true := decide_eq_true c13
                clear c13
                obtain ⟨ji14, hji14⟩ : ∃ j_ : Int, (wrap64 (a1 + 1)) = j_ := ⟨_, rfl⟩
                replace H : (if 0 ≤ (ji14) then (some ((rd_T77 l0 a1).f0, (rd_T77 l0 (ji14)).f0, 0)) else (none)) = some (r1, r2, r3) := by first | (rw [hji14] at H; exact H) | (simp only [hji14] at H ⊢; exact H)
                (try rw [hji14] at c13b0)
                have hji14w : (IntKind.i64.wrap (a1 + 1)) = ji14 := (i64_w _).trans hji14
                by_cases c15 : 0 ≤ (ji14)
                · rw [if_pos c15] at H
                  have c15b0 : decide (0 ≤ (ji14)) = true := decide_eq_true c15
                  clear c15
                  simp only [Option.some.injEq, Prod.mk.injEq] at H
                  obtain ⟨rfl, rfl, rfl⟩ := H
                  have p305 : 0 ≤ (a1 : Int) := of_decide_eq_true (by first | (with_reducible assumption) | assumption)
                  have q305 : a1 < (l0.length : Int) := of_decide_eq_true (by first | (with_reducible assumption) | assumption)
                  obtain ⟨ad305, e305, hx305_0, hx305_1, hx305_2, hx305_3, hx305_4, hx305_5, hx305_6, hx305_7, hx305_8, hx305_9, hx305_10, hx305_11, hx305_12, hx305_13, hx305_14, hx305_15, hx305_16, hx305_17, hx305_18, hx305_19, hx305_20, hx305_21⟩ := at_T77 HR0.out a1 p305 q305
                  cases e305
                  replace hx305_0 := (HB.out.cell (World.block_lt_of_cell? w _ hx305_0)).trans hx305_0
                  replace hx305_1 := (HB.out.cell (World.block_lt_of_cell? w _ hx305_1)).trans hx305_1
                  replace hx305_2 := (HB.out.cell (World.block_lt_of_cell? w _ hx305_2)).trans hx305_2
                  replace hx305_3 := (HB.out.cell (World.block_lt_of_cell? w _ hx305_3)).trans hx305_3
                  replace hx305_4 := (HB.out.cell (World.block_lt_of_cell? w _ hx305_4)).trans hx305_4
                  replace hx305_5 := (HB.out.cell (World.block_lt_of_cell? w _ hx305_5)).trans hx305_5
                  replace hx305_6 := (HB.out.cell (World.block_lt_of_cell? w _ hx305_6)).trans hx305_6
                  replace hx305_7 := (HB.out.cell (World.block_lt_of_cell? w _ hx305_7)).trans hx305_7
                  replace hx305_8 := (HB.out.cell (World.block_lt_of_cell? w _ hx305_8)).trans hx305_8
                  replace hx305_9 := (HB.out.cell (World.block_lt_of_cell? w _ hx305_9)).trans hx305_9
                  replace hx305_10 := (HB.out.cell (World.block_lt_of_cell? w _ hx305_10)).trans hx305_10
                  replace hx305_11 := (HB.out.cell (World.block_lt_of_cell? w _ hx305_11)).trans hx305_11
                  replace hx305_12 := (HB.out.cell (World.block_lt_of_cell? w _ hx305_12)).trans hx305_12
                  replace hx305_13 := (HB.out.cell (World.block_lt_of_cell? w _ hx305_13)).trans hx305_13
                  replace hx305_14 := (HB.out.cell (World.block_lt_of_cell? w _ hx305_14)).trans hx305_14
                  replace hx305_15 := (HB.out.cell (World.block_lt_of_cell? w _ hx305_15)).trans hx305_15
                  replace hx305_16 := (HB.out.cell (World.block_lt_of_cell? w _ hx305_16)).trans hx305_16
                  replace hx305_17 := (HB.out.cell (World.block_lt_of_cell? w _ hx305_17)).trans hx305_17
                  replace hx305_18 := (HB.out.cell (World.block_lt_of_cell? w _ hx305_18)).trans hx305_18
                  replace hx305_19 := (HB.out.cell (World.block_lt_of_cell? w _ hx305_19)).trans hx305_19
                  replace hx305_20 := (HB.out.cell (World.block_lt_of_cell? w _ hx305_20)).trans hx305_20
                  replace hx305_21 := (HB.out.cell (World.block_lt_of_cell? w _ hx305_21)).trans hx305_21
                  replace p305 := eq_true p305
                  replace q305 := eq_true q305
                  have p306 : 0 ≤ ((ji14) : Int) := of_decide_eq_true (by first | (with_reducible assumption) | assumption)
                  have q306 : (ji14) < (l0.length : Int) := of_decide_eq_true (by first | (with_reducible assumption) | assumption)
                  obtain ⟨ad306, e306, hx306_0, hx306_1, hx306_2, hx306_3, hx306_4, hx306_5, hx306_6, hx306_7, hx306_8, hx306_9, hx306_10, hx306_11, hx306_12, hx306_13, hx306_14, hx306_15, hx306_16, hx306_17, hx306_18, hx306_19, hx306_20, hx306_21⟩ := at_T77 HR0.out (ji14) p306 q306
                  obtain rfl : ad305 = ad306 := (by injection e306)
                  replace hx306_0 := (HB.out.cell (World.block_lt_of_cell? w _ hx306_0)).trans hx306_0
                  replace hx306_1 := (HB.out.cell (World.block_lt_of_cell? w _ hx306_1)).trans hx306_1
                  replace hx306_2 := (HB.out.cell (World.block_lt_of_cell? w _ hx306_2)).trans hx306_2
                  replace hx306_3 := (HB.out.cell (World.block_lt_of_cell? w _ hx306_3)).trans hx306_3
                  replace hx306_4 := (HB.out.cell (World.block_lt_of_cell? w _ hx306_4)).trans hx306_4
                  replace hx306_5 := (HB.out.cell (World.block_lt_of_cell? w _ hx306_5)).trans hx306_5
                  replace hx306_6 := (HB.out.cell (World.block_lt_of_cell? w _ hx306_6)).trans hx306_6
                  replace hx306_7 := (HB.out.cell (World.block_lt_of_cell? w _ hx306_7)).trans hx306_7
                  replace hx306_8 := (HB.out.cell (World.block_lt_of_cell? w _ hx306_8)).trans hx306_8
                  replace hx306_9 := (HB.out.cell (World.block_lt_of_cell? w _ hx306_9)).trans hx306_9
                  replace hx306_10 := (HB.out.cell (World.block_lt_of_cell? w _ hx306_10)).trans hx306_10
                  replace hx306_11 := (HB.out.cell (World.block_lt_of_cell? w _ hx306_11)).trans hx306_11
                  replace hx306_12 := (HB.out.cell (World.block_lt_of_cell? w _ hx306_12)).trans hx306_12
                  replace hx306_13 := (HB.out.cell (World.block_lt_of_cell? w _ hx306_13)).trans hx306_13
                  replace hx306_14 := (HB.out.cell (World.block_lt_of_cell? w _ hx306_14)).trans hx306_14
                  replace hx306_15 := (HB.out.cell (World.block_lt_of_cell? w _ hx306_15)).trans hx306_15
                  replace hx306_16 := (HB.out.cell (World.block_lt_of_cell? w _ hx306_16)).trans hx306_16
                  replace hx306_17 := (HB.out.cell (World.block_lt_of_cell? w _ hx306_17)).trans hx306_17
                  replace hx306_18 := (HB.out.cell (World.block_lt_of_cell? w _ hx306_18)).trans hx306_18
                  replace hx306_19 := (HB.out.cell (World.block_lt_of_cell? w _ hx306_19)).trans hx306_19
                  replace hx306_20 := (HB.out.cell (World.block_lt_of_cell? w _ hx306_20)).trans hx306_20
                  replace hx306_21 := (HB.out.cell (World.block_lt_of_cell? w _ hx306_21)).trans hx306_21
                  replace p306 := eq_true p306
                  replace q306 := eq_true q306
                  have hcz16_0 : wc.cell? ⟨gb304, 0, none⟩ = some (.string (⟨#[]⟩ : ByteArray)) := (blk_cell BK304.out 0).trans rfl
                  have hcz16_1 : wc.cell? ⟨gb304, 1, none⟩ = some (.string (⟨#[]⟩ : ByteArray)) := (blk_cell BK304.out 1).trans rfl
                  have hcz16_2 : wc.cell? ⟨gb304, 2, none⟩ = some (.int .i64 0) := (blk_cell BK304.out 2).trans rfl
                  have hfz16_0 := blk_frozen BK304.out 0
                  have hfz16_1 := blk_frozen BK304.out 1
                  have hfz16_2 := blk_frozen BK304.out 2
                  go_wp2
                  refine bodyPost_ret (results_cell_row rfl _ _ gb304 42 #[.string ((rd_T77 l0 a1).f0), .string ((rd_T77 l0 (ji14)).f0), .int .i64 0] (0, 0) _ rfl (by (with_reducible repeat (first | refine blk_drewN ?_ _ | refine blk_drew ?_ | refine blk_alloc ?_ _)); refine blk_put (cs := #[.string ((rd_T77 l0 a1).f0), .string ((rd_T77 l0 (ji14)).f0), .int .i64 0]) ?_ 2 _ rfl; (with_reducible repeat (first | refine blk_drewN ?_ _ | refine blk_drew ?_ | refine blk_alloc ?_ _)); refine blk_put (cs := #[.string ((rd_T77 l0 a1).f0), .string (⟨#[]⟩ : ByteArray), .int .i64 0]) ?_ 1 _ rfl; (with_reducible repeat (first | refine blk_drewN ?_ _ | refine blk_drew ?_ | refine blk_alloc ?_ _)); refine blk_put (cs := #[.string (⟨#[]⟩ : ByteArray), .string (⟨#[]⟩ : ByteArray), .int .i64 0]) ?_ 0 _ rfl; (with_reducible repeat (first | refine blk_drewN ?_ _ | refine blk_drew ?_ | refine blk_alloc ?_ _)); exact BK304.out) Try.underlying42 rfl (by kernel_rfl)) rfl ?_
                  exact ⟨by first | rfl | (simp [errW_none, errW_some] <;> rfl) | (simp only [← hji14]; first | rfl | (simp [errW_none, errW_some] <;> rfl)) | (simp [*, errW_none, errW_some] <;> rfl), by repeat (first | (with_reducible first | exact HB.out | apply below_alloc | apply pw_below_drewN | apply below_drew1 | refine below_set ?_ GE304.out) | exact HB.out)⟩
                · rw [if_neg c15] at H
                  exact absurd H (by simp)
              · rw [if_neg c13] at H
                have c13b0 : decide ((wrap64 (a1 + 1)) < (l0.length : Int)) = false := decide_eq_false c13
                clear c13
                simp only [Option.some.injEq, Prod.mk.injEq] at H
                obtain ⟨rfl, rfl, rfl⟩ := H
                have p305 : 0 ≤ (a1 : Int) := of_decide_eq_true (by first | (with_reducible assumption) | assumption)
                have q305 : a1 < (l0.length : Int) := of_decide_eq_true (by first | (with_reducible assumption) | assumption)
                obtain ⟨ad305, e305, hx305_0, hx305_1, hx305_2, hx305_3, hx305_4, hx305_5, hx305_6, hx305_7, hx305_8, hx305_9, hx305_10, hx305_11, hx305_12, hx305_13, hx305_14, hx305_15, hx305_16, hx305_17, hx305_18, hx305_19, hx305_20, hx305_21⟩ := at_T77 HR0.out a1 p305 q305
                cases e305
                replace hx305_0 := (HB.out.cell (World.block_lt_of_cell? w _ hx305_0)).trans hx305_0
                replace hx305_1 := (HB.out.cell (World.block_lt_of_cell? w _ hx305_1)).trans hx305_1
                replace hx305_2 := (HB.out.cell (World.block_lt_of_cell? w _ hx305_2)).trans hx305_2
                replace hx305_3 := (HB.out.cell (World.block_lt_of_cell? w _ hx305_3)).trans hx305_3
                replace hx305_4 := (HB.out.cell (World.block_lt_of_cell? w _ hx305_4)).trans hx305_4
                replace hx305_5 := (HB.out.cell (World.block_lt_of_cell? w _ hx305_5)).trans hx305_5
                replace hx305_6 := (HB.out.cell (World.block_lt_of_cell? w _ hx305_6)).trans hx305_6
                replace hx305_7 := (HB.out.cell (World.block_lt_of_cell? w _ hx305_7)).trans hx305_7
                replace hx305_8 := (HB.out.cell (World.block_lt_of_cell? w _ hx305_8)).trans hx305_8
                replace hx305_9 := (HB.out.cell (World.block_lt_of_cell? w _ hx305_9)).trans hx305_9
                replace hx305_10 := (HB.out.cell (World.block_lt_of_cell? w _ hx305_10)).trans hx305_10
                replace hx305_11 := (HB.out.cell (World.block_lt_of_cell? w _ hx305_11)).trans hx305_11
                replace hx305_12 := (HB.out.cell (World.block_lt_of_cell? w _ hx305_12)).trans hx305_12
                replace hx305_13 := (HB.out.cell (World.block_lt_of_cell? w _ hx305_13)).trans hx305_13
                replace hx305_14 := (HB.out.cell (World.block_lt_of_cell? w _ hx305_14)).trans hx305_14
                replace hx305_15 := (HB.out.cell (World.block_lt_of_cell? w _ hx305_15)).trans hx305_15
                replace hx305_16 := (HB.out.cell (World.block_lt_of_cell? w _ hx305_16)).trans hx305_16
                replace hx305_17 := (HB.out.cell (World.block_lt_of_cell? w _ hx305_17)).trans hx305_17
                replace hx305_18 := (HB.out.cell (World.block_lt_of_cell? w _ hx305_18)).trans hx305_18
                replace hx305_19 := (HB.out.cell (World.block_lt_of_cell? w _ hx305_19)).trans hx305_19
                replace hx305_20 := (HB.out.cell (World.block_lt_of_cell? w _ hx305_20)).trans hx305_20
                replace hx305_21 := (HB.out.cell (World.block_lt_of_cell? w _ hx305_21)).trans hx305_21
                replace p305 := eq_true p305
                replace q305 := eq_true q305
                have hcz17_0 : wc.cell? ⟨gb304, 0, none⟩ = some (.string (⟨#[]⟩ : ByteArray)) := (blk_cell BK304.out 0).trans rfl
                have hcz17_1 : wc.cell? ⟨gb304, 1, none⟩ = some (.string (⟨#[]⟩ : ByteArray)) := (blk_cell BK304.out 1).trans rfl
                have hcz17_2 : wc.cell? ⟨gb304, 2, none⟩ = some (.int .i64 0) := (blk_cell BK304.out 2).trans rfl
                have hfz17_0 := blk_frozen BK304.out 0
                have hfz17_1 := blk_frozen BK304.out 1
                have hfz17_2 := blk_frozen BK304.out 2
                go_wp2
                refine bodyPost_ret (results_cell_row rfl _ _ gb304 42 #[.string ((rd_T77 l0 a1).f0), .string a3, .int .i64 0] (0, 0) _ rfl (by (with_reducible repeat (first | refine blk_drewN ?_ _ | refine blk_drew ?_ | refine blk_alloc ?_ _)); refine blk_put (cs := #[.string ((rd_T77 l0 a1).f0), .string a3, .int .i64 0]) ?_ 2 _ rfl; (with_reducible repeat (first | refine blk_drewN ?_ _ | refine blk_drew ?_ | refine blk_alloc ?_ _)); refine blk_put (cs := #[.string ((rd_T77 l0 a1).f0), .string (⟨#[]⟩ : ByteArray), .int .i64 0]) ?_ 1 _ rfl; (with_reducible repeat (first | refine blk_drewN ?_ _ | refine blk_drew ?_ | refine blk_alloc ?_ _)); refine blk_put (cs := #[.string (⟨#[]⟩ : ByteArray), .string (⟨#[]⟩ : ByteArray), .int .i64 0]) ?_ 0 _ rfl; (with_reducible repeat (first | refine blk_drewN ?_ _ | refine blk_drew ?_ | refine blk_alloc ?_ _)); exact BK304.out) Try.underlying42 rfl (by kernel_rfl)) rfl ?_
                exact ⟨by first | rfl | (simp [errW_none, errW_some] <;> rfl) | (simp [*, errW_none, errW_some] <;> rfl), by repeat (first | (with_reducible first | exact HB.out | apply below_alloc | apply pw_below_drewN | apply below_drew1 | refine below_set ?_ GE304.out) | exact HB.out)⟩
            · rw [if_neg c12] at H
              exact absurd H (by simp)
          · rw [if_neg c11] at H
            exact absurd H (by simp)
        · rw [if_neg c10] at H
          have c10b0 : decide (0 < a1) = false := decide_eq_false c10
          clear c10
          by_cases c18 : (wrap64 (a1 + 1)) < (l0.length : Int)
          · rw [if_pos c18] at H
            have c18b0 : decide ((wrap64 (a1 + 1)) < (l0.length : Int)) = true := decide_eq_true c18
            clear c18
            obtain ⟨ji19, hji19⟩ : ∃ j_ : Int, (wrap64 (a1 + 1)) = j_ := ⟨_, rfl⟩
            replace H : (if 0 ≤ (ji19) then (some (a2, (rd_T77 l0 (ji19)).f0, 0)) else (none)) = some (r1, r2, r3) := by first | (rw [hji19] at H; exact H) | (simp only [hji19] at H ⊢; exact H)
            (try rw [hji19] at c18b0)
            have hji19w : (IntKind.i64.wrap (a1 + 1)) = ji19 := (i64_w _).trans hji19
            by_cases c20 : 0 ≤ (ji19)
            · rw [if_pos c20] at H
              have c20b0 : decide (0 ≤ (ji19)) = true := decide_eq_true c20
              clear c20
              simp only [Option.some.injEq, Prod.mk.injEq] at H
              obtain ⟨rfl, rfl, rfl⟩ := H
              have p307 : 0 ≤ ((ji19) : Int) := of_decide_eq_true (by first | (with_reducible assumption) | assumption)
              have q307 : (ji19) < (l0.length : Int) := of_decide_eq_true (by first | (with_reducible assumption) | assumption)
              obtain ⟨ad307, e307, hx307_0, hx307_1, hx307_2, hx307_3, hx307_4, hx307_5, hx307_6, hx307_7, hx307_8, hx307_9, hx307_10, hx307_11, hx307_12, hx307_13, hx307_14, hx307_15, hx307_16, hx307_17, hx307_18, hx307_19, hx307_20, hx307_21⟩ := at_T77 HR0.out (ji19) p307 q307
              cases e307
              replace hx307_0 := (HB.out.cell (World.block_lt_of_cell? w _ hx307_0)).trans hx307_0
              replace hx307_1 := (HB.out.cell (World.block_lt_of_cell? w _ hx307_1)).trans hx307_1
              replace hx307_2 := (HB.out.cell (World.block_lt_of_cell? w _ hx307_2)).trans hx307_2
              replace hx307_3 := (HB.out.cell (World.block_lt_of_cell? w _ hx307_3)).trans hx307_3
              replace hx307_4 := (HB.out.cell (World.block_lt_of_cell? w _ hx307_4)).trans hx307_4
              replace hx307_5 := (HB.out.cell (World.block_lt_of_cell? w _ hx307_5)).trans hx307_5
              replace hx307_6 := (HB.out.cell (World.block_lt_of_cell? w _ hx307_6)).trans hx307_6
              replace hx307_7 := (HB.out.cell (World.block_lt_of_cell? w _ hx307_7)).trans hx307_7
              replace hx307_8 := (HB.out.cell (World.block_lt_of_cell? w _ hx307_8)).trans hx307_8
              replace hx307_9 := (HB.out.cell (World.block_lt_of_cell? w _ hx307_9)).trans hx307_9
              replace hx307_10 := (HB.out.cell (World.block_lt_of_cell? w _ hx307_10)).trans hx307_10
              replace hx307_11 := (HB.out.cell (World.block_lt_of_cell? w _ hx307_11)).trans hx307_11
              replace hx307_12 := (HB.out.cell (World.block_lt_of_cell? w _ hx307_12)).trans hx307_12
              replace hx307_13 := (HB.out.cell (World.block_lt_of_cell? w _ hx307_13)).trans hx307_13
              replace hx307_14 := (HB.out.cell (World.block_lt_of_cell? w _ hx307_14)).trans hx307_14
              replace hx307_15 := (HB.out.cell (World.block_lt_of_cell? w _ hx307_15)).trans hx307_15
              replace hx307_16 := (HB.out.cell (World.block_lt_of_cell? w _ hx307_16)).trans hx307_16
              replace hx307_17 := (HB.out.cell (World.block_lt_of_cell? w _ hx307_17)).trans hx307_17
              replace hx307_18 := (HB.out.cell (World.block_lt_of_cell? w _ hx307_18)).trans hx307_18
              replace hx307_19 := (HB.out.cell (World.block_lt_of_cell? w _ hx307_19)).trans hx307_19
              replace hx307_20 := (HB.out.cell (World.block_lt_of_cell? w _ hx307_20)).trans hx307_20
              replace hx307_21 := (HB.out.cell (World.block_lt_of_cell? w _ hx307_21)).trans hx307_21
              replace p307 := eq_true p307
              replace q307 := eq_true q307
              have hcz21_0 : wc.cell? ⟨gb304, 0, none⟩ = some (.string (⟨#[]⟩ : ByteArray)) := (blk_cell BK304.out 0).trans rfl
              have hcz21_1 : wc.cell? ⟨gb304, 1, none⟩ = some (.string (⟨#[]⟩ : ByteArray)) := (blk_cell BK304.out 1).trans rfl
              have hcz21_2 : wc.cell? ⟨gb304, 2, none⟩ = some (.int .i64 0) := (blk_cell BK304.out 2).trans rfl
              have hfz21_0 := blk_frozen BK304.out 0
              have hfz21_1 := blk_frozen BK304.out 1
              have hfz21_2 := blk_frozen BK304.out 2
              go_wp2
              refine bodyPost_ret (results_cell_row rfl _ _ gb304 42 #[.string a2, .string ((rd_T77 l0 (ji19)).f0), .int .i64 0] (0, 0) _ rfl (by (with_reducible repeat (first | refine blk_drewN ?_ _ | refine blk_drew ?_ | refine blk_alloc ?_ _)); refine blk_put (cs := #[.string a2, .string ((rd_T77 l0 (ji19)).f0), .int .i64 0]) ?_ 2 _ rfl; (with_reducible repeat (first | refine blk_drewN ?_ _ | refine blk_drew ?_ | refine blk_alloc ?_ _)); refine blk_put (cs := #[.string a2, .string (⟨#[]⟩ : ByteArray), .int .i64 0]) ?_ 1 _ rfl; (with_reducible repeat (first | refine blk_drewN ?_ _ | refine blk_drew ?_ | refine blk_alloc ?_ _)); refine blk_put (cs := #[.string (⟨#[]⟩ : ByteArray), .string (⟨#[]⟩ : ByteArray), .int .i64 0]) ?_ 0 _ rfl; (with_reducible repeat (first | refine blk_drewN ?_ _ | refine blk_drew ?_ | refine blk_alloc ?_ _)); exact BK304.out) Try.underlying42 rfl (by kernel_rfl)) rfl ?_
              exact ⟨by first | rfl | (simp [errW_none, errW_some] <;> rfl) | (simp only [← hji19]; first | rfl | (simp [errW_none, errW_some] <;> rfl)) | (simp [*, errW_none, errW_some] <;> rfl), by repeat (first | (with_reducible first | exact HB.out | apply below_alloc | apply pw_below_drewN | apply below_drew1 | refine below_set ?_ GE304.out) | exact HB.out)⟩
            · rw [if_neg c20] at H
              exact absurd H (by simp)
          · rw [if_neg c18] at H
            have c18b0 : decide ((wrap64 (a1 + 1)) < (l0.length : Int)) = false := decide_eq_false c18
            clear c18
            simp only [Option.some.injEq, Prod.mk.injEq] at H
            obtain ⟨rfl, rfl, rfl⟩ := H
            have hcz22_0 : wc.cell? ⟨gb304, 0, none⟩ = some (.string (⟨#[]⟩ : ByteArray)) := (blk_cell BK304.out 0).trans rfl
            have hcz22_1 : wc.cell? ⟨gb304, 1, none⟩ = some (.string (⟨#[]⟩ : ByteArray)) := (blk_cell BK304.out 1).trans rfl
            have hcz22_2 : wc.cell? ⟨gb304, 2, none⟩ = some (.int .i64 0) := (blk_cell BK304.out 2).trans rfl
            have hfz22_0 := blk_frozen BK304.out 0
            have hfz22_1 := blk_frozen BK304.out 1
            have hfz22_2 := blk_frozen BK304.out 2
            go_wp2
            refine bodyPost_ret (results_cell_row rfl _ _ gb304 42 #[.string a2, .string a3, .int .i64 0] (0, 0) _ rfl (by (with_reducible repeat (first | refine blk_drewN ?_ _ | refine blk_drew ?_ | refine blk_alloc ?_ _)); refine blk_put (cs := #[.string a2, .string a3, .int .i64 0]) ?_ 2 _ rfl; (with_reducible repeat (first | refine blk_drewN ?_ _ | refine blk_drew ?_ | refine blk_alloc ?_ _)); refine blk_put (cs := #[.string a2, .string (⟨#[]⟩ : ByteArray), .int .i64 0]) ?_ 1 _ rfl; (with_reducible repeat (first | refine blk_drewN ?_ _ | refine blk_drew ?_ | refine blk_alloc ?_ _)); refine blk_put (cs := #[.string (⟨#[]⟩ : ByteArray), .string (⟨#[]⟩ : ByteArray), .int .i64 0]) ?_ 0 _ rfl; (with_reducible repeat (first | refine blk_drewN ?_ _ | refine blk_drew ?_ | refine blk_alloc ?_ _)); exact BK304.out) Try.underlying42 rfl (by kernel_rfl)) rfl ?_
            exact ⟨by first | rfl | (simp [errW_none, errW_some] <;> rfl) | (simp [*, errW_none, errW_some] <;> rfl), by repeat (first | (with_reducible first | exact HB.out | apply below_alloc | apply pw_below_drewN | apply below_drew1 | refine below_set ?_ GE304.out) | exact HB.out)⟩

end Go.Proofs.Ytalncokpbgbccaa.E

/- NodeSearches, the walk: it returns true. -/
namespace Go.Proofs.Ytalncokpbgbccaa.E
set_option linter.unusedVariables false
set_option linter.unusedSimpArgs false
open Go.RowKit Go.Proofs.YtalncokpbgbccaaW.PrintWords Go.Proofs.YtalncokpbgbccaaW.PrintLast Go.Proofs.YtalncokpbgbccaaW.PrintMore
theorem below_tr2 {w X Y : World} (hb : Below w.heap.size w X) (h : Below X.heap.size X Y) : Below w.heap.size w Y := hb.trans (h.mono hb.size)
/-- a call that answers so, and leaves what is there as it is, from wherever the world below is as it was -/
@[reducible] def Say (w : World) (f : Nat) (args : Array Value) (v : Value) : Prop := ∀ w1, Below w.heap.size w w1 → Calls Try.prog f args w1 fun e w2 => e = .returned v ∧ Below w1.heap.size w1 w2
theorem say_drawn {w : World} {f : Nat} {args : Array Value} {v : Value} (h : ∀ w1, Below w.heap.size w w1 → Calls Try.prog f args w1 fun e w2 => e = .returned v ∧ Drawn0 w1 w2) : Say w f args v := fun w1 b => (h w1 b).mono fun e w2 ⟨e1, n, b2⟩ => ⟨e1, by rw [b2]; exact pw_below_drewN (Below.refl _ _) _⟩
end Go.Proofs.Ytalncokpbgbccaa.E

/- The reference's Fits, Small and Check: the walks. -/
namespace Go.Proofs.Ytalncokpbgbccaa.E
set_option linter.unusedVariables false
set_option linter.unusedSimpArgs false
open Go.RowKit Go.Proofs.YtalncokpbgbccaaW.PrintWords Go.Proofs.YtalncokpbgbccaaW.PrintLast Go.Proofs.YtalncokpbgbccaaW.PrintMore
end Go.Proofs.Ytalncokpbgbccaa.E

