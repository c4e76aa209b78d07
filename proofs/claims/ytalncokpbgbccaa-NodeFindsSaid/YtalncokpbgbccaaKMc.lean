-- A slim copy of Mc, NJ, written by wip/tools/prune2.py.
import Derived.Deep.RegionHeld3
import Derived.Test.YtalncokpbgbccaaKMb
import Derived.Test.YtalncokpbgbccaaKNx0
/- Joined: NF, Rj. -/
/- Small, Ordered: what the program says of a list of entries. -/
namespace Go.Proofs.Ytalncokpbgbccaa.E
set_option linter.unusedVariables false
set_option linter.unusedSimpArgs false
open Go.RowKit Go.Proofs.YtalncokpbgbccaaW.PrintWords Go.Proofs.YtalncokpbgbccaaW.PrintLast Go.Proofs.YtalncokpbgbccaaW.PrintMore

theorem ent0 (x : S77) : (entC x)[0]? = some (.string x.f0) := rfl
/-- the key of an element of a row -/
theorem prev_key {W : World} {ad : Addr} {n : Nat} {xs : List S77} (h : Kd.C k77 W (some ad) n xs) (i : Nat) (hi : i < n) : W.cell? (ad.add (i * 22)) = some (.string (xs.getD i z77).f0) := by
  obtain ⟨ad', e, hx, _⟩ := at_T77 h (i : Int) (by omega) (by omega)
  obtain rfl := Option.some.inj e
  exact hx
/-- is the entry at place i in order -/
def okAt (l : List S77) (level : Int) (i : Nat) : Bool :=
  if level > 0 ∧ i = 0 then (l.getD i z77).f0.toList.isEmpty
  else decide (1 ≤ (l.getD i z77).f0.size) && (decide ((l.getD i z77).f0.size ≤ 48) && (decide (i = 0) || Op.bytesLess (l.getD (i - 1) z77).f0.toList (l.getD i z77).f0.toList))
def ordL (l : List S77) (level : Int) : Bool := inB level 0 20 && (List.range l.length).all (okAt l level)
theorem all_to (p : Nat → Bool) (n : Nat) (h : ∀ j, j < n → p j = true) : (List.range n).all p = true := by simpa using h
theorem all_not (p : Nat → Bool) (n k : Nat) (hk : k < n) (h : p k = false) : (List.range n).all p = false := by
  rw [List.all_eq_false]; exact ⟨k, by simpa using hk, by simp [h]⟩
set_option maxRecDepth 100000 in
set_option maxHeartbeats 4000000 in
theorem ordered_bad (l : List S77) (A : Option Addr) (c : Nat) (level : Int) (w : World) (hl : inB level 0 20 = false) :
    Calls Try.prog 21 #[.slice A l.length c, .int .i64 level] w fun e w' => e = .returned (.bool false) ∧ Below w.heap.size w w' := by
  have hcs : level < 0 ∨ 20 < level := by simp [inB] at hl; omega
  clear hl
  rcases hcs with h | h
  · have hb : decide (level < 0) = true := decide_eq_true h
    clear h
    go_enter Try.func21, Try.ntmps21
    go_wp2
    go_ret
    exact ⟨rfl, by repeat (first | exact Below.refl _ _ | apply below_alloc | apply pw_below_drewN | apply below_drew1)⟩
  · have hb : decide (level < 0) = false := decide_eq_false (by omega)
    have hb2 : decide (level > 20) = true := decide_eq_true (by omega)
    have hb3 : decide (20 < level) = true := decide_eq_true (by omega)
    clear h
    go_enter Try.func21, Try.ntmps21
    go_wp2
    go_ret
    exact ⟨rfl, by repeat (first | exact Below.refl _ _ | apply below_alloc | apply pw_below_drewN | apply below_drew1)⟩
set_option maxRecDepth 100000 in
set_option maxHeartbeats 4000000 in
theorem ordered_ok (l : List S77) (A : Option Addr) (c : Nat) (level : Int) (w : World) (hr : Kd.C k77 w A l.length l) (hlen : l.length ≤ 1000000) (hl : inB level 0 20 = true) :
    Calls Try.prog 21 #[.slice A l.length c, .int .i64 level] w fun e w' => e = .returned (.bool ((List.range l.length).all (okAt l level))) ∧ Below w.heap.size w w' := by
  have hcs : 0 ≤ level ∧ level ≤ 20 := by simp [inB] at hl; omega
  have hb0 : decide (level < 0) = false := decide_eq_false (by omega)
  have hb2 : decide (level > 20) = false := decide_eq_false (by omega)
  have hb3 : decide (20 < level) = false := decide_eq_false (by omega)
  clear hl hcs
  have HR := Aside0.mk hr
  clear hr
  have HB := Aside0.mk (Below.refl w.heap.size w)
  obtain ⟨R, hR⟩ : ∃ R, (List.range l.length).all (okAt l level) = R := ⟨_, rfl⟩
  have HRES := Aside0.mk hR
  rw [hR]
  clear hR
  go_enter Try.func21, Try.ntmps21
  go_wp2
  go_loopw [15] (fun i wr => ∃ (k : Nat), k ≤ l.length ∧ i = .int .i64 k ∧ Aside0 (∀ j, j < k → okAt l level j = true) ∧ Aside0 (Below w.heap.size w wr)) (fun i _ => l.length - (intOf i).toNat)
  case atStart => exact ⟨0, Nat.zero_le _, rfl, ⟨fun j hj => by omega⟩, HB⟩
  case round =>
    obtain ⟨k, hk, rfl, HO, HBr⟩ := hrel
    by_cases hlt : k < l.length
    · obtain ⟨ad, rfl, hel⟩ := elem_at (Kd.C_below HR.out HBr.out) k hlt
      have HEL := Aside0.mk hel
      have hkw : wrap64 ((k : Int) + 1) = (k : Int) + 1 := w64 _ (by omega) (by omega)
      have HOK := Aside0.mk (show okAt l level k = okAt l level k from rfl)
      clear hel
      obtain ⟨x, hx⟩ : ∃ x, l.getD k z77 = x := ⟨_, rfl⟩
      rw [hx] at HEL
      have HX := Aside0.mk hx
      clear hx
      by_cases hfirst : level > 0 ∧ k = 0
      · have k1 : decide (level > 0) = true := decide_eq_true hfirst.1
        have k1' : decide (0 < level) = true := decide_eq_true hfirst.1
        have hk0 : k = 0 := hfirst.2
        subst hk0
        have HF := Aside0.mk hfirst
        clear hfirst
        have hok : okAt l level 0 = x.f0.toList.isEmpty := by unfold okAt; rw [if_pos HF.out, HX.out]
        have HOKX := Aside0.mk hok
        clear hok
        cases he : x.f0.toList.isEmpty
        · go_wp2_with (first
            | ((with_reducible refine gate_dst (N := 19) rfl ?_); refine wpList_load_el rfl (.tmp 18) rfl _ rfl x HEL.out ?_)
            | (refine wpList_store_new rfl (.tmp 6) (.tmp 19) rfl x rfl rfl rfl ?_; intro W2 hg2 hb2; have HG2 := Aside0.mk hg2; have HB2 := Aside0.mk (HBr.out.trans (hb2.mono HBr.out.size)); have c0 := cell_of_box hg2 (ent0 x); clear hg2 hb2))
          go_ret
          refine ⟨?_, HB2.out⟩
          rw [show R = false from by rw [← HRES.out, all_not _ _ 0 hlt (by rw [HOKX.out, he])]]
          rfl
        · go_wp2_with (first
            | ((with_reducible refine gate_dst (N := 19) rfl ?_); refine wpList_load_el rfl (.tmp 18) rfl _ rfl x HEL.out ?_)
            | (refine wpList_store_new rfl (.tmp 6) (.tmp 19) rfl x rfl rfl rfl ?_; intro W2 hg2 hb2; have HG2 := Aside0.mk hg2; have HB2 := Aside0.mk (HBr.out.trans (hb2.mono HBr.out.size)); have c0 := cell_of_box hg2 (ent0 x); clear hg2 hb2))
          go_roundw
          case rel =>
            have hall : ∀ j, j < 1 → okAt l level j = true := fun j hj => by
              have h0 : j = 0 := by omega
              subst h0; rw [HOKX.out, he]
            exact ⟨1, by omega, by simp, ⟨hall⟩, HB2⟩
          case measure => simp [intOf]; omega
      · have hval : okAt l level k = (decide (1 ≤ x.f0.size) && (decide (x.f0.size ≤ 48) && (decide (k = 0) || Op.bytesLess (l.getD (k - 1) z77).f0.toList x.f0.toList))) := by unfold okAt; rw [if_neg hfirst, HX.out]
        have HVAL := Aside0.mk hval
        have HNEXT := Aside0.mk (show okAt l level k = true → ∀ j, j < k + 1 → okAt l level j = true from fun hv j hj => by
          by_cases h : j = k
          · subst h; exact hv
          · exact HO.out j (by omega))
        clear hval
        by_cases hlv : level > 0
        · have hk0 : ¬ k = 0 := fun h => hfirst ⟨hlv, h⟩
          have k1 : decide (level > 0) = true := decide_eq_true hlv
          have k1' : decide (0 < level) = true := decide_eq_true hlv
          have k2 : ((k : Int) == 0) = false := by simp; omega
          clear hfirst hlv
          by_cases hA : x.f0.size < 1
          · have HV := Aside0.mk (show okAt l level k = false by rw [HVAL.out]; simp; omega)
            have q1 : decide ((x.f0.size : Int) < 1) = true := decide_eq_true (by omega)
            clear hA
            go_wp2_with (first
              | ((with_reducible refine gate_dst (N := 19) rfl ?_); refine wpList_load_el rfl (.tmp 18) rfl _ rfl x HEL.out ?_)
              | (refine wpList_store_new rfl (.tmp 6) (.tmp 19) rfl x rfl rfl rfl ?_; intro W2 hg2 hb2; have HG2 := Aside0.mk hg2; have HB2 := Aside0.mk (HBr.out.trans (hb2.mono HBr.out.size)); have c0 := cell_of_box hg2 (ent0 x); clear hg2 hb2))
            repeat (go_quiet (fail); try go_wp2)
            go_ret
            refine ⟨?_, by first | exact HB2.out | exact below_drew1 HB2.out | exact pw_below_drewN HB2.out _⟩
            rw [show R = false from by rw [← HRES.out, all_not _ _ k hlt HV.out]] <;> rfl
          · have q1 : decide ((x.f0.size : Int) < 1) = false := decide_eq_false (by omega)
            by_cases hB : 48 < x.f0.size
            · have HV := Aside0.mk (show okAt l level k = false by rw [HVAL.out]; simp; omega)
              have q2 : decide ((x.f0.size : Int) > 48) = true := decide_eq_true (by omega)
              clear hA hB
              go_wp2_with (first
                | ((with_reducible refine gate_dst (N := 19) rfl ?_); refine wpList_load_el rfl (.tmp 18) rfl _ rfl x HEL.out ?_)
                | (refine wpList_store_new rfl (.tmp 6) (.tmp 19) rfl x rfl rfl rfl ?_; intro W2 hg2 hb2; have HG2 := Aside0.mk hg2; have HB2 := Aside0.mk (HBr.out.trans (hb2.mono HBr.out.size)); have c0 := cell_of_box hg2 (ent0 x); clear hg2 hb2))
              repeat (go_quiet (fail); try go_wp2)
              go_ret
              refine ⟨?_, by first | exact HB2.out | exact below_drew1 HB2.out | exact pw_below_drewN HB2.out _⟩
              rw [show R = false from by rw [← HRES.out, all_not _ _ k hlt HV.out]] <;> rfl
            · have q2 : decide ((x.f0.size : Int) > 48) = false := decide_eq_false (by omega)
              by_cases hK : k = 0
              · exact absurd hK hk0
              · have q3 : decide ((k : Int) > 0) = true := decide_eq_true (by omega)
                have q4 : decide (0 < (k : Int)) = true := decide_eq_true (by omega)
                have q5 : decide (0 < k) = true := decide_eq_true (by omega)
                obtain ⟨p, hp⟩ : ∃ p : Nat, k = p + 1 := ⟨k - 1, by omega⟩
                have hw1 : IntKind.i64.wrap ((k : Int) - 1) = (p : Int) := by rw [i64w _ (by omega) (by omega)]; omega
                have hw2 : wrap64 ((k : Int) - 1) = (p : Int) := by rw [w64 _ (by omega) (by omega)]; omega
                have hw4 : p < l.length := by omega
                have hw6 : (p : Int) < (l.length : Int) := by omega
                have hw7 : 0 ≤ (p : Int) := by omega
                have hpk : k - 1 = p := by omega
                have HPREV := Aside0.mk (fun (W : World) (hB : Below w.heap.size w W) => prev_key (Kd.C_below HR.out hB) p hw4)
                rw [hpk] at HVAL
                obtain ⟨y, hyy⟩ : ∃ y, l.getD p z77 = y := ⟨_, rfl⟩
                rw [hyy] at HPREV HVAL
                clear hyy
                cases hL : Op.bytesLess y.f0.toList x.f0.toList
                · cases hM : Op.bytesLess x.f0.toList y.f0.toList
                  · have hE : (x.f0.toList == y.f0.toList) = true := by have := less_total x.f0.toList y.f0.toList; rw [hM, hL] at this; simpa using this
                    have HV := Aside0.mk (show okAt l level k = false by rw [HVAL.out, hL, decide_eq_false hK]; simp)
                    clear hA hB hK hp hpk
                    go_wp2_with (first
                      | ((with_reducible refine gate_dst (N := 19) rfl ?_); refine wpList_load_el rfl (.tmp 18) rfl _ rfl x HEL.out ?_)
                      | (refine wpList_store_new rfl (.tmp 6) (.tmp 19) rfl x rfl rfl rfl ?_; intro W2 hg2 hb2; have HG2 := Aside0.mk hg2; have HB2 := Aside0.mk (HBr.out.trans (hb2.mono HBr.out.size)); have c0 := cell_of_box hg2 (ent0 x); have hy := HPREV.out W2 HB2.out; clear hg2 hb2))
                    repeat (go_quiet (fail); try go_wp2)
                    go_ret
                    refine ⟨?_, by first | exact HB2.out | exact below_drew1 HB2.out | exact pw_below_drewN HB2.out _⟩
                    rw [show R = false from by rw [← HRES.out, all_not _ _ k hlt HV.out]] <;> rfl
                  · have HV := Aside0.mk (show okAt l level k = false by rw [HVAL.out, hL, decide_eq_false hK]; simp)
                    clear hA hB hK hp hpk
                    go_wp2_with (first
                      | ((with_reducible refine gate_dst (N := 19) rfl ?_); refine wpList_load_el rfl (.tmp 18) rfl _ rfl x HEL.out ?_)
                      | (refine wpList_store_new rfl (.tmp 6) (.tmp 19) rfl x rfl rfl rfl ?_; intro W2 hg2 hb2; have HG2 := Aside0.mk hg2; have HB2 := Aside0.mk (HBr.out.trans (hb2.mono HBr.out.size)); have c0 := cell_of_box hg2 (ent0 x); have hy := HPREV.out W2 HB2.out; clear hg2 hb2))
                    repeat (go_quiet (fail); try go_wp2)
                    go_ret
                    refine ⟨?_, by first | exact HB2.out | exact below_drew1 HB2.out | exact pw_below_drewN HB2.out _⟩
                    rw [show R = false from by rw [← HRES.out, all_not _ _ k hlt HV.out]] <;> rfl
                · have HV := Aside0.mk (show okAt l level k = true by rw [HVAL.out, hL, decide_eq_false hK, decide_eq_true (show 1 ≤ x.f0.size by omega), decide_eq_true (show x.f0.size ≤ 48 by omega)]; rfl)
                  have hcmp : (Op.bytesLess x.f0.toList y.f0.toList || x.f0.toList == y.f0.toList) = false := by rw [less_total, hL]; rfl
                  obtain ⟨hM, hE⟩ : Op.bytesLess x.f0.toList y.f0.toList = false ∧ (x.f0.toList == y.f0.toList) = false := by simpa only [Bool.or_eq_false_iff] using hcmp
                  clear hcmp
                  clear hA hB hK hp hpk
                  go_wp2_with (first
                    | ((with_reducible refine gate_dst (N := 19) rfl ?_); refine wpList_load_el rfl (.tmp 18) rfl _ rfl x HEL.out ?_)
                    | (refine wpList_store_new rfl (.tmp 6) (.tmp 19) rfl x rfl rfl rfl ?_; intro W2 hg2 hb2; have HG2 := Aside0.mk hg2; have HB2 := Aside0.mk (HBr.out.trans (hb2.mono HBr.out.size)); have c0 := cell_of_box hg2 (ent0 x); have hy := HPREV.out W2 HB2.out; clear hg2 hb2))
                  repeat (go_quiet (fail); try go_wp2)
                  go_roundw
                  case rel => exact ⟨k + 1, by omega, by simp, ⟨HNEXT.out HV.out⟩, ⟨by first | exact HB2.out | exact below_drew1 HB2.out | exact pw_below_drewN HB2.out _⟩⟩
                  case measure => simp [intOf]; omega
        · have k1 : decide (level > 0) = false := decide_eq_false hlv
          have k1' : decide (0 < level) = false := decide_eq_false hlv
          clear hfirst hlv
          by_cases hA : x.f0.size < 1
          · have HV := Aside0.mk (show okAt l level k = false by rw [HVAL.out]; simp; omega)
            have q1 : decide ((x.f0.size : Int) < 1) = true := decide_eq_true (by omega)
            clear hA
            go_wp2_with (first
              | ((with_reducible refine gate_dst (N := 19) rfl ?_); refine wpList_load_el rfl (.tmp 18) rfl _ rfl x HEL.out ?_)
              | (refine wpList_store_new rfl (.tmp 6) (.tmp 19) rfl x rfl rfl rfl ?_; intro W2 hg2 hb2; have HG2 := Aside0.mk hg2; have HB2 := Aside0.mk (HBr.out.trans (hb2.mono HBr.out.size)); have c0 := cell_of_box hg2 (ent0 x); clear hg2 hb2))
            repeat (go_quiet (fail); try go_wp2)
            go_ret
            refine ⟨?_, by first | exact HB2.out | exact below_drew1 HB2.out | exact pw_below_drewN HB2.out _⟩
            rw [show R = false from by rw [← HRES.out, all_not _ _ k hlt HV.out]] <;> rfl
          · have q1 : decide ((x.f0.size : Int) < 1) = false := decide_eq_false (by omega)
            by_cases hB : 48 < x.f0.size
            · have HV := Aside0.mk (show okAt l level k = false by rw [HVAL.out]; simp; omega)
              have q2 : decide ((x.f0.size : Int) > 48) = true := decide_eq_true (by omega)
              clear hA hB
              go_wp2_with (first
                | ((with_reducible refine gate_dst (N := 19) rfl ?_); refine wpList_load_el rfl (.tmp 18) rfl _ rfl x HEL.out ?_)
                | (refine wpList_store_new rfl (.tmp 6) (.tmp 19) rfl x rfl rfl rfl ?_; intro W2 hg2 hb2; have HG2 := Aside0.mk hg2; have HB2 := Aside0.mk (HBr.out.trans (hb2.mono HBr.out.size)); have c0 := cell_of_box hg2 (ent0 x); clear hg2 hb2))
              repeat (go_quiet (fail); try go_wp2)
              go_ret
              refine ⟨?_, by first | exact HB2.out | exact below_drew1 HB2.out | exact pw_below_drewN HB2.out _⟩
              rw [show R = false from by rw [← HRES.out, all_not _ _ k hlt HV.out]] <;> rfl
            · have q2 : decide ((x.f0.size : Int) > 48) = false := decide_eq_false (by omega)
              by_cases hK : k = 0
              · have HV := Aside0.mk (show okAt l level k = true by rw [HVAL.out, decide_eq_true hK, decide_eq_true (show 1 ≤ x.f0.size by omega), decide_eq_true (show x.f0.size ≤ 48 by omega)]; rfl)
                have q3 : decide ((k : Int) > 0) = false := decide_eq_false (by omega)
                have q4 : decide (0 < (k : Int)) = false := decide_eq_false (by omega)
                have q5 : decide (0 < k) = false := decide_eq_false (by omega)
                clear hA hB hK
                go_wp2_with (first
                  | ((with_reducible refine gate_dst (N := 19) rfl ?_); refine wpList_load_el rfl (.tmp 18) rfl _ rfl x HEL.out ?_)
                  | (refine wpList_store_new rfl (.tmp 6) (.tmp 19) rfl x rfl rfl rfl ?_; intro W2 hg2 hb2; have HG2 := Aside0.mk hg2; have HB2 := Aside0.mk (HBr.out.trans (hb2.mono HBr.out.size)); have c0 := cell_of_box hg2 (ent0 x); clear hg2 hb2))
                repeat (go_quiet (fail); try go_wp2)
                go_roundw
                case rel => exact ⟨k + 1, by omega, by simp, ⟨HNEXT.out HV.out⟩, ⟨by first | exact HB2.out | exact below_drew1 HB2.out | exact pw_below_drewN HB2.out _⟩⟩
                case measure => simp [intOf]; omega
              · have q3 : decide ((k : Int) > 0) = true := decide_eq_true (by omega)
                have q4 : decide (0 < (k : Int)) = true := decide_eq_true (by omega)
                have q5 : decide (0 < k) = true := decide_eq_true (by omega)
                obtain ⟨p, hp⟩ : ∃ p : Nat, k = p + 1 := ⟨k - 1, by omega⟩
                have hw1 : IntKind.i64.wrap ((k : Int) - 1) = (p : Int) := by rw [i64w _ (by omega) (by omega)]; omega
                have hw2 : wrap64 ((k : Int) - 1) = (p : Int) := by rw [w64 _ (by omega) (by omega)]; omega
                have hw4 : p < l.length := by omega
                have hw6 : (p : Int) < (l.length : Int) := by omega
                have hw7 : 0 ≤ (p : Int) := by omega
                have hpk : k - 1 = p := by omega
                have HPREV := Aside0.mk (fun (W : World) (hB : Below w.heap.size w W) => prev_key (Kd.C_below HR.out hB) p hw4)
                rw [hpk] at HVAL
                obtain ⟨y, hyy⟩ : ∃ y, l.getD p z77 = y := ⟨_, rfl⟩
                rw [hyy] at HPREV HVAL
                clear hyy
                cases hL : Op.bytesLess y.f0.toList x.f0.toList
                · cases hM : Op.bytesLess x.f0.toList y.f0.toList
                  · have hE : (x.f0.toList == y.f0.toList) = true := by have := less_total x.f0.toList y.f0.toList; rw [hM, hL] at this; simpa using this
                    have HV := Aside0.mk (show okAt l level k = false by rw [HVAL.out, hL, decide_eq_false hK]; simp)
                    clear hA hB hK hp hpk
                    go_wp2_with (first
                      | ((with_reducible refine gate_dst (N := 19) rfl ?_); refine wpList_load_el rfl (.tmp 18) rfl _ rfl x HEL.out ?_)
                      | (refine wpList_store_new rfl (.tmp 6) (.tmp 19) rfl x rfl rfl rfl ?_; intro W2 hg2 hb2; have HG2 := Aside0.mk hg2; have HB2 := Aside0.mk (HBr.out.trans (hb2.mono HBr.out.size)); have c0 := cell_of_box hg2 (ent0 x); have hy := HPREV.out W2 HB2.out; clear hg2 hb2))
                    repeat (go_quiet (fail); try go_wp2)
                    go_ret
                    refine ⟨?_, by first | exact HB2.out | exact below_drew1 HB2.out | exact pw_below_drewN HB2.out _⟩
                    rw [show R = false from by rw [← HRES.out, all_not _ _ k hlt HV.out]] <;> rfl
                  · have HV := Aside0.mk (show okAt l level k = false by rw [HVAL.out, hL, decide_eq_false hK]; simp)
                    clear hA hB hK hp hpk
                    go_wp2_with (first
                      | ((with_reducible refine gate_dst (N := 19) rfl ?_); refine wpList_load_el rfl (.tmp 18) rfl _ rfl x HEL.out ?_)
                      | (refine wpList_store_new rfl (.tmp 6) (.tmp 19) rfl x rfl rfl rfl ?_; intro W2 hg2 hb2; have HG2 := Aside0.mk hg2; have HB2 := Aside0.mk (HBr.out.trans (hb2.mono HBr.out.size)); have c0 := cell_of_box hg2 (ent0 x); have hy := HPREV.out W2 HB2.out; clear hg2 hb2))
                    repeat (go_quiet (fail); try go_wp2)
                    go_ret
                    refine ⟨?_, by first | exact HB2.out | exact below_drew1 HB2.out | exact pw_below_drewN HB2.out _⟩
                    rw [show R = false from by rw [← HRES.out, all_not _ _ k hlt HV.out]] <;> rfl
                · have HV := Aside0.mk (show okAt l level k = true by rw [HVAL.out, hL, decide_eq_false hK, decide_eq_true (show 1 ≤ x.f0.size by omega), decide_eq_true (show x.f0.size ≤ 48 by omega)]; rfl)
                  have hcmp : (Op.bytesLess x.f0.toList y.f0.toList || x.f0.toList == y.f0.toList) = false := by rw [less_total, hL]; rfl
                  obtain ⟨hM, hE⟩ : Op.bytesLess x.f0.toList y.f0.toList = false ∧ (x.f0.toList == y.f0.toList) = false := by simpa only [Bool.or_eq_false_iff] using hcmp
                  clear hcmp
                  clear hA hB hK hp hpk
                  go_wp2_with (first
                    | ((with_reducible refine gate_dst (N := 19) rfl ?_); refine wpList_load_el rfl (.tmp 18) rfl _ rfl x HEL.out ?_)
                    | (refine wpList_store_new rfl (.tmp 6) (.tmp 19) rfl x rfl rfl rfl ?_; intro W2 hg2 hb2; have HG2 := Aside0.mk hg2; have HB2 := Aside0.mk (HBr.out.trans (hb2.mono HBr.out.size)); have c0 := cell_of_box hg2 (ent0 x); have hy := HPREV.out W2 HB2.out; clear hg2 hb2))
                  repeat (go_quiet (fail); try go_wp2)
                  go_roundw
                  case rel => exact ⟨k + 1, by omega, by simp, ⟨HNEXT.out HV.out⟩, ⟨by first | exact HB2.out | exact below_drew1 HB2.out | exact pw_below_drewN HB2.out _⟩⟩
                  case measure => simp [intOf]; omega
    · obtain rfl : k = l.length := by omega
      have hT : R = true := by rw [← HRES.out]; exact all_to _ _ HO.out
      have HTT := Aside0.mk hT
      clear hT
      go_wp2
      go_ret
      refine ⟨?_, HBr.out⟩
      rw [HTT.out] <;> rfl
theorem ordered_c (l : List S77) (A : Option Addr) (c : Nat) (level : Int) (w : World) (hr : Kd.C k77 w A l.length l) (hlen : l.length ≤ 1000000) :
    Calls Try.prog 21 #[.slice A l.length c, .int .i64 level] w fun e w' => e = .returned (.bool (ordL l level)) ∧ Below w.heap.size w w' := by
  cases hl : inB level 0 20 with
  | false => rw [show ordL l level = false by simp [ordL, hl]]; exact ordered_bad l A c level w hl
  | true => rw [show ordL l level = (List.range l.length).all (okAt l level) by simp [ordL, hl]]; exact ordered_ok l A c level w hr hlen hl
end Go.Proofs.Ytalncokpbgbccaa.E

-- Printed by this session's wip/tools/oracle.py, which runs the kit's print program; Lean checks it.
namespace Go.Proofs.Ytalncokpbgbccaa.E
open Go.RowKit Go.Proofs.YtalncokpbgbccaaW.PrintWords Go.Proofs.YtalncokpbgbccaaW.PrintLast Go.Proofs.YtalncokpbgbccaaW.PrintMore
attribute [local go_sem] max2_int min2_int max_two min_two max_three min_three max_four min_four   -- for this text's walks alone
set_option linter.unusedVariables false
set_option linter.unusedSimpArgs false

/-! ### cmp_isNaN_string: function 110 -/
def cmp_isNaN_string.f (a0 : ByteArray) : Option (Bool) := some (a0.toList != a0.toList)
set_option maxHeartbeats 8000000 in
set_option maxRecDepth 100000 in
theorem cmp_isNaN_string.calls (a0 : ByteArray) (r : Bool) (w : World) (h : cmp_isNaN_string.f a0 = some r) :
    Calls Try.prog 110 #[.string a0] w fun e w' => e = .returned (.bool r) ∧ Drawn0 w w' := by
  have H : (some (a0.toList != a0.toList)) = some r := h
  clear h
  obtain rfl := Option.some.inj H
  go_enter Try.func110, Try.ntmps110
  go_wp2
  go_ret
  exact ⟨by first | rfl | (simp; done) | (simp [*]; done), by repeat (first | exact Drawn0.refl _ | apply Drawn0.step)⟩

/-! ### cmp_Compare_string: function 108 -/
def cmp_Compare_string.f (a0 : ByteArray) (a1 : ByteArray) : Option (Int) := (cmp_isNaN_string.f a0).bind fun t138 => ((cmp_isNaN_string.f a1).bind fun t139 => (if t138 = true then (if t139 = true then (some 0) else (some (-1))) else (if t139 = true then (some 1) else (if (Op.bytesLess a0.toList a1.toList) = true then (some (-1)) else (if (Op.bytesLess a1.toList a0.toList) = true then (some 1) else (some 0))))))
set_option maxHeartbeats 8000000 in
set_option maxRecDepth 100000 in
theorem cmp_Compare_string.calls (a0 : ByteArray) (a1 : ByteArray) (r : Int) (w : World) (h : cmp_Compare_string.f a0 a1 = some r) :
    Calls Try.prog 108 #[.string a0, .string a1] w fun e w' => e = .returned (.int .i64 r) ∧ Drawn0 w w' := by
  have H : ((cmp_isNaN_string.f a0).bind fun t138 => ((cmp_isNaN_string.f a1).bind fun t139 => (if t138 = true then (if t139 = true then (some 0) else (some (-1))) else (if t139 = true then (some 1) else (if (Op.bytesLess a0.toList a1.toList) = true then (some (-1)) else (if (Op.bytesLess a1.toList a0.toList) = true then (some 1) else (some 0))))))) = some r := h
  clear h
  replace H := Option.bind_eq_some_iff.mp H
  obtain ⟨t138, A30, H⟩ := H
  replace H : ((cmp_isNaN_string.f a1).bind fun t139 => (if t138 = true then (if t139 = true then (some 0) else (some (-1))) else (if t139 = true then (some 1) else (if (Op.bytesLess a0.toList a1.toList) = true then (some (-1)) else (if (Op.bytesLess a1.toList a0.toList) = true then (some 1) else (some 0)))))) = some r := H
  have A3 := Aside0.mk A30
  clear A30
  replace H := Option.bind_eq_some_iff.mp H
  obtain ⟨t139, A40, H⟩ := H
  replace H : (if t138 = true then (if t139 = true then (some 0) else (some (-1))) else (if t139 = true then (some 1) else (if (Op.bytesLess a0.toList a1.toList) = true then (some (-1)) else (if (Op.bytesLess a1.toList a0.toList) = true then (some 1) else (some 0))))) = some r := H
  have A4 := Aside0.mk A40
  clear A40
  by_cases c5 : t138 = true
  · subst c5
    have H1 : (if t139 = true then (some 0) else (some (-1))) = some r := by rw [if_pos rfl] at H; exact H
    clear H
    have H := H1
    clear H1
    by_cases c6 : t139 = true
    · subst c6
      have H1 : (some 0) = some r := by rw [if_pos rfl] at H; exact H
      clear H
      have H := H1
      clear H1
      obtain rfl := Option.some.inj H
      go_enter Try.func108, Try.ntmps108
      go_wp2_with (first | ((with_reducible refine gate_callee (f := 110) rfl ?_); refine goesL_ (some 8) rfl rfl Try.func110 (by kernel_rfl) rfl #[.string a0] rfl (by (try simp only [List.map_toArray, List.map_cons, List.map_nil]); first | done | rfl | (simp only [List.length_drop, List.length_take]; rfl)) ?_; (with_reducible refine (cmp_isNaN_string.calls a0 true _ A3.out).mono ?_); rintro e w' ⟨rfl, ⟨nd, rfl⟩⟩; refine ⟨_, rfl, ?_⟩) | ((with_reducible refine gate_callee (f := 110) rfl ?_); refine goesL_ (some 10) rfl rfl Try.func110 (by kernel_rfl) rfl #[.string a1] rfl (by (try simp only [List.map_toArray, List.map_cons, List.map_nil]); first | done | rfl | (simp only [List.length_drop, List.length_take]; rfl)) ?_; (with_reducible refine (cmp_isNaN_string.calls a1 true _ A4.out).mono ?_); rintro e w' ⟨rfl, ⟨nd, rfl⟩⟩; refine ⟨_, rfl, ?_⟩))
      go_ret
      exact ⟨by first | rfl | (simp; done) | (simp [*]; done), by repeat (first | exact Drawn0.refl _ | apply Drawn0.step)⟩
    · replace c6 := Bool.eq_false_iff.mpr c6
      subst c6
      have H1 : (some (-1)) = some r := by rw [if_neg (show ¬ (false = true) by decide)] at H; exact H
      clear H
      have H := H1
      clear H1
      obtain rfl := Option.some.inj H
      go_enter Try.func108, Try.ntmps108
      go_wp2_with (first | ((with_reducible refine gate_callee (f := 110) rfl ?_); refine goesL_ (some 8) rfl rfl Try.func110 (by kernel_rfl) rfl #[.string a0] rfl (by (try simp only [List.map_toArray, List.map_cons, List.map_nil]); first | done | rfl | (simp only [List.length_drop, List.length_take]; rfl)) ?_; (with_reducible refine (cmp_isNaN_string.calls a0 true _ A3.out).mono ?_); rintro e w' ⟨rfl, ⟨nd, rfl⟩⟩; refine ⟨_, rfl, ?_⟩) | ((with_reducible refine gate_callee (f := 110) rfl ?_); refine goesL_ (some 10) rfl rfl Try.func110 (by kernel_rfl) rfl #[.string a1] rfl (by (try simp only [List.map_toArray, List.map_cons, List.map_nil]); first | done | rfl | (simp only [List.length_drop, List.length_take]; rfl)) ?_; (with_reducible refine (cmp_isNaN_string.calls a1 false _ A4.out).mono ?_); rintro e w' ⟨rfl, ⟨nd, rfl⟩⟩; refine ⟨_, rfl, ?_⟩))
      go_ret
      exact ⟨by first | rfl | (simp; done) | (simp [*]; done), by repeat (first | exact Drawn0.refl _ | apply Drawn0.step)⟩
  · replace c5 := Bool.eq_false_iff.mpr c5
    subst c5
    have H1 : (if t139 = true then (some 1) else (if (Op.bytesLess a0.toList a1.toList) = true then (some (-1)) else (if (Op.bytesLess a1.toList a0.toList) = true then (some 1) else (some 0)))) = some r := by rw [if_neg (show ¬ (false = true) by decide)] at H; exact H
    clear H
    have H := H1
    clear H1
    by_cases c7 : t139 = true
    · subst c7
      have H1 : (some 1) = some r := by rw [if_pos rfl] at H; exact H
      clear H
      have H := H1
      clear H1
      obtain rfl := Option.some.inj H
      go_enter Try.func108, Try.ntmps108
      go_wp2_with (first | ((with_reducible refine gate_callee (f := 110) rfl ?_); refine goesL_ (some 8) rfl rfl Try.func110 (by kernel_rfl) rfl #[.string a0] rfl (by (try simp only [List.map_toArray, List.map_cons, List.map_nil]); first | done | rfl | (simp only [List.length_drop, List.length_take]; rfl)) ?_; (with_reducible refine (cmp_isNaN_string.calls a0 false _ A3.out).mono ?_); rintro e w' ⟨rfl, ⟨nd, rfl⟩⟩; refine ⟨_, rfl, ?_⟩) | ((with_reducible refine gate_callee (f := 110) rfl ?_); refine goesL_ (some 10) rfl rfl Try.func110 (by kernel_rfl) rfl #[.string a1] rfl (by (try simp only [List.map_toArray, List.map_cons, List.map_nil]); first | done | rfl | (simp only [List.length_drop, List.length_take]; rfl)) ?_; (with_reducible refine (cmp_isNaN_string.calls a1 true _ A4.out).mono ?_); rintro e w' ⟨rfl, ⟨nd, rfl⟩⟩; refine ⟨_, rfl, ?_⟩))
      go_ret
      exact ⟨by first | rfl | (simp; done) | (simp [*]; done), by repeat (first | exact Drawn0.refl _ | apply Drawn0.step)⟩
    · replace c7 := Bool.eq_false_iff.mpr c7
      subst c7
      have H1 : (if (Op.bytesLess a0.toList a1.toList) = true then (some (-1)) else (if (Op.bytesLess a1.toList a0.toList) = true then (some 1) else (some 0))) = some r := by rw [if_neg (show ¬ (false = true) by decide)] at H; exact H
      clear H
      have H := H1
      clear H1
      by_cases c8 : (Op.bytesLess a0.toList a1.toList) = true
      · rw [if_pos c8] at H
        have c8b0 : (Op.bytesLess a0.toList a1.toList) = true := c8
        clear c8
        obtain rfl := Option.some.inj H
        go_enter Try.func108, Try.ntmps108
        go_wp2_with (first | ((with_reducible refine gate_callee (f := 110) rfl ?_); refine goesL_ (some 8) rfl rfl Try.func110 (by kernel_rfl) rfl #[.string a0] rfl (by (try simp only [List.map_toArray, List.map_cons, List.map_nil]); first | done | rfl | (simp only [List.length_drop, List.length_take]; rfl)) ?_; (with_reducible refine (cmp_isNaN_string.calls a0 false _ A3.out).mono ?_); rintro e w' ⟨rfl, ⟨nd, rfl⟩⟩; refine ⟨_, rfl, ?_⟩) | ((with_reducible refine gate_callee (f := 110) rfl ?_); refine goesL_ (some 10) rfl rfl Try.func110 (by kernel_rfl) rfl #[.string a1] rfl (by (try simp only [List.map_toArray, List.map_cons, List.map_nil]); first | done | rfl | (simp only [List.length_drop, List.length_take]; rfl)) ?_; (with_reducible refine (cmp_isNaN_string.calls a1 false _ A4.out).mono ?_); rintro e w' ⟨rfl, ⟨nd, rfl⟩⟩; refine ⟨_, rfl, ?_⟩))
        go_ret
        exact ⟨by first | rfl | (simp; done) | (simp [*]; done), by repeat (first | exact Drawn0.refl _ | apply Drawn0.step)⟩
      · rw [if_neg c8] at H
        have c8b0 : (Op.bytesLess a0.toList a1.toList) = false := by simpa using c8
        clear c8
        by_cases c9 : (Op.bytesLess a1.toList a0.toList) = true
        · rw [if_pos c9] at H
          have c9b0 : (Op.bytesLess a1.toList a0.toList) = true := c9
          clear c9
          obtain rfl := Option.some.inj H
          go_enter Try.func108, Try.ntmps108
          go_wp2_with (first | ((with_reducible refine gate_callee (f := 110) rfl ?_); refine goesL_ (some 8) rfl rfl Try.func110 (by kernel_rfl) rfl #[.string a0] rfl (by (try simp only [List.map_toArray, List.map_cons, List.map_nil]); first | done | rfl | (simp only [List.length_drop, List.length_take]; rfl)) ?_; (with_reducible refine (cmp_isNaN_string.calls a0 false _ A3.out).mono ?_); rintro e w' ⟨rfl, ⟨nd, rfl⟩⟩; refine ⟨_, rfl, ?_⟩) | ((with_reducible refine gate_callee (f := 110) rfl ?_); refine goesL_ (some 10) rfl rfl Try.func110 (by kernel_rfl) rfl #[.string a1] rfl (by (try simp only [List.map_toArray, List.map_cons, List.map_nil]); first | done | rfl | (simp only [List.length_drop, List.length_take]; rfl)) ?_; (with_reducible refine (cmp_isNaN_string.calls a1 false _ A4.out).mono ?_); rintro e w' ⟨rfl, ⟨nd, rfl⟩⟩; refine ⟨_, rfl, ?_⟩))
          go_ret
          exact ⟨by first | rfl | (simp; done) | (simp [*]; done), by repeat (first | exact Drawn0.refl _ | apply Drawn0.step)⟩
        · rw [if_neg c9] at H
          have c9b0 : (Op.bytesLess a1.toList a0.toList) = false := by simpa using c9
          clear c9
          obtain rfl := Option.some.inj H
          go_enter Try.func108, Try.ntmps108
          go_wp2_with (first | ((with_reducible refine gate_callee (f := 110) rfl ?_); refine goesL_ (some 8) rfl rfl Try.func110 (by kernel_rfl) rfl #[.string a0] rfl (by (try simp only [List.map_toArray, List.map_cons, List.map_nil]); first | done | rfl | (simp only [List.length_drop, List.length_take]; rfl)) ?_; (with_reducible refine (cmp_isNaN_string.calls a0 false _ A3.out).mono ?_); rintro e w' ⟨rfl, ⟨nd, rfl⟩⟩; refine ⟨_, rfl, ?_⟩) | ((with_reducible refine gate_callee (f := 110) rfl ?_); refine goesL_ (some 10) rfl rfl Try.func110 (by kernel_rfl) rfl #[.string a1] rfl (by (try simp only [List.map_toArray, List.map_cons, List.map_nil]); first | done | rfl | (simp only [List.length_drop, List.length_take]; rfl)) ?_; (with_reducible refine (cmp_isNaN_string.calls a1 false _ A4.out).mono ?_); rintro e w' ⟨rfl, ⟨nd, rfl⟩⟩; refine ⟨_, rfl, ?_⟩))
          go_ret
          exact ⟨by first | rfl | (simp; done) | (simp [*]; done), by repeat (first | exact Drawn0.refl _ | apply Drawn0.step)⟩

/-! ### enc_Compare: function 101 -/
def enc_Compare.f (a0 : ByteArray) (a1 : ByteArray) : Option (Int) := (cmp_Compare_string.f a0 a1).bind fun t140 => (some t140)
set_option maxHeartbeats 8000000 in
set_option maxRecDepth 100000 in
theorem enc_Compare.calls (a0 : ByteArray) (a1 : ByteArray) (r : Int) (w : World) (h : enc_Compare.f a0 a1 = some r) :
    Calls Try.prog 101 #[.string a0, .string a1] w fun e w' => e = .returned (.int .i64 r) ∧ Drawn0 w w' := by
  have H : ((cmp_Compare_string.f a0 a1).bind fun t140 => (some t140)) = some r := h
  clear h
  replace H := Option.bind_eq_some_iff.mp H
  obtain ⟨t140, A30, H⟩ := H
  replace H : (some t140) = some r := H
  have A3 := Aside0.mk A30
  clear A30
  obtain rfl := Option.some.inj H
  go_enter Try.func101, Try.ntmps101
  go_wp2_with (first | ((with_reducible refine gate_callee (f := 108) rfl ?_); refine goesL_ (some 7) rfl rfl Try.func108 (by kernel_rfl) rfl #[.string a0, .string a1] rfl (by (try simp only [List.map_toArray, List.map_cons, List.map_nil]); first | done | rfl | (simp only [List.length_drop, List.length_take]; rfl)) ?_; (with_reducible refine (cmp_Compare_string.calls a0 a1 t140 _ A3.out).mono ?_); rintro e w' ⟨rfl, ⟨nd, rfl⟩⟩; refine ⟨_, rfl, ?_⟩))
  go_ret
  exact ⟨by first | rfl | (simp; done) | (simp [*]; done), by repeat (first | exact Drawn0.refl _ | apply Drawn0.step)⟩

end Go.Proofs.Ytalncokpbgbccaa.E

/- Valid, Fits: what the program says of a list of entries. -/
namespace Go.Proofs.Ytalncokpbgbccaa.E
set_option linter.unusedVariables false
set_option linter.unusedSimpArgs false
open Go.RowKit Go.Proofs.YtalncokpbgbccaaW.PrintWords Go.Proofs.YtalncokpbgbccaaW.PrintLast Go.Proofs.YtalncokpbgbccaaW.PrintMore

def Hd (w : World) (g : Nat) (cs : Array Value) (W : World) : Prop := W.heap[g]? = some (.cells cs 77 (0, 0)) ∧ Below w.heap.size w W
theorem hd_drew {w : World} {g : Nat} {cs : Array Value} {W : World} (h : Hd w g cs W) : Hd w g cs W.drew := ⟨blk_drew h.1, below_drew1 h.2⟩
theorem hd_drewN {w : World} {g : Nat} {cs : Array Value} {W : World} (h : Hd w g cs W) (n : Nat) : Hd w g cs (W.drewN n) := by
  exact ⟨by rw [← h.1]; rfl, pw_below_drewN h.2 n⟩
theorem hd_call {w : World} {g : Nat} {cs : Array Value} {W W2 : World} (h : Hd w g cs W) (hb : Below W.heap.size W W2) : Hd w g cs W2 := ⟨box_kept h.1 hb, h.2.trans (hb.mono h.2.size)⟩
theorem hd_key {w : World} {g : Nat} {x : S77} {W : World} (h : Hd w g (entC x) W) : W.cell? ⟨g, 0, none⟩ = some (.string x.f0) := cell_of_box h.1 rfl
theorem wpList_load_hd {ops : Array Oper} {rest : List Oper} {o : Oper} {a : Act} {W w0 : World} {g : Nat} {x : S77} {Q : Exit → Act → World → Prop} (hd : Hd w0 g (entC x) W) (hw : Region.wanted o (yielded ops a.tmps) = true) (p : Operand) (ho : o.op = .load 77 p)
    (hx : a.eval p = .pointer (some ⟨g, 0, none⟩)) (h : wpList Try.prog ops Q rest (a.put o.dst (.agg (entC x))) W) : wpList Try.prog ops Q (o :: rest) a W := by
  have hl := run_loadVar_row (P := Try.prog) W g 77 77 (entC x) (0, 0) _ hd.1 Try.underlying77 rfl (entC_size x)
  refine wpList_step fun K hK => ?_
  rw [if_pos hw]
  unfold Oper.wp execOp
  simp only [ho, hx, Instr.loadAt, Instr.sureAddr, Sem.run_bind, Sem.run_pure, Result.andThen_ok, hl]
  exact hK _ _ h
theorem gate_op {ops : Array Oper} {rest : List Oper} {o : Oper} {a : Act} {W : World} {Q : Exit → Act → World → Prop} {p : Op} (_h : o.op = p) (h : wpList Try.prog ops Q (o :: rest) a W) : wpList Try.prog ops Q (o :: rest) a W := h
theorem drawn_below {w w' : World} (h : Drawn0 w w') : Below w.heap.size w w' := by
  obtain ⟨n, rfl⟩ := h
  exact pw_below_drewN (Below.refl _ _) n
def cmpS (a b : ByteArray) : Int := if Op.bytesLess a.toList b.toList = true then -1 else if Op.bytesLess b.toList a.toList = true then 1 else 0
theorem compare_c (a b : ByteArray) (w : World) : Calls Try.prog 101 #[.string a, .string b] w fun e w' => e = .returned (.int .i64 (cmpS a b)) ∧ Drawn0 w w' := by
  refine enc_Compare.calls a b _ w ?_
  unfold enc_Compare.f cmp_Compare_string.f cmp_isNaN_string.f cmpS
  simp
  repeat' split
  all_goals simp_all
theorem cmpS_ge (a b : ByteArray) : decide (cmpS a b ≥ 0) = !Op.bytesLess a.toList b.toList := by
  unfold cmpS
  cases Op.bytesLess a.toList b.toList
  · cases Op.bytesLess b.toList a.toList <;> rfl
  · rfl
/-- may the entry at place i stand there -/
def vAt (l : List S77) (level : Int) (i : Nat) : Bool :=
  (if level = 0 then !(formI (l.getD i z77) == 0) else (brB (l.getD i z77) && (decide (i = 0) || !(l.getD i z77).f0.toList.isEmpty)))
  && (decide (i = 0) || Op.bytesLess (l.getD (i - 1) z77).f0.toList (l.getD i z77).f0.toList)
def validL (l : List S77) (level : Int) : Bool :=
  inB level 0 20 && (!decide (l.length = 0) && ((decide (level = 0) || (decide (2 ≤ l.length) && (l.getD 0 z77).f0.toList.isEmpty)) && (List.range l.length).all (vAt l level)))
set_option maxRecDepth 100000 in
set_option maxHeartbeats 4000000 in
theorem valid_0 (l : List S77) (A : Option Addr) (c : Nat) (w : World) (hr : Kd.C k77 w A l.length l) (hlen : l.length ≤ 1000000) (h0 : 0 < l.length) :
    Calls Try.prog 86 #[.slice A l.length c, .int .i64 0] w fun e w' => e = .returned (.bool ((List.range l.length).all (vAt l 0))) ∧ Below w.heap.size w w' := by
  have HR := Aside0.mk hr
  clear hr
  have hne : ((l.length : Int) == 0) = false := beq_eq_false_iff_ne.mpr (by omega)
  have HL := Aside0.mk (show inB 0 0 20 = true by decide)
  obtain ⟨R, hR⟩ : ∃ R, (List.range l.length).all (vAt l 0) = R := ⟨_, rfl⟩
  have HRES := Aside0.mk hR
  rw [hR]
  clear hR
  have HB := Aside0.mk (Below.refl w.heap.size w)
  go_enter Try.func86, Try.ntmps86
  go_wp2_with (first | (go_at_call 84; refine (within_y _ _ _ _ HL.out).mono ?_; rintro e w' ⟨rfl, ⟨nd2, rfl⟩⟩))
  clear hne
  go_loopw [33] (fun i wr => ∃ (k : Nat), k ≤ l.length ∧ i = .int .i64 k ∧ Aside0 (∀ j, j < k → vAt l 0 j = true) ∧ Aside0 (Below w.heap.size w wr)) (fun i _ => l.length - (intOf i).toNat)
  case atStart => exact ⟨0, Nat.zero_le _, rfl, ⟨fun j hj => by omega⟩, ⟨by repeat (first | exact Below.refl _ _ | apply below_alloc | apply pw_below_drewN | apply below_drew1)⟩⟩
  case round =>
    obtain ⟨k, hk, rfl, HO, HBr⟩ := hrel
    by_cases hlt : k < l.length
    · obtain ⟨ad, rfl, hel⟩ := elem_at (Kd.C_below HR.out HBr.out) k hlt
      have HEL := Aside0.mk hel
      have hkw : wrap64 ((k : Int) + 1) = (k : Int) + 1 := w64 _ (by omega) (by omega)
      clear hel
      have HVAL := Aside0.mk (show vAt l 0 k = (!(formI (l.getD k z77) == 0) && (decide (k = 0) || Op.bytesLess (l.getD (k - 1) z77).f0.toList (l.getD k z77).f0.toList)) by simp [vAt])
      obtain ⟨x, hx⟩ : ∃ x, l.getD k z77 = x := ⟨_, rfl⟩
      rw [hx] at HEL HVAL
      clear hx
      have HNEXT := Aside0.mk (show vAt l 0 k = true → ∀ j, j < k + 1 → vAt l 0 j = true from fun hv j hj => by
        by_cases h : j = k
        · subst h; exact hv
        · exact HO.out j (by omega))
      have hkey := fun (W : World) (g : Nat) (h : Hd w g (entC x) W) => hd_key h
      have hF := fun (W : World) => formOf_c x W
      cases hform : (formI x == 0)
      · obtain ⟨f, hf⟩ : ∃ f, formI x = f := ⟨_, rfl⟩
        rw [hf] at hF hform
        have HF := Aside0.mk hF
        have HVAL2 := Aside0.mk (show vAt l 0 k = (decide (k = 0) || Op.bytesLess (l.getD (k - 1) z77).f0.toList x.f0.toList) by rw [HVAL.out, hf, hform]; simp)
        clear hF hf HVAL
        by_cases hK : k = 0
        · have HV := Aside0.mk (show vAt l 0 k = true by rw [HVAL2.out, decide_eq_true hK]; rfl)
          have q3 : decide ((k : Int) > 0) = false := decide_eq_false (by omega)
          have q4 : decide (0 < (k : Int)) = false := decide_eq_false (by omega)
          have q5 : decide (0 < k) = false := decide_eq_false (by omega)
          clear hK
          go_wp2_with (first
            | ((with_reducible refine gate_dst (N := 37) rfl ?_); refine wpList_load_el rfl (.tmp 36) rfl _ rfl x HEL.out ?_)
            | ((with_reducible refine gate_op (p := .store 77 (.tmp 6) (.tmp 37)) rfl ?_); refine wpList_store_new rfl (.tmp 6) (.tmp 37) rfl x rfl rfl rfl ?_; intro W2 hg2 hb2; have HD := (show Hd w wr.heap.size (entC x) W2 from ⟨hg2, HBr.out.trans (hb2.mono HBr.out.size)⟩); clear hg2 hb2)
            | ((with_reducible refine gate_dst (N := 42) rfl ?_); refine wpList_load_hd HD rfl (.tmp 6) rfl rfl ?_)
            | (go_at_call 100; refine (HF.out _).mono ?_; rintro e w3 ⟨rfl, hb⟩; have HD2 := hd_call HD hb; clear hb HD))
          go_quiet (fail)
          go_wp2
          go_roundw
          case rel => exact ⟨k + 1, by omega, by simp, ⟨HNEXT.out HV.out⟩, ⟨by first | exact HD2.2 | exact below_drew1 HD2.2 | exact pw_below_drewN HD2.2 _⟩⟩
          case measure => simp [intOf]; omega
        · have q3 : decide ((k : Int) > 0) = true := decide_eq_true (by omega)
          have q4 : decide (0 < (k : Int)) = true := decide_eq_true (by omega)
          have q5 : decide (0 < k) = true := decide_eq_true (by omega)
          obtain ⟨p, hp⟩ : ∃ p : Nat, k = p + 1 := ⟨k - 1, by omega⟩
          have hw1 : IntKind.i64.wrap ((k : Int) - 1) = (p : Int) := by rw [i64w _ (by omega) (by omega)]; omega
          have hw2 : wrap64 ((k : Int) - 1) = (p : Int) := by rw [w64 _ (by omega) (by omega)]; omega
          have hw4 : p < l.length := by omega
          have hw6 : (p : Int) < (l.length : Int) := by omega
          have hw7 : 0 ≤ (p : Int) := by omega
          have hpk : k - 1 = p := by omega
          rw [hpk, decide_eq_false hK] at HVAL2
          obtain ⟨y, hyy⟩ : ∃ y, l.getD p z77 = y := ⟨_, rfl⟩
          have HPREV := (fun (W : World) (hB : Below w.heap.size w W) => prev_key (Kd.C_below HR.out hB) p hw4)
          rw [hyy] at HPREV HVAL2
          have HSV := Aside0.mk (fun (W : World) (hd : Hd w wr.heap.size (entC x) W) => (⟨hd_key hd, HPREV W hd.2, hd⟩ : W.cell? ⟨wr.heap.size, 0, none⟩ = some (.string x.f0) ∧ W.cell? (ad.add (p * 22)) = some (.string y.f0) ∧ Hd w wr.heap.size (entC x) W))
          have HC := fun (W : World) => compare_c y.f0 x.f0 W
          have hge := cmpS_ge y.f0 x.f0
          obtain ⟨cv, hcv⟩ : ∃ cv, cmpS y.f0 x.f0 = cv := ⟨_, rfl⟩
          rw [hcv] at HC hge
          have HCC := Aside0.mk HC
          clear hyy HPREV hp hpk hK HC hcv
          cases hL : Op.bytesLess y.f0.toList x.f0.toList
          · have HV := Aside0.mk (show vAt l 0 k = false by rw [HVAL2.out, hL]; rfl)
            rw [hL] at hge
            clear hL
            go_wp2_with (first
              | ((with_reducible refine gate_dst (N := 37) rfl ?_); refine wpList_load_el rfl (.tmp 36) rfl _ rfl x HEL.out ?_)
              | ((with_reducible refine gate_op (p := .store 77 (.tmp 6) (.tmp 37)) rfl ?_); refine wpList_store_new rfl (.tmp 6) (.tmp 37) rfl x rfl rfl rfl ?_; intro W2 hg2 hb2; have HD := (show Hd w wr.heap.size (entC x) W2 from ⟨hg2, HBr.out.trans (hb2.mono HBr.out.size)⟩); clear hg2 hb2)
              | ((with_reducible refine gate_dst (N := 42) rfl ?_); refine wpList_load_hd HD rfl (.tmp 6) rfl rfl ?_)
              | (go_at_call 100; refine (HF.out _).mono ?_; rintro e w3 ⟨rfl, hb⟩; have HD2 := hd_call HD hb; clear hb HD))
            go_region_held3 (fun W => W.cell? ⟨wr.heap.size, 0, none⟩ = some (.string x.f0) ∧ W.cell? (ad.add (p * 22)) = some (.string y.f0) ∧ Hd w wr.heap.size (entC x) W) (first | assumption | exact HSV.out _ HD2 | exact HSV.out _ (hd_drew HD2) | exact HSV.out _ (hd_drewN HD2 _))
              (first | (go_at_call 101; refine (HCC.out _).mono ?_; rintro e w4 ⟨rfl, ⟨nd, rfl⟩⟩))
            go_wp2
            go_ret
            refine ⟨?_, by first | exact HD2.2 | exact below_drew1 HD2.2 | exact pw_below_drewN HD2.2 _⟩
            rw [show R = false from by rw [← HRES.out, all_not _ _ k hlt HV.out]] <;> rfl
          · have HV := Aside0.mk (show vAt l 0 k = true by rw [HVAL2.out, hL]; rfl)
            rw [hL] at hge
            clear hL
            go_wp2_with (first
              | ((with_reducible refine gate_dst (N := 37) rfl ?_); refine wpList_load_el rfl (.tmp 36) rfl _ rfl x HEL.out ?_)
              | ((with_reducible refine gate_op (p := .store 77 (.tmp 6) (.tmp 37)) rfl ?_); refine wpList_store_new rfl (.tmp 6) (.tmp 37) rfl x rfl rfl rfl ?_; intro W2 hg2 hb2; have HD := (show Hd w wr.heap.size (entC x) W2 from ⟨hg2, HBr.out.trans (hb2.mono HBr.out.size)⟩); clear hg2 hb2)
              | ((with_reducible refine gate_dst (N := 42) rfl ?_); refine wpList_load_hd HD rfl (.tmp 6) rfl rfl ?_)
              | (go_at_call 100; refine (HF.out _).mono ?_; rintro e w3 ⟨rfl, hb⟩; have HD2 := hd_call HD hb; clear hb HD))
            go_region_held3 (fun W => W.cell? ⟨wr.heap.size, 0, none⟩ = some (.string x.f0) ∧ W.cell? (ad.add (p * 22)) = some (.string y.f0) ∧ Hd w wr.heap.size (entC x) W) (first | assumption | exact HSV.out _ HD2 | exact HSV.out _ (hd_drew HD2) | exact HSV.out _ (hd_drewN HD2 _))
              (first | (go_at_call 101; refine (HCC.out _).mono ?_; rintro e w4 ⟨rfl, ⟨nd, rfl⟩⟩))
            go_wp2
            go_roundw
            case rel => exact ⟨k + 1, by omega, by simp, ⟨HNEXT.out HV.out⟩, ⟨by first | exact HD2.2 | exact below_drew1 HD2.2 | exact pw_below_drewN HD2.2 _⟩⟩
            case measure => simp [intOf]; omega
      · rw [beq_iff_eq.mp hform] at hF
        have HF := Aside0.mk hF
        have HV := Aside0.mk (show vAt l 0 k = false by rw [HVAL.out, hform]; rfl)
        clear hF hform
        go_wp2_with (first
          | ((with_reducible refine gate_dst (N := 37) rfl ?_); refine wpList_load_el rfl (.tmp 36) rfl _ rfl x HEL.out ?_)
          | ((with_reducible refine gate_op (p := .store 77 (.tmp 6) (.tmp 37)) rfl ?_); refine wpList_store_new rfl (.tmp 6) (.tmp 37) rfl x rfl rfl rfl ?_; intro W2 hg2 hb2; have HD := (show Hd w wr.heap.size (entC x) W2 from ⟨hg2, HBr.out.trans (hb2.mono HBr.out.size)⟩); clear hg2 hb2)
          | ((with_reducible refine gate_dst (N := 42) rfl ?_); refine wpList_load_hd HD rfl (.tmp 6) rfl rfl ?_)
          | (go_at_call 100; refine (HF.out _).mono ?_; rintro e w3 ⟨rfl, hb⟩; have HD2 := hd_call HD hb; clear hb HD))
        go_ret
        refine ⟨?_, by first | exact HD2.2 | exact below_drew1 HD2.2 | exact pw_below_drewN HD2.2 _⟩
        rw [show R = false from by rw [← HRES.out, all_not _ _ k hlt HV.out]] <;> rfl
    · obtain rfl : k = l.length := by omega
      have hT : R = true := by rw [← HRES.out]; exact all_to _ _ HO.out
      have HTT := Aside0.mk hT
      clear hT
      go_wp2
      go_ret
      refine ⟨?_, HBr.out⟩
      rw [HTT.out] <;> rfl
set_option maxRecDepth 100000 in
set_option maxHeartbeats 4000000 in
theorem valid_b (l : List S77) (A : Option Addr) (c : Nat) (level : Int) (w : World) (hr : Kd.C k77 w A l.length l) (hlen : l.length ≤ 1000000) (h0 : 2 ≤ l.length) (hl : inB level 0 20 = true) (hpos : 0 < level) (hk0 : (l.getD 0 z77).f0.toList.isEmpty = true) :
    Calls Try.prog 86 #[.slice A l.length c, .int .i64 level] w fun e w' => e = .returned (.bool ((List.range l.length).all (vAt l level))) ∧ Below w.heap.size w w' := by
  have HR := Aside0.mk hr
  obtain ⟨ad, rfl, _⟩ := elem_at hr 0 (by omega)
  have HPK := Aside0.mk (fun (W : World) (hB : Below w.heap.size w W) => (show W.cell? ad = some (.string (l.getD 0 z77).f0) by have := prev_key (Kd.C_below hr hB) 0 (by omega); rwa [Nat.zero_mul, Addr.add_zero'] at this))
  clear hr
  have hne : ((l.length : Int) == 0) = false := beq_eq_false_iff_ne.mpr (by omega)
  have hn2 : decide ((l.length : Int) < 2) = false := decide_eq_false (by omega)
  have hn3 : decide (l.length < 2) = false := decide_eq_false (by omega)
  have hi0 : (0 : Int) < (l.length : Int) := by omega
  have hi1 : 0 < l.length := by omega
  have k1 : decide (level > 0) = true := decide_eq_true hpos
  have k1' : decide (0 < level) = true := decide_eq_true hpos
  have k2 : (level == 0) = false := beq_eq_false_iff_ne.mpr (by omega)
  have HLV := Aside0.mk (show ¬ level = 0 by omega)
  have HL := Aside0.mk hl
  clear hl hpos h0
  obtain ⟨R, hR⟩ : ∃ R, (List.range l.length).all (vAt l level) = R := ⟨_, rfl⟩
  have HRES := Aside0.mk hR
  rw [hR]
  clear hR
  have HB := Aside0.mk (Below.refl w.heap.size w)
  obtain ⟨x0, hx0⟩ : ∃ x0, l.getD 0 z77 = x0 := ⟨_, rfl⟩
  rw [hx0] at HPK hk0
  clear hx0
  have c0 := HPK.out w (Below.refl _ _)
  go_enter Try.func86, Try.ntmps86
  go_wp2_with (first | (go_at_call 84; refine (within_y _ _ _ _ HL.out).mono ?_; rintro e w' ⟨rfl, hdd⟩; have c1 := HPK.out _ (drawn_below hdd); obtain ⟨nd2, rfl⟩ := hdd))
  clear hne hn2 hn3 hi0 hi1 c0 c1 hk0
  go_loopw [33] (fun i wr => ∃ (k : Nat), k ≤ l.length ∧ i = .int .i64 k ∧ Aside0 (∀ j, j < k → vAt l level j = true) ∧ Aside0 (Below w.heap.size w wr)) (fun i _ => l.length - (intOf i).toNat)
  case atStart => exact ⟨0, Nat.zero_le _, rfl, ⟨fun j hj => by omega⟩, ⟨by repeat (first | exact Below.refl _ _ | apply below_alloc | apply pw_below_drewN | apply below_drew1)⟩⟩
  case round =>
    obtain ⟨k, hk, rfl, HO, HBr⟩ := hrel
    by_cases hlt : k < l.length
    · obtain ⟨ad1, hade, hel⟩ := elem_at (Kd.C_below HR.out HBr.out) k hlt
      obtain rfl := Option.some.inj hade
      have HEL := Aside0.mk hel
      have hkw : wrap64 ((k : Int) + 1) = (k : Int) + 1 := w64 _ (by omega) (by omega)
      clear hel
      have HVAL := Aside0.mk (show vAt l level k = ((brB (l.getD k z77) && (decide (k = 0) || !(l.getD k z77).f0.toList.isEmpty)) && (decide (k = 0) || Op.bytesLess (l.getD (k - 1) z77).f0.toList (l.getD k z77).f0.toList)) by simp [vAt, HLV.out])
      obtain ⟨x, hx⟩ : ∃ x, l.getD k z77 = x := ⟨_, rfl⟩
      rw [hx] at HEL HVAL
      clear hx
      have HNEXT := Aside0.mk (show vAt l level k = true → ∀ j, j < k + 1 → vAt l level j = true from fun hv j hj => by
        by_cases h : j = k
        · subst h; exact hv
        · exact HO.out j (by omega))
      have hkey := fun (W : World) (g : Nat) (h : Hd w g (entC x) W) => hd_key h
      have hF := fun (W : World) => branches_c x W
      cases hbr : brB x
      · rw [hbr] at hF
        have HF := Aside0.mk hF
        have HV := Aside0.mk (show vAt l level k = false by rw [HVAL.out, hbr]; rfl)
        clear hF hbr
        go_wp2_with (first
          | ((with_reducible refine gate_dst (N := 37) rfl ?_); refine wpList_load_el rfl (.tmp 36) rfl _ rfl x HEL.out ?_)
          | ((with_reducible refine gate_op (p := .store 77 (.tmp 6) (.tmp 37)) rfl ?_); refine wpList_store_new rfl (.tmp 6) (.tmp 37) rfl x rfl rfl rfl ?_; intro W2 hg2 hb2; have HD := (show Hd w wr.heap.size (entC x) W2 from ⟨hg2, HBr.out.trans (hb2.mono HBr.out.size)⟩); clear hg2 hb2)
          | ((with_reducible refine gate_dst (N := 49) rfl ?_); refine wpList_load_hd HD rfl (.tmp 6) rfl rfl ?_)
          | (go_at_call 99; refine (HF.out _).mono ?_; rintro e w3 ⟨rfl, hb⟩; have HD2 := hd_call HD hb; clear hb HD))
        go_ret
        refine ⟨?_, by first | exact HD2.2 | exact below_drew1 HD2.2 | exact pw_below_drewN HD2.2 _⟩
        rw [show R = false from by rw [← HRES.out, all_not _ _ k hlt HV.out]] <;> rfl
      · rw [hbr] at hF
        have HF := Aside0.mk hF
        have HVAL1 := Aside0.mk (show vAt l level k = ((decide (k = 0) || !x.f0.toList.isEmpty) && (decide (k = 0) || Op.bytesLess (l.getD (k - 1) z77).f0.toList x.f0.toList)) by rw [HVAL.out, hbr]; simp)
        clear hF hbr HVAL
        by_cases hK : k = 0
        · have HV := Aside0.mk (show vAt l level k = true by rw [HVAL1.out, decide_eq_true hK]; rfl)
          have q3 : decide ((k : Int) > 0) = false := decide_eq_false (by omega)
          have q4 : decide (0 < (k : Int)) = false := decide_eq_false (by omega)
          have q5 : decide (0 < k) = false := decide_eq_false (by omega)
          clear hK
          go_wp2_with (first
            | ((with_reducible refine gate_dst (N := 37) rfl ?_); refine wpList_load_el rfl (.tmp 36) rfl _ rfl x HEL.out ?_)
            | ((with_reducible refine gate_op (p := .store 77 (.tmp 6) (.tmp 37)) rfl ?_); refine wpList_store_new rfl (.tmp 6) (.tmp 37) rfl x rfl rfl rfl ?_; intro W2 hg2 hb2; have HD := (show Hd w wr.heap.size (entC x) W2 from ⟨hg2, HBr.out.trans (hb2.mono HBr.out.size)⟩); clear hg2 hb2)
            | ((with_reducible refine gate_dst (N := 49) rfl ?_); refine wpList_load_hd HD rfl (.tmp 6) rfl rfl ?_)
            | (go_at_call 99; refine (HF.out _).mono ?_; rintro e w3 ⟨rfl, hb⟩; have HD2 := hd_call HD hb; clear hb HD))
          go_quiet (fail)
          go_wp2
          go_roundw
          case rel => exact ⟨k + 1, by omega, by simp, ⟨HNEXT.out HV.out⟩, ⟨by first | exact HD2.2 | exact below_drew1 HD2.2 | exact pw_below_drewN HD2.2 _⟩⟩
          case measure => simp [intOf]; omega
        · have q3 : decide ((k : Int) > 0) = true := decide_eq_true (by omega)
          have q4 : decide (0 < (k : Int)) = true := decide_eq_true (by omega)
          have q5 : decide (0 < k) = true := decide_eq_true (by omega)
          cases he : x.f0.toList.isEmpty
          · have HVAL2 := Aside0.mk (show vAt l level k = (decide (k = 0) || Op.bytesLess (l.getD (k - 1) z77).f0.toList x.f0.toList) by rw [HVAL1.out, he]; simp)
            clear HVAL1
            obtain ⟨p, hp⟩ : ∃ p : Nat, k = p + 1 := ⟨k - 1, by omega⟩
            have hw1 : IntKind.i64.wrap ((k : Int) - 1) = (p : Int) := by rw [i64w _ (by omega) (by omega)]; omega
            have hw2 : wrap64 ((k : Int) - 1) = (p : Int) := by rw [w64 _ (by omega) (by omega)]; omega
            have hw4 : p < l.length := by omega
            have hw6 : (p : Int) < (l.length : Int) := by omega
            have hw7 : 0 ≤ (p : Int) := by omega
            have hpk : k - 1 = p := by omega
            rw [hpk, decide_eq_false hK] at HVAL2
            obtain ⟨y, hyy⟩ : ∃ y, l.getD p z77 = y := ⟨_, rfl⟩
            have HPREV := (fun (W : World) (hB : Below w.heap.size w W) => prev_key (Kd.C_below HR.out hB) p hw4)
            rw [hyy] at HPREV HVAL2
            have HSV := Aside0.mk (fun (W : World) (hd : Hd w wr.heap.size (entC x) W) => (⟨hd_key hd, HPREV W hd.2, hd⟩ : W.cell? ⟨wr.heap.size, 0, none⟩ = some (.string x.f0) ∧ W.cell? (ad.add (p * 22)) = some (.string y.f0) ∧ Hd w wr.heap.size (entC x) W))
            have HC := fun (W : World) => compare_c y.f0 x.f0 W
            have hge := cmpS_ge y.f0 x.f0
            obtain ⟨cv, hcv⟩ : ∃ cv, cmpS y.f0 x.f0 = cv := ⟨_, rfl⟩
            rw [hcv] at HC hge
            have HCC := Aside0.mk HC
            clear hyy HPREV hp hpk hK HC hcv
            cases hL : Op.bytesLess y.f0.toList x.f0.toList
            · have HV := Aside0.mk (show vAt l level k = false by rw [HVAL2.out, hL]; rfl)
              rw [hL] at hge
              clear hL
              go_wp2_with (first
                | ((with_reducible refine gate_dst (N := 37) rfl ?_); refine wpList_load_el rfl (.tmp 36) rfl _ rfl x HEL.out ?_)
                | ((with_reducible refine gate_op (p := .store 77 (.tmp 6) (.tmp 37)) rfl ?_); refine wpList_store_new rfl (.tmp 6) (.tmp 37) rfl x rfl rfl rfl ?_; intro W2 hg2 hb2; have HD := (show Hd w wr.heap.size (entC x) W2 from ⟨hg2, HBr.out.trans (hb2.mono HBr.out.size)⟩); clear hg2 hb2)
                | ((with_reducible refine gate_dst (N := 49) rfl ?_); refine wpList_load_hd HD rfl (.tmp 6) rfl rfl ?_)
                | (go_at_call 99; refine (HF.out _).mono ?_; rintro e w3 ⟨rfl, hb⟩; have HD2 := hd_call HD hb; clear hb HD))
              go_region_held3 (fun W => W.cell? ⟨wr.heap.size, 0, none⟩ = some (.string x.f0) ∧ W.cell? (ad.add (p * 22)) = some (.string y.f0) ∧ Hd w wr.heap.size (entC x) W) (first | assumption | exact HSV.out _ HD2 | exact HSV.out _ (hd_drew HD2) | exact HSV.out _ (hd_drewN HD2 _))
                (first | (go_at_call 101; refine (HCC.out _).mono ?_; rintro e w4 ⟨rfl, ⟨nd, rfl⟩⟩))
              go_wp2
              go_ret
              refine ⟨?_, by first | exact HD2.2 | exact below_drew1 HD2.2 | exact pw_below_drewN HD2.2 _⟩
              rw [show R = false from by rw [← HRES.out, all_not _ _ k hlt HV.out]] <;> rfl
            · have HV := Aside0.mk (show vAt l level k = true by rw [HVAL2.out, hL]; rfl)
              rw [hL] at hge
              clear hL
              go_wp2_with (first
                | ((with_reducible refine gate_dst (N := 37) rfl ?_); refine wpList_load_el rfl (.tmp 36) rfl _ rfl x HEL.out ?_)
                | ((with_reducible refine gate_op (p := .store 77 (.tmp 6) (.tmp 37)) rfl ?_); refine wpList_store_new rfl (.tmp 6) (.tmp 37) rfl x rfl rfl rfl ?_; intro W2 hg2 hb2; have HD := (show Hd w wr.heap.size (entC x) W2 from ⟨hg2, HBr.out.trans (hb2.mono HBr.out.size)⟩); clear hg2 hb2)
                | ((with_reducible refine gate_dst (N := 49) rfl ?_); refine wpList_load_hd HD rfl (.tmp 6) rfl rfl ?_)
                | (go_at_call 99; refine (HF.out _).mono ?_; rintro e w3 ⟨rfl, hb⟩; have HD2 := hd_call HD hb; clear hb HD))
              go_region_held3 (fun W => W.cell? ⟨wr.heap.size, 0, none⟩ = some (.string x.f0) ∧ W.cell? (ad.add (p * 22)) = some (.string y.f0) ∧ Hd w wr.heap.size (entC x) W) (first | assumption | exact HSV.out _ HD2 | exact HSV.out _ (hd_drew HD2) | exact HSV.out _ (hd_drewN HD2 _))
                (first | (go_at_call 101; refine (HCC.out _).mono ?_; rintro e w4 ⟨rfl, ⟨nd, rfl⟩⟩))
              go_wp2
              go_roundw
              case rel => exact ⟨k + 1, by omega, by simp, ⟨HNEXT.out HV.out⟩, ⟨by first | exact HD2.2 | exact below_drew1 HD2.2 | exact pw_below_drewN HD2.2 _⟩⟩
              case measure => simp [intOf]; omega
          · have HV := Aside0.mk (show vAt l level k = false by rw [HVAL1.out, decide_eq_false hK, he]; rfl)
            clear hK
            go_wp2_with (first
              | ((with_reducible refine gate_dst (N := 37) rfl ?_); refine wpList_load_el rfl (.tmp 36) rfl _ rfl x HEL.out ?_)
              | ((with_reducible refine gate_op (p := .store 77 (.tmp 6) (.tmp 37)) rfl ?_); refine wpList_store_new rfl (.tmp 6) (.tmp 37) rfl x rfl rfl rfl ?_; intro W2 hg2 hb2; have HD := (show Hd w wr.heap.size (entC x) W2 from ⟨hg2, HBr.out.trans (hb2.mono HBr.out.size)⟩); clear hg2 hb2)
              | ((with_reducible refine gate_dst (N := 49) rfl ?_); refine wpList_load_hd HD rfl (.tmp 6) rfl rfl ?_)
              | (go_at_call 99; refine (HF.out _).mono ?_; rintro e w3 ⟨rfl, hb⟩; have HD2 := hd_call HD hb; clear hb HD))
            go_ret
            refine ⟨?_, by first | exact HD2.2 | exact below_drew1 HD2.2 | exact pw_below_drewN HD2.2 _⟩
            rw [show R = false from by rw [← HRES.out, all_not _ _ k hlt HV.out]] <;> rfl
    · obtain rfl : k = l.length := by omega
      have hT : R = true := by rw [← HRES.out]; exact all_to _ _ HO.out
      have HTT := Aside0.mk hT
      clear hT
      go_wp2
      go_ret
      refine ⟨?_, HBr.out⟩
      rw [HTT.out] <;> rfl
set_option maxRecDepth 100000 in
set_option maxHeartbeats 4000000 in
theorem valid_lv (A : Option Addr) (n c : Nat) (level : Int) (w : World) (hl : inB level 0 20 = false) :
    Calls Try.prog 86 #[.slice A n c, .int .i64 level] w fun e w' => e = .returned (.bool false) ∧ Below w.heap.size w w' := by
  have HL := Aside0.mk hl
  clear hl
  go_enter Try.func86, Try.ntmps86
  go_wp2_with (first | (go_at_call 84; refine (within_n _ _ _ _ HL.out).mono ?_; rintro e w' ⟨rfl, ⟨nd2, rfl⟩⟩))
  go_ret
  exact ⟨rfl, by repeat (first | exact Below.refl _ _ | apply below_alloc | apply pw_below_drewN | apply below_drew1)⟩
set_option maxRecDepth 100000 in
set_option maxHeartbeats 4000000 in
theorem valid_nil (A : Option Addr) (c : Nat) (level : Int) (w : World) (hl : inB level 0 20 = true) :
    Calls Try.prog 86 #[.slice A 0 c, .int .i64 level] w fun e w' => e = .returned (.bool false) ∧ Below w.heap.size w w' := by
  have HL := Aside0.mk hl
  clear hl
  go_enter Try.func86, Try.ntmps86
  go_wp2_with (first | (go_at_call 84; refine (within_y _ _ _ _ HL.out).mono ?_; rintro e w' ⟨rfl, ⟨nd2, rfl⟩⟩))
  go_ret
  exact ⟨rfl, by repeat (first | exact Below.refl _ _ | apply below_alloc | apply pw_below_drewN | apply below_drew1)⟩
set_option maxRecDepth 100000 in
set_option maxHeartbeats 4000000 in
theorem valid_one (A : Option Addr) (c : Nat) (level : Int) (w : World) (hl : inB level 0 20 = true) (hpos : 0 < level) :
    Calls Try.prog 86 #[.slice A 1 c, .int .i64 level] w fun e w' => e = .returned (.bool false) ∧ Below w.heap.size w w' := by
  have k1 : decide (level > 0) = true := decide_eq_true hpos
  have k1' : decide (0 < level) = true := decide_eq_true hpos
  have HL := Aside0.mk hl
  clear hl hpos
  go_enter Try.func86, Try.ntmps86
  go_wp2_with (first | (go_at_call 84; refine (within_y _ _ _ _ HL.out).mono ?_; rintro e w' ⟨rfl, ⟨nd2, rfl⟩⟩))
  go_ret
  exact ⟨rfl, by repeat (first | exact Below.refl _ _ | apply below_alloc | apply pw_below_drewN | apply below_drew1)⟩
set_option maxRecDepth 100000 in
set_option maxHeartbeats 4000000 in
theorem valid_key (l : List S77) (A : Option Addr) (c : Nat) (level : Int) (w : World) (hr : Kd.C k77 w A l.length l) (hlen : l.length ≤ 1000000) (h0 : 2 ≤ l.length) (hl : inB level 0 20 = true) (hpos : 0 < level) (hk0 : (l.getD 0 z77).f0.toList.isEmpty = false) :
    Calls Try.prog 86 #[.slice A l.length c, .int .i64 level] w fun e w' => e = .returned (.bool false) ∧ Below w.heap.size w w' := by
  have HR := Aside0.mk hr
  obtain ⟨ad, rfl, _⟩ := elem_at hr 0 (by omega)
  have HPK := Aside0.mk (fun (W : World) (hB : Below w.heap.size w W) => (show W.cell? ad = some (.string (l.getD 0 z77).f0) by have := prev_key (Kd.C_below hr hB) 0 (by omega); rwa [Nat.zero_mul, Addr.add_zero'] at this))
  clear hr
  have hne : ((l.length : Int) == 0) = false := beq_eq_false_iff_ne.mpr (by omega)
  have hn2 : decide ((l.length : Int) < 2) = false := decide_eq_false (by omega)
  have hn3 : decide (l.length < 2) = false := decide_eq_false (by omega)
  have hi0 : (0 : Int) < (l.length : Int) := by omega
  have hi1 : 0 < l.length := by omega
  have k1 : decide (level > 0) = true := decide_eq_true hpos
  have k1' : decide (0 < level) = true := decide_eq_true hpos
  have k2 : (level == 0) = false := beq_eq_false_iff_ne.mpr (by omega)
  have HLV := Aside0.mk (show ¬ level = 0 by omega)
  have HL := Aside0.mk hl
  clear hl hpos h0
  have HB := Aside0.mk (Below.refl w.heap.size w)
  obtain ⟨x0, hx0⟩ : ∃ x0, l.getD 0 z77 = x0 := ⟨_, rfl⟩
  rw [hx0] at HPK hk0
  clear hx0
  have c0 := HPK.out w (Below.refl _ _)
  go_enter Try.func86, Try.ntmps86
  go_wp2_with (first | (go_at_call 84; refine (within_y _ _ _ _ HL.out).mono ?_; rintro e w' ⟨rfl, hdd⟩; have c1 := HPK.out _ (drawn_below hdd); obtain ⟨nd2, rfl⟩ := hdd))
  go_ret
  exact ⟨rfl, by repeat (first | exact Below.refl _ _ | apply below_alloc | apply pw_below_drewN | apply below_drew1)⟩
theorem valid_c (l : List S77) (A : Option Addr) (c : Nat) (level : Int) (w : World) (hr : Kd.C k77 w A l.length l) (hlen : l.length ≤ 1000000) :
    Calls Try.prog 86 #[.slice A l.length c, .int .i64 level] w fun e w' => e = .returned (.bool (validL l level)) ∧ Below w.heap.size w w' := by
  cases hl : inB level 0 20 with
  | false => rw [show validL l level = false by simp [validL, hl]]; exact valid_lv A l.length c level w hl
  | true =>
    have hcs : 0 ≤ level ∧ level ≤ 20 := by simp [inB] at hl; omega
    by_cases h0 : l.length = 0
    · rw [show validL l level = false by simp [validL, h0], h0]; exact valid_nil A c level w hl
    · by_cases hz : level = 0
      · subst hz
        rw [show validL l 0 = (List.range l.length).all (vAt l 0) by simp [validL, hl, h0]]
        exact valid_0 l A c w hr hlen (by omega)
      · by_cases h1 : l.length = 1
        · rw [show validL l level = false by simp [validL, hz, h1], h1]; exact valid_one A c level w hl (by omega)
        · cases hk : (l.getD 0 z77).f0.toList.isEmpty with
          | false =>
            rw [show validL l level = false by unfold validL; rw [hk]; simp [hz]]
            exact valid_key l A c level w hr hlen (by omega) hl (by omega) hk
          | true =>
            rw [show validL l level = (List.range l.length).all (vAt l level) by unfold validL; rw [hk, hl]; simp [h0]; omega]
            exact valid_b l A c level w hr hlen (by omega) hl (by omega) hk
/-- does a list of entries fit -/
def fitsL (l : List S77) (level : Int) : Bool := validL l level && decide ((weightR (weightO l level)).1 ≤ 496)
set_option maxRecDepth 100000 in
set_option maxHeartbeats 4000000 in
theorem fits_c (l : List S77) (A : Option Addr) (c : Nat) (level : Int) (w : World) (hr : Kd.C k77 w A l.length l) (hf : Fine l) :
    Calls Try.prog 61 #[.slice A l.length c, .int .i64 level] w fun e w' => e = .returned (.bool (fitsL l level)) ∧ Below w.heap.size w w' := by
  have HV := valid_c l A c level w hr hf.1
  have HW := fun (W : World) (hb : Below w.heap.size w W) => weight_c l A c level W (Kd.C_below hr hb) hf
  obtain ⟨v, hv⟩ : ∃ v, validL l level = v := ⟨_, rfl⟩
  obtain ⟨n, hn⟩ : ∃ n, (weightR (weightO l level)).1 = n := ⟨_, rfl⟩
  obtain ⟨m, hm⟩ : ∃ m, (weightR (weightO l level)).2 = m := ⟨_, rfl⟩
  have HR := Aside0.mk (show fitsL l level = (v && decide (n ≤ 496)) by rw [fitsL, hv, hn])
  rw [hv] at HV
  rw [hn, hm] at HW
  rw [HR.out]
  have HVA := Aside0.mk HV
  have HWA := Aside0.mk HW
  clear HV HW hv hn hm hr hf HR
  cases v
  · go_enter Try.func61, Try.ntmps61
    go_wp2_with (first | (go_at_call 86; refine HVA.out.mono ?_; rintro e w2 ⟨rfl, hb⟩; have HB := Aside0.mk hb; clear hb))
    go_ret
    exact ⟨rfl, HB.out⟩
  · go_enter Try.func61, Try.ntmps61
    go_wp2_with (first | (go_at_call 86; refine HVA.out.mono ?_; rintro e w2 ⟨rfl, hb⟩; have HB := Aside0.mk hb; clear hb) | (go_at_call 59; refine (HWA.out _ (by first | exact HB.out | exact below_drew1 HB.out | exact pw_below_drewN HB.out _)).mono ?_; rintro e w3 ⟨rfl, hb⟩; have HB3 := Aside0.mk (HB.out.trans (hb.mono HB.out.size)); clear hb))
    go_ret
    exact ⟨rfl, by first | exact HB3.out | exact below_drew1 HB3.out | exact pw_below_drewN HB3.out _⟩
end Go.Proofs.Ytalncokpbgbccaa.E

