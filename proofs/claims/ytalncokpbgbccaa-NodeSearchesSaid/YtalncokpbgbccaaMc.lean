/- Joined: NF, Rj. -/
import Derived.Test.YtalncokpbgbccaaMb
import Derived.Test.YtalncokpbgbccaaNx0
import Derived.Test.YtalncokpbgbccaaMa
/- Small, Ordered: what the program says of a list of entries. -/
namespace Go.Proofs.Ytalncokpbgbccaa.E
set_option linter.unusedVariables false
set_option linter.unusedSimpArgs false
open Go.RowKit Go.Proofs.YtalncokpbgbccaaW.PrintWords Go.Proofs.YtalncokpbgbccaaW.PrintLast Go.Proofs.YtalncokpbgbccaaW.PrintMore

theorem ent0 (x : S77) : (entC x)[0]? = some (.string x.f0) := rfl
theorem ent5 (x : S77) : (entC x)[5]? = some (.int .i64 x.f5) := rfl
/-- the key of an element of a row -/
theorem prev_key {W : World} {ad : Addr} {n : Nat} {xs : List S77} (h : Kd.C k77 W (some ad) n xs) (i : Nat) (hi : i < n) : W.cell? (ad.add (i * 22)) = some (.string (xs.getD i z77).f0) := by
  obtain ⟨ad', e, hx, _⟩ := at_T77 h (i : Int) (by omega) (by omega)
  obtain rfl := Option.some.inj e
  exact hx
/-- is the entry at place i in order -/
def okAt (l : List S77) (level : Int) (i : Nat) : Bool :=
  if level > 0 ∧ i = 0 then (l.getD i z77).f0.toList.isEmpty
  else decide (1 ≤ (l.getD i z77).f0.size) && (decide ((l.getD i z77).f0.size ≤ 48) && (decide (i = 0) || Op.bytesLess (l.getD (i - 1) z77).f0.toList (l.getD i z77).f0.toList))
def ordL (l : List S77) (level : Int) : Bool := inB level 0 20 && (List.range l.length).all (okAt l level)
theorem all_to (p : Nat → Bool) (n : Nat) (h : ∀ j, j < n → p j = true) : (List.range n).all p = true := by simpa using h
theorem all_not (p : Nat → Bool) (n k : Nat) (hk : k < n) (h : p k = false) : (List.range n).all p = false := by
  rw [List.all_eq_false]; exact ⟨k, by simpa using hk, by simp [h]⟩
set_option maxRecDepth 100000 in
set_option maxHeartbeats 4000000 in
theorem ordered_bad (l : List S77) (A : Option Addr) (c : Nat) (level : Int) (w : World) (hl : inB level 0 20 = false) :
    Calls Try.prog 21 #[.slice A l.length c, .int .i64 level] w fun e w' => e = .returned (.bool false) ∧ Below w.heap.size w w' := by
  have hcs : level < 0 ∨ 20 < level := by simp [inB] at hl; omega
  clear hl
  rcases hcs with h | h
  · have hb : decide (level < 0) = true := decide_eq_true h
    clear h
    go_enter Try.func21, Try.ntmps21
    go_wp2
    go_ret
    exact ⟨rfl, by repeat (first | exact Below.refl _ _ | apply below_alloc | apply pw_below_drewN | apply below_drew1)⟩
  · have hb : decide (level < 0) = false := decide_eq_false (by omega)
    have hb2 : decide (level > 20) = true := decide_eq_true (by omega)
    have hb3 : decide (20 < level) = true := decide_eq_true (by omega)
    clear h
    go_enter Try.func21, Try.ntmps21
    go_wp2
    go_ret
    exact ⟨rfl, by repeat (first | exact Below.refl _ _ | apply below_alloc | apply pw_below_drewN | apply below_drew1)⟩
set_option maxRecDepth 100000 in
set_option maxHeartbeats 4000000 in
theorem ordered_ok (l : List S77) (A : Option Addr) (c : Nat) (level : Int) (w : World) (hr : Kd.C k77 w A l.length l) (hlen : l.length ≤ 1000000) (hl : inB level 0 20 = true) :
    Calls Try.prog 21 #[.slice A l.length c, .int .i64 level] w fun e w' => e = .returned (.bool ((List.range l.length).all (okAt l level))) ∧ Below w.heap.size w w' := by
  have hcs : 0 ≤ level ∧ level ≤ 20 := by simp [inB] at hl; omega
  have hb0 : decide (level < 0) = false := decide_eq_false (by omega)
  have hb2 : decide (level > 20) = false := decide_eq_false (by omega)
  have hb3 : decide (20 < level) = false := decide_eq_false (by omega)
  clear hl hcs
  have HR := Aside0.mk hr
  clear hr
  have HB := Aside0.mk (Below.refl w.heap.size w)
  obtain ⟨R, hR⟩ : ∃ R, (List.range l.length).all (okAt l level) = R := ⟨_, rfl⟩
  have HRES := Aside0.mk hR
  rw [hR]
  clear hR
  go_enter Try.func21, Try.ntmps21
  go_wp2
  go_loopw [15] (fun i wr => ∃ (k : Nat), k ≤ l.length ∧ i = .int .i64 k ∧ Aside0 (∀ j, j < k → okAt l level j = true) ∧ Aside0 (Below w.heap.size w wr)) (fun i _ => l.length - (intOf i).toNat)
  case atStart => exact ⟨0, Nat.zero_le _, rfl, ⟨fun j hj => by omega⟩, HB⟩
  case round =>
    obtain ⟨k, hk, rfl, HO, HBr⟩ := hrel
    by_cases hlt : k < l.length
    · obtain ⟨ad, rfl, hel⟩ := elem_at (Kd.C_below HR.out HBr.out) k hlt
      have HEL := Aside0.mk hel
      have hkw : wrap64 ((k : Int) + 1) = (k : Int) + 1 := w64 _ (by omega) (by omega)
      have HOK := Aside0.mk (show okAt l level k = okAt l level k from rfl)
      clear hel
      obtain ⟨x, hx⟩ : ∃ x, l.getD k z77 = x := ⟨_, rfl⟩
      rw [hx] at HEL
      have HX := Aside0.mk hx
      clear hx
      by_cases hfirst : level > 0 ∧ k = 0
      · have k1 : decide (level > 0) = true := decide_eq_true hfirst.1
        have k1' : decide (0 < level) = true := decide_eq_true hfirst.1
        have hk0 : k = 0 := hfirst.2
        subst hk0
        have HF := Aside0.mk hfirst
        clear hfirst
        have hok : okAt l level 0 = x.f0.toList.isEmpty := by unfold okAt; rw [if_pos HF.out, HX.out]
        have HOKX := Aside0.mk hok
        clear hok
        cases he : x.f0.toList.isEmpty
        · go_wp2_with (first
            | ((with_reducible refine gate_dst (N := 19) rfl ?_); refine wpList_load_el rfl (.tmp 18) rfl _ rfl x HEL.out ?_)
            | (refine wpList_store_new rfl (.tmp 6) (.tmp 19) rfl x rfl rfl rfl ?_; intro W2 hg2 hb2; have HG2 := Aside0.mk hg2; have HB2 := Aside0.mk (HBr.out.trans (hb2.mono HBr.out.size)); have c0 := cell_of_box hg2 (ent0 x); clear hg2 hb2))
          go_ret
          refine ⟨?_, HB2.out⟩
          rw [show R = false from by rw [← HRES.out, all_not _ _ 0 hlt (by rw [HOKX.out, he])]]
          rfl
        · go_wp2_with (first
            | ((with_reducible refine gate_dst (N := 19) rfl ?_); refine wpList_load_el rfl (.tmp 18) rfl _ rfl x HEL.out ?_)
            | (refine wpList_store_new rfl (.tmp 6) (.tmp 19) rfl x rfl rfl rfl ?_; intro W2 hg2 hb2; have HG2 := Aside0.mk hg2; have HB2 := Aside0.mk (HBr.out.trans (hb2.mono HBr.out.size)); have c0 := cell_of_box hg2 (ent0 x); clear hg2 hb2))
          go_roundw
          case rel =>
            have hall : ∀ j, j < 1 → okAt l level j = true := fun j hj => by
              have h0 : j = 0 := by omega
              subst h0; rw [HOKX.out, he]
            exact ⟨1, by omega, by simp, ⟨hall⟩, HB2⟩
          case measure => simp [intOf]; omega
      · have hval : okAt l level k = (decide (1 ≤ x.f0.size) && (decide (x.f0.size ≤ 48) && (decide (k = 0) || Op.bytesLess (l.getD (k - 1) z77).f0.toList x.f0.toList))) := by unfold okAt; rw [if_neg hfirst, HX.out]
        have HVAL := Aside0.mk hval
        have HNEXT := Aside0.mk (show okAt l level k = true → ∀ j, j < k + 1 → okAt l level j = true from fun hv j hj => by
          by_cases h : j = k
          · subst h; exact hv
          · exact HO.out j (by omega))
        clear hval
        by_cases hlv : level > 0
        · have hk0 : ¬ k = 0 := fun h => hfirst ⟨hlv, h⟩
          have k1 : decide (level > 0) = true := decide_eq_true hlv
          have k1' : decide (0 < level) = true := decide_eq_true hlv
          have k2 : ((k : Int) == 0) = false := by simp; omega
          clear hfirst hlv
          by_cases hA : x.f0.size < 1
          · have HV := Aside0.mk (show okAt l level k = false by rw [HVAL.out]; simp; omega)
            have q1 : decide ((x.f0.size : Int) < 1) = true := decide_eq_true (by omega)
            clear hA
            go_wp2_with (first
              | ((with_reducible refine gate_dst (N := 19) rfl ?_); refine wpList_load_el rfl (.tmp 18) rfl _ rfl x HEL.out ?_)
              | (refine wpList_store_new rfl (.tmp 6) (.tmp 19) rfl x rfl rfl rfl ?_; intro W2 hg2 hb2; have HG2 := Aside0.mk hg2; have HB2 := Aside0.mk (HBr.out.trans (hb2.mono HBr.out.size)); have c0 := cell_of_box hg2 (ent0 x); clear hg2 hb2))
            repeat (go_quiet (fail); try go_wp2)
            go_ret
            refine ⟨?_, by first | exact HB2.out | exact below_drew1 HB2.out | exact pw_below_drewN HB2.out _⟩
            rw [show R = false from by rw [← HRES.out, all_not _ _ k hlt HV.out]] <;> rfl
          · have q1 : decide ((x.f0.size : Int) < 1) = false := decide_eq_false (by omega)
            by_cases hB : 48 < x.f0.size
            · have HV := Aside0.mk (show okAt l level k = false by rw [HVAL.out]; simp; omega)
              have q2 : decide ((x.f0.size : Int) > 48) = true := decide_eq_true (by omega)
              clear hA hB
              go_wp2_with (first
                | ((with_reducible refine gate_dst (N := 19) rfl ?_); refine wpList_load_el rfl (.tmp 18) rfl _ rfl x HEL.out ?_)
                | (refine wpList_store_new rfl (.tmp 6) (.tmp 19) rfl x rfl rfl rfl ?_; intro W2 hg2 hb2; have HG2 := Aside0.mk hg2; have HB2 := Aside0.mk (HBr.out.trans (hb2.mono HBr.out.size)); have c0 := cell_of_box hg2 (ent0 x); clear hg2 hb2))
              repeat (go_quiet (fail); try go_wp2)
              go_ret
              refine ⟨?_, by first | exact HB2.out | exact below_drew1 HB2.out | exact pw_below_drewN HB2.out _⟩
              rw [show R = false from by rw [← HRES.out, all_not _ _ k hlt HV.out]] <;> rfl
            · have q2 : decide ((x.f0.size : Int) > 48) = false := decide_eq_false (by omega)
              by_cases hK : k = 0
              · exact absurd hK hk0
              · have q3 : decide ((k : Int) > 0) = true := decide_eq_true (by omega)
                have q4 : decide (0 < (k : Int)) = true := decide_eq_true (by omega)
                have q5 : decide (0 < k) = true := decide_eq_true (by omega)
                obtain ⟨p, hp⟩ : ∃ p : Nat, k = p + 1 := ⟨k - 1, by omega⟩
                have hw1 : IntKind.i64.wrap ((k : Int) - 1) = (p : Int) := by rw [i64w _ (by omega) (by omega)]; omega
                have hw2 : wrap64 ((k : Int) - 1) = (p : Int) := by rw [w64 _ (by omega) (by omega)]; omega
                have hw4 : p < l.length := by omega
                have hw6 : (p : Int) < (l.length : Int) := by omega
                have hw7 : 0 ≤ (p : Int) := by omega
                have hpk : k - 1 = p := by omega
                have HPREV := Aside0.mk (fun (W : World) (hB : Below w.heap.size w W) => prev_key (Kd.C_below HR.out hB) p hw4)
                rw [hpk] at HVAL
                obtain ⟨y, hyy⟩ : ∃ y, l.getD p z77 = y := ⟨_, rfl⟩
                rw [hyy] at HPREV HVAL
                clear hyy
                cases hL : Op.bytesLess y.f0.toList x.f0.toList
                · cases hM : Op.bytesLess x.f0.toList y.f0.toList
                  · have hE : (x.f0.toList == y.f0.toList) = true := by have := less_total x.f0.toList y.f0.toList; rw [hM, hL] at this; simpa using this
                    have HV := Aside0.mk (show okAt l level k = false by rw [HVAL.out, hL, decide_eq_false hK]; simp)
                    clear hA hB hK hp hpk
                    go_wp2_with (first
                      | ((with_reducible refine gate_dst (N := 19) rfl ?_); refine wpList_load_el rfl (.tmp 18) rfl _ rfl x HEL.out ?_)
                      | (refine wpList_store_new rfl (.tmp 6) (.tmp 19) rfl x rfl rfl rfl ?_; intro W2 hg2 hb2; have HG2 := Aside0.mk hg2; have HB2 := Aside0.mk (HBr.out.trans (hb2.mono HBr.out.size)); have c0 := cell_of_box hg2 (ent0 x); have hy := HPREV.out W2 HB2.out; clear hg2 hb2))
                    repeat (go_quiet (fail); try go_wp2)
                    go_ret
                    refine ⟨?_, by first | exact HB2.out | exact below_drew1 HB2.out | exact pw_below_drewN HB2.out _⟩
                    rw [show R = false from by rw [← HRES.out, all_not _ _ k hlt HV.out]] <;> rfl
                  · have HV := Aside0.mk (show okAt l level k = false by rw [HVAL.out, hL, decide_eq_false hK]; simp)
                    clear hA hB hK hp hpk
                    go_wp2_with (first
                      | ((with_reducible refine gate_dst (N := 19) rfl ?_); refine wpList_load_el rfl (.tmp 18) rfl _ rfl x HEL.out ?_)
                      | (refine wpList_store_new rfl (.tmp 6) (.tmp 19) rfl x rfl rfl rfl ?_; intro W2 hg2 hb2; have HG2 := Aside0.mk hg2; have HB2 := Aside0.mk (HBr.out.trans (hb2.mono HBr.out.size)); have c0 := cell_of_box hg2 (ent0 x); have hy := HPREV.out W2 HB2.out; clear hg2 hb2))
                    repeat (go_quiet (fail); try go_wp2)
                    go_ret
                    refine ⟨?_, by first | exact HB2.out | exact below_drew1 HB2.out | exact pw_below_drewN HB2.out _⟩
                    rw [show R = false from by rw [← HRES.out, all_not _ _ k hlt HV.out]] <;> rfl
                · have HV := Aside0.mk (show okAt l level k = true by rw [HVAL.out, hL, decide_eq_false hK, decide_eq_true (show 1 ≤ x.f0.size by omega), decide_eq_true (show x.f0.size ≤ 48 by omega)]; rfl)
                  have hcmp : (Op.bytesLess x.f0.toList y.f0.toList || x.f0.toList == y.f0.toList) = false := by rw [less_total, hL]; rfl
                  obtain ⟨hM, hE⟩ : Op.bytesLess x.f0.toList y.f0.toList = false ∧ (x.f0.toList == y.f0.toList) = false := by simpa only [Bool.or_eq_false_iff] using hcmp
                  clear hcmp
                  clear hA hB hK hp hpk
                  go_wp2_with (first
                    | ((with_reducible refine gate_dst (N := 19) rfl ?_); refine wpList_load_el rfl (.tmp 18) rfl _ rfl x HEL.out ?_)
                    | (refine wpList_store_new rfl (.tmp 6) (.tmp 19) rfl x rfl rfl rfl ?_; intro W2 hg2 hb2; have HG2 := Aside0.mk hg2; have HB2 := Aside0.mk (HBr.out.trans (hb2.mono HBr.out.size)); have c0 := cell_of_box hg2 (ent0 x); have hy := HPREV.out W2 HB2.out; clear hg2 hb2))
                  repeat (go_quiet (fail); try go_wp2)
                  go_roundw
                  case rel => exact ⟨k + 1, by omega, by simp, ⟨HNEXT.out HV.out⟩, ⟨by first | exact HB2.out | exact below_drew1 HB2.out | exact pw_below_drewN HB2.out _⟩⟩
                  case measure => simp [intOf]; omega
        · have k1 : decide (level > 0) = false := decide_eq_false hlv
          have k1' : decide (0 < level) = false := decide_eq_false hlv
          clear hfirst hlv
          by_cases hA : x.f0.size < 1
          · have HV := Aside0.mk (show okAt l level k = false by rw [HVAL.out]; simp; omega)
            have q1 : decide ((x.f0.size : Int) < 1) = true := decide_eq_true (by omega)
            clear hA
            go_wp2_with (first
              | ((with_reducible refine gate_dst (N := 19) rfl ?_); refine wpList_load_el rfl (.tmp 18) rfl _ rfl x HEL.out ?_)
              | (refine wpList_store_new rfl (.tmp 6) (.tmp 19) rfl x rfl rfl rfl ?_; intro W2 hg2 hb2; have HG2 := Aside0.mk hg2; have HB2 := Aside0.mk (HBr.out.trans (hb2.mono HBr.out.size)); have c0 := cell_of_box hg2 (ent0 x); clear hg2 hb2))
            repeat (go_quiet (fail); try go_wp2)
            go_ret
            refine ⟨?_, by first | exact HB2.out | exact below_drew1 HB2.out | exact pw_below_drewN HB2.out _⟩
            rw [show R = false from by rw [← HRES.out, all_not _ _ k hlt HV.out]] <;> rfl
          · have q1 : decide ((x.f0.size : Int) < 1) = false := decide_eq_false (by omega)
            by_cases hB : 48 < x.f0.size
            · have HV := Aside0.mk (show okAt l level k = false by rw [HVAL.out]; simp; omega)
              have q2 : decide ((x.f0.size : Int) > 48) = true := decide_eq_true (by omega)
              clear hA hB
              go_wp2_with (first
                | ((with_reducible refine gate_dst (N := 19) rfl ?_); refine wpList_load_el rfl (.tmp 18) rfl _ rfl x HEL.out ?_)
                | (refine wpList_store_new rfl (.tmp 6) (.tmp 19) rfl x rfl rfl rfl ?_; intro W2 hg2 hb2; have HG2 := Aside0.mk hg2; have HB2 := Aside0.mk (HBr.out.trans (hb2.mono HBr.out.size)); have c0 := cell_of_box hg2 (ent0 x); clear hg2 hb2))
              repeat (go_quiet (fail); try go_wp2)
              go_ret
              refine ⟨?_, by first | exact HB2.out | exact below_drew1 HB2.out | exact pw_below_drewN HB2.out _⟩
              rw [show R = false from by rw [← HRES.out, all_not _ _ k hlt HV.out]] <;> rfl
            · have q2 : decide ((x.f0.size : Int) > 48) = false := decide_eq_false (by omega)
              by_cases hK : k = 0
              · have HV := Aside0.mk (show okAt l level k = true by rw [HVAL.out, decide_eq_true hK, decide_eq_true (show 1 ≤ x.f0.size by omega), decide_eq_true (show x.f0.size ≤ 48 by omega)]; rfl)
                have q3 : decide ((k : Int) > 0) = false := decide_eq_false (by omega)
                have q4 : decide (0 < (k : Int)) = false := decide_eq_false (by omega)
                have q5 : decide (0 < k) = false := decide_eq_false (by omega)
                clear hA hB hK
                go_wp2_with (first
                  | ((with_reducible refine gate_dst (N := 19) rfl ?_); refine wpList_load_el rfl (.tmp 18) rfl _ rfl x HEL.out ?_)
                  | (refine wpList_store_new rfl (.tmp 6) (.tmp 19) rfl x rfl rfl rfl ?_; intro W2 hg2 hb2; have HG2 := Aside0.mk hg2; have HB2 := Aside0.mk (HBr.out.trans (hb2.mono HBr.out.size)); have c0 := cell_of_box hg2 (ent0 x); clear hg2 hb2))
                repeat (go_quiet (fail); try go_wp2)
                go_roundw
                case rel => exact ⟨k + 1, by omega, by simp, ⟨HNEXT.out HV.out⟩, ⟨by first | exact HB2.out | exact below_drew1 HB2.out | exact pw_below_drewN HB2.out _⟩⟩
                case measure => simp [intOf]; omega
              · have q3 : decide ((k : Int) > 0) = true := decide_eq_true (by omega)
                have q4 : decide (0 < (k : Int)) = true := decide_eq_true (by omega)
                have q5 : decide (0 < k) = true := decide_eq_true (by omega)
                obtain ⟨p, hp⟩ : ∃ p : Nat, k = p + 1 := ⟨k - 1, by omega⟩
                have hw1 : IntKind.i64.wrap ((k : Int) - 1) = (p : Int) := by rw [i64w _ (by omega) (by omega)]; omega
                have hw2 : wrap64 ((k : Int) - 1) = (p : Int) := by rw [w64 _ (by omega) (by omega)]; omega
                have hw4 : p < l.length := by omega
                have hw6 : (p : Int) < (l.length : Int) := by omega
                have hw7 : 0 ≤ (p : Int) := by omega
                have hpk : k - 1 = p := by omega
                have HPREV := Aside0.mk (fun (W : World) (hB : Below w.heap.size w W) => prev_key (Kd.C_below HR.out hB) p hw4)
                rw [hpk] at HVAL
                obtain ⟨y, hyy⟩ : ∃ y, l.getD p z77 = y := ⟨_, rfl⟩
                rw [hyy] at HPREV HVAL
                clear hyy
                cases hL : Op.bytesLess y.f0.toList x.f0.toList
                · cases hM : Op.bytesLess x.f0.toList y.f0.toList
                  · have hE : (x.f0.toList == y.f0.toList) = true := by have := less_total x.f0.toList y.f0.toList; rw [hM, hL] at this; simpa using this
                    have HV := Aside0.mk (show okAt l level k = false by rw [HVAL.out, hL, decide_eq_false hK]; simp)
                    clear hA hB hK hp hpk
                    go_wp2_with (first
                      | ((with_reducible refine gate_dst (N := 19) rfl ?_); refine wpList_load_el rfl (.tmp 18) rfl _ rfl x HEL.out ?_)
                      | (refine wpList_store_new rfl (.tmp 6) (.tmp 19) rfl x rfl rfl rfl ?_; intro W2 hg2 hb2; have HG2 := Aside0.mk hg2; have HB2 := Aside0.mk (HBr.out.trans (hb2.mono HBr.out.size)); have c0 := cell_of_box hg2 (ent0 x); have hy := HPREV.out W2 HB2.out; clear hg2 hb2))
                    repeat (go_quiet (fail); try go_wp2)
                    go_ret
                    refine ⟨?_, by first | exact HB2.out | exact below_drew1 HB2.out | exact pw_below_drewN HB2.out _⟩
                    rw [show R = false from by rw [← HRES.out, all_not _ _ k hlt HV.out]] <;> rfl
                  · have HV := Aside0.mk (show okAt l level k = false by rw [HVAL.out, hL, decide_eq_false hK]; simp)
                    clear hA hB hK hp hpk
                    go_wp2_with (first
                      | ((with_reducible refine gate_dst (N := 19) rfl ?_); refine wpList_load_el rfl (.tmp 18) rfl _ rfl x HEL.out ?_)
                      | (refine wpList_store_new rfl (.tmp 6) (.tmp 19) rfl x rfl rfl rfl ?_; intro W2 hg2 hb2; have HG2 := Aside0.mk hg2; have HB2 := Aside0.mk (HBr.out.trans (hb2.mono HBr.out.size)); have c0 := cell_of_box hg2 (ent0 x); have hy := HPREV.out W2 HB2.out; clear hg2 hb2))
                    repeat (go_quiet (fail); try go_wp2)
                    go_ret
                    refine ⟨?_, by first | exact HB2.out | exact below_drew1 HB2.out | exact pw_below_drewN HB2.out _⟩
                    rw [show R = false from by rw [← HRES.out, all_not _ _ k hlt HV.out]] <;> rfl
                · have HV := Aside0.mk (show okAt l level k = true by rw [HVAL.out, hL, decide_eq_false hK, decide_eq_true (show 1 ≤ x.f0.size by omega), decide_eq_true (show x.f0.size ≤ 48 by omega)]; rfl)
                  have hcmp : (Op.bytesLess x.f0.toList y.f0.toList || x.f0.toList == y.f0.toList) = false := by rw [less_total, hL]; rfl
                  obtain ⟨hM, hE⟩ : Op.bytesLess x.f0.toList y.f0.toList = false ∧ (x.f0.toList == y.f0.toList) = false := by simpa only [Bool.or_eq_false_iff] using hcmp
                  clear hcmp
                  clear hA hB hK hp hpk
                  go_wp2_with (first
                    | ((with_reducible refine gate_dst (N := 19) rfl ?_); refine wpList_load_el rfl (.tmp 18) rfl _ rfl x HEL.out ?_)
                    | (refine wpList_store_new rfl (.tmp 6) (.tmp 19) rfl x rfl rfl rfl ?_; intro W2 hg2 hb2; have HG2 := Aside0.mk hg2; have HB2 := Aside0.mk (HBr.out.trans (hb2.mono HBr.out.size)); have c0 := cell_of_box hg2 (ent0 x); have hy := HPREV.out W2 HB2.out; clear hg2 hb2))
                  repeat (go_quiet (fail); try go_wp2)
                  go_roundw
                  case rel => exact ⟨k + 1, by omega, by simp, ⟨HNEXT.out HV.out⟩, ⟨by first | exact HB2.out | exact below_drew1 HB2.out | exact pw_below_drewN HB2.out _⟩⟩
                  case measure => simp [intOf]; omega
    · obtain rfl : k = l.length := by omega
      have hT : R = true := by rw [← HRES.out]; exact all_to _ _ HO.out
      have HTT := Aside0.mk hT
      clear hT
      go_wp2
      go_ret
      refine ⟨?_, HBr.out⟩
      rw [HTT.out] <;> rfl
theorem ordered_c (l : List S77) (A : Option Addr) (c : Nat) (level : Int) (w : World) (hr : Kd.C k77 w A l.length l) (hlen : l.length ≤ 1000000) :
    Calls Try.prog 21 #[.slice A l.length c, .int .i64 level] w fun e w' => e = .returned (.bool (ordL l level)) ∧ Below w.heap.size w w' := by
  cases hl : inB level 0 20 with
  | false => rw [show ordL l level = false by simp [ordL, hl]]; exact ordered_bad l A c level w hl
  | true => rw [show ordL l level = (List.range l.length).all (okAt l level) by simp [ordL, hl]]; exact ordered_ok l A c level w hr hlen hl
end Go.Proofs.Ytalncokpbgbccaa.E

-- Printed by this session's wip/tools/oracle.py, which runs the kit's print program; Lean checks it.
namespace Go.Proofs.Ytalncokpbgbccaa.E
open Go.RowKit Go.Proofs.YtalncokpbgbccaaW.PrintWords Go.Proofs.YtalncokpbgbccaaW.PrintLast Go.Proofs.YtalncokpbgbccaaW.PrintMore
attribute [local go_sem] max2_int min2_int max_two min_two max_three min_three max_four min_four   -- for this text's walks alone
set_option linter.unusedVariables false
set_option linter.unusedSimpArgs false

/-! ### cmp_isNaN_string: function 110 -/
def cmp_isNaN_string.f (a0 : ByteArray) : Option (Bool) := some (a0.toList != a0.toList)
set_option maxHeartbeats 8000000 in
set_option maxRecDepth 100000 in
theorem cmp_isNaN_string.calls (a0 : ByteArray) (r : Bool) (w : World) (h : cmp_isNaN_string.f a0 = some r) :
    Calls Try.prog 110 #[.string a0] w fun e w' => e = .returned (.bool r) ∧ Drawn0 w w' := by
  have H : (some (a0.toList != a0.toList)) = some r := h
  clear h
  obtain rfl := Option.some.inj H
  go_enter Try.func110, Try.ntmps110
  go_wp2
  go_ret
  exact ⟨by first | rfl | (simp; done) | (simp [*]; done), by repeat (first | exact Drawn0.refl _ | apply Drawn0.step)⟩

/-! ### cmp_Compare_string: function 108 -/
def cmp_Compare_string.f (a0 : ByteArray) (a1 : ByteArray) : Option (Int) := (cmp_isNaN_string.f a0).bind fun t138 => ((cmp_isNaN_string.f a1).bind fun t139 => (if t138 = true then (if t139 = true then (some 0) else (some (-1))) else (if t139 = true then (some 1) else (if (Op.bytesLess a0.toList a1.toList) = true then (some (-1)) else (if (Op.bytesLess a1.toList a0.toList) = true then (some 1) else (some 0))))))
set_option maxHeartbeats 8000000 in
set_option maxRecDepth 100000 in
theorem cmp_Compare_string.calls (a0 : ByteArray) (a1 : ByteArray) (r : Int) (w : World) (h : cmp_Compare_string.f a0 a1 = some r) :
    Calls Try.prog 108 #[.string a0, .string a1] w fun e w' => e = .returned (.int .i64 r) ∧ Drawn0 w w' := by
  have H : ((cmp_isNaN_string.f a0).bind fun t138 => ((cmp_isNaN_string.f a1).bind fun t139 => (if t138 = true then (if t139 = true then (some 0) else (some (-1))) else (if t139 = true then (some 1) else (if (Op.bytesLess a0.toList a1.toList) = true then (some (-1)) else (if (Op.bytesLess a1.toList a0.toList) = true then (some 1) else (some 0))))))) = some r := h
  clear h
  replace H := Option.bind_eq_some_iff.mp H
  obtain ⟨t138, A30, H⟩ := H
  replace H : ((cmp_isNaN_string.f a1).bind fun t139 => (if t138 = true then (if t139 = true then (some 0) else (some (-1))) else (if t139 = true then (some 1) else (if (Op.bytesLess a0.toList a1.toList) = true then (some (-1)) else (if (Op.bytesLess a1.toList a0.toList) = true then (some 1) else (some 0)))))) = some r := H
  have A3 := Aside0.mk A30
  clear A30
  replace H := Option.bind_eq_some_iff.mp H
  obtain ⟨t139, A40, H⟩ := H
  replace H : (if t138 = true then (if t139 = true then (some 0) else (some (-1))) else (if t139 = true then (some 1) else (if (Op.bytesLess a0.toList a1.toList) = true then (some (-1)) else (if (Op.bytesLess a1.toList a0.toList) = true then (some 1) else (some 0))))) = some r := H
  have A4 := Aside0.mk A40
  clear A40
  by_cases c5 : t138 = true
  · subst c5
    have H1 : (if t139 = true then (some 0) else (some (-1))) = some r := by rw [if_pos rfl] at H; exact H
    clear H
    have H := H1
    clear H1
    by_cases c6 : t139 = true
    · subst c6
      have H1 : (some 0) = some r := by rw [if_pos rfl] at H; exact H
      clear H
      have H := H1
      clear H1
      obtain rfl := Option.some.inj H
      go_enter Try.func108, Try.ntmps108
      go_wp2_with (first | ((with_reducible refine gate_callee (f := 110) rfl ?_); refine goesL_ (some 8) rfl rfl Try.func110 (by kernel_rfl) rfl #[.string a0] rfl (by (try simp only [List.map_toArray, List.map_cons, List.map_nil]); first | done | rfl | (simp only [List.length_drop, List.length_take]; rfl)) ?_; (with_reducible refine (cmp_isNaN_string.calls a0 true _ A3.out).mono ?_); rintro e w' ⟨rfl, ⟨nd, rfl⟩⟩; refine ⟨_, rfl, ?_⟩) | ((with_reducible refine gate_callee (f := 110) rfl ?_); refine goesL_ (some 10) rfl rfl Try.func110 (by kernel_rfl) rfl #[.string a1] rfl (by (try simp only [List.map_toArray, List.map_cons, List.map_nil]); first | done | rfl | (simp only [List.length_drop, List.length_take]; rfl)) ?_; (with_reducible refine (cmp_isNaN_string.calls a1 true _ A4.out).mono ?_); rintro e w' ⟨rfl, ⟨nd, rfl⟩⟩; refine ⟨_, rfl, ?_⟩))
      go_ret
      exact ⟨by first | rfl | (simp; done) | (simp [*]; done), by repeat (first | exact Drawn0.refl _ | apply Drawn0.step)⟩
    · replace c6 := Bool.eq_false_iff.mpr c6
      subst c6
      have H1 : (some (-1)) = some r := by rw [if_neg (show ¬ (false = true) by decide)] at H; exact H
      clear H
      have H := H1
      clear H1
      obtain rfl := Option.some.inj H
      go_enter Try.func108, Try.ntmps108
      go_wp2_with (first | ((with_reducible refine gate_callee (f := 110) rfl ?_); refine goesL_ (some 8) rfl rfl Try.func110 (by kernel_rfl) rfl #[.string a0] rfl (by (try simp only [List.map_toArray, List.map_cons, List.map_nil]); first | done | rfl | (simp only [List.length_drop, List.length_take]; rfl)) ?_; (with_reducible refine (cmp_isNaN_string.calls a0 true _ A3.out).mono ?_); rintro e w' ⟨rfl, ⟨nd, rfl⟩⟩; refine ⟨_, rfl, ?_⟩) | ((with_reducible refine gate_callee (f := 110) rfl ?_); refine goesL_ (some 10) rfl rfl Try.func110 (by kernel_rfl) rfl #[.string a1] rfl (by (try simp only [List.map_toArray, List.map_cons, List.map_nil]); first | done | rfl | (simp only [List.length_drop, List.length_take]; rfl)) ?_; (with_reducible refine (cmp_isNaN_string.calls a1 false _ A4.out).mono ?_); rintro e w' ⟨rfl, ⟨nd, rfl⟩⟩; refine ⟨_, rfl, ?_⟩))
      go_ret
      exact ⟨by first | rfl | (simp; done) | (simp [*]; done), by repeat (first | exact Drawn0.refl _ | apply Drawn0.step)⟩
  · replace c5 := Bool.eq_false_iff.mpr c5
    subst c5
    have H1 : (if t139 = true then (some 1) else (if (Op.bytesLess a0.toList a1.toList) = true then (some (-1)) else (if (Op.bytesLess a1.toList a0.toList) = true then (some 1) else (some 0)))) = some r := by rw [if_neg (show ¬ (false = true) by decide)] at H; exact H
    clear H
    have H := H1
    clear H1
    by_cases c7 : t139 = true
    · subst c7
      have H1 : (some 1) = some r := by rw [if_pos rfl] at H; exact H
      clear H
      have H := H1
      clear H1
      obtain rfl := Option.some.inj H
      go_enter Try.func108, Try.ntmps108
      go_wp2_with (first | ((with_reducible refine gate_callee (f := 110) rfl ?_); refine goesL_ (some 8) rfl rfl Try.func110 (by kernel_rfl) rfl #[.string a0] rfl (by (try simp only [List.map_toArray, List.map_cons, List.map_nil]); first | done | rfl | (simp only [List.length_drop, List.length_take]; rfl)) ?_; (with_reducible refine (cmp_isNaN_string.calls a0 false _ A3.out).mono ?_); rintro e w' ⟨rfl, ⟨nd, rfl⟩⟩; refine ⟨_, rfl, ?_⟩) | ((with_reducible refine gate_callee (f := 110) rfl ?_); refine goesL_ (some 10) rfl rfl Try.func110 (by kernel_rfl) rfl #[.string a1] rfl (by (try simp only [List.map_toArray, List.map_cons, List.map_nil]); first | done | rfl | (simp only [List.length_drop, List.length_take]; rfl)) ?_; (with_reducible refine (cmp_isNaN_string.calls a1 true _ A4.out).mono ?_); rintro e w' ⟨rfl, ⟨nd, rfl⟩⟩; refine ⟨_, rfl, ?_⟩))
      go_ret
      exact ⟨by first | rfl | (simp; done) | (simp [*]; done), by repeat (first | exact Drawn0.refl _ | apply Drawn0.step)⟩
    · replace c7 := Bool.eq_false_iff.mpr c7
      subst c7
      have H1 : (if (Op.bytesLess a0.toList a1.toList) = true then (some (-1)) else (if (Op.bytesLess a1.toList a0.toList) = true then (some 1) else (some 0))) = some r := by rw [if_neg (show ¬ (false = true) by decide)] at H; exact H
      clear H
      have H := H1
      clear H1
      by_cases c8 : (Op.bytesLess a0.toList a1.toList) = true
      · rw [if_pos c8] at H
        have c8b0 : (Op.bytesLess a0.toList a1.toList) = true := c8
        clear c8
        obtain rfl := Option.some.inj H
        go_enter Try.func108, Try.ntmps108
        go_wp2_with (first | ((with_reducible refine gate_callee (f := 110) rfl ?_); refine goesL_ (some 8) rfl rfl Try.func110 (by kernel_rfl) rfl #[.string a0] rfl (by (try simp only [List.map_toArray, List.map_cons, List.map_nil]); first | done | rfl | (simp only [List.length_drop, List.length_take]; rfl)) ?_; (with_reducible refine (cmp_isNaN_string.calls a0 false _ A3.out).mono ?_); rintro e w' ⟨rfl, ⟨nd, rfl⟩⟩; refine ⟨_, rfl, ?_⟩) | ((with_reducible refine gate_callee (f := 110) rfl ?_); refine goesL_ (some 10) rfl rfl Try.func110 (by kernel_rfl) rfl #[.string a1] rfl (by (try simp only [List.map_toArray, List.map_cons, List.map_nil]); first | done | rfl | (simp only [List.length_drop, List.length_take]; rfl)) ?_; (with_reducible refine (cmp_isNaN_string.calls a1 false _ A4.out).mono ?_); rintro e w' ⟨rfl, ⟨nd, rfl⟩⟩; refine ⟨_, rfl, ?_⟩))
        go_ret
        exact ⟨by first | rfl | (simp; done) | (simp [*]; done), by repeat (first | exact Drawn0.refl _ | apply Drawn0.step)⟩
      · rw [if_neg c8] at H
        have c8b0 : (Op.bytesLess a0.toList a1.toList) = false := by simpa using c8
        clear c8
        by_cases c9 : (Op.bytesLess a1.toList a0.toList) = true
        · rw [if_pos c9] at H
          have c9b0 : (Op.bytesLess a1.toList a0.toList) = true := c9
          clear c9
          obtain rfl := Option.some.inj H
          go_enter Try.func108, Try.ntmps108
          go_wp2_with (first | ((with_reducible refine gate_callee (f := 110) rfl ?_); refine goesL_ (some 8) rfl rfl Try.func110 (by kernel_rfl) rfl #[.string a0] rfl (by (try simp only [List.map_toArray, List.map_cons, List.map_nil]); first | done | rfl | (simp only [List.length_drop, List.length_take]; rfl)) ?_; (with_reducible refine (cmp_isNaN_string.calls a0 false _ A3.out).mono ?_); rintro e w' ⟨rfl, ⟨nd, rfl⟩⟩; refine ⟨_, rfl, ?_⟩) | ((with_reducible refine gate_callee (f := 110) rfl ?_); refine goesL_ (some 10) rfl rfl Try.func110 (by kernel_rfl) rfl #[.string a1] rfl (by (try simp only [List.map_toArray, List.map_cons, List.map_nil]); first | done | rfl | (simp only [List.length_drop, List.length_take]; rfl)) ?_; (with_reducible refine (cmp_isNaN_string.calls a1 false _ A4.out).mono ?_); rintro e w' ⟨rfl, ⟨nd, rfl⟩⟩; refine ⟨_, rfl, ?_⟩))
          go_ret
          exact ⟨by first | rfl | (simp; done) | (simp [*]; done), by repeat (first | exact Drawn0.refl _ | apply Drawn0.step)⟩
        · rw [if_neg c9] at H
          have c9b0 : (Op.bytesLess a1.toList a0.toList) = false := by simpa using c9
          clear c9
          obtain rfl := Option.some.inj H
          go_enter Try.func108, Try.ntmps108
          go_wp2_with (first | ((with_reducible refine gate_callee (f := 110) rfl ?_); refine goesL_ (some 8) rfl rfl Try.func110 (by kernel_rfl) rfl #[.string a0] rfl (by (try simp only [List.map_toArray, List.map_cons, List.map_nil]); first | done | rfl | (simp only [List.length_drop, List.length_take]; rfl)) ?_; (with_reducible refine (cmp_isNaN_string.calls a0 false _ A3.out).mono ?_); rintro e w' ⟨rfl, ⟨nd, rfl⟩⟩; refine ⟨_, rfl, ?_⟩) | ((with_reducible refine gate_callee (f := 110) rfl ?_); refine goesL_ (some 10) rfl rfl Try.func110 (by kernel_rfl) rfl #[.string a1] rfl (by (try simp only [List.map_toArray, List.map_cons, List.map_nil]); first | done | rfl | (simp only [List.length_drop, List.length_take]; rfl)) ?_; (with_reducible refine (cmp_isNaN_string.calls a1 false _ A4.out).mono ?_); rintro e w' ⟨rfl, ⟨nd, rfl⟩⟩; refine ⟨_, rfl, ?_⟩))
          go_ret
          exact ⟨by first | rfl | (simp; done) | (simp [*]; done), by repeat (first | exact Drawn0.refl _ | apply Drawn0.step)⟩

/-! ### enc_Compare: function 101 -/
def enc_Compare.f (a0 : ByteArray) (a1 : ByteArray) : Option (Int) := (cmp_Compare_string.f a0 a1).bind fun t140 => (some t140)
set_option maxHeartbeats 8000000 in
set_option maxRecDepth 100000 in
theorem enc_Compare.calls (a0 : ByteArray) (a1 : ByteArray) (r : Int) (w : World) (h : enc_Compare.f a0 a1 = some r) :
    Calls Try.prog 101 #[.string a0, .string a1] w fun e w' => e = .returned (.int .i64 r) ∧ Drawn0 w w' := by
  have H : ((cmp_Compare_string.f a0 a1).bind fun t140 => (some t140)) = some r := h
  clear h
  replace H := Option.bind_eq_some_iff.mp H
  obtain ⟨t140, A30, H⟩ := H
  replace H : (some t140) = some r := H
  have A3 := Aside0.mk A30
  clear A30
  obtain rfl := Option.some.inj H
  go_enter Try.func101, Try.ntmps101
  go_wp2_with (first | ((with_reducible refine gate_callee (f := 108) rfl ?_); refine goesL_ (some 7) rfl rfl Try.func108 (by kernel_rfl) rfl #[.string a0, .string a1] rfl (by (try simp only [List.map_toArray, List.map_cons, List.map_nil]); first | done | rfl | (simp only [List.length_drop, List.length_take]; rfl)) ?_; (with_reducible refine (cmp_Compare_string.calls a0 a1 t140 _ A3.out).mono ?_); rintro e w' ⟨rfl, ⟨nd, rfl⟩⟩; refine ⟨_, rfl, ?_⟩))
  go_ret
  exact ⟨by first | rfl | (simp; done) | (simp [*]; done), by repeat (first | exact Drawn0.refl _ | apply Drawn0.step)⟩

end Go.Proofs.Ytalncokpbgbccaa.E
