-- A slim copy of Md, written by wip/tools/prune2.py.
import Derived.Test.YtalncokpbgbccaaKMc
/- Joined: NK, NM, NN. -/
/- Check: what the program says of a list of entries. -/
namespace Go.Proofs.Ytalncokpbgbccaa.E
set_option linter.unusedVariables false
set_option linter.unusedSimpArgs false
open Go.RowKit Go.Proofs.YtalncokpbgbccaaW.PrintWords Go.Proofs.YtalncokpbgbccaaW.PrintLast Go.Proofs.YtalncokpbgbccaaW.PrintMore

/-- may the key at place i not stand between these bounds -/
def outB (l : List S77) (level : Int) (low high : ByteArray) (i : Nat) : Bool :=
  (!(decide (level > 0) && decide (i = 0)) && (Op.bytesLess (l.getD i z77).f0.toList low.toList || (decide (level > 0) && (l.getD i z77).f0.toList == low.toList)))
  || (!high.toList.isEmpty && !Op.bytesLess (l.getD i z77).f0.toList high.toList)
def checkI (l : List S77) (level : Int) (low high : ByteArray) : Int := if fitsL l level = true then (if (List.range l.length).any (outB l level low high) = true then 2 else 0) else 2
theorem any_not (p : Nat → Bool) (n : Nat) (h : ∀ j, j < n → p j = false) : (List.range n).any p = false := by simpa using h
theorem any_is (p : Nat → Bool) (n k : Nat) (hk : k < n) (h : p k = true) : (List.range n).any p = true := by
  rw [List.any_eq_true]; exact ⟨k, by simpa using hk, h⟩
set_option maxRecDepth 100000 in
set_option maxHeartbeats 4000000 in
theorem check_no (l : List S77) (A : Option Addr) (c : Nat) (level : Int) (low high : ByteArray) (w : World) (hr : Kd.C k77 w A l.length l) (hf : Fine l) (hv : fitsL l level = false) :
    Calls Try.prog 22 #[.slice A l.length c, .int .i64 level, .string low, .string high] w fun e w' => e = .returned (.int .i64 2) ∧ Below w.heap.size w w' := by
  have HV := fits_c l A c level w hr hf
  rw [hv] at HV
  have HVA := Aside0.mk HV
  clear HV hv hr hf
  go_enter Try.func22, Try.ntmps22
  go_wp2_with (first | (go_at_call 61; refine HVA.out.mono ?_; rintro e w2 ⟨rfl, hb⟩; have HB := Aside0.mk hb; clear hb))
  go_ret
  exact ⟨rfl, HB.out⟩
set_option maxRecDepth 100000 in
set_option maxHeartbeats 4000000 in
theorem check_l (l : List S77) (A : Option Addr) (c : Nat) (level : Int) (low high : ByteArray) (w : World) (hr : Kd.C k77 w A l.length l) (hf : Fine l) (hlen : l.length ≤ 1000000) (hv : fitsL l level = true) (hp : ¬ level > 0) :
    Calls Try.prog 22 #[.slice A l.length c, .int .i64 level, .string low, .string high] w fun e w' => e = .returned (.int .i64 (if (List.range l.length).any (outB l level low high) = true then 2 else 0)) ∧ Below w.heap.size w w' := by
  have HV := fits_c l A c level w hr hf
  rw [hv] at HV
  have HVA := Aside0.mk HV
  have HR := Aside0.mk hr
  clear HV hv hr hf
  have k1 : decide (level > 0) = false := decide_eq_false hp
  have k1' : decide (0 < level) = false := decide_eq_false hp
  clear hp
  obtain ⟨R, hR⟩ : ∃ R : Int, (if (List.range l.length).any (outB l level low high) = true then (2 : Int) else 0) = R := ⟨_, rfl⟩
  have HRES := Aside0.mk hR
  rw [hR]
  clear hR
  go_enter Try.func22, Try.ntmps22
  go_wp2_with (first | (go_at_call 61; refine HVA.out.mono ?_; rintro e w2 ⟨rfl, hb⟩; have HB := Aside0.mk hb; clear hb))
  go_loopw [18] (fun i wr => ∃ (k : Nat), k ≤ l.length ∧ i = .int .i64 k ∧ Aside0 (∀ j, j < k → outB l level low high j = false) ∧ Aside0 (Below w.heap.size w wr)) (fun i _ => l.length - (intOf i).toNat)
  case atStart => exact ⟨0, Nat.zero_le _, rfl, ⟨fun j hj => by omega⟩, HB⟩
  case round =>
    obtain ⟨k, hk, rfl, HO, HBr⟩ := hrel
    by_cases hlt : k < l.length
    · obtain ⟨ad, rfl, hel⟩ := elem_at (Kd.C_below HR.out HBr.out) k hlt
      have HEL := Aside0.mk hel
      have hkw : wrap64 ((k : Int) + 1) = (k : Int) + 1 := w64 _ (by omega) (by omega)
      clear hel
      have HVAL := Aside0.mk (show outB l level low high k = ((!(decide (level > 0) && decide (k = 0)) && (Op.bytesLess (l.getD k z77).f0.toList low.toList || (decide (level > 0) && (l.getD k z77).f0.toList == low.toList)))
  || (!high.toList.isEmpty && !Op.bytesLess (l.getD k z77).f0.toList high.toList)) from rfl)
      obtain ⟨x, hx⟩ : ∃ x, l.getD k z77 = x := ⟨_, rfl⟩
      rw [hx] at HEL
      rw [hx, k1] at HVAL
      clear hx
      have HNEXT := Aside0.mk (show outB l level low high k = false → ∀ j, j < k + 1 → outB l level low high j = false from fun hv j hj => by
        by_cases h : j = k
        · subst h; exact hv
        · exact HO.out j (by omega))
      cases hLs : Op.bytesLess x.f0.toList low.toList
      · cases hh : high.toList.isEmpty
        · cases hH : Op.bytesLess x.f0.toList high.toList
          · have HV := Aside0.mk (show outB l level low high k = true by rw [HVAL.out]; simp [*])
            clear HVAL
            go_wp2_with (first
              | ((with_reducible refine gate_dst (N := 22) rfl ?_); refine wpList_load_el rfl (.tmp 21) rfl _ rfl x HEL.out ?_)
              | ((with_reducible refine gate_op (p := .store 77 (.tmp 10) (.tmp 22)) rfl ?_); refine wpList_store_new rfl (.tmp 10) (.tmp 22) rfl x rfl rfl rfl ?_; intro W2 hg2 hb2; have HD2 := (show Hd w wr.heap.size (entC x) W2 from ⟨hg2, HBr.out.trans (hb2.mono HBr.out.size)⟩); have c0 := hd_key HD2; clear hg2 hb2))
            repeat (go_quiet (fail); try go_wp2)
            go_ret
            refine ⟨?_, by first | exact HD2.2 | exact below_drew1 HD2.2 | exact pw_below_drewN HD2.2 _⟩
            rw [show R = 2 from by rw [← HRES.out, any_is _ _ k hlt HV.out]; rfl] <;> rfl
          · have HV := Aside0.mk (show outB l level low high k = false by rw [HVAL.out]; simp [*])
            clear HVAL
            go_wp2_with (first
              | ((with_reducible refine gate_dst (N := 22) rfl ?_); refine wpList_load_el rfl (.tmp 21) rfl _ rfl x HEL.out ?_)
              | ((with_reducible refine gate_op (p := .store 77 (.tmp 10) (.tmp 22)) rfl ?_); refine wpList_store_new rfl (.tmp 10) (.tmp 22) rfl x rfl rfl rfl ?_; intro W2 hg2 hb2; have HD2 := (show Hd w wr.heap.size (entC x) W2 from ⟨hg2, HBr.out.trans (hb2.mono HBr.out.size)⟩); have c0 := hd_key HD2; clear hg2 hb2))
            repeat (go_quiet (fail); try go_wp2)
            go_roundw
            case rel => exact ⟨k + 1, by omega, by simp, ⟨HNEXT.out HV.out⟩, ⟨by first | exact HD2.2 | exact below_drew1 HD2.2 | exact pw_below_drewN HD2.2 _⟩⟩
            case measure => simp [intOf]; omega
        · have HV := Aside0.mk (show outB l level low high k = false by rw [HVAL.out]; simp [*])
          clear HVAL
          go_wp2_with (first
            | ((with_reducible refine gate_dst (N := 22) rfl ?_); refine wpList_load_el rfl (.tmp 21) rfl _ rfl x HEL.out ?_)
            | ((with_reducible refine gate_op (p := .store 77 (.tmp 10) (.tmp 22)) rfl ?_); refine wpList_store_new rfl (.tmp 10) (.tmp 22) rfl x rfl rfl rfl ?_; intro W2 hg2 hb2; have HD2 := (show Hd w wr.heap.size (entC x) W2 from ⟨hg2, HBr.out.trans (hb2.mono HBr.out.size)⟩); have c0 := hd_key HD2; clear hg2 hb2))
          repeat (go_quiet (fail); try go_wp2)
          go_roundw
          case rel => exact ⟨k + 1, by omega, by simp, ⟨HNEXT.out HV.out⟩, ⟨by first | exact HD2.2 | exact below_drew1 HD2.2 | exact pw_below_drewN HD2.2 _⟩⟩
          case measure => simp [intOf]; omega
      · have HV := Aside0.mk (show outB l level low high k = true by rw [HVAL.out]; simp [*])
        clear HVAL
        go_wp2_with (first
          | ((with_reducible refine gate_dst (N := 22) rfl ?_); refine wpList_load_el rfl (.tmp 21) rfl _ rfl x HEL.out ?_)
          | ((with_reducible refine gate_op (p := .store 77 (.tmp 10) (.tmp 22)) rfl ?_); refine wpList_store_new rfl (.tmp 10) (.tmp 22) rfl x rfl rfl rfl ?_; intro W2 hg2 hb2; have HD2 := (show Hd w wr.heap.size (entC x) W2 from ⟨hg2, HBr.out.trans (hb2.mono HBr.out.size)⟩); have c0 := hd_key HD2; clear hg2 hb2))
        repeat (go_quiet (fail); try go_wp2)
        go_ret
        refine ⟨?_, by first | exact HD2.2 | exact below_drew1 HD2.2 | exact pw_below_drewN HD2.2 _⟩
        rw [show R = 2 from by rw [← HRES.out, any_is _ _ k hlt HV.out]; rfl] <;> rfl
    · obtain rfl : k = l.length := by omega
      have hT : R = 0 := by rw [← HRES.out, any_not _ _ HO.out]; rfl
      have HTT := Aside0.mk hT
      clear hT
      go_wp2
      go_ret
      refine ⟨?_, HBr.out⟩
      rw [HTT.out] <;> rfl
set_option maxRecDepth 100000 in
set_option maxHeartbeats 4000000 in
theorem check_b (l : List S77) (A : Option Addr) (c : Nat) (level : Int) (low high : ByteArray) (w : World) (hr : Kd.C k77 w A l.length l) (hf : Fine l) (hlen : l.length ≤ 1000000) (hv : fitsL l level = true) (hp : level > 0) :
    Calls Try.prog 22 #[.slice A l.length c, .int .i64 level, .string low, .string high] w fun e w' => e = .returned (.int .i64 (if (List.range l.length).any (outB l level low high) = true then 2 else 0)) ∧ Below w.heap.size w w' := by
  have HV := fits_c l A c level w hr hf
  rw [hv] at HV
  have HVA := Aside0.mk HV
  have HR := Aside0.mk hr
  clear HV hv hr hf
  have k1 : decide (level > 0) = true := decide_eq_true hp
  have k1' : decide (0 < level) = true := decide_eq_true hp
  clear hp
  obtain ⟨R, hR⟩ : ∃ R : Int, (if (List.range l.length).any (outB l level low high) = true then (2 : Int) else 0) = R := ⟨_, rfl⟩
  have HRES := Aside0.mk hR
  rw [hR]
  clear hR
  go_enter Try.func22, Try.ntmps22
  go_wp2_with (first | (go_at_call 61; refine HVA.out.mono ?_; rintro e w2 ⟨rfl, hb⟩; have HB := Aside0.mk hb; clear hb))
  go_loopw [18] (fun i wr => ∃ (k : Nat), k ≤ l.length ∧ i = .int .i64 k ∧ Aside0 (∀ j, j < k → outB l level low high j = false) ∧ Aside0 (Below w.heap.size w wr)) (fun i _ => l.length - (intOf i).toNat)
  case atStart => exact ⟨0, Nat.zero_le _, rfl, ⟨fun j hj => by omega⟩, HB⟩
  case round =>
    obtain ⟨k, hk, rfl, HO, HBr⟩ := hrel
    by_cases hlt : k < l.length
    · obtain ⟨ad, rfl, hel⟩ := elem_at (Kd.C_below HR.out HBr.out) k hlt
      have HEL := Aside0.mk hel
      have hkw : wrap64 ((k : Int) + 1) = (k : Int) + 1 := w64 _ (by omega) (by omega)
      clear hel
      have HVAL := Aside0.mk (show outB l level low high k = ((!(decide (level > 0) && decide (k = 0)) && (Op.bytesLess (l.getD k z77).f0.toList low.toList || (decide (level > 0) && (l.getD k z77).f0.toList == low.toList)))
  || (!high.toList.isEmpty && !Op.bytesLess (l.getD k z77).f0.toList high.toList)) from rfl)
      obtain ⟨x, hx⟩ : ∃ x, l.getD k z77 = x := ⟨_, rfl⟩
      rw [hx] at HEL
      rw [hx, k1] at HVAL
      clear hx
      have HNEXT := Aside0.mk (show outB l level low high k = false → ∀ j, j < k + 1 → outB l level low high j = false from fun hv j hj => by
        by_cases h : j = k
        · subst h; exact hv
        · exact HO.out j (by omega))
      by_cases hK : k = 0
      · have q2 : ((k : Int) == 0) = true := beq_iff_eq.mpr (by omega)
        have q6 : decide (k = 0) = true := decide_eq_true hK
        clear hK
        rw [q6] at HVAL
        clear q6
        cases hh : high.toList.isEmpty
        · cases hH : Op.bytesLess x.f0.toList high.toList
          · have HV := Aside0.mk (show outB l level low high k = true by rw [HVAL.out]; simp [*])
            clear HVAL
            go_wp2_with (first
              | ((with_reducible refine gate_dst (N := 22) rfl ?_); refine wpList_load_el rfl (.tmp 21) rfl _ rfl x HEL.out ?_)
              | ((with_reducible refine gate_op (p := .store 77 (.tmp 10) (.tmp 22)) rfl ?_); refine wpList_store_new rfl (.tmp 10) (.tmp 22) rfl x rfl rfl rfl ?_; intro W2 hg2 hb2; have HD2 := (show Hd w wr.heap.size (entC x) W2 from ⟨hg2, HBr.out.trans (hb2.mono HBr.out.size)⟩); have c0 := hd_key HD2; clear hg2 hb2))
            repeat (go_quiet (fail); try go_wp2)
            go_ret
            refine ⟨?_, by first | exact HD2.2 | exact below_drew1 HD2.2 | exact pw_below_drewN HD2.2 _⟩
            rw [show R = 2 from by rw [← HRES.out, any_is _ _ k hlt HV.out]; rfl] <;> rfl
          · have HV := Aside0.mk (show outB l level low high k = false by rw [HVAL.out]; simp [*])
            clear HVAL
            go_wp2_with (first
              | ((with_reducible refine gate_dst (N := 22) rfl ?_); refine wpList_load_el rfl (.tmp 21) rfl _ rfl x HEL.out ?_)
              | ((with_reducible refine gate_op (p := .store 77 (.tmp 10) (.tmp 22)) rfl ?_); refine wpList_store_new rfl (.tmp 10) (.tmp 22) rfl x rfl rfl rfl ?_; intro W2 hg2 hb2; have HD2 := (show Hd w wr.heap.size (entC x) W2 from ⟨hg2, HBr.out.trans (hb2.mono HBr.out.size)⟩); have c0 := hd_key HD2; clear hg2 hb2))
            repeat (go_quiet (fail); try go_wp2)
            go_roundw
            case rel => exact ⟨k + 1, by omega, by simp, ⟨HNEXT.out HV.out⟩, ⟨by first | exact HD2.2 | exact below_drew1 HD2.2 | exact pw_below_drewN HD2.2 _⟩⟩
            case measure => simp [intOf]; omega
        · have HV := Aside0.mk (show outB l level low high k = false by rw [HVAL.out]; simp [*])
          clear HVAL
          go_wp2_with (first
            | ((with_reducible refine gate_dst (N := 22) rfl ?_); refine wpList_load_el rfl (.tmp 21) rfl _ rfl x HEL.out ?_)
            | ((with_reducible refine gate_op (p := .store 77 (.tmp 10) (.tmp 22)) rfl ?_); refine wpList_store_new rfl (.tmp 10) (.tmp 22) rfl x rfl rfl rfl ?_; intro W2 hg2 hb2; have HD2 := (show Hd w wr.heap.size (entC x) W2 from ⟨hg2, HBr.out.trans (hb2.mono HBr.out.size)⟩); have c0 := hd_key HD2; clear hg2 hb2))
          repeat (go_quiet (fail); try go_wp2)
          go_roundw
          case rel => exact ⟨k + 1, by omega, by simp, ⟨HNEXT.out HV.out⟩, ⟨by first | exact HD2.2 | exact below_drew1 HD2.2 | exact pw_below_drewN HD2.2 _⟩⟩
          case measure => simp [intOf]; omega
      · have q2 : ((k : Int) == 0) = false := beq_eq_false_iff_ne.mpr (by omega)
        have q6 : decide (k = 0) = false := decide_eq_false hK
        clear hK
        rw [q6] at HVAL
        clear q6
        cases hLs : Op.bytesLess x.f0.toList low.toList
        · cases hE : (x.f0.toList == low.toList)
          · cases hh : high.toList.isEmpty
            · cases hH : Op.bytesLess x.f0.toList high.toList
              · have HV := Aside0.mk (show outB l level low high k = true by rw [HVAL.out]; simp [*])
                clear HVAL
                go_wp2_with (first
                  | ((with_reducible refine gate_dst (N := 22) rfl ?_); refine wpList_load_el rfl (.tmp 21) rfl _ rfl x HEL.out ?_)
                  | ((with_reducible refine gate_op (p := .store 77 (.tmp 10) (.tmp 22)) rfl ?_); refine wpList_store_new rfl (.tmp 10) (.tmp 22) rfl x rfl rfl rfl ?_; intro W2 hg2 hb2; have HD2 := (show Hd w wr.heap.size (entC x) W2 from ⟨hg2, HBr.out.trans (hb2.mono HBr.out.size)⟩); have c0 := hd_key HD2; clear hg2 hb2))
                repeat (go_quiet (fail); try go_wp2)
                go_ret
                refine ⟨?_, by first | exact HD2.2 | exact below_drew1 HD2.2 | exact pw_below_drewN HD2.2 _⟩
                rw [show R = 2 from by rw [← HRES.out, any_is _ _ k hlt HV.out]; rfl] <;> rfl
              · have HV := Aside0.mk (show outB l level low high k = false by rw [HVAL.out]; simp [*])
                clear HVAL
                go_wp2_with (first
                  | ((with_reducible refine gate_dst (N := 22) rfl ?_); refine wpList_load_el rfl (.tmp 21) rfl _ rfl x HEL.out ?_)
                  | ((with_reducible refine gate_op (p := .store 77 (.tmp 10) (.tmp 22)) rfl ?_); refine wpList_store_new rfl (.tmp 10) (.tmp 22) rfl x rfl rfl rfl ?_; intro W2 hg2 hb2; have HD2 := (show Hd w wr.heap.size (entC x) W2 from ⟨hg2, HBr.out.trans (hb2.mono HBr.out.size)⟩); have c0 := hd_key HD2; clear hg2 hb2))
                repeat (go_quiet (fail); try go_wp2)
                go_roundw
                case rel => exact ⟨k + 1, by omega, by simp, ⟨HNEXT.out HV.out⟩, ⟨by first | exact HD2.2 | exact below_drew1 HD2.2 | exact pw_below_drewN HD2.2 _⟩⟩
                case measure => simp [intOf]; omega
            · have HV := Aside0.mk (show outB l level low high k = false by rw [HVAL.out]; simp [*])
              clear HVAL
              go_wp2_with (first
                | ((with_reducible refine gate_dst (N := 22) rfl ?_); refine wpList_load_el rfl (.tmp 21) rfl _ rfl x HEL.out ?_)
                | ((with_reducible refine gate_op (p := .store 77 (.tmp 10) (.tmp 22)) rfl ?_); refine wpList_store_new rfl (.tmp 10) (.tmp 22) rfl x rfl rfl rfl ?_; intro W2 hg2 hb2; have HD2 := (show Hd w wr.heap.size (entC x) W2 from ⟨hg2, HBr.out.trans (hb2.mono HBr.out.size)⟩); have c0 := hd_key HD2; clear hg2 hb2))
              repeat (go_quiet (fail); try go_wp2)
              go_roundw
              case rel => exact ⟨k + 1, by omega, by simp, ⟨HNEXT.out HV.out⟩, ⟨by first | exact HD2.2 | exact below_drew1 HD2.2 | exact pw_below_drewN HD2.2 _⟩⟩
              case measure => simp [intOf]; omega
          · have HV := Aside0.mk (show outB l level low high k = true by rw [HVAL.out]; simp [*])
            clear HVAL
            go_wp2_with (first
              | ((with_reducible refine gate_dst (N := 22) rfl ?_); refine wpList_load_el rfl (.tmp 21) rfl _ rfl x HEL.out ?_)
              | ((with_reducible refine gate_op (p := .store 77 (.tmp 10) (.tmp 22)) rfl ?_); refine wpList_store_new rfl (.tmp 10) (.tmp 22) rfl x rfl rfl rfl ?_; intro W2 hg2 hb2; have HD2 := (show Hd w wr.heap.size (entC x) W2 from ⟨hg2, HBr.out.trans (hb2.mono HBr.out.size)⟩); have c0 := hd_key HD2; clear hg2 hb2))
            repeat (go_quiet (fail); try go_wp2)
            go_ret
            refine ⟨?_, by first | exact HD2.2 | exact below_drew1 HD2.2 | exact pw_below_drewN HD2.2 _⟩
            rw [show R = 2 from by rw [← HRES.out, any_is _ _ k hlt HV.out]; rfl] <;> rfl
        · have HV := Aside0.mk (show outB l level low high k = true by rw [HVAL.out]; simp [*])
          clear HVAL
          go_wp2_with (first
            | ((with_reducible refine gate_dst (N := 22) rfl ?_); refine wpList_load_el rfl (.tmp 21) rfl _ rfl x HEL.out ?_)
            | ((with_reducible refine gate_op (p := .store 77 (.tmp 10) (.tmp 22)) rfl ?_); refine wpList_store_new rfl (.tmp 10) (.tmp 22) rfl x rfl rfl rfl ?_; intro W2 hg2 hb2; have HD2 := (show Hd w wr.heap.size (entC x) W2 from ⟨hg2, HBr.out.trans (hb2.mono HBr.out.size)⟩); have c0 := hd_key HD2; clear hg2 hb2))
          repeat (go_quiet (fail); try go_wp2)
          go_ret
          refine ⟨?_, by first | exact HD2.2 | exact below_drew1 HD2.2 | exact pw_below_drewN HD2.2 _⟩
          rw [show R = 2 from by rw [← HRES.out, any_is _ _ k hlt HV.out]; rfl] <;> rfl
    · obtain rfl : k = l.length := by omega
      have hT : R = 0 := by rw [← HRES.out, any_not _ _ HO.out]; rfl
      have HTT := Aside0.mk hT
      clear hT
      go_wp2
      go_ret
      refine ⟨?_, HBr.out⟩
      rw [HTT.out] <;> rfl
theorem check_c (l : List S77) (A : Option Addr) (c : Nat) (level : Int) (low high : ByteArray) (w : World) (hr : Kd.C k77 w A l.length l) (hf : Fine l) :
    Calls Try.prog 22 #[.slice A l.length c, .int .i64 level, .string low, .string high] w fun e w' => e = .returned (.int .i64 (checkI l level low high)) ∧ Below w.heap.size w w' := by
  unfold checkI
  cases hv : fitsL l level with
  | false => exact check_no l A c level low high w hr hf hv
  | true =>
    by_cases hp : level > 0
    · exact check_b l A c level low high w hr hf hf.1 hv hp
    · exact check_l l A c level low high w hr hf hf.1 hv hp
end Go.Proofs.Ytalncokpbgbccaa.E

/- Search, Child: what the program says of a list of entries. -/
namespace Go.Proofs.Ytalncokpbgbccaa.E
set_option linter.unusedVariables false
set_option linter.unusedSimpArgs false
open Go.RowKit Go.Proofs.YtalncokpbgbccaaW.PrintWords Go.Proofs.YtalncokpbgbccaaW.PrintLast Go.Proofs.YtalncokpbgbccaaW.PrintMore

/-- the place that halving finds -/
def bsF (p : Nat → Bool) : Nat → Nat → Nat → Nat
  | 0, a, _ => a
  | k + 1, a, b => if a < b then (if p ((a + b) / 2) = true then bsF p k a ((a + b) / 2) else bsF p k ((a + b) / 2 + 1) b) else a
theorem bsF_le (p : Nat → Bool) : ∀ k a b, a ≤ b → bsF p k a b ≤ b
  | 0, a, b, h => h
  | k + 1, a, b, h => by
    rw [bsF]
    split
    · split
      · have := bsF_le p k a ((a + b) / 2) (by omega); omega
      · exact bsF_le p k ((a + b) / 2 + 1) b (by omega)
    · exact h
def q64 (l : List S77) (key : ByteArray) (i : Nat) : Bool := !Op.bytesLess (l.getD i z77).f0.toList key.toList
def q65 (l : List S77) (key : ByteArray) (i : Nat) : Bool := Op.bytesLess key.toList (l.getD i z77).f0.toList
set_option maxRecDepth 100000 in
set_option maxHeartbeats 4000000 in
theorem lit64 (x : S77) (cs : Array Value) (hcs : cs = entC x) (g0 : Nat) (key : ByteArray) (w : World) (hg0 : w.cell? ⟨g0, 0, none⟩ = some (.string key)) (hgs : g0 < w.heap.size) :
    Calls Try.prog 64 #[.agg cs, .pointer (some ⟨g0, 0, none⟩)] w fun e w' => e = .returned (.bool (!Op.bytesLess x.f0.toList key.toList)) ∧ Below w.heap.size w w' := by
  have HE0 := Aside0.mk (show cs[0]? = some (.string x.f0) by rw [hcs]; rfl)
  clear hcs
  go_enter Try.func64, Try.ntmps64
  go_wp2_with (first
    | ((with_reducible refine gate_dst (N := 2) rfl ?_); refine box_event (hgd := rfl) (N := 2) rfl (cs := cs) (t := 77) (by go_simp) ?_; intro g hg_ w1 HG hb; have HB1 := Aside0.mk hb; have c0 := cell_of_box HG HE0.out; have c1 := (hb.cell (p := ⟨g0, 0, none⟩) hgs).trans hg0; clear HG hb hg_))
  go_ret
  exact ⟨rfl, HB1.out⟩
set_option maxRecDepth 100000 in
set_option maxHeartbeats 4000000 in
theorem first64 (l : List S77) (A : Option Addr) (c : Nat) (g0 : Nat) (key : ByteArray) (w : World) (hr : Kd.C k77 w A l.length l) (hlen : l.length ≤ 1000000) (hg0 : w.cell? ⟨g0, 0, none⟩ = some (.string key)) (hgs : g0 < w.heap.size) :
    Calls Try.prog 63 #[.slice A l.length c, .func (Fn.func 64) #[] #[.pointer (some ⟨g0, 0, none⟩)]] w fun e w' => e = .returned (.int .i64 ((bsF (q64 l key) l.length 0 l.length : Nat) : Int)) ∧ Below w.heap.size w w' := by
  have HR := Aside0.mk hr
  have HL := Aside0.mk (fun (x : S77) (W : World) (hb : Below w.heap.size w W) => lit64 x _ rfl g0 key W ((hb.cell (p := ⟨g0, 0, none⟩) hgs).trans hg0) (Nat.lt_of_lt_of_le hgs hb.size))
  clear hr hg0 hgs
  have HB := Aside0.mk (Below.refl w.heap.size w)
  obtain ⟨T, hT⟩ : ∃ T, bsF (q64 l key) l.length 0 l.length = T := ⟨_, rfl⟩
  have HT := Aside0.mk hT
  rw [hT]
  clear hT
  go_enter Try.func63, Try.ntmps63
  go_wp2_with fail
  go_loopw [5, 6] (fun lo hi wr => ∃ (a b : Nat), a ≤ b ∧ b ≤ l.length ∧ lo = .int .i64 a ∧ hi = .int .i64 b ∧ Aside0 (∃ k, b - a ≤ k ∧ bsF (q64 l key) k a b = T) ∧ Aside0 (Below w.heap.size w wr)) (fun lo hi _ => (intOf hi).toNat - (intOf lo).toNat)
  case atStart => exact ⟨0, l.length, Nat.zero_le _, Nat.le_refl _, rfl, rfl, ⟨l.length, by omega, HT.out⟩, HB⟩
  case round =>
    obtain ⟨a, b, hab, hb, rfl, rfl, HK, HBr⟩ := hrel
    by_cases hlt : a < b
    · have hs : wrap64 ((a : Int) + b) = (a : Int) + b := w64 _ (by omega) (by omega)
      have hs1 : wrap64 (((a : Int) + b) / 2 + 1) = ((a : Int) + b) / 2 + 1 := w64 _ (by omega) (by omega)
      have hi : (a + b) / 2 < l.length := by omega
      have hi2 : ((a : Int) + b) / 2 < (l.length : Int) := by omega
      have hi3 : 0 ≤ ((a : Int) + b) / 2 := by omega
      obtain ⟨ad, rfl, hel⟩ := elem_at (Kd.C_below HR.out HBr.out) ((a + b) / 2) hi
      have HEL := Aside0.mk hel
      clear hel
      have HSTEP := Aside0.mk (show ∃ k, (b - a ≤ k + 1) ∧ (if q64 l key ((a + b) / 2) = true then bsF (q64 l key) k a ((a + b) / 2) else bsF (q64 l key) k ((a + b) / 2 + 1) b) = T by
        obtain ⟨k, h1, h2⟩ := HK.out
        cases k with
        | zero => omega
        | succ k => rw [bsF, if_pos hlt] at h2; exact ⟨k, by omega, h2⟩)
      obtain ⟨v, hv⟩ : ∃ v, q64 l key ((a + b) / 2) = v := ⟨_, rfl⟩
      have HLX := HL.out (l.getD ((a + b) / 2) z77) wr HBr.out
      have hv2 := hv
      unfold q64 at hv2
      rw [hv2] at HLX
      rw [hv] at HSTEP
      generalize l.getD ((a + b) / 2) z77 = x at HEL HLX
      have HLA := Aside0.mk HLX
      clear HLX hv hv2
      cases v
      · go_wp2_with (first
          | ((with_reducible refine gate_dst (N := 21) rfl ?_); refine wpList_load_el rfl (.tmp 20) rfl _ rfl x HEL.out ?_)
          | (go_at_call 64; refine HLA.out.mono ?_; rintro e w3 ⟨rfl, hb⟩; have HB3 := Aside0.mk (HBr.out.trans (hb.mono HBr.out.size)); clear hb))
        go_roundw
        case rel => exact ⟨(a + b) / 2 + 1, b, by omega, hb, by simp, rfl, ⟨by obtain ⟨k, h1, h2⟩ := HSTEP.out; exact ⟨k, by omega, h2⟩⟩, HB3⟩
        case measure => simp [intOf]; omega
      · go_wp2_with (first
          | ((with_reducible refine gate_dst (N := 21) rfl ?_); refine wpList_load_el rfl (.tmp 20) rfl _ rfl x HEL.out ?_)
          | (go_at_call 64; refine HLA.out.mono ?_; rintro e w3 ⟨rfl, hb⟩; have HB3 := Aside0.mk (HBr.out.trans (hb.mono HBr.out.size)); clear hb))
        go_roundw
        case rel => exact ⟨a, (a + b) / 2, by omega, by omega, rfl, by simp, ⟨by obtain ⟨k, h1, h2⟩ := HSTEP.out; exact ⟨k, by omega, h2⟩⟩, HB3⟩
        case measure => simp [intOf]; omega
    · obtain rfl : a = b := by omega
      have HTT := Aside0.mk (show T = a by obtain ⟨k, h1, h2⟩ := HK.out; cases k <;> simp [bsF] at h2 <;> exact h2.symm)
      go_wp2
      go_ret
      exact ⟨by rw [HTT.out]; rfl, HBr.out⟩
set_option maxRecDepth 100000 in
set_option maxHeartbeats 4000000 in
theorem lit65 (x : S77) (cs : Array Value) (hcs : cs = entC x) (g0 : Nat) (key : ByteArray) (w : World) (hg0 : w.cell? ⟨g0, 0, none⟩ = some (.string key)) (hgs : g0 < w.heap.size) :
    Calls Try.prog 65 #[.agg cs, .pointer (some ⟨g0, 0, none⟩)] w fun e w' => e = .returned (.bool (Op.bytesLess key.toList x.f0.toList)) ∧ Below w.heap.size w w' := by
  have HE0 := Aside0.mk (show cs[0]? = some (.string x.f0) by rw [hcs]; rfl)
  clear hcs
  go_enter Try.func65, Try.ntmps65
  go_wp2_with (first
    | ((with_reducible refine gate_dst (N := 2) rfl ?_); refine box_event (hgd := rfl) (N := 2) rfl (cs := cs) (t := 77) (by go_simp) ?_; intro g hg_ w1 HG hb; have HB1 := Aside0.mk hb; have c0 := cell_of_box HG HE0.out; have c1 := (hb.cell (p := ⟨g0, 0, none⟩) hgs).trans hg0; clear HG hb hg_))
  go_ret
  exact ⟨rfl, HB1.out⟩
set_option maxRecDepth 100000 in
set_option maxHeartbeats 4000000 in
theorem first65 (l : List S77) (A : Option Addr) (c : Nat) (g0 : Nat) (key : ByteArray) (w : World) (hr : Kd.C k77 w A l.length l) (hlen : l.length ≤ 1000000) (hg0 : w.cell? ⟨g0, 0, none⟩ = some (.string key)) (hgs : g0 < w.heap.size) :
    Calls Try.prog 63 #[.slice A l.length c, .func (Fn.func 65) #[] #[.pointer (some ⟨g0, 0, none⟩)]] w fun e w' => e = .returned (.int .i64 ((bsF (q65 l key) l.length 0 l.length : Nat) : Int)) ∧ Below w.heap.size w w' := by
  have HR := Aside0.mk hr
  have HL := Aside0.mk (fun (x : S77) (W : World) (hb : Below w.heap.size w W) => lit65 x _ rfl g0 key W ((hb.cell (p := ⟨g0, 0, none⟩) hgs).trans hg0) (Nat.lt_of_lt_of_le hgs hb.size))
  clear hr hg0 hgs
  have HB := Aside0.mk (Below.refl w.heap.size w)
  obtain ⟨T, hT⟩ : ∃ T, bsF (q65 l key) l.length 0 l.length = T := ⟨_, rfl⟩
  have HT := Aside0.mk hT
  rw [hT]
  clear hT
  go_enter Try.func63, Try.ntmps63
  go_wp2_with fail
  go_loopw [5, 6] (fun lo hi wr => ∃ (a b : Nat), a ≤ b ∧ b ≤ l.length ∧ lo = .int .i64 a ∧ hi = .int .i64 b ∧ Aside0 (∃ k, b - a ≤ k ∧ bsF (q65 l key) k a b = T) ∧ Aside0 (Below w.heap.size w wr)) (fun lo hi _ => (intOf hi).toNat - (intOf lo).toNat)
  case atStart => exact ⟨0, l.length, Nat.zero_le _, Nat.le_refl _, rfl, rfl, ⟨l.length, by omega, HT.out⟩, HB⟩
  case round =>
    obtain ⟨a, b, hab, hb, rfl, rfl, HK, HBr⟩ := hrel
    by_cases hlt : a < b
    · have hs : wrap64 ((a : Int) + b) = (a : Int) + b := w64 _ (by omega) (by omega)
      have hs1 : wrap64 (((a : Int) + b) / 2 + 1) = ((a : Int) + b) / 2 + 1 := w64 _ (by omega) (by omega)
      have hi : (a + b) / 2 < l.length := by omega
      have hi2 : ((a : Int) + b) / 2 < (l.length : Int) := by omega
      have hi3 : 0 ≤ ((a : Int) + b) / 2 := by omega
      obtain ⟨ad, rfl, hel⟩ := elem_at (Kd.C_below HR.out HBr.out) ((a + b) / 2) hi
      have HEL := Aside0.mk hel
      clear hel
      have HSTEP := Aside0.mk (show ∃ k, (b - a ≤ k + 1) ∧ (if q65 l key ((a + b) / 2) = true then bsF (q65 l key) k a ((a + b) / 2) else bsF (q65 l key) k ((a + b) / 2 + 1) b) = T by
        obtain ⟨k, h1, h2⟩ := HK.out
        cases k with
        | zero => omega
        | succ k => rw [bsF, if_pos hlt] at h2; exact ⟨k, by omega, h2⟩)
      obtain ⟨v, hv⟩ : ∃ v, q65 l key ((a + b) / 2) = v := ⟨_, rfl⟩
      have HLX := HL.out (l.getD ((a + b) / 2) z77) wr HBr.out
      have hv2 := hv
      unfold q65 at hv2
      rw [hv2] at HLX
      rw [hv] at HSTEP
      generalize l.getD ((a + b) / 2) z77 = x at HEL HLX
      have HLA := Aside0.mk HLX
      clear HLX hv hv2
      cases v
      · go_wp2_with (first
          | ((with_reducible refine gate_dst (N := 21) rfl ?_); refine wpList_load_el rfl (.tmp 20) rfl _ rfl x HEL.out ?_)
          | (go_at_call 65; refine HLA.out.mono ?_; rintro e w3 ⟨rfl, hb⟩; have HB3 := Aside0.mk (HBr.out.trans (hb.mono HBr.out.size)); clear hb))
        go_roundw
        case rel => exact ⟨(a + b) / 2 + 1, b, by omega, hb, by simp, rfl, ⟨by obtain ⟨k, h1, h2⟩ := HSTEP.out; exact ⟨k, by omega, h2⟩⟩, HB3⟩
        case measure => simp [intOf]; omega
      · go_wp2_with (first
          | ((with_reducible refine gate_dst (N := 21) rfl ?_); refine wpList_load_el rfl (.tmp 20) rfl _ rfl x HEL.out ?_)
          | (go_at_call 65; refine HLA.out.mono ?_; rintro e w3 ⟨rfl, hb⟩; have HB3 := Aside0.mk (HBr.out.trans (hb.mono HBr.out.size)); clear hb))
        go_roundw
        case rel => exact ⟨a, (a + b) / 2, by omega, by omega, rfl, by simp, ⟨by obtain ⟨k, h1, h2⟩ := HSTEP.out; exact ⟨k, by omega, h2⟩⟩, HB3⟩
        case measure => simp [intOf]; omega
    · obtain rfl : a = b := by omega
      have HTT := Aside0.mk (show T = a by obtain ⟨k, h1, h2⟩ := HK.out; cases k <;> simp [bsF] at h2 <;> exact h2.symm)
      go_wp2
      go_ret
      exact ⟨by rw [HTT.out]; rfl, HBr.out⟩
end Go.Proofs.Ytalncokpbgbccaa.E

/- Search, Child: the functions themselves. -/
namespace Go.Proofs.Ytalncokpbgbccaa.E
set_option linter.unusedVariables false
set_option linter.unusedSimpArgs false
open Go.RowKit Go.Proofs.YtalncokpbgbccaaW.PrintWords Go.Proofs.YtalncokpbgbccaaW.PrintLast Go.Proofs.YtalncokpbgbccaaW.PrintMore

theorem C_take {W : World} {A : Option Addr} {n m : Nat} {xs : List S77} (h : Kd.C k77 W A n xs) (hm : m ≤ n) : Kd.C k77 W A m (xs.take m) := by
  refine ⟨by rw [List.length_take, h.1]; exact Nat.min_eq_left hm, by have := h.2.1; omega, fun h0 => ?_⟩
  obtain ⟨ad, e, hc⟩ := h.2.2 (by omega)
  refine ⟨ad, e, fun j p hp => hc j p ?_⟩
  rw [List.getElem?_take] at hp
  split at hp
  · exact hp
  · cases hp
theorem C_drop {W : World} {A : Option Addr} {n c k : Nat} {xs : List S77} (h : Kd.C k77 W A n xs) (hk : k ≤ n) (hc : n ≤ c) : Kd.C k77 W (if c = k then A else A.map (·.add (k * 22))) (n - k) (xs.drop k) := by
  refine ⟨by rw [List.length_drop, h.1], by have := h.2.1; omega, fun h0 => ?_⟩
  obtain ⟨ad, e, hcell⟩ := h.2.2 (by omega)
  subst e
  rw [if_neg (by omega)]
  refine ⟨_, rfl, fun j p hp => ?_⟩
  rw [List.getElem?_drop] at hp
  obtain ⟨cs, h1, h2, h3⟩ := hcell (k + j) p hp
  refine ⟨cs, h1, h2, fun i u hu => ?_⟩
  have := h3 i u hu
  rw [add_add]
  rw [show k * 22 + (j * k77.sz + i) = (k + j) * k77.sz + i by rw [show k77.sz = 22 from rfl]; omega]
  exact this
theorem info77' : ∃ i, Try.prog.info? 77 = some i ∧ i.size = 22 := by
  obtain ⟨i, hi, h⟩ := info_parts info77
  refine ⟨i, hi, ?_⟩
  exact h.2.1
/-- the place of a key, and is it there -/
def searchP (l : List S77) (key : ByteArray) : Nat := bsF (q64 l key) l.length 0 l.length
def searchB (l : List S77) (key : ByteArray) : Bool := decide (searchP l key < l.length) && ((l.getD (searchP l key) z77).f0.toList == key.toList)
theorem searchP_le (l : List S77) (key : ByteArray) : searchP l key ≤ l.length := bsF_le _ _ _ _ (Nat.zero_le _)
set_option maxRecDepth 100000 in
set_option maxHeartbeats 4000000 in
theorem search_c (l : List S77) (A : Option Addr) (c : Nat) (key : ByteArray) (w : World) (hr : Kd.C k77 w A l.length l) (hlen : l.length ≤ 1000000) :
    Calls Try.prog 25 #[.slice A l.length c, .string key] w fun e w' => e = .returned (.tuple #[.int .i64 (searchP l key), .bool (searchB l key)]) ∧ Below w.heap.size w w' := by
  have hk0 : (w.alloc (.cells #[.string key] 9)).cell? ⟨w.heap.size, 0, none⟩ = some (.string key) := by rw [cell_of_row _ _ _ _ _ _ (heap_alloc_new _ _)]; rfl
  have hb0 : Below w.heap.size w (w.alloc (.cells #[.string key] 9)) := below_alloc (Below.refl _ _) _
  have hs0 : w.heap.size < (w.alloc (.cells #[.string key] 9)).heap.size := by simp
  have HF := first64 l A c w.heap.size key (w.alloc (.cells #[.string key] 9)) (Kd.C_below hr hb0) hlen hk0 hs0
  have hle := searchP_le l key
  have HV := Aside0.mk (show searchB l key = (decide (searchP l key < l.length) && ((l.getD (searchP l key) z77).f0.toList == key.toList)) from rfl)
  unfold searchP at hle HV ⊢
  obtain ⟨m, hm⟩ : ∃ m, bsF (q64 l key) l.length 0 l.length = m := ⟨_, rfl⟩
  rw [hm] at HF hle HV ⊢
  clear hm
  have HFA := Aside0.mk HF
  have HK0 := Aside0.mk (fun (W : World) (hb : Below (w.alloc (.cells #[.string key] 9)).heap.size (w.alloc (.cells #[.string key] 9)) W) => (hb.cell (p := ⟨w.heap.size, 0, none⟩) hs0).trans hk0)
  have HB0 := Aside0.mk hb0
  clear HF hk0 hs0 hb0
  by_cases hlt : m < l.length
  · have q1 : decide ((m : Int) < l.length) = true := decide_eq_true (by omega)
    have q2 : (m : Int) < (l.length : Int) := by omega
    have q3 : 0 ≤ (m : Int) := by omega
    obtain ⟨ad, rfl, _⟩ := elem_at hr m hlt
    have HPK := Aside0.mk (fun (W : World) (hb : Below w.heap.size w W) => prev_key (Kd.C_below hr hb) m hlt)
    rw [decide_eq_true hlt] at HV
    obtain ⟨y, hy⟩ : ∃ y, l.getD m z77 = y := ⟨_, rfl⟩
    rw [hy] at HV HPK
    clear hy hr
    go_enter Try.func25, Try.ntmps25
    go_wp2_with (first | (go_at_call 63; refine HFA.out.mono ?_; rintro e w3 ⟨rfl, hb⟩; have HB := Aside0.mk (HB0.out.trans (hb.mono HB0.out.size)); have c0 := HK0.out w3 hb; have c1 := HPK.out w3 HB.out; clear hb))
    have HS := (⟨c0, c1⟩ : w3.cell? ⟨w.heap.size, 0, none⟩ = some (.string key) ∧ w3.cell? (ad.add (m * 22)) = some (.string y.f0))
    go_region_held3 (fun W => W.cell? ⟨w.heap.size, 0, none⟩ = some (.string key) ∧ W.cell? (ad.add (m * 22)) = some (.string y.f0)) (first | assumption | go_keep) (fail)
    go_wp2
    go_ret2
    exact ⟨by rw [HV.out]; rfl, by first | exact HB.out | exact below_drew1 HB.out | exact pw_below_drewN HB.out _⟩
  · have q1 : decide ((m : Int) < l.length) = false := decide_eq_false (by omega)
    have q2 : decide (m < l.length) = false := decide_eq_false hlt
    have q3 : (m < l.length) = False := eq_false hlt
    rw [decide_eq_false hlt] at HV
    clear hr hlt
    go_enter Try.func25, Try.ntmps25
    go_wp2_with (first | (go_at_call 63; refine HFA.out.mono ?_; rintro e w3 ⟨rfl, hb⟩; have HB := Aside0.mk (HB0.out.trans (hb.mono HB0.out.size)); have c0 := HK0.out w3 hb; clear hb))
    go_quiet (fail)
    go_wp2
    go_ret2
    exact ⟨by rw [HV.out]; rfl, by first | exact HB.out | exact below_drew1 HB.out | exact pw_below_drewN HB.out _⟩
/-- the child in which a key belongs -/
def childI (l : List S77) (key : ByteArray) : Int := if l.length = 0 then -1 else ((bsF (q65 (l.drop 1) key) (l.drop 1).length 0 (l.drop 1).length : Nat) : Int)
set_option maxRecDepth 100000 in
set_option maxHeartbeats 4000000 in
theorem child_c (l : List S77) (A : Option Addr) (c : Nat) (key : ByteArray) (w : World) (hr : Kd.C k77 w A l.length l) (hc : l.length ≤ c) (hlen : l.length ≤ 1000000) :
    Calls Try.prog 26 #[.slice A l.length c, .string key] w fun e w' => e = .returned (.int .i64 (childI l key)) ∧ Below w.heap.size w w' := by
  have hb0 : Below w.heap.size w (w.alloc (.cells #[.string key] 9)) := below_alloc (Below.refl _ _) _
  by_cases h0 : l.length = 0
  · have HV := Aside0.mk (show childI l key = -1 by simp [childI, h0])
    rw [h0]
    rw [HV.out]
    have HB0 := Aside0.mk hb0
    clear hr hc hb0 h0
    go_enter Try.func26, Try.ntmps26
    go_wp2
    go_ret
    exact ⟨rfl, HB0.out⟩
  · have HV := Aside0.mk (show childI l key = ((bsF (q65 (l.drop 1) key) (l.drop 1).length 0 (l.drop 1).length : Nat) : Int) by simp [childI, h0])
    rw [HV.out]
    have hk0 : (w.alloc (.cells #[.string key] 9)).cell? ⟨w.heap.size, 0, none⟩ = some (.string key) := by rw [cell_of_row _ _ _ _ _ _ (heap_alloc_new _ _)]; rfl
    have hs0 : w.heap.size < (w.alloc (.cells #[.string key] 9)).heap.size := by simp
    have hrd := C_drop (Kd.C_below hr hb0) (show 1 ≤ l.length by omega) hc
    have hdl : (l.drop 1).length = l.length - 1 := by simp
    rw [← hdl] at hrd
    have HF := first65 (l.drop 1) (if c = 1 then A else A.map (·.add (1 * 22))) (c - 1) w.heap.size key (w.alloc (.cells #[.string key] 9)) hrd (by omega) hk0 hs0
    obtain ⟨i77, hi77, hsz⟩ := info77'
    have hcut := cut_from (P := Try.prog) 22 77 .i64 Try.underlying22 hi77 22 hsz A l.length c 1 (by omega) (by omega)
    rw [show (1 : Int).toNat = 1 from rfl, ← hdl] at hcut
    generalize (if c = 1 then A else A.map (·.add (1 * 22))) = A2 at HF hcut
    generalize bsF (q65 (l.drop 1) key) (l.drop 1).length 0 (l.drop 1).length = m at HF ⊢
    generalize (l.drop 1).length = n2 at HF hcut
    have hne : ((l.length : Int) == 0) = false := beq_eq_false_iff_ne.mpr (by omega)
    have HFA := Aside0.mk HF
    have HB0 := Aside0.mk hb0
    clear HF hk0 hs0 hb0 hr hrd hdl hi77 hsz HV
    go_enter Try.func26, Try.ntmps26
    go_wp2_with (first | (go_at_call 63; refine HFA.out.mono ?_; rintro e w3 ⟨rfl, hb⟩; have HB := Aside0.mk (HB0.out.trans (hb.mono HB0.out.size)); clear hb))
    go_ret
    exact ⟨rfl, HB.out⟩
end Go.Proofs.Ytalncokpbgbccaa.E

