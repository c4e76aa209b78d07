-- A slim copy of SW, written by wip/tools/prune2.py.
import Derived.Test.YtalncokpbgbccaaUSP
/- NodeSeparates, walked and joined: whatever the entries, it returns true. -/
namespace Go.Proofs.Ytalncokpbgbccaa.E
set_option linter.unusedVariables false
set_option linter.unusedSimpArgs false
open Go.RowKit Go.Proofs.YtalncokpbgbccaaW.PrintWords Go.Proofs.YtalncokpbgbccaaW.PrintLast Go.Proofs.YtalncokpbgbccaaW.PrintMore
set_option maxRecDepth 100000 in
set_option maxHeartbeats 4000000 in
theorem separates_1 (l : List S77) (A : Option Addr) (c : Nat) (level : Int) (w : World) (HSANE : Aside0 (Say w 15 #[] (.bool true))) (HFEW : Aside0 (Ans1 w A l.length c false)) :
    Calls Try.prog 7 #[.slice A l.length c, .int .i64 level] w fun e w' => e = .returned (.bool true) ∧ Below w.heap.size w w' := by
  go_enter Try.func7, Try.ntmps7
  go_wp2_with (first
    | ((go_at_call 14); (with_reducible refine (HFEW.out _ _ (by repeat (first | exact HB.out | exact Below.refl _ _ | apply below_alloc | apply pw_below_drewN | apply below_drew1)) ?hg).mono ?_); (case hg => first | exact blk_new _ _ | exact heap_alloc_new _ _); rintro e w9 ⟨rfl, hb9⟩; (try clear HB); have HB := Aside0.mk hb9; clear hb9)
    | ((go_at_call 15); (with_reducible refine (HSANE.out _ (by repeat (first | exact HB.out | exact Below.refl _ _ | apply below_alloc | apply pw_below_drewN | apply below_drew1))).mono ?_); rintro e w9 ⟨rfl, hbl⟩; have HBn := Aside0.mk (below_tr2 (w := w) (by repeat (first | exact HB.out | exact Below.refl _ _ | apply below_alloc | apply pw_below_drewN | apply below_drew1)) hbl); (try clear HB); have HB := HBn; clear HBn hbl)
    )
  go_ret
  exact ⟨rfl, HB.out⟩
set_option maxRecDepth 100000 in
set_option maxHeartbeats 4000000 in
theorem separates_2 (l : List S77) (A : Option Addr) (c : Nat) (level : Int) (w : World) (HSANE : Aside0 (Say w 15 #[] (.bool true))) (HFEW : Aside0 (Ans1 w A l.length c true)) (H46 : Aside0 (Say w 46 #[.slice A l.length c, .int .i64 level] (.bool false))) :
    Calls Try.prog 7 #[.slice A l.length c, .int .i64 level] w fun e w' => e = .returned (.bool true) ∧ Below w.heap.size w w' := by
  go_enter Try.func7, Try.ntmps7
  go_wp2_with (first
    | ((go_at_call 14); (with_reducible refine (HFEW.out _ _ (by repeat (first | exact HB.out | exact Below.refl _ _ | apply below_alloc | apply pw_below_drewN | apply below_drew1)) ?hg).mono ?_); (case hg => first | exact blk_new _ _ | exact heap_alloc_new _ _); rintro e w9 ⟨rfl, hb9⟩; (try clear HB); have HB := Aside0.mk hb9; clear hb9)
    | ((go_at_call 15); (with_reducible refine (HSANE.out _ (by repeat (first | exact HB.out | exact Below.refl _ _ | apply below_alloc | apply pw_below_drewN | apply below_drew1))).mono ?_); rintro e w9 ⟨rfl, hbl⟩; have HBn := Aside0.mk (below_tr2 (w := w) (by repeat (first | exact HB.out | exact Below.refl _ _ | apply below_alloc | apply pw_below_drewN | apply below_drew1)) hbl); (try clear HB); have HB := HBn; clear HBn hbl)
    | ((go_at_call 46); (with_reducible refine (H46.out _ (by repeat (first | exact HB.out | exact Below.refl _ _ | apply below_alloc | apply pw_below_drewN | apply below_drew1))).mono ?_); rintro e w9 ⟨rfl, hbl⟩; have HBn := Aside0.mk (below_tr2 (w := w) (by repeat (first | exact HB.out | exact Below.refl _ _ | apply below_alloc | apply pw_below_drewN | apply below_drew1)) hbl); (try clear HB); have HB := HBn; clear HBn hbl)
    )
  go_ret
  exact ⟨rfl, HB.out⟩
theorem w_add (r m q : Nat) (h : q = r + m) (hq : q ≤ 1000000) : wrap64 ((r : Int) + (m : Int)) = (q : Int) := by rw [w64 _ (by omega) (by omega)]; omega
theorem w_pred (q p : Nat) (h : q = p + 1) (hq : q ≤ 1000000) : wrap64 ((q : Int) - 1) = (p : Int) := by rw [w64 _ (by omega) (by omega)]; omega
theorem w_succ (k : Nat) (h : k ≤ 1000000) : wrap64 ((k : Int) + 1) = (k : Int) + 1 := w64 _ (by omega) (by omega)
theorem mn_at (b s : Nat) (hs : 1 ≤ s) (h1 : s ≤ 1000000) : ∃ n : Nat, mn (b : Int) ((s : Int) - 1) = (n : Int) ∧ n ≤ b ∧ n < s := by
  unfold mn
  split
  · exact ⟨s - 1, by omega, by omega, by omega⟩
  · exact ⟨b, rfl, by omega, by omega⟩
theorem extract_list (b : ByteArray) (n : Nat) : (b.extract 0 n).toList = (toL b).take n := by
  have := extract_take (toL b) n
  rw [ofL_toL] at this
  rw [this, toList_ofL]
theorem min2_mn (k k' : IntKind) (x y : Int) : Builtin.min2 (.int k x) (.int k' y) = pure (.int k (mn x y)) := min2_int k k' x y
attribute [local go_sem] min2_mn min_two
/-- what the law reads of the parts and the separators -/
def SepOk (l : List S77) (level : Int) (P : List (List S77)) (S : List ByteArray) (k : Nat) : Prop :=
  1 ≤ atP P (k + 1) ∧ atP P (k + 1) < l.length ∧ (S.getD k ByteArray.empty).size ≤ 48
  ∧ Op.bytesLess (l.getD (atP P (k + 1) - 1) z77).f0.toList (S.getD k ByteArray.empty).toList = true
  ∧ Op.bytesLess (l.getD (atP P (k + 1)) z77).f0.toList (S.getD k ByteArray.empty).toList = false
  ∧ (level = 0 → ∀ n, n < (S.getD k ByteArray.empty).size → Op.bytesLess (l.getD (atP P (k + 1) - 1) z77).f0.toList ((toL (l.getD (atP P (k + 1)) z77).f0).take n) = false)
set_option maxRecDepth 100000 in
set_option maxHeartbeats 4000000 in
theorem separates_3 (l : List S77) (A : Option Addr) (c : Nat) (level : Int) (w : World) (HSANE : Aside0 (Say w 15 #[] (.bool true))) (HFEW : Aside0 (Ans1 w A l.length c true)) (H46 : Aside0 (Say w 46 #[.slice A l.length c, .int .i64 level] (.bool true))) (P : List (List S77)) (S : List ByteArray) (hr : Kd.C k77 w A l.length l) (hll : l.length ≤ 100) (hlen : S.length + 1 = P.length) (hlen2 : S.length ≤ 100) (hso : ∀ k, k < S.length → SepOk l level P S k)
    (HPK : Aside0 (∀ w1, Below w.heap.size w w1 → Calls Try.prog 39 #[.slice A l.length c, .int .i64 level] w1 fun e w2 => ∃ A1 c1 A2 c2, e = .returned (.tuple #[.slice A1 P.length c1, .slice A2 S.length c2, .int .i64 0]) ∧ kN.C w2 A1 P.length P ∧ Kd.string.C w2 A2 S.length S ∧ Below w1.heap.size w1 w2)) :
    Calls Try.prog 7 #[.slice A l.length c, .int .i64 level] w fun e w' => e = .returned (.bool true) ∧ Below w.heap.size w w' := by
  have HR := Aside0.mk (fun (W : World) (hb : Below w.heap.size w W) => Kd.C_below hr hb)
  have HLL := Aside0.mk hll
  have HLEN := Aside0.mk hlen
  have HLEN2 := Aside0.mk hlen2
  have HSO := Aside0.mk hso
  have hwp : wrap64 ((P.length : Int) - 1) = (S.length : Int) := by rw [w64 _ (by omega) (by omega)]; omega
  clear hr hll hlen hlen2 hso
  go_enter Try.func7, Try.ntmps7
  go_wp2_with (first
    | ((go_at_call 14); (with_reducible refine (HFEW.out _ _ (by repeat (first | exact HB.out | exact Below.refl _ _ | apply below_alloc | apply pw_below_drewN | apply below_drew1)) ?hg).mono ?_); (case hg => first | exact blk_new _ _ | exact heap_alloc_new _ _); rintro e w9 ⟨rfl, hb9⟩; (try clear HB); have HB := Aside0.mk hb9; clear hb9)
    | ((go_at_call 46); (with_reducible refine (H46.out _ (by repeat (first | exact HB.out | exact Below.refl _ _ | apply below_alloc | apply pw_below_drewN | apply below_drew1))).mono ?_); rintro e w9 ⟨rfl, hbl⟩; have HBn := Aside0.mk (below_tr2 (w := w) (by repeat (first | exact HB.out | exact Below.refl _ _ | apply below_alloc | apply pw_below_drewN | apply below_drew1)) hbl); (try clear HB); have HB := HBn; clear HBn hbl)
    | ((go_at_call 39); (with_reducible refine (HPK.out _ HB.out).mono ?_); rintro e w5 ⟨A1, c1, A2, c2, rfl, hP, hS, hbl⟩; have HP := Aside0.mk (fun (W : World) (hb : Below w5.heap.size w5 W) => Kd.C_below hP hb); have HS := Aside0.mk (fun (W : World) (hb : Below w5.heap.size w5 W) => Kd.C_below hS hb); have HB5 := Aside0.mk (below_tr2 (w := w) HB.out hbl); clear hP hS hbl HB)
    )
  clear hwp HFEW H46 HPK
  go_loopw [8, 9] (fun av iv wr => ∃ k : Nat, k ≤ S.length ∧ iv = .int .i64 k ∧ av = .int .i64 (atP P k : Nat) ∧ Aside0 (Below w5.heap.size w5 wr)) (fun _ iv _ => S.length - (intOf iv).toNat)
  case atStart => exact ⟨0, Nat.zero_le _, rfl, rfl, ⟨Below.refl _ _⟩⟩
  case round =>
    obtain ⟨k, hk, rfl, rfl, HBr⟩ := hrel
    by_cases hlt : k < S.length
    · have HLT := Aside0.mk hlt
      obtain ⟨g1, g2, g3, g4, g5, g6⟩ := HSO.out k hlt
      obtain ⟨ad, A0, c0, rfl, hc, hl0, _⟩ := at_L5 (HP.out wr HBr.out) (k : Int) (by omega) (by have := HLEN.out; omega)
      simp only [rd_L5, Int.toNat_natCast] at hc
      have hsum := atP_succ P k (by have := HLEN.out; omega)
      generalize (P.getD k []).length = m at hc hsum
      obtain ⟨q, hq⟩ : ∃ q, atP P (k + 1) = q := ⟨_, rfl⟩
      rw [hq] at g1 g2 g4 g5 g6 hsum
      have HQ := Aside0.mk hq
      clear hq hl0
      obtain ⟨p, hp⟩ : ∃ p, q = p + 1 := ⟨q - 1, by omega⟩
      have hp1 : q - 1 = p := by omega
      rw [hp1] at g4 g6
      generalize atP P k = r at hsum ⊢
      obtain ⟨al, ela, _⟩ := elem_at (HR.out wr (below_tr2 (w := w) HB5.out HBr.out)) q g2
      subst ela
      have hkq := prev_key (HR.out wr (below_tr2 (w := w) HB5.out HBr.out)) q g2
      have hkp := prev_key (HR.out wr (below_tr2 (w := w) HB5.out HBr.out)) p (by omega)
      obtain ⟨asp, rfl, hcs⟩ := Kd.at_string (HS.out wr HBr.out) (k : Int) (by omega) (by omega)
      simp only [Int.toNat_natCast] at hcs
      have hcs2 : wr.cell? (asp.add k) = some (.string (S.getD k ByteArray.empty)) := hcs
      clear hcs
      generalize S.getD k ByteArray.empty = s at g3 g4 g5 g6 hcs2
      generalize (l.getD q z77).f0 = b at g5 g6 hkq
      generalize (l.getD p z77).f0 = a at g4 g6 hkp
      have i1 : (k : Int) < (P.length : Int) := by have := HLEN.out; omega
      have i2 : (k : Int) < (S.length : Int) := by omega
      have i3 : (0 : Int) ≤ (k : Int) := by omega
      have i4 : (q : Int) < (l.length : Int) := by omega
      have i5 : (0 : Int) ≤ (q : Int) := by omega
      have i6 : (p : Int) < (l.length : Int) := by omega
      have i7 : (0 : Int) ≤ (p : Int) := by omega
      have d20 : decide ((q : Int) < 1) = false := decide_eq_false (by omega)
      have d21 : decide (1 > (q : Int)) = false := decide_eq_false (by omega)
      have d22 : decide ((q : Int) ≥ (l.length : Int)) = false := decide_eq_false (by omega)
      have d23 : decide ((l.length : Int) ≤ (q : Int)) = false := decide_eq_false (by omega)
      have d24 : decide (l.length ≤ q) = false := decide_eq_false (by omega)
      have d25 : decide (q < 1) = false := decide_eq_false (by omega)
      have d26 : decide (q = 0) = false := decide_eq_false (by omega)
      have d27 : decide (48 < (s.size : Int)) = false := decide_eq_false (by omega)
      have d28 : decide ((s.size : Int) > 48) = false := decide_eq_false (by omega)
      have d29 : decide (48 < s.size) = false := decide_eq_false (by omega)
      have hq6 : q ≤ 1000000 := by have := HLL.out; omega
      have hk6 : k ≤ 1000000 := by have := HLEN2.out; omega
      have hwq := w_add r m q hsum hq6
      have hwm := w_pred q p hp hq6
      have hkw := w_succ k hk6
      clear hq6 hk6
      by_cases h0 : level = 0
      · by_cases h1 : 1 < s.size
        · have k4 : (level == 0) = true := beq_iff_eq.mpr h0
          have d33 : decide ((1 : Int) < (s.size : Int)) = true := decide_eq_true (by clear hwq hwm hkw; omega)
          have d34 : decide ((s.size : Int) > 1) = true := decide_eq_true (by clear hwq hwm hkw; omega)
          have d35 : decide (1 < s.size) = true := decide_eq_true (by clear hwq hwm hkw; omega)
          have HG6 := Aside0.mk (g6 h0)
          obtain ⟨n, hmn, hn1, hn2⟩ := mn_at b.size s.size (by clear hwq hwm hkw; omega) (by clear hwq hwm hkw; omega)
          have hws : wrap64 ((s.size : Int) - 1) = (s.size : Int) - 1 := w64 _ (by clear hwq hwm hkw; omega) (by clear hwq hwm hkw; omega)
          have hsh : Op.bytesLess a.toList (b.extract 0 n).toList = false := by rw [extract_list]; exact HG6.out n hn2
          have j1 : (n : Int) ≤ (b.size : Int) := by clear hwq hwm hkw hws; omega
          have j2 : (0 : Int) ≤ (n : Int) := by clear hwq hwm hkw hws; omega
          clear hn1 hn2 HG6
          clear h0 h1 g6 hlt hk hsum hp hp1 g1 g2 g3
          go_wp2_with fail
          repeat (go_quiet (fail); try go_wp2)
          go_roundw
          case rel => exact ⟨k + 1, HLT.out, by rw [hkw]; simp, by rw [hwq, HQ.out], ⟨by first | exact HBr.out | exact below_drew1 HBr.out | exact pw_below_drewN HBr.out _⟩⟩
          case measure => (have h9 := HLT.out; rw [hkw]; clear hkw; show S.length - ((k : Int) + 1).toNat < S.length - (k : Int).toNat; omega)
        · have k4 : (level == 0) = true := beq_iff_eq.mpr h0
          have d30 : decide ((1 : Int) < (s.size : Int)) = false := decide_eq_false (by clear hwq hwm hkw; omega)
          have d31 : decide ((s.size : Int) > 1) = false := decide_eq_false (by clear hwq hwm hkw; omega)
          have d32 : decide (1 < s.size) = false := decide_eq_false (by clear hwq hwm hkw; omega)
          clear h0 h1 g6 hlt hk hsum hp hp1 g1 g2 g3
          go_wp2_with fail
          repeat (go_quiet (fail); try go_wp2)
          go_roundw
          case rel => exact ⟨k + 1, HLT.out, by rw [hkw]; simp, by rw [hwq, HQ.out], ⟨by first | exact HBr.out | exact below_drew1 HBr.out | exact pw_below_drewN HBr.out _⟩⟩
          case measure => (have h9 := HLT.out; rw [hkw]; clear hkw; show S.length - ((k : Int) + 1).toNat < S.length - (k : Int).toNat; omega)
      · have k4 : (level == 0) = false := beq_eq_false_iff_ne.mpr h0
        clear h0 g6 hlt hk hsum hp hp1 g1 g2 g3
        go_wp2_with fail
        repeat (go_quiet (fail); try go_wp2)
        go_roundw
        case rel => exact ⟨k + 1, HLT.out, by rw [hkw]; simp, by rw [hwq, HQ.out], ⟨by first | exact HBr.out | exact below_drew1 HBr.out | exact pw_below_drewN HBr.out _⟩⟩
        case measure => (have h9 := HLT.out; rw [hkw]; clear hkw; show S.length - ((k : Int) + 1).toNat < S.length - (k : Int).toNat; omega)
    · obtain rfl : k = S.length := by omega
      have HB := Aside0.mk (below_tr2 (w := w) HB5.out HBr.out)
      go_wp2_with (first
        | ((go_at_call 15); (with_reducible refine (HSANE.out _ (by repeat (first | exact HB.out | exact Below.refl _ _ | apply below_alloc | apply pw_below_drewN | apply below_drew1))).mono ?_); rintro e w9 ⟨rfl, hbl⟩; have HBn := Aside0.mk (below_tr2 (w := w) (by repeat (first | exact HB.out | exact Below.refl _ _ | apply below_alloc | apply pw_below_drewN | apply below_drew1)) hbl); (try clear HB); have HB := HBn; clear HBn hbl)
        )
      go_ret
      exact ⟨rfl, HB.out⟩
theorem separates_c (l : List S77) (A : Option Addr) (c : Nat) (level : Int) (w : World) (hr : Kd.C k77 w A l.length l) (hc : l.length ≤ c) :
    Calls Try.prog 7 #[.slice A l.length c, .int .i64 level] w fun e w' => e = .returned (.bool true) ∧ Below w.heap.size w w' := by
  obtain ⟨bf, hf, HF⟩ := few_one l
  have HFEW := Aside0.mk (HF w A c hr hc)
  have HS := Aside0.mk (show Say w 15 #[] (.bool true) from fun w1 _ => sane_c w1)
  cases bf with
  | false => exact separates_1 l A c level w HS HFEW
  | true =>
  have hl := (hf rfl).1
  have hfine : Fine l := by
    refine ⟨by omega, fun x hx => ?_⟩
    obtain ⟨j, hj, rfl⟩ := List.getElem_of_mem hx
    have := (hf rfl).2 j hj
    rw [show l.getD j z77 = l[j] by simp [hj]] at this
    omega
  have hks : ∀ x ∈ l, x.f0.size ≤ 1000000 := by
    intro x hx
    obtain ⟨j, hj, rfl⟩ := List.getElem_of_mem hx
    have := (hf rfl).2 j hj
    rw [show l.getD j z77 = l[j] by simp [hj]] at this
    omega
  have H46 := Aside0.mk (show Say w 46 #[.slice A l.length c, .int .i64 level] _ from fun w1 b => right_c l A c level w1 (Kd.C_below hr b) hc hl)
  cases hrt : rightB l level with
  | false => rw [hrt] at H46; exact separates_2 l A c level w HS HFEW H46
  | true =>
    rw [hrt] at H46
    have hp := right_packable hrt
    have ho : ordL l level = true := by unfold rightB at hrt; rw [Bool.and_eq_true] at hrt; exact hrt.1
    have hne : 1 ≤ l.length := by
      unfold rightB at hrt
      simp only [Bool.and_eq_true, Bool.or_eq_true, decide_eq_true_eq] at hrt
      omega
    obtain ⟨x, hx⟩ := packO_some level (l.length + 1) l (by omega) hp
    have e1 := packO_len _ l level x hne hx
    have e2 := packO_seps level _ l x hne hx
    have hR : packR l level = (x, 0) := by rw [packR, if_pos hp, if_neg (by omega), hx]
    refine separates_3 l A c level w HS HFEW H46 x.1 x.2 hr hl e1.2 (by omega) (fun k hk => ?_) ⟨fun w1 b => ?_⟩
    · obtain ⟨g1, g2, g3⟩ := e2.2 k hk
      obtain ⟨s1, s2, s3, s4⟩ := sepF_good ho _ g1 g2
      unfold SepOk
      rw [g3]
      exact ⟨g1, g2, s1, s2, s3, s4⟩
    · have := packs_c l A c level w1 (Kd.C_below hr b) hc hfine hks
      rw [hR] at this
      refine this.mono ?_
      rintro e w2 ⟨A1, c1, A2, c2, rfl, ⟨_, q1⟩, ⟨_, q2⟩, q3⟩
      exact ⟨A1, c1, A2, c2, rfl, q1, q2, q3⟩
end Go.Proofs.Ytalncokpbgbccaa.E

