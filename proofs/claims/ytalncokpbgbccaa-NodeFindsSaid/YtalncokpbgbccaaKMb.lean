-- A slim copy of Mb, written by wip/tools/prune2.py.
import Derived.Laws.CopyOwn
import Derived.Laws.Tables
import Derived.Test.YtalncokpbgbccaaKNx0
/- Joined: NE, NG, NH, NL. -/
/- Words for loops over entries: an element is loaded whole, and laid into a box, as an array of cells that nobody opens. And the weight of entries. -/
namespace Go.Proofs.Ytalncokpbgbccaa.E
set_option linter.unusedVariables false
set_option linter.unusedSimpArgs false
open Go.RowKit Go.Proofs.YtalncokpbgbccaaW.PrintWords Go.Proofs.YtalncokpbgbccaaW.PrintLast Go.Proofs.YtalncokpbgbccaaW.PrintMore

theorem entC_size (x : S77) : (Try.prog.info? 77).map (·.size) = some (entC x).size := by rw [size77]; rfl
theorem entC_list (x : S77) : (Try.prog.info? 77).map (·.size) = some (entC x).toList.length := by rw [size77]; rfl
theorem entC_one (x : S77) : (entC x).all (·.oneCell') = true := by simp [entC, Value.oneCell']
/-- an element of a row, cell by cell -/
theorem elem_at {W : World} {A : Option Addr} {n : Nat} {xs : List S77} (h : Kd.C k77 W A n xs) (i : Nat) (hi : i < n) : ∃ ad, A = some ad ∧ ∀ j v, (entC (xs.getD i z77)).toList[j]? = some v → W.cell? ((ad.add (i * 22)).add j) = some v := by
  obtain ⟨ad, c, e, hlen, hK, hc⟩ := Kd.C_get h z77 (i : Int) (by omega) (by omega)
  have hc' := k77_open hK
  refine ⟨ad, e, fun j v hv => ?_⟩
  rw [add_add]
  refine hc j v ?_
  rw [hc']
  exact hv
theorem run_loadVar_at (W : World) (ad : Addr) (cs : List Value) (hc : ∀ j v, cs[j]? = some v → W.cell? (ad.add j) = some v) (hi : (Try.prog.info? 77).map (·.size) = some cs.length) :
    (loadVar 77 ad).run Try.prog W = .ok (.agg cs.toArray) W := by
  have hl := run_loadCells_list (P := Try.prog) W ad cs hc
  cases hq : Try.prog.info? 77 with
  | none => simp [hq] at hi
  | some i =>
    have hs : i.size = cs.length := by simpa [hq] using hi
    have hagg : (isAgg 77).run Try.prog W = .ok true W := by
      unfold isAgg
      rw [Sem.run_bind, run_underlying Try.underlying77 W]
      rfl
    simp [loadVar, Sem.run_bind, hagg, sizeOf, typeInfo, hq, hs, hl]
theorem wpList_load_el {ops : Array Oper} {rest : List Oper} {o : Oper} {a : Act} {W : World} {Q : Exit → Act → World → Prop} (hgd : o.guard = none) (p : Operand) (ho : o.op = .load 77 p) (ad : Addr) (hx : a.eval p = .pointer (some ad)) (x : S77)
    (hc : ∀ j v, (entC x).toList[j]? = some v → W.cell? (ad.add j) = some v) (h : wpList Try.prog ops Q rest (a.put o.dst (.agg (entC x))) W) : wpList Try.prog ops Q (o :: rest) a W := by
  have hl := run_loadVar_at W ad (entC x).toList hc (entC_list x)
  refine wpList_plain hgd fun K hK => ?_
  unfold Oper.wp execOp
  simp only [ho, hx, Instr.loadAt, Instr.sureAddr, Sem.run_bind, Sem.run_pure, Result.andThen_ok, hl]
  exact hK _ _ h
theorem wpList_store_new {ops : Array Oper} {rest : List Oper} {o : Oper} {a : Act} {W : World} {z : Array Value} {Q : Exit → Act → World → Prop} (hgd : o.guard = none) (p q : Operand) (ho : o.op = .store 77 p q) (x : S77) (hx : a.eval p = .pointer (some ⟨W.heap.size, 0, none⟩)) (hy : a.eval q = .agg (entC x)) (hz : z.size = 22)
    (h : ∀ W2, W2.heap[W.heap.size]? = some (.cells (entC x) 77 (0, 0)) → Below W.heap.size W W2 → wpList Try.prog ops Q rest (a.put o.dst undef) W2) : wpList Try.prog ops Q (o :: rest) a (W.alloc (.cells z 77 (0, 0))) := by
  refine wpList_store_row hgd 77 p q ho W.heap.size (entC x) hx hy 77 z (heap_alloc_new _ _) (entC_size x) hz (entC_one x) ?_
  exact h _ (setRow_heap _ _ _ _ _ _ (heap_alloc_new _ _)) (below_setRow (below_alloc (Below.refl _ _) _) (Nat.le_refl _) _)

/-- the weights of entries, summed -/
def wsum (level : Int) : List S77 → Option Int
  | [] => some 0
  | x :: r => if (weighI x level).2 = true then (wsum level r).map ((weighI x level).1 + ·) else none
def weightO (l : List S77) (level : Int) : Option Int := if inB level 0 20 = true then (wsum level l).map (6 + ·) else none
def weightR (o : Option Int) : Int × Int := match o with | some n => (n, 0) | none => (0, 2)
def Fine (l : List S77) : Prop := l.length ≤ 1000000 ∧ ∀ x ∈ l, x.f0.size ≤ 1000000000 ∧ x.f1.size ≤ 1000000000
theorem weigh_bound (x : S77) (level : Int) (h : x.f0.size ≤ 1000000000 ∧ x.f1.size ≤ 1000000000) : 0 ≤ (weighI x level).1 ∧ (weighI x level).1 ≤ 3000000000 := by
  unfold weighI
  repeat' split
  all_goals simp only
  all_goals omega
theorem wsum_drop (level : Int) (l : List S77) (k : Nat) (h : k < l.length) : wsum level (l.drop k) = if (weighI (l.getD k z77) level).2 = true then (wsum level (l.drop (k + 1))).map ((weighI (l.getD k z77) level).1 + ·) else none := by
  rw [List.drop_eq_getElem_cons h, wsum]
  simp [h]
set_option maxRecDepth 100000 in
set_option maxHeartbeats 4000000 in
theorem weight_bad (l : List S77) (A : Option Addr) (c : Nat) (level : Int) (w : World) (hl : inB level 0 20 = false) :
    Calls Try.prog 59 #[.slice A l.length c, .int .i64 level] w fun e w' => e = .returned (.tuple #[.int .i64 0, .int .i64 2]) ∧ Below w.heap.size w w' := by
  have HL := Aside0.mk hl
  clear hl
  go_enter Try.func59, Try.ntmps59
  go_wp2_with (first | (go_at_call 84; refine (within_n _ _ _ _ HL.out).mono ?_; rintro e w' ⟨rfl, ⟨nd2, rfl⟩⟩))
  go_ret2
  exact ⟨rfl, by repeat (first | exact Below.refl _ _ | apply below_alloc | apply pw_below_drewN | apply below_drew1)⟩
set_option maxRecDepth 100000 in
set_option maxHeartbeats 4000000 in
theorem weight_ok (l : List S77) (A : Option Addr) (c : Nat) (level : Int) (w : World) (hr : Kd.C k77 w A l.length l) (hf : Fine l) (hl : inB level 0 20 = true) :
    Calls Try.prog 59 #[.slice A l.length c, .int .i64 level] w fun e w' => e = .returned (.tuple #[.int .i64 (weightR ((wsum level l).map (6 + ·))).1, .int .i64 (weightR ((wsum level l).map (6 + ·))).2]) ∧ Below w.heap.size w w' := by
  have HL := Aside0.mk hl
  have HR := Aside0.mk hr
  have HF := Aside0.mk hf
  have hlen : l.length ≤ 1000000 := hf.1
  clear hl hr hf
  obtain ⟨T, hT⟩ : ∃ T, (wsum level l).map (6 + ·) = T := ⟨_, rfl⟩
  have HT := Aside0.mk hT
  rw [hT]
  clear hT
  have HB := Aside0.mk (Below.refl w.heap.size w)
  go_enter Try.func59, Try.ntmps59
  go_wp2_with (first | (go_at_call 84; refine (within_y _ _ _ _ HL.out).mono ?_; rintro e w' ⟨rfl, ⟨nd2, rfl⟩⟩))
  go_loopw [6, 16] (fun n i wr => ∃ (k : Nat) (s : Int), k ≤ l.length ∧ i = .int .i64 k ∧ n = .int .i64 s ∧ Aside0 ((wsum level (l.drop k)).map (s + ·) = T) ∧ 0 ≤ s ∧ s ≤ 6 + (k : Int) * 3000000000 ∧ Aside0 (Below w.heap.size w wr)) (fun _ i _ => l.length - (intOf i).toNat)
  case atStart => exact ⟨0, 6, Nat.zero_le _, rfl, rfl, HT, by omega, by omega, ⟨by repeat (first | exact Below.refl _ _ | apply below_alloc | apply pw_below_drewN | apply below_drew1)⟩⟩
  case round =>
    obtain ⟨k, s, hk, rfl, rfl, HS, h0, h1, HBr⟩ := hrel
    by_cases hlt : k < l.length
    · obtain ⟨ad, rfl, hel⟩ := elem_at (Kd.C_below HR.out HBr.out) k hlt
      have HEL := Aside0.mk hel
      have hx := HF.out.2 (l.getD k z77) (by simp [List.getD, hlt])
      have HX := Aside0.mk hx
      have hbd := weigh_bound (l.getD k z77) level hx
      have HST := Aside0.mk (wsum_drop level l k hlt)
      have hkw : wrap64 ((k : Int) + 1) = (k : Int) + 1 := w64 _ (by omega) (by omega)
      clear hel hx
      generalize l.getD k z77 = x at HEL HX hbd HST
      have HW := Aside0.mk (fun (W : World) => weigh_c x level W HX.out.1 HX.out.2)
      obtain ⟨wn, wb, hwn⟩ : ∃ wn wb, weighI x level = (wn, wb) := ⟨_, _, rfl⟩
      rw [hwn] at HW hbd HST
      clear hwn
      simp only at hbd
      have hadd : wrap64 (s + wn) = s + wn := w64 _ (by omega) (by omega)
      have HBD := Aside0.mk hbd
      clear hbd
      cases wb
      · go_wp2_with (first
          | ((with_reducible refine gate_dst (N := 19) rfl ?_); refine wpList_load_el rfl (.tmp 18) rfl _ rfl x HEL.out ?_)
          | (refine wpList_store_new rfl (.tmp 8) (.tmp 19) rfl x rfl rfl rfl ?_; intro W2 hg2 hb2; have HG2 := Aside0.mk hg2; have HB2 := Aside0.mk (HBr.out.trans (hb2.mono HBr.out.size)); clear hg2 hb2)
          | ((with_reducible refine gate_dst (N := 21) rfl ?_); refine wpList_load_row rfl 77 (.tmp 8) rfl _ rfl 77 (entC x) (0, 0) _ HG2.out Try.underlying77 rfl (entC_size x) ?_)
          | (go_at_call 85; refine (HW.out _).mono ?_; rintro e w3 ⟨rfl, hb⟩; have HB3 := Aside0.mk (HB2.out.trans (hb.mono HB2.out.size)); clear hb))
        go_ret2
        have hT : T = none := by rw [← HS.out, HST.out]; rfl
        exact ⟨by rw [hT]; rfl, HB3.out⟩
      · go_wp2_with (first
          | ((with_reducible refine gate_dst (N := 19) rfl ?_); refine wpList_load_el rfl (.tmp 18) rfl _ rfl x HEL.out ?_)
          | (refine wpList_store_new rfl (.tmp 8) (.tmp 19) rfl x rfl rfl rfl ?_; intro W2 hg2 hb2; have HG2 := Aside0.mk hg2; have HB2 := Aside0.mk (HBr.out.trans (hb2.mono HBr.out.size)); clear hg2 hb2)
          | ((with_reducible refine gate_dst (N := 21) rfl ?_); refine wpList_load_row rfl 77 (.tmp 8) rfl _ rfl 77 (entC x) (0, 0) _ HG2.out Try.underlying77 rfl (entC_size x) ?_)
          | (go_at_call 85; refine (HW.out _).mono ?_; rintro e w3 ⟨rfl, hb⟩; have HB3 := Aside0.mk (HB2.out.trans (hb.mono HB2.out.size)); clear hb))
        go_roundw
        case rel =>
          refine ⟨k + 1, s + wn, by omega, by simp, by rw [hadd], ⟨?_⟩, by have := HBD.out; omega, by have := HBD.out; push_cast; omega, HB3⟩
          rw [← HS.out, HST.out]
          cases wsum level (l.drop (k + 1)) with
          | none => rfl
          | some q => simp [Int.add_assoc]
        case measure => simp [intOf]; omega
    · obtain rfl : k = l.length := by omega
      have hT : T = some s := by rw [← HS.out, List.drop_length]; simp [wsum]
      have HTT := Aside0.mk hT
      clear hT
      go_wp2
      go_ret2
      exact ⟨by rw [HTT.out]; rfl, HBr.out⟩
theorem weight_c (l : List S77) (A : Option Addr) (c : Nat) (level : Int) (w : World) (hr : Kd.C k77 w A l.length l) (hf : Fine l) :
    Calls Try.prog 59 #[.slice A l.length c, .int .i64 level] w fun e w' => e = .returned (.tuple #[.int .i64 (weightR (weightO l level)).1, .int .i64 (weightR (weightO l level)).2]) ∧ Below w.heap.size w w' := by
  cases hl : inB level 0 20 with
  | false =>
    have : weightO l level = none := by simp [weightO, hl]
    rw [this]; exact weight_bad l A c level w hl
  | true =>
    have : weightO l level = (wsum level l).map (6 + ·) := by simp [weightO, hl]
    rw [this]; exact weight_ok l A c level w hr hf hl
end Go.Proofs.Ytalncokpbgbccaa.E

/- Small, CountOf, Before: what the program says of a list of entries. -/
namespace Go.Proofs.Ytalncokpbgbccaa.E
set_option linter.unusedVariables false
set_option linter.unusedSimpArgs false
open Go.RowKit Go.Proofs.YtalncokpbgbccaaW.PrintWords Go.Proofs.YtalncokpbgbccaaW.PrintLast Go.Proofs.YtalncokpbgbccaaW.PrintMore
attribute [local go_sem] max2_int min2_int max_two min_two

theorem ent5' (x : S77) : (entC x)[5]? = some (.int .i64 x.f5) := rfl
theorem wsum_bound (level : Int) (l : List S77) (h : ∀ x ∈ l, x.f0.size ≤ 1000000000 ∧ x.f1.size ≤ 1000000000) : ∀ s, wsum level l = some s → 0 ≤ s ∧ s ≤ (l.length : Int) * 3000000000 := by
  induction l with
  | nil => intro s hs; simp [wsum] at hs; subst hs; simp
  | cons x r ih =>
    intro s hs
    rw [wsum] at hs
    split at hs
    · cases hw : wsum level r with
      | none => rw [hw] at hs; cases hs
      | some q =>
        rw [hw] at hs
        obtain rfl := Option.some.inj hs
        obtain ⟨h1, h2⟩ := ih (fun y hy => h y (by simp [hy])) q hw
        obtain ⟨h3, h4⟩ := weigh_bound x level (h x (by simp))
        rw [List.length_cons]
        push_cast
        omega
    · cases hs
/-- is a node small -/
def smallB (l : List S77) (level : Int) : Bool := match weightO l level with | some n => decide (3 * n < 496) | none => false
theorem weightO_bound (l : List S77) (level n : Int) (hf : Fine l) (h : weightO l level = some n) : 0 ≤ n ∧ n ≤ 3000000000000006 := by
  unfold weightO at h
  split at h
  · cases hw : wsum level l with
    | none => rw [hw] at h; cases h
    | some q =>
      rw [hw] at h
      obtain rfl := Option.some.inj h
      obtain ⟨h1, h2⟩ := wsum_bound level l hf.2 q hw
      have := hf.1
      show 0 ≤ 6 + q ∧ 6 + q ≤ 3000000000000006
      omega
  · cases h
set_option maxRecDepth 100000 in
set_option maxHeartbeats 4000000 in
theorem small_c (l : List S77) (A : Option Addr) (c : Nat) (level : Int) (w : World) (hr : Kd.C k77 w A l.length l) (hf : Fine l) :
    Calls Try.prog 20 #[.slice A l.length c, .int .i64 level] w fun e w' => e = .returned (.bool (smallB l level)) ∧ Below w.heap.size w w' := by
  have HW := weight_c l A c level w hr hf
  cases hw : weightO l level with
  | none =>
    rw [hw] at HW
    have HWA := Aside0.mk HW
    have HR := Aside0.mk (show smallB l level = false by simp [smallB, hw])
    clear HW hw hr hf
    rw [HR.out]
    go_enter Try.func20, Try.ntmps20
    go_wp2_with (first | (go_at_call 59; refine HWA.out.mono ?_; simp only [weightR]; rintro e w' ⟨rfl, hb⟩; have HB := Aside0.mk hb; clear hb))
    go_ret
    exact ⟨rfl, by first | exact HB.out | exact below_drew1 HB.out⟩
  | some n =>
    rw [hw] at HW
    have hbd := weightO_bound l level n hf hw
    have HWA := Aside0.mk HW
    have HR := Aside0.mk (show smallB l level = decide (3 * n < 496) by simp [smallB, hw])
    have h3 : wrap64 (3 * n) = 3 * n := w64 _ (by omega) (by omega)
    clear HW hw hr hf hbd
    rw [HR.out]
    go_enter Try.func20, Try.ntmps20
    go_wp2_with (first | (go_at_call 59; refine HWA.out.mono ?_; simp only [weightR]; rintro e w' ⟨rfl, hb⟩; have HB := Aside0.mk hb; clear hb) | (go_at_call 60; refine (page_Capacity.calls _ _ rfl).mono ?_; rintro e w' ⟨rfl, ⟨nd, rfl⟩⟩))
    go_ret
    exact ⟨rfl, by first | exact HB.out | exact below_drew1 HB.out | exact pw_below_drewN HB.out _⟩
/-- the counts, summed as the machine sums them -/
def befL (l : List S77) : Int := l.foldl (fun a x => wrap64 (a + x.f5)) 0
theorem befL_snoc (l : List S77) (k : Nat) (h : k < l.length) : befL (l.take (k + 1)) = wrap64 (befL (l.take k) + (l.getD k z77).f5) := by
  rw [List.take_succ_eq_append_getElem h, befL, List.foldl_append, befL]
  simp [h]
def cutI (i : Int) (n : Nat) : Nat := (max 0 (min i (n : Int))).toNat
set_option maxRecDepth 100000 in
set_option maxHeartbeats 4000000 in
theorem before_low (l : List S77) (A : Option Addr) (c : Nat) (i : Int) (hi : i ≤ 0) (w : World) :
    Calls Try.prog 28 #[.slice A l.length c, .int .i64 i] w fun e w' => e = .returned (.int .i64 0) ∧ Below w.heap.size w w' := by
  have HB := Aside0.mk (Below.refl w.heap.size w)
  rcases (show i < 0 ∨ i = 0 by omega) with h | h
  · clear hi
    go_enter Try.func28, Try.ntmps28
    go_wp2_with fail
    go_loopw [5, 16] (fun n i wr => n = .int .i64 0 ∧ i = .int .i64 0 ∧ Aside0 (Below w.heap.size w wr)) (fun _ _ _ => 0)
    case atStart => exact ⟨rfl, rfl, HB⟩
    case round =>
      obtain ⟨rfl, rfl, HBr⟩ := hrel
      go_wp2
      go_ret
      exact ⟨rfl, HBr.out⟩
  · clear hi
    subst h
    go_enter Try.func28, Try.ntmps28
    go_wp2_with fail
    go_loopw [5, 16] (fun n i wr => n = .int .i64 0 ∧ i = .int .i64 0 ∧ Aside0 (Below w.heap.size w wr)) (fun _ _ _ => 0)
    case atStart => exact ⟨rfl, rfl, HB⟩
    case round =>
      obtain ⟨rfl, rfl, HBr⟩ := hrel
      go_wp2
      go_ret
      exact ⟨rfl, HBr.out⟩
set_option maxRecDepth 100000 in
set_option maxHeartbeats 4000000 in
theorem before_mid (l : List S77) (A : Option Addr) (c : Nat) (m : Nat) (hm : m ≤ l.length) (hm0 : 0 < m) (w : World) (hr : Kd.C k77 w A l.length l) (hc : l.length ≤ c) (hlen : l.length ≤ 1000000) :
    Calls Try.prog 28 #[.slice A l.length c, .int .i64 m] w fun e w' => e = .returned (.int .i64 (befL (l.take m))) ∧ Below w.heap.size w w' := by
  have HR := Aside0.mk hr
  have HB := Aside0.mk (Below.refl w.heap.size w)
  clear hr
  go_enter Try.func28, Try.ntmps28
  go_wp2_with fail
  clear hc
  go_loopw [5, 16] (fun n i wr => ∃ k : Nat, k ≤ m ∧ i = .int .i64 k ∧ n = .int .i64 (befL (l.take k)) ∧ Aside0 (Below w.heap.size w wr)) (fun _ i _ => m - (intOf i).toNat)
  case atStart => exact ⟨0, Nat.zero_le _, rfl, rfl, HB⟩
  case round =>
    obtain ⟨k, hk, rfl, rfl, HBr⟩ := hrel
    by_cases hlt : k < m
    · obtain ⟨ad, rfl, hel⟩ := elem_at (Kd.C_below HR.out HBr.out) k (by omega)
      have HEL := Aside0.mk hel
      have HST := Aside0.mk (befL_snoc l k (by omega))
      have hkw : wrap64 ((k : Int) + 1) = (k : Int) + 1 := w64 _ (by omega) (by omega)
      clear hel
      generalize l.getD k z77 = x at HEL HST
      generalize befL (l.take k) = q at HST ⊢
      go_wp2_with (first
        | ((with_reducible refine gate_dst (N := 19) rfl ?_); refine wpList_load_el rfl (.tmp 18) rfl _ rfl x HEL.out ?_)
        | (refine wpList_store_new rfl (.tmp 7) (.tmp 19) rfl x rfl rfl rfl ?_; intro W2 hg2 hb2; have HB2 := Aside0.mk (HBr.out.trans (hb2.mono HBr.out.size)); have c5 := cell_of_box hg2 (ent5' x); clear hg2 hb2))
      go_roundw
      case rel => exact ⟨k + 1, by omega, by simp, by rw [HST.out], HB2⟩
      case measure => simp [intOf]; omega
    · obtain rfl : k = m := by omega
      go_wp2
      go_ret
      exact ⟨rfl, HBr.out⟩
set_option maxRecDepth 100000 in
set_option maxHeartbeats 4000000 in
theorem before_high (l : List S77) (A : Option Addr) (c : Nat) (i : Int) (hi : (l.length : Int) < i) (hl0 : 0 < l.length) (w : World) (hr : Kd.C k77 w A l.length l) (hc : l.length ≤ c) (hlen : l.length ≤ 1000000) :
    Calls Try.prog 28 #[.slice A l.length c, .int .i64 i] w fun e w' => e = .returned (.int .i64 (befL (l.take l.length))) ∧ Below w.heap.size w w' := by
  have HR := Aside0.mk hr
  have HB := Aside0.mk (Below.refl w.heap.size w)
  clear hr
  go_enter Try.func28, Try.ntmps28
  go_wp2_with fail
  clear hc
  go_loopw [5, 16] (fun n i wr => ∃ k : Nat, k ≤ l.length ∧ i = .int .i64 k ∧ n = .int .i64 (befL (l.take k)) ∧ Aside0 (Below w.heap.size w wr)) (fun _ i _ => l.length - (intOf i).toNat)
  case atStart => exact ⟨0, Nat.zero_le _, rfl, rfl, HB⟩
  case round =>
    obtain ⟨k, hk, rfl, rfl, HBr⟩ := hrel
    by_cases hlt : k < l.length
    · obtain ⟨ad, rfl, hel⟩ := elem_at (Kd.C_below HR.out HBr.out) k (by omega)
      have HEL := Aside0.mk hel
      have HST := Aside0.mk (befL_snoc l k (by omega))
      have hkw : wrap64 ((k : Int) + 1) = (k : Int) + 1 := w64 _ (by omega) (by omega)
      clear hel
      generalize l.getD k z77 = x at HEL HST
      generalize befL (l.take k) = q at HST ⊢
      go_wp2_with (first
        | ((with_reducible refine gate_dst (N := 19) rfl ?_); refine wpList_load_el rfl (.tmp 18) rfl _ rfl x HEL.out ?_)
        | (refine wpList_store_new rfl (.tmp 7) (.tmp 19) rfl x rfl rfl rfl ?_; intro W2 hg2 hb2; have HB2 := Aside0.mk (HBr.out.trans (hb2.mono HBr.out.size)); have c5 := cell_of_box hg2 (ent5' x); clear hg2 hb2))
      go_roundw
      case rel => exact ⟨k + 1, by omega, by simp, by rw [HST.out], HB2⟩
      case measure => simp [intOf]; omega
    · obtain rfl : k = l.length := by omega
      go_wp2
      go_ret
      exact ⟨rfl, HBr.out⟩
set_option maxRecDepth 100000 in
set_option maxHeartbeats 4000000 in
theorem before_nil (A : Option Addr) (c : Nat) (i : Int) (hi : 0 < i) (w : World) :
    Calls Try.prog 28 #[.slice A 0 c, .int .i64 i] w fun e w' => e = .returned (.int .i64 0) ∧ Below w.heap.size w w' := by
  have HB := Aside0.mk (Below.refl w.heap.size w)
  have hi2 : ¬ i ≤ 0 := by omega
  go_enter Try.func28, Try.ntmps28
  go_wp2_with fail
  go_loopw [5, 16] (fun n i wr => n = .int .i64 0 ∧ i = .int .i64 0 ∧ Aside0 (Below w.heap.size w wr)) (fun _ _ _ => 0)
  case atStart => exact ⟨rfl, rfl, HB⟩
  case round =>
    obtain ⟨rfl, rfl, HBr⟩ := hrel
    go_wp2
    go_ret
    exact ⟨rfl, HBr.out⟩
theorem before_c (l : List S77) (A : Option Addr) (c : Nat) (i : Int) (w : World) (hr : Kd.C k77 w A l.length l) (hc : l.length ≤ c) (hlen : l.length ≤ 1000000) :
    Calls Try.prog 28 #[.slice A l.length c, .int .i64 i] w fun e w' => e = .returned (.int .i64 (befL (l.take (cutI i l.length)))) ∧ Below w.heap.size w w' := by
  unfold cutI
  by_cases h0 : i ≤ 0
  · rw [show (max 0 (min i (l.length : Int))).toNat = 0 by omega]; exact before_low l A c i h0 w
  · by_cases hl0 : l.length = 0
    · rw [show (max 0 (min i (l.length : Int))).toNat = 0 by omega]
      obtain rfl : l = [] := List.length_eq_zero_iff.mp hl0
      exact before_nil A c i (by omega) w
    · by_cases h1 : (l.length : Int) < i
      · rw [show (max 0 (min i (l.length : Int))).toNat = l.length by omega]; exact before_high l A c i h1 (by omega) w hr hc hlen
      · obtain ⟨m, rfl⟩ : ∃ m : Nat, i = m := ⟨i.toNat, by omega⟩
        rw [show (max 0 (min (m : Int) (l.length : Int))).toNat = m by omega]; exact before_mid l A c m (by omega) (by omega) w hr hc hlen
end Go.Proofs.Ytalncokpbgbccaa.E

/- CountOf, Locate: what the program says of a list of entries. -/
namespace Go.Proofs.Ytalncokpbgbccaa.E
set_option linter.unusedVariables false
set_option linter.unusedSimpArgs false
open Go.RowKit Go.Proofs.YtalncokpbgbccaaW.PrintWords Go.Proofs.YtalncokpbgbccaaW.PrintLast Go.Proofs.YtalncokpbgbccaaW.PrintMore

def countI (l : List S77) (level : Int) : Int := if level ≤ 0 then l.length else befL l
set_option maxRecDepth 100000 in
set_option maxHeartbeats 4000000 in
theorem countOf_c (l : List S77) (A : Option Addr) (c : Nat) (level : Int) (w : World) (hr : Kd.C k77 w A l.length l) (hc : l.length ≤ c) (hlen : l.length ≤ 1000000) :
    Calls Try.prog 18 #[.slice A l.length c, .int .i64 level] w fun e w' => e = .returned (.int .i64 (countI l level)) ∧ Below w.heap.size w w' := by
  have HBF := before_c l A c l.length w hr hc hlen
  rw [show cutI (l.length : Int) l.length = l.length by unfold cutI; omega, List.take_length] at HBF
  have HBFA := Aside0.mk HBF
  clear HBF hr hc
  by_cases hl : level ≤ 0
  · have hv := Aside0.mk (show countI l level = l.length by simp [countI, hl])
    rw [hv.out]
    have hb : decide (level ≤ 0) = true := decide_eq_true hl
    clear hl
    go_enter Try.func18, Try.ntmps18
    go_wp2_with fail
    go_ret
    exact ⟨rfl, Below.refl _ _⟩
  · have hv := Aside0.mk (show countI l level = befL l by simp [countI, hl])
    rw [hv.out]
    have hb : decide (level ≤ 0) = false := decide_eq_false hl
    clear hl
    go_enter Try.func18, Try.ntmps18
    go_wp2_with (first | (go_at_call 28; refine HBFA.out.mono ?_; rintro e w' ⟨rfl, hb2⟩; have HB := Aside0.mk hb2; clear hb2))
    go_ret
    exact ⟨rfl, HB.out⟩
/-- the child below which a rank is, and the rank there; the machine's subtraction -/
def locF : List S77 → Nat → Int → Int × Int × Int
  | [], _, _ => (0, 0, 4)
  | x :: r, i, rank => if rank < x.f5 then ((i : Int), rank, 0) else locF r (i + 1) (wrap64 (rank - x.f5))
def locR (l : List S77) (rank : Int) : Int × Int × Int := if rank < 0 then (0, 0, 4) else locF l 0 rank
theorem locF_drop (l : List S77) (k : Nat) (rank : Int) (h : k < l.length) : locF (l.drop k) k rank = if rank < (l.getD k z77).f5 then ((k : Int), rank, 0) else locF (l.drop (k + 1)) (k + 1) (wrap64 (rank - (l.getD k z77).f5)) := by
  rw [List.drop_eq_getElem_cons h, locF]
  simp [h]
set_option maxRecDepth 100000 in
set_option maxHeartbeats 4000000 in
theorem locate_ok (l : List S77) (A : Option Addr) (c : Nat) (rank : Int) (w : World) (hr : Kd.C k77 w A l.length l) (hlen : l.length ≤ 1000000) (h0 : ¬ rank < 0) :
    Calls Try.prog 29 #[.slice A l.length c, .int .i64 rank] w fun e w' => e = .returned (.tuple #[.int .i64 (locF l 0 rank).1, .int .i64 (locF l 0 rank).2.1, .int .i64 (locF l 0 rank).2.2]) ∧ Below w.heap.size w w' := by
  have HR := Aside0.mk hr
  have HB := Aside0.mk (Below.refl w.heap.size w)
  obtain ⟨T, hT⟩ : ∃ T, locF l 0 rank = T := ⟨_, rfl⟩
  have HT := Aside0.mk (show locF (l.drop 0) 0 rank = T from hT)
  rw [hT]
  clear hr hT
  have hb : decide (rank < 0) = false := decide_eq_false h0
  clear h0
  go_enter Try.func29, Try.ntmps29
  go_wp2_with fail
  go_loopw [1, 13] (fun r i wr => ∃ (k : Nat) (q : Int), k ≤ l.length ∧ i = .int .i64 k ∧ r = .int .i64 q ∧ Aside0 (locF (l.drop k) k q = T) ∧ Aside0 (Below w.heap.size w wr)) (fun _ i _ => l.length - (intOf i).toNat)
  case atStart => exact ⟨0, rank, Nat.zero_le _, rfl, rfl, HT, HB⟩
  case round =>
    obtain ⟨k, q, hk, rfl, rfl, HQ, HBr⟩ := hrel
    by_cases hlt : k < l.length
    · obtain ⟨ad, rfl, hel⟩ := elem_at (Kd.C_below HR.out HBr.out) k (by omega)
      have HEL := Aside0.mk hel
      have HST := Aside0.mk (locF_drop l k q hlt)
      have hkw : wrap64 ((k : Int) + 1) = (k : Int) + 1 := w64 _ (by omega) (by omega)
      clear hel
      generalize l.getD k z77 = x at HEL HST
      by_cases hq : q < x.f5
      · have HT2 := Aside0.mk (show T = ((k : Int), q, 0) by rw [← HQ.out, HST.out, if_pos hq])
        have hqb : decide (q < x.f5) = true := decide_eq_true hq
        clear hq
        go_wp2_with (first
          | ((with_reducible refine gate_dst (N := 17) rfl ?_); refine wpList_load_el rfl (.tmp 16) rfl _ rfl x HEL.out ?_)
          | (refine wpList_store_new rfl (.tmp 8) (.tmp 17) rfl x rfl rfl rfl ?_; intro W2 hg2 hb2; have HB2 := Aside0.mk (HBr.out.trans (hb2.mono HBr.out.size)); have c5 := cell_of_box hg2 (ent5' x); clear hg2 hb2))
        go_ret3
        exact ⟨by rw [HT2.out]; rfl, HB2.out⟩
      · have HT2 := Aside0.mk (show locF (l.drop (k + 1)) (k + 1) (wrap64 (q - x.f5)) = T by rw [← HQ.out, HST.out, if_neg hq])
        have hqb : decide (q < x.f5) = false := decide_eq_false hq
        clear hq
        go_wp2_with (first
          | ((with_reducible refine gate_dst (N := 17) rfl ?_); refine wpList_load_el rfl (.tmp 16) rfl _ rfl x HEL.out ?_)
          | (refine wpList_store_new rfl (.tmp 8) (.tmp 17) rfl x rfl rfl rfl ?_; intro W2 hg2 hb2; have HB2 := Aside0.mk (HBr.out.trans (hb2.mono HBr.out.size)); have c5 := cell_of_box hg2 (ent5' x); clear hg2 hb2))
        go_roundw
        case rel => exact ⟨k + 1, _, by omega, by simp, rfl, HT2, HB2⟩
        case measure => simp [intOf]; omega
    · obtain rfl : k = l.length := by omega
      have HT2 := Aside0.mk (show T = (0, 0, 4) by rw [← HQ.out, List.drop_length]; rfl)
      go_wp2
      go_ret3
      exact ⟨by rw [HT2.out]; rfl, HBr.out⟩
set_option maxRecDepth 100000 in
set_option maxHeartbeats 4000000 in
theorem locate_c (l : List S77) (A : Option Addr) (c : Nat) (rank : Int) (w : World) (hr : Kd.C k77 w A l.length l) (hlen : l.length ≤ 1000000) :
    Calls Try.prog 29 #[.slice A l.length c, .int .i64 rank] w fun e w' => e = .returned (.tuple #[.int .i64 (locR l rank).1, .int .i64 (locR l rank).2.1, .int .i64 (locR l rank).2.2]) ∧ Below w.heap.size w w' := by
  unfold locR
  by_cases h0 : rank < 0
  · rw [if_pos h0]
    have hb : decide (rank < 0) = true := decide_eq_true h0
    clear h0 hr
    go_enter Try.func29, Try.ntmps29
    go_wp2_with fail
    go_ret3
    exact ⟨rfl, Below.refl _ _⟩
  · rw [if_neg h0]; exact locate_ok l A c rank w hr hlen h0
end Go.Proofs.Ytalncokpbgbccaa.E

/- The order of byte sequences: '<=', '>', '>=' of two strings, each as one test of 'less'. -/
namespace Go.Proofs.Ytalncokpbgbccaa.E
set_option linter.unusedSimpArgs false
open Go.RowKit

theorem less_cons (x y : UInt8) (a b : List UInt8) : Op.bytesLess (x :: a) (y :: b) = if x.toNat < y.toNat then true else if y.toNat < x.toNat then false else Op.bytesLess a b := by
  rw [Op.bytesLess]
  by_cases h : x.toNat < y.toNat
  · have h' : x < y := UInt8.lt_iff_toNat_lt.mpr h
    simp [h, h']
  · have h' : ¬ x < y := fun e => h (UInt8.lt_iff_toNat_lt.mp e)
    by_cases g : y.toNat < x.toNat
    · have e : ¬ x = y := fun e => by rw [e] at g; omega
      simp [h, h', g, e]
    · have e : x = y := UInt8.toNat_inj.mp (by omega)
      simp [h, h', g, e]
theorem less_total : ∀ a b : List UInt8, (Op.bytesLess a b || a == b) = !Op.bytesLess b a
  | [], [] => rfl
  | [], y :: b => by simp [Op.bytesLess]
  | x :: a, [] => by simp [Op.bytesLess]
  | x :: a, y :: b => by
    have ih := less_total a b
    rw [less_cons, less_cons, List.cons_beq_cons]
    by_cases h : x.toNat < y.toNat
    · rw [if_pos h, if_neg (by omega), if_pos h]; rfl
    · by_cases g : y.toNat < x.toNat
      · have e : ¬ x = y := fun e => by rw [e] at g; omega
        rw [if_neg h, if_pos g, if_pos g]; simp [e]
      · have e : x = y := UInt8.toNat_inj.mp (by omega)
        rw [if_neg h, if_neg g, if_neg g, if_neg h, ← ih]; simp [e]
@[go_sem] theorem leq_string (t : TypeId) (a b : ByteArray) : binOp .leq t (.string a) (.string b) = pure (.bool (!Op.bytesLess b.toList a.toList)) := by
  rw [← less_total]; simp [binOp, Op.stringOp]
@[go_sem] theorem gtr_string (t : TypeId) (a b : ByteArray) : binOp .gtr t (.string a) (.string b) = pure (.bool (Op.bytesLess b.toList a.toList)) := by
  rw [show Op.bytesLess b.toList a.toList = !(Op.bytesLess a.toList b.toList || a.toList == b.toList) by rw [less_total]; simp]; simp [binOp, Op.stringOp]
@[go_sem] theorem geq_string (t : TypeId) (a b : ByteArray) : binOp .geq t (.string a) (.string b) = pure (.bool (!Op.bytesLess a.toList b.toList)) := by simp [binOp, Op.stringOp]
end Go.Proofs.Ytalncokpbgbccaa.E

