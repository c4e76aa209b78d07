import Derived.Test.YthpabgiicglbmaaHH
import Derived.Test.YthpabgiicglbmaaHJ
import Derived.RangeFuncNested
import Derived.RangeFuncBound
import Derived.RangeFuncCalls
import Derived.RangeFuncLeaves
import Derived.Shelf.Abstract
import Derived.Shelf.RegionOpen
import Derived.WalkKit
import Derived.OwnWalkIn
import Derived.TacticsInMore
import Derived.LoopNIn
import Derived.LoopIn
namespace Go.Proofs.Ythpabgiicglbmaa.E
set_option linter.unusedVariables false
set_option linter.unusedSimpArgs false
open Go.RowKit Go.Shelf Go.Proofs.YthpabgiicglbmaaW.PrintWords Go.Proofs.YthpabgiicglbmaaW.PrintLast Go.Proofs.YthpabgiicglbmaaW.PrintMore
attribute [local go_sem] Oper.semAt_some

def escB (l : Bytes) : Bytes := l.flatMap fun b => if b = 0 then [0, 255] else [b]
theorem escL_escB (l : Bytes) : escL l = escB l ++ [0, 1] := by
  induction l with
  | nil => rfl
  | cons b r ih =>
    rw [escL, ih]
    by_cases h : b = 0 <;> simp [escB, h]
theorem escB_snoc (l : Bytes) (b : UInt8) : escB (l ++ [b]) = escB l ++ (if b = 0 then [0, 255] else [b]) := by simp [escB]
theorem escB_len (l : Bytes) : (escB l).length ≤ 2 * l.length := by
  induction l with
  | nil => simp [escB]
  | cons b r ih =>
    rw [show escB (b :: r) = (if b = 0 then [0, 255] else [b]) ++ escB r from by simp [escB]]
    split <;> simp <;> omega

/-- the box of a captured string holds what it held -/
def SameBox (Bs : Nat) (A B : World) : Prop := B.cell? ⟨Bs, 0, none⟩ = A.cell? ⟨Bs, 0, none⟩
theorem SameBox.refl (Bs : Nat) (A : World) : SameBox Bs A A := rfl
theorem SameBox.trans {Bs : Nat} {A B C : World} (h : SameBox Bs A B) (k : SameBox Bs B C) : SameBox Bs A C := Eq.trans k h
theorem SameBox.put {Bs : Nat} {w : World} (hn : Bs < w.heap.size) (W : World) (l : Nat) (o o' : Obj) (hl : w.heap.size ≤ l) (_ : W.heap[l]? = some o) (_ : o.isCells = false) (_ : o.isWalk = false) : SameBox Bs W (W.putObj l o') := by
  have : (W.putObj l o').heap[Bs]? = W.heap[Bs]? := World.putObj_heap_other (by omega)
  simp [SameBox, World.cell?, this]

set_option maxRecDepth 100000 in
set_option maxHeartbeats 1000000 in
theorem escaped_in (F : Fence) (n : Nat) (h62 : F.fn 62) (hro : F.round = none) (s : ByteArray) (w : World) :
    CallsIn F n Try.prog 62 #[.string s] w fun e w' => e = .returned (.func (.func 94) #[] #[.pointer (some ⟨w.heap.size, 0, none⟩)]) ∧ w' = w.alloc (.cells #[.string s] 9) := by
  have hmf : ∀ (fn : Fn) (first cap : Array Value) (w : World), (Instr.makeFunc fn first cap).run Try.prog w = .ok (.func fn first cap) w := fun _ _ _ _ => rfl
  refine callsIn_of_wp Try.func62 rfl h62 ?_ hro
  simp only [Try.ntmps62, List.size_toArray, List.length_cons, List.length_nil, Nat.reduceAdd, Nat.reduceSub, Array.replicate_succ, Array.replicate_zero, List.push_toArray, List.append_toArray, List.nil_append, List.cons_append]
  gi_wp2
  go_ret
  exact ⟨rfl, rfl⟩
set_option maxRecDepth 100000 in
set_option maxHeartbeats 2000000 in
theorem escaped1_in (F : Fence) (n : Nat) (h94 : F.fn 94) (hro : F.round = none) (hn : 1 ≤ n) (l Bs N : Nat) (s : Bytes) (hs : s.length ≤ 1000000) (hN : 3000000 ≤ N) (J Jx : Bytes → World → Prop)
    (hY : ∀ pre x W, J pre W → pre.length < N → YieldAt F (n - 1) Try.prog l #[.int .u8 x.toNat] W fun e W' =>
      (e = .returned (.bool true) ∧ J (pre ++ [x]) W' ∧ SameBox Bs W W') ∨ (e = .returned (.bool false) ∧ Jx (pre ++ [x]) W'))
    (W : World) (hBs : W.cell? ⟨Bs, 0, none⟩ = some (.string (ofL s))) (h0 : J [] W) :
    CallsIn F n Try.prog 94 #[.func (.yield l) #[] #[], .pointer (some ⟨Bs, 0, none⟩)] W fun e W' => (∃ v, e = .returned v) ∧
      ((∃ ys, ys = escL s ∧ J ys W') ∨ (∃ pre, True ∧ Jx pre W')) := by
  have hY0 : ∀ pre W, J pre W → pre.length < N → YieldAt F (n - 1) Try.prog l #[.int .u8 0] W fun e W' =>
      (e = .returned (.bool true) ∧ J (pre ++ [0]) W' ∧ SameBox Bs W W') ∨ (e = .returned (.bool false) ∧ Jx (pre ++ [0]) W') := fun pre W hj hl => hY pre 0 W hj hl
  refine callsIn_of_wp Try.func94 rfl h94 ?_ hro
  simp only [Try.ntmps94, List.size_toArray, List.length_cons, List.length_nil, Nat.reduceAdd, Nat.reduceSub, Array.replicate_succ, Array.replicate_zero, List.push_toArray, List.append_toArray, List.nil_append, List.cons_append]
  gi_wp2
  gi_loopw [6] (fun i wr => ∃ k : Nat, k ≤ s.length ∧ i = .int .i64 k ∧ J (escB (s.take k)) wr ∧ SameBox Bs W wr)
    (fun i _ => s.length - (intOf i).toNat)
  case atStart => exact ⟨0, Nat.zero_le _, rfl, h0, SameBox.refl _ _⟩
  case round =>
    obtain ⟨k, hk, rfl, hJs, hnx⟩ := hrel
    have hc := Eq.trans hnx hBs
    by_cases hlt : k < s.length
    · have hlt' : k < (ofL s).size := hlt
      have hx : (ofL s)[k] = s[k] := rfl
      have htk : s.take (k + 1) = s.take k ++ [(ofL s)[k]] := by rw [hx]; exact (List.take_append_getElem hlt).symm
      have hlk : (escB (s.take k)).length ≤ 2 * k := by have := escB_len (s.take k); rw [List.length_take] at this; omega
      obtain ⟨f1, t1, a1, b1, hy1, hR1⟩ := hY _ ((ofL s)[k]) wr hJs (by omega)
      have HT := Aside0.mk htk
      have HL := Aside0.mk hlk
      have HX := Aside0.mk hx
      have HY := Aside0.mk hY
      have H0 := Aside0.mk hY0
      clear htk hlk hx hY hY0
      gi_wp2
      refine hR1.mono ?_
      clear hy1 hR1 hJs
      rintro e W1 (⟨rfl, hJ1, hk1⟩ | ⟨rfl, hJx1⟩)
      · have hc1 := Eq.trans hk1 hc
        by_cases h0' : (ofL s)[k] = 0
        · have ht : (ofL s)[k].toNat = 0 := by rw [h0']; rfl
          obtain ⟨f2, t2, a2, b2, hy2, hR2⟩ := HY.out _ 255 W1 hJ1 (by have := HL.out; simp; omega)
          have hy2 : (Instr.yield l #[.int .u8 255]).run Try.prog W1 = _ := hy2
          have HZ := Aside0.mk h0'
          clear h0'
          gi_wp2
          refine hR2.mono ?_
          clear hy2 hR2 hJ1
          rintro e W2 (⟨rfl, hJ2, hk2⟩ | ⟨rfl, hJx2⟩)
          · gi_wp2
            go_roundw
            case rel => exact ⟨k + 1, by omega, by simp, by rw [HT.out, escB_snoc, if_pos HZ.out]; rw [HZ.out] at hJ2; simpa using hJ2, (hnx.trans hk1).trans hk2⟩
            case measure => simp [intOf]; omega
          · gi_wp2
            refine bodyPost_ret (results_none rfl _ _ _) rfl ?_
            exact ⟨⟨_, rfl⟩, .inr ⟨_, trivial, hJx2⟩⟩
        · have ht : ¬ (ofL s)[k].toNat = 0 := fun e => h0' (UInt8.toNat_inj.mp (by rw [e]; rfl))
          have HZ := Aside0.mk h0'
          clear h0'
          gi_wp2
          refine ⟨fun _ h => (by cases h), ?_⟩
          gi_wp2
          go_roundw
          case rel => exact ⟨k + 1, by omega, by simp, by rw [HT.out, escB_snoc, if_neg HZ.out]; exact hJ1, hnx.trans hk1⟩
          case measure => simp [intOf]; omega
      · gi_wp2
        · rename_i hu _ _ _ _ _ _ _
          cases hu
        · rename_i hu _ _ _ _
          cases hu
        · refine ⟨fun _ h => (by cases h), ?_⟩
          gi_wp2
          refine bodyPost_ret (results_none rfl _ _ _) rfl ?_
          exact ⟨⟨_, rfl⟩, .inr ⟨_, trivial, hJx1⟩⟩
    · obtain rfl : k = s.length := by omega
      rw [List.take_length] at hJs
      have hlk := escB_len s
      have HJ := Aside0.mk (escL_escB s)
      obtain ⟨f1, t1, a1, b1, hy1, hR1⟩ := hY0 _ wr hJs (by omega)
      gi_wp2
      refine hR1.mono ?_
      clear hy1 hR1 hJs
      rintro e W1 (⟨rfl, hJ1, hk1⟩ | ⟨rfl, hJx1⟩)
      · obtain ⟨f2, t2, a2, b2, hy2, hR2⟩ := hY _ 1 W1 hJ1 (by simp; omega)
        have hy2 : (Instr.yield l #[.int .u8 1]).run Try.prog W1 = _ := hy2
        gi_wp2
        refine hR2.mono ?_
        clear hy2 hR2 hJ1
        rintro e W2 (⟨rfl, hJ2, hk2⟩ | ⟨rfl, hJx2⟩)
        · gi_wp2
          go_end0
          exact ⟨⟨_, rfl⟩, .inl ⟨_, HJ.out.symm, by simpa using hJ2⟩⟩
        · gi_wp2
          go_end0
          exact ⟨⟨_, rfl⟩, .inr ⟨_, trivial, hJx2⟩⟩
      · gi_wp2
        go_end0
        exact ⟨⟨_, rfl⟩, .inr ⟨_, trivial, hJx1⟩⟩
theorem escaped_stops (F : Fence) (n : Nat) (h94 : F.fn 94) (hro : F.round = none) (hn : 1 ≤ n) (Bs : Nat) (s : Bytes) (hs : s.length ≤ 1000000) (w : World) (hb : Bs < w.heap.size) (hBs : w.cell? ⟨Bs, 0, none⟩ = some (.string (ofL s))) :
    SeqStopsK F n Try.prog 94 #[.pointer (some ⟨Bs, 0, none⟩)] (fun x : UInt8 => #[.int .u8 x.toNat]) (SameBox Bs) (fun ys => ys = escL s) (fun _ => True) 3000000 w :=
  fun l J Jx W hW _ _ hY h0 => escaped1_in F n h94 hro hn l Bs 3000000 s hs (Nat.le_refl _) J Jx hY W ((hW.cell (p := ⟨Bs, 0, none⟩) hb).trans hBs) h0
end Go.Proofs.Ythpabgiicglbmaa.E

namespace Go.Proofs.Ythpabgiicglbmaa.E
open Go.RowKit Go.Shelf Go.Proofs.YthpabgiicglbmaaW.PrintWords Go.Proofs.YthpabgiicglbmaaW.PrintLast Go.Proofs.YthpabgiicglbmaaW.PrintMore
attribute [local go_sem] Oper.semAt_some

theorem bld_new (w : World) : Bld w.heap.size w.heap.size [] (w.alloc (.cells #[.pointer none, .slice none 0 0] 89)) := Lib.fresh_isBuilder 89 5 w
theorem bld_alloc {B b : Nat} {bs : List Value} {w : World} (h : Bld B b bs w) (o : Obj) : Bld B b bs (w.alloc o) :=
  bld_kept' (row := none) h ⟨rfl, rfl, rfl, by simp, fun k hk _ => Lib.alloc_old w o k hk⟩ (fun _ e => by cases e)

theorem byteCells_snoc (pre : Bytes) (x : UInt8) : Lib.byteCells (pre ++ [x]) = Lib.byteCells pre ++ [.int .u8 x.toNat] := by simp [Lib.byteCells]
/-- the box behind the builder holds the string -/
def Box (b : Nat) (s : Bytes) (W : World) : Prop := W.heap[b + 1]? = some (.cells #[.string (ofL s)] 9 (0, 0))
theorem box_new (w : World) (s : Bytes) : Box w.heap.size s ((w.alloc (.cells #[.pointer none, .slice none 0 0] 89)).alloc (.cells #[.string (ofL s)] 9)) := by
  have := World.alloc_heap_new (w.alloc (.cells #[.pointer none, .slice none 0 0] 89)) (.cells #[.string (ofL s)] 9)
  rw [World.size_alloc] at this
  exact this
theorem box_grown {b : Nat} {s : Bytes} {A C : World} {row : Option Nat} (h : Box b s A) (hg : A.grownBy C row) (hr : ∀ r, row = some r → ∃ o : Obj, A.heap[r]? = some o ∧ o.isCells = false) : Box b s C := by
  have hlt := (Array.getElem?_eq_some_iff.1 h).1
  refine (hg.block _ hlt ?_).trans h
  intro e
  obtain ⟨o, ho, hc⟩ := hr _ e.symm
  rw [Box] at h
  rw [h] at ho; cases ho; cases hc
theorem box_still {b : Nat} {s : Bytes} {A C : World} (h : Box b s A) (k : Lib.OthersKept 5 (some b) A C) : Box b s C :=
  k _ _ h (by simp) (fun _ _ e => by cases e)
theorem box_kept {b : Nat} {s : Bytes} {A C : World} (h : Box b s A) (k : Lib.OthersKept 5 (some b) A C) : SameBox (b + 1) A C := by
  have h2 := box_still h k
  rw [Box] at h h2
  simp [SameBox, World.cell?, h, h2]

set_option maxRecDepth 100000 in
set_option maxHeartbeats 2000000 in
theorem put_text (s : Bytes) (w : World) (hs : s.length ≤ 1000000) :
    Calls Try.prog 29 #[.string (ofL s)] w fun e w' => e = .returned (.string (ofL (escL s))) ∧ Below w.heap.size w w' := by
  refine (callsIn_wide (n := 5)).1 ?_
  refine callsIn_of_wp_marks Try.func29 rfl trivial ?_ rfl
  simp only [Try.ntmps29, List.size_toArray, List.length_cons, List.length_nil, Nat.reduceAdd, Nat.reduceSub, Array.replicate_succ, Array.replicate_zero, List.push_toArray, List.append_toArray, List.nil_append, List.cons_append]
  gi_wp2_with (refine ⟨trivial, ?_⟩; gi_at_call 62; refine (escaped_in Fence.wide _ trivial rfl _ _).mono ?_; rintro e w' ⟨rfl, rfl⟩)
  have hB0 : Below w.heap.size w ((w.alloc (.cells #[.pointer none, .slice none 0 0] 89)).alloc (.cells #[.string (ofL s)] 9)) := ((Below.refl _ w).alloc (Nat.le_refl _) _).alloc (by simp) _
  have hbld := bld_alloc (bld_new w) (.cells #[.string (ofL s)] 9)
  have hc : ((w.alloc (.cells #[.pointer none, .slice none 0 0] 89)).alloc (.cells #[.string (ofL s)] 9)).cell? ⟨w.heap.size + 1, 0, none⟩ = some (.string (ofL s)) := by simp [go_sem]
  have hlen : (escL s).length ≤ 3000000 := by have := escB_len s; rw [escL_escB]; simp; omega
  trace_state
  refine wpIn_rangeFunc_ownF rfl (by omega) (gf := 94) (lb := #[.pointer (some ⟨w.heap.size + 1, 0, none⟩)]) rfl trivial (enters_of Try.func94 (by kernel_rfl) rfl)
    (escaped_stops Fence.wide _ trivial rfl (by omega) (w.heap.size + 1) s hs _ (by simp) hc) SameBox.trans (SameBox.put (by simp)) (Below.refl _ _) (fun _ => rfl)
    (fun pre W => (Bld w.heap.size w.heap.size (Lib.byteCells pre) W ∧ Box w.heap.size s W) ∧ Below w.heap.size w W)
    (fun _ _ _ => False)
    (OwnFrom.and (Own.from (I := fun pre W => Bld w.heap.size w.heap.size (Lib.byteCells pre) W ∧ Box w.heap.size s W) (fun s A B row hs hg hr => ⟨bld_kept' hs.1 hg hr, box_grown hs.2 hg hr⟩) _) (ownFrom_below (Nat.le_refl _) (by simp; omega)))
    (fun _ _ _ _ _ hs _ _ => hs)
    ⟨⟨hbld, box_new w s⟩, hB0⟩
    (fun x => { tmps := #[.string (ofL s), undef, .string ⟨#[]⟩, .pointer (some ⟨w.heap.size, 0, none⟩), .int .u8 x.toNat, .string (ofL s), .func (.func 94) #[] #[.pointer (some ⟨w.heap.size + 1, 0, none⟩)], .int .u8 x.toNat, undef, undef, undef], defers := [] }) ?assign ?body ?done ?stop
  case assign =>
    intro l x W K hK
    gi_wp2
    exact hK
  case body =>
    rintro l pre x W ⟨hb, hB⟩ hpre
    gi_wp2_with (refine ⟨trivial, ?_⟩; gi_at_call 63; refine (CallsIn.inRound l (callsIn_wide.2 (writeByte w.heap.size w.heap.size (Lib.byteCells pre) x.toNat W hb.1 (by rw [Lib.byteCells_length]; omega) hB.size))).mono ?_)
    rintro e W1 ⟨rfl, h1, hb1, hk1, ho1⟩
    gi_wp2
    exact ⟨hk1, box_kept hb.2 ho1, ⟨.inr (by rw [byteCells_snoc]; exact h1), box_still hb.2 ho1⟩, hB.trans hb1⟩
  case done =>
    rintro D ys W hD rfl ⟨hb, hB⟩ hK
    gi_wp2_with (refine ⟨trivial, ?_⟩; gi_at_call 64; refine (callsIn_wide.2 (string_any w.heap.size w.heap.size (escL s) W hb.1 hB.size)).mono ?_)
    rintro e W1 ⟨rfl, hb1, hk1⟩
    have hK1 := hk1.same D _ hK rfl
    gi_wp2
    refine ⟨by simp, .inl ⟨_, _, rfl, run_takeDeferred hK1, ?_⟩⟩
    exact ⟨_, results_tmp rfl _ _ _, rfl, (hB.trans hb1).trans (belowK_b (w := w) (Nat.le_refl _) W1 D _ _ (by simp at hD; omega) hK1 rfl rfl)⟩
  case stop =>
    rintro D c pre W _ _ h _
    exact h.elim
theorem enc_PutText.calls (a0 : ByteArray) (r : ByteArray) (w : World) (h : enc_PutText.f a0 = some r) :
    Calls Try.prog 29 #[.string a0] w fun e w' => e = .returned (.string r) ∧ Below w.heap.size w w' := by
  unfold enc_PutText.f at h
  split at h
  · rename_i hs
    obtain ⟨l, rfl⟩ : ∃ l, a0 = ofL l := ⟨toL a0, (ofL_toL a0).symm⟩
    rw [toL_ofL] at h
    obtain rfl := Option.some.inj h
    exact put_text l w hs
  · cases h
end Go.Proofs.Ythpabgiicglbmaa.E
