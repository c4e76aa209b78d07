import Derived.Test.YthpabgiicglbmaaHM
import Derived.Test.YthpabgiicglbmaaHO
import Derived.Test.YthpabgiicglbmaaHG
import Derived.Test.YthpabgiicglbmaaHH
import Derived.Test.YthpabgiicglbmaaHD
namespace Go.Proofs.Ythpabgiicglbmaa.E
set_option linter.unusedVariables false
set_option linter.unusedSimpArgs false
open Go.RowKit Go.Proofs.YthpabgiicglbmaaW.PrintWords Go.Proofs.YthpabgiicglbmaaW.PrintLast Go.Proofs.YthpabgiicglbmaaW.PrintMore

theorem But.setNew {g : Nat} {a b : World} (h : But g a b) (p : Addr) (hp : a.heap.size ≤ p.block) (v : Value) : But g a (b.setCell p v) := by
  have k := (Below.refl p.block b).setCell (p := p) (Nat.le_refl _) v
  exact ⟨k.os.trans h.os, k.tape.trans h.tape, k.output.trans h.output, Nat.le_trans h.size k.size, fun i hi hg => (k.block i (by omega)).trans (h.block i hi hg)⟩
theorem Now.setNew {g : Nat} {l : Bytes} {a b : World} (hg : g < a.heap.size) (h : Now g l a b) (p : Addr) (hp : a.heap.size ≤ p.block) (v : Value) : Now g l a (b.setCell p v) := by
  have k := (Below.refl p.block b).setCell (p := p) (Nat.le_refl _) v
  exact ⟨(k.cell (p := ⟨g, 0, none⟩) (by simp; omega)).trans h.cell, (k.frozen (p := ⟨g, 0, none⟩) (by simp; omega)).trans h.frozen, h.but.setNew p hp v⟩
theorem Now.alloc {g : Nat} {l : Bytes} {a b : World} (hg : g < b.heap.size) (h : Now g l a b) (o : Obj) : Now g l a (b.alloc o) := by
  have k := (Below.refl b.heap.size b).alloc (Nat.le_refl _) o
  exact ⟨(k.cell (p := ⟨g, 0, none⟩) hg).trans h.cell, (k.frozen (p := ⟨g, 0, none⟩) hg).trans h.frozen, h.but.alloc o⟩

/-- what a reading of a datum does -/
def GetPost (tgt : Option (S49 × Bytes)) (g : Nat) (w : World) (e : Ending) (w' : World) : Prop :=
  (∃ x rest, tgt = some (x, rest) ∧ e = .returned (sV x) ∧ Now g rest w w') ∨ (tgt = none ∧ e = .panicked fail ∧ But g w w')
def getL (k : Nat) (l : Bytes) : Option (S49 × Bytes) :=
  if k = 0 then some (⟨0, 0, ⟨#[]⟩⟩, l)
  else if k = 1 then (match l with | [] => none | c :: r => if c.toNat ≤ 1 then some (⟨1, c.toNat, ⟨#[]⟩⟩, r) else none)
  else if k = 2 then (getIntL l).map fun n => (⟨2, n, ⟨#[]⟩⟩, l.drop 8)
  else (unescL l).map fun x => (⟨3, 0, ofL x.1⟩, l.drop x.2)

set_option maxRecDepth 100000 in
theorem get_0 (g : Nat) (l : Bytes) (w : World) (hc : w.cell? ⟨g, 0, none⟩ = some (.string (ofL l))) (hf : w.frozen? ⟨g, 0, none⟩ = false) :
    Calls Try.prog 98 #[.pointer (some ⟨g, 0, none⟩)] w fun e w' => GetPost (getL 0 l) g w e w' := by
  have HN := Aside0.mk ((Now.here hc hf).alloc (lt_cell hc) (.cells #[.int .i64 0, .int .i64 0, .string ⟨#[]⟩] 49))
  clear hc hf
  go_enter Try.func98, Try.ntmps98
  go_wp2
  exact bodyPost_ret (v := sV ⟨0, 0, ⟨#[]⟩⟩) (by simp [results, Try.results98, go_sem]) rfl (.inl ⟨_, _, rfl, rfl, HN.out⟩)
set_option maxRecDepth 100000 in
theorem get_1 (g : Nat) (l : Bytes) (w : World) (hc : w.cell? ⟨g, 0, none⟩ = some (.string (ofL l))) (hf : w.frozen? ⟨g, 0, none⟩ = false) :
    Calls Try.prog 101 #[.pointer (some ⟨g, 0, none⟩)] w fun e w' => GetPost (getL 1 l) g w e w' := by
  have hgw := lt_cell hc
  have HW := Aside0.mk (Now.here hc hf)
  have HN := Aside0.mk ((Now.here hc hf).alloc (lt_cell hc) (.cells #[.int .i64 0, .int .i64 0, .string ⟨#[]⟩] 49))
  clear hc hf
  go_enter Try.func101, Try.ntmps101
  cases l with
  | nil =>
    go_wp2_with fail
    refine (take1_no g _ HN.out.cell).mono ?_
    rintro e w' ⟨rfl, rfl⟩
    exact ⟨rfl, .inr ⟨rfl, rfl, HN.out.but⟩⟩
  | cons c r =>
    have hi2 := idx0 c
    have hs2 := len1 c
    go_wp2_with fail
    refine (take1' g c r _ HN.out.cell HN.out.frozen).mono ?_
    rintro e w1 ⟨rfl, HE⟩
    have HN1 := Aside0.mk (show Now g r w w1 by rw [HE.out]; exact HN.out.trans (Now.set r HN.out.cell HN.out.frozen))
    have z0 : w1.cell? ⟨w.heap.size, 0, none⟩ = some (.int .i64 0) := by
      rw [HE.out, ((But.refl g _).setCell 0 _).cell (by simp) (by omega)]; simp [go_sem]
    have z1 : w1.cell? ⟨w.heap.size, 1, none⟩ = some (.int .i64 0) := by
      rw [HE.out, ((But.refl g _).setCell 0 _).cell (by simp) (by omega)]; simp [go_sem]
    have z2 : w1.cell? ⟨w.heap.size, 2, none⟩ = some (.string ⟨#[]⟩) := by
      rw [HE.out, ((But.refl g _).setCell 0 _).cell (by simp) (by omega)]; simp [go_sem]
    have f0 : ∀ j, w1.frozen? ⟨w.heap.size, j, none⟩ = false := fun j => by
      rw [HE.out, ((But.refl g _).setCell 0 _).frozen (by simp) (by omega)]; simp [go_sem]
    clear HE HN HW
    have hwr : wrap64 (c.toNat : Int) = c.toNat := by have := c.toNat_lt; exact w64 _ (by omega) (by omega)
    by_cases h1 : c.toNat ≤ 1
    · have hd : decide (c.toNat ≤ 1) = true := decide_eq_true h1
      have HG : Aside0 (getL 1 (c :: r) = some (⟨1, c.toNat, ⟨#[]⟩⟩, r)) := ⟨by simp [getL, h1]⟩
      go_wp2_with fail
      refine (must_yes' _ _ (by simp; omega)).mono ?_
      rintro e w2 ⟨rfl, rfl⟩
      go_wp2
      exact bodyPost_ret (v := sV ⟨1, c.toNat, ⟨#[]⟩⟩) (by simp [results, Try.results101, go_sem, z0, z1, z2]) rfl (.inl ⟨_, _, HG.out, rfl, ((HN1.out.setNew hgw _ (by simp) _).setNew hgw _ (by simp) _).setNew hgw _ (by simp) _⟩)
    · have HG : Aside0 (getL 1 (c :: r) = none) := ⟨by simp [getL, h1]⟩
      go_wp2_with fail
      refine (must_no' _ _ (by simp; omega)).mono ?_
      rintro e w2 ⟨rfl, rfl⟩
      exact ⟨rfl, .inr ⟨HG.out, rfl, HN1.out.but⟩⟩
theorem kept_cell {g : Nat} {w w1 : World} (hgw : g < w.heap.size) (hb : But g (w.alloc (.cells #[.int .i64 0, .int .i64 0, .string ⟨#[]⟩] 49)) w1) :
    w1.cell? ⟨w.heap.size, 0, none⟩ = some (.int .i64 0) ∧ w1.cell? ⟨w.heap.size, 1, none⟩ = some (.int .i64 0) ∧ w1.cell? ⟨w.heap.size, 2, none⟩ = some (.string ⟨#[]⟩) ∧ ∀ j, w1.frozen? ⟨w.heap.size, j, none⟩ = false := by
  refine ⟨?_, ?_, ?_, fun j => ?_⟩
  · rw [hb.cell (by simp) (by omega)]; simp [go_sem]
  · rw [hb.cell (by simp) (by omega)]; simp [go_sem]
  · rw [hb.cell (by simp) (by omega)]; simp [go_sem]
  · rw [hb.frozen (by simp) (by omega)]; simp [go_sem]
set_option maxRecDepth 100000 in
theorem get_2 (g : Nat) (l : Bytes) (w : World) (hc : w.cell? ⟨g, 0, none⟩ = some (.string (ofL l))) (hf : w.frozen? ⟨g, 0, none⟩ = false) :
    Calls Try.prog 104 #[.pointer (some ⟨g, 0, none⟩)] w fun e w' => GetPost (getL 2 l) g w e w' := by
  have hgw := lt_cell hc
  have HN := Aside0.mk ((Now.here hc hf).alloc (lt_cell hc) (.cells #[.int .i64 0, .int .i64 0, .string ⟨#[]⟩] 49))
  clear hc hf
  go_enter Try.func104, Try.ntmps104
  cases hi : getIntL l with
  | none =>
    have HG : Aside0 (getL 2 l = none) := ⟨by simp [getL, hi]⟩
    have HI := Aside0.mk hi
    clear hi
    go_wp2_with fail
    refine (int_bad g l _ HN.out.cell HI.out).mono ?_
    rintro e w' ⟨rfl, hb⟩
    exact ⟨rfl, .inr ⟨HG.out, rfl, HN.out.but.trans hb⟩⟩
  | some n =>
    have HG : Aside0 (getL 2 l = some (⟨2, n, ⟨#[]⟩⟩, l.drop 8)) := ⟨by simp [getL, hi]⟩
    have HI := Aside0.mk hi
    clear hi
    go_wp2_with fail
    refine (int_ok g l n _ HN.out.cell HN.out.frozen HI.out).mono ?_
    rintro e w1 ⟨rfl, hn⟩
    obtain ⟨z0, z1, z2, f0⟩ := kept_cell hgw hn.but
    have HN1 := Aside0.mk (HN.out.trans hn)
    clear hn HN HI
    go_wp2
    exact bodyPost_ret (v := sV ⟨2, n, ⟨#[]⟩⟩) (by simp [results, Try.results104, go_sem, z0, z1, z2]) rfl (.inl ⟨_, _, HG.out, rfl, ((HN1.out.setNew hgw _ (by simp) _).setNew hgw _ (by simp) _).setNew hgw _ (by simp) _⟩)
theorem textGo_unesc (l : Bytes) : textGo [] l = (unescL l).map fun x => (x.1, l.drop x.2) := by simp [textGo]
set_option maxRecDepth 100000 in
theorem get_3 (g : Nat) (l : Bytes) (w : World) (hl : l.length ≤ 1000000) (hc : w.cell? ⟨g, 0, none⟩ = some (.string (ofL l))) (hf : w.frozen? ⟨g, 0, none⟩ = false) :
    Calls Try.prog 107 #[.pointer (some ⟨g, 0, none⟩)] w fun e w' => GetPost (getL 3 l) g w e w' := by
  have hgw := lt_cell hc
  have HN := Aside0.mk ((Now.here hc hf).alloc (lt_cell hc) (.cells #[.int .i64 0, .int .i64 0, .string ⟨#[]⟩] 49))
  clear hc hf
  have HG : Aside0 (getL 3 l = (textGo [] l).map fun x => (⟨3, 0, ofL x.1⟩, x.2)) := ⟨by rw [textGo_unesc]; simp [getL, Function.comp_def]⟩
  go_enter Try.func107, Try.ntmps107
  go_wp2_with fail
  refine (text_any g l _ HN.out.cell HN.out.frozen hl).mono ?_
  rintro e w1 (⟨t, rest, ht, rfl, hn⟩ | ⟨ht, rfl, hb⟩)
  · obtain ⟨z0, z1, z2, f0⟩ := kept_cell hgw hn.but
    have HN1 := Aside0.mk (HN.out.trans hn)
    have HT := Aside0.mk ht
    clear hn HN ht
    go_wp2
    exact bodyPost_ret (v := sV ⟨3, 0, ofL t⟩) (by simp [results, Try.results107, go_sem, z0, z1, z2]) rfl (.inl ⟨_, _, by rw [HG.out, HT.out]; rfl, rfl, ((HN1.out.setNew hgw _ (by simp) _).setNew hgw _ (by simp) _).setNew hgw _ (by simp) _⟩)
  · exact ⟨rfl, .inr ⟨by rw [HG.out, ht]; rfl, rfl, HN.out.but.trans hb⟩⟩
end Go.Proofs.Ythpabgiicglbmaa.E

namespace Go.Proofs.Ythpabgiicglbmaa.E
open Go.RowKit Go.Proofs.YthpabgiicglbmaaW.PrintWords Go.Proofs.YthpabgiicglbmaaW.PrintLast Go.Proofs.YthpabgiicglbmaaW.PrintMore

/-- the datum at the beginning, and what follows -/
def datL (l : Bytes) : Option (S49 × Bytes) :=
  match l with
  | [] => none
  | b :: r => if 1 ≤ b.toNat ∧ b.toNat ≤ 4 then getL (b.toNat - 1) r else none

set_option maxRecDepth 100000 in
set_option maxHeartbeats 1000000 in
theorem dat_walk (g : Nat) (l : Bytes) (w : World) (hl : l.length ≤ 1000000) (hc : w.cell? ⟨g, 0, none⟩ = some (.string (ofL l))) (hf : w.frozen? ⟨g, 0, none⟩ = false) :
    Calls Try.prog 110 #[.pointer (some ⟨g, 0, none⟩)] w fun e w' => GetPost (datL l) g w e w' := by
  have hgw := lt_cell hc
  have HN := Aside0.mk ((Now.here hc hf).alloc (lt_cell hc) (.cells #[.int .i64 0, .int .i64 0, .string ⟨#[]⟩] 49))
  clear hc hf
  go_enter Try.func110, Try.ntmps110
  cases l with
  | nil =>
    go_wp2_with fail
    refine (take1_no g _ HN.out.cell).mono ?_
    rintro e w' ⟨rfl, rfl⟩
    exact ⟨rfl, .inr ⟨rfl, rfl, HN.out.but⟩⟩
  | cons c r =>
    have HLN : Aside0 (r.length ≤ 1000000) := ⟨by simp at hl; omega⟩
    clear hl
    have hi2 := idx0 c
    have hs2 := len1 c
    go_wp2_with fail
    refine (take1' g c r _ HN.out.cell HN.out.frozen).mono ?_
    rintro e w1 ⟨rfl, HE⟩
    have HN1 := Aside0.mk (show Now g r w w1 by rw [HE.out]; exact HN.out.trans (Now.set r HN.out.cell HN.out.frozen))
    have hlw : w.heap.size < w1.heap.size := by rw [HE.out]; simp
    have HZ : Aside0 (But g (w.alloc (.cells #[.int .i64 0, .int .i64 0, .string ⟨#[]⟩] 49)) w1) := ⟨by rw [HE.out]; exact (But.refl g _).setCell 0 _⟩
    clear HE HN
    have hlt := c.toNat_lt
    by_cases h0 : c.toNat = 0
    · have HG : Aside0 (datL (c :: r) = none) := ⟨by simp [datL, h0]⟩
      clear hlt
      go_wp2_with fail
      refine (must_no' _ _ (by simp)).mono ?_
      rintro e w2 ⟨rfl, rfl⟩
      exact ⟨rfl, .inr ⟨HG.out, rfl, HN1.out.but⟩⟩
    · by_cases h5 : 5 ≤ c.toNat
      · have HG : Aside0 (datL (c :: r) = none) := ⟨by simp only [datL]; rw [if_neg (by omega)]⟩
        have hwr : wrap64 ((c.toNat : Int) - 1) = (c.toNat : Int) - 1 := w64 _ (by omega) (by omega)
        have hge : decide ((c.toNat : Int) - 1 ≥ 0) = true := decide_eq_true (by omega)
        have hle : decide ((c.toNat : Int) - 1 ≤ 3) = false := decide_eq_false (by omega)
        go_wp2_with fail
        refine (must_no' _ _ rfl).mono ?_
        rintro e w2 ⟨rfl, rfl⟩
        exact ⟨rfl, .inr ⟨HG.out, rfl, HN1.out.but⟩⟩
      · have h4 : c.toNat = 1 ∨ c.toNat = 2 ∨ c.toNat = 3 ∨ c.toNat = 4 := by omega
        clear h0 h5 hlt
        rcases h4 with h4 | h4 | h4 | h4
        · have HG : Aside0 (datL (c :: r) = getL 0 r) := ⟨by simp [datL, h4]⟩
          have hix := index_0
          have hfl := field_0_2
          go_wp2_with fail
          refine (must_yes' _ _ (by simp)).mono ?_
          rintro e w2 ⟨rfl, rfl⟩
          go_wp2_with fail
          refine (kinds_walk _).mono ?_
          rintro e w3 ⟨rfl, hb⟩
          have hn := HN1.out.below_trans hgw (hb.mono (Nat.le_of_lt hlw))
          have HZ3 := Aside0.mk (HZ.out.below_trans (hb.mono (by simp; omega)))
          clear hb
          have HC := Aside0.mk (get_0 g r _ hn.cell hn.frozen)
          have HN3 := Aside0.mk hn
          clear hn HZ
          go_wp2_with fail
          refine HC.out.mono ?_
          rintro e w4 (⟨x, rest, hx, rfl, hn4⟩ | ⟨hx, rfl, hb4⟩)
          · obtain ⟨z0, z1, z2, f0⟩ := kept_cell hgw (HZ3.out.trans hn4.but)
            have HN4 := Aside0.mk (HN3.out.trans hn4)
            have HX := Aside0.mk hx
            clear hn4 hx HC HN3 HZ3
            go_wp2
            exact bodyPost_ret (v := sV x) (by simp [results, Try.results110, go_sem, z0, z1, z2]) rfl (.inl ⟨_, _, by rw [HG.out, HX.out], rfl, ((HN4.out.setNew hgw _ (by simp) _).setNew hgw _ (by simp) _).setNew hgw _ (by simp) _⟩)
          · exact ⟨rfl, .inr ⟨by rw [HG.out, hx], rfl, HN3.out.but.trans hb4⟩⟩
        · have HG : Aside0 (datL (c :: r) = getL 1 r) := ⟨by simp [datL, h4]⟩
          have hix := index_1
          have hfl := field_1_2
          go_wp2_with fail
          refine (must_yes' _ _ (by simp)).mono ?_
          rintro e w2 ⟨rfl, rfl⟩
          go_wp2_with fail
          refine (kinds_walk _).mono ?_
          rintro e w3 ⟨rfl, hb⟩
          have hn := HN1.out.below_trans hgw (hb.mono (Nat.le_of_lt hlw))
          have HZ3 := Aside0.mk (HZ.out.below_trans (hb.mono (by simp; omega)))
          clear hb
          have HC := Aside0.mk (get_1 g r _ hn.cell hn.frozen)
          have HN3 := Aside0.mk hn
          clear hn HZ
          go_wp2_with fail
          refine HC.out.mono ?_
          rintro e w4 (⟨x, rest, hx, rfl, hn4⟩ | ⟨hx, rfl, hb4⟩)
          · obtain ⟨z0, z1, z2, f0⟩ := kept_cell hgw (HZ3.out.trans hn4.but)
            have HN4 := Aside0.mk (HN3.out.trans hn4)
            have HX := Aside0.mk hx
            clear hn4 hx HC HN3 HZ3
            go_wp2
            exact bodyPost_ret (v := sV x) (by simp [results, Try.results110, go_sem, z0, z1, z2]) rfl (.inl ⟨_, _, by rw [HG.out, HX.out], rfl, ((HN4.out.setNew hgw _ (by simp) _).setNew hgw _ (by simp) _).setNew hgw _ (by simp) _⟩)
          · exact ⟨rfl, .inr ⟨by rw [HG.out, hx], rfl, HN3.out.but.trans hb4⟩⟩
        · have HG : Aside0 (datL (c :: r) = getL 2 r) := ⟨by simp [datL, h4]⟩
          have hix := index_2
          have hfl := field_2_2
          go_wp2_with fail
          refine (must_yes' _ _ (by simp)).mono ?_
          rintro e w2 ⟨rfl, rfl⟩
          go_wp2_with fail
          refine (kinds_walk _).mono ?_
          rintro e w3 ⟨rfl, hb⟩
          have hn := HN1.out.below_trans hgw (hb.mono (Nat.le_of_lt hlw))
          have HZ3 := Aside0.mk (HZ.out.below_trans (hb.mono (by simp; omega)))
          clear hb
          have HC := Aside0.mk (get_2 g r _ hn.cell hn.frozen)
          have HN3 := Aside0.mk hn
          clear hn HZ
          go_wp2_with fail
          refine HC.out.mono ?_
          rintro e w4 (⟨x, rest, hx, rfl, hn4⟩ | ⟨hx, rfl, hb4⟩)
          · obtain ⟨z0, z1, z2, f0⟩ := kept_cell hgw (HZ3.out.trans hn4.but)
            have HN4 := Aside0.mk (HN3.out.trans hn4)
            have HX := Aside0.mk hx
            clear hn4 hx HC HN3 HZ3
            go_wp2
            exact bodyPost_ret (v := sV x) (by simp [results, Try.results110, go_sem, z0, z1, z2]) rfl (.inl ⟨_, _, by rw [HG.out, HX.out], rfl, ((HN4.out.setNew hgw _ (by simp) _).setNew hgw _ (by simp) _).setNew hgw _ (by simp) _⟩)
          · exact ⟨rfl, .inr ⟨by rw [HG.out, hx], rfl, HN3.out.but.trans hb4⟩⟩
        · have HG : Aside0 (datL (c :: r) = getL 3 r) := ⟨by simp [datL, h4]⟩
          have hix := index_3
          have hfl := field_3_2
          go_wp2_with fail
          refine (must_yes' _ _ (by simp)).mono ?_
          rintro e w2 ⟨rfl, rfl⟩
          go_wp2_with fail
          refine (kinds_walk _).mono ?_
          rintro e w3 ⟨rfl, hb⟩
          have hn := HN1.out.below_trans hgw (hb.mono (Nat.le_of_lt hlw))
          have HZ3 := Aside0.mk (HZ.out.below_trans (hb.mono (by simp; omega)))
          clear hb
          have HC := Aside0.mk (get_3 g r _ HLN.out hn.cell hn.frozen)
          have HN3 := Aside0.mk hn
          clear hn HZ
          go_wp2_with fail
          refine HC.out.mono ?_
          rintro e w4 (⟨x, rest, hx, rfl, hn4⟩ | ⟨hx, rfl, hb4⟩)
          · obtain ⟨z0, z1, z2, f0⟩ := kept_cell hgw (HZ3.out.trans hn4.but)
            have HN4 := Aside0.mk (HN3.out.trans hn4)
            have HX := Aside0.mk hx
            clear hn4 hx HC HN3 HZ3
            go_wp2
            exact bodyPost_ret (v := sV x) (by simp [results, Try.results110, go_sem, z0, z1, z2]) rfl (.inl ⟨_, _, by rw [HG.out, HX.out], rfl, ((HN4.out.setNew hgw _ (by simp) _).setNew hgw _ (by simp) _).setNew hgw _ (by simp) _⟩)
          · exact ⟨rfl, .inr ⟨by rw [HG.out, hx], rfl, HN3.out.but.trans hb4⟩⟩
end Go.Proofs.Ythpabgiicglbmaa.E
