import Derived.Test.YthpabgiicglbmaaHA
import Derived.Test.YthpabgiicglbmaaHP
import Derived.RegionTactic
import Derived.Test.YthpabgiicglbmaaHC
namespace Go.Proofs.Ythpabgiicglbmaa.E
open Go.RowKit Go.Proofs.YthpabgiicglbmaaW.PrintWords Go.Proofs.YthpabgiicglbmaaW.PrintLast Go.Proofs.YthpabgiicglbmaaW.PrintMore

theorem must_yes' (c : Bool) (w : World) (h : c = true) : Calls Try.prog 93 #[.bool c] w fun e w' => e = .returned (.tuple #[]) ∧ w' = w := by subst h; exact must_yes w
theorem must_no' (c : Bool) (w : World) (h : c = false) : Calls Try.prog 93 #[.bool c] w fun e w' => e = .panicked fail ∧ w' = w := by subst h; exact must_no w

theorem takeL_no (g : Nat) (l : Bytes) (n : Int) (w : World) (hc : w.cell? ⟨g, 0, none⟩ = some (.string (ofL l))) (h : (l.length : Int) < n) :
    Calls Try.prog 88 #[.pointer (some ⟨g, 0, none⟩), .int .i64 n] w fun e w' => e = .panicked fail ∧ w' = w :=
  take_no g _ n w hc (by rw [size_ofL]; omega)
theorem takeL_yes (g : Nat) (l : Bytes) (n : Int) (w : World) (hc : w.cell? ⟨g, 0, none⟩ = some (.string (ofL l))) (hf : w.frozen? ⟨g, 0, none⟩ = false) (h0 : 0 ≤ n) (h : n ≤ l.length) :
    Calls Try.prog 88 #[.pointer (some ⟨g, 0, none⟩), .int .i64 n] w fun e w' => e = .returned (.string (ofL (l.take n.toNat))) ∧ w' = w.setCell ⟨g, 0, none⟩ (.string (ofL (l.drop n.toNat))) := by
  refine (take_yes g _ n w hc hf h0 (by rw [size_ofL]; exact h)).mono ?_
  rintro e w' ⟨rfl, rfl⟩
  rw [extract_take, extract_drop _ _ _ (by rw [size_ofL]; omega)]
  exact ⟨rfl, rfl⟩

theorem valueL (l : Bytes) (hl : l.length ≤ 8) (w : World) : Calls Try.prog 87 #[.string (ofL l)] w fun e w' => e = .returned (.int .u64 (unbigL l : Nat)) ∧ Drawn0 w w' :=
  enc_value.calls _ _ _ w (value_spec l hl)

theorem i64_of (x : Nat) (hx : x < 18446744073709551616) : wrap64 (IntKind.u64.wrap ((x : Int) - 9223372036854775808)) = (x : Int) - 9223372036854775808 := by
  rw [IntKind.wrap_u64]; unfold wrap64; omega

theorem int_no (g : Nat) (l : Bytes) (w : World) (hc : w.cell? ⟨g, 0, none⟩ = some (.string (ofL l))) (h : l.length < 8) :
    Calls Try.prog 84 #[.pointer (some ⟨g, 0, none⟩)] w fun e w' => e = .panicked fail ∧ w' = w := by
  go_enter Try.func84, Try.ntmps84
  go_wp2_with (go_at_call 88; refine (takeL_no g l 8 _ hc (by omega)).mono ?_; rintro e w' ⟨rfl, rfl⟩)
  exact ⟨rfl, rfl, rfl⟩
theorem int_yes (g : Nat) (l : Bytes) (w : World) (hc : w.cell? ⟨g, 0, none⟩ = some (.string (ofL l))) (hf : w.frozen? ⟨g, 0, none⟩ = false) (h : 8 ≤ l.length) :
    Calls Try.prog 84 #[.pointer (some ⟨g, 0, none⟩)] w fun e w' => e = .returned (.int .i64 ((unbigL (l.take 8) : Nat) - 9223372036854775808)) ∧ ∃ n, w' = (w.setCell ⟨g, 0, none⟩ (.string (ofL (l.drop 8)))).drewN n := by
  have hv := i64_of (unbigL (l.take 8)) (Nat.lt_of_lt_of_le (unbigL_lt _) (by simp [Nat.min_eq_left h]))
  have HV := Aside0.mk hv
  clear hv
  go_enter Try.func84, Try.ntmps84
  go_wp2_with (first | (go_at_call 88; refine (takeL_yes g l 8 _ hc hf (by omega) (by omega)).mono ?_; rintro e w' ⟨rfl, rfl⟩) | (go_at_call 87; refine (valueL (l.take 8) (by simp; omega) _).mono ?_; rintro e w' ⟨rfl, ⟨n, rfl⟩⟩))
  go_ret
  exact ⟨by rw [HV.out]; rfl, _, rfl⟩

theorem take1 (g : Nat) (b : UInt8) (r : Bytes) (w : World) (hc : w.cell? ⟨g, 0, none⟩ = some (.string (ofL (b :: r)))) (hf : w.frozen? ⟨g, 0, none⟩ = false) :
    Calls Try.prog 88 #[.pointer (some ⟨g, 0, none⟩), .int .i64 1] w fun e w' => e = .returned (.string (ofL [b])) ∧ w' = w.setCell ⟨g, 0, none⟩ (.string (ofL r)) := by
  refine (takeL_yes g _ 1 w hc hf (by omega) (by simp; omega)).mono ?_
  rintro e w' ⟨rfl, rfl⟩
  exact ⟨rfl, rfl⟩
theorem take1_no (g : Nat) (w : World) (hc : w.cell? ⟨g, 0, none⟩ = some (.string (ofL []))) :
    Calls Try.prog 88 #[.pointer (some ⟨g, 0, none⟩), .int .i64 1] w fun e w' => e = .panicked fail ∧ w' = w := takeL_no g [] 1 w hc (by simp)
theorem idx0 (b : UInt8) : ∀ h : 0 < (ofL [b]).size, (ofL [b])[0]'h = b := fun _ => rfl
theorem len1 (b : UInt8) : 0 < (ofL [b]).size := Nat.zero_lt_one

theorem uint_none (g : Nat) (w : World) (hc : w.cell? ⟨g, 0, none⟩ = some (.string (ofL []))) :
    Calls Try.prog 82 #[.pointer (some ⟨g, 0, none⟩)] w fun e w' => e = .panicked fail ∧ w' = w := by
  go_enter Try.func82, Try.ntmps82
  go_wp2_with (go_at_call 88; refine (take1_no g _ hc).mono ?_; rintro e w' ⟨rfl, rfl⟩)
  exact ⟨rfl, rfl, rfl⟩
set_option maxRecDepth 100000 in
theorem uint_small (g : Nat) (b : UInt8) (r : Bytes) (w : World) (hc : w.cell? ⟨g, 0, none⟩ = some (.string (ofL (b :: r)))) (hf : w.frozen? ⟨g, 0, none⟩ = false) (hb : b.toNat < 240) :
    Calls Try.prog 82 #[.pointer (some ⟨g, 0, none⟩)] w fun e w' => e = .returned (.int .i64 b.toNat) ∧ w' = w.setCell ⟨g, 0, none⟩ (.string (ofL r)) := by
  have hi := idx0 b
  have hs := len1 b
  go_enter Try.func82, Try.ntmps82
  go_wp2_with (go_at_call 88; refine (take1 g b r _ hc hf).mono ?_; rintro e w' ⟨rfl, rfl⟩)
  go_ret
  exact ⟨rfl, rfl⟩

set_option maxRecDepth 100000 in
theorem uint_nine (g : Nat) (b : UInt8) (r : Bytes) (w : World) (hc : w.cell? ⟨g, 0, none⟩ = some (.string (ofL (b :: r)))) (hf : w.frozen? ⟨g, 0, none⟩ = false) (hb : 248 ≤ b.toNat) :
    Calls Try.prog 82 #[.pointer (some ⟨g, 0, none⟩)] w fun e w' => e = .panicked fail ∧ w' = w.setCell ⟨g, 0, none⟩ (.string (ofL r)) := by
  have hi := idx0 b
  have hs := len1 b
  have hlt := b.toNat_lt
  have h1 : ¬ b.toNat < 240 := by omega
  go_enter Try.func82, Try.ntmps82
  go_wp2_with fail
  refine (take1 g b r _ hc hf).mono ?_
  rintro e w' ⟨rfl, rfl⟩
  go_wp2_with fail
  refine (must_no' _ _ (decide_eq_false (by omega))).mono ?_
  rintro e w' ⟨rfl, rfl⟩
  exact ⟨rfl, rfl, rfl⟩
set_option maxRecDepth 100000 in
theorem uint_short (g : Nat) (b : UInt8) (r : Bytes) (w : World) (hc : w.cell? ⟨g, 0, none⟩ = some (.string (ofL (b :: r)))) (hf : w.frozen? ⟨g, 0, none⟩ = false) (hb : b.toNat < 248) (h1 : ¬ b.toNat < 240) (hr : r.length + 239 < b.toNat) :
    Calls Try.prog 82 #[.pointer (some ⟨g, 0, none⟩)] w fun e w' => e = .panicked fail ∧ w' = w.setCell ⟨g, 0, none⟩ (.string (ofL r)) := by
  have hi := idx0 b
  have hs := len1 b
  have hlt := b.toNat_lt
  go_enter Try.func82, Try.ntmps82
  go_wp2_with fail
  refine (take1 g b r _ hc hf).mono ?_
  rintro e w' ⟨rfl, rfl⟩
  go_wp2_with fail
  refine (must_yes' _ _ (decide_eq_true (by omega))).mono ?_
  rintro e w' ⟨rfl, rfl⟩
  go_wp2_with fail
  refine (takeL_no g r _ _ (by simp [go_sem, hc]) (by omega)).mono ?_
  rintro e w' ⟨rfl, rfl⟩
  exact ⟨rfl, rfl, rfl⟩
set_option maxRecDepth 100000 in
theorem uint_big (g : Nat) (b : UInt8) (r : Bytes) (w : World) (hc : w.cell? ⟨g, 0, none⟩ = some (.string (ofL (b :: r)))) (hf : w.frozen? ⟨g, 0, none⟩ = false) (hb : b.toNat < 248) (h1 : ¬ b.toNat < 240) (hr : b.toNat ≤ r.length + 239) (hx : 4611686018427387664 < ((unbigL (r.take (b.toNat - 240 + 1)) : Nat) : Int)) :
    Calls Try.prog 82 #[.pointer (some ⟨g, 0, none⟩)] w fun e w' => e = .panicked fail ∧ ∃ n, w' = ((w.setCell ⟨g, 0, none⟩ (.string (ofL r))).setCell ⟨g, 0, none⟩ (.string (ofL (r.drop (b.toNat - 240 + 1))))).drewN n := by
  have hi := idx0 b
  have hs := len1 b
  have hlt := b.toNat_lt
  go_enter Try.func82, Try.ntmps82
  go_wp2_with fail
  refine (take1 g b r _ hc hf).mono ?_
  rintro e w' ⟨rfl, rfl⟩
  go_wp2_with fail
  refine (must_yes' _ _ (decide_eq_true (by omega))).mono ?_
  rintro e w' ⟨rfl, rfl⟩
  go_wp2_with fail
  refine (takeL_yes g r _ _ (by simp [go_sem, hc]) (by simp [go_sem, hf]) (by omega) (by omega)).mono ?_
  rintro e w' ⟨rfl, rfl⟩
  go_wp2_with fail
  refine (valueL (r.take (b.toNat - 240 + 1)) (by simp; omega) _).mono ?_
  rintro e w' ⟨rfl, ⟨n, rfl⟩⟩
  go_wp2_with fail
  refine (must_no' _ _ (by simp [*])).mono ?_
  rintro e w' ⟨rfl, rfl⟩
  exact ⟨rfl, rfl, _, rfl⟩
set_option maxRecDepth 100000 in
theorem uint_one (g : Nat) (b : UInt8) (r : Bytes) (w : World) (hc : w.cell? ⟨g, 0, none⟩ = some (.string (ofL (b :: r)))) (hf : w.frozen? ⟨g, 0, none⟩ = false) (hb : b.toNat < 248) (h1 : ¬ b.toNat < 240) (hr : b.toNat ≤ r.length + 239) (hx : ((unbigL (r.take (b.toNat - 240 + 1)) : Nat) : Int) ≤ 4611686018427387664) (hm : ((b.toNat : Int) - 240 + 1 == 1) = true) :
    Calls Try.prog 82 #[.pointer (some ⟨g, 0, none⟩)] w fun e w' => e = .returned (.int .i64 ((unbigL (r.take (b.toNat - 240 + 1)) : Nat) + 240)) ∧ ∃ n, w' = ((w.setCell ⟨g, 0, none⟩ (.string (ofL r))).setCell ⟨g, 0, none⟩ (.string (ofL (r.drop (b.toNat - 240 + 1))))).drewN n := by
  have hi := idx0 b
  have hs := len1 b
  have hlt := b.toNat_lt
  go_enter Try.func82, Try.ntmps82
  go_wp2_with fail
  refine (take1 g b r _ hc hf).mono ?_
  rintro e w' ⟨rfl, rfl⟩
  go_wp2_with fail
  refine (must_yes' _ _ (decide_eq_true (by omega))).mono ?_
  rintro e w' ⟨rfl, rfl⟩
  go_wp2_with fail
  refine (takeL_yes g r _ _ (by simp [go_sem, hc]) (by simp [go_sem, hf]) (by omega) (by omega)).mono ?_
  rintro e w' ⟨rfl, rfl⟩
  go_wp2_with fail
  refine (valueL (r.take (b.toNat - 240 + 1)) (by simp; omega) _).mono ?_
  rintro e w' ⟨rfl, ⟨n, rfl⟩⟩
  go_wp2_with fail
  refine (must_yes' _ _ (by simp [*])).mono ?_
  rintro e w' ⟨rfl, rfl⟩
  go_wp2_with fail
  go_ret
  exact ⟨rfl, _, rfl⟩
set_option maxRecDepth 100000 in
theorem uint_more (g : Nat) (b : UInt8) (r : Bytes) (w : World) (hc : w.cell? ⟨g, 0, none⟩ = some (.string (ofL (b :: r)))) (hf : w.frozen? ⟨g, 0, none⟩ = false) (hb : b.toNat < 248) (h1 : ¬ b.toNat < 240) (hr : b.toNat ≤ r.length + 239) (hx : ((unbigL (r.take (b.toNat - 240 + 1)) : Nat) : Int) ≤ 4611686018427387664) (hm : ((b.toNat : Int) - 240 + 1 == 1) = false) (hd : decide (0 < ((unbigL (r.take (b.toNat - 240 + 1)) : Nat) : Int) / 2 ^ (8 * (b.toNat - 240))) = true) :
    Calls Try.prog 82 #[.pointer (some ⟨g, 0, none⟩)] w fun e w' => e = .returned (.int .i64 ((unbigL (r.take (b.toNat - 240 + 1)) : Nat) + 240)) ∧ ∃ n, w' = ((w.setCell ⟨g, 0, none⟩ (.string (ofL r))).setCell ⟨g, 0, none⟩ (.string (ofL (r.drop (b.toNat - 240 + 1))))).drewN n := by
  have hi := idx0 b
  have hs := len1 b
  have hlt := b.toNat_lt
  go_enter Try.func82, Try.ntmps82
  go_wp2_with fail
  refine (take1 g b r _ hc hf).mono ?_
  rintro e w' ⟨rfl, rfl⟩
  go_wp2_with fail
  refine (must_yes' _ _ (decide_eq_true (by omega))).mono ?_
  rintro e w' ⟨rfl, rfl⟩
  go_wp2_with fail
  refine (takeL_yes g r _ _ (by simp [go_sem, hc]) (by simp [go_sem, hf]) (by omega) (by omega)).mono ?_
  rintro e w' ⟨rfl, rfl⟩
  go_wp2_with fail
  refine (valueL (r.take (b.toNat - 240 + 1)) (by simp; omega) _).mono ?_
  rintro e w' ⟨rfl, ⟨n, rfl⟩⟩
  go_wp2_with fail
  refine (must_yes' _ _ (by simp [*])).mono ?_
  rintro e w' ⟨rfl, rfl⟩
  go_wp2_with fail
  go_ret
  exact ⟨rfl, _, rfl⟩
set_option maxRecDepth 100000 in
theorem uint_zero (g : Nat) (b : UInt8) (r : Bytes) (w : World) (hc : w.cell? ⟨g, 0, none⟩ = some (.string (ofL (b :: r)))) (hf : w.frozen? ⟨g, 0, none⟩ = false) (hb : b.toNat < 248) (h1 : ¬ b.toNat < 240) (hr : b.toNat ≤ r.length + 239) (hx : ((unbigL (r.take (b.toNat - 240 + 1)) : Nat) : Int) ≤ 4611686018427387664) (hm : ((b.toNat : Int) - 240 + 1 == 1) = false) (hd : decide (0 < ((unbigL (r.take (b.toNat - 240 + 1)) : Nat) : Int) / 2 ^ (8 * (b.toNat - 240))) = false) :
    Calls Try.prog 82 #[.pointer (some ⟨g, 0, none⟩)] w fun e w' => e = .panicked fail ∧ ∃ n, w' = ((w.setCell ⟨g, 0, none⟩ (.string (ofL r))).setCell ⟨g, 0, none⟩ (.string (ofL (r.drop (b.toNat - 240 + 1))))).drewN n := by
  have hi := idx0 b
  have hs := len1 b
  have hlt := b.toNat_lt
  go_enter Try.func82, Try.ntmps82
  go_wp2_with fail
  refine (take1 g b r _ hc hf).mono ?_
  rintro e w' ⟨rfl, rfl⟩
  go_wp2_with fail
  refine (must_yes' _ _ (decide_eq_true (by omega))).mono ?_
  rintro e w' ⟨rfl, rfl⟩
  go_wp2_with fail
  refine (takeL_yes g r _ _ (by simp [go_sem, hc]) (by simp [go_sem, hf]) (by omega) (by omega)).mono ?_
  rintro e w' ⟨rfl, rfl⟩
  go_wp2_with fail
  refine (valueL (r.take (b.toNat - 240 + 1)) (by simp; omega) _).mono ?_
  rintro e w' ⟨rfl, ⟨n, rfl⟩⟩
  go_wp2_with fail
  refine (must_no' _ _ (by simp [*])).mono ?_
  rintro e w' ⟨rfl, rfl⟩
  exact ⟨rfl, rfl, _, rfl⟩
end Go.Proofs.Ythpabgiicglbmaa.E

namespace Go.Proofs.Ythpabgiicglbmaa.E
open Go.RowKit Go.Proofs.YthpabgiicglbmaaW.PrintWords Go.Proofs.YthpabgiicglbmaaW.PrintLast Go.Proofs.YthpabgiicglbmaaW.PrintMore

/-- A reading went on to 'rest': the reader's cell holds it, all else is as it was. -/
structure Now (g : Nat) (rest : Bytes) (w w' : World) : Prop where
  cell : w'.cell? ⟨g, 0, none⟩ = some (.string (ofL rest))
  frozen : w'.frozen? ⟨g, 0, none⟩ = false
  but : But g w w'
theorem Now.set {g : Nat} {l : Bytes} {w : World} (rest : Bytes) (h : w.cell? ⟨g, 0, none⟩ = some (.string (ofL l))) (hf : w.frozen? ⟨g, 0, none⟩ = false) : Now g rest w (w.setCell ⟨g, 0, none⟩ (.string (ofL rest))) :=
  ⟨by simp [go_sem, h], by simp [go_sem, hf], (But.refl _ _).setCell _ _⟩
theorem Now.drewN {g : Nat} {rest : Bytes} {w w' : World} (h : Now g rest w w') (n : Nat) : Now g rest w (w'.drewN n) :=
  ⟨by simp [go_sem, h.cell], by simp [go_sem, h.frozen], h.but.drewN n⟩
theorem Now.trans {g : Nat} {l rest : Bytes} {a b c : World} (h : Now g l a b) (k : Now g rest b c) : Now g rest a c := ⟨k.cell, k.frozen, h.but.trans k.but⟩
theorem Now.here {g : Nat} {l : Bytes} {w : World} (h : w.cell? ⟨g, 0, none⟩ = some (.string (ofL l))) (hf : w.frozen? ⟨g, 0, none⟩ = false) : Now g l w w := ⟨h, hf, But.refl _ _⟩

theorem int_ok (g : Nat) (l : Bytes) (x : Int) (w : World) (hc : w.cell? ⟨g, 0, none⟩ = some (.string (ofL l))) (hf : w.frozen? ⟨g, 0, none⟩ = false) (h : getIntL l = some x) :
    Calls Try.prog 84 #[.pointer (some ⟨g, 0, none⟩)] w fun e w' => e = .returned (.int .i64 x) ∧ Now g (l.drop 8) w w' := by
  unfold getIntL at h
  split at h
  · cases h
  · obtain rfl := Option.some.inj h
    refine (int_yes g l w hc hf (by omega)).mono ?_
    rintro e w' ⟨rfl, n, rfl⟩
    exact ⟨rfl, (Now.set _ hc hf).drewN n⟩
theorem int_bad (g : Nat) (l : Bytes) (w : World) (hc : w.cell? ⟨g, 0, none⟩ = some (.string (ofL l))) (h : getIntL l = none) :
    Calls Try.prog 84 #[.pointer (some ⟨g, 0, none⟩)] w fun e w' => e = .panicked fail ∧ But g w w' := by
  unfold getIntL at h
  split at h
  · refine (int_no g l w hc (by omega)).mono ?_
    rintro e w' ⟨rfl, rfl⟩
    exact ⟨rfl, But.refl _ _⟩
  · cases h

theorem pow_shift (x m : Nat) : decide (0 < (x : Int) / 2 ^ (8 * m)) = decide (x / 256 ^ m > 0) := by
  have e : ((2 : Int) ^ (8 * m)) = ((256 ^ m : Nat) : Int) := by rw [Int.pow_mul]; norm_cast
  rw [e]
  apply decide_eq_decide.mpr
  rw [← Int.natCast_ediv]
  omega

set_option maxRecDepth 100000 in
theorem uint_any (g : Nat) (l : Bytes) (w : World) (hc : w.cell? ⟨g, 0, none⟩ = some (.string (ofL l))) (hf : w.frozen? ⟨g, 0, none⟩ = false) :
    Calls Try.prog 82 #[.pointer (some ⟨g, 0, none⟩)] w fun e w' =>
      (∃ x, getUintL l = some x ∧ e = .returned (.int .i64 x.1) ∧ Now g (l.drop x.2) w w') ∨ (getUintL l = none ∧ e = .panicked fail ∧ But g w w') := by
  cases l with
  | nil =>
    refine (uint_none g w hc).mono ?_
    rintro e w' ⟨rfl, rfl⟩
    exact .inr ⟨rfl, rfl, But.refl _ _⟩
  | cons b r =>
    have hlt := b.toNat_lt
    have hB := (But.refl g w).setCell 0 (.string (ofL r))
    by_cases h1 : b.toNat < 240
    · refine (uint_small g b r w hc hf h1).mono ?_
      rintro e w' ⟨rfl, rfl⟩
      exact .inl ⟨(b.toNat, 1), by simp [getUintL, h1], rfl, Now.set _ hc hf⟩
    · by_cases h2 : b.toNat < 248
      · by_cases h3 : b.toNat ≤ r.length + 239
        · have em : b.toNat - 240 + 1 = b.toNat - 239 := by omega
          have hN : ∀ n, Now g (r.drop (b.toNat - 239)) w (((w.setCell ⟨g, 0, none⟩ (.string (ofL r))).setCell ⟨g, 0, none⟩ (.string (ofL (r.drop (b.toNat - 239))))).drewN n) :=
            fun n => ((Now.set r hc hf).trans (Now.set _ (Now.set r hc hf).cell (Now.set r hc hf).frozen)).drewN n
          by_cases hx : ((unbigL (r.take (b.toNat - 239)) : Nat) : Int) ≤ 4611686018427387664
          · by_cases hm : b.toNat = 240
            · refine (uint_one g b r w hc hf h2 h1 h3 (by rw [em]; exact hx) (by rw [hm]; rfl)).mono ?_
              rintro e w' ⟨rfl, n, rfl⟩
              rw [em]
              refine .inl ⟨(unbigL (r.take (b.toNat - 239)) + 240, b.toNat - 239 + 1), ?_, ?_, hN n⟩
              · have : unbigL (r.take (b.toNat - 239)) ≤ 4611686018427387664 := by omega
                simp only [getUintL]
                rw [if_neg h1, if_neg (by omega), if_neg (by omega), if_pos ⟨this, .inl (by omega)⟩]
              · simp
            · by_cases hd : unbigL (r.take (b.toNat - 239)) / 256 ^ (b.toNat - 240) > 0
              · refine (uint_more g b r w hc hf h2 h1 h3 (by rw [em]; exact hx) (beq_eq_false_iff_ne.mpr (by omega)) (by rw [em, pow_shift]; exact decide_eq_true hd)).mono ?_
                rintro e w' ⟨rfl, n, rfl⟩
                rw [em]
                refine .inl ⟨(unbigL (r.take (b.toNat - 239)) + 240, b.toNat - 239 + 1), ?_, ?_, hN n⟩
                · have : unbigL (r.take (b.toNat - 239)) ≤ 4611686018427387664 := by omega
                  simp only [getUintL]
                  rw [if_neg h1, if_neg (by omega), if_neg (by omega), if_pos ⟨this, .inr (by rw [show b.toNat - 239 - 1 = b.toNat - 240 from by omega]; exact hd)⟩]
                · simp
              · refine (uint_zero g b r w hc hf h2 h1 h3 (by rw [em]; exact hx) (beq_eq_false_iff_ne.mpr (by omega)) (by rw [em, pow_shift]; exact decide_eq_false hd)).mono ?_
                rintro e w' ⟨rfl, n, rfl⟩
                rw [em]
                refine .inr ⟨?_, rfl, (hN n).but⟩
                simp only [getUintL]
                rw [if_neg h1, if_neg (by omega), if_neg (by omega), if_neg (by rintro ⟨_, h | h⟩; (· omega); (· rw [show b.toNat - 239 - 1 = b.toNat - 240 from by omega] at h; exact hd h))]
          · refine (uint_big g b r w hc hf h2 h1 h3 (by rw [em]; omega)).mono ?_
            rintro e w' ⟨rfl, n, rfl⟩
            rw [em]
            refine .inr ⟨?_, rfl, (hN n).but⟩
            simp only [getUintL]
            rw [if_neg h1, if_neg (by omega), if_neg (by omega), if_neg (by rintro ⟨h, _⟩; omega)]
        · refine (uint_short g b r w hc hf h2 h1 (by omega)).mono ?_
          rintro e w' ⟨rfl, rfl⟩
          refine .inr ⟨?_, rfl, hB⟩
          simp only [getUintL]
          rw [if_neg h1, if_neg (by omega), if_pos (by omega)]
      · refine (uint_nine g b r w hc hf (by omega)).mono ?_
        rintro e w' ⟨rfl, rfl⟩
        refine .inr ⟨?_, rfl, hB⟩
        simp only [getUintL]
        rw [if_neg h1, if_pos (by omega)]

theorem run_call (K : Nat) (fn : Func) (h : Try.prog.funcs[K]? = some fn) (hn : (fn.name == "runtime.NumGoroutine") = false) (hb : fn.body.isSome = true) (args : Array Value) (w : World) : (callFunc K args).run Try.prog w = .ok (.enter K args) w := by
  have hb' : ¬ fn.body = none := by cases hh : fn.body <;> simp_all
  have hn' : ¬ fn.name = "runtime.NumGoroutine" := by simpa using hn
  simp [callFunc, h, hn', hb']
theorem call82 : ∀ args w, (callFunc 82 args).run Try.prog w = .ok (.enter 82 args) w := run_call 82 _ Try.func82 (by kernel_rfl) (by kernel_rfl)
theorem call84 : ∀ args w, (callFunc 84 args).run Try.prog w = .ok (.enter 84 args) w := run_call 84 _ Try.func84 (by kernel_rfl) (by kernel_rfl)
theorem call86 : ∀ args w, (callFunc 86 args).run Try.prog w = .ok (.enter 86 args) w := run_call 86 _ Try.func86 (by kernel_rfl) (by kernel_rfl)
theorem getUint_len (l : Bytes) (x : Nat × Nat) (h : getUintL l = some x) : x.2 ≤ l.length := by
  cases l with
  | nil => simp [getUintL] at h
  | cons b r =>
    simp only [getUintL] at h
    split at h
    · obtain rfl := Option.some.inj h; simp
    · split at h
      · cases h
      · split at h
        · cases h
        · split at h
          · obtain rfl := Option.some.inj h
            simp only [List.length_cons]
            omega
          · cases h

theorem get_uint_bad (l : Bytes) (w : World) (hg : getUintL l = none) :
    Calls Try.prog 49 #[.string (ofL l)] w fun e w' => e = .returned (.tuple #[.int .i64 0, .int .i64 0, .int .i64 2]) ∧ Below w.heap.size w w' := by
  have HG := Aside0.mk hg
  clear hg
  go_enter Try.func49, Try.ntmps49
  go_wp2_with fail
  refine (got_no_3 82 #[] (ofL l) _ call82 (fun g W hc hf _ _ => (uint_any g l W hc hf).mono ?_)).mono ?_
  · rintro e w' (⟨x, hx, _⟩ | ⟨_, he, hb⟩)
    · rw [HG.out] at hx; cases hx
    · exact ⟨he, hb⟩
  rintro e w1 ⟨rfl, hb⟩
  have HB := Aside0.mk hb
  clear hb
  go_wp2
  go_ret3
  exact ⟨rfl, HB.out⟩
theorem get_uint_ok (l : Bytes) (x : Nat × Nat) (w : World) (hs : (ofL l).size ≤ 1000000000000000) (hg : getUintL l = some x) :
    Calls Try.prog 49 #[.string (ofL l)] w fun e w' => e = .returned (.tuple #[.int .i64 x.1, .int .i64 x.2, .int .i64 0]) ∧ Below w.heap.size w w' := by
  have hn := getUint_len l x hg
  have hz : ((ofL l).size : Int) - ((ofL (l.drop x.2)).size : Int) = x.2 := by rw [size_ofL, size_ofL, List.length_drop]; omega
  have HZ := Aside0.mk hz
  have HG := Aside0.mk hg
  clear hg hz
  go_enter Try.func49, Try.ntmps49
  go_wp2_with fail
  refine (got_yes_3 82 #[] (ofL l) (ofL (l.drop x.2)) x.1 _ call82 hs (by rw [size_ofL, size_ofL, List.length_drop]; omega) (fun g W hc hf _ _ => (uint_any g l W hc hf).mono ?_)).mono ?_
  · rintro e w' (⟨y, hy, he, hnow⟩ | ⟨hx, _⟩)
    · rw [HG.out] at hy
      obtain rfl := Option.some.inj hy
      exact ⟨he, hnow.cell, hnow.but⟩
    · rw [HG.out] at hx; cases hx
  rintro e w1 ⟨rfl, hb⟩
  have HB := Aside0.mk hb
  clear hb
  rw [HZ.out]
  go_wp2
  go_ret3
  exact ⟨rfl, HB.out⟩
theorem enc_GetUint.calls (a0 : ByteArray) (r1 r2 r3 : Int) (w : World) (h : enc_GetUint.f a0 = some (r1, r2, r3)) :
    Calls Try.prog 49 #[.string a0] w fun e w' => e = .returned (.tuple #[.int .i64 r1, .int .i64 r2, .int .i64 r3]) ∧ Below w.heap.size w w' := by
  unfold enc_GetUint.f at h
  split at h
  · rename_i hs
    obtain ⟨l, rfl⟩ : ∃ l, a0 = ofL l := ⟨toL a0, (ofL_toL a0).symm⟩
    rw [toL_ofL] at h
    cases hg : getUintL l with
    | none =>
      rw [hg] at h
      simp only [Option.some.injEq, Prod.mk.injEq] at h
      obtain ⟨rfl, rfl, rfl⟩ := h
      exact get_uint_bad l w hg
    | some x =>
      rw [hg] at h
      simp only [Option.some.injEq, Prod.mk.injEq] at h
      obtain ⟨rfl, rfl, rfl⟩ := h
      exact get_uint_ok l x w hs hg
  · cases h
end Go.Proofs.Ythpabgiicglbmaa.E

namespace Go.Proofs.Ythpabgiicglbmaa.E
open Go.RowKit Go.Proofs.YthpabgiicglbmaaW.PrintWords Go.Proofs.YthpabgiicglbmaaW.PrintLast Go.Proofs.YthpabgiicglbmaaW.PrintMore

theorem get_int_bad (l : Bytes) (w : World) (hg : getIntL l = none) :
    Calls Try.prog 51 #[.string (ofL l)] w fun e w' => e = .returned (.tuple #[.int .i64 0, .int .i64 0, .int .i64 2]) ∧ Below w.heap.size w w' := by
  have HG := Aside0.mk hg
  clear hg
  go_enter Try.func51, Try.ntmps51
  go_wp2_with fail
  refine (got_no_3 84 #[] (ofL l) _ call84 (fun g W hc hf _ _ => int_bad g l W hc HG.out)).mono ?_
  rintro e w1 ⟨rfl, hb⟩
  have HB := Aside0.mk hb
  clear hb
  go_wp2
  go_ret3
  exact ⟨rfl, HB.out⟩
theorem get_int_ok (l : Bytes) (x : Int) (w : World) (hs : (ofL l).size ≤ 1000000000000000) (hg : getIntL l = some x) :
    Calls Try.prog 51 #[.string (ofL l)] w fun e w' => e = .returned (.tuple #[.int .i64 x, .int .i64 8, .int .i64 0]) ∧ Below w.heap.size w w' := by
  have hn : 8 ≤ l.length := by
    unfold getIntL at hg
    split at hg
    · cases hg
    · omega
  have HZ := Aside0.mk (show ((ofL l).size : Int) - ((ofL (l.drop 8)).size : Int) = 8 by rw [size_ofL, size_ofL, List.length_drop]; omega)
  have HG := Aside0.mk hg
  clear hg
  go_enter Try.func51, Try.ntmps51
  go_wp2_with fail
  refine (got_yes_3 84 #[] (ofL l) (ofL (l.drop 8)) x _ call84 hs (by rw [size_ofL, size_ofL, List.length_drop]; omega) (fun g W hc hf _ _ => (int_ok g l x W hc hf HG.out).mono ?_)).mono ?_
  · rintro e w' ⟨he, hnow⟩
    exact ⟨he, hnow.cell, hnow.but⟩
  rintro e w1 ⟨rfl, hb⟩
  have HB := Aside0.mk hb
  clear hb
  rw [HZ.out]
  go_wp2
  go_ret3
  exact ⟨rfl, HB.out⟩
theorem enc_GetInt.calls (a0 : ByteArray) (r1 r2 r3 : Int) (w : World) (h : enc_GetInt.f a0 = some (r1, r2, r3)) :
    Calls Try.prog 51 #[.string a0] w fun e w' => e = .returned (.tuple #[.int .i64 r1, .int .i64 r2, .int .i64 r3]) ∧ Below w.heap.size w w' := by
  unfold enc_GetInt.f at h
  split at h
  · rename_i hs
    obtain ⟨l, rfl⟩ : ∃ l, a0 = ofL l := ⟨toL a0, (ofL_toL a0).symm⟩
    rw [toL_ofL] at h
    cases hg : getIntL l with
    | none =>
      rw [hg] at h
      simp only [Option.some.injEq, Prod.mk.injEq] at h
      obtain ⟨rfl, rfl, rfl⟩ := h
      exact get_int_bad l w hg
    | some x =>
      rw [hg] at h
      simp only [Option.some.injEq, Prod.mk.injEq] at h
      obtain ⟨rfl, rfl, rfl⟩ := h
      exact get_int_ok l x w hs hg
  · cases h

theorem u32_of (l : Bytes) (h : 4 ≤ l.length) : ((unbigL (l.take 4) : Nat) : Int) % 4294967296 = ((unbigL (l.take 4) : Nat) : Int) := by
  have : unbigL (l.take 4) < 256 ^ 4 := Nat.lt_of_lt_of_le (unbigL_lt _) (by simp [Nat.min_eq_left h])
  omega
theorem read32_no (g : Nat) (l : Bytes) (w : World) (hc : w.cell? ⟨g, 0, none⟩ = some (.string (ofL l))) (h : l.length < 4) :
    Calls Try.prog 86 #[.pointer (some ⟨g, 0, none⟩)] w fun e w' => e = .panicked fail ∧ But g w w' := by
  go_enter Try.func86, Try.ntmps86
  go_wp2_with (go_at_call 88; refine (takeL_no g l 4 _ hc (by omega)).mono ?_; rintro e w' ⟨rfl, rfl⟩)
  exact ⟨rfl, rfl, But.refl _ _⟩
theorem read32_yes (g : Nat) (l : Bytes) (w : World) (hc : w.cell? ⟨g, 0, none⟩ = some (.string (ofL l))) (hf : w.frozen? ⟨g, 0, none⟩ = false) (h : 4 ≤ l.length) :
    Calls Try.prog 86 #[.pointer (some ⟨g, 0, none⟩)] w fun e w' => e = .returned (.int .u32 (unbigL (l.take 4) : Nat)) ∧ Now g (l.drop 4) w w' := by
  have HV := Aside0.mk (u32_of l h)
  have HN := Aside0.mk (Now.set (l.drop 4) hc hf)
  go_enter Try.func86, Try.ntmps86
  go_wp2_with (first | (go_at_call 88; refine (takeL_yes g l 4 _ hc hf (by omega) (by omega)).mono ?_; rintro e w' ⟨rfl, rfl⟩) | (go_at_call 87; refine (valueL (l.take 4) (by simp; omega) _).mono ?_; rintro e w' ⟨rfl, ⟨n, rfl⟩⟩))
  go_ret
  exact ⟨by rw [HV.out]; rfl, HN.out.drewN _⟩
theorem get32_bad (l : Bytes) (w : World) (hg : get32L l = none) :
    Calls Try.prog 53 #[.string (ofL l)] w fun e w' => e = .returned (.tuple #[.int .u32 0, .int .i64 2]) ∧ Below w.heap.size w w' := by
  have hn : l.length < 4 := by
    unfold get32L at hg
    split at hg
    · assumption
    · cases hg
  go_enter Try.func53, Try.ntmps53
  go_wp2_with fail
  refine (got_no_70 86 #[] (ofL l) _ call86 (fun g W hc hf _ _ => read32_no g l W hc hn)).mono ?_
  rintro e w1 ⟨rfl, hb⟩
  have HB := Aside0.mk hb
  clear hb
  go_wp2
  go_ret2
  exact ⟨rfl, HB.out⟩
theorem get32_ok (l : Bytes) (x : Nat) (w : World) (hs : (ofL l).size ≤ 1000000000000000) (hg : get32L l = some x) :
    Calls Try.prog 53 #[.string (ofL l)] w fun e w' => e = .returned (.tuple #[.int .u32 x, .int .i64 0]) ∧ Below w.heap.size w w' := by
  have hn : 4 ≤ l.length ∧ unbigL (l.take 4) = x := by
    unfold get32L at hg
    split at hg
    · cases hg
    · exact ⟨by omega, Option.some.inj hg⟩
  obtain ⟨hn, rfl⟩ := hn
  clear hg
  go_enter Try.func53, Try.ntmps53
  go_wp2_with fail
  refine (got_yes_70 86 #[] (ofL l) (ofL (l.drop 4)) (unbigL (l.take 4) : Nat) _ call86 hs (by rw [size_ofL, size_ofL, List.length_drop]; omega) (fun g W hc hf _ _ => (read32_yes g l W hc hf hn).mono ?_)).mono ?_
  · rintro e w' ⟨he, hnow⟩
    exact ⟨he, hnow.cell, hnow.but⟩
  rintro e w1 ⟨rfl, hb⟩
  have HB := Aside0.mk hb
  clear hb
  go_wp2
  go_ret2
  exact ⟨rfl, HB.out⟩
theorem enc_Get32.calls (a0 : ByteArray) (r1 r2 : Int) (w : World) (h : enc_Get32.f a0 = some (r1, r2)) :
    Calls Try.prog 53 #[.string a0] w fun e w' => e = .returned (.tuple #[.int .u32 r1, .int .i64 r2]) ∧ Below w.heap.size w w' := by
  unfold enc_Get32.f at h
  split at h
  · rename_i hs
    obtain ⟨l, rfl⟩ : ∃ l, a0 = ofL l := ⟨toL a0, (ofL_toL a0).symm⟩
    rw [toL_ofL] at h
    cases hg : get32L l with
    | none =>
      rw [hg] at h
      simp only [Option.some.injEq, Prod.mk.injEq] at h
      obtain ⟨rfl, rfl⟩ := h
      exact get32_bad l w hg
    | some x =>
      rw [hg] at h
      simp only [Option.some.injEq, Prod.mk.injEq] at h
      obtain ⟨rfl, rfl⟩ := h
      exact get32_ok l x w hs hg
  · cases h
end Go.Proofs.Ythpabgiicglbmaa.E
