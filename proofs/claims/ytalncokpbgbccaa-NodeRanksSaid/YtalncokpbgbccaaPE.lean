/- NodeRanks, joined: whatever the entries and the rank, it returns true. -/
import Derived.Test.YtalncokpbgbccaaPD
namespace Go.Proofs.Ytalncokpbgbccaa.E
set_option linter.unusedVariables false
set_option linter.unusedSimpArgs false
open Go.RowKit Go.Proofs.YtalncokpbgbccaaW.PrintWords Go.Proofs.YtalncokpbgbccaaW.PrintLast Go.Proofs.YtalncokpbgbccaaW.PrintMore
theorem sane_a (w : World) : Ans w 15 #[] (.bool true) := ans_of fun w1 _ => sane_c w1
theorem ranks_c (l : List S77) (A : Option Addr) (c : Nat) (p : Int) (w : World) (hr : Kd.C k77 w A l.length l) (hc : l.length ≤ c) (hp2 : p ≤ 9223372036854775807) :
    Calls Try.prog 8 #[.slice A l.length c, .int .i64 p] w fun e w' => e = .returned (.bool true) ∧ Below w.heap.size w w' := by
  obtain ⟨bf, hf, HF⟩ := few_one l
  have HFEW := Aside0.mk (HF w A c hr hc)
  have HS := Aside0.mk (sane_a w)
  cases bf with
  | false => exact ranks_1 A l.length c p w HS HFEW
  | true =>
  have hfl := hf rfl
  have hlen : l.length ≤ 1000000 := by have := hfl.1; omega
  obtain ⟨ko, bo, hko⟩ := ordered_t l 1 hfl.1
  have HORD := Aside0.mk (ans_of_drawn (w := w) fun w1 b => understoryref06_Ordered.calls ko A c l 1 bo w1 (Kd.C_below hr b) hc hko)
  cases bo with
  | false => exact ranks_2 A l.length c p w HS HFEW HORD
  | true =>
  obtain ⟨kc, bc, hkc, hcn⟩ := counted_t l hfl.1
  have HCNT := Aside0.mk (ans_of_drawn (w := w) fun w1 b => understorylaw06_counted.calls kc A c l bc w1 (Kd.C_below hr b) hc hkc)
  cases bc with
  | false => exact ranks_3 A l.length c p w HS HFEW HORD HCNT
  | true =>
  have hcl : CntL l := hcn rfl
  have hsp := sumF_pos hcl
  have hs2 := hcl.2
  have HBEF : ∀ k : Nat, k ≤ l.length → Ans w 28 #[.slice A l.length c, .int .i64 (k : Int)] (.int .i64 (sumF (l.take k))) := fun k hk => ans_of fun w1 b => by
    have := before_c l A c (k : Int) w1 (Kd.C_below hr b) hc hlen
    rwa [cutI_nat k _ hk, bef_take hcl] at this
  have HLO : ∀ q, Ans w 29 #[.slice A l.length c, .int .i64 q] (.tuple #[.int .i64 (locR l q).1, .int .i64 (locR l q).2.1, .int .i64 (locR l q).2.2]) := fun q => ans_of fun w1 b => locate_c l A c q w1 (Kd.C_below hr b) hlen
  by_cases ho : p < 0 ∨ sumF l ≤ p
  · have HL4 := Aside0.mk (HLO p)
    rw [locR_out l p hcl ho hp2] at HL4
    have HB4 := Aside0.mk (HBEF l.length (Nat.le_refl _))
    rw [List.take_length] at HB4
    have HN4 := Aside0.mk (ans_of (w := w) fun w1 b => countOf_c l A c 1 w1 (Kd.C_below hr b) hc hlen)
    rw [show countI l 1 = sumF l by simp [countI, befL_all hcl]] at HN4
    by_cases h0 : p < 0
    · exact ranks_4 A l.length c p w HS HFEW HORD HCNT (sumF l) HL4 HB4 HN4 (decide_eq_true h0)
    · exact ranks_5 A l.length c p w HS HFEW HORD HCNT (sumF l) HL4 HB4 HN4 (decide_eq_false h0) (decide_eq_true (by omega))
  · obtain ⟨i, r, hi, hq, r0, r1⟩ := loc_where l p hcl (by omega) (by omega)
    obtain ⟨ad, rfl, _⟩ := f5_at hr i hi
    have HLI := Aside0.mk (HLO p)
    rw [locR_in l i p r hcl hi hq r0 r1] at HLI
    have hgap : ∀ k, k < l.length → 0 ≤ sumF (l.take k) ∧ 1 ≤ (l.getD k z77).f5 ∧ sumF (l.take k) + (l.getD k z77).f5 ≤ 4611686018427387904 := fun k hk => by
      have h1 := (cnt_take hcl (k + 1)).2
      rw [sum_take l k hk] at h1
      exact ⟨sumF_pos (cnt_take hcl k).1, hcl.1 k hk, by omega⟩
    refine ranks_6 ad l.length c p w (fun k => sumF (l.take k)) (fun k => (l.getD k z77).f5) (fun k => sumF (l.take k) + (l.getD k z77).f5) (fun k => sumF (l.take k) + (l.getD k z77).f5 - 1) (fun k => (l.getD k z77).f5 - 1) i r hi hfl.1 HS HFEW HORD HCNT HLI ⟨HBEF⟩ ⟨fun k hk W hb => ?_⟩ ⟨fun k hk => ?_⟩ ⟨fun k hk => ?_⟩ (decide_eq_false (by omega)) (decide_eq_false (by simp only [List.take_length]; omega)) (decide_eq_false (by omega)) (decide_eq_false (by omega)) ?_
    · obtain ⟨ad', e, hx⟩ := f5_at (Kd.C_below hr hb) k hk
      obtain rfl := Option.some.inj e
      exact hx
    · have ⟨g0, g1, g2⟩ := hgap k hk
      have := HLO (sumF (l.take k) + (l.getD k z77).f5 - 1)
      rwa [locR_in l k _ ((l.getD k z77).f5 - 1) hcl hk (by omega) (by omega) (by omega)] at this
    · have ⟨g0, g1, g2⟩ := hgap k hk
      exact ⟨w64 _ (by omega) (by omega), w64 _ (by omega) (by omega), w64 _ (by omega) (by omega)⟩
    · have ⟨g0, g1, g2⟩ := hgap i hi
      rw [w64 _ (by omega) (by omega)]
      exact hq.symm
end Go.Proofs.Ytalncokpbgbccaa.E
