/- NodeSearches, joined: whatever the entries, the keys and the places, it returns true. -/
import Derived.Test.YtalncokpbgbccaaPG
namespace Go.Proofs.Ytalncokpbgbccaa.E
set_option linter.unusedVariables false
set_option linter.unusedSimpArgs false
open Go.RowKit Go.Proofs.YtalncokpbgbccaaW.PrintWords Go.Proofs.YtalncokpbgbccaaW.PrintLast Go.Proofs.YtalncokpbgbccaaW.PrintMore
theorem bounds_eq (l : List S77) (i : Int) (lo hi : ByteArray) (hl : l.length ≤ 100) (hi2 : i ≤ 9223372036854775807) : ∃ k x y z, node_Bounds.f k l i lo hi = some (x, y, z) ∧ understoryref06_Bounds.f k l i lo hi = some (x, y, z) := by
  refine ⟨1, ?_⟩
  unfold node_Bounds.f understoryref06_Bounds.f
  by_cases h0 : i < 0
  · rw [if_pos h0, if_pos h0]
    exact ⟨_, _, _, rfl, rfl⟩
  · rw [if_neg h0, if_neg h0]
    by_cases h1 : i ≥ (l.length : Int)
    · rw [decide_eq_true h1]
      exact ⟨_, _, _, rfl, rfl⟩
    · rw [decide_eq_false h1, node_Bounds.j0, understoryref06_Bounds.j0, w64 (i + 1) (by omega) (by omega)]
      simp only [Bool.false_eq_true, if_false]
      by_cases h2 : i > 0
      · rw [if_pos h2, if_pos (by omega : 0 ≤ i), if_pos (by omega : i < (l.length : Int))]
        by_cases h3 : i + 1 < (l.length : Int)
        · rw [if_pos h3, if_pos (by omega : 0 ≤ i + 1)]
          exact ⟨_, _, _, rfl, rfl⟩
        · rw [if_neg h3]
          exact ⟨_, _, _, rfl, rfl⟩
      · rw [if_neg h2]
        by_cases h3 : i + 1 < (l.length : Int)
        · rw [if_pos h3, if_pos (by omega : 0 ≤ i + 1)]
          exact ⟨_, _, _, rfl, rfl⟩
        · rw [if_neg h3]
          exact ⟨_, _, _, rfl, rfl⟩
theorem searches_c (l : List S77) (A : Option Addr) (c : Nat) (key : ByteArray) (i rank : Int) (lo hi : ByteArray) (w : World) (hr : Kd.C k77 w A l.length l) (hc : l.length ≤ c) (hi2 : i ≤ 9223372036854775807) :
    Calls Try.prog 4 #[.slice A l.length c, .string key, .int .i64 i, .int .i64 rank, .string lo, .string hi] w fun e w' => e = .returned (.bool true) ∧ Below w.heap.size w w' := by
  obtain ⟨bf, hf, HF⟩ := few_one l
  have HFEW := Aside0.mk (HF w A c hr hc)
  have HS := Aside0.mk (show Say w 15 #[] (.bool true) from fun w1 _ => sane_c w1)
  cases bf with
  | false => exact searches_1 A l.length c key lo hi i rank w HS HFEW
  | true =>
  by_cases kkey : 100 < key.size
  · exact searches_2 A l.length c key lo hi i rank w HS HFEW kkey
  by_cases klo : 100 < lo.size
  · exact searches_3 A l.length c key lo hi i rank w HS HFEW kkey klo
  by_cases khi : 100 < hi.size
  · exact searches_4 A l.length c key lo hi i rank w HS HFEW kkey klo khi
  have hl := (hf rfl).1
  have hlen : l.length ≤ 1000000 := by omega
  obtain ⟨k0, o0, e0⟩ := ordered_t l 0 hl
  obtain ⟨k1, o1, e1⟩ := ordered_t l 1 hl
  obtain ⟨kc, bc, ec, _⟩ := counted_t l hl
  obtain ⟨ks, rp, rb, es, hs⟩ := search_eq l key hl
  obtain ⟨kb, r1, r2, r3, eb, eb2⟩ := bounds_eq l i lo hi hl hi2
  obtain ⟨kl, el⟩ := locate_eq l rank hl
  obtain ⟨kf, ef⟩ := before_eq l i hl
  have HO0 := Aside0.mk (say_drawn (w := w) fun w1 b => understoryref06_Ordered.calls k0 A c l 0 o0 w1 (Kd.C_below hr b) hc e0)
  have HO1 := Aside0.mk (say_drawn (w := w) fun w1 b => understoryref06_Ordered.calls k1 A c l 1 o1 w1 (Kd.C_below hr b) hc e1)
  have H17 := Aside0.mk (say_drawn (w := w) fun w1 b => understorylaw06_counted.calls kc A c l bc w1 (Kd.C_below hr b) hc ec)
  have H25 := Aside0.mk (show Say w 25 #[.slice A l.length c, .string key] _ from fun w1 b => search_c l A c key w1 (Kd.C_below hr b) hlen)
  have H26 := Aside0.mk (show Say w 26 #[.slice A l.length c, .string key] _ from fun w1 b => child_c l A c key w1 (Kd.C_below hr b) hc hlen)
  have H27 := Aside0.mk (say_drawn (w := w) fun w1 b => node_Bounds.calls kb A c l i lo hi r1 r2 r3 w1 (Kd.C_below hr b) hc eb)
  have H28 := Aside0.mk (show Say w 28 #[.slice A l.length c, .int .i64 i] _ from fun w1 b => before_c l A c i w1 (Kd.C_below hr b) hc hlen)
  have H29 := Aside0.mk (show Say w 29 #[.slice A l.length c, .int .i64 rank] _ from fun w1 b => locate_c l A c rank w1 (Kd.C_below hr b) hlen)
  have H30 := Aside0.mk (show Say w 30 #[.slice A l.length c, .string key] _ from fun w1 b => understoryref06_Search.calls ks A c l key rp rb w1 (Kd.C_below hr b) hc es)
  have H31 := Aside0.mk (show Say w 31 #[.slice A l.length c, .int .i64 i, .string lo, .string hi] _ from fun w1 b => understoryref06_Bounds.calls kb A c l i lo hi r1 r2 r3 w1 (Kd.C_below hr b) hc eb2)
  have H32 := Aside0.mk (show Say w 32 #[.slice A l.length c, .int .i64 rank] _ from fun w1 b => understoryref06_Locate.calls kl A c l rank (locR l rank).1 (locR l rank).2.1 (locR l rank).2.2 w1 (Kd.C_below hr b) hc el)
  have H33 := Aside0.mk (say_drawn (w := w) fun w1 b => understoryref06_Before.calls kf A c l i _ w1 (Kd.C_below hr b) hc ef)
  cases o1 with
  | false =>
    cases o0 with
    | false => exact searches_5 A l.length c key lo hi i rank w _ _ rp rb _ _ r1 r2 r3 _ _ _ HS HFEW kkey klo khi H25 H26 H27 H28 H29 H30 H31 H32 H33 HO0 HO1
    | true =>
      have hin := hs (ordered_inc l 0 hl k0 e0)
      exact searches_6 A l.length c key lo hi i rank w _ _ rp rb _ _ r1 r2 r3 _ _ _ HS HFEW kkey klo khi H25 H26 H27 H28 H29 H30 H31 H32 H33 HO0 HO1 hin.1 hin.2
  | true =>
    have hinc := ordered_inc l 1 hl k1 e1
    have hin := hs hinc
    obtain ⟨kh, eh⟩ := child_eq l key hl hinc
    have H34 := Aside0.mk (say_drawn (w := w) fun w1 b => understoryref06_Child.calls kh A c l key _ w1 (Kd.C_below hr b) hc eh)
    cases o0 with
    | false =>
      cases bc with
      | false => exact searches_8b A l.length c key lo hi i rank w _ _ rp rb _ _ r1 r2 r3 _ _ _ HS HFEW kkey klo khi H25 H26 H27 H28 H29 H30 H31 H32 H33 HO0 HO1 H17 H34 hin.1 hin.2
      | true => exact searches_7b A l.length c key lo hi i rank w _ _ rp rb _ _ r1 r2 r3 _ _ _ HS HFEW kkey klo khi H25 H26 H27 H28 H29 H30 H31 H32 H33 HO0 HO1 H17 H34 hin.1 hin.2
    | true =>
      cases bc with
      | false => exact searches_8a A l.length c key lo hi i rank w _ _ rp rb _ _ r1 r2 r3 _ _ _ HS HFEW kkey klo khi H25 H26 H27 H28 H29 H30 H31 H32 H33 HO0 HO1 H17 H34 hin.1 hin.2
      | true => exact searches_7a A l.length c key lo hi i rank w _ _ rp rb _ _ r1 r2 r3 _ _ _ HS HFEW kkey klo khi H25 H26 H27 H28 H29 H30 H31 H32 H33 HO0 HO1 H17 H34 hin.1 hin.2
end Go.Proofs.Ytalncokpbgbccaa.E
