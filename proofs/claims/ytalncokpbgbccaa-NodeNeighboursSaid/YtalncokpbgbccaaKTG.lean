-- A slim copy of TG, written by wip/tools/prune2.py.
import Derived.Test.YtalncokpbgbccaaKTF
/- NodeNeighbours, joined: whatever the lists, the key and the entry, it returns true. -/
namespace Go.Proofs.Ytalncokpbgbccaa.E
set_option linter.unusedVariables false
set_option linter.unusedSimpArgs false
open Go.RowKit Go.Proofs.YtalncokpbgbccaaW.PrintWords Go.Proofs.YtalncokpbgbccaaW.PrintLast Go.Proofs.YtalncokpbgbccaaW.PrintMore
theorem ord_goM (l : List S77) (level : Int) (hl : l.length ≤ 1000000) : ∀ m i, i + m = l.length → ∃ k, understoryref06_Ordered.l0 k l level i = some ((List.range' i m).all (okAt l level))
  | 0, i, h => ⟨1, by rw [understoryref06_Ordered.l0, if_neg (by omega)]; rfl⟩
  | m + 1, i, h => by
    obtain ⟨k, hk⟩ := ord_goM l level hl m (i + 1) (by omega)
    have e : rd_T77 l i = l.getD i z77 := by simp [rd_T77]
    rw [List.range'_succ, List.all_cons]
    have hF : ∀ (hn : ¬ (level > 0 ∧ i = 0)), ∃ k, understoryref06_Ordered.j1 k l level i (rd_T77 l i).f0 false = some (okAt l level i && (List.range' (i + 1) m).all (okAt l level)) := by
      intro hn
      rw [okAt, if_neg hn, e]
      by_cases h1 : ((l.getD i z77).f0.size : Int) < 1
      · exact ⟨1, by rw [understoryref06_Ordered.j1, if_neg (by decide), if_pos h1, decide_eq_false (by omega)]; rfl⟩
      rw [decide_eq_true (show 1 ≤ (l.getD i z77).f0.size by omega)]
      by_cases h2 : ((l.getD i z77).f0.size : Int) > 48
      · exact ⟨1, by rw [understoryref06_Ordered.j1, if_neg (by decide), if_neg h1, if_pos h2, decide_eq_false (by omega)]; rfl⟩
      rw [decide_eq_true (show (l.getD i z77).f0.size ≤ 48 by omega)]
      by_cases h3 : (i : Int) > 0
      · have hw : wrap64 ((i : Int) - 1) = ((i - 1 : Nat) : Int) := by rw [w64 _ (by omega) (by omega)]; omega
        have e1 : rd_T77 l ((i - 1 : Nat) : Int) = l.getD (i - 1) z77 := by simp [rd_T77]
        rw [decide_eq_false (show ¬ i = 0 by omega)]
        by_cases h4 : Op.bytesLess (l.getD (i - 1) z77).f0.toList (l.getD i z77).f0.toList = true
        · refine ⟨k + 1, ?_⟩
          rw [understoryref06_Ordered.j1, if_neg (by decide), if_neg h1, if_neg h2, if_pos h3, hw, e1, if_pos (by omega), if_pos (by omega), if_pos h4, wsuc i (by omega), hk, h4]; rfl
        · refine ⟨1, ?_⟩
          rw [understoryref06_Ordered.j1, if_neg (by decide), if_neg h1, if_neg h2, if_pos h3, hw, e1, if_pos (by omega), if_pos (by omega), if_neg h4]
          have h5 := h4
          rw [Bool.not_eq_true] at h5
          rw [h5]; rfl
      · refine ⟨k + 1, ?_⟩
        rw [decide_eq_true (show i = 0 by omega), understoryref06_Ordered.j1, if_neg (by decide), if_neg h1, if_neg h2, if_neg h3, wsuc i (by omega), hk]; rfl
    by_cases h0 : (i : Int) = 0
    · by_cases hp : level > 0
      · have hi : i = 0 := by omega
        by_cases h5 : (rd_T77 l i).f0.toList = ([] : List UInt8)
        · refine ⟨k + 2, ?_⟩
          rw [understoryref06_Ordered.l0, if_pos (by omega), if_pos (by omega), if_pos h0, understoryref06_Ordered.j1, if_pos (decide_eq_true hp), if_pos h5, wsuc i (by omega), hk, okAt, if_pos ⟨hp, hi⟩, ← e, h5]
          rfl
        · refine ⟨2, ?_⟩
          rw [understoryref06_Ordered.l0, if_pos (by omega), if_pos (by omega), if_pos h0, understoryref06_Ordered.j1, if_pos (decide_eq_true hp), if_neg h5, okAt, if_pos ⟨hp, hi⟩, ← e]
          cases hq : (rd_T77 l i).f0.toList with
          | nil => exact absurd hq h5
          | cons a b => rfl
      · obtain ⟨k2, hk2⟩ := hF (by omega)
        exact ⟨k2 + 1, by rw [understoryref06_Ordered.l0, if_pos (by omega), if_pos (by omega), if_pos h0, decide_eq_false hp]; exact hk2⟩
    · obtain ⟨k2, hk2⟩ := hF (by omega)
      exact ⟨k2 + 1, by rw [understoryref06_Ordered.l0, if_pos (by omega), if_pos (by omega), if_neg h0]; exact hk2⟩
/-- the reference's Ordered says what the program's says -/
theorem ordered_eqM (l : List S77) (level : Int) (hl : l.length ≤ 1000000) : ∃ k, understoryref06_Ordered.f k l level = some (ordL l level) := by
  obtain ⟨k, hk⟩ := ord_goM l level hl _ 0 (Nat.zero_add _)
  rw [← List.range_eq_range'] at hk
  refine ⟨k, ?_⟩
  unfold understoryref06_Ordered.f understoryref06_inLevel.f ordL inB
  by_cases h0 : level ≥ 0
  · rw [if_pos h0, decide_eq_true (show 0 ≤ level from h0)]
    by_cases h1 : level ≤ 20
    · rw [decide_eq_true h1]; simpa using hk
    · rw [decide_eq_false h1]; simp
  · rw [if_neg h0, decide_eq_false (show ¬ 0 ≤ level from h0)]; simp

theorem mem_rput {a : List S77} {x y : S77} {r : Nat} {is : Bool} (h : y ∈ rputL a x r is) : y ∈ a ∨ y = x := by
  unfold rputL at h
  rw [List.mem_append, List.mem_append, List.mem_singleton] at h
  rcases h with (h | h) | h
  · exact Or.inl (List.mem_of_mem_take h)
  · exact Or.inr h
  · exact Or.inl (List.mem_of_mem_drop h)
theorem len_rput (a : List S77) (x : S77) (r : Nat) (is : Bool) : (rputL a x r is).length ≤ a.length + 1 := by
  unfold rputL
  rw [List.length_append, List.length_append, List.length_take, List.length_drop, List.length_singleton]
  split <;> omega
theorem mem_comb {a b : List S77} {sep : ByteArray} {level : Int} {y : S77} (h : y ∈ combL a b sep level) : (∃ z, (z ∈ a ∨ z ∈ b) ∧ y.f1 = z.f1) ∧ (y.f0 = sep ∨ y ∈ a ∨ y ∈ b) := by
  unfold combL at h
  split at h
  · rename_i hc
    rcases List.mem_or_eq_of_mem_set h with h | h
    · rw [List.mem_append] at h
      exact ⟨⟨y, h, rfl⟩, Or.inr h⟩
    · refine ⟨⟨(a ++ b).getD a.length z77, ?_, by rw [h]; rfl⟩, Or.inl (by rw [h]; rfl)⟩
      rw [← List.mem_append]
      have hl : a.length < (a ++ b).length := by rw [List.length_append]; omega
      rw [show (a ++ b).getD a.length z77 = (a ++ b)[a.length] by simp [List.getD, List.getElem?_eq_getElem hl]]
      exact List.getElem_mem hl
  · rw [List.mem_append] at h
    exact ⟨⟨y, h, rfl⟩, Or.inr h⟩
theorem len_comb (a b : List S77) (sep : ByteArray) (level : Int) : (combL a b sep level).length = a.length + b.length := by unfold combL; split <;> simp
theorem few_mem {l : List S77} (h : FewL l) (y : S77) (hy : y ∈ l) : y.f0.size ≤ 100 ∧ y.f1.size ≤ 200 := by
  obtain ⟨j, hj, rfl⟩ := List.getElem_of_mem hy
  have := h.2 j hj
  rw [show l.getD j z77 = l[j] by simp [hj]] at this
  exact this
theorem neighbours_c (a b : List S77) (x : S77) (A B : Option Addr) (c d : Nat) (sep : ByteArray) (level : Int) (w : World) (ha : Kd.C k77 w A a.length a) (hca : a.length ≤ c) (hb : Kd.C k77 w B b.length b) (hcb : b.length ≤ d) :
    Calls Try.prog 10 #[.slice A a.length c, .slice B b.length d, .string sep, .int .i64 level, .agg (entC x)] w fun e w' => e = .returned (.bool true) ∧ Below w.heap.size w w' := by
  obtain ⟨bf, hf, HF⟩ := few_three a b x
  have HFEW := Aside0.mk (HF w A c B d ha hca hb hcb)
  have HS := Aside0.mk (show Say w 15 #[] (.bool true) from fun w1 _ => sane_c w1)
  cases bf with
  | false => exact neigh_1 a b A B c d sep level x w HS HFEW
  | true =>
  obtain ⟨fa, fb, fx⟩ := hf rfl
  have la := fa.1
  have lb := fb.1
  have hfa := few_fine fa
  have hfb := few_fine fb
  have hfx := few_fine fx
  obtain ⟨ka, ea⟩ := ordered_eqM a level (by omega)
  obtain ⟨kb, eb⟩ := ordered_eqM b level (by omega)
  have HOA := Aside0.mk (say_drawn (w := w) fun w1 q => understoryref06_Ordered.calls ka A c a level _ w1 (Kd.C_below ha q) hca ea)
  have HOB := Aside0.mk (say_drawn (w := w) fun w1 q => understoryref06_Ordered.calls kb B d b level _ w1 (Kd.C_below hb q) hcb eb)
  have HEA := Aside0.mk (show Say w 49 #[.slice A a.length c, .int .i64 level] _ from fun w1 q => each_c a A c level w1 (Kd.C_below ha q) hca hfa)
  have HEB := Aside0.mk (show Say w 49 #[.slice B b.length d, .int .i64 level] _ from fun w1 q => each_c b B d level w1 (Kd.C_below hb q) hcb hfb)
  cases hoa : ordL a level with
  | false => rw [hoa] at HOA; exact neigh_2 a b A B c d sep level x w HS HFEW HOA
  | true =>
  rw [hoa] at HOA
  cases hob : ordL b level with
  | false => rw [hob] at HOB; exact neigh_3 a b A B c d sep level x w HS HFEW HOA HOB
  | true =>
  rw [hob] at HOB
  cases hea : eachB a level with
  | false => rw [hea] at HEA; exact neigh_4 a b A B c d sep level x w HS HFEW HOA HOB HEA
  | true =>
  rw [hea] at HEA
  cases heb : eachB b level with
  | false => rw [heb] at HEB; exact neigh_5 a b A B c d sep level x w HS HFEW HOA HOB HEA HEB
  | true =>
  rw [heb] at HEB
  have h0 : 0 ≤ level := by
    have := ord_level hoa
    unfold inB at this; simp at this; omega
  obtain ⟨ks, r, hks, hr1, hr2, hr3⟩ := rsearch_go a x.f0 la _ 0 (Nat.zero_add _) (fun j hj => by omega)
  obtain ⟨is, his⟩ : ∃ is, (decide (r < a.length) && ((a.getD r z77).f0.toList == x.f0.toList)) = is := ⟨_, rfl⟩
  have hisr : is = true → r < a.length := fun h => by rw [h, Bool.and_eq_true, decide_eq_true_eq] at his; exact his.1
  rw [his] at hks
  have H30 : ∀ w1, Below w.heap.size w w1 → Aside0 (Say w1 30 #[.slice A a.length c, .string x.f0] (.agg #[.int .i64 (r : Int), .bool is])) := fun w1 q1 => ⟨fun w2 q2 => understoryref06_Search.calls ks A c a x.f0 _ _ w2 (Kd.C_below (Kd.C_below ha q1) q2) hca (by rw [understoryref06_Search.f]; exact hks)⟩
  obtain ⟨ONE, hONE⟩ : ∃ ONE, rputL a x r is = ONE := ⟨_, rfl⟩
  have hone_len : ONE.length ≤ 101 := by rw [← hONE]; have := len_rput a x r is; omega
  have hone_mem : ∀ y ∈ ONE, y.f0.size ≤ 100 ∧ y.f1.size ≤ 200 := by
    intro y hy
    rw [← hONE] at hy
    rcases mem_rput hy with h | h
    · exact few_mem fa y h
    · rw [h]; exact few_mem fx x (by simp)
  have hone_fine : Fine ONE := ⟨by omega, fun y hy => by have := hone_mem y hy; omega⟩
  obtain ⟨ko, eo⟩ := ordered_eqM ONE level (by omega)
  obtain ⟨L, hL⟩ : ∃ L, combL a b sep level = L := ⟨_, rfl⟩
  have hL_len : L.length ≤ 200 := by rw [← hL, len_comb]; omega
  have hgo : (lightB a level && (lightB b level && (betwB a b sep level && (smallB a level || smallB b level)))) = true → ordL L level = true ∧ L.all (okB level) = true ∧ wt level L ≤ 697 ∧ Fine L ∧ (∀ y ∈ L, y.f0.size ≤ 1000000) ∧ (∀ y ∈ L, y.f1.size ≤ 200) := by
    intro h
    simp only [Bool.and_eq_true, Bool.or_eq_true] at h
    obtain ⟨g1, g2, g3, g4⟩ := h
    have hsep : sep.size ≤ 48 := by unfold betwB at g3; simp only [Bool.and_eq_true, decide_eq_true_eq] at g3; exact g3.2.1
    have hw := comb_weight (a := a) (b := b) (sep := sep) (level := level) (eachB_ok hea) (eachB_ok heb) hsep
    have w1 := light_wt g1
    have w2 := light_wt g2
    have hf0 : ∀ y ∈ L, y.f0.size ≤ 1000000 := by
      intro y hy
      rw [← hL] at hy
      rcases (mem_comb hy).2 with q | q | q
      · rw [q]; omega
      · have := few_mem fa y q; omega
      · have := few_mem fb y q; omega
    have hf1 : ∀ y ∈ L, y.f1.size ≤ 200 := by
      intro y hy
      rw [← hL] at hy
      obtain ⟨z, hz, e⟩ := (mem_comb hy).1
      rw [e]
      rcases hz with q | q
      · exact (few_mem fa z q).2
      · exact (few_mem fb z q).2
    refine ⟨by rw [← hL]; exact comb_ord hoa hob g3, by rw [← hL]; exact hw.1, ?_, ⟨by omega, fun y hy => ⟨by have := hf0 y hy; omega, by have := hf1 y hy; omega⟩⟩, hf0, hf1⟩
    rw [← hL]
    rcases g4 with g | g
    · have := small_wt g; omega
    · have := small_wt g; omega
  refine neigh_6 a b A B c d sep level x w HS HFEW HOA HOB HEA HEB (rightB a level) (fitsL a level) (eachB [x] level) (!(x.f0.toList == ([] : List UInt8)))
    ⟨fun w1 q => right_c a A c level w1 (Kd.C_below ha q) hca la⟩ ⟨fun w1 q => rfits_c a A c level w1 (Kd.C_below ha q) hfa⟩
    ⟨fun w1 gE q hg => each_c [x] (some ⟨gE, 0, none⟩) 1 level w1 (C_one hg) (Nat.le_refl _) hfx⟩ (by rw [Bool.not_not])
    ONE (packR ONE level).1.1.length (packR ONE level).1.2.length (packR ONE level).2 (ordL ONE level)
    ⟨fun w1 q => ?_⟩ ⟨fun W A1 c1 hC hc => ?_⟩ ⟨fun W A1 c1 hC hc => ?_⟩ ⟨fun hg ho1 => ?_⟩
    (lightB a level) (lightB b level) (betwB a b sep level) (smallB a level) (smallB b level)
    ⟨fun w1 q => light_c a A c level w1 (Kd.C_below ha q) hfa⟩ ⟨fun w1 q => light_c b B d level w1 (Kd.C_below hb q) hfb⟩
    ⟨fun w1 q => between_c a b A B c d sep level w1 (Kd.C_below ha q) (by omega) (Kd.C_below hb q) (by omega) h0⟩
    ⟨fun w1 q => small_c a A c level w1 (Kd.C_below ha q) hfa⟩ ⟨fun w1 q => small_c b B d level w1 (Kd.C_below hb q) hfb⟩
    L (packR L level).1.1 (packR L level).1.2.length
    ⟨fun w1 q => by rw [← hL]; exact combine_c a b A B c d sep level w1 (Kd.C_below ha q) hca (Kd.C_below hb q) hcb (by omega) (by omega)⟩
    ⟨fun w1 q => by rw [← hL]; exact rcomb_c a b A B c d sep level w1 (Kd.C_below ha q) hca (Kd.C_below hb q) hcb (by omega) (by omega)⟩
    ⟨fun W A1 A2 c1 c2 h1 h2 => by have := same_c L L A1 A2 c1 c2 W h1 h2 (by omega); rwa [(sameL_iff _ _).2 rfl] at this⟩ ⟨fun hg => ?_⟩ ⟨fun hg i hi h2 W A0 c0 hC hc => ?_⟩
  · rw [← hONE]
    cases is with
    | true => exact rput_is a x A c r w1 (Kd.C_below ha q) hca (by omega) hr1 (hisr rfl) (H30 w1 q)
    | false => exact rput_not a x A c r w1 (Kd.C_below ha q) hca (by omega) hr1 (H30 w1 q)
  · refine (packs_c ONE A1 c1 level W hC hc hone_fine (fun y hy => by have := hone_mem y hy; omega)).mono ?_
    rintro e w2 ⟨A5, c5, A6, c6, rfl, _, _, q3⟩
    exact ⟨A5, c5, A6, c6, rfl, q3⟩
  · exact (understoryref06_Ordered.calls ko A1 c1 ONE level _ W hC hc eo).mono fun e w2 ⟨e1, n, b2⟩ => ⟨e1, by rw [b2]; exact pw_below_drewN (Below.refl _ _) _⟩
  · simp only [Bool.and_eq_true] at hg
    obtain ⟨g1, g2, g3, g4⟩ := hg
    have hx : oneB x level = true := by simpa [eachB] using g3
    rw [← hONE] at ho1 ⊢
    obtain ⟨q1, q2⟩ := put_two r is g1 g2 hx ho1
    have := packR_two ho1 q1 q2
    exact ⟨this.1, this.2.1⟩
  · obtain ⟨g1, g2, g3, g4, g5, g6⟩ := hgo hg
    have hp := packR_two g1 g2 g3
    refine ⟨⟨hp.2.1, hp.2.2.1⟩, fun W A1 c1 hC hc => ?_⟩
    refine (packs_c L A1 c1 level W hC hc g4 g5).mono ?_
    rintro e w2 ⟨A5, c5, A6, c6, rfl, ⟨_, q1⟩, _, q3⟩
    exact ⟨A5, c5, A6, c6, by rw [hp.1], q1, q3⟩
  · obtain ⟨g1, g2, g3, g4, g5, g6⟩ := hgo hg
    have hp := packR_two g1 g2 g3
    have hm := hp.2.2.2.2 i hi
    have := small_c ((packR L level).1.1.getD i []) A0 c0 level W hC ⟨by omega, fun y hy => by
      obtain ⟨q1, z, hz, e⟩ := hm.2 y hy
      have := g6 z hz
      rw [e]; omega⟩
    rwa [hp.2.2.2.1 i hi h2] at this
end Go.Proofs.Ytalncokpbgbccaa.E

