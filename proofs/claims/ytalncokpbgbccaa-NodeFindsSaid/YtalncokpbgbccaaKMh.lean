-- A slim copy of Mh, Mi, written by wip/tools/prune2.py.
import Derived.Test.YtalncokpbgbccaaKNZ
/- Joined: OA, OB. -/
/- pack, for every list that can be packed; Cut. -/
namespace Go.Proofs.Ytalncokpbgbccaa.E
set_option linter.unusedVariables false
set_option linter.unusedSimpArgs false
open Go.RowKit Go.Proofs.YtalncokpbgbccaaW.PrintWords Go.Proofs.YtalncokpbgbccaaW.PrintLast Go.Proofs.YtalncokpbgbccaaW.PrintMore

set_option maxRecDepth 100000 in
set_option maxHeartbeats 8000000 in
theorem pack_one (level : Int) (P f : Nat) (l : List S77) (A : Option Addr) (n c : Nat) (w : World) (parts : List (List S77)) (seps : List ByteArray) (hn : l.length = n) (hF : Kd.F k77 w (Safe P w) A n l) (hc : n ≤ c) (hf : Fine l) (hp : packable l level = true) (hk : Pk w P parts seps)
    (hfit : ¬ 6 + wt level (bare level l) ≤ 496) (h1 : n ≤ 1) :
    Calls Try.prog 73 #[.agg #[.slice A n c, .int .i64 level], .func (.func 74) #[.pointer (some ⟨P, 0, none⟩)] #[], .func (.func 75) #[.pointer (some ⟨P, 0, none⟩)] #[]] w fun e w' => e = .panicked (refP 1) ∧ Below P w w' := by
  have hr : Kd.C k77 w A n l := Kd.F_now hF
  have HWT := Aside0.mk (fun (W : World) (hb : Below w.heap.size w W) => (by subst hn; exact weight_any l A c 0 l.length level W (Kd.C_below hr hb) hc hf (Nat.zero_le _) (Nat.le_refl _) (some (6 + wt level (bare level l))) (by rw [partE_all]; exact packable_weight hp) : Calls Try.prog 91 #[.agg #[.slice A n c, .int .i64 level], .int .i64 0, .int .i64 n] W fun e w' => WOut (some (6 + wt level (bare level l))) e ∧ Below W.heap.size W w'))
  generalize 6 + wt level (bare level l) = m at HWT hfit
  have hB0 := Aside0.mk (below_alloc (Below.refl w.heap.size w) (.cells #[.slice A n c, .int .i64 level] 103))
  have HBX := Aside0.mk (blk_new w (.cells #[.slice A n c, .int .i64 level] 103))
  have HPW := Aside0.mk (Nat.le_of_lt (pk_lt hk))
  have k1 : decide (m ≤ 496) = false := decide_eq_false hfit
  have k2 : decide ((n : Int) > 1) = false := decide_eq_false (by omega)
  have k2' : decide (1 < (n : Int)) = false := decide_eq_false (by omega)
  have k2'' : decide (1 < n) = false := decide_eq_false (by omega)
  have hnle : (n : Int) ≤ 1000000 := by omega
  clear hr hn hF hc hf hp hk hfit h1
  go_enter Try.func73, Try.ntmps73
  go_wp2_with (first
    | (go_at_call 91; refine (HWT.out _ hB0.out).mono ?_; rintro e w2 ⟨rfl, hb⟩; have HB2 := Aside0.mk (hB0.out.trans (hb.mono hB0.out.size)); have HX2 := Aside0.mk (blk_below HBX.out hb); have c0 : w2.cell? ⟨w.heap.size, 0, none⟩ = some (.slice A n c) := (by rw [blk_cell HX2.out]; rfl); have c1 : w2.cell? ⟨w.heap.size, 1, none⟩ = some (.int .i64 level) := (by rw [blk_cell HX2.out]; rfl); clear hb)
    | (go_at_call 60; refine (page_Capacity.calls 496 _ rfl).mono ?_; rintro e w3 ⟨rfl, ⟨nd, rfl⟩⟩)
    | (go_at_call 67; refine (must_no _ _).mono ?_; rintro e w4 ⟨rfl, rfl⟩))
  exact ⟨rfl, rfl, (pw_below_drewN HB2.out _).mono HPW.out⟩
theorem pack_all (level : Int) (P : Nat) : ∀ f, PackC level P f := by
  intro f
  induction f with
  | zero => intro l A n c w parts seps _ h; omega
  | succ f ih =>
    intro l A n c w parts seps hn hnf hF hc hf hks hp hk hpl hsl
    by_cases hfit : 6 + wt level (bare level l) ≤ 496
    · refine (pack_fits level P f l A n c w parts seps hn hF hc hf hp hk hpl hfit).mono ?_
      rintro e w' ⟨rfl, h1, h2⟩
      show PackOut _ _ _ (packO (f + 1) l level) _ _ _
      rw [packO, if_pos hfit]
      exact ⟨rfl, by simpa using h1, h2⟩
    · by_cases h2 : 2 ≤ n
      · refine (pack_cut level P f ih l A n c w parts seps hn hnf hF hc hf hks hp hk hpl hsl hfit h2).mono ?_
        intro e w' h
        show PackOut _ _ _ (packO (f + 1) l level) _ _ _
        rw [packO, if_neg hfit, if_neg (by omega)]
        exact h
      · refine (pack_one level P f l A n c w parts seps hn hF hc hf hp hk hfit (by omega)).mono ?_
        rintro e w' ⟨rfl, h1⟩
        show PackOut _ _ _ (packO (f + 1) l level) _ _ _
        rw [packO, if_neg hfit, if_pos (by omega)]
        exact ⟨rfl, h1⟩
/-- what Cut answers -/
def cutR (l : List S77) (level : Int) : Int × Int := if packable l level = true then (if 2 ≤ l.length then (bestA l level, 0) else (0, 1)) else (0, 2)
set_option maxRecDepth 100000 in
set_option maxHeartbeats 8000000 in
theorem cut_bad (l : List S77) (A : Option Addr) (c : Nat) (level : Int) (w : World) (hr : Kd.C k77 w A l.length l) (hc : l.length ≤ c) (hf : Fine l) (hp : packable l level = false) :
    Calls Try.prog 38 #[.slice A l.length c, .int .i64 level] w fun e w' => e = .returned (.tuple #[.int .i64 0, .int .i64 2]) ∧ Below w.heap.size w w' := by
  have HOR := Aside0.mk (fun (W : World) (hb : Below w.heap.size w W) => ((ordered_list l A c level W (Kd.C_below hr hb) hc hf).mono (fun e w' h => ⟨by have := h.1; rw [hp] at this; exact this, h.2⟩) : Calls Try.prog 70 #[.agg #[.slice A l.length c, .int .i64 level]] W fun e w' => e = .panicked (refP 2) ∧ Below W.heap.size W w'))
  have hB0 := Aside0.mk (below_alloc (below_alloc (Below.refl w.heap.size w) (.cells #[.int .i64 0] 28)) (.cells #[.slice A l.length c, .int .i64 level] 103))
  have hE0 := Aside0.mk (blk_alloc (blk_new w (.cells #[.int .i64 0] 28)) (.cells #[.slice A l.length c, .int .i64 level] 103))
  clear hr hc hf hp
  go_enter_defers Try.func38, Try.ntmps38
  go_wp2_with (go_at_call 70; refine (HOR.out _ hB0.out).mono ?_; rintro e w2 ⟨rfl, hb⟩; have HB2 := Aside0.mk (hB0.out.trans (hb.mono hB0.out.size)); have HE2 := Aside0.mk (blk_below hE0.out hb); clear hb)
  refine leaves_cons (f := 66) (args := #[.pointer (some ⟨w.heap.size, 0, none⟩)]) (by simp) (by simp [go_sem]) ?_
  refine (refused_panicking w.heap.size 0 2 [] w2 (by rw [blk_cell HE2.out]; rfl) (blk_frozen HE2.out 0)).mono ?_
  rintro e u' w'' ⟨rfl, rfl, rfl⟩
  have hb4 := below_alloc (HB2.out.setCell (p := ⟨w.heap.size, 0, none⟩) (Nat.le_refl _) (.int .i64 2)) (.cells #[.int .i64 2] 123)
  have hb5 : ((w2.setCell ⟨w.heap.size, 0, none⟩ (.int .i64 2)).alloc (.cells #[.int .i64 2] 123)).heap[w.heap.size]? = some (.cells #[.int .i64 2] 28 (0, 0)) := blk_alloc (blk_put HE2.out 0 _ rfl) _
  have c1 : ((w2.setCell ⟨w.heap.size, 0, none⟩ (.int .i64 2)).alloc (.cells #[.int .i64 2] 123)).cell? ⟨w.heap.size, 0, none⟩ = some (.int .i64 2) := by rw [blk_cell hb5]; rfl
  generalize (w2.setCell ⟨w.heap.size, 0, none⟩ (.int .i64 2)).alloc (.cells #[.int .i64 2] 123) = w5 at hb4 c1 ⊢
  simp [Leaves, settle, results, Try.results38, go_sem, c1]
  exact hb4
set_option maxRecDepth 100000 in
set_option maxHeartbeats 8000000 in
theorem cut_one (l : List S77) (A : Option Addr) (c : Nat) (level : Int) (w : World) (hr : Kd.C k77 w A l.length l) (hc : l.length ≤ c) (hf : Fine l) (hp : packable l level = true) (h1 : l.length < 2) :
    Calls Try.prog 38 #[.slice A l.length c, .int .i64 level] w fun e w' => e = .returned (.tuple #[.int .i64 0, .int .i64 1]) ∧ Below w.heap.size w w' := by
  have HOR := Aside0.mk (fun (W : World) (hb : Below w.heap.size w W) => ((ordered_list l A c level W (Kd.C_below hr hb) hc hf).mono (fun e w' h => ⟨by have := h.1; rw [hp] at this; exact this, h.2⟩) : Calls Try.prog 70 #[.agg #[.slice A l.length c, .int .i64 level]] W fun e w' => e = .returned (.tuple #[]) ∧ Below W.heap.size W w'))
  have hB0 := Aside0.mk (below_alloc (below_alloc (Below.refl w.heap.size w) (.cells #[.int .i64 0] 28)) (.cells #[.slice A l.length c, .int .i64 level] 103))
  have hE0 := Aside0.mk (blk_alloc (blk_new w (.cells #[.int .i64 0] 28)) (.cells #[.slice A l.length c, .int .i64 level] 103))
  have k1 : decide ((l.length : Int) ≥ 2) = false := decide_eq_false (by omega)
  have k2 : decide (2 ≤ (l.length : Int)) = false := decide_eq_false (by omega)
  have k3 : decide (2 ≤ l.length) = false := decide_eq_false (by omega)
  have hle : (l.length : Int) ≤ 1000000 := by have := hf.1; omega
  clear hr hc hf hp h1
  go_enter_defers Try.func38, Try.ntmps38
  go_wp2_with (first | (go_at_call 70; refine (HOR.out _ hB0.out).mono ?_; rintro e w2 ⟨rfl, hb⟩; have HB2 := Aside0.mk (hB0.out.trans (hb.mono hB0.out.size)); have HE2 := Aside0.mk (blk_below hE0.out hb); clear hb) | (go_at_call 67; refine (must_no _ _).mono ?_; rintro e w4 ⟨rfl, rfl⟩))
  refine leaves_cons (f := 66) (args := #[.pointer (some ⟨w.heap.size, 0, none⟩)]) (by simp) (by simp [go_sem]) ?_
  refine (refused_panicking w.heap.size 0 1 [] w4 (by rw [blk_cell HE2.out]; rfl) (blk_frozen HE2.out 0)).mono ?_
  rintro e u' w'' ⟨rfl, rfl, rfl⟩
  have hb4 := below_alloc (HB2.out.setCell (p := ⟨w.heap.size, 0, none⟩) (Nat.le_refl _) (.int .i64 1)) (.cells #[.int .i64 1] 123)
  have hb5 : ((w4.setCell ⟨w.heap.size, 0, none⟩ (.int .i64 1)).alloc (.cells #[.int .i64 1] 123)).heap[w.heap.size]? = some (.cells #[.int .i64 1] 28 (0, 0)) := blk_alloc (blk_put HE2.out 0 _ rfl) _
  have c1 : ((w4.setCell ⟨w.heap.size, 0, none⟩ (.int .i64 1)).alloc (.cells #[.int .i64 1] 123)).cell? ⟨w.heap.size, 0, none⟩ = some (.int .i64 1) := by rw [blk_cell hb5]; rfl
  generalize (w4.setCell ⟨w.heap.size, 0, none⟩ (.int .i64 1)).alloc (.cells #[.int .i64 1] 123) = w5 at hb4 c1 ⊢
  simp [Leaves, settle, results, Try.results38, go_sem, c1]
  exact hb4
set_option maxRecDepth 100000 in
set_option maxHeartbeats 8000000 in
theorem cut_ok (l : List S77) (A : Option Addr) (c : Nat) (level : Int) (w : World) (hr : Kd.C k77 w A l.length l) (hc : l.length ≤ c) (hf : Fine l) (hp : packable l level = true) (h2 : 2 ≤ l.length) :
    Calls Try.prog 38 #[.slice A l.length c, .int .i64 level] w fun e w' => e = .returned (.tuple #[.int .i64 (bestA l level), .int .i64 0]) ∧ Below w.heap.size w w' := by
  have HOR := Aside0.mk (fun (W : World) (hb : Below w.heap.size w W) => ((ordered_list l A c level W (Kd.C_below hr hb) hc hf).mono (fun e w' h => ⟨by have := h.1; rw [hp] at this; exact this, h.2⟩) : Calls Try.prog 70 #[.agg #[.slice A l.length c, .int .i64 level]] W fun e w' => e = .returned (.tuple #[]) ∧ Below W.heap.size W w'))
  have HDV := Aside0.mk (fun (W : World) (hb : Below w.heap.size w W) => divided_c l A c level W (Kd.C_below hr hb) hc hf (fun i hi => ⟨_, packable_ahead hp i hi⟩))
  have HBE := Aside0.mk (fun (W : World) (hb : Below w.heap.size w W) (D : Nat) (av : Addr) (cv : Nat) (hD : W.heap[D]? = some (.cells #[.slice A l.length c, .int .i64 level, .slice (some av) l.length cv] 127 (0, 0))) (ha : (Kd.int .i64).C W (some av) l.length (aheads l level)) => best_c l A c level W D av cv (Kd.C_below hr hb) hc hf h2 (packable_level hp) hD ha (packable_ahOk hp hf))
  have HLA := Aside0.mk (aheads_length l level)
  have hB0 := Aside0.mk (below_alloc (below_alloc (Below.refl w.heap.size w) (.cells #[.int .i64 0] 28)) (.cells #[.slice A l.length c, .int .i64 level] 103))
  have hE0 := Aside0.mk (blk_alloc (blk_new w (.cells #[.int .i64 0] 28)) (.cells #[.slice A l.length c, .int .i64 level] 103))
  have hX0 := Aside0.mk (show ((w.alloc (.cells #[.int .i64 0] 28)).alloc (.cells #[.slice A l.length c, .int .i64 level] 103)).heap[w.heap.size + 1]? = some (.cells #[.slice A l.length c, .int .i64 level] 103 (0, 0)) by
    have := blk_new (w.alloc (.cells #[.int .i64 0] 28)) (.cells #[.slice A l.length c, .int .i64 level] 103)
    rw [World.size_alloc] at this
    exact this)
  have k1 : decide ((l.length : Int) ≥ 2) = true := decide_eq_true (by omega)
  have k2 : decide (2 ≤ (l.length : Int)) = true := decide_eq_true (by omega)
  have k3 : decide (2 ≤ l.length) = true := decide_eq_true (by omega)
  have hle : (l.length : Int) ≤ 1000000 := by have := hf.1; omega
  have H2 := Aside0.mk h2
  clear hr hc hf hp h2
  go_enter_defers Try.func38, Try.ntmps38
  go_wp2_with (first
    | (go_at_call 70; refine (HOR.out _ hB0.out).mono ?_; rintro e w2 ⟨rfl, hb⟩; have HB2 := Aside0.mk (hB0.out.trans (hb.mono hB0.out.size)); have HE2 := Aside0.mk (blk_below hE0.out hb); have HX2 := Aside0.mk (blk_below hX0.out hb); have x0 : w2.cell? ⟨w.heap.size + 1, 0, none⟩ = some (.slice A l.length c) := (by rw [blk_cell HX2.out]; rfl); have x1 : w2.cell? ⟨w.heap.size + 1, 1, none⟩ = some (.int .i64 level) := (by rw [blk_cell HX2.out]; rfl); clear hb)
    | (go_at_call 67; refine (must_yes _ _).mono ?_; rintro e w4 ⟨rfl, rfl⟩)
    | (go_at_call 71; refine (HDV.out _ HB2.out).mono ?_; rintro e w5 ⟨D, v, rfl, _, hd, hq, hb⟩; obtain ⟨av, cv, rfl⟩ := Kd.R_slice1 hq (by rw [HLA.out]; have := H2.out; omega); rw [HLA.out] at hd hq; have GD := Aside0.mk hd; have GH := Aside0.mk (show (Kd.int .i64).C w5 (some av) l.length (aheads l level) by have h := Kd.R_reads' hq; rw [h.1]; exact h.2.2); have HB5 := Aside0.mk (HB2.out.trans (hb.mono HB2.out.size)); have HE5 := Aside0.mk (blk_below HE2.out hb); clear hd hq hb x0 x1)
    | (go_at_call 72; refine (HBE.out _ HB5.out D av cv GD.out GH.out).mono ?_; rintro e w6 ⟨rfl, hb⟩; have HB6 := Aside0.mk (HB5.out.trans (hb.mono HB5.out.size)); have HE6 := Aside0.mk (blk_below HE5.out hb); have y0 : w6.cell? ⟨w.heap.size, 0, none⟩ = some (.int .i64 0) := (by rw [blk_cell HE6.out]; rfl); have y1 := blk_frozen HE6.out 0; have HB7 := Aside0.mk (HB6.out.setCell (p := ⟨w.heap.size, 0, none⟩) (Nat.le_refl _) (.int .i64 0)); have HE7 := Aside0.mk (blk_put HE6.out 0 (.int .i64 0) rfl); clear hb))
  have c1 : (w6.setCell ⟨w.heap.size, 0, none⟩ (.int .i64 0)).cell? ⟨w.heap.size, 0, none⟩ = some (.int .i64 0) := by rw [blk_cell HE7.out]; rfl
  refine leaves_cons (f := 66) (args := #[.pointer (some ⟨w.heap.size, 0, none⟩)]) (by simp) (by simp [go_sem]) ?_
  refine (refused_idle w.heap.size _).mono ?_
  rintro e u' w'' ⟨rfl, rfl, rfl⟩
  have hb4 := HB7.out
  generalize w6.setCell ⟨w.heap.size, 0, none⟩ (.int .i64 0) = w7 at hb4 c1 ⊢
  simp [Leaves, settle, results, Try.results38, go_sem, c1]
  exact hb4
theorem cut_c (l : List S77) (A : Option Addr) (c : Nat) (level : Int) (w : World) (hr : Kd.C k77 w A l.length l) (hc : l.length ≤ c) (hf : Fine l) :
    Calls Try.prog 38 #[.slice A l.length c, .int .i64 level] w fun e w' => e = .returned (.tuple #[.int .i64 (cutR l level).1, .int .i64 (cutR l level).2]) ∧ Below w.heap.size w w' := by
  cases hp : packable l level with
  | false => rw [show cutR l level = (0, 2) by simp [cutR, hp]]; exact cut_bad l A c level w hr hc hf hp
  | true =>
    by_cases h2 : 2 ≤ l.length
    · rw [show cutR l level = (bestA l level, 0) by simp [cutR, hp, h2]]; exact cut_ok l A c level w hr hc hf hp h2
    · rw [show cutR l level = (0, 1) by simp [cutR, hp, h2]]; exact cut_one l A c level w hr hc hf hp (by omega)
end Go.Proofs.Ytalncokpbgbccaa.E

/- Pack: the nodes into which entries are divided, and the keys between them. -/
namespace Go.Proofs.Ytalncokpbgbccaa.E
set_option linter.unusedVariables false
set_option linter.unusedSimpArgs false
open Go.RowKit Go.Proofs.YtalncokpbgbccaaW.PrintWords Go.Proofs.YtalncokpbgbccaaW.PrintLast Go.Proofs.YtalncokpbgbccaaW.PrintMore

def rg39_8_T : Bool × List (List Nat × List Nat) := (true, [([], []), ([0], [0]), ([1], [1]), ([2], [2]), ([], []), ([4], [4]), ([5], [5]), ([6], [6]), ([3, 0, 1, 2, 3], [3]), ([7, 8, 0, 1, 2, 3, 4, 5, 6, 7, 8], [7]), ([9, 0, 1, 2, 3, 4, 5, 6, 7, 8, 9], [])])
def rg39_8_B : List Nat := [0, 1, 3, 7, 0, 16, 48, 112, 15, 511, 1023]
theorem rg39_8_tab : rtab .any (opsOf Try.f39 8) = rg39_8_T := by kernel_rfl
theorem rg39_8_bits : waitsOk rg39_8_T.2 rg39_8_B = true := by kernel_rfl
set_option maxRecDepth 100000 in
set_option maxHeartbeats 8000000 in
theorem packs_bad (l : List S77) (A : Option Addr) (c : Nat) (level : Int) (w : World) (hr : Kd.C k77 w A l.length l) (hc : l.length ≤ c) (hf : Fine l) (hp : packable l level = false) :
    Calls Try.prog 39 #[.slice A l.length c, .int .i64 level] w fun e w' => e = .returned (.tuple #[.slice none 0 0, .slice none 0 0, .int .i64 2]) ∧ Below w.heap.size w w' := by
  have HOR := Aside0.mk (fun (W : World) (hb : Below w.heap.size w W) => ((ordered_list l A c level W (Kd.C_below hr hb) hc hf).mono (fun e w' h => ⟨by have := h.1; rw [hp] at this; exact this, h.2⟩) : Calls Try.prog 70 #[.agg #[.slice A l.length c, .int .i64 level]] W fun e w' => e = .panicked (refP 2) ∧ Below W.heap.size W w'))
  have hB0 := Aside0.mk (below_alloc (below_alloc (Below.refl w.heap.size w) (.cells #[.int .i64 0] 28)) (.cells #[.slice A l.length c, .int .i64 level] 103))
  have hE0 := Aside0.mk (blk_alloc (blk_new w (.cells #[.int .i64 0] 28)) (.cells #[.slice A l.length c, .int .i64 level] 103))
  clear hr hc hf hp
  go_enter_defers Try.func39, Try.ntmps39
  go_wp2_with (go_at_call 70; refine (HOR.out _ hB0.out).mono ?_; rintro e w2 ⟨rfl, hb⟩; have HBX := Aside0.mk (hB0.out.trans (hb.mono hB0.out.size)); have HEX := Aside0.mk (blk_below hE0.out hb); clear hb)
  refine leaves_cons (f := 66) (args := #[.pointer (some ⟨w.heap.size, 0, none⟩)]) (by simp) (by simp [go_sem]) ?_
  refine (refused_panicking w.heap.size 0 2 [] w2 (by rw [blk_cell HEX.out]; rfl) (blk_frozen HEX.out 0)).mono ?_
  rintro e u' w'' ⟨rfl, rfl, rfl⟩
  have hb4 := below_alloc (HBX.out.setCell (p := ⟨w.heap.size, 0, none⟩) (Nat.le_refl _) (.int .i64 2)) (.cells #[.int .i64 2] 123)
  have hb5 : ((w2.setCell ⟨w.heap.size, 0, none⟩ (.int .i64 2)).alloc (.cells #[.int .i64 2] 123)).heap[w.heap.size]? = some (.cells #[.int .i64 2] 28 (0, 0)) := blk_alloc (blk_put HEX.out 0 _ rfl) _
  have c1 : ((w2.setCell ⟨w.heap.size, 0, none⟩ (.int .i64 2)).alloc (.cells #[.int .i64 2] 123)).cell? ⟨w.heap.size, 0, none⟩ = some (.int .i64 2) := by rw [blk_cell hb5]; rfl
  generalize (w2.setCell ⟨w.heap.size, 0, none⟩ (.int .i64 2)).alloc (.cells #[.int .i64 2] 123) = w9 at hb4 c1 ⊢
  simp [Leaves, settle, results, Try.results39, go_sem, c1]
  exact hb4
set_option maxRecDepth 100000 in
set_option maxHeartbeats 8000000 in
theorem packs_nil (l : List S77) (A : Option Addr) (c : Nat) (level : Int) (w : World) (hr : Kd.C k77 w A l.length l) (hc : l.length ≤ c) (hf : Fine l) (hp : packable l level = true) (h0 : l.length = 0) :
    Calls Try.prog 39 #[.slice A l.length c, .int .i64 level] w fun e w' => e = .returned (.tuple #[.slice none 0 0, .slice none 0 0, .int .i64 0]) ∧ Below w.heap.size w w' := by
  have HOR := Aside0.mk (fun (W : World) (hb : Below w.heap.size w W) => ((ordered_list l A c level W (Kd.C_below hr hb) hc hf).mono (fun e w' h => ⟨by have := h.1; rw [hp] at this; exact this, h.2⟩) : Calls Try.prog 70 #[.agg #[.slice A l.length c, .int .i64 level]] W fun e w' => e = .returned (.tuple #[]) ∧ Below W.heap.size W w'))
  have hB0 := Aside0.mk (below_alloc (below_alloc (Below.refl w.heap.size w) (.cells #[.int .i64 0] 28)) (.cells #[.slice A l.length c, .int .i64 level] 103))
  have hE0 := Aside0.mk (blk_alloc (blk_new w (.cells #[.int .i64 0] 28)) (.cells #[.slice A l.length c, .int .i64 level] 103))
  have hX0 := Aside0.mk (show ((w.alloc (.cells #[.int .i64 0] 28)).alloc (.cells #[.slice A l.length c, .int .i64 level] 103)).heap[w.heap.size + 1]? = some (.cells #[.slice A l.length c, .int .i64 level] 103 (0, 0)) by
    have := blk_new (w.alloc (.cells #[.int .i64 0] 28)) (.cells #[.slice A l.length c, .int .i64 level] 103)
    rw [World.size_alloc] at this
    exact this)
  have hle : (l.length : Int) ≤ 1000000 := by have := hf.1; omega
  have k1 : ((l.length : Int) == 0) = true := by rw [h0]; rfl
  clear hr hc hf hp h0
  go_enter_defers Try.func39, Try.ntmps39
  go_wp2_with (first | (go_at_call 70; refine (HOR.out _ hB0.out).mono ?_; rintro e w2 ⟨rfl, hb⟩; have HB2 := Aside0.mk (hB0.out.trans (hb.mono hB0.out.size)); have HE2 := Aside0.mk (blk_below hE0.out hb); have HX2 := Aside0.mk (blk_below hX0.out hb); have x0 : w2.cell? ⟨w.heap.size + 1, 0, none⟩ = some (.slice A l.length c) := (by rw [blk_cell HX2.out]; rfl); have x1 : w2.cell? ⟨w.heap.size + 1, 1, none⟩ = some (.int .i64 level) := (by rw [blk_cell HX2.out]; rfl); have y0 : w2.cell? ⟨w.heap.size, 0, none⟩ = some (.int .i64 0) := (by rw [blk_cell HE2.out]; rfl); have y1 := blk_frozen HE2.out 0; clear hb))
  have HB7 := Aside0.mk (HB2.out.setCell (p := ⟨w.heap.size, 0, none⟩) (Nat.le_refl _) (.int .i64 0))
  have HE7 := Aside0.mk (blk_put HE2.out 0 (.int .i64 0) rfl)
  have c1 : (w2.setCell ⟨w.heap.size, 0, none⟩ (.int .i64 0)).cell? ⟨w.heap.size, 0, none⟩ = some (.int .i64 0) := by rw [blk_cell HE7.out]; rfl
  refine leaves_cons (f := 66) (args := #[.pointer (some ⟨w.heap.size, 0, none⟩)]) (by simp) (by simp [go_sem]) ?_
  refine (refused_idle w.heap.size _).mono ?_
  rintro e u' w'' ⟨rfl, rfl, rfl⟩
  have hb4 := HB7.out
  generalize w2.setCell ⟨w.heap.size, 0, none⟩ (.int .i64 0) = w7 at hb4 c1 ⊢
  simp [Leaves, settle, results, Try.results39, go_sem, c1]
  exact hb4
set_option maxRecDepth 100000 in
set_option maxHeartbeats 8000000 in
theorem packs_no (l : List S77) (A : Option Addr) (c : Nat) (level : Int) (w : World) (hr : Kd.C k77 w A l.length l) (hc : l.length ≤ c) (hf : Fine l) (hks : ∀ x ∈ l, x.f0.size ≤ 1000000) (hp : packable l level = true) (h0 : 0 < l.length) (ho : packO (l.length + 1) l level = none) :
    Calls Try.prog 39 #[.slice A l.length c, .int .i64 level] w fun e w' => e = .returned (.tuple #[.slice none 0 0, .slice none 0 0, .int .i64 1]) ∧ Below w.heap.size w w' := by
  have HOR := Aside0.mk (fun (W : World) (hb : Below w.heap.size w W) => ((ordered_list l A c level W (Kd.C_below hr hb) hc hf).mono (fun e w' h => ⟨by have := h.1; rw [hp] at this; exact this, h.2⟩) : Calls Try.prog 70 #[.agg #[.slice A l.length c, .int .i64 level]] W fun e w' => e = .returned (.tuple #[]) ∧ Below W.heap.size W w'))
  have hB0 := Aside0.mk (below_alloc (below_alloc (Below.refl w.heap.size w) (.cells #[.int .i64 0] 28)) (.cells #[.slice A l.length c, .int .i64 level] 103))
  have hE0 := Aside0.mk (blk_alloc (blk_new w (.cells #[.int .i64 0] 28)) (.cells #[.slice A l.length c, .int .i64 level] 103))
  have hX0 := Aside0.mk (show ((w.alloc (.cells #[.int .i64 0] 28)).alloc (.cells #[.slice A l.length c, .int .i64 level] 103)).heap[w.heap.size + 1]? = some (.cells #[.slice A l.length c, .int .i64 level] 103 (0, 0)) by
    have := blk_new (w.alloc (.cells #[.int .i64 0] 28)) (.cells #[.slice A l.length c, .int .i64 level] 103)
    rw [World.size_alloc] at this
    exact this)
  have hle : (l.length : Int) ≤ 1000000 := by have := hf.1; omega
  have hmf : ∀ (fn : Fn) (first cap : Array Value) (w : World), (Instr.makeFunc fn first cap).run Try.prog w = .ok (.func fn first cap) w := fun _ _ _ _ => rfl
  have HPK := Aside0.mk (fun (W : World) (hb : Below w.heap.size w W) => (pack_all level W.heap.size (l.length + 1) l A l.length c (W.alloc (.cells #[.slice none 0 0, .slice none 0 0] 109)) [] [] rfl (Nat.lt_succ_self _) (safe_came hr (hb.trans ((below_alloc (Below.refl _ _) _).mono hb.size)) hb.size) hc hf hks hp ⟨_, _, blk_new W _, Kd.R_nil _ _ _ _ _, Kd.R_nil _ _ _ _ _⟩ (by have := hf.1; simp; omega) (by have := hf.1; simp; omega)))
  rw [ho] at HPK
  have k1 : ((l.length : Int) == 0) = false := beq_eq_false_iff_ne.mpr (by omega)
  have HPC := Aside0.mk (fun (W : World) (hb : Below w.heap.size w W) => (HPK.out W hb).mono (fun e w' h => (h : e = .panicked (refP 1) ∧ Below W.heap.size (W.alloc (.cells #[.slice none 0 0, .slice none 0 0] 109)) w')))
  clear hr hc hf hp h0 hks ho HPK
  go_enter_defers Try.func39, Try.ntmps39
  go_wp2_with (first
    | (go_at_call 70; refine (HOR.out _ hB0.out).mono ?_; rintro e w2 ⟨rfl, hb⟩; have HB2 := Aside0.mk (hB0.out.trans (hb.mono hB0.out.size)); have HE2 := Aside0.mk (blk_below hE0.out hb); have HX2 := Aside0.mk (blk_below hX0.out hb); have x0 : w2.cell? ⟨w.heap.size + 1, 0, none⟩ = some (.slice A l.length c) := (by rw [blk_cell HX2.out]; rfl); have x1 : w2.cell? ⟨w.heap.size + 1, 1, none⟩ = some (.int .i64 level) := (by rw [blk_cell HX2.out]; rfl); have y0 : w2.cell? ⟨w.heap.size, 0, none⟩ = some (.int .i64 0) := (by rw [blk_cell HE2.out]; rfl); have y1 := blk_frozen HE2.out 0; have xn : ¬ w.heap.size + 1 = w2.heap.size := (by have := blk_lt HX2.out; omega); have xp := blk_alloc HX2.out (.cells #[.slice none 0 0, .slice none 0 0] 109); have xa0 : (w2.alloc (.cells #[.slice none 0 0, .slice none 0 0] 109)).cell? ⟨w.heap.size + 1, 0, none⟩ = some (.slice A l.length c) := (by rw [blk_cell xp]; rfl); have xa1 : (w2.alloc (.cells #[.slice none 0 0, .slice none 0 0] 109)).cell? ⟨w.heap.size + 1, 1, none⟩ = some (.int .i64 level) := (by rw [blk_cell xp]; rfl); clear hb xp)
    | (go_at_call 73; refine (HPC.out w2 HB2.out).mono ?_; rintro e w3 ⟨rfl, hb⟩; have HBX := Aside0.mk (HB2.out.trans (((below_alloc (Below.refl w2.heap.size w2) _).trans hb).mono HB2.out.size)); have HEX := Aside0.mk ((((below_alloc (Below.refl w2.heap.size w2) _).trans hb).block _ (blk_lt HE2.out)).trans HE2.out); clear hb))
  refine leaves_cons (f := 66) (args := #[.pointer (some ⟨w.heap.size, 0, none⟩)]) (by simp) (by simp [go_sem]) ?_
  refine (refused_panicking w.heap.size 0 1 [] w3 (by rw [blk_cell HEX.out]; rfl) (blk_frozen HEX.out 0)).mono ?_
  rintro e u' w'' ⟨rfl, rfl, rfl⟩
  have hb4 := below_alloc (HBX.out.setCell (p := ⟨w.heap.size, 0, none⟩) (Nat.le_refl _) (.int .i64 1)) (.cells #[.int .i64 1] 123)
  have hb5 : ((w3.setCell ⟨w.heap.size, 0, none⟩ (.int .i64 1)).alloc (.cells #[.int .i64 1] 123)).heap[w.heap.size]? = some (.cells #[.int .i64 1] 28 (0, 0)) := blk_alloc (blk_put HEX.out 0 _ rfl) _
  have c1 : ((w3.setCell ⟨w.heap.size, 0, none⟩ (.int .i64 1)).alloc (.cells #[.int .i64 1] 123)).cell? ⟨w.heap.size, 0, none⟩ = some (.int .i64 1) := by rw [blk_cell hb5]; rfl
  generalize (w3.setCell ⟨w.heap.size, 0, none⟩ (.int .i64 1)).alloc (.cells #[.int .i64 1] 123) = w9 at hb4 c1 ⊢
  simp [Leaves, settle, results, Try.results39, go_sem, c1]
  exact hb4
set_option maxRecDepth 100000 in
set_option maxHeartbeats 8000000 in
theorem packs_yes (l : List S77) (A : Option Addr) (c : Nat) (level : Int) (w : World) (hr : Kd.C k77 w A l.length l) (hc : l.length ≤ c) (hf : Fine l) (hks : ∀ x ∈ l, x.f0.size ≤ 1000000) (hp : packable l level = true) (h0 : 0 < l.length) (x : List (List S77) × List ByteArray) (ho : packO (l.length + 1) l level = some x) :
    Calls Try.prog 39 #[.slice A l.length c, .int .i64 level] w fun e w' => ∃ A1 c1 A2 c2, e = .returned (.tuple #[.slice A1 x.1.length c1, .slice A2 x.2.length c2, .int .i64 0]) ∧ (x.1.length ≤ c1 ∧ kN.C w' A1 x.1.length x.1) ∧ (x.2.length ≤ c2 ∧ Kd.string.C w' A2 x.2.length x.2) ∧ Below w.heap.size w w' := by
  have HOR := Aside0.mk (fun (W : World) (hb : Below w.heap.size w W) => ((ordered_list l A c level W (Kd.C_below hr hb) hc hf).mono (fun e w' h => ⟨by have := h.1; rw [hp] at this; exact this, h.2⟩) : Calls Try.prog 70 #[.agg #[.slice A l.length c, .int .i64 level]] W fun e w' => e = .returned (.tuple #[]) ∧ Below W.heap.size W w'))
  have hB0 := Aside0.mk (below_alloc (below_alloc (Below.refl w.heap.size w) (.cells #[.int .i64 0] 28)) (.cells #[.slice A l.length c, .int .i64 level] 103))
  have hE0 := Aside0.mk (blk_alloc (blk_new w (.cells #[.int .i64 0] 28)) (.cells #[.slice A l.length c, .int .i64 level] 103))
  have hX0 := Aside0.mk (show ((w.alloc (.cells #[.int .i64 0] 28)).alloc (.cells #[.slice A l.length c, .int .i64 level] 103)).heap[w.heap.size + 1]? = some (.cells #[.slice A l.length c, .int .i64 level] 103 (0, 0)) by
    have := blk_new (w.alloc (.cells #[.int .i64 0] 28)) (.cells #[.slice A l.length c, .int .i64 level] 103)
    rw [World.size_alloc] at this
    exact this)
  have hle : (l.length : Int) ≤ 1000000 := by have := hf.1; omega
  have hmf : ∀ (fn : Fn) (first cap : Array Value) (w : World), (Instr.makeFunc fn first cap).run Try.prog w = .ok (.func fn first cap) w := fun _ _ _ _ => rfl
  have HPK := Aside0.mk (fun (W : World) (hb : Below w.heap.size w W) => (pack_all level W.heap.size (l.length + 1) l A l.length c (W.alloc (.cells #[.slice none 0 0, .slice none 0 0] 109)) [] [] rfl (Nat.lt_succ_self _) (safe_came hr (hb.trans ((below_alloc (Below.refl _ _) _).mono hb.size)) hb.size) hc hf hks hp ⟨_, _, blk_new W _, Kd.R_nil _ _ _ _ _, Kd.R_nil _ _ _ _ _⟩ (by have := hf.1; simp; omega) (by have := hf.1; simp; omega)))
  rw [ho] at HPK
  have k1 : ((l.length : Int) == 0) = false := beq_eq_false_iff_ne.mpr (by omega)
  have HPC := Aside0.mk (fun (W : World) (hb : Below w.heap.size w W) => (HPK.out W hb).mono (fun e w' h => (h : e = .returned (.tuple #[]) ∧ Pk w' W.heap.size ([] ++ x.1) ([] ++ x.2) ∧ KT W.heap.size (W.alloc (.cells #[.slice none 0 0, .slice none 0 0] 109)) w')))
  clear hr hc hf hp h0 hks ho HPK
  go_enter_defers Try.func39, Try.ntmps39
  go_wp2_with (first
    | (go_at_call 70; refine (HOR.out _ hB0.out).mono ?_; rintro e w2 ⟨rfl, hb⟩; have HB2 := Aside0.mk (hB0.out.trans (hb.mono hB0.out.size)); have HE2 := Aside0.mk (blk_below hE0.out hb); have HX2 := Aside0.mk (blk_below hX0.out hb); have x0 : w2.cell? ⟨w.heap.size + 1, 0, none⟩ = some (.slice A l.length c) := (by rw [blk_cell HX2.out]; rfl); have x1 : w2.cell? ⟨w.heap.size + 1, 1, none⟩ = some (.int .i64 level) := (by rw [blk_cell HX2.out]; rfl); have y0 : w2.cell? ⟨w.heap.size, 0, none⟩ = some (.int .i64 0) := (by rw [blk_cell HE2.out]; rfl); have y1 := blk_frozen HE2.out 0; have xn : ¬ w.heap.size + 1 = w2.heap.size := (by have := blk_lt HX2.out; omega); have xp := blk_alloc HX2.out (.cells #[.slice none 0 0, .slice none 0 0] 109); have xa0 : (w2.alloc (.cells #[.slice none 0 0, .slice none 0 0] 109)).cell? ⟨w.heap.size + 1, 0, none⟩ = some (.slice A l.length c) := (by rw [blk_cell xp]; rfl); have xa1 : (w2.alloc (.cells #[.slice none 0 0, .slice none 0 0] 109)).cell? ⟨w.heap.size + 1, 1, none⟩ = some (.int .i64 level) := (by rw [blk_cell xp]; rfl); clear hb xp)
    | (go_at_call 73; refine (HPC.out w2 HB2.out).mono ?_; rintro e w3 ⟨rfl, hk, ht⟩; have HK3 := Aside0.mk hk; have HT3 := Aside0.mk ((below_alloc (Below.refl w2.heap.size w2) _).trans ht.below); clear hk ht x0 x1 y0 y1 xa0 xa1 xn))
  have GB0 := Aside0.mk (HB2.out.trans (HT3.out.mono HB2.out.size))
  have GE0 := Aside0.mk ((HT3.out.block _ (blk_lt HE2.out)).trans HE2.out)
  obtain ⟨v1, v2, hP, hq1, hq2⟩ := HK3.out
  rw [List.nil_append] at hq1 hq2
  have HPE := Aside0.mk (show w.heap.size ≠ w2.heap.size by have := blk_lt HE2.out; omega)
  generalize w2.heap.size = P at hP hq1 hq2 HPE ⊢
  obtain ⟨A1, n1, c1, rfl⟩ : ∃ A n c, v1 = Value.slice A n c := by obtain ⟨A, c, h⟩ := Kd.R_slice hq1; exact ⟨_, _, _, h⟩
  obtain ⟨A2, n2, c2, rfl⟩ : ∃ A n c, v2 = Value.slice A n c := by obtain ⟨A, c, h⟩ := Kd.R_slice hq2; exact ⟨_, _, _, h⟩
  have GP0 := Aside0.mk hP
  have G10 := Aside0.mk hq1
  have G20 := Aside0.mk hq2
  clear hP hq1 hq2 HK3 HT3 HB2 HE2 HX2 hmf
  refine wp_region_noPanic ?_
  refine start_ (n := 11) (S := fun W => W.heap[P]? = some (.cells #[.slice A1 n1 c1, .slice A2 n2 c2] 109 (0, 0))) (ds := [10]) #[false, false, false, false, false, false, false, false, false, false, false] (by kernel_rfl) rfl rfl (blk_drew GP0.out) (fun hHeld => ?_)
  refine with_tabW rg39_8_tab rg39_8_bits (fun HT_ HW_ => ?_)
  have GP := Aside0.mk (blk_drew GP0.out)
  have GE := Aside0.mk (blk_drew GE0.out)
  have GB := Aside0.mk (below_drew1 GB0.out)
  have G1 := Aside0.mk (Kd.R_drew G10.out)
  have G2 := Aside0.mk (Kd.R_drew G20.out)
  clear GP0 GE0 GB0 G10 G20
  generalize w3.drew = w4 at GP GE GB G1 G2 hHeld ⊢
  refine pure_ (i := 0) (N := some 25) (v := ?_) (a' := ?_) #[true, false, false, false, false, false, false, false, false, false, false] rfl rfl (any_of HT_.out (by kernel_rfl)) (fun _ _ _ h => h) (Or.inl ⟨by rfl, ?_⟩) ?_ ?_
  rotate_left
  · intro w'
    go_simp
    with_reducible rfl
  rotate_left
  · simp only [Act.put, List.setIfInBounds_toArray, List.set_cons_zero, List.set_cons_succ, i64_w, i32_w]
    rfl
  refine pure_ (i := 1) (N := some 26) (v := ?_) (a' := ?_) #[true, true, false, false, false, false, false, false, false, false, false] rfl rfl (any_of HT_.out (by kernel_rfl)) (fun _ _ _ h => h) (Or.inl ⟨by rfl, ?_⟩) ?_ ?_
  rotate_left
  · intro w'
    go_simp
    with_reducible rfl
  rotate_left
  · simp only [Act.put, List.setIfInBounds_toArray, List.set_cons_zero, List.set_cons_succ, i64_w, i32_w]
    rfl
  refine pure_ (i := 2) (N := some 27) (v := ?_) (a' := ?_) #[true, true, true, false, false, false, false, false, false, false, false] rfl rfl (any_of HT_.out (by kernel_rfl)) (fun _ _ _ h => h) (Or.inl ⟨by rfl, ?_⟩) ?_ ?_
  rotate_left
  · intro w'
    go_simp
    with_reducible rfl
  rotate_left
  · simp only [Act.put, List.setIfInBounds_toArray, List.set_cons_zero, List.set_cons_succ, i64_w, i32_w]
    rfl
  refine take_ (i := 3) (N := some 28) (v := ?_) (a' := ?_) #[true, true, true, true, false, false, false, false, false, false, false] rfl rfl (take_ofW HT_.out HW_.out (by kernel_rfl)) (fun _ _ _ h => h) (Or.inl ⟨by rfl, ?_⟩) hHeld ?_ ?_
  rotate_left
  · intro w' hW
    have q0 : w'.cell? ⟨P, 0, none⟩ = some (.slice A1 n1 c1) := by rw [blk_cell hW]; rfl
    have q1 : w'.cell? ⟨P, 1, none⟩ = some (.slice A2 n2 c2) := by rw [blk_cell hW]; rfl
    go_simp
    with_reducible rfl
  rotate_left
  · simp only [Act.put, List.setIfInBounds_toArray, List.set_cons_zero, List.set_cons_succ, i64_w, i32_w]
    rfl
  refine pure_ (i := 4) (N := some 29) (v := ?_) (a' := ?_) #[true, true, true, true, true, false, false, false, false, false, false] rfl rfl (any_of HT_.out (by kernel_rfl)) (fun _ _ _ h => h) (Or.inl ⟨by rfl, ?_⟩) ?_ ?_
  rotate_left
  · intro w'
    go_simp
    with_reducible rfl
  rotate_left
  · simp only [Act.put, List.setIfInBounds_toArray, List.set_cons_zero, List.set_cons_succ, i64_w, i32_w]
    rfl
  refine pure_ (i := 5) (N := some 30) (v := ?_) (a' := ?_) #[true, true, true, true, true, true, false, false, false, false, false] rfl rfl (any_of HT_.out (by kernel_rfl)) (fun _ _ _ h => h) (Or.inl ⟨by rfl, ?_⟩) ?_ ?_
  rotate_left
  · intro w'
    go_simp
    with_reducible rfl
  rotate_left
  · simp only [Act.put, List.setIfInBounds_toArray, List.set_cons_zero, List.set_cons_succ, i64_w, i32_w]
    rfl
  refine pure_ (i := 6) (N := some 31) (v := ?_) (a' := ?_) #[true, true, true, true, true, true, true, false, false, false, false] rfl rfl (any_of HT_.out (by kernel_rfl)) (fun _ _ _ h => h) (Or.inl ⟨by rfl, ?_⟩) ?_ ?_
  rotate_left
  · intro w'
    go_simp
    with_reducible rfl
  rotate_left
  · simp only [Act.put, List.setIfInBounds_toArray, List.set_cons_zero, List.set_cons_succ, i64_w, i32_w]
    rfl
  refine take_ (i := 7) (N := some 32) (v := ?_) (a' := ?_) #[true, true, true, true, true, true, true, true, false, false, false] rfl rfl (take_ofW HT_.out HW_.out (by kernel_rfl)) (fun _ _ _ h => h) (Or.inl ⟨by rfl, ?_⟩) hHeld ?_ ?_
  rotate_left
  · intro w' hW
    have q0 : w'.cell? ⟨P, 0, none⟩ = some (.slice A1 n1 c1) := by rw [blk_cell hW]; rfl
    have q1 : w'.cell? ⟨P, 1, none⟩ = some (.slice A2 n2 c2) := by rw [blk_cell hW]; rfl
    go_simp
    with_reducible rfl
  rotate_left
  · simp only [Act.put, List.setIfInBounds_toArray, List.set_cons_zero, List.set_cons_succ, i64_w, i32_w]
    rfl
  refine pure_ (i := 8) (N := some 4) (v := ?_) (a' := ?_) #[true, true, true, true, true, true, true, true, true, false, false] rfl rfl (any_of HT_.out (by kernel_rfl)) (fun _ _ _ h => h) (Or.inl ⟨by rfl, ?_⟩) ?_ ?_
  rotate_left
  · intro w'
    go_simp
    with_reducible rfl
  rotate_left
  · simp only [Act.put, List.setIfInBounds_toArray, List.set_cons_zero, List.set_cons_succ, i64_w, i32_w]
    rfl
  refine pure_ (i := 9) (N := some 5) (v := ?_) (a' := ?_) #[true, true, true, true, true, true, true, true, true, true, false] rfl rfl (any_of HT_.out (by kernel_rfl)) (fun _ _ _ h => h) (Or.inl ⟨by rfl, ?_⟩) ?_ ?_
  rotate_left
  · intro w'
    go_simp
    with_reducible rfl
  rotate_left
  · simp only [Act.put, List.setIfInBounds_toArray, List.set_cons_zero, List.set_cons_succ, i64_w, i32_w]
    rfl
  refine last_ (i := 10) (N := none) #[true, true, true, true, true, true, true, true, true, true, true] rfl rfl (one_of HT_.out (by kernel_rfl)) (by decide) (fun K hK => ?_)
  have y0 : w4.cell? ⟨w.heap.size, 0, none⟩ = some (.int .i64 0) := by rw [blk_cell GE.out]; rfl
  have y1 := blk_frozen GE.out 0
  refine skip_ (w1 := w4.setCell ⟨w.heap.size, 0, none⟩ (.int .i64 0)) (by rfl) rfl (by go_simp; first | done | rfl) ?_
  refine hK.out _ _ ?_
  clear hK K
  refine done_ (done_of HT_.out (by kernel_rfl)) ?_
  refine NoPanic.normal ?_
  go_wp2_with fail
  have HE7 := Aside0.mk (blk_put GE.out 0 (.int .i64 0) rfl)
  have c1' : (w4.setCell ⟨w.heap.size, 0, none⟩ (.int .i64 0)).cell? ⟨w.heap.size, 0, none⟩ = some (.int .i64 0) := by rw [blk_cell HE7.out]; rfl
  refine leaves_cons (f := 66) (args := #[.pointer (some ⟨w.heap.size, 0, none⟩)]) (by simp) (by simp [go_sem]) ?_
  refine (refused_idle w.heap.size _).mono ?_
  rintro e u' w'' ⟨rfl, rfl, rfl⟩
  have hb4 := GB.out.setCell (p := ⟨w.heap.size, 0, none⟩) (Nat.le_refl _) (.int .i64 0)
  have hr1 := Kd.R_reads' (Kd.R_far (Kd.R_types G1.out GE.out (kN_only (by decide) (by decide))) (fun k hk => hk.2) (p := ⟨w.heap.size, 0, none⟩) (.int .i64 0))
  have hr2 := Kd.R_reads' (Kd.R_far (Kd.R_types G2.out GE.out (str_only (by decide))) (fun k hk => hk.2) (p := ⟨w.heap.size, 0, none⟩) (.int .i64 0))
  generalize w4.setCell ⟨w.heap.size, 0, none⟩ (.int .i64 0) = w7 at hb4 c1' hr1 hr2 ⊢
  simp [Leaves, settle, results, Try.results39, go_sem, c1']
  exact ⟨A1, c1, A2, c2, ⟨⟨rfl, hr1.1, rfl⟩, rfl, hr2.1, rfl⟩, ⟨by rw [← hr1.1]; exact hr1.2.1, hr1.2.2⟩, ⟨by rw [← hr2.1]; exact hr2.2.1, hr2.2.2⟩, hb4⟩
/-- what Pack answers -/
def packR (l : List S77) (level : Int) : (List (List S77) × List ByteArray) × Int :=
  if packable l level = true then (if l.length = 0 then (([], []), 0) else match packO (l.length + 1) l level with | some x => (x, 0) | none => (([], []), 1)) else (([], []), 2)
theorem packs_c (l : List S77) (A : Option Addr) (c : Nat) (level : Int) (w : World) (hr : Kd.C k77 w A l.length l) (hc : l.length ≤ c) (hf : Fine l) (hks : ∀ x ∈ l, x.f0.size ≤ 1000000) :
    Calls Try.prog 39 #[.slice A l.length c, .int .i64 level] w fun e w' => ∃ A1 c1 A2 c2, e = .returned (.tuple #[.slice A1 (packR l level).1.1.length c1, .slice A2 (packR l level).1.2.length c2, .int .i64 (packR l level).2]) ∧ ((packR l level).1.1.length ≤ c1 ∧ kN.C w' A1 (packR l level).1.1.length (packR l level).1.1) ∧ ((packR l level).1.2.length ≤ c2 ∧ Kd.string.C w' A2 (packR l level).1.2.length (packR l level).1.2) ∧ Below w.heap.size w w' := by
  have hnil : ∀ (e : Ending) (w' : World) (k : Int), (e = .returned (.tuple #[.slice none 0 0, .slice none 0 0, .int .i64 k]) ∧ Below w.heap.size w w') → ∃ A1 c1 A2 c2, e = .returned (.tuple #[.slice A1 ([] : List (List S77)).length c1, .slice A2 ([] : List ByteArray).length c2, .int .i64 k]) ∧ (([] : List (List S77)).length ≤ c1 ∧ kN.C w' A1 ([] : List (List S77)).length []) ∧ (([] : List ByteArray).length ≤ c2 ∧ Kd.string.C w' A2 ([] : List ByteArray).length []) ∧ Below w.heap.size w w' := by
    rintro e w' k ⟨rfl, hb⟩
    exact ⟨none, 0, none, 0, rfl, ⟨Nat.le_refl _, Kd.C_nil _ _⟩, ⟨Nat.le_refl _, Kd.C_nil _ _⟩, hb⟩
  cases hp : packable l level with
  | false =>
    rw [show packR l level = (([], []), 2) by simp [packR, hp]]
    exact (packs_bad l A c level w hr hc hf hp).mono (fun e w' h => hnil e w' 2 h)
  | true =>
    by_cases h0 : l.length = 0
    · rw [show packR l level = (([], []), 0) by simp [packR, hp, h0]]
      exact (packs_nil l A c level w hr hc hf hp h0).mono (fun e w' h => hnil e w' 0 h)
    · cases ho : packO (l.length + 1) l level with
      | none =>
        rw [show packR l level = (([], []), 1) by unfold packR; rw [if_pos hp, if_neg h0, ho]]
        exact (packs_no l A c level w hr hc hf hks hp (by omega) ho).mono (fun e w' h => hnil e w' 1 h)
      | some x =>
        rw [show packR l level = (x, 0) by unfold packR; rw [if_pos hp, if_neg h0, ho]]
        exact packs_yes l A c level w hr hc hf hks hp (by omega) x ho
end Go.Proofs.Ytalncokpbgbccaa.E

/- Joined: OC, OD. -/
/- slices.Grow of nothing, slices.Concat of lists of entries. -/
namespace Go.Proofs.Ytalncokpbgbccaa.E
set_option linter.unusedVariables false
set_option linter.unusedSimpArgs false
open Go.RowKit Go.Proofs.YtalncokpbgbccaaW.PrintWords Go.Proofs.YtalncokpbgbccaaW.PrintLast Go.Proofs.YtalncokpbgbccaaW.PrintMore

set_option maxRecDepth 100000 in
set_option maxHeartbeats 8000000 in
theorem grow_none (w : World) : Calls Try.prog 90 #[.slice none 0 0, .int .i64 0] w fun e w' => e = .returned (.slice none 0 0) ∧ w' = w := by
  go_enter Try.func90, Try.ntmps90
  go_wp2
  go_ret
  exact ⟨rfl, rfl⟩
set_option maxRecDepth 100000 in
set_option maxHeartbeats 8000000 in
theorem grow_some (n : Nat) (hn : 0 < n) (hl : n ≤ 10000000) (w : World) : Calls Try.prog 90 #[.slice none 0 0, .int .i64 n] w fun e w' => ∃ v, e = .returned v ∧ Ow w' w.heap.size v [] ∧ Below w.heap.size w w' := by
  have k1 : decide ((n : Int) > 0) = true := decide_eq_true (by omega)
  have k2 : decide (0 < (n : Int)) = true := decide_eq_true (by omega)
  have k3 : decide (0 < n) = true := decide_eq_true (by omega)
  have hn0 : (0 : Int) ≤ (n : Int) := by omega
  have hnl : (n : Int) ≤ 10000000 := by omega
  have hc0 : ∀ W : World, (Instr.slice 22 (.slice none 0 0) none (some (.int .i64 0)) none).run Try.prog W = .ok (.slice none 0 0) W := fun W => by
    obtain ⟨i77, hi77, hsz⟩ := info77'
    have := cut_to (P := Try.prog) 22 77 .i64 Try.underlying22 hi77 none 0 0 0 (by omega) (by omega) (by omega) W
    simpa using this
  have HL := Aside0.mk hl
  clear hn hl
  go_enter Try.func90, Try.ntmps90
  go_wp2_with (first
    | ((with_reducible refine gate_builtin (b := .append) (xs := #[.tmp 20, .tmp 21]) rfl ?_); at_builtin; refine Kd.R_append_zeros k77 (w0 := w) w.heap.size rfl (.tmp 20) (.tmp 21) 22 3 77 (.agg #[(.string ⟨#[]⟩), (.string ⟨#[]⟩), (.int .i64 0), (.int .i64 0), (.int .i64 0), (.int .i64 0), (.int .u8 0), (.int .u8 0), (.int .u8 0), (.int .u8 0), (.int .u8 0), (.int .u8 0), (.int .u8 0), (.int .u8 0), (.int .u8 0), (.int .u8 0), (.int .u8 0), (.int .u8 0), (.int .u8 0), (.int .u8 0), (.int .u8 0), (.int .u8 0)]) 80 rfl Try.underlying22 Try.underlying3 info77 rfl (by decide) (by omega) (.slice none 0 0) [] z77 n (fun _ => True) rfl rfl ?hz (fun _ _ => trivial) (Kd.R_nil _ _ _ _ _) hn0 (Below.refl _ _) (Nat.le_refl _) ?hb ?_; (case hz => exact k77_mkM _ _ _ z77); (case hb => simp only [List.length_nil, Int.toNat_natCast]; have := HL.out; omega); intro v1 w1 ho hb hg hat; have HO := Aside0.mk ho; have HB := Aside0.mk hb; obtain ⟨A1, n1, c1, rfl⟩ : ∃ A n c, v1 = Value.slice A n c := (by obtain ⟨A, c, h⟩ := Kd.R_slice ho; exact ⟨_, _, _, h⟩); have HN := Aside0.mk (Kd.R_reads' ho); have hc1 := (cut_to (P := Try.prog) 22 77 .i64 Try.underlying22 (Classical.choose_spec info77').1 A1 n1 c1 0 (by omega) (by omega) HN.out.2.1); clear ho hb hg hat))
  go_ret
  exact ⟨_, rfl, by have := Kd.R_take HO.out (m := 0) (Nat.zero_le _); rw [List.take_zero] at this; exact this, HB.out⟩
theorem grow_c (n : Nat) (hl : n ≤ 10000000) (w : World) : Calls Try.prog 90 #[.slice none 0 0, .int .i64 n] w fun e w' => ∃ v, e = .returned v ∧ Ow w' w.heap.size v [] ∧ Below w.heap.size w w' := by
  by_cases h : n = 0
  · subst h
    refine (grow_none w).mono ?_
    rintro e w' ⟨rfl, rfl⟩
    exact ⟨_, rfl, Kd.R_nil _ _ _ _ _, Below.refl _ _⟩
  · exact grow_some n (by omega) hl w
theorem flat_succ (ls : List (List S77)) (k : Nat) (h : k < ls.length) : (ls.take (k + 1)).flatten = (ls.take k).flatten ++ ls.getD k [] := by
  rw [List.take_succ_eq_append_getElem h, List.flatten_append]
  simp [List.getD, h]
theorem flat_bound (ls : List (List S77)) (hlen : ∀ l ∈ ls, l.length ≤ 100000) : ∀ k, k ≤ ls.length → (ls.take k).flatten.length ≤ k * 100000 := by
  intro k
  induction k with
  | zero => intro _; simp
  | succ k ih =>
    intro hk
    rw [flat_succ ls k hk, List.length_append]
    have h1 := ih (by omega)
    have h2 := hlen (ls.getD k []) (by simp [List.getD, show k < ls.length from hk])
    omega
set_option maxRecDepth 100000 in
set_option maxHeartbeats 8000000 in
theorem concat_c (ls : List (List S77)) (A : Option Addr) (c : Nat) (w : World) (hr : kN.C w A ls.length ls) (hk : ls.length ≤ 100) (hlen : ∀ l ∈ ls, l.length ≤ 100000) :
    Calls Try.prog 69 #[.slice A ls.length c] w fun e w' => ∃ v, e = .returned v ∧ Ow w' w.heap.size v ls.flatten ∧ Below w.heap.size w w' := by
  have HFB := Aside0.mk (flat_bound ls hlen)
  have HFS := Aside0.mk (flat_succ ls)
  have HEL := Aside0.mk (fun (k : Nat) (h : k < ls.length) => hlen (ls.getD k []) (by simp [List.getD, h]))
  have HTK := Aside0.mk (show ls.take ls.length = ls from List.take_length)
  have HAT := Aside0.mk (fun (W : World) (hb : Below w.heap.size w W) (k : Nat) (h : k < ls.length) => (at_L5 (Kd.C_below hr hb) (k : Int) (by omega) (by omega)))
  simp only [rd_L5, Int.toNat_natCast] at HAT
  obtain ⟨N, hN⟩ : ∃ N, ls.length = N := ⟨_, rfl⟩
  rw [hN] at HFB HFS HEL HTK HAT hk ⊢
  have hN100 : (N : Int) ≤ 100 := by omega
  have HB0 := Aside0.mk (Below.refl w.heap.size w)
  clear hr hlen hN
  go_enter Try.func69, Try.ntmps69
  go_wp2_with fail
  go_loop [3, 11] (fun s i => ∃ k : Nat, k ≤ N ∧ i = .int .i64 k ∧ s = .int .i64 ((ls.take k).flatten.length : Nat)) (fun _ i => N - (intOf i).toNat)
  case atStart => exact ⟨0, Nat.zero_le _, rfl, rfl⟩
  case round =>
    obtain ⟨k, hkN, rfl, rfl⟩ := hrel
    by_cases hlt : k < N
    · obtain ⟨ad, A0, c0, rfl, hc, hl0, _⟩ := HAT.out w HB0.out k hlt
      have hb1 := HFB.out k hkN
      have hb2 := HEL.out k hlt
      have HS := Aside0.mk (HFS.out k hlt)
      obtain ⟨m, hm⟩ : ∃ m, (ls.take k).flatten.length = m := ⟨_, rfl⟩
      obtain ⟨q, hq⟩ : ∃ q, (ls.getD k []).length = q := ⟨_, rfl⟩
      have HM := Aside0.mk hm
      have HQ := Aside0.mk hq
      rw [hq] at hc hb2 hl0
      rw [hm] at hb1
      simp only [hm]
      clear hm hq
      have hmi : (m : Int) ≤ 10000000 := by omega
      have hqi : (q : Int) ≤ 100000 := by omega
      have hneg : decide ((m : Int) + (q : Int) < 0) = false := decide_eq_false (by omega)
      go_wp2_with fail
      go_round
      case rel => exact ⟨k + 1, by omega, by simp, by rw [HS.out, List.length_append, HM.out, HQ.out]; simp⟩
      case measure => simp [intOf]; omega
    · obtain rfl : k = N := by omega
      have hb1 := HFB.out k hkN
      rw [HTK.out] at hb1
      simp only [HTK.out]
      have HGR := Aside0.mk (grow_c ls.flatten.length (by omega) w)
      clear hb1 hlt hkN
      generalize ls.flatten.length = T at HGR ⊢
      go_wp2_with (go_at_call 90; refine HGR.out.mono ?_; rintro e w2 ⟨v0, rfl, ho, hb⟩; have HO := Aside0.mk ho; have HB := Aside0.mk hb; clear ho hb)
      go_loopw [6, 27] (fun v i wr => ∃ j : Nat, j ≤ k ∧ i = .int .i64 j ∧ Aside0 (Ow wr w.heap.size v (ls.take j).flatten) ∧ Aside0 (Below w.heap.size w wr)) (fun _ i _ => k - (intOf i).toNat)
      case atStart => exact ⟨0, Nat.zero_le _, rfl, HO, HB⟩
      case round =>
        rename_i vv _
        obtain ⟨j, hjk, rfl, HOj, HBj⟩ := hrel
        by_cases hlt : j < k
        · obtain ⟨ad, A0, c0, rfl, hc, hl0, hC⟩ := HAT.out wr HBj.out j hlt
          have HS := Aside0.mk (HFS.out j hlt)
          have HBD := Aside0.mk (HFB.out j hjk)
          have HQL := Aside0.mk (HEL.out j hlt)
          obtain ⟨x, hx⟩ : ∃ x, ls.getD j [] = x := ⟨_, rfl⟩
          rw [hx] at hc hl0 hC HS HQL
          have HC := Aside0.mk hC
          clear hC hx
          go_wp2_with (first
            | ((with_reducible refine gate_builtin (b := .append) (xs := #[.tmp 31, .tmp 32]) rfl ?_); at_builtin; refine Kd.R_append_rows k77 (w0 := w) w.heap.size rfl (.tmp 31) (.tmp 32) 22 77 (.agg #[(.string ⟨#[]⟩), (.string ⟨#[]⟩), (.int .i64 0), (.int .i64 0), (.int .i64 0), (.int .i64 0), (.int .u8 0), (.int .u8 0), (.int .u8 0), (.int .u8 0), (.int .u8 0), (.int .u8 0), (.int .u8 0), (.int .u8 0), (.int .u8 0), (.int .u8 0), (.int .u8 0), (.int .u8 0), (.int .u8 0), (.int .u8 0), (.int .u8 0), (.int .u8 0)]) 80 rfl Try.underlying22 info77 rfl (by decide) (by omega) u6 (ls.take j).flatten x _ _ _ (fun _ => True) (fun _ => False) rfl rfl HOj.out HC.out (fun _ _ h => h) (fun _ h => h.elim) (fun _ _ => trivial) HBj.out HBj.out.size (by have := HBD.out; have := HQL.out; omega) ?_; intro v2 w2 ho hb hg hat; rw [← HS.out] at ho; have HO2 := Aside0.mk ho; have HB2 := Aside0.mk hb; clear ho hb hg hat))
          go_roundw
          case rel => exact ⟨j + 1, by omega, by simp, HO2, HB2⟩
          case measure => simp [intOf]; omega
        · obtain rfl : j = k := by omega
          have HF := Aside0.mk HOj.out
          rw [HTK.out] at HF
          go_wp2
          go_ret
          exact ⟨_, rfl, HF.out, HBj.out⟩
end Go.Proofs.Ytalncokpbgbccaa.E

/- Replace: what it refuses. -/
namespace Go.Proofs.Ytalncokpbgbccaa.E
set_option linter.unusedVariables false
set_option linter.unusedSimpArgs false
open Go.RowKit Go.Proofs.YtalncokpbgbccaaW.PrintWords Go.Proofs.YtalncokpbgbccaaW.PrintLast Go.Proofs.YtalncokpbgbccaaW.PrintMore

attribute [local go_sem] max2_mx max_two
set_option maxRecDepth 100000 in
set_option maxHeartbeats 8000000 in
theorem replace_bad (l ch : List S77) (ss : List ByteArray) (A Ac As : Option Addr) (c cc cs : Nat) (i n : Int) (w : World) (hr : Kd.C k77 w A l.length l) (hf : Fine l) (hcl : ch.length ≤ 1000000) (hsl : ss.length ≤ 1000000) (ho : ordL l 1 = false) :
    Calls Try.prog 35 #[.slice A l.length c, .int .i64 i, .int .i64 n, .slice Ac ch.length cc, .slice As ss.length cs] w fun e w' => e = .returned (.tuple #[.slice none 0 0, .int .i64 2]) ∧ Below w.heap.size w w' := by
  have HOR := Aside0.mk (fun (W : World) (hb : Below w.heap.size w W) => ((ordered_c l A c 1 W (Kd.C_below hr hb) hf.1).mono (fun e w' h => ⟨by have := h.1; rw [ho] at this; exact this, h.2⟩) : Calls Try.prog 21 #[.slice A l.length c, .int .i64 1] W fun e w' => e = .returned (.bool false) ∧ Below W.heap.size W w'))
  have hB0 := Aside0.mk (below_alloc (Below.refl w.heap.size w) (.cells #[.int .i64 0] 28))
  have hE0 := Aside0.mk (blk_new w (.cells #[.int .i64 0] 28))
  clear hr hf ho hcl hsl
  go_enter_defers Try.func35, Try.ntmps35
  go_wp2_with (first
    | (go_at_call 21; refine (HOR.out _ hB0.out).mono ?_; rintro e w2 ⟨rfl, hb⟩; have HBX := Aside0.mk (hB0.out.trans (hb.mono hB0.out.size)); have HEX := Aside0.mk (blk_below hE0.out hb); clear hb)
    | (go_at_call 67; refine (must_no _ _).mono ?_; rintro e w4 ⟨rfl, rfl⟩))
  refine leaves_cons (f := 66) (args := #[.pointer (some ⟨w.heap.size, 0, none⟩)]) (by simp) (by simp [go_sem]) ?_
  refine (refused_panicking w.heap.size 0 2 [] w4 (by rw [blk_cell HEX.out]; rfl) (blk_frozen HEX.out 0)).mono ?_
  rintro e u' w'' ⟨rfl, rfl, rfl⟩
  have hb4 := below_alloc (HBX.out.setCell (p := ⟨w.heap.size, 0, none⟩) (Nat.le_refl _) (.int .i64 2)) (.cells #[.int .i64 2] 123)
  have hb5 : ((w4.setCell ⟨w.heap.size, 0, none⟩ (.int .i64 2)).alloc (.cells #[.int .i64 2] 123)).heap[w.heap.size]? = some (.cells #[.int .i64 2] 28 (0, 0)) := blk_alloc (blk_put HEX.out 0 _ rfl) _
  have c1 : ((w4.setCell ⟨w.heap.size, 0, none⟩ (.int .i64 2)).alloc (.cells #[.int .i64 2] 123)).cell? ⟨w.heap.size, 0, none⟩ = some (.int .i64 2) := by rw [blk_cell hb5]; rfl
  generalize (w4.setCell ⟨w.heap.size, 0, none⟩ (.int .i64 2)).alloc (.cells #[.int .i64 2] 123) = w9 at hb4 c1 ⊢
  simp [Leaves, settle, results, Try.results35, go_sem, c1]
  exact hb4
/-- what Replace asks of its arguments -/
def replOk (l ch : List S77) (ss : List ByteArray) (i n : Int) : Prop := 0 ≤ i ∧ i ≤ l.length ∧ 0 ≤ n ∧ n ≤ l.length - i ∧ (ss.length : Int) = mx 0 ((ch.length : Int) - 1)
set_option maxRecDepth 100000 in
set_option maxHeartbeats 8000000 in
theorem replace_arg (l ch : List S77) (ss : List ByteArray) (A Ac As : Option Addr) (c cc cs : Nat) (i n : Int) (w : World) (hr : Kd.C k77 w A l.length l) (hf : Fine l) (hcl : ch.length ≤ 1000000) (hsl : ss.length ≤ 1000000) (ho : ordL l 1 = true) (hno : ¬ replOk l ch ss i n) :
    Calls Try.prog 35 #[.slice A l.length c, .int .i64 i, .int .i64 n, .slice Ac ch.length cc, .slice As ss.length cs] w fun e w' => e = .returned (.tuple #[.slice none 0 0, .int .i64 1]) ∧ Below w.heap.size w w' := by
  have HOR := Aside0.mk (fun (W : World) (hb : Below w.heap.size w W) => ((ordered_c l A c 1 W (Kd.C_below hr hb) hf.1).mono (fun e w' h => ⟨by have := h.1; rw [ho] at this; exact this, h.2⟩) : Calls Try.prog 21 #[.slice A l.length c, .int .i64 1] W fun e w' => e = .returned (.bool true) ∧ Below W.heap.size W w'))
  have hB0 := Aside0.mk (below_alloc (Below.refl w.heap.size w) (.cells #[.int .i64 0] 28))
  have hE0 := Aside0.mk (blk_new w (.cells #[.int .i64 0] 28))
  have hle : (l.length : Int) ≤ 1000000 := by have := hf.1; omega
  have hcl2 : (ch.length : Int) ≤ 1000000 := by omega
  have hsl2 : (ss.length : Int) ≤ 1000000 := by omega
  unfold replOk at hno
  clear hr hf ho
  by_cases g0 : 0 ≤ i
  case neg =>
    have d0 : decide (i ≥ 0) = false := decide_eq_false (by omega)
    have e0 : decide (0 ≤ i) = false := decide_eq_false (by omega)
    clear hno hcl hsl hcl2 hsl2 g0
    go_enter_defers Try.func35, Try.ntmps35
    go_wp2_with (first
      | (go_at_call 21; refine (HOR.out _ hB0.out).mono ?_; rintro e w2 ⟨rfl, hb⟩; have HBX := Aside0.mk (hB0.out.trans (hb.mono hB0.out.size)); have HEX := Aside0.mk (blk_below hE0.out hb); clear hb)
      | (go_at_call 67; (with_reducible refine (must_yes 2 _).mono ?_); rintro e w3 ⟨rfl, rfl⟩)
      | (go_at_call 67; (with_reducible refine (must_no 1 _).mono ?_); rintro e w4 ⟨rfl, rfl⟩))
    refine leaves_cons (f := 66) (args := #[.pointer (some ⟨w.heap.size, 0, none⟩)]) (by simp) (by simp [go_sem]) ?_
    refine (refused_panicking w.heap.size 0 1 [] w4 (by rw [blk_cell HEX.out]; rfl) (blk_frozen HEX.out 0)).mono ?_
    rintro e u' w'' ⟨rfl, rfl, rfl⟩
    have hb4 := below_alloc (HBX.out.setCell (p := ⟨w.heap.size, 0, none⟩) (Nat.le_refl _) (.int .i64 1)) (.cells #[.int .i64 1] 123)
    have hb5 : ((w4.setCell ⟨w.heap.size, 0, none⟩ (.int .i64 1)).alloc (.cells #[.int .i64 1] 123)).heap[w.heap.size]? = some (.cells #[.int .i64 1] 28 (0, 0)) := blk_alloc (blk_put HEX.out 0 _ rfl) _
    have c1 : ((w4.setCell ⟨w.heap.size, 0, none⟩ (.int .i64 1)).alloc (.cells #[.int .i64 1] 123)).cell? ⟨w.heap.size, 0, none⟩ = some (.int .i64 1) := by rw [blk_cell hb5]; rfl
    generalize (w4.setCell ⟨w.heap.size, 0, none⟩ (.int .i64 1)).alloc (.cells #[.int .i64 1] 123) = w9 at hb4 c1 ⊢
    simp [Leaves, settle, results, Try.results35, go_sem, c1]
    exact hb4
  case pos =>
    by_cases g1 : i ≤ (l.length : Int)
    case neg =>
      have d0 : decide (i ≥ 0) = true := decide_eq_true (by omega)
      have e0 : decide (0 ≤ i) = true := decide_eq_true (by omega)
      have d1 : decide (i ≤ (l.length : Int)) = false := decide_eq_false (by omega)
      clear hno hcl hsl hcl2 hsl2 g0 g1
      go_enter_defers Try.func35, Try.ntmps35
      go_wp2_with (first
        | (go_at_call 21; refine (HOR.out _ hB0.out).mono ?_; rintro e w2 ⟨rfl, hb⟩; have HBX := Aside0.mk (hB0.out.trans (hb.mono hB0.out.size)); have HEX := Aside0.mk (blk_below hE0.out hb); clear hb)
        | (go_at_call 67; (with_reducible refine (must_yes 2 _).mono ?_); rintro e w3 ⟨rfl, rfl⟩)
        | (go_at_call 67; (with_reducible refine (must_no 1 _).mono ?_); rintro e w4 ⟨rfl, rfl⟩))
      refine leaves_cons (f := 66) (args := #[.pointer (some ⟨w.heap.size, 0, none⟩)]) (by simp) (by simp [go_sem]) ?_
      refine (refused_panicking w.heap.size 0 1 [] w4 (by rw [blk_cell HEX.out]; rfl) (blk_frozen HEX.out 0)).mono ?_
      rintro e u' w'' ⟨rfl, rfl, rfl⟩
      have hb4 := below_alloc (HBX.out.setCell (p := ⟨w.heap.size, 0, none⟩) (Nat.le_refl _) (.int .i64 1)) (.cells #[.int .i64 1] 123)
      have hb5 : ((w4.setCell ⟨w.heap.size, 0, none⟩ (.int .i64 1)).alloc (.cells #[.int .i64 1] 123)).heap[w.heap.size]? = some (.cells #[.int .i64 1] 28 (0, 0)) := blk_alloc (blk_put HEX.out 0 _ rfl) _
      have c1 : ((w4.setCell ⟨w.heap.size, 0, none⟩ (.int .i64 1)).alloc (.cells #[.int .i64 1] 123)).cell? ⟨w.heap.size, 0, none⟩ = some (.int .i64 1) := by rw [blk_cell hb5]; rfl
      generalize (w4.setCell ⟨w.heap.size, 0, none⟩ (.int .i64 1)).alloc (.cells #[.int .i64 1] 123) = w9 at hb4 c1 ⊢
      simp [Leaves, settle, results, Try.results35, go_sem, c1]
      exact hb4
    case pos =>
      by_cases g2 : 0 ≤ n
      case neg =>
        have d0 : decide (i ≥ 0) = true := decide_eq_true (by omega)
        have e0 : decide (0 ≤ i) = true := decide_eq_true (by omega)
        have d1 : decide (i ≤ (l.length : Int)) = true := decide_eq_true (by omega)
        have d2 : decide (n ≥ 0) = false := decide_eq_false (by omega)
        have e2 : decide (0 ≤ n) = false := decide_eq_false (by omega)
        clear hno hcl hsl hcl2 hsl2 g0 g1 g2
        go_enter_defers Try.func35, Try.ntmps35
        go_wp2_with (first
          | (go_at_call 21; refine (HOR.out _ hB0.out).mono ?_; rintro e w2 ⟨rfl, hb⟩; have HBX := Aside0.mk (hB0.out.trans (hb.mono hB0.out.size)); have HEX := Aside0.mk (blk_below hE0.out hb); clear hb)
          | (go_at_call 67; (with_reducible refine (must_yes 2 _).mono ?_); rintro e w3 ⟨rfl, rfl⟩)
          | (go_at_call 67; (with_reducible refine (must_no 1 _).mono ?_); rintro e w4 ⟨rfl, rfl⟩))
        refine leaves_cons (f := 66) (args := #[.pointer (some ⟨w.heap.size, 0, none⟩)]) (by simp) (by simp [go_sem]) ?_
        refine (refused_panicking w.heap.size 0 1 [] w4 (by rw [blk_cell HEX.out]; rfl) (blk_frozen HEX.out 0)).mono ?_
        rintro e u' w'' ⟨rfl, rfl, rfl⟩
        have hb4 := below_alloc (HBX.out.setCell (p := ⟨w.heap.size, 0, none⟩) (Nat.le_refl _) (.int .i64 1)) (.cells #[.int .i64 1] 123)
        have hb5 : ((w4.setCell ⟨w.heap.size, 0, none⟩ (.int .i64 1)).alloc (.cells #[.int .i64 1] 123)).heap[w.heap.size]? = some (.cells #[.int .i64 1] 28 (0, 0)) := blk_alloc (blk_put HEX.out 0 _ rfl) _
        have c1 : ((w4.setCell ⟨w.heap.size, 0, none⟩ (.int .i64 1)).alloc (.cells #[.int .i64 1] 123)).cell? ⟨w.heap.size, 0, none⟩ = some (.int .i64 1) := by rw [blk_cell hb5]; rfl
        generalize (w4.setCell ⟨w.heap.size, 0, none⟩ (.int .i64 1)).alloc (.cells #[.int .i64 1] 123) = w9 at hb4 c1 ⊢
        simp [Leaves, settle, results, Try.results35, go_sem, c1]
        exact hb4
      case pos =>
        by_cases g3 : n ≤ (l.length : Int) - i
        case neg =>
          have d0 : decide (i ≥ 0) = true := decide_eq_true (by omega)
          have e0 : decide (0 ≤ i) = true := decide_eq_true (by omega)
          have d1 : decide (i ≤ (l.length : Int)) = true := decide_eq_true (by omega)
          have d2 : decide (n ≥ 0) = true := decide_eq_true (by omega)
          have e2 : decide (0 ≤ n) = true := decide_eq_true (by omega)
          have d3 : decide (n ≤ (l.length : Int) - i) = false := decide_eq_false (by omega)
          have hw : wrap64 ((l.length : Int) - i) = (l.length : Int) - i := w64 _ (by omega) (by omega)
          clear hno hcl hsl hcl2 hsl2 g0 g1 g2 g3
          go_enter_defers Try.func35, Try.ntmps35
          go_wp2_with (first
            | (go_at_call 21; refine (HOR.out _ hB0.out).mono ?_; rintro e w2 ⟨rfl, hb⟩; have HBX := Aside0.mk (hB0.out.trans (hb.mono hB0.out.size)); have HEX := Aside0.mk (blk_below hE0.out hb); clear hb)
            | (go_at_call 67; (with_reducible refine (must_yes 2 _).mono ?_); rintro e w3 ⟨rfl, rfl⟩)
            | (go_at_call 67; (with_reducible refine (must_no 1 _).mono ?_); rintro e w4 ⟨rfl, rfl⟩))
          refine leaves_cons (f := 66) (args := #[.pointer (some ⟨w.heap.size, 0, none⟩)]) (by simp) (by simp [go_sem]) ?_
          refine (refused_panicking w.heap.size 0 1 [] w4 (by rw [blk_cell HEX.out]; rfl) (blk_frozen HEX.out 0)).mono ?_
          rintro e u' w'' ⟨rfl, rfl, rfl⟩
          have hb4 := below_alloc (HBX.out.setCell (p := ⟨w.heap.size, 0, none⟩) (Nat.le_refl _) (.int .i64 1)) (.cells #[.int .i64 1] 123)
          have hb5 : ((w4.setCell ⟨w.heap.size, 0, none⟩ (.int .i64 1)).alloc (.cells #[.int .i64 1] 123)).heap[w.heap.size]? = some (.cells #[.int .i64 1] 28 (0, 0)) := blk_alloc (blk_put HEX.out 0 _ rfl) _
          have c1 : ((w4.setCell ⟨w.heap.size, 0, none⟩ (.int .i64 1)).alloc (.cells #[.int .i64 1] 123)).cell? ⟨w.heap.size, 0, none⟩ = some (.int .i64 1) := by rw [blk_cell hb5]; rfl
          generalize (w4.setCell ⟨w.heap.size, 0, none⟩ (.int .i64 1)).alloc (.cells #[.int .i64 1] 123) = w9 at hb4 c1 ⊢
          simp [Leaves, settle, results, Try.results35, go_sem, c1]
          exact hb4
        case pos =>
          have d0 : decide (i ≥ 0) = true := decide_eq_true (by omega)
          have e0 : decide (0 ≤ i) = true := decide_eq_true (by omega)
          have d1 : decide (i ≤ (l.length : Int)) = true := decide_eq_true (by omega)
          have d2 : decide (n ≥ 0) = true := decide_eq_true (by omega)
          have e2 : decide (0 ≤ n) = true := decide_eq_true (by omega)
          have d3 : decide (n ≤ (l.length : Int) - i) = true := decide_eq_true (by omega)
          have g4 : ¬ (ss.length : Int) = mx 0 ((ch.length : Int) - 1) := fun h => hno ⟨g0, g1, g2, g3, h⟩
          have d5 : ((ss.length : Int) == mx 0 ((ch.length : Int) - 1)) = false := beq_eq_false_iff_ne.mpr g4
          have hw : wrap64 ((l.length : Int) - i) = (l.length : Int) - i := w64 _ (by omega) (by omega)
          clear hno hcl hsl g0 g1 g2 g3 g4
          go_enter_defers Try.func35, Try.ntmps35
          go_wp2_with (first
            | (go_at_call 21; refine (HOR.out _ hB0.out).mono ?_; rintro e w2 ⟨rfl, hb⟩; have HBX := Aside0.mk (hB0.out.trans (hb.mono hB0.out.size)); have HEX := Aside0.mk (blk_below hE0.out hb); clear hb)
            | (go_at_call 67; (with_reducible refine (must_yes 2 _).mono ?_); rintro e w3 ⟨rfl, rfl⟩)
            | (go_at_call 67; (with_reducible refine (must_no 1 _).mono ?_); rintro e w4 ⟨rfl, rfl⟩))
          refine leaves_cons (f := 66) (args := #[.pointer (some ⟨w.heap.size, 0, none⟩)]) (by simp) (by simp [go_sem]) ?_
          refine (refused_panicking w.heap.size 0 1 [] w4 (by rw [blk_cell HEX.out]; rfl) (blk_frozen HEX.out 0)).mono ?_
          rintro e u' w'' ⟨rfl, rfl, rfl⟩
          have hb4 := below_alloc (HBX.out.setCell (p := ⟨w.heap.size, 0, none⟩) (Nat.le_refl _) (.int .i64 1)) (.cells #[.int .i64 1] 123)
          have hb5 : ((w4.setCell ⟨w.heap.size, 0, none⟩ (.int .i64 1)).alloc (.cells #[.int .i64 1] 123)).heap[w.heap.size]? = some (.cells #[.int .i64 1] 28 (0, 0)) := blk_alloc (blk_put HEX.out 0 _ rfl) _
          have c1 : ((w4.setCell ⟨w.heap.size, 0, none⟩ (.int .i64 1)).alloc (.cells #[.int .i64 1] 123)).cell? ⟨w.heap.size, 0, none⟩ = some (.int .i64 1) := by rw [blk_cell hb5]; rfl
          generalize (w4.setCell ⟨w.heap.size, 0, none⟩ (.int .i64 1)).alloc (.cells #[.int .i64 1] 123) = w9 at hb4 c1 ⊢
          simp [Leaves, settle, results, Try.results35, go_sem, c1]
          exact hb4
end Go.Proofs.Ytalncokpbgbccaa.E

