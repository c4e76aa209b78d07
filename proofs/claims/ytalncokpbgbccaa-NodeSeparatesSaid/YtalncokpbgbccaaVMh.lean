-- A slim copy of Mh, Rk, written by wip/tools/prune.py.
import Derived.Test.YtalncokpbgbccaaVNZ
import Derived.Test.YtalncokpbgbccaaVNx0
import Derived.Test.YtalncokpbgbccaaVMb
/- Joined: OA, OB. -/
/- pack, for every list that can be packed; Cut. -/
namespace Go.Proofs.Ytalncokpbgbccaa.E
set_option linter.unusedVariables false
set_option linter.unusedSimpArgs false
open Go.RowKit Go.Proofs.YtalncokpbgbccaaW.PrintWords Go.Proofs.YtalncokpbgbccaaW.PrintLast Go.Proofs.YtalncokpbgbccaaW.PrintMore

set_option maxRecDepth 100000 in
set_option maxHeartbeats 8000000 in
theorem pack_one (level : Int) (P f : Nat) (l : List S77) (A : Option Addr) (n c : Nat) (w : World) (parts : List (List S77)) (seps : List ByteArray) (hn : l.length = n) (hF : Kd.F k77 w (Safe P w) A n l) (hc : n ≤ c) (hf : Fine l) (hp : packable l level = true) (hk : Pk w P parts seps)
    (hfit : ¬ 6 + wt level (bare level l) ≤ 496) (h1 : n ≤ 1) :
    Calls Try.prog 73 #[.agg #[.slice A n c, .int .i64 level], .func (.func 74) #[.pointer (some ⟨P, 0, none⟩)] #[], .func (.func 75) #[.pointer (some ⟨P, 0, none⟩)] #[]] w fun e w' => e = .panicked (refP 1) ∧ Below P w w' := by
  have hr : Kd.C k77 w A n l := Kd.F_now hF
  have HWT := Aside0.mk (fun (W : World) (hb : Below w.heap.size w W) => (by subst hn; exact weight_any l A c 0 l.length level W (Kd.C_below hr hb) hc hf (Nat.zero_le _) (Nat.le_refl _) (some (6 + wt level (bare level l))) (by rw [partE_all]; exact packable_weight hp) : Calls Try.prog 91 #[.agg #[.slice A n c, .int .i64 level], .int .i64 0, .int .i64 n] W fun e w' => WOut (some (6 + wt level (bare level l))) e ∧ Below W.heap.size W w'))
  generalize 6 + wt level (bare level l) = m at HWT hfit
  have hB0 := Aside0.mk (below_alloc (Below.refl w.heap.size w) (.cells #[.slice A n c, .int .i64 level] 103))
  have HBX := Aside0.mk (blk_new w (.cells #[.slice A n c, .int .i64 level] 103))
  have HPW := Aside0.mk (Nat.le_of_lt (pk_lt hk))
  have k1 : decide (m ≤ 496) = false := decide_eq_false hfit
  have k2 : decide ((n : Int) > 1) = false := decide_eq_false (by omega)
  have k2' : decide (1 < (n : Int)) = false := decide_eq_false (by omega)
  have k2'' : decide (1 < n) = false := decide_eq_false (by omega)
  have hnle : (n : Int) ≤ 1000000 := by omega
  clear hr hn hF hc hf hp hk hfit h1
  go_enter Try.func73, Try.ntmps73
  go_wp2_with (first
    | (go_at_call 91; refine (HWT.out _ hB0.out).mono ?_; rintro e w2 ⟨rfl, hb⟩; have HB2 := Aside0.mk (hB0.out.trans (hb.mono hB0.out.size)); have HX2 := Aside0.mk (blk_below HBX.out hb); have c0 : w2.cell? ⟨w.heap.size, 0, none⟩ = some (.slice A n c) := (by rw [blk_cell HX2.out]; rfl); have c1 : w2.cell? ⟨w.heap.size, 1, none⟩ = some (.int .i64 level) := (by rw [blk_cell HX2.out]; rfl); clear hb)
    | (go_at_call 60; refine (page_Capacity.calls 496 _ rfl).mono ?_; rintro e w3 ⟨rfl, ⟨nd, rfl⟩⟩)
    | (go_at_call 67; refine (must_no _ _).mono ?_; rintro e w4 ⟨rfl, rfl⟩))
  exact ⟨rfl, rfl, (pw_below_drewN HB2.out _).mono HPW.out⟩
theorem pack_all (level : Int) (P : Nat) : ∀ f, PackC level P f := by
  intro f
  induction f with
  | zero => intro l A n c w parts seps _ h; omega
  | succ f ih =>
    intro l A n c w parts seps hn hnf hF hc hf hks hp hk hpl hsl
    by_cases hfit : 6 + wt level (bare level l) ≤ 496
    · refine (pack_fits level P f l A n c w parts seps hn hF hc hf hp hk hpl hfit).mono ?_
      rintro e w' ⟨rfl, h1, h2⟩
      show PackOut _ _ _ (packO (f + 1) l level) _ _ _
      rw [packO, if_pos hfit]
      exact ⟨rfl, by simpa using h1, h2⟩
    · by_cases h2 : 2 ≤ n
      · refine (pack_cut level P f ih l A n c w parts seps hn hnf hF hc hf hks hp hk hpl hsl hfit h2).mono ?_
        intro e w' h
        show PackOut _ _ _ (packO (f + 1) l level) _ _ _
        rw [packO, if_neg hfit, if_neg (by omega)]
        exact h
      · refine (pack_one level P f l A n c w parts seps hn hF hc hf hp hk hfit (by omega)).mono ?_
        rintro e w' ⟨rfl, h1⟩
        show PackOut _ _ _ (packO (f + 1) l level) _ _ _
        rw [packO, if_neg hfit, if_pos (by omega)]
        exact ⟨rfl, h1⟩
/-- what Cut answers -/
def cutR (l : List S77) (level : Int) : Int × Int := if packable l level = true then (if 2 ≤ l.length then (bestA l level, 0) else (0, 1)) else (0, 2)
set_option maxRecDepth 100000 in
set_option maxHeartbeats 8000000 in
theorem cut_bad (l : List S77) (A : Option Addr) (c : Nat) (level : Int) (w : World) (hr : Kd.C k77 w A l.length l) (hc : l.length ≤ c) (hf : Fine l) (hp : packable l level = false) :
    Calls Try.prog 38 #[.slice A l.length c, .int .i64 level] w fun e w' => e = .returned (.tuple #[.int .i64 0, .int .i64 2]) ∧ Below w.heap.size w w' := by
  have HOR := Aside0.mk (fun (W : World) (hb : Below w.heap.size w W) => ((ordered_list l A c level W (Kd.C_below hr hb) hc hf).mono (fun e w' h => ⟨by have := h.1; rw [hp] at this; exact this, h.2⟩) : Calls Try.prog 70 #[.agg #[.slice A l.length c, .int .i64 level]] W fun e w' => e = .panicked (refP 2) ∧ Below W.heap.size W w'))
  have hB0 := Aside0.mk (below_alloc (below_alloc (Below.refl w.heap.size w) (.cells #[.int .i64 0] 28)) (.cells #[.slice A l.length c, .int .i64 level] 103))
  have hE0 := Aside0.mk (blk_alloc (blk_new w (.cells #[.int .i64 0] 28)) (.cells #[.slice A l.length c, .int .i64 level] 103))
  clear hr hc hf hp
  go_enter_defers Try.func38, Try.ntmps38
  go_wp2_with (go_at_call 70; refine (HOR.out _ hB0.out).mono ?_; rintro e w2 ⟨rfl, hb⟩; have HB2 := Aside0.mk (hB0.out.trans (hb.mono hB0.out.size)); have HE2 := Aside0.mk (blk_below hE0.out hb); clear hb)
  refine leaves_cons (f := 66) (args := #[.pointer (some ⟨w.heap.size, 0, none⟩)]) (by simp) (by simp [go_sem]) ?_
  refine (refused_panicking w.heap.size 0 2 [] w2 (by rw [blk_cell HE2.out]; rfl) (blk_frozen HE2.out 0)).mono ?_
  rintro e u' w'' ⟨rfl, rfl, rfl⟩
  have hb4 := below_alloc (HB2.out.setCell (p := ⟨w.heap.size, 0, none⟩) (Nat.le_refl _) (.int .i64 2)) (.cells #[.int .i64 2] 123)
  have hb5 : ((w2.setCell ⟨w.heap.size, 0, none⟩ (.int .i64 2)).alloc (.cells #[.int .i64 2] 123)).heap[w.heap.size]? = some (.cells #[.int .i64 2] 28 (0, 0)) := blk_alloc (blk_put HE2.out 0 _ rfl) _
  have c1 : ((w2.setCell ⟨w.heap.size, 0, none⟩ (.int .i64 2)).alloc (.cells #[.int .i64 2] 123)).cell? ⟨w.heap.size, 0, none⟩ = some (.int .i64 2) := by rw [blk_cell hb5]; rfl
  generalize (w2.setCell ⟨w.heap.size, 0, none⟩ (.int .i64 2)).alloc (.cells #[.int .i64 2] 123) = w5 at hb4 c1 ⊢
  simp [Leaves, settle, results, Try.results38, go_sem, c1]
  exact hb4
set_option maxRecDepth 100000 in
set_option maxHeartbeats 8000000 in
theorem cut_one (l : List S77) (A : Option Addr) (c : Nat) (level : Int) (w : World) (hr : Kd.C k77 w A l.length l) (hc : l.length ≤ c) (hf : Fine l) (hp : packable l level = true) (h1 : l.length < 2) :
    Calls Try.prog 38 #[.slice A l.length c, .int .i64 level] w fun e w' => e = .returned (.tuple #[.int .i64 0, .int .i64 1]) ∧ Below w.heap.size w w' := by
  have HOR := Aside0.mk (fun (W : World) (hb : Below w.heap.size w W) => ((ordered_list l A c level W (Kd.C_below hr hb) hc hf).mono (fun e w' h => ⟨by have := h.1; rw [hp] at this; exact this, h.2⟩) : Calls Try.prog 70 #[.agg #[.slice A l.length c, .int .i64 level]] W fun e w' => e = .returned (.tuple #[]) ∧ Below W.heap.size W w'))
  have hB0 := Aside0.mk (below_alloc (below_alloc (Below.refl w.heap.size w) (.cells #[.int .i64 0] 28)) (.cells #[.slice A l.length c, .int .i64 level] 103))
  have hE0 := Aside0.mk (blk_alloc (blk_new w (.cells #[.int .i64 0] 28)) (.cells #[.slice A l.length c, .int .i64 level] 103))
  have k1 : decide ((l.length : Int) ≥ 2) = false := decide_eq_false (by omega)
  have k2 : decide (2 ≤ (l.length : Int)) = false := decide_eq_false (by omega)
  have k3 : decide (2 ≤ l.length) = false := decide_eq_false (by omega)
  have hle : (l.length : Int) ≤ 1000000 := by have := hf.1; omega
  clear hr hc hf hp h1
  go_enter_defers Try.func38, Try.ntmps38
  go_wp2_with (first | (go_at_call 70; refine (HOR.out _ hB0.out).mono ?_; rintro e w2 ⟨rfl, hb⟩; have HB2 := Aside0.mk (hB0.out.trans (hb.mono hB0.out.size)); have HE2 := Aside0.mk (blk_below hE0.out hb); clear hb) | (go_at_call 67; refine (must_no _ _).mono ?_; rintro e w4 ⟨rfl, rfl⟩))
  refine leaves_cons (f := 66) (args := #[.pointer (some ⟨w.heap.size, 0, none⟩)]) (by simp) (by simp [go_sem]) ?_
  refine (refused_panicking w.heap.size 0 1 [] w4 (by rw [blk_cell HE2.out]; rfl) (blk_frozen HE2.out 0)).mono ?_
  rintro e u' w'' ⟨rfl, rfl, rfl⟩
  have hb4 := below_alloc (HB2.out.setCell (p := ⟨w.heap.size, 0, none⟩) (Nat.le_refl _) (.int .i64 1)) (.cells #[.int .i64 1] 123)
  have hb5 : ((w4.setCell ⟨w.heap.size, 0, none⟩ (.int .i64 1)).alloc (.cells #[.int .i64 1] 123)).heap[w.heap.size]? = some (.cells #[.int .i64 1] 28 (0, 0)) := blk_alloc (blk_put HE2.out 0 _ rfl) _
  have c1 : ((w4.setCell ⟨w.heap.size, 0, none⟩ (.int .i64 1)).alloc (.cells #[.int .i64 1] 123)).cell? ⟨w.heap.size, 0, none⟩ = some (.int .i64 1) := by rw [blk_cell hb5]; rfl
  generalize (w4.setCell ⟨w.heap.size, 0, none⟩ (.int .i64 1)).alloc (.cells #[.int .i64 1] 123) = w5 at hb4 c1 ⊢
  simp [Leaves, settle, results, Try.results38, go_sem, c1]
  exact hb4
set_option maxRecDepth 100000 in
set_option maxHeartbeats 8000000 in
theorem cut_ok (l : List S77) (A : Option Addr) (c : Nat) (level : Int) (w : World) (hr : Kd.C k77 w A l.length l) (hc : l.length ≤ c) (hf : Fine l) (hp : packable l level = true) (h2 : 2 ≤ l.length) :
    Calls Try.prog 38 #[.slice A l.length c, .int .i64 level] w fun e w' => e = .returned (.tuple #[.int .i64 (bestA l level), .int .i64 0]) ∧ Below w.heap.size w w' := by
  have HOR := Aside0.mk (fun (W : World) (hb : Below w.heap.size w W) => ((ordered_list l A c level W (Kd.C_below hr hb) hc hf).mono (fun e w' h => ⟨by have := h.1; rw [hp] at this; exact this, h.2⟩) : Calls Try.prog 70 #[.agg #[.slice A l.length c, .int .i64 level]] W fun e w' => e = .returned (.tuple #[]) ∧ Below W.heap.size W w'))
  have HDV := Aside0.mk (fun (W : World) (hb : Below w.heap.size w W) => divided_c l A c level W (Kd.C_below hr hb) hc hf (fun i hi => ⟨_, packable_ahead hp i hi⟩))
  have HBE := Aside0.mk (fun (W : World) (hb : Below w.heap.size w W) (D : Nat) (av : Addr) (cv : Nat) (hD : W.heap[D]? = some (.cells #[.slice A l.length c, .int .i64 level, .slice (some av) l.length cv] 127 (0, 0))) (ha : (Kd.int .i64).C W (some av) l.length (aheads l level)) => best_c l A c level W D av cv (Kd.C_below hr hb) hc hf h2 (packable_level hp) hD ha (packable_ahOk hp hf))
  have HLA := Aside0.mk (aheads_length l level)
  have hB0 := Aside0.mk (below_alloc (below_alloc (Below.refl w.heap.size w) (.cells #[.int .i64 0] 28)) (.cells #[.slice A l.length c, .int .i64 level] 103))
  have hE0 := Aside0.mk (blk_alloc (blk_new w (.cells #[.int .i64 0] 28)) (.cells #[.slice A l.length c, .int .i64 level] 103))
  have hX0 := Aside0.mk (show ((w.alloc (.cells #[.int .i64 0] 28)).alloc (.cells #[.slice A l.length c, .int .i64 level] 103)).heap[w.heap.size + 1]? = some (.cells #[.slice A l.length c, .int .i64 level] 103 (0, 0)) by
    have := blk_new (w.alloc (.cells #[.int .i64 0] 28)) (.cells #[.slice A l.length c, .int .i64 level] 103)
    rw [World.size_alloc] at this
    exact this)
  have k1 : decide ((l.length : Int) ≥ 2) = true := decide_eq_true (by omega)
  have k2 : decide (2 ≤ (l.length : Int)) = true := decide_eq_true (by omega)
  have k3 : decide (2 ≤ l.length) = true := decide_eq_true (by omega)
  have hle : (l.length : Int) ≤ 1000000 := by have := hf.1; omega
  have H2 := Aside0.mk h2
  clear hr hc hf hp h2
  go_enter_defers Try.func38, Try.ntmps38
  go_wp2_with (first
    | (go_at_call 70; refine (HOR.out _ hB0.out).mono ?_; rintro e w2 ⟨rfl, hb⟩; have HB2 := Aside0.mk (hB0.out.trans (hb.mono hB0.out.size)); have HE2 := Aside0.mk (blk_below hE0.out hb); have HX2 := Aside0.mk (blk_below hX0.out hb); have x0 : w2.cell? ⟨w.heap.size + 1, 0, none⟩ = some (.slice A l.length c) := (by rw [blk_cell HX2.out]; rfl); have x1 : w2.cell? ⟨w.heap.size + 1, 1, none⟩ = some (.int .i64 level) := (by rw [blk_cell HX2.out]; rfl); clear hb)
    | (go_at_call 67; refine (must_yes _ _).mono ?_; rintro e w4 ⟨rfl, rfl⟩)
    | (go_at_call 71; refine (HDV.out _ HB2.out).mono ?_; rintro e w5 ⟨D, v, rfl, _, hd, hq, hb⟩; obtain ⟨av, cv, rfl⟩ := Kd.R_slice1 hq (by rw [HLA.out]; have := H2.out; omega); rw [HLA.out] at hd hq; have GD := Aside0.mk hd; have GH := Aside0.mk (show (Kd.int .i64).C w5 (some av) l.length (aheads l level) by have h := Kd.R_reads' hq; rw [h.1]; exact h.2.2); have HB5 := Aside0.mk (HB2.out.trans (hb.mono HB2.out.size)); have HE5 := Aside0.mk (blk_below HE2.out hb); clear hd hq hb x0 x1)
    | (go_at_call 72; refine (HBE.out _ HB5.out D av cv GD.out GH.out).mono ?_; rintro e w6 ⟨rfl, hb⟩; have HB6 := Aside0.mk (HB5.out.trans (hb.mono HB5.out.size)); have HE6 := Aside0.mk (blk_below HE5.out hb); have y0 : w6.cell? ⟨w.heap.size, 0, none⟩ = some (.int .i64 0) := (by rw [blk_cell HE6.out]; rfl); have y1 := blk_frozen HE6.out 0; have HB7 := Aside0.mk (HB6.out.setCell (p := ⟨w.heap.size, 0, none⟩) (Nat.le_refl _) (.int .i64 0)); have HE7 := Aside0.mk (blk_put HE6.out 0 (.int .i64 0) rfl); clear hb))
  have c1 : (w6.setCell ⟨w.heap.size, 0, none⟩ (.int .i64 0)).cell? ⟨w.heap.size, 0, none⟩ = some (.int .i64 0) := by rw [blk_cell HE7.out]; rfl
  refine leaves_cons (f := 66) (args := #[.pointer (some ⟨w.heap.size, 0, none⟩)]) (by simp) (by simp [go_sem]) ?_
  refine (refused_idle w.heap.size _).mono ?_
  rintro e u' w'' ⟨rfl, rfl, rfl⟩
  have hb4 := HB7.out
  generalize w6.setCell ⟨w.heap.size, 0, none⟩ (.int .i64 0) = w7 at hb4 c1 ⊢
  simp [Leaves, settle, results, Try.results38, go_sem, c1]
  exact hb4
theorem cut_c (l : List S77) (A : Option Addr) (c : Nat) (level : Int) (w : World) (hr : Kd.C k77 w A l.length l) (hc : l.length ≤ c) (hf : Fine l) :
    Calls Try.prog 38 #[.slice A l.length c, .int .i64 level] w fun e w' => e = .returned (.tuple #[.int .i64 (cutR l level).1, .int .i64 (cutR l level).2]) ∧ Below w.heap.size w w' := by
  cases hp : packable l level with
  | false => rw [show cutR l level = (0, 2) by simp [cutR, hp]]; exact cut_bad l A c level w hr hc hf hp
  | true =>
    by_cases h2 : 2 ≤ l.length
    · rw [show cutR l level = (bestA l level, 0) by simp [cutR, hp, h2]]; exact cut_ok l A c level w hr hc hf hp h2
    · rw [show cutR l level = (0, 1) by simp [cutR, hp, h2]]; exact cut_one l A c level w hr hc hf hp (by omega)
end Go.Proofs.Ytalncokpbgbccaa.E

/- Pack: the nodes into which entries are divided, and the keys between them. -/
namespace Go.Proofs.Ytalncokpbgbccaa.E
set_option linter.unusedVariables false
set_option linter.unusedSimpArgs false
open Go.RowKit Go.Proofs.YtalncokpbgbccaaW.PrintWords Go.Proofs.YtalncokpbgbccaaW.PrintLast Go.Proofs.YtalncokpbgbccaaW.PrintMore

def rg39_8_T : Bool × List (List Nat × List Nat) := (true, [([], []), ([0], [0]), ([1], [1]), ([2], [2]), ([], []), ([4], [4]), ([5], [5]), ([6], [6]), ([3, 0, 1, 2, 3], [3]), ([7, 8, 0, 1, 2, 3, 4, 5, 6, 7, 8], [7]), ([9, 0, 1, 2, 3, 4, 5, 6, 7, 8, 9], [])])
def rg39_8_B : List Nat := [0, 1, 3, 7, 0, 16, 48, 112, 15, 511, 1023]
theorem rg39_8_tab : rtab .any (opsOf Try.f39 8) = rg39_8_T := by kernel_rfl
theorem rg39_8_bits : waitsOk rg39_8_T.2 rg39_8_B = true := by kernel_rfl
set_option maxRecDepth 100000 in
set_option maxHeartbeats 8000000 in
theorem packs_bad (l : List S77) (A : Option Addr) (c : Nat) (level : Int) (w : World) (hr : Kd.C k77 w A l.length l) (hc : l.length ≤ c) (hf : Fine l) (hp : packable l level = false) :
    Calls Try.prog 39 #[.slice A l.length c, .int .i64 level] w fun e w' => e = .returned (.tuple #[.slice none 0 0, .slice none 0 0, .int .i64 2]) ∧ Below w.heap.size w w' := by
  have HOR := Aside0.mk (fun (W : World) (hb : Below w.heap.size w W) => ((ordered_list l A c level W (Kd.C_below hr hb) hc hf).mono (fun e w' h => ⟨by have := h.1; rw [hp] at this; exact this, h.2⟩) : Calls Try.prog 70 #[.agg #[.slice A l.length c, .int .i64 level]] W fun e w' => e = .panicked (refP 2) ∧ Below W.heap.size W w'))
  have hB0 := Aside0.mk (below_alloc (below_alloc (Below.refl w.heap.size w) (.cells #[.int .i64 0] 28)) (.cells #[.slice A l.length c, .int .i64 level] 103))
  have hE0 := Aside0.mk (blk_alloc (blk_new w (.cells #[.int .i64 0] 28)) (.cells #[.slice A l.length c, .int .i64 level] 103))
  clear hr hc hf hp
  go_enter_defers Try.func39, Try.ntmps39
  go_wp2_with (go_at_call 70; refine (HOR.out _ hB0.out).mono ?_; rintro e w2 ⟨rfl, hb⟩; have HBX := Aside0.mk (hB0.out.trans (hb.mono hB0.out.size)); have HEX := Aside0.mk (blk_below hE0.out hb); clear hb)
  refine leaves_cons (f := 66) (args := #[.pointer (some ⟨w.heap.size, 0, none⟩)]) (by simp) (by simp [go_sem]) ?_
  refine (refused_panicking w.heap.size 0 2 [] w2 (by rw [blk_cell HEX.out]; rfl) (blk_frozen HEX.out 0)).mono ?_
  rintro e u' w'' ⟨rfl, rfl, rfl⟩
  have hb4 := below_alloc (HBX.out.setCell (p := ⟨w.heap.size, 0, none⟩) (Nat.le_refl _) (.int .i64 2)) (.cells #[.int .i64 2] 123)
  have hb5 : ((w2.setCell ⟨w.heap.size, 0, none⟩ (.int .i64 2)).alloc (.cells #[.int .i64 2] 123)).heap[w.heap.size]? = some (.cells #[.int .i64 2] 28 (0, 0)) := blk_alloc (blk_put HEX.out 0 _ rfl) _
  have c1 : ((w2.setCell ⟨w.heap.size, 0, none⟩ (.int .i64 2)).alloc (.cells #[.int .i64 2] 123)).cell? ⟨w.heap.size, 0, none⟩ = some (.int .i64 2) := by rw [blk_cell hb5]; rfl
  generalize (w2.setCell ⟨w.heap.size, 0, none⟩ (.int .i64 2)).alloc (.cells #[.int .i64 2] 123) = w9 at hb4 c1 ⊢
  simp [Leaves, settle, results, Try.results39, go_sem, c1]
  exact hb4
set_option maxRecDepth 100000 in
set_option maxHeartbeats 8000000 in
theorem packs_nil (l : List S77) (A : Option Addr) (c : Nat) (level : Int) (w : World) (hr : Kd.C k77 w A l.length l) (hc : l.length ≤ c) (hf : Fine l) (hp : packable l level = true) (h0 : l.length = 0) :
    Calls Try.prog 39 #[.slice A l.length c, .int .i64 level] w fun e w' => e = .returned (.tuple #[.slice none 0 0, .slice none 0 0, .int .i64 0]) ∧ Below w.heap.size w w' := by
  have HOR := Aside0.mk (fun (W : World) (hb : Below w.heap.size w W) => ((ordered_list l A c level W (Kd.C_below hr hb) hc hf).mono (fun e w' h => ⟨by have := h.1; rw [hp] at this; exact this, h.2⟩) : Calls Try.prog 70 #[.agg #[.slice A l.length c, .int .i64 level]] W fun e w' => e = .returned (.tuple #[]) ∧ Below W.heap.size W w'))
  have hB0 := Aside0.mk (below_alloc (below_alloc (Below.refl w.heap.size w) (.cells #[.int .i64 0] 28)) (.cells #[.slice A l.length c, .int .i64 level] 103))
  have hE0 := Aside0.mk (blk_alloc (blk_new w (.cells #[.int .i64 0] 28)) (.cells #[.slice A l.length c, .int .i64 level] 103))
  have hX0 := Aside0.mk (show ((w.alloc (.cells #[.int .i64 0] 28)).alloc (.cells #[.slice A l.length c, .int .i64 level] 103)).heap[w.heap.size + 1]? = some (.cells #[.slice A l.length c, .int .i64 level] 103 (0, 0)) by
    have := blk_new (w.alloc (.cells #[.int .i64 0] 28)) (.cells #[.slice A l.length c, .int .i64 level] 103)
    rw [World.size_alloc] at this
    exact this)
  have hle : (l.length : Int) ≤ 1000000 := by have := hf.1; omega
  have k1 : ((l.length : Int) == 0) = true := by rw [h0]; rfl
  clear hr hc hf hp h0
  go_enter_defers Try.func39, Try.ntmps39
  go_wp2_with (first | (go_at_call 70; refine (HOR.out _ hB0.out).mono ?_; rintro e w2 ⟨rfl, hb⟩; have HB2 := Aside0.mk (hB0.out.trans (hb.mono hB0.out.size)); have HE2 := Aside0.mk (blk_below hE0.out hb); have HX2 := Aside0.mk (blk_below hX0.out hb); have x0 : w2.cell? ⟨w.heap.size + 1, 0, none⟩ = some (.slice A l.length c) := (by rw [blk_cell HX2.out]; rfl); have x1 : w2.cell? ⟨w.heap.size + 1, 1, none⟩ = some (.int .i64 level) := (by rw [blk_cell HX2.out]; rfl); have y0 : w2.cell? ⟨w.heap.size, 0, none⟩ = some (.int .i64 0) := (by rw [blk_cell HE2.out]; rfl); have y1 := blk_frozen HE2.out 0; clear hb))
  have HB7 := Aside0.mk (HB2.out.setCell (p := ⟨w.heap.size, 0, none⟩) (Nat.le_refl _) (.int .i64 0))
  have HE7 := Aside0.mk (blk_put HE2.out 0 (.int .i64 0) rfl)
  have c1 : (w2.setCell ⟨w.heap.size, 0, none⟩ (.int .i64 0)).cell? ⟨w.heap.size, 0, none⟩ = some (.int .i64 0) := by rw [blk_cell HE7.out]; rfl
  refine leaves_cons (f := 66) (args := #[.pointer (some ⟨w.heap.size, 0, none⟩)]) (by simp) (by simp [go_sem]) ?_
  refine (refused_idle w.heap.size _).mono ?_
  rintro e u' w'' ⟨rfl, rfl, rfl⟩
  have hb4 := HB7.out
  generalize w2.setCell ⟨w.heap.size, 0, none⟩ (.int .i64 0) = w7 at hb4 c1 ⊢
  simp [Leaves, settle, results, Try.results39, go_sem, c1]
  exact hb4
set_option maxRecDepth 100000 in
set_option maxHeartbeats 8000000 in
theorem packs_no (l : List S77) (A : Option Addr) (c : Nat) (level : Int) (w : World) (hr : Kd.C k77 w A l.length l) (hc : l.length ≤ c) (hf : Fine l) (hks : ∀ x ∈ l, x.f0.size ≤ 1000000) (hp : packable l level = true) (h0 : 0 < l.length) (ho : packO (l.length + 1) l level = none) :
    Calls Try.prog 39 #[.slice A l.length c, .int .i64 level] w fun e w' => e = .returned (.tuple #[.slice none 0 0, .slice none 0 0, .int .i64 1]) ∧ Below w.heap.size w w' := by
  have HOR := Aside0.mk (fun (W : World) (hb : Below w.heap.size w W) => ((ordered_list l A c level W (Kd.C_below hr hb) hc hf).mono (fun e w' h => ⟨by have := h.1; rw [hp] at this; exact this, h.2⟩) : Calls Try.prog 70 #[.agg #[.slice A l.length c, .int .i64 level]] W fun e w' => e = .returned (.tuple #[]) ∧ Below W.heap.size W w'))
  have hB0 := Aside0.mk (below_alloc (below_alloc (Below.refl w.heap.size w) (.cells #[.int .i64 0] 28)) (.cells #[.slice A l.length c, .int .i64 level] 103))
  have hE0 := Aside0.mk (blk_alloc (blk_new w (.cells #[.int .i64 0] 28)) (.cells #[.slice A l.length c, .int .i64 level] 103))
  have hX0 := Aside0.mk (show ((w.alloc (.cells #[.int .i64 0] 28)).alloc (.cells #[.slice A l.length c, .int .i64 level] 103)).heap[w.heap.size + 1]? = some (.cells #[.slice A l.length c, .int .i64 level] 103 (0, 0)) by
    have := blk_new (w.alloc (.cells #[.int .i64 0] 28)) (.cells #[.slice A l.length c, .int .i64 level] 103)
    rw [World.size_alloc] at this
    exact this)
  have hle : (l.length : Int) ≤ 1000000 := by have := hf.1; omega
  have hmf : ∀ (fn : Fn) (first cap : Array Value) (w : World), (Instr.makeFunc fn first cap).run Try.prog w = .ok (.func fn first cap) w := fun _ _ _ _ => rfl
  have HPK := Aside0.mk (fun (W : World) (hb : Below w.heap.size w W) => (pack_all level W.heap.size (l.length + 1) l A l.length c (W.alloc (.cells #[.slice none 0 0, .slice none 0 0] 109)) [] [] rfl (Nat.lt_succ_self _) (safe_came hr (hb.trans ((below_alloc (Below.refl _ _) _).mono hb.size)) hb.size) hc hf hks hp ⟨_, _, blk_new W _, Kd.R_nil _ _ _ _ _, Kd.R_nil _ _ _ _ _⟩ (by have := hf.1; simp; omega) (by have := hf.1; simp; omega)))
  rw [ho] at HPK
  have k1 : ((l.length : Int) == 0) = false := beq_eq_false_iff_ne.mpr (by omega)
  have HPC := Aside0.mk (fun (W : World) (hb : Below w.heap.size w W) => (HPK.out W hb).mono (fun e w' h => (h : e = .panicked (refP 1) ∧ Below W.heap.size (W.alloc (.cells #[.slice none 0 0, .slice none 0 0] 109)) w')))
  clear hr hc hf hp h0 hks ho HPK
  go_enter_defers Try.func39, Try.ntmps39
  go_wp2_with (first
    | (go_at_call 70; refine (HOR.out _ hB0.out).mono ?_; rintro e w2 ⟨rfl, hb⟩; have HB2 := Aside0.mk (hB0.out.trans (hb.mono hB0.out.size)); have HE2 := Aside0.mk (blk_below hE0.out hb); have HX2 := Aside0.mk (blk_below hX0.out hb); have x0 : w2.cell? ⟨w.heap.size + 1, 0, none⟩ = some (.slice A l.length c) := (by rw [blk_cell HX2.out]; rfl); have x1 : w2.cell? ⟨w.heap.size + 1, 1, none⟩ = some (.int .i64 level) := (by rw [blk_cell HX2.out]; rfl); have y0 : w2.cell? ⟨w.heap.size, 0, none⟩ = some (.int .i64 0) := (by rw [blk_cell HE2.out]; rfl); have y1 := blk_frozen HE2.out 0; have xn : ¬ w.heap.size + 1 = w2.heap.size := (by have := blk_lt HX2.out; omega); have xp := blk_alloc HX2.out (.cells #[.slice none 0 0, .slice none 0 0] 109); have xa0 : (w2.alloc (.cells #[.slice none 0 0, .slice none 0 0] 109)).cell? ⟨w.heap.size + 1, 0, none⟩ = some (.slice A l.length c) := (by rw [blk_cell xp]; rfl); have xa1 : (w2.alloc (.cells #[.slice none 0 0, .slice none 0 0] 109)).cell? ⟨w.heap.size + 1, 1, none⟩ = some (.int .i64 level) := (by rw [blk_cell xp]; rfl); clear hb xp)
    | (go_at_call 73; refine (HPC.out w2 HB2.out).mono ?_; rintro e w3 ⟨rfl, hb⟩; have HBX := Aside0.mk (HB2.out.trans (((below_alloc (Below.refl w2.heap.size w2) _).trans hb).mono HB2.out.size)); have HEX := Aside0.mk ((((below_alloc (Below.refl w2.heap.size w2) _).trans hb).block _ (blk_lt HE2.out)).trans HE2.out); clear hb))
  refine leaves_cons (f := 66) (args := #[.pointer (some ⟨w.heap.size, 0, none⟩)]) (by simp) (by simp [go_sem]) ?_
  refine (refused_panicking w.heap.size 0 1 [] w3 (by rw [blk_cell HEX.out]; rfl) (blk_frozen HEX.out 0)).mono ?_
  rintro e u' w'' ⟨rfl, rfl, rfl⟩
  have hb4 := below_alloc (HBX.out.setCell (p := ⟨w.heap.size, 0, none⟩) (Nat.le_refl _) (.int .i64 1)) (.cells #[.int .i64 1] 123)
  have hb5 : ((w3.setCell ⟨w.heap.size, 0, none⟩ (.int .i64 1)).alloc (.cells #[.int .i64 1] 123)).heap[w.heap.size]? = some (.cells #[.int .i64 1] 28 (0, 0)) := blk_alloc (blk_put HEX.out 0 _ rfl) _
  have c1 : ((w3.setCell ⟨w.heap.size, 0, none⟩ (.int .i64 1)).alloc (.cells #[.int .i64 1] 123)).cell? ⟨w.heap.size, 0, none⟩ = some (.int .i64 1) := by rw [blk_cell hb5]; rfl
  generalize (w3.setCell ⟨w.heap.size, 0, none⟩ (.int .i64 1)).alloc (.cells #[.int .i64 1] 123) = w9 at hb4 c1 ⊢
  simp [Leaves, settle, results, Try.results39, go_sem, c1]
  exact hb4
set_option maxRecDepth 100000 in
set_option maxHeartbeats 8000000 in
theorem packs_yes (l : List S77) (A : Option Addr) (c : Nat) (level : Int) (w : World) (hr : Kd.C k77 w A l.length l) (hc : l.length ≤ c) (hf : Fine l) (hks : ∀ x ∈ l, x.f0.size ≤ 1000000) (hp : packable l level = true) (h0 : 0 < l.length) (x : List (List S77) × List ByteArray) (ho : packO (l.length + 1) l level = some x) :
    Calls Try.prog 39 #[.slice A l.length c, .int .i64 level] w fun e w' => ∃ A1 c1 A2 c2, e = .returned (.tuple #[.slice A1 x.1.length c1, .slice A2 x.2.length c2, .int .i64 0]) ∧ (x.1.length ≤ c1 ∧ kN.C w' A1 x.1.length x.1) ∧ (x.2.length ≤ c2 ∧ Kd.string.C w' A2 x.2.length x.2) ∧ Below w.heap.size w w' := by
  have HOR := Aside0.mk (fun (W : World) (hb : Below w.heap.size w W) => ((ordered_list l A c level W (Kd.C_below hr hb) hc hf).mono (fun e w' h => ⟨by have := h.1; rw [hp] at this; exact this, h.2⟩) : Calls Try.prog 70 #[.agg #[.slice A l.length c, .int .i64 level]] W fun e w' => e = .returned (.tuple #[]) ∧ Below W.heap.size W w'))
  have hB0 := Aside0.mk (below_alloc (below_alloc (Below.refl w.heap.size w) (.cells #[.int .i64 0] 28)) (.cells #[.slice A l.length c, .int .i64 level] 103))
  have hE0 := Aside0.mk (blk_alloc (blk_new w (.cells #[.int .i64 0] 28)) (.cells #[.slice A l.length c, .int .i64 level] 103))
  have hX0 := Aside0.mk (show ((w.alloc (.cells #[.int .i64 0] 28)).alloc (.cells #[.slice A l.length c, .int .i64 level] 103)).heap[w.heap.size + 1]? = some (.cells #[.slice A l.length c, .int .i64 level] 103 (0, 0)) by
    have := blk_new (w.alloc (.cells #[.int .i64 0] 28)) (.cells #[.slice A l.length c, .int .i64 level] 103)
    rw [World.size_alloc] at this
    exact this)
  have hle : (l.length : Int) ≤ 1000000 := by have := hf.1; omega
  have hmf : ∀ (fn : Fn) (first cap : Array Value) (w : World), (Instr.makeFunc fn first cap).run Try.prog w = .ok (.func fn first cap) w := fun _ _ _ _ => rfl
  have HPK := Aside0.mk (fun (W : World) (hb : Below w.heap.size w W) => (pack_all level W.heap.size (l.length + 1) l A l.length c (W.alloc (.cells #[.slice none 0 0, .slice none 0 0] 109)) [] [] rfl (Nat.lt_succ_self _) (safe_came hr (hb.trans ((below_alloc (Below.refl _ _) _).mono hb.size)) hb.size) hc hf hks hp ⟨_, _, blk_new W _, Kd.R_nil _ _ _ _ _, Kd.R_nil _ _ _ _ _⟩ (by have := hf.1; simp; omega) (by have := hf.1; simp; omega)))
  rw [ho] at HPK
  have k1 : ((l.length : Int) == 0) = false := beq_eq_false_iff_ne.mpr (by omega)
  have HPC := Aside0.mk (fun (W : World) (hb : Below w.heap.size w W) => (HPK.out W hb).mono (fun e w' h => (h : e = .returned (.tuple #[]) ∧ Pk w' W.heap.size ([] ++ x.1) ([] ++ x.2) ∧ KT W.heap.size (W.alloc (.cells #[.slice none 0 0, .slice none 0 0] 109)) w')))
  clear hr hc hf hp h0 hks ho HPK
  go_enter_defers Try.func39, Try.ntmps39
  go_wp2_with (first
    | (go_at_call 70; refine (HOR.out _ hB0.out).mono ?_; rintro e w2 ⟨rfl, hb⟩; have HB2 := Aside0.mk (hB0.out.trans (hb.mono hB0.out.size)); have HE2 := Aside0.mk (blk_below hE0.out hb); have HX2 := Aside0.mk (blk_below hX0.out hb); have x0 : w2.cell? ⟨w.heap.size + 1, 0, none⟩ = some (.slice A l.length c) := (by rw [blk_cell HX2.out]; rfl); have x1 : w2.cell? ⟨w.heap.size + 1, 1, none⟩ = some (.int .i64 level) := (by rw [blk_cell HX2.out]; rfl); have y0 : w2.cell? ⟨w.heap.size, 0, none⟩ = some (.int .i64 0) := (by rw [blk_cell HE2.out]; rfl); have y1 := blk_frozen HE2.out 0; have xn : ¬ w.heap.size + 1 = w2.heap.size := (by have := blk_lt HX2.out; omega); have xp := blk_alloc HX2.out (.cells #[.slice none 0 0, .slice none 0 0] 109); have xa0 : (w2.alloc (.cells #[.slice none 0 0, .slice none 0 0] 109)).cell? ⟨w.heap.size + 1, 0, none⟩ = some (.slice A l.length c) := (by rw [blk_cell xp]; rfl); have xa1 : (w2.alloc (.cells #[.slice none 0 0, .slice none 0 0] 109)).cell? ⟨w.heap.size + 1, 1, none⟩ = some (.int .i64 level) := (by rw [blk_cell xp]; rfl); clear hb xp)
    | (go_at_call 73; refine (HPC.out w2 HB2.out).mono ?_; rintro e w3 ⟨rfl, hk, ht⟩; have HK3 := Aside0.mk hk; have HT3 := Aside0.mk ((below_alloc (Below.refl w2.heap.size w2) _).trans ht.below); clear hk ht x0 x1 y0 y1 xa0 xa1 xn))
  have GB0 := Aside0.mk (HB2.out.trans (HT3.out.mono HB2.out.size))
  have GE0 := Aside0.mk ((HT3.out.block _ (blk_lt HE2.out)).trans HE2.out)
  obtain ⟨v1, v2, hP, hq1, hq2⟩ := HK3.out
  rw [List.nil_append] at hq1 hq2
  have HPE := Aside0.mk (show w.heap.size ≠ w2.heap.size by have := blk_lt HE2.out; omega)
  generalize w2.heap.size = P at hP hq1 hq2 HPE ⊢
  obtain ⟨A1, n1, c1, rfl⟩ : ∃ A n c, v1 = Value.slice A n c := by obtain ⟨A, c, h⟩ := Kd.R_slice hq1; exact ⟨_, _, _, h⟩
  obtain ⟨A2, n2, c2, rfl⟩ : ∃ A n c, v2 = Value.slice A n c := by obtain ⟨A, c, h⟩ := Kd.R_slice hq2; exact ⟨_, _, _, h⟩
  have GP0 := Aside0.mk hP
  have G10 := Aside0.mk hq1
  have G20 := Aside0.mk hq2
  clear hP hq1 hq2 HK3 HT3 HB2 HE2 HX2 hmf
  refine wp_region_noPanic ?_
  refine start_ (n := 11) (S := fun W => W.heap[P]? = some (.cells #[.slice A1 n1 c1, .slice A2 n2 c2] 109 (0, 0))) (ds := [10]) #[false, false, false, false, false, false, false, false, false, false, false] (by kernel_rfl) rfl rfl (blk_drew GP0.out) (fun hHeld => ?_)
  refine with_tabW rg39_8_tab rg39_8_bits (fun HT_ HW_ => ?_)
  have GP := Aside0.mk (blk_drew GP0.out)
  have GE := Aside0.mk (blk_drew GE0.out)
  have GB := Aside0.mk (below_drew1 GB0.out)
  have G1 := Aside0.mk (Kd.R_drew G10.out)
  have G2 := Aside0.mk (Kd.R_drew G20.out)
  clear GP0 GE0 GB0 G10 G20
  generalize w3.drew = w4 at GP GE GB G1 G2 hHeld ⊢
  refine pure_ (i := 0) (N := some 25) (v := ?_) (a' := ?_) #[true, false, false, false, false, false, false, false, false, false, false] rfl rfl (any_of HT_.out (by kernel_rfl)) (fun _ _ _ h => h) (Or.inl ⟨by rfl, ?_⟩) ?_ ?_
  rotate_left
  · intro w'
    go_simp
    with_reducible rfl
  rotate_left
  · simp only [Act.put, List.setIfInBounds_toArray, List.set_cons_zero, List.set_cons_succ, i64_w, i32_w]
    rfl
  refine pure_ (i := 1) (N := some 26) (v := ?_) (a' := ?_) #[true, true, false, false, false, false, false, false, false, false, false] rfl rfl (any_of HT_.out (by kernel_rfl)) (fun _ _ _ h => h) (Or.inl ⟨by rfl, ?_⟩) ?_ ?_
  rotate_left
  · intro w'
    go_simp
    with_reducible rfl
  rotate_left
  · simp only [Act.put, List.setIfInBounds_toArray, List.set_cons_zero, List.set_cons_succ, i64_w, i32_w]
    rfl
  refine pure_ (i := 2) (N := some 27) (v := ?_) (a' := ?_) #[true, true, true, false, false, false, false, false, false, false, false] rfl rfl (any_of HT_.out (by kernel_rfl)) (fun _ _ _ h => h) (Or.inl ⟨by rfl, ?_⟩) ?_ ?_
  rotate_left
  · intro w'
    go_simp
    with_reducible rfl
  rotate_left
  · simp only [Act.put, List.setIfInBounds_toArray, List.set_cons_zero, List.set_cons_succ, i64_w, i32_w]
    rfl
  refine take_ (i := 3) (N := some 28) (v := ?_) (a' := ?_) #[true, true, true, true, false, false, false, false, false, false, false] rfl rfl (take_ofW HT_.out HW_.out (by kernel_rfl)) (fun _ _ _ h => h) (Or.inl ⟨by rfl, ?_⟩) hHeld ?_ ?_
  rotate_left
  · intro w' hW
    have q0 : w'.cell? ⟨P, 0, none⟩ = some (.slice A1 n1 c1) := by rw [blk_cell hW]; rfl
    have q1 : w'.cell? ⟨P, 1, none⟩ = some (.slice A2 n2 c2) := by rw [blk_cell hW]; rfl
    go_simp
    with_reducible rfl
  rotate_left
  · simp only [Act.put, List.setIfInBounds_toArray, List.set_cons_zero, List.set_cons_succ, i64_w, i32_w]
    rfl
  refine pure_ (i := 4) (N := some 29) (v := ?_) (a' := ?_) #[true, true, true, true, true, false, false, false, false, false, false] rfl rfl (any_of HT_.out (by kernel_rfl)) (fun _ _ _ h => h) (Or.inl ⟨by rfl, ?_⟩) ?_ ?_
  rotate_left
  · intro w'
    go_simp
    with_reducible rfl
  rotate_left
  · simp only [Act.put, List.setIfInBounds_toArray, List.set_cons_zero, List.set_cons_succ, i64_w, i32_w]
    rfl
  refine pure_ (i := 5) (N := some 30) (v := ?_) (a' := ?_) #[true, true, true, true, true, true, false, false, false, false, false] rfl rfl (any_of HT_.out (by kernel_rfl)) (fun _ _ _ h => h) (Or.inl ⟨by rfl, ?_⟩) ?_ ?_
  rotate_left
  · intro w'
    go_simp
    with_reducible rfl
  rotate_left
  · simp only [Act.put, List.setIfInBounds_toArray, List.set_cons_zero, List.set_cons_succ, i64_w, i32_w]
    rfl
  refine pure_ (i := 6) (N := some 31) (v := ?_) (a' := ?_) #[true, true, true, true, true, true, true, false, false, false, false] rfl rfl (any_of HT_.out (by kernel_rfl)) (fun _ _ _ h => h) (Or.inl ⟨by rfl, ?_⟩) ?_ ?_
  rotate_left
  · intro w'
    go_simp
    with_reducible rfl
  rotate_left
  · simp only [Act.put, List.setIfInBounds_toArray, List.set_cons_zero, List.set_cons_succ, i64_w, i32_w]
    rfl
  refine take_ (i := 7) (N := some 32) (v := ?_) (a' := ?_) #[true, true, true, true, true, true, true, true, false, false, false] rfl rfl (take_ofW HT_.out HW_.out (by kernel_rfl)) (fun _ _ _ h => h) (Or.inl ⟨by rfl, ?_⟩) hHeld ?_ ?_
  rotate_left
  · intro w' hW
    have q0 : w'.cell? ⟨P, 0, none⟩ = some (.slice A1 n1 c1) := by rw [blk_cell hW]; rfl
    have q1 : w'.cell? ⟨P, 1, none⟩ = some (.slice A2 n2 c2) := by rw [blk_cell hW]; rfl
    go_simp
    with_reducible rfl
  rotate_left
  · simp only [Act.put, List.setIfInBounds_toArray, List.set_cons_zero, List.set_cons_succ, i64_w, i32_w]
    rfl
  refine pure_ (i := 8) (N := some 4) (v := ?_) (a' := ?_) #[true, true, true, true, true, true, true, true, true, false, false] rfl rfl (any_of HT_.out (by kernel_rfl)) (fun _ _ _ h => h) (Or.inl ⟨by rfl, ?_⟩) ?_ ?_
  rotate_left
  · intro w'
    go_simp
    with_reducible rfl
  rotate_left
  · simp only [Act.put, List.setIfInBounds_toArray, List.set_cons_zero, List.set_cons_succ, i64_w, i32_w]
    rfl
  refine pure_ (i := 9) (N := some 5) (v := ?_) (a' := ?_) #[true, true, true, true, true, true, true, true, true, true, false] rfl rfl (any_of HT_.out (by kernel_rfl)) (fun _ _ _ h => h) (Or.inl ⟨by rfl, ?_⟩) ?_ ?_
  rotate_left
  · intro w'
    go_simp
    with_reducible rfl
  rotate_left
  · simp only [Act.put, List.setIfInBounds_toArray, List.set_cons_zero, List.set_cons_succ, i64_w, i32_w]
    rfl
  refine last_ (i := 10) (N := none) #[true, true, true, true, true, true, true, true, true, true, true] rfl rfl (one_of HT_.out (by kernel_rfl)) (by decide) (fun K hK => ?_)
  have y0 : w4.cell? ⟨w.heap.size, 0, none⟩ = some (.int .i64 0) := by rw [blk_cell GE.out]; rfl
  have y1 := blk_frozen GE.out 0
  refine skip_ (w1 := w4.setCell ⟨w.heap.size, 0, none⟩ (.int .i64 0)) (by rfl) rfl (by go_simp; first | done | rfl) ?_
  refine hK.out _ _ ?_
  clear hK K
  refine done_ (done_of HT_.out (by kernel_rfl)) ?_
  refine NoPanic.normal ?_
  go_wp2_with fail
  have HE7 := Aside0.mk (blk_put GE.out 0 (.int .i64 0) rfl)
  have c1' : (w4.setCell ⟨w.heap.size, 0, none⟩ (.int .i64 0)).cell? ⟨w.heap.size, 0, none⟩ = some (.int .i64 0) := by rw [blk_cell HE7.out]; rfl
  refine leaves_cons (f := 66) (args := #[.pointer (some ⟨w.heap.size, 0, none⟩)]) (by simp) (by simp [go_sem]) ?_
  refine (refused_idle w.heap.size _).mono ?_
  rintro e u' w'' ⟨rfl, rfl, rfl⟩
  have hb4 := GB.out.setCell (p := ⟨w.heap.size, 0, none⟩) (Nat.le_refl _) (.int .i64 0)
  have hr1 := Kd.R_reads' (Kd.R_far (Kd.R_types G1.out GE.out (kN_only (by decide) (by decide))) (fun k hk => hk.2) (p := ⟨w.heap.size, 0, none⟩) (.int .i64 0))
  have hr2 := Kd.R_reads' (Kd.R_far (Kd.R_types G2.out GE.out (str_only (by decide))) (fun k hk => hk.2) (p := ⟨w.heap.size, 0, none⟩) (.int .i64 0))
  generalize w4.setCell ⟨w.heap.size, 0, none⟩ (.int .i64 0) = w7 at hb4 c1' hr1 hr2 ⊢
  simp [Leaves, settle, results, Try.results39, go_sem, c1']
  exact ⟨A1, c1, A2, c2, ⟨⟨rfl, hr1.1, rfl⟩, rfl, hr2.1, rfl⟩, ⟨by rw [← hr1.1]; exact hr1.2.1, hr1.2.2⟩, ⟨by rw [← hr2.1]; exact hr2.2.1, hr2.2.2⟩, hb4⟩
/-- what Pack answers -/
def packR (l : List S77) (level : Int) : (List (List S77) × List ByteArray) × Int :=
  if packable l level = true then (if l.length = 0 then (([], []), 0) else match packO (l.length + 1) l level with | some x => (x, 0) | none => (([], []), 1)) else (([], []), 2)
theorem packs_c (l : List S77) (A : Option Addr) (c : Nat) (level : Int) (w : World) (hr : Kd.C k77 w A l.length l) (hc : l.length ≤ c) (hf : Fine l) (hks : ∀ x ∈ l, x.f0.size ≤ 1000000) :
    Calls Try.prog 39 #[.slice A l.length c, .int .i64 level] w fun e w' => ∃ A1 c1 A2 c2, e = .returned (.tuple #[.slice A1 (packR l level).1.1.length c1, .slice A2 (packR l level).1.2.length c2, .int .i64 (packR l level).2]) ∧ ((packR l level).1.1.length ≤ c1 ∧ kN.C w' A1 (packR l level).1.1.length (packR l level).1.1) ∧ ((packR l level).1.2.length ≤ c2 ∧ Kd.string.C w' A2 (packR l level).1.2.length (packR l level).1.2) ∧ Below w.heap.size w w' := by
  have hnil : ∀ (e : Ending) (w' : World) (k : Int), (e = .returned (.tuple #[.slice none 0 0, .slice none 0 0, .int .i64 k]) ∧ Below w.heap.size w w') → ∃ A1 c1 A2 c2, e = .returned (.tuple #[.slice A1 ([] : List (List S77)).length c1, .slice A2 ([] : List ByteArray).length c2, .int .i64 k]) ∧ (([] : List (List S77)).length ≤ c1 ∧ kN.C w' A1 ([] : List (List S77)).length []) ∧ (([] : List ByteArray).length ≤ c2 ∧ Kd.string.C w' A2 ([] : List ByteArray).length []) ∧ Below w.heap.size w w' := by
    rintro e w' k ⟨rfl, hb⟩
    exact ⟨none, 0, none, 0, rfl, ⟨Nat.le_refl _, Kd.C_nil _ _⟩, ⟨Nat.le_refl _, Kd.C_nil _ _⟩, hb⟩
  cases hp : packable l level with
  | false =>
    rw [show packR l level = (([], []), 2) by simp [packR, hp]]
    exact (packs_bad l A c level w hr hc hf hp).mono (fun e w' h => hnil e w' 2 h)
  | true =>
    by_cases h0 : l.length = 0
    · rw [show packR l level = (([], []), 0) by simp [packR, hp, h0]]
      exact (packs_nil l A c level w hr hc hf hp h0).mono (fun e w' h => hnil e w' 0 h)
    · cases ho : packO (l.length + 1) l level with
      | none =>
        rw [show packR l level = (([], []), 1) by unfold packR; rw [if_pos hp, if_neg h0, ho]]
        exact (packs_no l A c level w hr hc hf hks hp (by omega) ho).mono (fun e w' h => hnil e w' 1 h)
      | some x =>
        rw [show packR l level = (x, 0) by unfold packR; rw [if_pos hp, if_neg h0, ho]]
        exact packs_yes l A c level w hr hc hf hks hp (by omega) x ho
end Go.Proofs.Ytalncokpbgbccaa.E

-- Printed by this session's wip/tools/oracle.py, which runs the kit's print program; Lean checks it.
namespace Go.Proofs.Ytalncokpbgbccaa.E
open Go.RowKit Go.Proofs.YtalncokpbgbccaaW.PrintWords Go.Proofs.YtalncokpbgbccaaW.PrintLast Go.Proofs.YtalncokpbgbccaaW.PrintMore
attribute [local go_sem] max2_int min2_int max_two min_two max_three min_three max_four min_four   -- for this text's walks alone
set_option linter.unusedVariables false
set_option linter.unusedSimpArgs false

/-! ### understorylaw06_few: function 14 -/
mutual
def understorylaw06_few.l0 : Nat → List (List (S77)) → Int → Option (Bool)
  | 0, _, _ => none
  | k + 1, x0, x3 => if x3 < (x0.length : Int) then (if 0 ≤ x3 then (if ((rd_L5 x0 x3).length : Int) > 100 then (some false) else (understorylaw06_few.l1 k x0 x3 0)) else (none)) else (some true)
def understorylaw06_few.l1 : Nat → List (List (S77)) → Int → Int → Option (Bool)
  | 0, _, _, _ => none
  | k + 1, x0, x3, x4 => if 0 ≤ x3 then (if x3 < (x0.length : Int) then (if x4 < ((rd_L5 x0 x3).length : Int) then (if 0 ≤ x4 then (if (((rd_T77 (rd_L5 x0 x3) x4).f0).size : Int) > 100 then (some false) else (if (((rd_T77 (rd_L5 x0 x3) x4).f1).size : Int) > 200 then (some false) else (understorylaw06_few.l1 k x0 x3 (wrap64 (x4 + 1))))) else (none)) else (understorylaw06_few.l0 k x0 (wrap64 (x3 + 1)))) else (none)) else (none)
end
def understorylaw06_few.f (k : Nat) (l0 : List (List (S77))) : Option (Bool) := understorylaw06_few.l0 k l0 0
theorem understorylaw06_few.mono_l : ∀ k, (∀ y0 y1, LeO (understorylaw06_few.l0 k y0 y1) (understorylaw06_few.l0 (k + 1) y0 y1)) ∧ (∀ y0 y1 y2, LeO (understorylaw06_few.l1 k y0 y1 y2) (understorylaw06_few.l1 (k + 1) y0 y1 y2))
  | 0 => ⟨fun _ _ r h => by simp [understorylaw06_few.l0] at h, fun _ _ _ r h => by simp [understorylaw06_few.l1] at h⟩
  | k + 1 => by
    obtain ⟨ih0, ih1⟩ := understorylaw06_few.mono_l k
    refine ⟨?_, ?_⟩
    · intro y0 y1
      unfold understorylaw06_few.l0
      repeat' first
      | (with_reducible exact ih0 _ _)
      | (with_reducible exact ih1 _ _ _)
      | (with_reducible exact LeO.refl _)
      | (with_reducible exact LeO.none _)
      | (with_reducible refine LeO.ite ?_ ?_)
      | (with_reducible refine LeO.bind ?_ (fun _ => ?_))
      | exact ih0 _ _
      | exact ih1 _ _ _
      | exact LeO.none _
      | refine LeO.ite ?_ ?_
      | refine LeO.bind ?_ (fun _ => ?_)
    · intro y0 y1 y2
      unfold understorylaw06_few.l1
      repeat' first
      | (with_reducible exact ih0 _ _)
      | (with_reducible exact ih1 _ _ _)
      | (with_reducible exact LeO.refl _)
      | (with_reducible exact LeO.none _)
      | (with_reducible refine LeO.ite ?_ ?_)
      | (with_reducible refine LeO.bind ?_ (fun _ => ?_))
      | exact ih0 _ _
      | exact ih1 _ _ _
      | exact LeO.none _
      | refine LeO.ite ?_ ?_
      | refine LeO.bind ?_ (fun _ => ?_)
theorem understorylaw06_few.mono : ∀ a0 k, LeO (understorylaw06_few.f k a0) (understorylaw06_few.f (k + 1) a0) := by
  intro a0 k
  obtain ⟨ih0, ih1⟩ := understorylaw06_few.mono_l k
  unfold understorylaw06_few.f
  repeat' first
      | (with_reducible exact ih0 _ _)
      | (with_reducible exact ih1 _ _ _)
      | (with_reducible exact LeO.refl _)
      | (with_reducible exact LeO.none _)
      | (with_reducible refine LeO.ite ?_ ?_)
      | (with_reducible refine LeO.bind ?_ (fun _ => ?_))
      | exact ih0 _ _
      | exact ih1 _ _ _
      | exact LeO.none _
      | refine LeO.ite ?_ ?_
      | refine LeO.bind ?_ (fun _ => ?_)
set_option maxHeartbeats 8000000 in
set_option maxRecDepth 100000 in
theorem understorylaw06_few.calls (k : Nat) (A0 : Option Addr) (c0 : Nat) (l0 : List (List (S77))) (r : Bool) (w : World) (hr0 : Kd.C (Kd.slice 77 k77) w A0 l0.length l0) (hc0 : l0.length ≤ c0) (h : understorylaw06_few.f k l0 = some r) :
    Calls Try.prog 14 #[.slice A0 l0.length c0] w fun e w' => e = .returned (.bool r) ∧ Drawn0 w w' := by
  have HR0 := Aside0.mk hr0
  have HC0 := Aside0.mk hc0
  clear hr0 hc0
  have H : (understorylaw06_few.l0 k l0 0) = some r := h
  clear h
  have H' := Aside0.mk H
  clear H
  go_enter Try.func14, Try.ntmps14
  go_wp2
  go_loopg [3] k (fun kq v3 w' => ∃ (x3_1 : Int), v3 = .int .i64 x3_1 ∧ Aside0 (understorylaw06_few.l0 kq l0 x3_1 = some r) ∧ Aside0 (kq ≤ k) ∧ Drawn0 w w')
  case atStart => exact ⟨(0), (by first | rfl | (simp; done) | (simp [*]; done)), H', ⟨Nat.le_refl _⟩, by repeat (first | exact Drawn0.refl _ | apply Drawn0.step)⟩
  case round =>
    clear H'
    try clear c1
    obtain ⟨x3_1, rfl, HA, HK1, ⟨m1, rfl⟩⟩ := hrel
    cases gk with
    | zero => exact absurd HA.out (by simp [understorylaw06_few.l0])
    | succ k1 =>
      have H := HA.out
      clear HA
      simp only [understorylaw06_few.l0] at H
      by_cases c2 : x3_1 < (l0.length : Int)
      · rw [if_pos c2] at H
        have c2b0 : decide (x3_1 < (l0.length : Int)) = true := decide_eq_true c2
        clear c2
        by_cases c3 : 0 ≤ x3_1
        · rw [if_pos c3] at H
          have c3b0 : decide (0 ≤ x3_1) = true := decide_eq_true c3
          clear c3
          by_cases c4 : ((rd_L5 l0 x3_1).length : Int) > 100
          · rw [if_pos c4] at H
            have c4b0 : decide (100 < ((rd_L5 l0 x3_1).length : Int)) = true := decide_eq_true c4
            have c4b1 : decide (100 < (rd_L5 l0 x3_1).length) = true := decide_eq_true (by omega)
            clear c4
            obtain rfl := Option.some.inj H
            have p132 : 0 ≤ (x3_1 : Int) := of_decide_eq_true (by first | (with_reducible assumption) | assumption)
            have q132 : x3_1 < (l0.length : Int) := of_decide_eq_true (by first | (with_reducible assumption) | assumption)
            obtain ⟨ad132, A132_0, c132_0, e132, hx132_0, hl132_0, hi132_0⟩ := at_L5 HR0.out x3_1 p132 q132
            cases e132
            have HR132_0 := Aside0.mk hi132_0
            have HC132_0 := Aside0.mk hl132_0
            clear hi132_0 hl132_0
            replace p132 := eq_true p132
            replace q132 := eq_true q132
            go_wp2
            go_ret
            exact ⟨by first | rfl | (simp; done) | (simp [*]; done), by repeat (first | exact Drawn0.refl _ | apply Drawn0.step)⟩
          · rw [if_neg c4] at H
            have c4b0 : decide (100 < ((rd_L5 l0 x3_1).length : Int)) = false := decide_eq_false c4
            have c4b1 : decide (100 < (rd_L5 l0 x3_1).length) = false := decide_eq_false (by omega)
            clear c4
            have H' := Aside0.mk H
            clear H
            have p132 : 0 ≤ (x3_1 : Int) := of_decide_eq_true (by first | (with_reducible assumption) | assumption)
            have q132 : x3_1 < (l0.length : Int) := of_decide_eq_true (by first | (with_reducible assumption) | assumption)
            obtain ⟨ad132, A132_0, c132_0, e132, hx132_0, hl132_0, hi132_0⟩ := at_L5 HR0.out x3_1 p132 q132
            cases e132
            have HR132_0 := Aside0.mk hi132_0
            have HC132_0 := Aside0.mk hl132_0
            clear hi132_0 hl132_0
            replace p132 := eq_true p132
            replace q132 := eq_true q132
            go_wp2
            go_loopg [4] k1 (fun kq v4 w' => ∃ (x4_2 : Int), v4 = .int .i64 x4_2 ∧ Aside0 (understorylaw06_few.l1 kq l0 x3_1 x4_2 = some r) ∧ Aside0 (kq ≤ k1) ∧ Drawn0 w w')
            case atStart => exact ⟨(0), (by first | rfl | (simp; done) | (simp [*]; done)), H', ⟨Nat.le_refl _⟩, by repeat (first | exact Drawn0.refl _ | apply Drawn0.step)⟩
            case round =>
              clear H'
              try clear c1
              try clear p1
              try clear q1
              try clear hx1
              try clear c2
              try clear c2b0
              try clear p2
              try clear c3
              try clear c3b0
              try clear c4
              try clear c4b0
              try clear c4b1
              try clear hx132_0
              try clear p132
              try clear q132
              obtain ⟨x4_2, rfl, HA, HK2, ⟨m2, rfl⟩⟩ := hrel
              cases gk with
              | zero => exact absurd HA.out (by simp [understorylaw06_few.l1])
              | succ k2 =>
                have H := HA.out
                clear HA
                simp only [understorylaw06_few.l1] at H
                by_cases c5 : 0 ≤ x3_1
                · rw [if_pos c5] at H
                  have c5b0 : decide (0 ≤ x3_1) = true := decide_eq_true c5
                  clear c5
                  by_cases c6 : x3_1 < (l0.length : Int)
                  · rw [if_pos c6] at H
                    have c6b0 : decide (x3_1 < (l0.length : Int)) = true := decide_eq_true c6
                    clear c6
                    by_cases c7 : x4_2 < ((rd_L5 l0 x3_1).length : Int)
                    · rw [if_pos c7] at H
                      have c7b0 : decide (x4_2 < ((rd_L5 l0 x3_1).length : Int)) = true := decide_eq_true c7
                      clear c7
                      by_cases c8 : 0 ≤ x4_2
                      · rw [if_pos c8] at H
                        have c8b0 : decide (0 ≤ x4_2) = true := decide_eq_true c8
                        clear c8
                        by_cases c9 : (((rd_T77 (rd_L5 l0 x3_1) x4_2).f0).size : Int) > 100
                        · rw [if_pos c9] at H
                          have c9b0 : decide (100 < (((rd_T77 (rd_L5 l0 x3_1) x4_2).f0).size : Int)) = true := decide_eq_true c9
                          have c9b1 : decide (100 < ((rd_T77 (rd_L5 l0 x3_1) x4_2).f0).size) = true := decide_eq_true (by omega)
                          clear c9
                          obtain rfl := Option.some.inj H
                          have p133 : 0 ≤ (x3_1 : Int) := of_decide_eq_true (by first | (with_reducible assumption) | assumption)
                          have q133 : x3_1 < (l0.length : Int) := of_decide_eq_true (by first | (with_reducible assumption) | assumption)
                          obtain ⟨ad133, A133_0, c133_0, e133, hx133_0, hl133_0, hi133_0⟩ := at_L5 HR0.out x3_1 p133 q133
                          obtain rfl : ad132 = ad133 := (by injection e133)
                          have HR133_0 := Aside0.mk hi133_0
                          have HC133_0 := Aside0.mk hl133_0
                          clear hi133_0 hl133_0
                          replace p133 := eq_true p133
                          replace q133 := eq_true q133
                          have p134 : 0 ≤ (x3_1 : Int) := of_decide_eq_true (by first | (with_reducible assumption) | assumption)
                          have q134 : x3_1 < (l0.length : Int) := of_decide_eq_true (by first | (with_reducible assumption) | assumption)
                          obtain ⟨ad134, A134_0, c134_0, e134, hx134_0, hl134_0, hi134_0⟩ := at_L5 HR0.out x3_1 p134 q134
                          obtain rfl : ad132 = ad134 := (by injection e134)
                          have HR134_0 := Aside0.mk hi134_0
                          have HC134_0 := Aside0.mk hl134_0
                          clear hi134_0 hl134_0
                          replace p134 := eq_true p134
                          replace q134 := eq_true q134
                          have ea_ := Option.some.inj (hx133_0.symm.trans hx134_0)
                          injection ea_ with ea_ en_ ec_
                          subst ea_
                          subst ec_
                          clear en_
                          have p135 : 0 ≤ (x4_2 : Int) := of_decide_eq_true (by first | (with_reducible assumption) | assumption)
                          have q135 : x4_2 < ((rd_L5 l0 x3_1).length : Int) := of_decide_eq_true (by first | (with_reducible assumption) | assumption)
                          obtain ⟨ad135, e135, hx135_0, hx135_1, hx135_2, hx135_3, hx135_4, hx135_5, hx135_6, hx135_7, hx135_8, hx135_9, hx135_10, hx135_11, hx135_12, hx135_13, hx135_14, hx135_15, hx135_16, hx135_17, hx135_18, hx135_19, hx135_20, hx135_21⟩ := at_T77 HR134_0.out x4_2 p135 q135
                          cases e135
                          replace p135 := eq_true p135
                          replace q135 := eq_true q135
                          go_wp2
                          go_ret
                          exact ⟨by first | rfl | (simp; done) | (simp [*]; done), by repeat (first | exact Drawn0.refl _ | apply Drawn0.step)⟩
                        · rw [if_neg c9] at H
                          have c9b0 : decide (100 < (((rd_T77 (rd_L5 l0 x3_1) x4_2).f0).size : Int)) = false := decide_eq_false c9
                          have c9b1 : decide (100 < ((rd_T77 (rd_L5 l0 x3_1) x4_2).f0).size) = false := decide_eq_false (by omega)
                          clear c9
                          by_cases c10 : (((rd_T77 (rd_L5 l0 x3_1) x4_2).f1).size : Int) > 200
                          · rw [if_pos c10] at H
                            have c10b0 : decide (200 < (((rd_T77 (rd_L5 l0 x3_1) x4_2).f1).size : Int)) = true := decide_eq_true c10
                            have c10b1 : decide (200 < ((rd_T77 (rd_L5 l0 x3_1) x4_2).f1).size) = true := decide_eq_true (by omega)
                            clear c10
                            obtain rfl := Option.some.inj H
                            have p133 : 0 ≤ (x3_1 : Int) := of_decide_eq_true (by first | (with_reducible assumption) | assumption)
                            have q133 : x3_1 < (l0.length : Int) := of_decide_eq_true (by first | (with_reducible assumption) | assumption)
                            obtain ⟨ad133, A133_0, c133_0, e133, hx133_0, hl133_0, hi133_0⟩ := at_L5 HR0.out x3_1 p133 q133
                            obtain rfl : ad132 = ad133 := (by injection e133)
                            have HR133_0 := Aside0.mk hi133_0
                            have HC133_0 := Aside0.mk hl133_0
                            clear hi133_0 hl133_0
                            replace p133 := eq_true p133
                            replace q133 := eq_true q133
                            have p134 : 0 ≤ (x3_1 : Int) := of_decide_eq_true (by first | (with_reducible assumption) | assumption)
                            have q134 : x3_1 < (l0.length : Int) := of_decide_eq_true (by first | (with_reducible assumption) | assumption)
                            obtain ⟨ad134, A134_0, c134_0, e134, hx134_0, hl134_0, hi134_0⟩ := at_L5 HR0.out x3_1 p134 q134
                            obtain rfl : ad132 = ad134 := (by injection e134)
                            have HR134_0 := Aside0.mk hi134_0
                            have HC134_0 := Aside0.mk hl134_0
                            clear hi134_0 hl134_0
                            replace p134 := eq_true p134
                            replace q134 := eq_true q134
                            have ea_ := Option.some.inj (hx133_0.symm.trans hx134_0)
                            injection ea_ with ea_ en_ ec_
                            subst ea_
                            subst ec_
                            clear en_
                            have p135 : 0 ≤ (x4_2 : Int) := of_decide_eq_true (by first | (with_reducible assumption) | assumption)
                            have q135 : x4_2 < ((rd_L5 l0 x3_1).length : Int) := of_decide_eq_true (by first | (with_reducible assumption) | assumption)
                            obtain ⟨ad135, e135, hx135_0, hx135_1, hx135_2, hx135_3, hx135_4, hx135_5, hx135_6, hx135_7, hx135_8, hx135_9, hx135_10, hx135_11, hx135_12, hx135_13, hx135_14, hx135_15, hx135_16, hx135_17, hx135_18, hx135_19, hx135_20, hx135_21⟩ := at_T77 HR134_0.out x4_2 p135 q135
                            cases e135
                            replace p135 := eq_true p135
                            replace q135 := eq_true q135
                            have p136 : 0 ≤ (x3_1 : Int) := of_decide_eq_true (by first | (with_reducible assumption) | assumption)
                            have q136 : x3_1 < (l0.length : Int) := of_decide_eq_true (by first | (with_reducible assumption) | assumption)
                            obtain ⟨ad136, A136_0, c136_0, e136, hx136_0, hl136_0, hi136_0⟩ := at_L5 HR0.out x3_1 p136 q136
                            obtain rfl : ad132 = ad136 := (by injection e136)
                            have HR136_0 := Aside0.mk hi136_0
                            have HC136_0 := Aside0.mk hl136_0
                            clear hi136_0 hl136_0
                            replace p136 := eq_true p136
                            replace q136 := eq_true q136
                            have ea_ := Option.some.inj (hx133_0.symm.trans hx136_0)
                            injection ea_ with ea_ en_ ec_
                            subst ea_
                            subst ec_
                            clear en_
                            have p137 : 0 ≤ (x4_2 : Int) := of_decide_eq_true (by first | (with_reducible assumption) | assumption)
                            have q137 : x4_2 < ((rd_L5 l0 x3_1).length : Int) := of_decide_eq_true (by first | (with_reducible assumption) | assumption)
                            obtain ⟨ad137, e137, hx137_0, hx137_1, hx137_2, hx137_3, hx137_4, hx137_5, hx137_6, hx137_7, hx137_8, hx137_9, hx137_10, hx137_11, hx137_12, hx137_13, hx137_14, hx137_15, hx137_16, hx137_17, hx137_18, hx137_19, hx137_20, hx137_21⟩ := at_T77 HR136_0.out x4_2 p137 q137
                            cases e137
                            replace p137 := eq_true p137
                            replace q137 := eq_true q137
                            go_wp2
                            go_ret
                            exact ⟨by first | rfl | (simp; done) | (simp [*]; done), by repeat (first | exact Drawn0.refl _ | apply Drawn0.step)⟩
                          · rw [if_neg c10] at H
                            have c10b0 : decide (200 < (((rd_T77 (rd_L5 l0 x3_1) x4_2).f1).size : Int)) = false := decide_eq_false c10
                            have c10b1 : decide (200 < ((rd_T77 (rd_L5 l0 x3_1) x4_2).f1).size) = false := decide_eq_false (by omega)
                            clear c10
                            have H' := Aside0.mk H
                            clear H
                            have p133 : 0 ≤ (x3_1 : Int) := of_decide_eq_true (by first | (with_reducible assumption) | assumption)
                            have q133 : x3_1 < (l0.length : Int) := of_decide_eq_true (by first | (with_reducible assumption) | assumption)
                            obtain ⟨ad133, A133_0, c133_0, e133, hx133_0, hl133_0, hi133_0⟩ := at_L5 HR0.out x3_1 p133 q133
                            obtain rfl : ad132 = ad133 := (by injection e133)
                            have HR133_0 := Aside0.mk hi133_0
                            have HC133_0 := Aside0.mk hl133_0
                            clear hi133_0 hl133_0
                            replace p133 := eq_true p133
                            replace q133 := eq_true q133
                            have p134 : 0 ≤ (x3_1 : Int) := of_decide_eq_true (by first | (with_reducible assumption) | assumption)
                            have q134 : x3_1 < (l0.length : Int) := of_decide_eq_true (by first | (with_reducible assumption) | assumption)
                            obtain ⟨ad134, A134_0, c134_0, e134, hx134_0, hl134_0, hi134_0⟩ := at_L5 HR0.out x3_1 p134 q134
                            obtain rfl : ad132 = ad134 := (by injection e134)
                            have HR134_0 := Aside0.mk hi134_0
                            have HC134_0 := Aside0.mk hl134_0
                            clear hi134_0 hl134_0
                            replace p134 := eq_true p134
                            replace q134 := eq_true q134
                            have ea_ := Option.some.inj (hx133_0.symm.trans hx134_0)
                            injection ea_ with ea_ en_ ec_
                            subst ea_
                            subst ec_
                            clear en_
                            have p135 : 0 ≤ (x4_2 : Int) := of_decide_eq_true (by first | (with_reducible assumption) | assumption)
                            have q135 : x4_2 < ((rd_L5 l0 x3_1).length : Int) := of_decide_eq_true (by first | (with_reducible assumption) | assumption)
                            obtain ⟨ad135, e135, hx135_0, hx135_1, hx135_2, hx135_3, hx135_4, hx135_5, hx135_6, hx135_7, hx135_8, hx135_9, hx135_10, hx135_11, hx135_12, hx135_13, hx135_14, hx135_15, hx135_16, hx135_17, hx135_18, hx135_19, hx135_20, hx135_21⟩ := at_T77 HR134_0.out x4_2 p135 q135
                            cases e135
                            replace p135 := eq_true p135
                            replace q135 := eq_true q135
                            have p136 : 0 ≤ (x3_1 : Int) := of_decide_eq_true (by first | (with_reducible assumption) | assumption)
                            have q136 : x3_1 < (l0.length : Int) := of_decide_eq_true (by first | (with_reducible assumption) | assumption)
                            obtain ⟨ad136, A136_0, c136_0, e136, hx136_0, hl136_0, hi136_0⟩ := at_L5 HR0.out x3_1 p136 q136
                            obtain rfl : ad132 = ad136 := (by injection e136)
                            have HR136_0 := Aside0.mk hi136_0
                            have HC136_0 := Aside0.mk hl136_0
                            clear hi136_0 hl136_0
                            replace p136 := eq_true p136
                            replace q136 := eq_true q136
                            have ea_ := Option.some.inj (hx133_0.symm.trans hx136_0)
                            injection ea_ with ea_ en_ ec_
                            subst ea_
                            subst ec_
                            clear en_
                            have p137 : 0 ≤ (x4_2 : Int) := of_decide_eq_true (by first | (with_reducible assumption) | assumption)
                            have q137 : x4_2 < ((rd_L5 l0 x3_1).length : Int) := of_decide_eq_true (by first | (with_reducible assumption) | assumption)
                            obtain ⟨ad137, e137, hx137_0, hx137_1, hx137_2, hx137_3, hx137_4, hx137_5, hx137_6, hx137_7, hx137_8, hx137_9, hx137_10, hx137_11, hx137_12, hx137_13, hx137_14, hx137_15, hx137_16, hx137_17, hx137_18, hx137_19, hx137_20, hx137_21⟩ := at_T77 HR136_0.out x4_2 p137 q137
                            cases e137
                            replace p137 := eq_true p137
                            replace q137 := eq_true q137
                            go_wp2
                            go_roundg k2
                            case measure => have := HK1.out; have := HK2.out; omega
                            case rel => exact ⟨(wrap64 (x4_2 + 1)), (by first | rfl | (simp; done) | (simp [*]; done)), H', ⟨by have := HK1.out; have := HK2.out; omega⟩, by repeat (first | exact Drawn0.refl _ | apply Drawn0.step)⟩
                      · rw [if_neg c8] at H
                        exact absurd H (by simp)
                    · rw [if_neg c7] at H
                      have c7b0 : decide (x4_2 < ((rd_L5 l0 x3_1).length : Int)) = false := decide_eq_false c7
                      clear c7
                      have H' := Aside0.mk H
                      clear H
                      have p133 : 0 ≤ (x3_1 : Int) := of_decide_eq_true (by first | (with_reducible assumption) | assumption)
                      have q133 : x3_1 < (l0.length : Int) := of_decide_eq_true (by first | (with_reducible assumption) | assumption)
                      obtain ⟨ad133, A133_0, c133_0, e133, hx133_0, hl133_0, hi133_0⟩ := at_L5 HR0.out x3_1 p133 q133
                      obtain rfl : ad132 = ad133 := (by injection e133)
                      have HR133_0 := Aside0.mk hi133_0
                      have HC133_0 := Aside0.mk hl133_0
                      clear hi133_0 hl133_0
                      replace p133 := eq_true p133
                      replace q133 := eq_true q133
                      go_wp2
                      go_roundg k2
                      case measure => have := HK1.out; have := HK2.out; omega
                      case rel => exact ⟨(wrap64 (x3_1 + 1)), (by first | rfl | (simp; done) | (simp [*]; done)), H', ⟨by have := HK1.out; have := HK2.out; omega⟩, by repeat (first | exact Drawn0.refl _ | apply Drawn0.step)⟩
                  · rw [if_neg c6] at H
                    exact absurd H (by simp)
                · rw [if_neg c5] at H
                  exact absurd H (by simp)
        · rw [if_neg c3] at H
          exact absurd H (by simp)
      · rw [if_neg c2] at H
        have c2b0 : decide (x3_1 < (l0.length : Int)) = false := decide_eq_false c2
        clear c2
        obtain rfl := Option.some.inj H
        go_wp2
        go_ret
        exact ⟨by first | rfl | (simp; done) | (simp [*]; done), by repeat (first | exact Drawn0.refl _ | apply Drawn0.step)⟩

end Go.Proofs.Ytalncokpbgbccaa.E

