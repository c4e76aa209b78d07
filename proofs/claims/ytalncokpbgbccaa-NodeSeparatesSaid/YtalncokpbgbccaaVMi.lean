-- A slim copy of Mi, written by wip/tools/prune.py.
import Derived.Test.YtalncokpbgbccaaVMh
/- Joined: OC, OD. -/
/- slices.Grow of nothing, slices.Concat of lists of entries. -/
namespace Go.Proofs.Ytalncokpbgbccaa.E
set_option linter.unusedVariables false
set_option linter.unusedSimpArgs false
open Go.RowKit Go.Proofs.YtalncokpbgbccaaW.PrintWords Go.Proofs.YtalncokpbgbccaaW.PrintLast Go.Proofs.YtalncokpbgbccaaW.PrintMore

set_option maxRecDepth 100000 in
set_option maxHeartbeats 8000000 in
theorem grow_none (w : World) : Calls Try.prog 90 #[.slice none 0 0, .int .i64 0] w fun e w' => e = .returned (.slice none 0 0) ∧ w' = w := by
  go_enter Try.func90, Try.ntmps90
  go_wp2
  go_ret
  exact ⟨rfl, rfl⟩
set_option maxRecDepth 100000 in
set_option maxHeartbeats 8000000 in
theorem grow_some (n : Nat) (hn : 0 < n) (hl : n ≤ 10000000) (w : World) : Calls Try.prog 90 #[.slice none 0 0, .int .i64 n] w fun e w' => ∃ v, e = .returned v ∧ Ow w' w.heap.size v [] ∧ Below w.heap.size w w' := by
  have k1 : decide ((n : Int) > 0) = true := decide_eq_true (by omega)
  have k2 : decide (0 < (n : Int)) = true := decide_eq_true (by omega)
  have k3 : decide (0 < n) = true := decide_eq_true (by omega)
  have hn0 : (0 : Int) ≤ (n : Int) := by omega
  have hnl : (n : Int) ≤ 10000000 := by omega
  have hc0 : ∀ W : World, (Instr.slice 22 (.slice none 0 0) none (some (.int .i64 0)) none).run Try.prog W = .ok (.slice none 0 0) W := fun W => by
    obtain ⟨i77, hi77, hsz⟩ := info77'
    have := cut_to (P := Try.prog) 22 77 .i64 Try.underlying22 hi77 none 0 0 0 (by omega) (by omega) (by omega) W
    simpa using this
  have HL := Aside0.mk hl
  clear hn hl
  go_enter Try.func90, Try.ntmps90
  go_wp2_with (first
    | ((with_reducible refine gate_builtin (b := .append) (xs := #[.tmp 20, .tmp 21]) rfl ?_); at_builtin; refine Kd.R_append_zeros k77 (w0 := w) w.heap.size rfl (.tmp 20) (.tmp 21) 22 3 77 (.agg #[(.string ⟨#[]⟩), (.string ⟨#[]⟩), (.int .i64 0), (.int .i64 0), (.int .i64 0), (.int .i64 0), (.int .u8 0), (.int .u8 0), (.int .u8 0), (.int .u8 0), (.int .u8 0), (.int .u8 0), (.int .u8 0), (.int .u8 0), (.int .u8 0), (.int .u8 0), (.int .u8 0), (.int .u8 0), (.int .u8 0), (.int .u8 0), (.int .u8 0), (.int .u8 0)]) 80 rfl Try.underlying22 Try.underlying3 info77 rfl (by decide) (by omega) (.slice none 0 0) [] z77 n (fun _ => True) rfl rfl ?hz (fun _ _ => trivial) (Kd.R_nil _ _ _ _ _) hn0 (Below.refl _ _) (Nat.le_refl _) ?hb ?_; (case hz => exact k77_mkM _ _ _ z77); (case hb => simp only [List.length_nil, Int.toNat_natCast]; have := HL.out; omega); intro v1 w1 ho hb hg hat; have HO := Aside0.mk ho; have HB := Aside0.mk hb; obtain ⟨A1, n1, c1, rfl⟩ : ∃ A n c, v1 = Value.slice A n c := (by obtain ⟨A, c, h⟩ := Kd.R_slice ho; exact ⟨_, _, _, h⟩); have HN := Aside0.mk (Kd.R_reads' ho); have hc1 := (cut_to (P := Try.prog) 22 77 .i64 Try.underlying22 (Classical.choose_spec info77').1 A1 n1 c1 0 (by omega) (by omega) HN.out.2.1); clear ho hb hg hat))
  go_ret
  exact ⟨_, rfl, by have := Kd.R_take HO.out (m := 0) (Nat.zero_le _); rw [List.take_zero] at this; exact this, HB.out⟩
theorem grow_c (n : Nat) (hl : n ≤ 10000000) (w : World) : Calls Try.prog 90 #[.slice none 0 0, .int .i64 n] w fun e w' => ∃ v, e = .returned v ∧ Ow w' w.heap.size v [] ∧ Below w.heap.size w w' := by
  by_cases h : n = 0
  · subst h
    refine (grow_none w).mono ?_
    rintro e w' ⟨rfl, rfl⟩
    exact ⟨_, rfl, Kd.R_nil _ _ _ _ _, Below.refl _ _⟩
  · exact grow_some n (by omega) hl w
theorem flat_succ (ls : List (List S77)) (k : Nat) (h : k < ls.length) : (ls.take (k + 1)).flatten = (ls.take k).flatten ++ ls.getD k [] := by
  rw [List.take_succ_eq_append_getElem h, List.flatten_append]
  simp [List.getD, h]
theorem flat_bound (ls : List (List S77)) (hlen : ∀ l ∈ ls, l.length ≤ 100000) : ∀ k, k ≤ ls.length → (ls.take k).flatten.length ≤ k * 100000 := by
  intro k
  induction k with
  | zero => intro _; simp
  | succ k ih =>
    intro hk
    rw [flat_succ ls k hk, List.length_append]
    have h1 := ih (by omega)
    have h2 := hlen (ls.getD k []) (by simp [List.getD, show k < ls.length from hk])
    omega
set_option maxRecDepth 100000 in
set_option maxHeartbeats 8000000 in
theorem concat_c (ls : List (List S77)) (A : Option Addr) (c : Nat) (w : World) (hr : kN.C w A ls.length ls) (hk : ls.length ≤ 100) (hlen : ∀ l ∈ ls, l.length ≤ 100000) :
    Calls Try.prog 69 #[.slice A ls.length c] w fun e w' => ∃ v, e = .returned v ∧ Ow w' w.heap.size v ls.flatten ∧ Below w.heap.size w w' := by
  have HFB := Aside0.mk (flat_bound ls hlen)
  have HFS := Aside0.mk (flat_succ ls)
  have HEL := Aside0.mk (fun (k : Nat) (h : k < ls.length) => hlen (ls.getD k []) (by simp [List.getD, h]))
  have HTK := Aside0.mk (show ls.take ls.length = ls from List.take_length)
  have HAT := Aside0.mk (fun (W : World) (hb : Below w.heap.size w W) (k : Nat) (h : k < ls.length) => (at_L5 (Kd.C_below hr hb) (k : Int) (by omega) (by omega)))
  simp only [rd_L5, Int.toNat_natCast] at HAT
  obtain ⟨N, hN⟩ : ∃ N, ls.length = N := ⟨_, rfl⟩
  rw [hN] at HFB HFS HEL HTK HAT hk ⊢
  have hN100 : (N : Int) ≤ 100 := by omega
  have HB0 := Aside0.mk (Below.refl w.heap.size w)
  clear hr hlen hN
  go_enter Try.func69, Try.ntmps69
  go_wp2_with fail
  go_loop [3, 11] (fun s i => ∃ k : Nat, k ≤ N ∧ i = .int .i64 k ∧ s = .int .i64 ((ls.take k).flatten.length : Nat)) (fun _ i => N - (intOf i).toNat)
  case atStart => exact ⟨0, Nat.zero_le _, rfl, rfl⟩
  case round =>
    obtain ⟨k, hkN, rfl, rfl⟩ := hrel
    by_cases hlt : k < N
    · obtain ⟨ad, A0, c0, rfl, hc, hl0, _⟩ := HAT.out w HB0.out k hlt
      have hb1 := HFB.out k hkN
      have hb2 := HEL.out k hlt
      have HS := Aside0.mk (HFS.out k hlt)
      obtain ⟨m, hm⟩ : ∃ m, (ls.take k).flatten.length = m := ⟨_, rfl⟩
      obtain ⟨q, hq⟩ : ∃ q, (ls.getD k []).length = q := ⟨_, rfl⟩
      have HM := Aside0.mk hm
      have HQ := Aside0.mk hq
      rw [hq] at hc hb2 hl0
      rw [hm] at hb1
      simp only [hm]
      clear hm hq
      have hmi : (m : Int) ≤ 10000000 := by omega
      have hqi : (q : Int) ≤ 100000 := by omega
      have hneg : decide ((m : Int) + (q : Int) < 0) = false := decide_eq_false (by omega)
      go_wp2_with fail
      go_round
      case rel => exact ⟨k + 1, by omega, by simp, by rw [HS.out, List.length_append, HM.out, HQ.out]; simp⟩
      case measure => simp [intOf]; omega
    · obtain rfl : k = N := by omega
      have hb1 := HFB.out k hkN
      rw [HTK.out] at hb1
      simp only [HTK.out]
      have HGR := Aside0.mk (grow_c ls.flatten.length (by omega) w)
      clear hb1 hlt hkN
      generalize ls.flatten.length = T at HGR ⊢
      go_wp2_with (go_at_call 90; refine HGR.out.mono ?_; rintro e w2 ⟨v0, rfl, ho, hb⟩; have HO := Aside0.mk ho; have HB := Aside0.mk hb; clear ho hb)
      go_loopw [6, 27] (fun v i wr => ∃ j : Nat, j ≤ k ∧ i = .int .i64 j ∧ Aside0 (Ow wr w.heap.size v (ls.take j).flatten) ∧ Aside0 (Below w.heap.size w wr)) (fun _ i _ => k - (intOf i).toNat)
      case atStart => exact ⟨0, Nat.zero_le _, rfl, HO, HB⟩
      case round =>
        rename_i vv _
        obtain ⟨j, hjk, rfl, HOj, HBj⟩ := hrel
        by_cases hlt : j < k
        · obtain ⟨ad, A0, c0, rfl, hc, hl0, hC⟩ := HAT.out wr HBj.out j hlt
          have HS := Aside0.mk (HFS.out j hlt)
          have HBD := Aside0.mk (HFB.out j hjk)
          have HQL := Aside0.mk (HEL.out j hlt)
          obtain ⟨x, hx⟩ : ∃ x, ls.getD j [] = x := ⟨_, rfl⟩
          rw [hx] at hc hl0 hC HS HQL
          have HC := Aside0.mk hC
          clear hC hx
          go_wp2_with (first
            | ((with_reducible refine gate_builtin (b := .append) (xs := #[.tmp 31, .tmp 32]) rfl ?_); at_builtin; refine Kd.R_append_rows k77 (w0 := w) w.heap.size rfl (.tmp 31) (.tmp 32) 22 77 (.agg #[(.string ⟨#[]⟩), (.string ⟨#[]⟩), (.int .i64 0), (.int .i64 0), (.int .i64 0), (.int .i64 0), (.int .u8 0), (.int .u8 0), (.int .u8 0), (.int .u8 0), (.int .u8 0), (.int .u8 0), (.int .u8 0), (.int .u8 0), (.int .u8 0), (.int .u8 0), (.int .u8 0), (.int .u8 0), (.int .u8 0), (.int .u8 0), (.int .u8 0), (.int .u8 0)]) 80 rfl Try.underlying22 info77 rfl (by decide) (by omega) u6 (ls.take j).flatten x _ _ _ (fun _ => True) (fun _ => False) rfl rfl HOj.out HC.out (fun _ _ h => h) (fun _ h => h.elim) (fun _ _ => trivial) HBj.out HBj.out.size (by have := HBD.out; have := HQL.out; omega) ?_; intro v2 w2 ho hb hg hat; rw [← HS.out] at ho; have HO2 := Aside0.mk ho; have HB2 := Aside0.mk hb; clear ho hb hg hat))
          go_roundw
          case rel => exact ⟨j + 1, by omega, by simp, HO2, HB2⟩
          case measure => simp [intOf]; omega
        · obtain rfl : j = k := by omega
          have HF := Aside0.mk HOj.out
          rw [HTK.out] at HF
          go_wp2
          go_ret
          exact ⟨_, rfl, HF.out, HBj.out⟩
end Go.Proofs.Ytalncokpbgbccaa.E

/- Replace: what it refuses. -/
namespace Go.Proofs.Ytalncokpbgbccaa.E
set_option linter.unusedVariables false
set_option linter.unusedSimpArgs false
open Go.RowKit Go.Proofs.YtalncokpbgbccaaW.PrintWords Go.Proofs.YtalncokpbgbccaaW.PrintLast Go.Proofs.YtalncokpbgbccaaW.PrintMore

attribute [local go_sem] max2_mx max_two
set_option maxRecDepth 100000 in
set_option maxHeartbeats 8000000 in
theorem replace_bad (l ch : List S77) (ss : List ByteArray) (A Ac As : Option Addr) (c cc cs : Nat) (i n : Int) (w : World) (hr : Kd.C k77 w A l.length l) (hf : Fine l) (hcl : ch.length ≤ 1000000) (hsl : ss.length ≤ 1000000) (ho : ordL l 1 = false) :
    Calls Try.prog 35 #[.slice A l.length c, .int .i64 i, .int .i64 n, .slice Ac ch.length cc, .slice As ss.length cs] w fun e w' => e = .returned (.tuple #[.slice none 0 0, .int .i64 2]) ∧ Below w.heap.size w w' := by
  have HOR := Aside0.mk (fun (W : World) (hb : Below w.heap.size w W) => ((ordered_c l A c 1 W (Kd.C_below hr hb) hf.1).mono (fun e w' h => ⟨by have := h.1; rw [ho] at this; exact this, h.2⟩) : Calls Try.prog 21 #[.slice A l.length c, .int .i64 1] W fun e w' => e = .returned (.bool false) ∧ Below W.heap.size W w'))
  have hB0 := Aside0.mk (below_alloc (Below.refl w.heap.size w) (.cells #[.int .i64 0] 28))
  have hE0 := Aside0.mk (blk_new w (.cells #[.int .i64 0] 28))
  clear hr hf ho hcl hsl
  go_enter_defers Try.func35, Try.ntmps35
  go_wp2_with (first
    | (go_at_call 21; refine (HOR.out _ hB0.out).mono ?_; rintro e w2 ⟨rfl, hb⟩; have HBX := Aside0.mk (hB0.out.trans (hb.mono hB0.out.size)); have HEX := Aside0.mk (blk_below hE0.out hb); clear hb)
    | (go_at_call 67; refine (must_no _ _).mono ?_; rintro e w4 ⟨rfl, rfl⟩))
  refine leaves_cons (f := 66) (args := #[.pointer (some ⟨w.heap.size, 0, none⟩)]) (by simp) (by simp [go_sem]) ?_
  refine (refused_panicking w.heap.size 0 2 [] w4 (by rw [blk_cell HEX.out]; rfl) (blk_frozen HEX.out 0)).mono ?_
  rintro e u' w'' ⟨rfl, rfl, rfl⟩
  have hb4 := below_alloc (HBX.out.setCell (p := ⟨w.heap.size, 0, none⟩) (Nat.le_refl _) (.int .i64 2)) (.cells #[.int .i64 2] 123)
  have hb5 : ((w4.setCell ⟨w.heap.size, 0, none⟩ (.int .i64 2)).alloc (.cells #[.int .i64 2] 123)).heap[w.heap.size]? = some (.cells #[.int .i64 2] 28 (0, 0)) := blk_alloc (blk_put HEX.out 0 _ rfl) _
  have c1 : ((w4.setCell ⟨w.heap.size, 0, none⟩ (.int .i64 2)).alloc (.cells #[.int .i64 2] 123)).cell? ⟨w.heap.size, 0, none⟩ = some (.int .i64 2) := by rw [blk_cell hb5]; rfl
  generalize (w4.setCell ⟨w.heap.size, 0, none⟩ (.int .i64 2)).alloc (.cells #[.int .i64 2] 123) = w9 at hb4 c1 ⊢
  simp [Leaves, settle, results, Try.results35, go_sem, c1]
  exact hb4
/-- what Replace asks of its arguments -/
def replOk (l ch : List S77) (ss : List ByteArray) (i n : Int) : Prop := 0 ≤ i ∧ i ≤ l.length ∧ 0 ≤ n ∧ n ≤ l.length - i ∧ (ss.length : Int) = mx 0 ((ch.length : Int) - 1)
set_option maxRecDepth 100000 in
set_option maxHeartbeats 8000000 in
theorem replace_arg (l ch : List S77) (ss : List ByteArray) (A Ac As : Option Addr) (c cc cs : Nat) (i n : Int) (w : World) (hr : Kd.C k77 w A l.length l) (hf : Fine l) (hcl : ch.length ≤ 1000000) (hsl : ss.length ≤ 1000000) (ho : ordL l 1 = true) (hno : ¬ replOk l ch ss i n) :
    Calls Try.prog 35 #[.slice A l.length c, .int .i64 i, .int .i64 n, .slice Ac ch.length cc, .slice As ss.length cs] w fun e w' => e = .returned (.tuple #[.slice none 0 0, .int .i64 1]) ∧ Below w.heap.size w w' := by
  have HOR := Aside0.mk (fun (W : World) (hb : Below w.heap.size w W) => ((ordered_c l A c 1 W (Kd.C_below hr hb) hf.1).mono (fun e w' h => ⟨by have := h.1; rw [ho] at this; exact this, h.2⟩) : Calls Try.prog 21 #[.slice A l.length c, .int .i64 1] W fun e w' => e = .returned (.bool true) ∧ Below W.heap.size W w'))
  have hB0 := Aside0.mk (below_alloc (Below.refl w.heap.size w) (.cells #[.int .i64 0] 28))
  have hE0 := Aside0.mk (blk_new w (.cells #[.int .i64 0] 28))
  have hle : (l.length : Int) ≤ 1000000 := by have := hf.1; omega
  have hcl2 : (ch.length : Int) ≤ 1000000 := by omega
  have hsl2 : (ss.length : Int) ≤ 1000000 := by omega
  unfold replOk at hno
  clear hr hf ho
  by_cases g0 : 0 ≤ i
  case neg =>
    have d0 : decide (i ≥ 0) = false := decide_eq_false (by omega)
    have e0 : decide (0 ≤ i) = false := decide_eq_false (by omega)
    clear hno hcl hsl hcl2 hsl2 g0
    go_enter_defers Try.func35, Try.ntmps35
    go_wp2_with (first
      | (go_at_call 21; refine (HOR.out _ hB0.out).mono ?_; rintro e w2 ⟨rfl, hb⟩; have HBX := Aside0.mk (hB0.out.trans (hb.mono hB0.out.size)); have HEX := Aside0.mk (blk_below hE0.out hb); clear hb)
      | (go_at_call 67; (with_reducible refine (must_yes 2 _).mono ?_); rintro e w3 ⟨rfl, rfl⟩)
      | (go_at_call 67; (with_reducible refine (must_no 1 _).mono ?_); rintro e w4 ⟨rfl, rfl⟩))
    refine leaves_cons (f := 66) (args := #[.pointer (some ⟨w.heap.size, 0, none⟩)]) (by simp) (by simp [go_sem]) ?_
    refine (refused_panicking w.heap.size 0 1 [] w4 (by rw [blk_cell HEX.out]; rfl) (blk_frozen HEX.out 0)).mono ?_
    rintro e u' w'' ⟨rfl, rfl, rfl⟩
    have hb4 := below_alloc (HBX.out.setCell (p := ⟨w.heap.size, 0, none⟩) (Nat.le_refl _) (.int .i64 1)) (.cells #[.int .i64 1] 123)
    have hb5 : ((w4.setCell ⟨w.heap.size, 0, none⟩ (.int .i64 1)).alloc (.cells #[.int .i64 1] 123)).heap[w.heap.size]? = some (.cells #[.int .i64 1] 28 (0, 0)) := blk_alloc (blk_put HEX.out 0 _ rfl) _
    have c1 : ((w4.setCell ⟨w.heap.size, 0, none⟩ (.int .i64 1)).alloc (.cells #[.int .i64 1] 123)).cell? ⟨w.heap.size, 0, none⟩ = some (.int .i64 1) := by rw [blk_cell hb5]; rfl
    generalize (w4.setCell ⟨w.heap.size, 0, none⟩ (.int .i64 1)).alloc (.cells #[.int .i64 1] 123) = w9 at hb4 c1 ⊢
    simp [Leaves, settle, results, Try.results35, go_sem, c1]
    exact hb4
  case pos =>
    by_cases g1 : i ≤ (l.length : Int)
    case neg =>
      have d0 : decide (i ≥ 0) = true := decide_eq_true (by omega)
      have e0 : decide (0 ≤ i) = true := decide_eq_true (by omega)
      have d1 : decide (i ≤ (l.length : Int)) = false := decide_eq_false (by omega)
      clear hno hcl hsl hcl2 hsl2 g0 g1
      go_enter_defers Try.func35, Try.ntmps35
      go_wp2_with (first
        | (go_at_call 21; refine (HOR.out _ hB0.out).mono ?_; rintro e w2 ⟨rfl, hb⟩; have HBX := Aside0.mk (hB0.out.trans (hb.mono hB0.out.size)); have HEX := Aside0.mk (blk_below hE0.out hb); clear hb)
        | (go_at_call 67; (with_reducible refine (must_yes 2 _).mono ?_); rintro e w3 ⟨rfl, rfl⟩)
        | (go_at_call 67; (with_reducible refine (must_no 1 _).mono ?_); rintro e w4 ⟨rfl, rfl⟩))
      refine leaves_cons (f := 66) (args := #[.pointer (some ⟨w.heap.size, 0, none⟩)]) (by simp) (by simp [go_sem]) ?_
      refine (refused_panicking w.heap.size 0 1 [] w4 (by rw [blk_cell HEX.out]; rfl) (blk_frozen HEX.out 0)).mono ?_
      rintro e u' w'' ⟨rfl, rfl, rfl⟩
      have hb4 := below_alloc (HBX.out.setCell (p := ⟨w.heap.size, 0, none⟩) (Nat.le_refl _) (.int .i64 1)) (.cells #[.int .i64 1] 123)
      have hb5 : ((w4.setCell ⟨w.heap.size, 0, none⟩ (.int .i64 1)).alloc (.cells #[.int .i64 1] 123)).heap[w.heap.size]? = some (.cells #[.int .i64 1] 28 (0, 0)) := blk_alloc (blk_put HEX.out 0 _ rfl) _
      have c1 : ((w4.setCell ⟨w.heap.size, 0, none⟩ (.int .i64 1)).alloc (.cells #[.int .i64 1] 123)).cell? ⟨w.heap.size, 0, none⟩ = some (.int .i64 1) := by rw [blk_cell hb5]; rfl
      generalize (w4.setCell ⟨w.heap.size, 0, none⟩ (.int .i64 1)).alloc (.cells #[.int .i64 1] 123) = w9 at hb4 c1 ⊢
      simp [Leaves, settle, results, Try.results35, go_sem, c1]
      exact hb4
    case pos =>
      by_cases g2 : 0 ≤ n
      case neg =>
        have d0 : decide (i ≥ 0) = true := decide_eq_true (by omega)
        have e0 : decide (0 ≤ i) = true := decide_eq_true (by omega)
        have d1 : decide (i ≤ (l.length : Int)) = true := decide_eq_true (by omega)
        have d2 : decide (n ≥ 0) = false := decide_eq_false (by omega)
        have e2 : decide (0 ≤ n) = false := decide_eq_false (by omega)
        clear hno hcl hsl hcl2 hsl2 g0 g1 g2
        go_enter_defers Try.func35, Try.ntmps35
        go_wp2_with (first
          | (go_at_call 21; refine (HOR.out _ hB0.out).mono ?_; rintro e w2 ⟨rfl, hb⟩; have HBX := Aside0.mk (hB0.out.trans (hb.mono hB0.out.size)); have HEX := Aside0.mk (blk_below hE0.out hb); clear hb)
          | (go_at_call 67; (with_reducible refine (must_yes 2 _).mono ?_); rintro e w3 ⟨rfl, rfl⟩)
          | (go_at_call 67; (with_reducible refine (must_no 1 _).mono ?_); rintro e w4 ⟨rfl, rfl⟩))
        refine leaves_cons (f := 66) (args := #[.pointer (some ⟨w.heap.size, 0, none⟩)]) (by simp) (by simp [go_sem]) ?_
        refine (refused_panicking w.heap.size 0 1 [] w4 (by rw [blk_cell HEX.out]; rfl) (blk_frozen HEX.out 0)).mono ?_
        rintro e u' w'' ⟨rfl, rfl, rfl⟩
        have hb4 := below_alloc (HBX.out.setCell (p := ⟨w.heap.size, 0, none⟩) (Nat.le_refl _) (.int .i64 1)) (.cells #[.int .i64 1] 123)
        have hb5 : ((w4.setCell ⟨w.heap.size, 0, none⟩ (.int .i64 1)).alloc (.cells #[.int .i64 1] 123)).heap[w.heap.size]? = some (.cells #[.int .i64 1] 28 (0, 0)) := blk_alloc (blk_put HEX.out 0 _ rfl) _
        have c1 : ((w4.setCell ⟨w.heap.size, 0, none⟩ (.int .i64 1)).alloc (.cells #[.int .i64 1] 123)).cell? ⟨w.heap.size, 0, none⟩ = some (.int .i64 1) := by rw [blk_cell hb5]; rfl
        generalize (w4.setCell ⟨w.heap.size, 0, none⟩ (.int .i64 1)).alloc (.cells #[.int .i64 1] 123) = w9 at hb4 c1 ⊢
        simp [Leaves, settle, results, Try.results35, go_sem, c1]
        exact hb4
      case pos =>
        by_cases g3 : n ≤ (l.length : Int) - i
        case neg =>
          have d0 : decide (i ≥ 0) = true := decide_eq_true (by omega)
          have e0 : decide (0 ≤ i) = true := decide_eq_true (by omega)
          have d1 : decide (i ≤ (l.length : Int)) = true := decide_eq_true (by omega)
          have d2 : decide (n ≥ 0) = true := decide_eq_true (by omega)
          have e2 : decide (0 ≤ n) = true := decide_eq_true (by omega)
          have d3 : decide (n ≤ (l.length : Int) - i) = false := decide_eq_false (by omega)
          have hw : wrap64 ((l.length : Int) - i) = (l.length : Int) - i := w64 _ (by omega) (by omega)
          clear hno hcl hsl hcl2 hsl2 g0 g1 g2 g3
          go_enter_defers Try.func35, Try.ntmps35
          go_wp2_with (first
            | (go_at_call 21; refine (HOR.out _ hB0.out).mono ?_; rintro e w2 ⟨rfl, hb⟩; have HBX := Aside0.mk (hB0.out.trans (hb.mono hB0.out.size)); have HEX := Aside0.mk (blk_below hE0.out hb); clear hb)
            | (go_at_call 67; (with_reducible refine (must_yes 2 _).mono ?_); rintro e w3 ⟨rfl, rfl⟩)
            | (go_at_call 67; (with_reducible refine (must_no 1 _).mono ?_); rintro e w4 ⟨rfl, rfl⟩))
          refine leaves_cons (f := 66) (args := #[.pointer (some ⟨w.heap.size, 0, none⟩)]) (by simp) (by simp [go_sem]) ?_
          refine (refused_panicking w.heap.size 0 1 [] w4 (by rw [blk_cell HEX.out]; rfl) (blk_frozen HEX.out 0)).mono ?_
          rintro e u' w'' ⟨rfl, rfl, rfl⟩
          have hb4 := below_alloc (HBX.out.setCell (p := ⟨w.heap.size, 0, none⟩) (Nat.le_refl _) (.int .i64 1)) (.cells #[.int .i64 1] 123)
          have hb5 : ((w4.setCell ⟨w.heap.size, 0, none⟩ (.int .i64 1)).alloc (.cells #[.int .i64 1] 123)).heap[w.heap.size]? = some (.cells #[.int .i64 1] 28 (0, 0)) := blk_alloc (blk_put HEX.out 0 _ rfl) _
          have c1 : ((w4.setCell ⟨w.heap.size, 0, none⟩ (.int .i64 1)).alloc (.cells #[.int .i64 1] 123)).cell? ⟨w.heap.size, 0, none⟩ = some (.int .i64 1) := by rw [blk_cell hb5]; rfl
          generalize (w4.setCell ⟨w.heap.size, 0, none⟩ (.int .i64 1)).alloc (.cells #[.int .i64 1] 123) = w9 at hb4 c1 ⊢
          simp [Leaves, settle, results, Try.results35, go_sem, c1]
          exact hb4
        case pos =>
          have d0 : decide (i ≥ 0) = true := decide_eq_true (by omega)
          have e0 : decide (0 ≤ i) = true := decide_eq_true (by omega)
          have d1 : decide (i ≤ (l.length : Int)) = true := decide_eq_true (by omega)
          have d2 : decide (n ≥ 0) = true := decide_eq_true (by omega)
          have e2 : decide (0 ≤ n) = true := decide_eq_true (by omega)
          have d3 : decide (n ≤ (l.length : Int) - i) = true := decide_eq_true (by omega)
          have g4 : ¬ (ss.length : Int) = mx 0 ((ch.length : Int) - 1) := fun h => hno ⟨g0, g1, g2, g3, h⟩
          have d5 : ((ss.length : Int) == mx 0 ((ch.length : Int) - 1)) = false := beq_eq_false_iff_ne.mpr g4
          have hw : wrap64 ((l.length : Int) - i) = (l.length : Int) - i := w64 _ (by omega) (by omega)
          clear hno hcl hsl g0 g1 g2 g3 g4
          go_enter_defers Try.func35, Try.ntmps35
          go_wp2_with (first
            | (go_at_call 21; refine (HOR.out _ hB0.out).mono ?_; rintro e w2 ⟨rfl, hb⟩; have HBX := Aside0.mk (hB0.out.trans (hb.mono hB0.out.size)); have HEX := Aside0.mk (blk_below hE0.out hb); clear hb)
            | (go_at_call 67; (with_reducible refine (must_yes 2 _).mono ?_); rintro e w3 ⟨rfl, rfl⟩)
            | (go_at_call 67; (with_reducible refine (must_no 1 _).mono ?_); rintro e w4 ⟨rfl, rfl⟩))
          refine leaves_cons (f := 66) (args := #[.pointer (some ⟨w.heap.size, 0, none⟩)]) (by simp) (by simp [go_sem]) ?_
          refine (refused_panicking w.heap.size 0 1 [] w4 (by rw [blk_cell HEX.out]; rfl) (blk_frozen HEX.out 0)).mono ?_
          rintro e u' w'' ⟨rfl, rfl, rfl⟩
          have hb4 := below_alloc (HBX.out.setCell (p := ⟨w.heap.size, 0, none⟩) (Nat.le_refl _) (.int .i64 1)) (.cells #[.int .i64 1] 123)
          have hb5 : ((w4.setCell ⟨w.heap.size, 0, none⟩ (.int .i64 1)).alloc (.cells #[.int .i64 1] 123)).heap[w.heap.size]? = some (.cells #[.int .i64 1] 28 (0, 0)) := blk_alloc (blk_put HEX.out 0 _ rfl) _
          have c1 : ((w4.setCell ⟨w.heap.size, 0, none⟩ (.int .i64 1)).alloc (.cells #[.int .i64 1] 123)).cell? ⟨w.heap.size, 0, none⟩ = some (.int .i64 1) := by rw [blk_cell hb5]; rfl
          generalize (w4.setCell ⟨w.heap.size, 0, none⟩ (.int .i64 1)).alloc (.cells #[.int .i64 1] 123) = w9 at hb4 c1 ⊢
          simp [Leaves, settle, results, Try.results35, go_sem, c1]
          exact hb4
end Go.Proofs.Ytalncokpbgbccaa.E

