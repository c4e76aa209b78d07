-- A slim copy of Me, written by wip/tools/prune2.py.
import Derived.Defers
import Derived.Laws.Pointers
import Derived.Lib.SliceRun
import Derived.Outline
import Derived.Recover
import Derived.Test.YtalncokpbgbccaaKMd
/- Joined: NO, NP, NQ, NR. -/
/- must, refused; a copy of entries; the weight of a part of a list. -/
namespace Go.Proofs.Ytalncokpbgbccaa.E
set_option linter.unusedVariables false
set_option linter.unusedSimpArgs false
open Go.RowKit Go.Proofs.YtalncokpbgbccaaW.PrintWords Go.Proofs.YtalncokpbgbccaaW.PrintLast Go.Proofs.YtalncokpbgbccaaW.PrintMore

def refV (e : Int) : Value := .iface 123 (.agg #[.int .i64 e])
def refP (e : Int) : List PanicEntry := [{ v := refV e, recovered := false }]
theorem lt_cell {w : World} {g o : Nat} {v : Value} (h : w.cell? ⟨g, o, none⟩ = some v) : g < w.heap.size := by
  apply Decidable.byContradiction
  intro hn
  simp [World.cell?, Array.getElem?_eq_none (Nat.not_lt.mp hn)] at h
theorem must_yes (x : Int) (w : World) : Calls Try.prog 67 #[.bool true, .int .i64 x] w fun e w' => e = .returned (.tuple #[]) ∧ w' = w := by
  go_enter Try.func67, Try.ntmps67
  go_wp2
  go_end0
  exact ⟨rfl, rfl⟩
theorem must_no (x : Int) (w : World) : Calls Try.prog 67 #[.bool false, .int .i64 x] w fun e w' => e = .panicked (refP x) ∧ w' = w := by
  go_enter Try.func67, Try.ntmps67
  go_wp2
  exact ⟨rfl, rfl, rfl⟩
theorem assert_refusal (x : Value) (w : World) : (Instr.typeAssert (.iface 123 x) 20 123 true).run Try.prog w = .ok (.tuple #[x, .bool true]) w := by kernel_rfl
set_option maxRecDepth 100000 in
theorem refused_panicking (g : Nat) (x y : Int) (older : List PanicEntry) (w : World) (hc : w.cell? ⟨g, 0, none⟩ = some (.int .i64 x)) (hz : w.frozen? ⟨g, 0, none⟩ = false) :
    CallsD Try.prog 66 #[.pointer (some ⟨g, 0, none⟩)] (.panicking ({ v := refV y, recovered := false } :: older)) w fun e u' w' =>
      e = .returned (.tuple #[]) ∧ u' = .panicking ({ v := refV y, recovered := true } :: older) ∧ w' = (w.setCell ⟨g, 0, none⟩ (.int .i64 y)).alloc (.cells #[.int .i64 y] 123) := by
  refine callsD_of_wpS Try.func66 rfl fun c₀ cs hu => ?_
  apply wpS_seq
  apply wpS_region
  simp [wpOpsS, go_sem, recoverD, hu, Try.ntmps66, Exit.thenS]
  refine wpS_of_wp ?_
  simp only [refV, Array.replicate_succ, Array.replicate_zero, List.push_toArray, List.append_toArray, List.nil_append, List.cons_append, List.setIfInBounds_toArray, List.set_cons_succ, List.set_cons_zero]
  have ha := assert_refusal
  have hg : g < w.heap.size := lt_cell hc
  have hne : ¬ g = w.heap.size := by omega
  have hne' : ¬ w.heap.size = g := by omega
  go_wp2
  simp [bodyPostS, results, Try.results66]
theorem refused_idle (g : Nat) (w : World) :
    CallsD Try.prog 66 #[.pointer (some ⟨g, 0, none⟩)] .returning w fun e u' w' => e = .returned (.tuple #[]) ∧ u' = .returning ∧ w' = w := by
  refine callsD_of_wpS Try.func66 rfl fun c₀ cs hu => ?_
  apply wpS_seq
  apply wpS_region
  simp [wpOpsS, go_sem, recoverD, hu, Try.ntmps66, Exit.thenS]
  refine wpS_of_wp ?_
  simp only [Array.replicate_succ, Array.replicate_zero, List.push_toArray, List.append_toArray, List.nil_append, List.cons_append, List.setIfInBounds_toArray, List.set_cons_succ, List.set_cons_zero]
  go_wp2
  cases c₀
  simp_all [bodyPostS, results, Try.results66]
/-- a row of entries of the call's own -/
abbrev Ow (w : World) (base : Nat) (v : Value) (xs : List S77) : Prop := Kd.R k77 77 w base (fun _ => True) v xs
theorem ow_below {w w1 : World} {base : Nat} {v : Value} {xs : List S77} (h : Ow w base v xs) (hb : Below w.heap.size w w1) : Ow w1 base v xs := Kd.R_below h hb
set_option maxRecDepth 100000 in
set_option maxHeartbeats 4000000 in
theorem clone_some (l : List S77) (ad : Addr) (c : Nat) (w : World) (hr : Kd.C k77 w (some ad) l.length l) (hlen : l.length ≤ 1000000) :
    Calls Try.prog 68 #[.slice (some ad) l.length c] w fun e w' => ∃ v, e = .returned v ∧ Ow w' w.heap.size v l ∧ Below w.heap.size w w' := by
  have HR := Aside0.mk hr
  clear hr
  have hnil := fun (W : World) (A : Option Addr) (n c : Nat) => Lib.run_eql_slice_nil (P := Try.prog) W 22 77 A n c 0 0 Try.underlying22
  go_enter Try.func68, Try.ntmps68
  go_wp2_with (first
    | ((with_reducible refine gate_dst (N := 5) rfl ?_); refine Kd.R_lit k77 _ 77 ?hg (N := 5) ?hd (xs := ([] : List (S77))) (inner := []) (ok := fun _ => True) (okp := fun _ => True) ?hr ?hp (fun _ hk => hk) trivial (Below.refl _ _) (Nat.le_refl _) (by simp) ?_; (case hd => rfl); (case hg => rfl); (case hr => first | (go_simp; done) | (go_simp; rfl)); (case hp => exact (Reps.none _ _)); intro v1 w1 ho1 hb1 hg_ hnew_; clear hg_ hnew_; have HO1 := Aside0.mk ho1; have HB1 := Aside0.mk hb1; clear ho1 hb1)
    | ((with_reducible refine gate_builtin (b := .append) (xs := #[.tmp 5, .tmp 6]) rfl ?_); at_builtin; refine Kd.R_append_rows k77 (w0 := w) w.heap.size rfl (.tmp 5) (.tmp 6) 22 77 (.agg #[(.string ⟨#[]⟩), (.string ⟨#[]⟩), (.int .i64 0), (.int .i64 0), (.int .i64 0), (.int .i64 0), (.int .u8 0), (.int .u8 0), (.int .u8 0), (.int .u8 0), (.int .u8 0), (.int .u8 0), (.int .u8 0), (.int .u8 0), (.int .u8 0), (.int .u8 0), (.int .u8 0), (.int .u8 0), (.int .u8 0), (.int .u8 0), (.int .u8 0), (.int .u8 0)]) 80 rfl Try.underlying22 info77 rfl (by decide) (by omega) v1 [] l _ _ _ (fun _ => True) (fun _ => False) rfl rfl HO1.out (Kd.C_below HR.out HB1.out) (fun _ _ h => h) (fun _ h => h.elim) (fun _ _ => trivial) HB1.out HB1.out.size (by simp; omega) ?_; intro v2 w2 ho hb hg hat; have HO2 := Aside0.mk ho; have HB2 := Aside0.mk hb; clear ho hb hg hat))
  go_ret
  exact ⟨_, rfl, by first | exact HO2.out | simpa using HO2.out, HB2.out⟩
set_option maxRecDepth 100000 in
set_option maxHeartbeats 4000000 in
theorem clone_none (n c : Nat) (w : World) :
    Calls Try.prog 68 #[.slice none n c] w fun e w' => e = .returned (.slice none 0 0) ∧ w' = w := by
  have hnil := fun (W : World) (A : Option Addr) (n c : Nat) => Lib.run_eql_slice_nil (P := Try.prog) W 22 77 A n c 0 0 Try.underlying22
  go_enter Try.func68, Try.ntmps68
  go_wp2
  go_ret
  exact ⟨rfl, rfl⟩
theorem clone_c (l : List S77) (A : Option Addr) (c : Nat) (w : World) (hr : Kd.C k77 w A l.length l) (hlen : l.length ≤ 1000000) :
    Calls Try.prog 68 #[.slice A l.length c] w fun e w' => ∃ v, e = .returned v ∧ Ow w' w.heap.size v l ∧ Below w.heap.size w w' := by
  cases A with
  | some ad => exact clone_some l ad c w hr hlen
  | none =>
    refine (clone_none l.length c w).mono ?_
    rintro e w' ⟨rfl, rfl⟩
    have h0 : l = [] := by
      cases l with
      | nil => rfl
      | cons x r => obtain ⟨ad, he, _⟩ := hr.2.2 (by simp); cases he
    subst h0
    exact ⟨_, rfl, Kd.R_nil _ _ _ _ _, Below.refl _ _⟩
theorem sz77 : k77.sz = 22 := rfl
def setKey (x : S77) (k : ByteArray) : S77 := { x with f0 := k }
def setVal (x : S77) (k : ByteArray) : S77 := { x with f1 := k }
theorem ow_key {W : World} {base g n cap : Nat} {xs : List S77} (h : Ow W base (.slice (some ⟨g, 0, none⟩) n cap) xs) (i : Nat) (hi : i < n) (k : ByteArray) :
    W.cell? ⟨g, i * 22, none⟩ = some (.string (xs.getD i z77).f0) ∧ W.frozen? ⟨g, i * 22, none⟩ = false ∧ Ow (W.setCell ⟨g, i * 22, none⟩ (.string k)) base (.slice (some ⟨g, 0, none⟩) n cap) (xs.set i (setKey (xs.getD i z77) k)) := by
  obtain ⟨cs, hcl, hM, hcc, hfr⟩ := Kd.R_elem h z77 (i : Int) (by omega) (by omega)
  have hM' := k77_openM hM
  simp only [Int.toNat_natCast, sz77] at hM' hcc hfr
  refine ⟨?_, by simpa using hfr 0, ?_⟩
  · have := hcc 0 (.string (xs.getD i z77).f0) (by rw [hM']; rfl)
    simpa using this
  · have hs := (Kd.R_seg h (i : Int) (by omega) (by omega) (c := cs) (seg := [.string k]) (j := 0) hcl (by simpa [sz77] using hcc) (by rw [sz77]; simp) (x' := setKey (xs.getD i z77) k) (okp := fun k => True ∧ k ≠ g) (by
      have := k77_mkM W base (fun k => True ∧ k ≠ g) (setKey (xs.getD i z77) k)
      rw [hM']
      exact this) (fun _ h => h)).1
    simp only [Int.toNat_natCast, sz77, Nat.add_zero] at hs
    exact hs
theorem ow_val {W : World} {base g n cap : Nat} {xs : List S77} (h : Ow W base (.slice (some ⟨g, 0, none⟩) n cap) xs) (i : Nat) (hi : i < n) (k : ByteArray) :
    W.cell? ⟨g, i * 22 + 1, none⟩ = some (.string (xs.getD i z77).f1) ∧ W.frozen? ⟨g, i * 22 + 1, none⟩ = false ∧ Ow (W.setCell ⟨g, i * 22 + 1, none⟩ (.string k)) base (.slice (some ⟨g, 0, none⟩) n cap) (xs.set i (setVal (xs.getD i z77) k)) := by
  obtain ⟨cs, hcl, hM, hcc, hfr⟩ := Kd.R_elem h z77 (i : Int) (by omega) (by omega)
  have hM' := k77_openM hM
  simp only [Int.toNat_natCast, sz77] at hM' hcc hfr
  refine ⟨?_, by simpa using hfr 1, ?_⟩
  · have := hcc 1 (.string (xs.getD i z77).f1) (by rw [hM']; rfl)
    simpa using this
  · have hs := (Kd.R_seg h (i : Int) (by omega) (by omega) (c := cs) (seg := [.string k]) (j := 1) hcl (by simpa [sz77] using hcc) (by rw [sz77]; simp) (x' := setVal (xs.getD i z77) k) (okp := fun k => True ∧ k ≠ g) (by
      have := k77_mkM W base (fun k => True ∧ k ≠ g) (setVal (xs.getD i z77) k)
      rw [hM']
      exact this) (fun _ h => h)).1
    simp only [Int.toNat_natCast, sz77, Nat.add_zero] at hs
    exact hs
theorem ow_reads {W : World} {base : Nat} {v : Value} {xs : List S77} (h : Ow W base v xs) : ∃ A c, v = .slice A xs.length c ∧ xs.length ≤ c ∧ Kd.C k77 W A xs.length xs := Kd.R_reads h
/-- a part of a list, as the entries of a node of a level -/
def partE (l : List S77) (a b : Nat) : List S77 := (l.take b).drop a
def bare (level : Int) (l : List S77) : List S77 := if level > 0 then (match l with | [] => [] | x :: r => setKey x ⟨#[]⟩ :: r) else l
theorem bare_length (level : Int) (l : List S77) : (bare level l).length = l.length := by
  unfold bare
  split
  · cases l <;> rfl
  · rfl
theorem fine_cut {l : List S77} (h : Fine l) (a b : Nat) : Fine (partE l a b) := by
  refine ⟨?_, fun x hx => h.2 x ?_⟩
  · have := h.1; simp [partE]; omega
  · exact List.mem_of_mem_take (List.mem_of_mem_drop hx)
theorem fine_bare {l : List S77} (h : Fine l) (level : Int) : Fine (bare level l) := by
  unfold bare
  split
  · cases l with
    | nil => exact h
    | cons x r =>
      refine ⟨h.1, fun y hy => ?_⟩
      rcases List.mem_cons.mp hy with rfl | hy
      · exact ⟨by simp [setKey, ByteArray.size], (h.2 x (by simp)).2⟩
      · exact h.2 y (by simp [hy])
  · exact h
theorem C_cut {W : World} {A : Option Addr} {c : Nat} {l : List S77} (h : Kd.C k77 W A l.length l) (hc : l.length ≤ c) (a b : Nat) (hab : a ≤ b) (hb : b ≤ l.length) :
    Kd.C k77 W (if c = a then A else A.map (·.add (a * 22))) (partE l a b).length (partE l a b) := by
  have h1 := C_drop (C_take h hb) hab (c := c) (by omega)
  have h2 : (partE l a b).length = b - a := by simp [partE]; omega
  rw [h2]
  exact h1
end Go.Proofs.Ytalncokpbgbccaa.E

/- The weight of a part of a list: (list).weight. -/
namespace Go.Proofs.Ytalncokpbgbccaa.E
set_option linter.unusedVariables false
set_option linter.unusedSimpArgs false
open Go.RowKit Go.Proofs.YtalncokpbgbccaaW.PrintWords Go.Proofs.YtalncokpbgbccaaW.PrintLast Go.Proofs.YtalncokpbgbccaaW.PrintMore

theorem ow_addr {W : World} {base : Nat} {v : Value} {xs : List S77} (h : Ow W base v xs) (hn : 0 < xs.length) : ∃ g c, v = .slice (some ⟨g, 0, none⟩) xs.length c ∧ base ≤ g ∧ g < W.heap.size := by
  have hb := Kd.R_base h
  have hl := Kd.R_lt h
  obtain ⟨_, inner, ho, hr⟩ := h
  rcases ho.2 with ⟨rfl, h0⟩ | ⟨g, cap, cur, rfl, hg, _⟩
  · omega
  · exact ⟨g, cap, rfl, hg, hl g (by simp [Value.ownBlock])⟩
theorem ow_readsC {W : World} {base n c : Nat} {A : Option Addr} {xs : List S77} (h : Ow W base (.slice A n c) xs) : Kd.C k77 W A n xs := by
  have h2 := Kd.R_reads' h
  rw [h2.1]
  exact h2.2.2
/-- what a function answers that panics where there is no number -/
def WOut (o : Option Int) (e : Ending) : Prop := e = match o with | some n => .returned (.int .i64 n) | none => .panicked (refP 2)
theorem bare_set (level : Int) (hl : level > 0) (p : List S77) (hp : 0 < p.length) : p.set 0 (setKey (p.getD 0 z77) ⟨#[]⟩) = bare level p := by
  cases p with
  | nil => simp at hp
  | cons x r => simp [bare, hl]
theorem bare_no (level : Int) (p : List S77) (h : ¬ (level > 0 ∧ 0 < p.length)) : bare level p = p := by
  unfold bare
  split
  · cases p with
    | nil => rfl
    | cons x r => exact absurd ⟨‹_›, by simp⟩ h
  · rfl
set_option maxRecDepth 100000 in
set_option maxHeartbeats 4000000 in
theorem weight_any (l : List S77) (A : Option Addr) (c a b : Nat) (level : Int) (w : World) (hr : Kd.C k77 w A l.length l) (hc : l.length ≤ c) (hf : Fine l) (hab : a ≤ b) (hb : b ≤ l.length) (o : Option Int) (ho : weightO (bare level (partE l a b)) level = o) :
    Calls Try.prog 91 #[.agg #[.slice A l.length c, .int .i64 level], .int .i64 a, .int .i64 b] w fun e w' => WOut o e ∧ Below w.heap.size w w' := by
  obtain ⟨i77, hi77, hsz⟩ := info77'
  have hcut := cut_mid (P := Try.prog) 22 77 .i64 .i64 Try.underlying22 hi77 22 hsz A l.length c a b (by omega) (by omega) (by omega) hc
  simp only [Int.toNat_natCast] at hcut
  have hpl : b - a = (partE l a b).length := by simp [partE]; omega
  have hp := C_cut hr hc a b hab hb
  have hfp := fine_bare (fine_cut hf a b) level
  have hle : (partE l a b).length ≤ 1000000 := (fine_cut hf a b).1
  rw [hpl] at hcut
  generalize (if c = a then A else A.map (·.add (a * 22))) = A1 at hcut hp
  generalize c - a = c1 at hcut
  generalize partE l a b = p at *
  have HCL := Aside0.mk (fun (W : World) (hb : Below w.heap.size w W) => clone_c p A1 c1 W (Kd.C_below hp hb) hle)
  have HWT := Aside0.mk (fun (W : World) (A2 : Option Addr) (c2 : Nat) (h : Kd.C k77 W A2 (bare level p).length (bare level p)) => weight_c (bare level p) A2 c2 level W h hfp)
  rw [ho, bare_length] at HWT
  have hB0 := Aside0.mk (below_alloc (Below.refl w.heap.size w) (.cells #[.slice A l.length c, .int .i64 level] 103))
  have hC0 := Aside0.mk (show (w.alloc (.cells #[.slice A l.length c, .int .i64 level] 103)).cell? ⟨w.heap.size, 1, none⟩ = some (.int .i64 level) by rw [cell_of_row _ _ _ _ _ _ (heap_alloc_new _ _)]; rfl)
  have hle' : (p.length : Int) ≤ 1000000 := by omega
  by_cases hk : level > 0 ∧ 0 < p.length
  · obtain ⟨hlv, hpos⟩ := hk
    have HBS := Aside0.mk (bare_set level hlv p hpos)
    have k1 : decide (level > 0) = true := decide_eq_true hlv
    have k1' : decide (0 < level) = true := decide_eq_true hlv
    have k2 : decide ((p.length : Int) > 0) = true := decide_eq_true (by omega)
    have k2' : decide (0 < (p.length : Int)) = true := decide_eq_true (by omega)
    have k3 : decide (0 < p.length) = true := decide_eq_true (by omega)
    have HP := Aside0.mk hpos
    have hpi : (0 : Int) < (p.length : Int) := by omega
    clear hr hc hf hab hb ho hp hfp hle hpl hi77 hsz hlv hpos
    cases o with
    | some n =>
      simp only [weightR] at HWT
      go_enter Try.func91, Try.ntmps91
      go_wp2_with (first
        | (go_at_call 68; refine (HCL.out _ hB0.out).mono ?_; rintro e w2 ⟨v, rfl, how, hb2⟩; have HB2 := Aside0.mk (hB0.out.trans (hb2.mono hB0.out.size)); have c0 := (hb2.cell (p := ⟨w.heap.size, 1, none⟩) (by simp)).trans hC0.out; obtain ⟨g, c2, rfl, hg1, hg2⟩ := ow_addr how HP.out; have hk0 := ow_key how 0 HP.out ⟨#[]⟩; rw [Nat.zero_mul, HBS.out] at hk0; obtain ⟨hk1, hk2, hk3⟩ := hk0; have HRD := Aside0.mk (ow_readsC hk3); have hgne : ¬ g = w.heap.size := (by simp at hg1; omega); have hgne' : ¬ w.heap.size = g := (fun h => hgne h.symm); have HLE := Aside0.mk (show w.heap.size ≤ g from (by simp at hg1; omega)); clear how hb2 hk3 hg1 hg2)
        | (go_at_call 59; refine (HWT.out _ _ _ HRD.out).mono ?_; rintro e w3 ⟨rfl, hb3⟩; have HB3 := Aside0.mk ((HB2.out.setCell HLE.out _).trans (hb3.mono (HB2.out.setCell HLE.out _).size)); clear hb3)
        | (go_at_call 67; refine (must_yes _ _).mono ?_; rintro e w4 ⟨rfl, rfl⟩))
      go_ret
      exact ⟨rfl, HB3.out⟩
    | none =>
      simp only [weightR] at HWT
      go_enter Try.func91, Try.ntmps91
      go_wp2_with (first
        | (go_at_call 68; refine (HCL.out _ hB0.out).mono ?_; rintro e w2 ⟨v, rfl, how, hb2⟩; have HB2 := Aside0.mk (hB0.out.trans (hb2.mono hB0.out.size)); have c0 := (hb2.cell (p := ⟨w.heap.size, 1, none⟩) (by simp)).trans hC0.out; obtain ⟨g, c2, rfl, hg1, hg2⟩ := ow_addr how HP.out; have hk0 := ow_key how 0 HP.out ⟨#[]⟩; rw [Nat.zero_mul, HBS.out] at hk0; obtain ⟨hk1, hk2, hk3⟩ := hk0; have HRD := Aside0.mk (ow_readsC hk3); have hgne : ¬ g = w.heap.size := (by simp at hg1; omega); have hgne' : ¬ w.heap.size = g := (fun h => hgne h.symm); have HLE := Aside0.mk (show w.heap.size ≤ g from (by simp at hg1; omega)); clear how hb2 hk3 hg1 hg2)
        | (go_at_call 59; refine (HWT.out _ _ _ HRD.out).mono ?_; rintro e w3 ⟨rfl, hb3⟩; have HB3 := Aside0.mk ((HB2.out.setCell HLE.out _).trans (hb3.mono (HB2.out.setCell HLE.out _).size)); clear hb3)
        | (go_at_call 67; refine (must_no _ _).mono ?_; rintro e w4 ⟨rfl, rfl⟩))
      exact ⟨rfl, rfl, HB3.out⟩
  · have HBS := Aside0.mk (bare_no level p hk)
    rw [HBS.out] at HWT
    clear hr hc hf hab hb ho hp hfp hle hpl hi77 hsz
    by_cases hlv : level > 0
    · have hp0 : p.length = 0 := by
        apply Decidable.byContradiction
        intro h
        exact hk ⟨hlv, by omega⟩
      have k1 : decide (level > 0) = true := decide_eq_true hlv
      have k1' : decide (0 < level) = true := decide_eq_true hlv
      have k2 : decide ((p.length : Int) > 0) = false := decide_eq_false (by omega)
      have k2' : decide (0 < (p.length : Int)) = false := decide_eq_false (by omega)
      have k3 : decide (0 < p.length) = false := decide_eq_false (by omega)
      clear hk hlv hp0
      cases o with
      | some n =>
        simp only [weightR] at HWT
        go_enter Try.func91, Try.ntmps91
        go_wp2_with (first
          | (go_at_call 68; refine (HCL.out _ hB0.out).mono ?_; rintro e w2 ⟨v, rfl, how, hb2⟩; have HB2 := Aside0.mk (hB0.out.trans (hb2.mono hB0.out.size)); have c0 := (hb2.cell (p := ⟨w.heap.size, 1, none⟩) (by simp)).trans hC0.out; obtain ⟨A3, c2, rfl, _, hRD⟩ := ow_reads how; have HRD := Aside0.mk hRD; clear how hb2 hRD)
          | (go_at_call 59; refine (HWT.out _ _ _ HRD.out).mono ?_; rintro e w3 ⟨rfl, hb3⟩; have HB3 := Aside0.mk (HB2.out.trans (hb3.mono HB2.out.size)); clear hb3)
          | (go_at_call 67; refine (must_yes _ _).mono ?_; rintro e w4 ⟨rfl, rfl⟩))
        go_ret
        exact ⟨rfl, HB3.out⟩
      | none =>
        simp only [weightR] at HWT
        go_enter Try.func91, Try.ntmps91
        go_wp2_with (first
          | (go_at_call 68; refine (HCL.out _ hB0.out).mono ?_; rintro e w2 ⟨v, rfl, how, hb2⟩; have HB2 := Aside0.mk (hB0.out.trans (hb2.mono hB0.out.size)); have c0 := (hb2.cell (p := ⟨w.heap.size, 1, none⟩) (by simp)).trans hC0.out; obtain ⟨A3, c2, rfl, _, hRD⟩ := ow_reads how; have HRD := Aside0.mk hRD; clear how hb2 hRD)
          | (go_at_call 59; refine (HWT.out _ _ _ HRD.out).mono ?_; rintro e w3 ⟨rfl, hb3⟩; have HB3 := Aside0.mk (HB2.out.trans (hb3.mono HB2.out.size)); clear hb3)
          | (go_at_call 67; refine (must_no _ _).mono ?_; rintro e w4 ⟨rfl, rfl⟩))
        exact ⟨rfl, rfl, HB3.out⟩
    · have k1 : decide (level > 0) = false := decide_eq_false hlv
      have k1' : decide (0 < level) = false := decide_eq_false hlv
      clear hk hlv
      cases o with
      | some n =>
        simp only [weightR] at HWT
        go_enter Try.func91, Try.ntmps91
        go_wp2_with (first
          | (go_at_call 68; refine (HCL.out _ hB0.out).mono ?_; rintro e w2 ⟨v, rfl, how, hb2⟩; have HB2 := Aside0.mk (hB0.out.trans (hb2.mono hB0.out.size)); have c0 := (hb2.cell (p := ⟨w.heap.size, 1, none⟩) (by simp)).trans hC0.out; obtain ⟨A3, c2, rfl, _, hRD⟩ := ow_reads how; have HRD := Aside0.mk hRD; clear how hb2 hRD)
          | (go_at_call 59; refine (HWT.out _ _ _ HRD.out).mono ?_; rintro e w3 ⟨rfl, hb3⟩; have HB3 := Aside0.mk (HB2.out.trans (hb3.mono HB2.out.size)); clear hb3)
          | (go_at_call 67; refine (must_yes _ _).mono ?_; rintro e w4 ⟨rfl, rfl⟩))
        go_ret
        exact ⟨rfl, HB3.out⟩
      | none =>
        simp only [weightR] at HWT
        go_enter Try.func91, Try.ntmps91
        go_wp2_with (first
          | (go_at_call 68; refine (HCL.out _ hB0.out).mono ?_; rintro e w2 ⟨v, rfl, how, hb2⟩; have HB2 := Aside0.mk (hB0.out.trans (hb2.mono hB0.out.size)); have c0 := (hb2.cell (p := ⟨w.heap.size, 1, none⟩) (by simp)).trans hC0.out; obtain ⟨A3, c2, rfl, _, hRD⟩ := ow_reads how; have HRD := Aside0.mk hRD; clear how hb2 hRD)
          | (go_at_call 59; refine (HWT.out _ _ _ HRD.out).mono ?_; rintro e w3 ⟨rfl, hb3⟩; have HB3 := Aside0.mk (HB2.out.trans (hb3.mono HB2.out.size)); clear hb3)
          | (go_at_call 67; refine (must_no _ _).mono ?_; rintro e w4 ⟨rfl, rfl⟩))
        exact ⟨rfl, rfl, HB3.out⟩
end Go.Proofs.Ytalncokpbgbccaa.E

/- ordered: a list has keys in order, and entries that have a weight. -/
namespace Go.Proofs.Ytalncokpbgbccaa.E
set_option linter.unusedVariables false
set_option linter.unusedSimpArgs false
open Go.RowKit Go.Proofs.YtalncokpbgbccaaW.PrintWords Go.Proofs.YtalncokpbgbccaaW.PrintLast Go.Proofs.YtalncokpbgbccaaW.PrintMore

theorem partE_all (l : List S77) : partE l 0 l.length = l := by simp [partE]
/-- what a function answers that returns nothing, or panics -/
def BOut (b : Bool) (e : Ending) : Prop := e = if b = true then .returned (.tuple #[]) else .panicked (refP 2)
/-- the keys are in order, and each entry has a weight -/
def packable (l : List S77) (level : Int) : Bool := ordL l level && (weightO (bare level l) level).isSome
set_option maxRecDepth 100000 in
set_option maxHeartbeats 4000000 in
theorem ordered_list (l : List S77) (A : Option Addr) (c : Nat) (level : Int) (w : World) (hr : Kd.C k77 w A l.length l) (hc : l.length ≤ c) (hf : Fine l) :
    Calls Try.prog 70 #[.agg #[.slice A l.length c, .int .i64 level]] w fun e w' => BOut (packable l level) e ∧ Below w.heap.size w w' := by
  have hB0 := Aside0.mk (below_alloc (Below.refl w.heap.size w) (.cells #[.slice A l.length c, .int .i64 level] 103))
  have hC0 := Aside0.mk (show (w.alloc (.cells #[.slice A l.length c, .int .i64 level] 103)).cell? ⟨w.heap.size, 0, none⟩ = some (.slice A l.length c) by rw [cell_of_row _ _ _ _ _ _ (heap_alloc_new _ _)]; rfl)
  have hC1 := Aside0.mk (show (w.alloc (.cells #[.slice A l.length c, .int .i64 level] 103)).cell? ⟨w.heap.size, 1, none⟩ = some (.int .i64 level) by rw [cell_of_row _ _ _ _ _ _ (heap_alloc_new _ _)]; rfl)
  have HOR := Aside0.mk (fun (W : World) (hb : Below w.heap.size w W) => ordered_c l A c level W (Kd.C_below hr hb) hf.1)
  have HWT := Aside0.mk (fun (W : World) (hb : Below w.heap.size w W) => weight_any l A c 0 l.length level W (Kd.C_below hr hb) hc hf (Nat.zero_le _) (Nat.le_refl _) (weightO (bare level l) level) (by rw [partE_all]))
  have hle : (l.length : Int) ≤ 1000000 := by have := hf.1; omega
  have HP := Aside0.mk (show packable l level = (ordL l level && (weightO (bare level l) level).isSome) from rfl)
  clear hr hc hf
  generalize packable l level = pk at HP ⊢
  generalize weightO (bare level l) level = o at HP HWT
  cases h : ordL l level with
  | false =>
    rw [h] at HOR HP
    clear h
    go_enter Try.func70, Try.ntmps70
    go_wp2_with (first
      | (go_at_call 21; refine (HOR.out _ hB0.out).mono ?_; rintro e w2 ⟨rfl, hb2⟩; have HB2 := Aside0.mk (hB0.out.trans (hb2.mono hB0.out.size)); have c0 := (hb2.cell (p := ⟨w.heap.size, 0, none⟩) (by simp)).trans hC0.out; have c1 := (hb2.cell (p := ⟨w.heap.size, 1, none⟩) (by simp)).trans hC1.out; clear hb2)
      | (go_at_call 67; refine (must_no _ _).mono ?_; rintro e w4 ⟨rfl, rfl⟩))
    exact ⟨rfl, by rw [HP.out]; rfl, HB2.out⟩
  | true =>
    rw [h] at HOR HP
    clear h
    cases o with
    | none =>
      go_enter Try.func70, Try.ntmps70
      go_wp2_with (first
        | (go_at_call 21; refine (HOR.out _ hB0.out).mono ?_; rintro e w2 ⟨rfl, hb2⟩; have HB2 := Aside0.mk (hB0.out.trans (hb2.mono hB0.out.size)); have c0 := (hb2.cell (p := ⟨w.heap.size, 0, none⟩) (by simp)).trans hC0.out; have c1 := (hb2.cell (p := ⟨w.heap.size, 1, none⟩) (by simp)).trans hC1.out; clear hb2)
        | (go_at_call 67; refine (must_yes _ _).mono ?_; rintro e w4 ⟨rfl, rfl⟩)
        | (go_at_call 91; refine (HWT.out _ HB2.out).mono ?_; rintro e w4 ⟨rfl, hb3⟩; have HB3 := Aside0.mk (HB2.out.trans (hb3.mono HB2.out.size)); clear hb3))
      exact ⟨rfl, by rw [HP.out]; rfl, HB3.out⟩
    | some n =>
      go_enter Try.func70, Try.ntmps70
      go_wp2_with (first
        | (go_at_call 21; refine (HOR.out _ hB0.out).mono ?_; rintro e w2 ⟨rfl, hb2⟩; have HB2 := Aside0.mk (hB0.out.trans (hb2.mono hB0.out.size)); have c0 := (hb2.cell (p := ⟨w.heap.size, 0, none⟩) (by simp)).trans hC0.out; have c1 := (hb2.cell (p := ⟨w.heap.size, 1, none⟩) (by simp)).trans hC1.out; clear hb2)
        | (go_at_call 67; refine (must_yes _ _).mono ?_; rintro e w4 ⟨rfl, rfl⟩)
        | (go_at_call 91; refine (HWT.out _ HB2.out).mono ?_; rintro e w4 ⟨rfl, hb3⟩; have HB3 := Aside0.mk (HB2.out.trans (hb3.mono HB2.out.size)); clear hb3))
      go_end0
      exact ⟨by rw [HP.out]; rfl, HB3.out⟩
end Go.Proofs.Ytalncokpbgbccaa.E

/- divided: a list with the weights of its beginnings. -/
namespace Go.Proofs.Ytalncokpbgbccaa.E
set_option linter.unusedVariables false
set_option linter.unusedSimpArgs false
open Go.RowKit Go.Proofs.YtalncokpbgbccaaW.PrintWords Go.Proofs.YtalncokpbgbccaaW.PrintLast Go.Proofs.YtalncokpbgbccaaW.PrintMore

def rg71_5_T : Bool × List (List Nat × List Nat) := (true, [([], []), ([], []), ([1], [1]), ([2], [2]), ([3], [3]), ([], []), ([], []), ([6], [6]), ([5, 7], [5, 7]), ([8], [8]), ([4, 9, 8], [4, 9]), ([0, 0, 1, 2, 3, 4, 5, 6, 7, 8, 9, 10], [0]), ([11, 0, 1, 2, 3, 4, 5, 6, 7, 8, 9, 10], [11]), ([12, 10, 10, 0, 1, 2, 3, 4, 5, 6, 7, 8, 9, 10], [10, 12])])
def rg71_5_B : List Nat := [0, 0, 2, 6, 14, 0, 0, 64, 224, 480, 1022, 2047, 4095, 8191]
theorem rg71_5_tab : rtab .any (opsOf Try.f71 5) = rg71_5_T := by kernel_rfl
theorem rg71_5_bits : waitsOk rg71_5_T.2 rg71_5_B = true := by kernel_rfl
/-- the weights of the beginnings of a list -/
def aheads (l : List S77) (level : Int) : List Int := (List.range l.length).map fun i => (weightO (bare level (partE l 0 (i + 1))) level).getD 0
theorem aheads_length (l : List S77) (level : Int) : (aheads l level).length = l.length := by simp [aheads]
theorem aheads_snoc (l : List S77) (level n : Int) (k : Nat) (hk : k < l.length) (h : weightO (bare level (partE l 0 (k + 1))) level = some n) : (aheads l level).take (k + 1) = (aheads l level).take k ++ [n] := by
  rw [List.take_succ_eq_append_getElem (by rw [aheads_length]; exact hk)]
  simp [aheads, h]
theorem ints_only {t : Nat} (ht : 3 ≠ t) : ∀ q, q ∈ 3 :: (Kd.int .i64).E → q ≠ t := by
  intro q hq
  rcases List.mem_cons.mp hq with rfl | h
  · exact ht
  · exact absurd (show q ∈ ([] : List Nat) from h) List.not_mem_nil
set_option maxRecDepth 100000 in
set_option maxHeartbeats 4000000 in
theorem divided_c (l : List S77) (A : Option Addr) (c : Nat) (level : Int) (w : World) (hr : Kd.C k77 w A l.length l) (hc : l.length ≤ c) (hf : Fine l) (hw : ∀ i, i < l.length → ∃ n, weightO (bare level (partE l 0 (i + 1))) level = some n) :
    Calls Try.prog 71 #[.agg #[.slice A l.length c, .int .i64 level]] w fun e w' => ∃ D v, e = .returned (.pointer (some ⟨D, 0, none⟩)) ∧ w.heap.size ≤ D ∧ w'.heap[D]? = some (.cells #[.slice A l.length c, .int .i64 level, v] 127 (0, 0)) ∧ Kd.R (Kd.int .i64) 3 w' w.heap.size (fun _ => True) v (aheads l level) ∧ Below w.heap.size w w' := by
  have HWT := Aside0.mk (fun (W : World) (hb : Below w.heap.size w W) (k : Nat) (hk : k < l.length) (o : Option Int) (ho : weightO (bare level (partE l 0 (k + 1))) level = o) => (weight_any l A c 0 (k + 1) level W (Kd.C_below hr hb) hc hf (Nat.zero_le _) hk o ho : Calls Try.prog 91 #[.agg #[.slice A l.length c, .int .i64 level], .int .i64 0, .int .i64 ((k : Int) + 1)] W _))
  have HWE := Aside0.mk hw
  have HSN := Aside0.mk (aheads_snoc l level)
  have HLN := Aside0.mk (aheads_length l level)
  have hle : (l.length : Int) ≤ 1000000 := by have := hf.1; omega
  have hle2 : l.length ≤ 1000000 := hf.1
  have hB0 : Below w.heap.size w (w.alloc (.cells #[.slice A l.length c, .int .i64 level] 103)) := below_alloc (Below.refl w.heap.size w) _
  have HB1 := Aside0.mk (below_alloc hB0 (.cells #[.slice A l.length c, .int .i64 level, .slice none 0 0] 127))
  have HBb := Aside0.mk (blk_alloc (blk_new w (.cells #[.slice A l.length c, .int .i64 level] 103)) (.cells #[.slice A l.length c, .int .i64 level, .slice none 0 0] 127))
  have HDb : ((w.alloc (.cells #[.slice A l.length c, .int .i64 level] 103)).alloc (.cells #[.slice A l.length c, .int .i64 level, .slice none 0 0] 127)).heap[w.heap.size + 1]? = some (.cells #[.slice A l.length c, .int .i64 level, .slice none 0 0] 127 (0, 0)) := by
    have := blk_new (w.alloc (.cells #[.slice A l.length c, .int .i64 level] 103)) (.cells #[.slice A l.length c, .int .i64 level, .slice none 0 0] 127)
    rw [World.size_alloc] at this
    exact this
  have HDa := Aside0.mk HDb
  clear hr hc hf hw hB0 HDb
  go_enter Try.func71, Try.ntmps71
  go_wp2_with fail
  generalize hW0 : (w.alloc (.cells #[.slice A l.length c, .int .i64 level] 103)).alloc (.cells #[.slice A l.length c, .int .i64 level, .slice none 0 0] 127) = W0 at HB1 HBb HDa ⊢
  clear hW0
  obtain ⟨B, hB⟩ : ∃ B, w.heap.size = B := ⟨_, rfl⟩
  obtain ⟨D, hD⟩ : ∃ D, B + 1 = D := ⟨_, rfl⟩
  have hBD : ¬ B = D := by omega
  have hDB : ¬ D = B := by omega
  have HDge := Aside0.mk (show w.heap.size ≤ D by omega)
  have HBQ := Aside0.mk hB
  have HDQ := Aside0.mk hD
  rw [hB, hD] at HDa
  rw [hB] at HBb
  simp only [hB]
  simp only [hD]
  clear hB hD
  go_loopw [11] (fun i wr => ∃ (k : Nat) (v : Value), k ≤ l.length ∧ i = .int .i64 k ∧ Aside0 (wr.heap[B]? = some (.cells #[.slice A l.length c, .int .i64 level] 103 (0, 0))) ∧ Aside0 (wr.heap[D]? = some (.cells #[.slice A l.length c, .int .i64 level, v] 127 (0, 0))) ∧ Aside0 (Kd.R (Kd.int .i64) 3 wr w.heap.size (fun _ => True) v ((aheads l level).take k)) ∧ Aside0 (Below w.heap.size w wr)) (fun i _ => l.length - (intOf i).toNat)
  case atStart => exact ⟨0, .slice none 0 0, Nat.zero_le _, rfl, HBb, HDa, ⟨Kd.R_nil _ _ _ _ _⟩, HB1⟩
  case round =>
    obtain ⟨k, v, hk, rfl, HBr, HDr, HRr, HWr⟩ := hrel
    by_cases hlt : k < l.length
    · obtain ⟨n, hn⟩ := HWE.out k hlt
      have HC := Aside0.mk (fun (W : World) (hb : Below w.heap.size w W) => HWT.out W hb k hlt (some n) hn)
      have HN := Aside0.mk (HSN.out n k hlt hn)
      have hkw : wrap64 ((k : Int) + 1) = (k : Int) + 1 := w64 _ (by omega) (by omega)
      have hkw2 : IntKind.i64.wrap ((k : Int) + 1) = (k : Int) + 1 := i64w _ (by omega) (by omega)
      clear hn
      go_wp2_with fail
      refine start_ (n := 14) (S := fun W => W.heap[B]? = some (.cells #[.slice A l.length c, .int .i64 level] 103 (0, 0)) ∧ W.heap[D]? = some (.cells #[.slice A l.length c, .int .i64 level, v] 127 (0, 0))) (ds := [13]) #[false, false, false, false, false, false, false, false, false, false, false, false, false, false] (by kernel_rfl) rfl rfl (⟨blk_drew HBr.out, blk_drew HDr.out⟩) (fun hHeld => ?_)
      refine with_tabW rg71_5_tab rg71_5_bits (fun HT_ HW_ => ?_)
      have GB := Aside0.mk (blk_drew HBr.out)
      have GD := Aside0.mk (blk_drew HDr.out)
      have GR := Aside0.mk (Kd.R_drew HRr.out)
      have GW := Aside0.mk (below_drew1 HWr.out)
      clear HBr HDr HRr HWr
      generalize wr.drew = w1 at GB GD GR GW hHeld ⊢
      refine pure_ (i := 0) (N := some 14) (v := ?_) (a' := ?_) #[true, false, false, false, false, false, false, false, false, false, false, false, false, false] rfl rfl (any_of HT_.out (by kernel_rfl)) (fun _ _ _ h => h) (Or.inl ⟨by rfl, ?_⟩) ?_ ?_
      rotate_left
      · intro w'
        go_simp
        with_reducible rfl
      rotate_left
      · simp only [Act.put, List.setIfInBounds_toArray, List.set_cons_zero, List.set_cons_succ, i64_w, i32_w]
        rfl
      refine pure_ (i := 1) (N := some 15) (v := ?_) (a' := ?_) #[true, true, false, false, false, false, false, false, false, false, false, false, false, false] rfl rfl (any_of HT_.out (by kernel_rfl)) (fun _ _ _ h => h) (Or.inl ⟨by rfl, ?_⟩) ?_ ?_
      rotate_left
      · intro w'
        go_simp
        with_reducible rfl
      rotate_left
      · simp only [Act.put, List.setIfInBounds_toArray, List.set_cons_zero, List.set_cons_succ, i64_w, i32_w]
        rfl
      refine pure_ (i := 2) (N := some 16) (v := ?_) (a' := ?_) #[true, true, true, false, false, false, false, false, false, false, false, false, false, false] rfl rfl (any_of HT_.out (by kernel_rfl)) (fun _ _ _ h => h) (Or.inl ⟨by rfl, ?_⟩) ?_ ?_
      rotate_left
      · intro w'
        go_simp
        with_reducible rfl
      rotate_left
      · simp only [Act.put, List.setIfInBounds_toArray, List.set_cons_zero, List.set_cons_succ, i64_w, i32_w]
        rfl
      refine pure_ (i := 3) (N := some 17) (v := ?_) (a' := ?_) #[true, true, true, true, false, false, false, false, false, false, false, false, false, false] rfl rfl (any_of HT_.out (by kernel_rfl)) (fun _ _ _ h => h) (Or.inl ⟨by rfl, ?_⟩) ?_ ?_
      rotate_left
      · intro w'
        go_simp
        with_reducible rfl
      rotate_left
      · simp only [Act.put, List.setIfInBounds_toArray, List.set_cons_zero, List.set_cons_succ, i64_w, i32_w]
        rfl
      refine take_ (i := 4) (N := some 18) (v := ?_) (a' := ?_) #[true, true, true, true, true, false, false, false, false, false, false, false, false, false] rfl rfl (take_ofW HT_.out HW_.out (by kernel_rfl)) (fun _ _ _ h => h) (Or.inl ⟨by rfl, ?_⟩) hHeld ?_ ?_
      rotate_left
      · intro w' hW
        have q0 : w'.cell? ⟨B, 0, none⟩ = some (.slice A l.length c) := by rw [blk_cell hW.1]; rfl
        have q1 : w'.cell? ⟨B, 1, none⟩ = some (.int .i64 level) := by rw [blk_cell hW.1]; rfl
        have q2 : w'.cell? ⟨D, 2, none⟩ = some v := by rw [blk_cell hW.2]; rfl
        go_simp
        with_reducible rfl
      rotate_left
      · simp only [Act.put, List.setIfInBounds_toArray, List.set_cons_zero, List.set_cons_succ, i64_w, i32_w]
        rfl
      refine take_ (i := 5) (N := some 19) (v := ?_) (a' := ?_) #[true, true, true, true, true, true, false, false, false, false, false, false, false, false] rfl rfl (take_ofW HT_.out HW_.out (by kernel_rfl)) (fun _ _ _ h => h) (Or.inl ⟨by rfl, ?_⟩) hHeld ?_ ?_
      rotate_left
      · intro w' hW
        have q0 : w'.cell? ⟨B, 0, none⟩ = some (.slice A l.length c) := by rw [blk_cell hW.1]; rfl
        have q1 : w'.cell? ⟨B, 1, none⟩ = some (.int .i64 level) := by rw [blk_cell hW.1]; rfl
        have q2 : w'.cell? ⟨D, 2, none⟩ = some v := by rw [blk_cell hW.2]; rfl
        go_simp
        with_reducible rfl
      rotate_left
      · simp only [Act.put, List.setIfInBounds_toArray, List.set_cons_zero, List.set_cons_succ, i64_w, i32_w]
        rfl
      refine pure_ (i := 6) (N := some 20) (v := ?_) (a' := ?_) #[true, true, true, true, true, true, true, false, false, false, false, false, false, false] rfl rfl (any_of HT_.out (by kernel_rfl)) (fun _ _ _ h => h) (Or.inl ⟨by rfl, ?_⟩) ?_ ?_
      rotate_left
      · intro w'
        go_simp
        with_reducible rfl
      rotate_left
      · simp only [Act.put, List.setIfInBounds_toArray, List.set_cons_zero, List.set_cons_succ, i64_w, i32_w]
        rfl
      refine pure_ (i := 7) (N := some 21) (v := ?_) (a' := ?_) #[true, true, true, true, true, true, true, true, false, false, false, false, false, false] rfl rfl (any_of HT_.out (by kernel_rfl)) (fun _ _ _ h => h) (Or.inl ⟨by rfl, ?_⟩) ?_ ?_
      rotate_left
      · intro w'
        go_simp
        with_reducible rfl
      rotate_left
      · simp only [Act.put, List.setIfInBounds_toArray, List.set_cons_zero, List.set_cons_succ, i64_w, i32_w]
        rfl
      refine one_ (i := 8) (N := some 22) #[true, true, true, true, true, true, true, true, true, false, false, false, false, false] rfl rfl (one_of HT_.out (by kernel_rfl)) (by decide) (fun K hK => ?_)
      refine goes_ Try.func91 (by kernel_rfl) rfl #[.agg #[.slice A l.length c, .int .i64 level], .int .i64 0, .int .i64 ((k : Int) + 1)] (by rfl) rfl rfl (by (try simp only [List.map_toArray, List.map_cons, List.map_nil]); first | done | rfl) ?_
      refine (HC.out _ GW.out).mono ?_
      rintro e w2 ⟨rfl, hb⟩
      refine ⟨_, rfl, ?_⟩
      have GB2 := Aside0.mk (blk_below GB.out hb)
      have GD2 := Aside0.mk (blk_below GD.out hb)
      have GR2 := Aside0.mk (Kd.R_below GR.out hb)
      have GW2 := Aside0.mk (GW.out.trans (hb.mono GW.out.size))
      clear hb GB GD GR GW
      refine hK.out _ _ (⟨GB2.out, GD2.out⟩) (fun hHeld => ?_)
      clear hK K
      refine norm_ (a' := ?_) ?_ ?_
      rotate_left
      · show Act.put _ (some 22) _ = _
        simp only [Act.put, List.setIfInBounds_toArray, List.set_cons_zero, List.set_cons_succ, i64_w, i32_w]
        rfl
      refine one_ (i := 9) (N := some 23) #[true, true, true, true, true, true, true, true, true, true, false, false, false, false] rfl rfl (one_of HT_.out (by kernel_rfl)) (by decide) (fun K hK => ?_)
      refine value_ (w1 := w2.alloc (.cells [.int .i64 n].toArray 3)) (v := .slice (some ⟨w2.heap.size, 0, none⟩) 1 1) (by rfl) rfl (by go_simp; first | done | rfl) ?_
      refine hK.out _ _ ⟨blk_alloc GB2.out _, blk_alloc GD2.out _⟩ (fun hHeld => ?_)
      clear hK K
      refine norm_ (a' := ?_) ?_ ?_
      rotate_left
      · show Act.put _ (some 23) _ = _
        simp only [Act.put, List.setIfInBounds_toArray, List.set_cons_zero, List.set_cons_succ, i64_w, i32_w]
        rfl
      refine one_ (i := 10) (N := some 24) #[true, true, true, true, true, true, true, true, true, true, true, false, false, false] rfl rfl (one_of HT_.out (by kernel_rfl)) (by decide) (fun K hK => ?_)
      refine Kd.R_append_step (Kd.int .i64) (w0 := w) w.heap.size (by rfl) (.tmp 18) (.tmp 23) 112 3 (.int .i64 0) 8 rfl Try.underlying112 info3 rfl (by decide) (by omega) v ((aheads l level).take k) n [.int .i64 n] (fun _ => True) (fun _ => False) rfl rfl rfl (fun _ h => h.elim) (fun _ _ => trivial) GR2.out GW2.out GW2.out.size (by rw [List.length_take, HLN.out]; omega) ?_
      intro v1 w3 ho hb hg hat
      have GB3 := Aside0.mk (blk_grown GB2.out hg (Kd.R_ne GR2.out GB2.out (by decide)))
      have GD3 := Aside0.mk (blk_grown GD2.out hg (Kd.R_ne GR2.out GD2.out (by decide)))
      rw [← HN.out] at ho
      have GR3 := Aside0.mk ho
      have GW3 := Aside0.mk hb
      clear ho hb hg hat GB2 GD2 GR2 GW2
      refine hK.out _ _ ⟨GB3.out, GD3.out⟩ (fun hHeld => ?_)
      clear hK K
      refine norm_ (a' := ?_) ?_ ?_
      rotate_left
      · show Act.put _ (some 24) _ = _
        simp only [Act.put, List.setIfInBounds_toArray, List.set_cons_zero, List.set_cons_succ, i64_w, i32_w]
        rfl
      refine pure_ (i := 11) (N := some 25) (v := ?_) (a' := ?_) #[true, true, true, true, true, true, true, true, true, true, true, true, false, false] rfl rfl (any_of HT_.out (by kernel_rfl)) (fun _ _ _ h => h) (Or.inl ⟨by rfl, ?_⟩) ?_ ?_
      rotate_left
      · intro w'
        go_simp
        with_reducible rfl
      rotate_left
      · simp only [Act.put, List.setIfInBounds_toArray, List.set_cons_zero, List.set_cons_succ, i64_w, i32_w]
        rfl
      refine pure_ (i := 12) (N := some 26) (v := ?_) (a' := ?_) #[true, true, true, true, true, true, true, true, true, true, true, true, true, false] rfl rfl (any_of HT_.out (by kernel_rfl)) (fun _ _ _ h => h) (Or.inl ⟨by rfl, ?_⟩) ?_ ?_
      rotate_left
      · intro w'
        go_simp
        with_reducible rfl
      rotate_left
      · simp only [Act.put, List.setIfInBounds_toArray, List.set_cons_zero, List.set_cons_succ, i64_w, i32_w]
        rfl
      refine last_ (i := 13) (N := none) #[true, true, true, true, true, true, true, true, true, true, true, true, true, true] rfl rfl (one_of HT_.out (by kernel_rfl)) (by decide) (fun K hK => ?_)
      obtain ⟨A9, n9, c9, rfl⟩ : ∃ A n c, v1 = Value.slice A n c := by obtain ⟨A, c, h⟩ := Kd.R_slice GR3.out; exact ⟨_, _, _, h⟩
      have f2 := blk_cell GD3.out 2
      have f3 := blk_frozen GD3.out 2
      refine skip_ (w1 := w3.setCell ⟨D, 2, none⟩ (.slice A9 n9 c9)) (by rfl) rfl (by go_simp; first | done | rfl) ?_
      refine hK.out _ _ ?_
      clear f2 f3
      clear hK K
      refine done_ (done_of HT_.out (by kernel_rfl)) ?_
      have GB4 := Aside0.mk (blk_far GB3.out (p := ⟨D, 2, none⟩) hBD (.slice A9 n9 c9))
      have GD4 := Aside0.mk (blk_set GD3.out 2 (.slice A9 n9 c9))
      have GR4 := Aside0.mk (Kd.R_mono (Kd.R_far (Kd.R_types GR3.out GD3.out (ints_only (by decide))) (fun k hk => hk.2) (p := ⟨D, 2, none⟩) (.slice A9 n9 c9)) (fun _ _ => trivial))
      have GW4 := Aside0.mk (GW3.out.setCell (p := ⟨D, 2, none⟩) HDge.out (.slice A9 n9 c9))
      clear GB3 GD3 GR3 GW3
      try go_wp2
      go_roundw
      case rel => exact ⟨k + 1, _, by omega, by simp, GB4, GD4, GR4, GW4⟩
      case measure => simp [intOf]; omega
    · obtain rfl : k = l.length := by omega
      have HRR := Aside0.mk (show Kd.R (Kd.int .i64) 3 wr w.heap.size (fun _ => True) v (aheads l level) by have h := HRr.out; rw [List.take_of_length_le (by rw [HLN.out]; exact Nat.le_refl _)] at h; exact h)
      go_wp2
      go_ret
      exact ⟨D, v, rfl, HDge.out, HDr.out, HRR.out, HWr.out⟩
end Go.Proofs.Ytalncokpbgbccaa.E

