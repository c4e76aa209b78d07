-- A slim copy of NZ, written by wip/tools/prune2.py.
import Derived.Test.YtalncokpbgbccaaKMg
/- pack: a list is packed, and the parts are passed on. -/
namespace Go.Proofs.Ytalncokpbgbccaa.E
set_option linter.unusedVariables false
set_option linter.unusedSimpArgs false
open Go.RowKit Go.Proofs.YtalncokpbgbccaaW.PrintWords Go.Proofs.YtalncokpbgbccaaW.PrintLast Go.Proofs.YtalncokpbgbccaaW.PrintMore

def rg73_4_T : Bool × List (List Nat × List Nat) := (true, [([], []), ([], []), ([1], [1]), ([2, 2], [2]), ([0, 3, 3], [0, 3]), ([4], [4]), ([5], [5]), ([5], [5]), ([5], [5]), ([], []), ([], []), ([9, 6, 4, 0, 1, 2, 3, 4, 5, 6, 9, 10], [6, 9]), ([10, 7, 11, 0, 1, 2, 3, 4, 5, 6, 7, 9, 10, 11], [7, 10]), ([8, 12, 0, 1, 2, 3, 4, 5, 6, 7, 8, 9, 10, 11, 12], [8])])
def rg73_4_B : List Nat := [0, 0, 2, 6, 15, 31, 63, 63, 63, 0, 0, 1663, 3839, 8191]
theorem rg73_4_tab : rtab .any (opsOf Try.f73 4) = rg73_4_T := by kernel_rfl
theorem rg73_4_bits : waitsOk rg73_4_T.2 rg73_4_B = true := by kernel_rfl
theorem memo_ {P : Program} {md : Region.Mode} {ops : Array Oper} {Q : Exit → Act → World → Prop} {S : World → Prop} {ds : List Nat} {n0 : Nat} {l0 : Array Bool} {a0 : Act} {w0 : World}
    (h : ∀ (X : Nat → Array Bool → Act → World → Prop), (∀ n l a w, X n l a w ↔ wpAnyLast P md ops Q S ds n l a w) → X n0 l0 a0 w0) : wpAnyLast P md ops Q S ds n0 l0 a0 w0 := by
  have := h (fun n l a w => wpAnyLast P md ops Q S ds n l a w) (fun _ _ _ _ => Iff.rfl)
  exact this
theorem keys_bare (level : Int) (l : List S77) (h : ∀ x ∈ l, x.f0.size ≤ 1000000) : ∀ x ∈ bare level l, x.f0.size ≤ 1000000 := by
  intro x hx
  unfold bare at hx
  split at hx
  · cases l with
    | nil => cases hx
    | cons y r =>
      rcases List.mem_cons.mp hx with rfl | hx
      · simp [setKey, ByteArray.size]
      · exact h x (by simp [hx])
  · exact h x hx
/-- how packing ends -/
def PackOut (P : Nat) (parts : List (List S77)) (seps : List ByteArray) (o : Option (List (List S77) × List ByteArray)) (w : World) (e : Ending) (w' : World) : Prop :=
  match o with
  | some x => e = .returned (.tuple #[]) ∧ Pk w' P (parts ++ x.1) (seps ++ x.2) ∧ KT P w w'
  | none => e = .panicked (refP 1) ∧ Below P w w'
theorem pk_below {W W2 : World} {P : Nat} {parts : List (List S77)} {seps : List ByteArray} (h : Pk W P parts seps) (hb : Below W.heap.size W W2) : Pk W2 P parts seps := by
  obtain ⟨v1, v2, h1, h2, h3⟩ := h
  exact ⟨v1, v2, blk_below h1 hb, Kd.R_below h2 hb, Kd.R_below h3 hb⟩
theorem pk_lt {W : World} {P : Nat} {parts : List (List S77)} {seps : List ByteArray} (h : Pk W P parts seps) : P < W.heap.size := by
  obtain ⟨v1, v2, h1, _⟩ := h
  exact blk_lt h1
/-- the contract of packing, for lists shorter than f -/
def PackC (level : Int) (P f : Nat) : Prop := ∀ (l : List S77) (A : Option Addr) (n c : Nat) (w : World) (parts : List (List S77)) (seps : List ByteArray), l.length = n → n < f → Kd.F k77 w (Safe P w) A n l → n ≤ c → Fine l → (∀ x ∈ l, x.f0.size ≤ 1000000) → packable l level = true → Pk w P parts seps → parts.length + n ≤ 1000000 → seps.length + n ≤ 1000000 →
  Calls Try.prog 73 #[.agg #[.slice A n c, .int .i64 level], .func (.func 74) #[.pointer (some ⟨P, 0, none⟩)] #[], .func (.func 75) #[.pointer (some ⟨P, 0, none⟩)] #[]] w fun e w' => PackOut P parts seps (packO f l level) w e w'
set_option maxRecDepth 100000 in
set_option maxHeartbeats 8000000 in
theorem pack_fits (level : Int) (P f : Nat) (l : List S77) (A : Option Addr) (n c : Nat) (w : World) (parts : List (List S77)) (seps : List ByteArray) (hn : l.length = n) (hF : Kd.F k77 w (Safe P w) A n l) (hc : n ≤ c) (hf : Fine l) (hp : packable l level = true) (hk : Pk w P parts seps) (hpl : parts.length + n ≤ 1000000)
    (hfit : 6 + wt level (bare level l) ≤ 496) :
    Calls Try.prog 73 #[.agg #[.slice A n c, .int .i64 level], .func (.func 74) #[.pointer (some ⟨P, 0, none⟩)] #[], .func (.func 75) #[.pointer (some ⟨P, 0, none⟩)] #[]] w fun e w' => e = .returned (.tuple #[]) ∧ Pk w' P (parts ++ [l]) seps ∧ KT P w w' := by
  have hr : Kd.C k77 w A n l := Kd.F_now hF
  have HWT := Aside0.mk (fun (W : World) (hb : Below w.heap.size w W) => (by subst hn; exact weight_any l A c 0 l.length level W (Kd.C_below hr hb) hc hf (Nat.zero_le _) (Nat.le_refl _) (some (6 + wt level (bare level l))) (by rw [partE_all]; exact packable_weight hp) : Calls Try.prog 91 #[.agg #[.slice A n c, .int .i64 level], .int .i64 0, .int .i64 n] W fun e w' => WOut (some (6 + wt level (bare level l))) e ∧ Below W.heap.size W w'))
  have hwb := weightO_bound _ level _ (fine_bare hf level) (packable_weight hp)
  generalize 6 + wt level (bare level l) = m at HWT hwb hfit
  have hle : n ≤ 1000000 := by rw [← hn]; exact hf.1
  have HPT := Aside0.mk (fun (W : World) (hb : Below w.heap.size w W) => part_c l A n c level W P parts seps hn (Kd.C_below hr hb) hle (pk_below hk hb) (by omega))
  have hB0 := Aside0.mk (below_alloc (Below.refl w.heap.size w) (.cells #[.slice A n c, .int .i64 level] 103))
  have HBX := Aside0.mk (blk_new w (.cells #[.slice A n c, .int .i64 level] 103))
  have HPW := Aside0.mk (Nat.le_of_lt (pk_lt hk))
  have k1 : decide (m ≤ 496) = true := decide_eq_true hfit
  have hnle : (n : Int) ≤ 1000000 := by omega
  clear hr hn hF hc hf hp hk hpl hfit hwb hle
  go_enter Try.func73, Try.ntmps73
  go_wp2_with (first
    | (go_at_call 91; refine (HWT.out _ hB0.out).mono ?_; rintro e w2 ⟨rfl, hb⟩; have HB2 := Aside0.mk (hB0.out.trans (hb.mono hB0.out.size)); have HX2 := Aside0.mk (blk_below HBX.out hb); have c0 : w2.cell? ⟨w.heap.size, 0, none⟩ = some (.slice A n c) := (by rw [blk_cell HX2.out]; rfl); have c1 : w2.cell? ⟨w.heap.size, 1, none⟩ = some (.int .i64 level) := (by rw [blk_cell HX2.out]; rfl); clear hb)
    | (go_at_call 60; refine (page_Capacity.calls 496 _ rfl).mono ?_; rintro e w3 ⟨rfl, ⟨nd, rfl⟩⟩)
    | (go_at_call 74; refine (HPT.out _ (pw_below_drewN HB2.out _)).mono ?_; rintro e w4 ⟨rfl, hk2, hk3⟩; have HK2 := Aside0.mk hk2; have HK3 := Aside0.mk ((KT.of_below (pw_below_drewN HB2.out _) HPW.out).trans hk3); clear hk2 hk3))
  exact bodyPost_ret (results_none rfl _ _ _) rfl ⟨rfl, HK2.out, HK3.out⟩
set_option maxRecDepth 100000 in
set_option maxHeartbeats 8000000 in
theorem pack_cut (level : Int) (P f : Nat) (IH : PackC level P f) (l : List S77) (A : Option Addr) (n c : Nat) (w : World) (parts : List (List S77)) (seps : List ByteArray) (hn : l.length = n) (hnf : n < f + 1) (hF : Kd.F k77 w (Safe P w) A n l) (hc : n ≤ c) (hf : Fine l) (hks : ∀ x ∈ l, x.f0.size ≤ 1000000) (hp : packable l level = true) (hk : Pk w P parts seps) (hpl : parts.length + n ≤ 1000000) (hsl : seps.length + n ≤ 1000000)
    (hfit : ¬ 6 + wt level (bare level l) ≤ 496) (h2 : 2 ≤ n) :
    Calls Try.prog 73 #[.agg #[.slice A n c, .int .i64 level], .func (.func 74) #[.pointer (some ⟨P, 0, none⟩)] #[], .func (.func 75) #[.pointer (some ⟨P, 0, none⟩)] #[]] w fun e w' => PackOut P parts seps ((packO f (l.take (bestN l level)) level).bind fun x => (packO f (bare level (l.drop (bestN l level))) level).bind fun y => some (x.1 ++ y.1, x.2 ++ [sepF l level (bestN l level)] ++ y.2)) w e w' := by
  have hr : Kd.C k77 w A n l := Kd.F_now hF
  have HWT := Aside0.mk (fun (W : World) (hb : Below w.heap.size w W) => (by subst hn; exact weight_any l A c 0 l.length level W (Kd.C_below hr hb) hc hf (Nat.zero_le _) (Nat.le_refl _) (some (6 + wt level (bare level l))) (by rw [partE_all]; exact packable_weight hp) : Calls Try.prog 91 #[.agg #[.slice A n c, .int .i64 level], .int .i64 0, .int .i64 n] W fun e w' => WOut (some (6 + wt level (bare level l))) e ∧ Below W.heap.size W w'))
  have hwb := weightO_bound _ level _ (fine_bare hf level) (packable_weight hp)
  generalize 6 + wt level (bare level l) = m at HWT hwb hfit
  have hB0 := Aside0.mk (below_alloc (Below.refl w.heap.size w) (.cells #[.slice A n c, .int .i64 level] 103))
  have HBX := Aside0.mk (blk_new w (.cells #[.slice A n c, .int .i64 level] 103))
  have HPW := Aside0.mk (Nat.le_of_lt (pk_lt hk))
  have k1 : decide (m ≤ 496) = false := decide_eq_false hfit
  have k2 : decide ((n : Int) > 1) = true := decide_eq_true (by omega)
  have k2' : decide (1 < (n : Int)) = true := decide_eq_true (by omega)
  have k2'' : decide (1 < n) = true := decide_eq_true (by omega)
  have hle : n ≤ 1000000 := by rw [← hn]; exact hf.1
  have hnle : (n : Int) ≤ 1000000 := by omega
  have HDV := Aside0.mk (fun (W : World) (hb : Below w.heap.size w W) => (by subst hn; exact divided_c l A c level W (Kd.C_below hr hb) hc hf (fun i hi => ⟨_, packable_ahead hp i hi⟩) : Calls Try.prog 71 #[.agg #[.slice A n c, .int .i64 level]] W fun e w' => ∃ D v, e = .returned (.pointer (some ⟨D, 0, none⟩)) ∧ W.heap.size ≤ D ∧ w'.heap[D]? = some (.cells #[.slice A n c, .int .i64 level, v] 127 (0, 0)) ∧ Kd.R (Kd.int .i64) 3 w' W.heap.size (fun _ => True) v (aheads l level) ∧ Below W.heap.size W w'))
  have HBE := Aside0.mk (fun (W : World) (hb : Below w.heap.size w W) (D : Nat) (av : Addr) (cv : Nat) (hD : W.heap[D]? = some (.cells #[.slice A n c, .int .i64 level, .slice (some av) n cv] 127 (0, 0))) (ha : (Kd.int .i64).C W (some av) n (aheads l level)) => (by subst hn; have h := best_c l A c level W D av cv (Kd.C_below hr hb) hc hf h2 (packable_level hp) hD ha (packable_ahOk hp hf); rw [(bestN_spec l level h2).1] at h; exact h : Calls Try.prog 72 #[.pointer (some ⟨D, 0, none⟩)] W fun e w' => e = .returned (.int .i64 (bestN l level)) ∧ Below W.heap.size W w'))
  have hbr := bestN_spec l level (by omega)
  have HAT := Aside0.mk (fun (W : World) (hb : Below w.heap.size w W) => (by subst hn; exact at_c l A c level W (Kd.C_below hr hb) hc hf (bestN l level) hbr.2.1 hbr.2.2 _ (sepF_is hp hf hks _ hbr.2.1 hbr.2.2) : Calls Try.prog 93 #[.agg #[.slice A n c, .int .i64 level], .int .i64 (bestN l level)] W fun e w' => ∃ v, e = .returned (.tuple #[.agg #[.slice A (bestN l level) (bestN l level), .int .i64 level], .agg #[v, .int .i64 level], .string (sepF l level (bestN l level))]) ∧ Ow w' W.heap.size v (bare level (l.drop (bestN l level))) ∧ Below W.heap.size W w'))
  have HLA := Aside0.mk (show (aheads l level).length = n by rw [aheads_length, hn])
  have HPK := Aside0.mk (fun (W : World) (hb : Below w.heap.size w W) => pk_below hk hb)
  have HN := Aside0.mk hn
  have HNF := Aside0.mk hnf
  have HF := Aside0.mk hF
  have HFI := Aside0.mk hf
  have HKS := Aside0.mk hks
  have HPA := Aside0.mk hp
  have HPL := Aside0.mk hpl
  have HSL := Aside0.mk hsl
  have HBR := Aside0.mk hbr
  have HIH := Aside0.mk IH
  have H2 := Aside0.mk h2
  clear hr hn hnf hF hc hf hks hp hk hpl hsl hfit hwb hbr h2 IH hle
  go_enter Try.func73, Try.ntmps73
  go_wp2_with (first
    | (go_at_call 91; refine (HWT.out _ hB0.out).mono ?_; rintro e w2 ⟨rfl, hb⟩; have HB2 := Aside0.mk (hB0.out.trans (hb.mono hB0.out.size)); have HX2 := Aside0.mk (blk_below HBX.out hb); have c0 : w2.cell? ⟨w.heap.size, 0, none⟩ = some (.slice A n c) := (by rw [blk_cell HX2.out]; rfl); have c1 : w2.cell? ⟨w.heap.size, 1, none⟩ = some (.int .i64 level) := (by rw [blk_cell HX2.out]; rfl); clear hb)
    | (go_at_call 60; refine (page_Capacity.calls 496 _ rfl).mono ?_; rintro e w3 ⟨rfl, ⟨nd, rfl⟩⟩)
    | (go_at_call 67; refine (must_yes _ _).mono ?_; rintro e w4 ⟨rfl, rfl⟩))
  generalize hW0 : w2.drewN nd = W0
  have GB0 := Aside0.mk (show W0.heap[w.heap.size]? = some (.cells #[.slice A n c, .int .i64 level] 103 (0, 0)) by rw [← hW0]; exact blk_drewN HX2.out nd)
  have GW0 := Aside0.mk (show Below w.heap.size w W0 by rw [← hW0]; exact pw_below_drewN HB2.out nd)
  clear hW0 HB2 HX2 c0 c1 HBX hB0 HWT
  obtain ⟨B, hB⟩ : ∃ B, w.heap.size = B := ⟨_, rfl⟩
  simp only [hB]
  rw [hB] at GB0
  clear hB
  refine start_ (n := 14) (S := fun W => W.heap[B]? = some (.cells #[.slice A n c, .int .i64 level] 103 (0, 0))) (ds := [11, 12]) #[false, false, false, false, false, false, false, false, false, false, false, false, false, false] (by kernel_rfl) rfl rfl (blk_drew GB0.out) (fun hHeld => ?_)
  refine with_tabW rg73_4_tab rg73_4_bits (fun HT_ HW_ => ?_)
  have GB := Aside0.mk (blk_drew GB0.out)
  have GW := Aside0.mk (below_drew1 GW0.out)
  clear GB0 GW0
  generalize W0.drew = w1 at GB GW hHeld ⊢
  refine take_ (i := 0) (N := some 25) (v := ?_) (a' := ?_) #[true, false, false, false, false, false, false, false, false, false, false, false, false, false] rfl rfl (take_ofW HT_.out HW_.out (by kernel_rfl)) (fun _ _ _ h => h) (Or.inl ⟨by rfl, ?_⟩) hHeld ?_ ?_
  rotate_left
  · intro w' hW
    refine load_box _ _ (.tmp 3) ?_ B ?_ _ _ hW <;> rfl
  rotate_left
  · simp only [Act.put, List.setIfInBounds_toArray, List.set_cons_zero, List.set_cons_succ, i64_w, i32_w]
    rfl
  refine take_ (i := 1) (N := some 26) (v := ?_) (a' := ?_) #[true, true, false, false, false, false, false, false, false, false, false, false, false, false] rfl rfl (take_ofW HT_.out HW_.out (by kernel_rfl)) (fun _ _ _ h => h) (Or.inl ⟨by rfl, ?_⟩) hHeld ?_ ?_
  rotate_left
  · intro w' hW
    refine load_box _ _ (.tmp 3) ?_ B ?_ _ _ hW <;> rfl
  rotate_left
  · simp only [Act.put, List.setIfInBounds_toArray, List.set_cons_zero, List.set_cons_succ, i64_w, i32_w]
    rfl
  refine memo_ (fun X hX => ?_)
  have st311 : ∀ (D : Nat) (A5 : Option Addr) (n5 c5 : Nat) (g6 : Nat) (g7 : Nat) (W : World), Aside0 (W.heap[B]? = some (.cells #[.slice A n c, .int .i64 level] 103 (0, 0))) → Aside0 (Below w.heap.size w W) → Aside0 (Ow W w.heap.size (.slice A5 n5 c5) (bare level (l.drop (bestN l level)))) → Aside0 (W.heap[g6]? = some (.cells #[.slice none 0 0, .int .i64 0] 103 (0, 0))) → Aside0 (w.heap.size ≤ g6) → Aside0 (W.heap[g7]? = some (.cells #[.slice none 0 0, .int .i64 0] 103 (0, 0))) → Aside0 (w.heap.size ≤ g7) → Aside0 (¬ g6 = g7) → X 3 #[true, true, true, true, true, true, true, true, true, true, true, false, false, false] { tmps := #[.agg #[.slice A n c, .int .i64 level], .func (.func 74) #[.pointer (some ⟨P, 0, none⟩)] #[], .func (.func 75) #[.pointer (some ⟨P, 0, none⟩)] #[], .pointer (some ⟨B, 0, none⟩), undef, undef, .pointer (some ⟨g6, 0, none⟩), .pointer (some ⟨g7, 0, none⟩), undef, .agg #[.slice A n c, .int .i64 level], .pointer (some ⟨B, 0, none⟩), .slice A n c, .int .i64 n, .int .i64 m, .int .i64 496, .bool false, undef, undef, undef, .pointer (some ⟨B, 0, none⟩), .slice A n c, .int .i64 n, .bool true, .tuple #[], .tuple #[.agg #[.slice A (bestN l level) (bestN l level), .int .i64 level], .agg #[.slice A5 n5 c5, .int .i64 level], .string (sepF l level (bestN l level))], .agg #[.slice A n c, .int .i64 level], .agg #[.slice A n c, .int .i64 level], .pointer (some ⟨D, 0, none⟩), .int .i64 (bestN l level), .tuple #[.agg #[.slice A (bestN l level) (bestN l level), .int .i64 level], .agg #[.slice A5 n5 c5, .int .i64 level], .string (sepF l level (bestN l level))], .agg #[.slice A (bestN l level) (bestN l level), .int .i64 level], .agg #[.slice A5 n5 c5, .int .i64 level], .string (sepF l level (bestN l level)), undef, undef, undef, undef, undef, undef, undef, undef, undef, undef, undef], defers := [] } W := by
    intro D A5 n5 c5 g6 g7 W GB GW GO G6 L6 G7 L7 GN
    refine (hX _ _ _ _).2 ?_
    have hHeld := GB.out
    refine last_ (i := 11) (N := none) #[true, true, true, true, true, true, true, true, true, true, true, true, false, false] rfl rfl (one_of HT_.out (by kernel_rfl)) (by decide) (fun K hK => ?_)
    refine skip_ (w1 := W.setRow g6 #[.slice A (bestN l level) (bestN l level), .int .i64 level]) (by rfl) rfl (store_box _ _ (.tmp 6) (.tmp 30) rfl g6 rfl _ _ rfl _ G6.out rfl (cells2 _ _ _ _)) ?_
    have H6 := Aside0.mk (setRow_heap W g6 _ #[.slice A (bestN l level) (bestN l level), .int .i64 level] _ _ G6.out)
    have H7 := Aside0.mk ((setRow_other W g6 g7 #[.slice A (bestN l level) (bestN l level), .int .i64 level] (fun e => GN.out e.symm)).trans G7.out)
    have HO := Aside0.mk (own_far GO.out G6.out (cs := #[.slice A (bestN l level) (bestN l level), .int .i64 level]))
    have HW := Aside0.mk (below_setRow GW.out L6.out #[.slice A (bestN l level) (bestN l level), .int .i64 level])
    clear G6 G7 GO GW GB hHeld
    generalize W.setRow g6 #[.slice A (bestN l level) (bestN l level), .int .i64 level] = W2 at H6 H7 HO HW ⊢
    refine hK.out _ _ ?_
    clear hK K
    refine last_ (i := 12) (N := none) #[true, true, true, true, true, true, true, true, true, true, true, true, true, false] rfl rfl (one_of HT_.out (by kernel_rfl)) (by decide) (fun K hK => ?_)
    refine skip_ (w1 := W2.setRow g7 #[.slice A5 n5 c5, .int .i64 level]) (by rfl) rfl (store_box _ _ (.tmp 7) (.tmp 31) rfl g7 rfl _ _ rfl _ H7.out rfl (cells2 _ _ _ _)) ?_
    have G7 := Aside0.mk (setRow_heap W2 g7 _ #[.slice A5 n5 c5, .int .i64 level] _ _ H7.out)
    have G6 := Aside0.mk ((setRow_other W2 g7 g6 #[.slice A5 n5 c5, .int .i64 level] GN.out).trans H6.out)
    have GO := Aside0.mk (own_far HO.out H7.out (cs := #[.slice A5 n5 c5, .int .i64 level]))
    have GW := Aside0.mk (below_setRow HW.out L7.out #[.slice A5 n5 c5, .int .i64 level])
    clear H6 H7 HO HW
    generalize W2.setRow g7 #[.slice A5 n5 c5, .int .i64 level] = W3 at G6 G7 GO GW ⊢
    refine hK.out _ _ ?_
    clear hK K
    refine pure_ (i := 13) (N := some 8) (v := ?_) (a' := ?_) #[true, true, true, true, true, true, true, true, true, true, true, true, true, true] rfl rfl (any_of HT_.out (by kernel_rfl)) (fun _ _ _ h => h) (Or.inl ⟨by rfl, ?_⟩) ?_ ?_
    rotate_left
    · intro w'
      go_simp
      with_reducible rfl
    rotate_left
    · simp only [Act.put, List.setIfInBounds_toArray, List.set_cons_zero, List.set_cons_succ, i64_w, i32_w]
      rfl
    refine done_ (done_of HT_.out (by kernel_rfl)) ?_
    have q60 : W3.cell? ⟨g6, 0, none⟩ = some (.slice A (bestN l level) (bestN l level)) := by rw [blk_cell G6.out]; rfl
    have q61 : W3.cell? ⟨g6, 1, none⟩ = some (.int .i64 level) := by rw [blk_cell G6.out]; rfl
    clear hX
    have HKW := Aside0.mk (KT.of_below GW.out HPW.out)
    have HPK3 := Aside0.mk (HPK.out W3 GW.out)
    have HFL := Aside0.mk (Kd.F_imp (KT.F HKW.out HF.out) (fun W' h => C_take h (Nat.le_of_lt (by have := HBR.out.2.2; rw [HN.out] at this; exact this))) : Kd.F k77 W3 (Safe P W3) A (bestN l level) (l.take (bestN l level)))
    have hb1 := HBR.out.2.1
    have hb2 := HBR.out.2.2
    rw [HN.out] at hb2
    have hpl := HPL.out
    have hsl := HSL.out
    have hnf := HNF.out
    have hfl : Fine (l.take (bestN l level)) := by have := fine_cut HFI.out 0 (bestN l level); simpa [partE] using this
    have hll : (l.take (bestN l level)).length = bestN l level := by rw [List.length_take, HN.out]; omega
    have HL := HIH.out (l.take (bestN l level)) A (bestN l level) (bestN l level) W3 parts seps hll (by omega) HFL.out (Nat.le_refl _) hfl (fun x hx => HKS.out x (List.mem_of_mem_take hx)) (packable_take (by rw [HN.out]; omega) HPA.out) HPK3.out (by omega) (by omega)
    have hrl : (bare level (l.drop (bestN l level))).length = n - bestN l level := by rw [bare_length, List.length_drop, HN.out]
    have hfr : Fine (bare level (l.drop (bestN l level))) := by have := fine_bare (fine_cut HFI.out (bestN l level) l.length) level; simpa [partE] using this
    have hkr : ∀ x ∈ bare level (l.drop (bestN l level)), x.f0.size ≤ 1000000 := keys_bare level _ (fun x hx => HKS.out x (List.mem_of_mem_drop hx))
    have hgo := Kd.R_reads' GO.out
    have HRR := Aside0.mk (fun (W : World) (ps : List (List S77)) (ss : List ByteArray) (hF : Kd.F k77 W (Safe P W) A5 n5 (bare level (l.drop (bestN l level)))) (hk : Pk W P ps ss) (h1 : ps.length + (n - bestN l level) ≤ 1000000) (h2 : ss.length + (n - bestN l level) ≤ 1000000) => HIH.out (bare level (l.drop (bestN l level))) A5 n5 c5 W ps ss hgo.1.symm (by rw [hgo.1, hrl]; omega) hF hgo.2.1 hfr hkr (packable_drop hb1 (by rw [HN.out]; omega) HPA.out) hk (by rw [hgo.1, hrl]; exact h1) (by rw [hgo.1, hrl]; exact h2))
    have HFR := Aside0.mk (safe_own (P := P) GO.out)
    have HDV2 := HDV
    clear hgo hrl hfr hkr hll hfl GO HF HFL HDV2 HDV HBE HAT HPK
    cases hx : packO f (l.take (bestN l level)) level with
    | none =>
      rw [hx] at HL
      have HX := Aside0.mk hx
      have HLA2 := Aside0.mk HL
      clear hx HL hb1 hb2 hpl hsl hnf
      go_wp2_with (go_at_call 73; refine HLA2.out.mono ?_; rintro e w5 ⟨rfl, hb5⟩; clear HLA2)
      refine ⟨rfl, ?_⟩
      show PackOut P parts seps _ w _ _
      rw [HX.out]
      exact ⟨rfl, HKW.out.below.trans hb5⟩
    | some x =>
      rw [hx] at HL
      have hxl := packO_len f (l.take (bestN l level)) level x (by rw [List.length_take, HN.out]; omega) hx
      rw [List.length_take, HN.out, Nat.min_eq_left (Nat.le_of_lt hb2)] at hxl
      have HX := Aside0.mk hx
      have HLA2 := Aside0.mk HL
      have HSC := Aside0.mk (fun (W : World) (hk : Pk W P (parts ++ x.1) (seps ++ x.2)) => sep_c (sepF l level (bestN l level)) W P (parts ++ x.1) (seps ++ x.2) hk (by rw [List.length_append]; omega))
      have HR2 := Aside0.mk (fun (W : World) (hF : Kd.F k77 W (Safe P W) A5 n5 (bare level (l.drop (bestN l level)))) (hk : Pk W P (parts ++ x.1) (seps ++ x.2 ++ [sepF l level (bestN l level)])) => HRR.out W _ _ hF hk (by rw [List.length_append]; omega) (by rw [List.length_append, List.length_append]; simp; omega))
      clear hx HL hxl hb1 hb2 hpl hsl hnf HRR
      cases hy : packO f (bare level (l.drop (bestN l level))) level with
      | none =>
        have HY := Aside0.mk hy
        clear hy
        go_wp2_with (first | (go_at_call 73; refine HLA2.out.mono ?_; rintro e w5 ⟨rfl, hk5, ht5⟩; have HK5 := Aside0.mk hk5; have HT5 := Aside0.mk ht5; clear hk5 ht5 HLA2) | (go_at_call 75; refine (HSC.out _ HK5.out).mono ?_; rintro e w6 ⟨rfl, hk6, ht6⟩; have HK6 := Aside0.mk hk6; have HT6 := Aside0.mk (HT5.out.trans ht6); have HG6 := Aside0.mk ((HT6.out.typed g7 (blk_lt G7.out) _ _ G7.out (by decide) (by decide) (by decide)).trans G7.out); have q70 : w6.cell? ⟨g7, 0, none⟩ = some (.slice A5 n5 c5) := (by rw [blk_cell HG6.out]; rfl); have q71 : w6.cell? ⟨g7, 1, none⟩ = some (.int .i64 level) := (by rw [blk_cell HG6.out]; rfl); have HRB := HR2.out w6 (KT.F HT6.out HFR.out) HK6.out; rw [HY.out] at HRB; have HRA := Aside0.mk HRB; clear hk6 ht6 HRB q60 q61) | (go_at_call 73; refine HRA.out.mono ?_; rintro e w7 ⟨rfl, hb7⟩))
        refine ⟨rfl, ?_⟩
        show PackOut P parts seps _ w _ _
        rw [HX.out, Option.bind_some, HY.out]
        exact ⟨rfl, (HKW.out.trans HT6.out).below.trans hb7⟩
      | some y =>
        have HY := Aside0.mk hy
        clear hy
        go_wp2_with (first | (go_at_call 73; refine HLA2.out.mono ?_; rintro e w5 ⟨rfl, hk5, ht5⟩; have HK5 := Aside0.mk hk5; have HT5 := Aside0.mk ht5; clear hk5 ht5 HLA2) | (go_at_call 75; refine (HSC.out _ HK5.out).mono ?_; rintro e w6 ⟨rfl, hk6, ht6⟩; have HK6 := Aside0.mk hk6; have HT6 := Aside0.mk (HT5.out.trans ht6); have HG6 := Aside0.mk ((HT6.out.typed g7 (blk_lt G7.out) _ _ G7.out (by decide) (by decide) (by decide)).trans G7.out); have q70 : w6.cell? ⟨g7, 0, none⟩ = some (.slice A5 n5 c5) := (by rw [blk_cell HG6.out]; rfl); have q71 : w6.cell? ⟨g7, 1, none⟩ = some (.int .i64 level) := (by rw [blk_cell HG6.out]; rfl); have HRB := HR2.out w6 (KT.F HT6.out HFR.out) HK6.out; rw [HY.out] at HRB; have HRA := Aside0.mk HRB; clear hk6 ht6 HRB q60 q61) | (go_at_call 73; refine HRA.out.mono ?_; rintro e w7 ⟨rfl, hk7, ht7⟩; have HK7 := Aside0.mk hk7; have HT7 := Aside0.mk ht7; clear hk7 ht7))
        go_end0
        show PackOut P parts seps _ w _ _
        rw [HX.out, Option.bind_some, HY.out]
        refine ⟨rfl, ?_, (HKW.out.trans HT6.out).trans HT7.out⟩
        have := HK7.out
        simpa [List.append_assoc] using this
  have st310 : ∀ (D : Nat) (A5 : Option Addr) (n5 c5 : Nat) (g6 : Nat) (W : World), Aside0 (W.heap[B]? = some (.cells #[.slice A n c, .int .i64 level] 103 (0, 0))) → Aside0 (Below w.heap.size w W) → Aside0 (Ow W w.heap.size (.slice A5 n5 c5) (bare level (l.drop (bestN l level)))) → Aside0 (W.heap[g6]? = some (.cells #[.slice none 0 0, .int .i64 0] 103 (0, 0))) → Aside0 (w.heap.size ≤ g6) → X 4 #[true, true, true, true, true, true, true, true, true, true, false, false, false, false] { tmps := #[.agg #[.slice A n c, .int .i64 level], .func (.func 74) #[.pointer (some ⟨P, 0, none⟩)] #[], .func (.func 75) #[.pointer (some ⟨P, 0, none⟩)] #[], .pointer (some ⟨B, 0, none⟩), undef, undef, .pointer (some ⟨g6, 0, none⟩), undef, undef, .agg #[.slice A n c, .int .i64 level], .pointer (some ⟨B, 0, none⟩), .slice A n c, .int .i64 n, .int .i64 m, .int .i64 496, .bool false, undef, undef, undef, .pointer (some ⟨B, 0, none⟩), .slice A n c, .int .i64 n, .bool true, .tuple #[], .tuple #[.agg #[.slice A (bestN l level) (bestN l level), .int .i64 level], .agg #[.slice A5 n5 c5, .int .i64 level], .string (sepF l level (bestN l level))], .agg #[.slice A n c, .int .i64 level], .agg #[.slice A n c, .int .i64 level], .pointer (some ⟨D, 0, none⟩), .int .i64 (bestN l level), .tuple #[.agg #[.slice A (bestN l level) (bestN l level), .int .i64 level], .agg #[.slice A5 n5 c5, .int .i64 level], .string (sepF l level (bestN l level))], .agg #[.slice A (bestN l level) (bestN l level), .int .i64 level], .agg #[.slice A5 n5 c5, .int .i64 level], .string (sepF l level (bestN l level)), undef, undef, undef, undef, undef, undef, undef, undef, undef, undef, undef], defers := [] } W := by
    intro D A5 n5 c5 g6 W GB GW GO G6 L6
    refine (hX _ _ _ _).2 ?_
    have hHeld := GB.out
    refine one_ (i := 10) (N := some 7) #[true, true, true, true, true, true, true, true, true, true, true, false, false, false] rfl rfl (one_of HT_.out (by kernel_rfl)) (by decide) (fun K hK => ?_)
    · refine value_ (w1 := W.alloc (.cells #[.slice none 0 0, .int .i64 0] 103)) (v := .pointer (some ⟨W.heap.size, 0, none⟩)) (by rfl) rfl (by go_simp; first | done | rfl) ?_
      have hb : Below W.heap.size W (W.alloc (.cells #[.slice none 0 0, .int .i64 0] 103)) := below_alloc (Below.refl _ _) _
      have GBx := Aside0.mk (blk_below GB.out hb)
      have GWx := Aside0.mk (GW.out.trans (hb.mono GW.out.size))
      have GOx := Aside0.mk (Kd.R_below GO.out hb)
      have G6x := Aside0.mk (blk_below G6.out hb)
      have L6x := L6
      have G7x := Aside0.mk (blk_new W (.cells #[.slice none 0 0, .int .i64 0] 103))
      have L7x := Aside0.mk GW.out.size
      have GNx := Aside0.mk (show ¬ g6 = W.heap.size by have := blk_lt G6.out; omega)
      refine hK.out _ _ GBx.out (fun _ => ?_)
      clear hK K
      refine norm_ (a' := ?_) ?_ ?_
      rotate_left
      · show Act.put _ (some 7) _ = _
        simp only [Act.put, List.setIfInBounds_toArray, List.set_cons_zero, List.set_cons_succ, i64_w, i32_w]
        rfl
      exact (hX _ _ _ _).1 (st311 _ _ _ _ _ _ _ GBx GWx GOx G6x L6x G7x L7x GNx)
  have st301 : ∀ (D : Nat) (A5 : Option Addr) (n5 c5 : Nat) (g7 : Nat) (W : World), Aside0 (W.heap[B]? = some (.cells #[.slice A n c, .int .i64 level] 103 (0, 0))) → Aside0 (Below w.heap.size w W) → Aside0 (Ow W w.heap.size (.slice A5 n5 c5) (bare level (l.drop (bestN l level)))) → Aside0 (W.heap[g7]? = some (.cells #[.slice none 0 0, .int .i64 0] 103 (0, 0))) → Aside0 (w.heap.size ≤ g7) → X 4 #[true, true, true, true, true, true, true, true, true, false, true, false, false, false] { tmps := #[.agg #[.slice A n c, .int .i64 level], .func (.func 74) #[.pointer (some ⟨P, 0, none⟩)] #[], .func (.func 75) #[.pointer (some ⟨P, 0, none⟩)] #[], .pointer (some ⟨B, 0, none⟩), undef, undef, undef, .pointer (some ⟨g7, 0, none⟩), undef, .agg #[.slice A n c, .int .i64 level], .pointer (some ⟨B, 0, none⟩), .slice A n c, .int .i64 n, .int .i64 m, .int .i64 496, .bool false, undef, undef, undef, .pointer (some ⟨B, 0, none⟩), .slice A n c, .int .i64 n, .bool true, .tuple #[], .tuple #[.agg #[.slice A (bestN l level) (bestN l level), .int .i64 level], .agg #[.slice A5 n5 c5, .int .i64 level], .string (sepF l level (bestN l level))], .agg #[.slice A n c, .int .i64 level], .agg #[.slice A n c, .int .i64 level], .pointer (some ⟨D, 0, none⟩), .int .i64 (bestN l level), .tuple #[.agg #[.slice A (bestN l level) (bestN l level), .int .i64 level], .agg #[.slice A5 n5 c5, .int .i64 level], .string (sepF l level (bestN l level))], .agg #[.slice A (bestN l level) (bestN l level), .int .i64 level], .agg #[.slice A5 n5 c5, .int .i64 level], .string (sepF l level (bestN l level)), undef, undef, undef, undef, undef, undef, undef, undef, undef, undef, undef], defers := [] } W := by
    intro D A5 n5 c5 g7 W GB GW GO G7 L7
    refine (hX _ _ _ _).2 ?_
    have hHeld := GB.out
    refine one_ (i := 9) (N := some 6) #[true, true, true, true, true, true, true, true, true, true, true, false, false, false] rfl rfl (one_of HT_.out (by kernel_rfl)) (by decide) (fun K hK => ?_)
    · refine value_ (w1 := W.alloc (.cells #[.slice none 0 0, .int .i64 0] 103)) (v := .pointer (some ⟨W.heap.size, 0, none⟩)) (by rfl) rfl (by go_simp; first | done | rfl) ?_
      have hb : Below W.heap.size W (W.alloc (.cells #[.slice none 0 0, .int .i64 0] 103)) := below_alloc (Below.refl _ _) _
      have GBx := Aside0.mk (blk_below GB.out hb)
      have GWx := Aside0.mk (GW.out.trans (hb.mono GW.out.size))
      have GOx := Aside0.mk (Kd.R_below GO.out hb)
      have G7x := Aside0.mk (blk_below G7.out hb)
      have L7x := L7
      have G6x := Aside0.mk (blk_new W (.cells #[.slice none 0 0, .int .i64 0] 103))
      have L6x := Aside0.mk GW.out.size
      have GNx := Aside0.mk (show ¬ W.heap.size = g7 by have := blk_lt G7.out; omega)
      refine hK.out _ _ GBx.out (fun _ => ?_)
      clear hK K
      refine norm_ (a' := ?_) ?_ ?_
      rotate_left
      · show Act.put _ (some 6) _ = _
        simp only [Act.put, List.setIfInBounds_toArray, List.set_cons_zero, List.set_cons_succ, i64_w, i32_w]
        rfl
      exact (hX _ _ _ _).1 (st311 _ _ _ _ _ _ _ GBx GWx GOx G6x L6x G7x L7x GNx)
  have st211 : ∀ (D : Nat) (g6 : Nat) (g7 : Nat) (W : World), Aside0 (W.heap[B]? = some (.cells #[.slice A n c, .int .i64 level] 103 (0, 0))) → Aside0 (Below w.heap.size w W) → Aside0 (W.heap[g6]? = some (.cells #[.slice none 0 0, .int .i64 0] 103 (0, 0))) → Aside0 (w.heap.size ≤ g6) → Aside0 (W.heap[g7]? = some (.cells #[.slice none 0 0, .int .i64 0] 103 (0, 0))) → Aside0 (w.heap.size ≤ g7) → Aside0 (¬ g6 = g7) → X 8 #[true, true, true, true, false, false, false, false, false, true, true, false, false, false] { tmps := #[.agg #[.slice A n c, .int .i64 level], .func (.func 74) #[.pointer (some ⟨P, 0, none⟩)] #[], .func (.func 75) #[.pointer (some ⟨P, 0, none⟩)] #[], .pointer (some ⟨B, 0, none⟩), undef, undef, .pointer (some ⟨g6, 0, none⟩), .pointer (some ⟨g7, 0, none⟩), undef, .agg #[.slice A n c, .int .i64 level], .pointer (some ⟨B, 0, none⟩), .slice A n c, .int .i64 n, .int .i64 m, .int .i64 496, .bool false, undef, undef, undef, .pointer (some ⟨B, 0, none⟩), .slice A n c, .int .i64 n, .bool true, .tuple #[], undef, .agg #[.slice A n c, .int .i64 level], .agg #[.slice A n c, .int .i64 level], .pointer (some ⟨D, 0, none⟩), .int .i64 (bestN l level), undef, undef, undef, undef, undef, undef, undef, undef, undef, undef, undef, undef, undef, undef, undef], defers := [] } W := by
    intro D g6 g7 W GB GW G6 L6 G7 L7 GN
    refine (hX _ _ _ _).2 ?_
    have hHeld := GB.out
    refine one_ (i := 4) (N := some 29) #[true, true, true, true, true, false, false, false, false, true, true, false, false, false] rfl rfl (one_of HT_.out (by kernel_rfl)) (by decide) (fun K hK => ?_)
    · refine goes_ Try.func93 (by kernel_rfl) rfl #[.agg #[.slice A n c, .int .i64 level], .int .i64 (bestN l level)] (by rfl) rfl rfl (by (try simp only [List.map_toArray, List.map_cons, List.map_nil]); first | done | rfl) ?_
      refine (HAT.out W GW.out).mono ?_
      rintro e W2 ⟨v, rfl, ho, hb⟩
      refine ⟨_, rfl, ?_⟩
      obtain ⟨A5, n5, c5, rfl⟩ : ∃ A n c, v = Value.slice A n c := by obtain ⟨A, c, h⟩ := Kd.R_slice ho; exact ⟨_, _, _, h⟩
      have GOx := Aside0.mk (Kd.R_lower ho GW.out.size)
      have GBx := Aside0.mk (blk_below GB.out hb)
      have GWx := Aside0.mk (GW.out.trans (hb.mono GW.out.size))
      have G6x := Aside0.mk (blk_below G6.out hb)
      have L6x := L6
      have G7x := Aside0.mk (blk_below G7.out hb)
      have L7x := L7
      have GNx := GN
      refine hK.out _ _ GBx.out (fun _ => ?_)
      clear hK K
      refine norm_ (a' := ?_) ?_ ?_
      rotate_left
      · show Act.put _ (some 29) _ = _
        simp only [Act.put, List.setIfInBounds_toArray, List.set_cons_zero, List.set_cons_succ, i64_w, i32_w]
        rfl
      refine pure_ (i := 5) (N := some 24) (v := ?_) (a' := ?_) #[true, true, true, true, true, true, false, false, false, true, true, false, false, false] rfl rfl (any_of HT_.out (by kernel_rfl)) (fun _ _ _ h => h) (Or.inl ⟨by rfl, ?_⟩) ?_ ?_
      rotate_left
      · intro w'
        go_simp
        with_reducible rfl
      rotate_left
      · simp only [Act.put, List.setIfInBounds_toArray, List.set_cons_zero, List.set_cons_succ, i64_w, i32_w]
        rfl
      refine pure_ (i := 6) (N := some 30) (v := ?_) (a' := ?_) #[true, true, true, true, true, true, true, false, false, true, true, false, false, false] rfl rfl (any_of HT_.out (by kernel_rfl)) (fun _ _ _ h => h) (Or.inl ⟨by rfl, ?_⟩) ?_ ?_
      rotate_left
      · intro w'
        go_simp
        with_reducible rfl
      rotate_left
      · simp only [Act.put, List.setIfInBounds_toArray, List.set_cons_zero, List.set_cons_succ, i64_w, i32_w]
        rfl
      refine pure_ (i := 7) (N := some 31) (v := ?_) (a' := ?_) #[true, true, true, true, true, true, true, true, false, true, true, false, false, false] rfl rfl (any_of HT_.out (by kernel_rfl)) (fun _ _ _ h => h) (Or.inl ⟨by rfl, ?_⟩) ?_ ?_
      rotate_left
      · intro w'
        go_simp
        with_reducible rfl
      rotate_left
      · simp only [Act.put, List.setIfInBounds_toArray, List.set_cons_zero, List.set_cons_succ, i64_w, i32_w]
        rfl
      refine pure_ (i := 8) (N := some 32) (v := ?_) (a' := ?_) #[true, true, true, true, true, true, true, true, true, true, true, false, false, false] rfl rfl (any_of HT_.out (by kernel_rfl)) (fun _ _ _ h => h) (Or.inl ⟨by rfl, ?_⟩) ?_ ?_
      rotate_left
      · intro w'
        go_simp
        with_reducible rfl
      rotate_left
      · simp only [Act.put, List.setIfInBounds_toArray, List.set_cons_zero, List.set_cons_succ, i64_w, i32_w]
        rfl
      exact (hX _ _ _ _).1 (st311 _ _ _ _ _ _ _ GBx GWx GOx G6x L6x G7x L7x GNx)
  have st300 : ∀ (D : Nat) (A5 : Option Addr) (n5 c5 : Nat) (W : World), Aside0 (W.heap[B]? = some (.cells #[.slice A n c, .int .i64 level] 103 (0, 0))) → Aside0 (Below w.heap.size w W) → Aside0 (Ow W w.heap.size (.slice A5 n5 c5) (bare level (l.drop (bestN l level)))) → X 5 #[true, true, true, true, true, true, true, true, true, false, false, false, false, false] { tmps := #[.agg #[.slice A n c, .int .i64 level], .func (.func 74) #[.pointer (some ⟨P, 0, none⟩)] #[], .func (.func 75) #[.pointer (some ⟨P, 0, none⟩)] #[], .pointer (some ⟨B, 0, none⟩), undef, undef, undef, undef, undef, .agg #[.slice A n c, .int .i64 level], .pointer (some ⟨B, 0, none⟩), .slice A n c, .int .i64 n, .int .i64 m, .int .i64 496, .bool false, undef, undef, undef, .pointer (some ⟨B, 0, none⟩), .slice A n c, .int .i64 n, .bool true, .tuple #[], .tuple #[.agg #[.slice A (bestN l level) (bestN l level), .int .i64 level], .agg #[.slice A5 n5 c5, .int .i64 level], .string (sepF l level (bestN l level))], .agg #[.slice A n c, .int .i64 level], .agg #[.slice A n c, .int .i64 level], .pointer (some ⟨D, 0, none⟩), .int .i64 (bestN l level), .tuple #[.agg #[.slice A (bestN l level) (bestN l level), .int .i64 level], .agg #[.slice A5 n5 c5, .int .i64 level], .string (sepF l level (bestN l level))], .agg #[.slice A (bestN l level) (bestN l level), .int .i64 level], .agg #[.slice A5 n5 c5, .int .i64 level], .string (sepF l level (bestN l level)), undef, undef, undef, undef, undef, undef, undef, undef, undef, undef, undef], defers := [] } W := by
    intro D A5 n5 c5 W GB GW GO
    refine (hX _ _ _ _).2 ?_
    have hHeld := GB.out
    refine two_ (i := 9) (j := 10) (Ni := some 6) (Nj := some 7) #[true, true, true, true, true, true, true, true, true, true, false, false, false, false] #[true, true, true, true, true, true, true, true, true, false, true, false, false, false] rfl rfl rfl rfl (two_of HT_.out (by kernel_rfl)) (by decide) (by decide) (fun K hK => ?_) (fun K hK => ?_)
    · refine value_ (w1 := W.alloc (.cells #[.slice none 0 0, .int .i64 0] 103)) (v := .pointer (some ⟨W.heap.size, 0, none⟩)) (by rfl) rfl (by go_simp; first | done | rfl) ?_
      have hb : Below W.heap.size W (W.alloc (.cells #[.slice none 0 0, .int .i64 0] 103)) := below_alloc (Below.refl _ _) _
      have GBx := Aside0.mk (blk_below GB.out hb)
      have GWx := Aside0.mk (GW.out.trans (hb.mono GW.out.size))
      have GOx := Aside0.mk (Kd.R_below GO.out hb)
      have G6x := Aside0.mk (blk_new W (.cells #[.slice none 0 0, .int .i64 0] 103))
      have L6x := Aside0.mk GW.out.size
      refine hK.out _ _ GBx.out (fun _ => ?_)
      clear hK K
      refine norm_ (a' := ?_) ?_ ?_
      rotate_left
      · show Act.put _ (some 6) _ = _
        simp only [Act.put, List.setIfInBounds_toArray, List.set_cons_zero, List.set_cons_succ, i64_w, i32_w]
        rfl
      exact (hX _ _ _ _).1 (st310 _ _ _ _ _ _ GBx GWx GOx G6x L6x)
    · refine value_ (w1 := W.alloc (.cells #[.slice none 0 0, .int .i64 0] 103)) (v := .pointer (some ⟨W.heap.size, 0, none⟩)) (by rfl) rfl (by go_simp; first | done | rfl) ?_
      have hb : Below W.heap.size W (W.alloc (.cells #[.slice none 0 0, .int .i64 0] 103)) := below_alloc (Below.refl _ _) _
      have GBx := Aside0.mk (blk_below GB.out hb)
      have GWx := Aside0.mk (GW.out.trans (hb.mono GW.out.size))
      have GOx := Aside0.mk (Kd.R_below GO.out hb)
      have G7x := Aside0.mk (blk_new W (.cells #[.slice none 0 0, .int .i64 0] 103))
      have L7x := Aside0.mk GW.out.size
      refine hK.out _ _ GBx.out (fun _ => ?_)
      clear hK K
      refine norm_ (a' := ?_) ?_ ?_
      rotate_left
      · show Act.put _ (some 7) _ = _
        simp only [Act.put, List.setIfInBounds_toArray, List.set_cons_zero, List.set_cons_succ, i64_w, i32_w]
        rfl
      exact (hX _ _ _ _).1 (st301 _ _ _ _ _ _ GBx GWx GOx G7x L7x)
  have st210 : ∀ (D : Nat) (g6 : Nat) (W : World), Aside0 (W.heap[B]? = some (.cells #[.slice A n c, .int .i64 level] 103 (0, 0))) → Aside0 (Below w.heap.size w W) → Aside0 (W.heap[g6]? = some (.cells #[.slice none 0 0, .int .i64 0] 103 (0, 0))) → Aside0 (w.heap.size ≤ g6) → X 9 #[true, true, true, true, false, false, false, false, false, true, false, false, false, false] { tmps := #[.agg #[.slice A n c, .int .i64 level], .func (.func 74) #[.pointer (some ⟨P, 0, none⟩)] #[], .func (.func 75) #[.pointer (some ⟨P, 0, none⟩)] #[], .pointer (some ⟨B, 0, none⟩), undef, undef, .pointer (some ⟨g6, 0, none⟩), undef, undef, .agg #[.slice A n c, .int .i64 level], .pointer (some ⟨B, 0, none⟩), .slice A n c, .int .i64 n, .int .i64 m, .int .i64 496, .bool false, undef, undef, undef, .pointer (some ⟨B, 0, none⟩), .slice A n c, .int .i64 n, .bool true, .tuple #[], undef, .agg #[.slice A n c, .int .i64 level], .agg #[.slice A n c, .int .i64 level], .pointer (some ⟨D, 0, none⟩), .int .i64 (bestN l level), undef, undef, undef, undef, undef, undef, undef, undef, undef, undef, undef, undef, undef, undef, undef], defers := [] } W := by
    intro D g6 W GB GW G6 L6
    refine (hX _ _ _ _).2 ?_
    have hHeld := GB.out
    refine two_ (i := 4) (j := 10) (Ni := some 29) (Nj := some 7) #[true, true, true, true, true, false, false, false, false, true, false, false, false, false] #[true, true, true, true, false, false, false, false, false, true, true, false, false, false] rfl rfl rfl rfl (two_of HT_.out (by kernel_rfl)) (by decide) (by decide) (fun K hK => ?_) (fun K hK => ?_)
    · refine goes_ Try.func93 (by kernel_rfl) rfl #[.agg #[.slice A n c, .int .i64 level], .int .i64 (bestN l level)] (by rfl) rfl rfl (by (try simp only [List.map_toArray, List.map_cons, List.map_nil]); first | done | rfl) ?_
      refine (HAT.out W GW.out).mono ?_
      rintro e W2 ⟨v, rfl, ho, hb⟩
      refine ⟨_, rfl, ?_⟩
      obtain ⟨A5, n5, c5, rfl⟩ : ∃ A n c, v = Value.slice A n c := by obtain ⟨A, c, h⟩ := Kd.R_slice ho; exact ⟨_, _, _, h⟩
      have GOx := Aside0.mk (Kd.R_lower ho GW.out.size)
      have GBx := Aside0.mk (blk_below GB.out hb)
      have GWx := Aside0.mk (GW.out.trans (hb.mono GW.out.size))
      have G6x := Aside0.mk (blk_below G6.out hb)
      have L6x := L6
      refine hK.out _ _ GBx.out (fun _ => ?_)
      clear hK K
      refine norm_ (a' := ?_) ?_ ?_
      rotate_left
      · show Act.put _ (some 29) _ = _
        simp only [Act.put, List.setIfInBounds_toArray, List.set_cons_zero, List.set_cons_succ, i64_w, i32_w]
        rfl
      refine pure_ (i := 5) (N := some 24) (v := ?_) (a' := ?_) #[true, true, true, true, true, true, false, false, false, true, false, false, false, false] rfl rfl (any_of HT_.out (by kernel_rfl)) (fun _ _ _ h => h) (Or.inl ⟨by rfl, ?_⟩) ?_ ?_
      rotate_left
      · intro w'
        go_simp
        with_reducible rfl
      rotate_left
      · simp only [Act.put, List.setIfInBounds_toArray, List.set_cons_zero, List.set_cons_succ, i64_w, i32_w]
        rfl
      refine pure_ (i := 6) (N := some 30) (v := ?_) (a' := ?_) #[true, true, true, true, true, true, true, false, false, true, false, false, false, false] rfl rfl (any_of HT_.out (by kernel_rfl)) (fun _ _ _ h => h) (Or.inl ⟨by rfl, ?_⟩) ?_ ?_
      rotate_left
      · intro w'
        go_simp
        with_reducible rfl
      rotate_left
      · simp only [Act.put, List.setIfInBounds_toArray, List.set_cons_zero, List.set_cons_succ, i64_w, i32_w]
        rfl
      refine pure_ (i := 7) (N := some 31) (v := ?_) (a' := ?_) #[true, true, true, true, true, true, true, true, false, true, false, false, false, false] rfl rfl (any_of HT_.out (by kernel_rfl)) (fun _ _ _ h => h) (Or.inl ⟨by rfl, ?_⟩) ?_ ?_
      rotate_left
      · intro w'
        go_simp
        with_reducible rfl
      rotate_left
      · simp only [Act.put, List.setIfInBounds_toArray, List.set_cons_zero, List.set_cons_succ, i64_w, i32_w]
        rfl
      refine pure_ (i := 8) (N := some 32) (v := ?_) (a' := ?_) #[true, true, true, true, true, true, true, true, true, true, false, false, false, false] rfl rfl (any_of HT_.out (by kernel_rfl)) (fun _ _ _ h => h) (Or.inl ⟨by rfl, ?_⟩) ?_ ?_
      rotate_left
      · intro w'
        go_simp
        with_reducible rfl
      rotate_left
      · simp only [Act.put, List.setIfInBounds_toArray, List.set_cons_zero, List.set_cons_succ, i64_w, i32_w]
        rfl
      exact (hX _ _ _ _).1 (st310 _ _ _ _ _ _ GBx GWx GOx G6x L6x)
    · refine value_ (w1 := W.alloc (.cells #[.slice none 0 0, .int .i64 0] 103)) (v := .pointer (some ⟨W.heap.size, 0, none⟩)) (by rfl) rfl (by go_simp; first | done | rfl) ?_
      have hb : Below W.heap.size W (W.alloc (.cells #[.slice none 0 0, .int .i64 0] 103)) := below_alloc (Below.refl _ _) _
      have GBx := Aside0.mk (blk_below GB.out hb)
      have GWx := Aside0.mk (GW.out.trans (hb.mono GW.out.size))
      have G6x := Aside0.mk (blk_below G6.out hb)
      have L6x := L6
      have G7x := Aside0.mk (blk_new W (.cells #[.slice none 0 0, .int .i64 0] 103))
      have L7x := Aside0.mk GW.out.size
      have GNx := Aside0.mk (show ¬ g6 = W.heap.size by have := blk_lt G6.out; omega)
      refine hK.out _ _ GBx.out (fun _ => ?_)
      clear hK K
      refine norm_ (a' := ?_) ?_ ?_
      rotate_left
      · show Act.put _ (some 7) _ = _
        simp only [Act.put, List.setIfInBounds_toArray, List.set_cons_zero, List.set_cons_succ, i64_w, i32_w]
        rfl
      exact (hX _ _ _ _).1 (st211 _ _ _ _ GBx GWx G6x L6x G7x L7x GNx)
  have st201 : ∀ (D : Nat) (g7 : Nat) (W : World), Aside0 (W.heap[B]? = some (.cells #[.slice A n c, .int .i64 level] 103 (0, 0))) → Aside0 (Below w.heap.size w W) → Aside0 (W.heap[g7]? = some (.cells #[.slice none 0 0, .int .i64 0] 103 (0, 0))) → Aside0 (w.heap.size ≤ g7) → X 9 #[true, true, true, true, false, false, false, false, false, false, true, false, false, false] { tmps := #[.agg #[.slice A n c, .int .i64 level], .func (.func 74) #[.pointer (some ⟨P, 0, none⟩)] #[], .func (.func 75) #[.pointer (some ⟨P, 0, none⟩)] #[], .pointer (some ⟨B, 0, none⟩), undef, undef, undef, .pointer (some ⟨g7, 0, none⟩), undef, .agg #[.slice A n c, .int .i64 level], .pointer (some ⟨B, 0, none⟩), .slice A n c, .int .i64 n, .int .i64 m, .int .i64 496, .bool false, undef, undef, undef, .pointer (some ⟨B, 0, none⟩), .slice A n c, .int .i64 n, .bool true, .tuple #[], undef, .agg #[.slice A n c, .int .i64 level], .agg #[.slice A n c, .int .i64 level], .pointer (some ⟨D, 0, none⟩), .int .i64 (bestN l level), undef, undef, undef, undef, undef, undef, undef, undef, undef, undef, undef, undef, undef, undef, undef], defers := [] } W := by
    intro D g7 W GB GW G7 L7
    refine (hX _ _ _ _).2 ?_
    have hHeld := GB.out
    refine two_ (i := 4) (j := 9) (Ni := some 29) (Nj := some 6) #[true, true, true, true, true, false, false, false, false, false, true, false, false, false] #[true, true, true, true, false, false, false, false, false, true, true, false, false, false] rfl rfl rfl rfl (two_of HT_.out (by kernel_rfl)) (by decide) (by decide) (fun K hK => ?_) (fun K hK => ?_)
    · refine goes_ Try.func93 (by kernel_rfl) rfl #[.agg #[.slice A n c, .int .i64 level], .int .i64 (bestN l level)] (by rfl) rfl rfl (by (try simp only [List.map_toArray, List.map_cons, List.map_nil]); first | done | rfl) ?_
      refine (HAT.out W GW.out).mono ?_
      rintro e W2 ⟨v, rfl, ho, hb⟩
      refine ⟨_, rfl, ?_⟩
      obtain ⟨A5, n5, c5, rfl⟩ : ∃ A n c, v = Value.slice A n c := by obtain ⟨A, c, h⟩ := Kd.R_slice ho; exact ⟨_, _, _, h⟩
      have GOx := Aside0.mk (Kd.R_lower ho GW.out.size)
      have GBx := Aside0.mk (blk_below GB.out hb)
      have GWx := Aside0.mk (GW.out.trans (hb.mono GW.out.size))
      have G7x := Aside0.mk (blk_below G7.out hb)
      have L7x := L7
      refine hK.out _ _ GBx.out (fun _ => ?_)
      clear hK K
      refine norm_ (a' := ?_) ?_ ?_
      rotate_left
      · show Act.put _ (some 29) _ = _
        simp only [Act.put, List.setIfInBounds_toArray, List.set_cons_zero, List.set_cons_succ, i64_w, i32_w]
        rfl
      refine pure_ (i := 5) (N := some 24) (v := ?_) (a' := ?_) #[true, true, true, true, true, true, false, false, false, false, true, false, false, false] rfl rfl (any_of HT_.out (by kernel_rfl)) (fun _ _ _ h => h) (Or.inl ⟨by rfl, ?_⟩) ?_ ?_
      rotate_left
      · intro w'
        go_simp
        with_reducible rfl
      rotate_left
      · simp only [Act.put, List.setIfInBounds_toArray, List.set_cons_zero, List.set_cons_succ, i64_w, i32_w]
        rfl
      refine pure_ (i := 6) (N := some 30) (v := ?_) (a' := ?_) #[true, true, true, true, true, true, true, false, false, false, true, false, false, false] rfl rfl (any_of HT_.out (by kernel_rfl)) (fun _ _ _ h => h) (Or.inl ⟨by rfl, ?_⟩) ?_ ?_
      rotate_left
      · intro w'
        go_simp
        with_reducible rfl
      rotate_left
      · simp only [Act.put, List.setIfInBounds_toArray, List.set_cons_zero, List.set_cons_succ, i64_w, i32_w]
        rfl
      refine pure_ (i := 7) (N := some 31) (v := ?_) (a' := ?_) #[true, true, true, true, true, true, true, true, false, false, true, false, false, false] rfl rfl (any_of HT_.out (by kernel_rfl)) (fun _ _ _ h => h) (Or.inl ⟨by rfl, ?_⟩) ?_ ?_
      rotate_left
      · intro w'
        go_simp
        with_reducible rfl
      rotate_left
      · simp only [Act.put, List.setIfInBounds_toArray, List.set_cons_zero, List.set_cons_succ, i64_w, i32_w]
        rfl
      refine pure_ (i := 8) (N := some 32) (v := ?_) (a' := ?_) #[true, true, true, true, true, true, true, true, true, false, true, false, false, false] rfl rfl (any_of HT_.out (by kernel_rfl)) (fun _ _ _ h => h) (Or.inl ⟨by rfl, ?_⟩) ?_ ?_
      rotate_left
      · intro w'
        go_simp
        with_reducible rfl
      rotate_left
      · simp only [Act.put, List.setIfInBounds_toArray, List.set_cons_zero, List.set_cons_succ, i64_w, i32_w]
        rfl
      exact (hX _ _ _ _).1 (st301 _ _ _ _ _ _ GBx GWx GOx G7x L7x)
    · refine value_ (w1 := W.alloc (.cells #[.slice none 0 0, .int .i64 0] 103)) (v := .pointer (some ⟨W.heap.size, 0, none⟩)) (by rfl) rfl (by go_simp; first | done | rfl) ?_
      have hb : Below W.heap.size W (W.alloc (.cells #[.slice none 0 0, .int .i64 0] 103)) := below_alloc (Below.refl _ _) _
      have GBx := Aside0.mk (blk_below GB.out hb)
      have GWx := Aside0.mk (GW.out.trans (hb.mono GW.out.size))
      have G7x := Aside0.mk (blk_below G7.out hb)
      have L7x := L7
      have G6x := Aside0.mk (blk_new W (.cells #[.slice none 0 0, .int .i64 0] 103))
      have L6x := Aside0.mk GW.out.size
      have GNx := Aside0.mk (show ¬ W.heap.size = g7 by have := blk_lt G7.out; omega)
      refine hK.out _ _ GBx.out (fun _ => ?_)
      clear hK K
      refine norm_ (a' := ?_) ?_ ?_
      rotate_left
      · show Act.put _ (some 6) _ = _
        simp only [Act.put, List.setIfInBounds_toArray, List.set_cons_zero, List.set_cons_succ, i64_w, i32_w]
        rfl
      exact (hX _ _ _ _).1 (st211 _ _ _ _ GBx GWx G6x L6x G7x L7x GNx)
  have st111 : ∀ (D : Nat) (av : Addr) (cv : Nat) (g6 : Nat) (g7 : Nat) (W : World), Aside0 (W.heap[B]? = some (.cells #[.slice A n c, .int .i64 level] 103 (0, 0))) → Aside0 (Below w.heap.size w W) → Aside0 (W.heap[D]? = some (.cells #[.slice A n c, .int .i64 level, .slice (some av) n cv] 127 (0, 0))) → Aside0 ((Kd.int .i64).C W (some av) n (aheads l level)) → Aside0 (W.heap[g6]? = some (.cells #[.slice none 0 0, .int .i64 0] 103 (0, 0))) → Aside0 (w.heap.size ≤ g6) → Aside0 (W.heap[g7]? = some (.cells #[.slice none 0 0, .int .i64 0] 103 (0, 0))) → Aside0 (w.heap.size ≤ g7) → Aside0 (¬ g6 = g7) → X 9 #[true, true, true, false, false, false, false, false, false, true, true, false, false, false] { tmps := #[.agg #[.slice A n c, .int .i64 level], .func (.func 74) #[.pointer (some ⟨P, 0, none⟩)] #[], .func (.func 75) #[.pointer (some ⟨P, 0, none⟩)] #[], .pointer (some ⟨B, 0, none⟩), undef, undef, .pointer (some ⟨g6, 0, none⟩), .pointer (some ⟨g7, 0, none⟩), undef, .agg #[.slice A n c, .int .i64 level], .pointer (some ⟨B, 0, none⟩), .slice A n c, .int .i64 n, .int .i64 m, .int .i64 496, .bool false, undef, undef, undef, .pointer (some ⟨B, 0, none⟩), .slice A n c, .int .i64 n, .bool true, .tuple #[], undef, .agg #[.slice A n c, .int .i64 level], .agg #[.slice A n c, .int .i64 level], .pointer (some ⟨D, 0, none⟩), undef, undef, undef, undef, undef, undef, undef, undef, undef, undef, undef, undef, undef, undef, undef, undef], defers := [] } W := by
    intro D av cv g6 g7 W GB GW GD GH G6 L6 G7 L7 GN
    refine (hX _ _ _ _).2 ?_
    have hHeld := GB.out
    refine one_ (i := 3) (N := some 28) #[true, true, true, true, false, false, false, false, false, true, true, false, false, false] rfl rfl (one_of HT_.out (by kernel_rfl)) (by decide) (fun K hK => ?_)
    · refine goes_ Try.func72 (by kernel_rfl) rfl #[.pointer (some ⟨D, 0, none⟩)] (by rfl) rfl rfl (by (try simp only [List.map_toArray, List.map_cons, List.map_nil]); first | done | rfl) ?_
      refine (HBE.out W GW.out D av cv GD.out GH.out).mono ?_
      rintro e W2 ⟨rfl, hb⟩
      refine ⟨_, rfl, ?_⟩
      have GBx := Aside0.mk (blk_below GB.out hb)
      have GWx := Aside0.mk (GW.out.trans (hb.mono GW.out.size))
      have G6x := Aside0.mk (blk_below G6.out hb)
      have L6x := L6
      have G7x := Aside0.mk (blk_below G7.out hb)
      have L7x := L7
      have GNx := GN
      refine hK.out _ _ GBx.out (fun _ => ?_)
      clear hK K
      refine norm_ (a' := ?_) ?_ ?_
      rotate_left
      · show Act.put _ (some 28) _ = _
        simp only [Act.put, List.setIfInBounds_toArray, List.set_cons_zero, List.set_cons_succ, i64_w, i32_w]
        rfl
      exact (hX _ _ _ _).1 (st211 _ _ _ _ GBx GWx G6x L6x G7x L7x GNx)
  have st200 : ∀ (D : Nat) (W : World), Aside0 (W.heap[B]? = some (.cells #[.slice A n c, .int .i64 level] 103 (0, 0))) → Aside0 (Below w.heap.size w W) → X 10 #[true, true, true, true, false, false, false, false, false, false, false, false, false, false] { tmps := #[.agg #[.slice A n c, .int .i64 level], .func (.func 74) #[.pointer (some ⟨P, 0, none⟩)] #[], .func (.func 75) #[.pointer (some ⟨P, 0, none⟩)] #[], .pointer (some ⟨B, 0, none⟩), undef, undef, undef, undef, undef, .agg #[.slice A n c, .int .i64 level], .pointer (some ⟨B, 0, none⟩), .slice A n c, .int .i64 n, .int .i64 m, .int .i64 496, .bool false, undef, undef, undef, .pointer (some ⟨B, 0, none⟩), .slice A n c, .int .i64 n, .bool true, .tuple #[], undef, .agg #[.slice A n c, .int .i64 level], .agg #[.slice A n c, .int .i64 level], .pointer (some ⟨D, 0, none⟩), .int .i64 (bestN l level), undef, undef, undef, undef, undef, undef, undef, undef, undef, undef, undef, undef, undef, undef, undef], defers := [] } W := by
    intro D W GB GW
    refine (hX _ _ _ _).2 ?_
    have hHeld := GB.out
    refine three_ (i := 4) (j := 9) (k := 10) (Ni := some 29) (Nj := some 6) (Nk := some 7) #[true, true, true, true, true, false, false, false, false, false, false, false, false, false] #[true, true, true, true, false, false, false, false, false, true, false, false, false, false] #[true, true, true, true, false, false, false, false, false, false, true, false, false, false] rfl rfl rfl rfl rfl rfl (three_of HT_.out (by kernel_rfl)) (by decide) (by decide) (by decide) (fun K hK => ?_) (fun K hK => ?_) (fun K hK => ?_)
    · refine goes_ Try.func93 (by kernel_rfl) rfl #[.agg #[.slice A n c, .int .i64 level], .int .i64 (bestN l level)] (by rfl) rfl rfl (by (try simp only [List.map_toArray, List.map_cons, List.map_nil]); first | done | rfl) ?_
      refine (HAT.out W GW.out).mono ?_
      rintro e W2 ⟨v, rfl, ho, hb⟩
      refine ⟨_, rfl, ?_⟩
      obtain ⟨A5, n5, c5, rfl⟩ : ∃ A n c, v = Value.slice A n c := by obtain ⟨A, c, h⟩ := Kd.R_slice ho; exact ⟨_, _, _, h⟩
      have GOx := Aside0.mk (Kd.R_lower ho GW.out.size)
      have GBx := Aside0.mk (blk_below GB.out hb)
      have GWx := Aside0.mk (GW.out.trans (hb.mono GW.out.size))
      refine hK.out _ _ GBx.out (fun _ => ?_)
      clear hK K
      refine norm_ (a' := ?_) ?_ ?_
      rotate_left
      · show Act.put _ (some 29) _ = _
        simp only [Act.put, List.setIfInBounds_toArray, List.set_cons_zero, List.set_cons_succ, i64_w, i32_w]
        rfl
      refine pure_ (i := 5) (N := some 24) (v := ?_) (a' := ?_) #[true, true, true, true, true, true, false, false, false, false, false, false, false, false] rfl rfl (any_of HT_.out (by kernel_rfl)) (fun _ _ _ h => h) (Or.inl ⟨by rfl, ?_⟩) ?_ ?_
      rotate_left
      · intro w'
        go_simp
        with_reducible rfl
      rotate_left
      · simp only [Act.put, List.setIfInBounds_toArray, List.set_cons_zero, List.set_cons_succ, i64_w, i32_w]
        rfl
      refine pure_ (i := 6) (N := some 30) (v := ?_) (a' := ?_) #[true, true, true, true, true, true, true, false, false, false, false, false, false, false] rfl rfl (any_of HT_.out (by kernel_rfl)) (fun _ _ _ h => h) (Or.inl ⟨by rfl, ?_⟩) ?_ ?_
      rotate_left
      · intro w'
        go_simp
        with_reducible rfl
      rotate_left
      · simp only [Act.put, List.setIfInBounds_toArray, List.set_cons_zero, List.set_cons_succ, i64_w, i32_w]
        rfl
      refine pure_ (i := 7) (N := some 31) (v := ?_) (a' := ?_) #[true, true, true, true, true, true, true, true, false, false, false, false, false, false] rfl rfl (any_of HT_.out (by kernel_rfl)) (fun _ _ _ h => h) (Or.inl ⟨by rfl, ?_⟩) ?_ ?_
      rotate_left
      · intro w'
        go_simp
        with_reducible rfl
      rotate_left
      · simp only [Act.put, List.setIfInBounds_toArray, List.set_cons_zero, List.set_cons_succ, i64_w, i32_w]
        rfl
      refine pure_ (i := 8) (N := some 32) (v := ?_) (a' := ?_) #[true, true, true, true, true, true, true, true, true, false, false, false, false, false] rfl rfl (any_of HT_.out (by kernel_rfl)) (fun _ _ _ h => h) (Or.inl ⟨by rfl, ?_⟩) ?_ ?_
      rotate_left
      · intro w'
        go_simp
        with_reducible rfl
      rotate_left
      · simp only [Act.put, List.setIfInBounds_toArray, List.set_cons_zero, List.set_cons_succ, i64_w, i32_w]
        rfl
      exact (hX _ _ _ _).1 (st300 _ _ _ _ _ GBx GWx GOx)
    · refine value_ (w1 := W.alloc (.cells #[.slice none 0 0, .int .i64 0] 103)) (v := .pointer (some ⟨W.heap.size, 0, none⟩)) (by rfl) rfl (by go_simp; first | done | rfl) ?_
      have hb : Below W.heap.size W (W.alloc (.cells #[.slice none 0 0, .int .i64 0] 103)) := below_alloc (Below.refl _ _) _
      have GBx := Aside0.mk (blk_below GB.out hb)
      have GWx := Aside0.mk (GW.out.trans (hb.mono GW.out.size))
      have G6x := Aside0.mk (blk_new W (.cells #[.slice none 0 0, .int .i64 0] 103))
      have L6x := Aside0.mk GW.out.size
      refine hK.out _ _ GBx.out (fun _ => ?_)
      clear hK K
      refine norm_ (a' := ?_) ?_ ?_
      rotate_left
      · show Act.put _ (some 6) _ = _
        simp only [Act.put, List.setIfInBounds_toArray, List.set_cons_zero, List.set_cons_succ, i64_w, i32_w]
        rfl
      exact (hX _ _ _ _).1 (st210 _ _ _ GBx GWx G6x L6x)
    · refine value_ (w1 := W.alloc (.cells #[.slice none 0 0, .int .i64 0] 103)) (v := .pointer (some ⟨W.heap.size, 0, none⟩)) (by rfl) rfl (by go_simp; first | done | rfl) ?_
      have hb : Below W.heap.size W (W.alloc (.cells #[.slice none 0 0, .int .i64 0] 103)) := below_alloc (Below.refl _ _) _
      have GBx := Aside0.mk (blk_below GB.out hb)
      have GWx := Aside0.mk (GW.out.trans (hb.mono GW.out.size))
      have G7x := Aside0.mk (blk_new W (.cells #[.slice none 0 0, .int .i64 0] 103))
      have L7x := Aside0.mk GW.out.size
      refine hK.out _ _ GBx.out (fun _ => ?_)
      clear hK K
      refine norm_ (a' := ?_) ?_ ?_
      rotate_left
      · show Act.put _ (some 7) _ = _
        simp only [Act.put, List.setIfInBounds_toArray, List.set_cons_zero, List.set_cons_succ, i64_w, i32_w]
        rfl
      exact (hX _ _ _ _).1 (st201 _ _ _ GBx GWx G7x L7x)
  have st110 : ∀ (D : Nat) (av : Addr) (cv : Nat) (g6 : Nat) (W : World), Aside0 (W.heap[B]? = some (.cells #[.slice A n c, .int .i64 level] 103 (0, 0))) → Aside0 (Below w.heap.size w W) → Aside0 (W.heap[D]? = some (.cells #[.slice A n c, .int .i64 level, .slice (some av) n cv] 127 (0, 0))) → Aside0 ((Kd.int .i64).C W (some av) n (aheads l level)) → Aside0 (W.heap[g6]? = some (.cells #[.slice none 0 0, .int .i64 0] 103 (0, 0))) → Aside0 (w.heap.size ≤ g6) → X 10 #[true, true, true, false, false, false, false, false, false, true, false, false, false, false] { tmps := #[.agg #[.slice A n c, .int .i64 level], .func (.func 74) #[.pointer (some ⟨P, 0, none⟩)] #[], .func (.func 75) #[.pointer (some ⟨P, 0, none⟩)] #[], .pointer (some ⟨B, 0, none⟩), undef, undef, .pointer (some ⟨g6, 0, none⟩), undef, undef, .agg #[.slice A n c, .int .i64 level], .pointer (some ⟨B, 0, none⟩), .slice A n c, .int .i64 n, .int .i64 m, .int .i64 496, .bool false, undef, undef, undef, .pointer (some ⟨B, 0, none⟩), .slice A n c, .int .i64 n, .bool true, .tuple #[], undef, .agg #[.slice A n c, .int .i64 level], .agg #[.slice A n c, .int .i64 level], .pointer (some ⟨D, 0, none⟩), undef, undef, undef, undef, undef, undef, undef, undef, undef, undef, undef, undef, undef, undef, undef, undef], defers := [] } W := by
    intro D av cv g6 W GB GW GD GH G6 L6
    refine (hX _ _ _ _).2 ?_
    have hHeld := GB.out
    refine two_ (i := 3) (j := 10) (Ni := some 28) (Nj := some 7) #[true, true, true, true, false, false, false, false, false, true, false, false, false, false] #[true, true, true, false, false, false, false, false, false, true, true, false, false, false] rfl rfl rfl rfl (two_of HT_.out (by kernel_rfl)) (by decide) (by decide) (fun K hK => ?_) (fun K hK => ?_)
    · refine goes_ Try.func72 (by kernel_rfl) rfl #[.pointer (some ⟨D, 0, none⟩)] (by rfl) rfl rfl (by (try simp only [List.map_toArray, List.map_cons, List.map_nil]); first | done | rfl) ?_
      refine (HBE.out W GW.out D av cv GD.out GH.out).mono ?_
      rintro e W2 ⟨rfl, hb⟩
      refine ⟨_, rfl, ?_⟩
      have GBx := Aside0.mk (blk_below GB.out hb)
      have GWx := Aside0.mk (GW.out.trans (hb.mono GW.out.size))
      have G6x := Aside0.mk (blk_below G6.out hb)
      have L6x := L6
      refine hK.out _ _ GBx.out (fun _ => ?_)
      clear hK K
      refine norm_ (a' := ?_) ?_ ?_
      rotate_left
      · show Act.put _ (some 28) _ = _
        simp only [Act.put, List.setIfInBounds_toArray, List.set_cons_zero, List.set_cons_succ, i64_w, i32_w]
        rfl
      exact (hX _ _ _ _).1 (st210 _ _ _ GBx GWx G6x L6x)
    · refine value_ (w1 := W.alloc (.cells #[.slice none 0 0, .int .i64 0] 103)) (v := .pointer (some ⟨W.heap.size, 0, none⟩)) (by rfl) rfl (by go_simp; first | done | rfl) ?_
      have hb : Below W.heap.size W (W.alloc (.cells #[.slice none 0 0, .int .i64 0] 103)) := below_alloc (Below.refl _ _) _
      have GBx := Aside0.mk (blk_below GB.out hb)
      have GWx := Aside0.mk (GW.out.trans (hb.mono GW.out.size))
      have GDx := Aside0.mk (blk_below GD.out hb)
      have GHx := Aside0.mk (Kd.C_below GH.out hb)
      have G6x := Aside0.mk (blk_below G6.out hb)
      have L6x := L6
      have G7x := Aside0.mk (blk_new W (.cells #[.slice none 0 0, .int .i64 0] 103))
      have L7x := Aside0.mk GW.out.size
      have GNx := Aside0.mk (show ¬ g6 = W.heap.size by have := blk_lt G6.out; omega)
      refine hK.out _ _ GBx.out (fun _ => ?_)
      clear hK K
      refine norm_ (a' := ?_) ?_ ?_
      rotate_left
      · show Act.put _ (some 7) _ = _
        simp only [Act.put, List.setIfInBounds_toArray, List.set_cons_zero, List.set_cons_succ, i64_w, i32_w]
        rfl
      exact (hX _ _ _ _).1 (st111 _ _ _ _ _ _ GBx GWx GDx GHx G6x L6x G7x L7x GNx)
  have st101 : ∀ (D : Nat) (av : Addr) (cv : Nat) (g7 : Nat) (W : World), Aside0 (W.heap[B]? = some (.cells #[.slice A n c, .int .i64 level] 103 (0, 0))) → Aside0 (Below w.heap.size w W) → Aside0 (W.heap[D]? = some (.cells #[.slice A n c, .int .i64 level, .slice (some av) n cv] 127 (0, 0))) → Aside0 ((Kd.int .i64).C W (some av) n (aheads l level)) → Aside0 (W.heap[g7]? = some (.cells #[.slice none 0 0, .int .i64 0] 103 (0, 0))) → Aside0 (w.heap.size ≤ g7) → X 10 #[true, true, true, false, false, false, false, false, false, false, true, false, false, false] { tmps := #[.agg #[.slice A n c, .int .i64 level], .func (.func 74) #[.pointer (some ⟨P, 0, none⟩)] #[], .func (.func 75) #[.pointer (some ⟨P, 0, none⟩)] #[], .pointer (some ⟨B, 0, none⟩), undef, undef, undef, .pointer (some ⟨g7, 0, none⟩), undef, .agg #[.slice A n c, .int .i64 level], .pointer (some ⟨B, 0, none⟩), .slice A n c, .int .i64 n, .int .i64 m, .int .i64 496, .bool false, undef, undef, undef, .pointer (some ⟨B, 0, none⟩), .slice A n c, .int .i64 n, .bool true, .tuple #[], undef, .agg #[.slice A n c, .int .i64 level], .agg #[.slice A n c, .int .i64 level], .pointer (some ⟨D, 0, none⟩), undef, undef, undef, undef, undef, undef, undef, undef, undef, undef, undef, undef, undef, undef, undef, undef], defers := [] } W := by
    intro D av cv g7 W GB GW GD GH G7 L7
    refine (hX _ _ _ _).2 ?_
    have hHeld := GB.out
    refine two_ (i := 3) (j := 9) (Ni := some 28) (Nj := some 6) #[true, true, true, true, false, false, false, false, false, false, true, false, false, false] #[true, true, true, false, false, false, false, false, false, true, true, false, false, false] rfl rfl rfl rfl (two_of HT_.out (by kernel_rfl)) (by decide) (by decide) (fun K hK => ?_) (fun K hK => ?_)
    · refine goes_ Try.func72 (by kernel_rfl) rfl #[.pointer (some ⟨D, 0, none⟩)] (by rfl) rfl rfl (by (try simp only [List.map_toArray, List.map_cons, List.map_nil]); first | done | rfl) ?_
      refine (HBE.out W GW.out D av cv GD.out GH.out).mono ?_
      rintro e W2 ⟨rfl, hb⟩
      refine ⟨_, rfl, ?_⟩
      have GBx := Aside0.mk (blk_below GB.out hb)
      have GWx := Aside0.mk (GW.out.trans (hb.mono GW.out.size))
      have G7x := Aside0.mk (blk_below G7.out hb)
      have L7x := L7
      refine hK.out _ _ GBx.out (fun _ => ?_)
      clear hK K
      refine norm_ (a' := ?_) ?_ ?_
      rotate_left
      · show Act.put _ (some 28) _ = _
        simp only [Act.put, List.setIfInBounds_toArray, List.set_cons_zero, List.set_cons_succ, i64_w, i32_w]
        rfl
      exact (hX _ _ _ _).1 (st201 _ _ _ GBx GWx G7x L7x)
    · refine value_ (w1 := W.alloc (.cells #[.slice none 0 0, .int .i64 0] 103)) (v := .pointer (some ⟨W.heap.size, 0, none⟩)) (by rfl) rfl (by go_simp; first | done | rfl) ?_
      have hb : Below W.heap.size W (W.alloc (.cells #[.slice none 0 0, .int .i64 0] 103)) := below_alloc (Below.refl _ _) _
      have GBx := Aside0.mk (blk_below GB.out hb)
      have GWx := Aside0.mk (GW.out.trans (hb.mono GW.out.size))
      have GDx := Aside0.mk (blk_below GD.out hb)
      have GHx := Aside0.mk (Kd.C_below GH.out hb)
      have G7x := Aside0.mk (blk_below G7.out hb)
      have L7x := L7
      have G6x := Aside0.mk (blk_new W (.cells #[.slice none 0 0, .int .i64 0] 103))
      have L6x := Aside0.mk GW.out.size
      have GNx := Aside0.mk (show ¬ W.heap.size = g7 by have := blk_lt G7.out; omega)
      refine hK.out _ _ GBx.out (fun _ => ?_)
      clear hK K
      refine norm_ (a' := ?_) ?_ ?_
      rotate_left
      · show Act.put _ (some 6) _ = _
        simp only [Act.put, List.setIfInBounds_toArray, List.set_cons_zero, List.set_cons_succ, i64_w, i32_w]
        rfl
      exact (hX _ _ _ _).1 (st111 _ _ _ _ _ _ GBx GWx GDx GHx G6x L6x G7x L7x GNx)
  have st011 : ∀ (g6 : Nat) (g7 : Nat) (W : World), Aside0 (W.heap[B]? = some (.cells #[.slice A n c, .int .i64 level] 103 (0, 0))) → Aside0 (Below w.heap.size w W) → Aside0 (W.heap[g6]? = some (.cells #[.slice none 0 0, .int .i64 0] 103 (0, 0))) → Aside0 (w.heap.size ≤ g6) → Aside0 (W.heap[g7]? = some (.cells #[.slice none 0 0, .int .i64 0] 103 (0, 0))) → Aside0 (w.heap.size ≤ g7) → Aside0 (¬ g6 = g7) → X 10 #[true, true, false, false, false, false, false, false, false, true, true, false, false, false] { tmps := #[.agg #[.slice A n c, .int .i64 level], .func (.func 74) #[.pointer (some ⟨P, 0, none⟩)] #[], .func (.func 75) #[.pointer (some ⟨P, 0, none⟩)] #[], .pointer (some ⟨B, 0, none⟩), undef, undef, .pointer (some ⟨g6, 0, none⟩), .pointer (some ⟨g7, 0, none⟩), undef, .agg #[.slice A n c, .int .i64 level], .pointer (some ⟨B, 0, none⟩), .slice A n c, .int .i64 n, .int .i64 m, .int .i64 496, .bool false, undef, undef, undef, .pointer (some ⟨B, 0, none⟩), .slice A n c, .int .i64 n, .bool true, .tuple #[], undef, .agg #[.slice A n c, .int .i64 level], .agg #[.slice A n c, .int .i64 level], undef, undef, undef, undef, undef, undef, undef, undef, undef, undef, undef, undef, undef, undef, undef, undef, undef], defers := [] } W := by
    intro g6 g7 W GB GW G6 L6 G7 L7 GN
    refine (hX _ _ _ _).2 ?_
    have hHeld := GB.out
    refine one_ (i := 2) (N := some 27) #[true, true, true, false, false, false, false, false, false, true, true, false, false, false] rfl rfl (one_of HT_.out (by kernel_rfl)) (by decide) (fun K hK => ?_)
    · refine goes_ Try.func71 (by kernel_rfl) rfl #[.agg #[.slice A n c, .int .i64 level]] (by rfl) rfl rfl (by (try simp only [List.map_toArray, List.map_cons, List.map_nil]); first | done | rfl) ?_
      refine (HDV.out W GW.out).mono ?_
      rintro e W2 ⟨D, v, rfl, _, hd, hq, hb⟩
      refine ⟨_, rfl, ?_⟩
      obtain ⟨av, cv, rfl⟩ := Kd.R_slice1 hq (by rw [HLA.out]; have := H2.out; omega)
      rw [HLA.out] at hd hq
      have GDx := Aside0.mk hd
      have GHx := Aside0.mk (show (Kd.int .i64).C W2 (some av) n (aheads l level) by have h := Kd.R_reads' hq; rw [h.1]; exact h.2.2)
      have GBx := Aside0.mk (blk_below GB.out hb)
      have GWx := Aside0.mk (GW.out.trans (hb.mono GW.out.size))
      have G6x := Aside0.mk (blk_below G6.out hb)
      have L6x := L6
      have G7x := Aside0.mk (blk_below G7.out hb)
      have L7x := L7
      have GNx := GN
      refine hK.out _ _ GBx.out (fun _ => ?_)
      clear hK K
      refine norm_ (a' := ?_) ?_ ?_
      rotate_left
      · show Act.put _ (some 27) _ = _
        simp only [Act.put, List.setIfInBounds_toArray, List.set_cons_zero, List.set_cons_succ, i64_w, i32_w]
        rfl
      exact (hX _ _ _ _).1 (st111 _ _ _ _ _ _ GBx GWx GDx GHx G6x L6x G7x L7x GNx)
  have st100 : ∀ (D : Nat) (av : Addr) (cv : Nat) (W : World), Aside0 (W.heap[B]? = some (.cells #[.slice A n c, .int .i64 level] 103 (0, 0))) → Aside0 (Below w.heap.size w W) → Aside0 (W.heap[D]? = some (.cells #[.slice A n c, .int .i64 level, .slice (some av) n cv] 127 (0, 0))) → Aside0 ((Kd.int .i64).C W (some av) n (aheads l level)) → X 11 #[true, true, true, false, false, false, false, false, false, false, false, false, false, false] { tmps := #[.agg #[.slice A n c, .int .i64 level], .func (.func 74) #[.pointer (some ⟨P, 0, none⟩)] #[], .func (.func 75) #[.pointer (some ⟨P, 0, none⟩)] #[], .pointer (some ⟨B, 0, none⟩), undef, undef, undef, undef, undef, .agg #[.slice A n c, .int .i64 level], .pointer (some ⟨B, 0, none⟩), .slice A n c, .int .i64 n, .int .i64 m, .int .i64 496, .bool false, undef, undef, undef, .pointer (some ⟨B, 0, none⟩), .slice A n c, .int .i64 n, .bool true, .tuple #[], undef, .agg #[.slice A n c, .int .i64 level], .agg #[.slice A n c, .int .i64 level], .pointer (some ⟨D, 0, none⟩), undef, undef, undef, undef, undef, undef, undef, undef, undef, undef, undef, undef, undef, undef, undef, undef], defers := [] } W := by
    intro D av cv W GB GW GD GH
    refine (hX _ _ _ _).2 ?_
    have hHeld := GB.out
    refine three_ (i := 3) (j := 9) (k := 10) (Ni := some 28) (Nj := some 6) (Nk := some 7) #[true, true, true, true, false, false, false, false, false, false, false, false, false, false] #[true, true, true, false, false, false, false, false, false, true, false, false, false, false] #[true, true, true, false, false, false, false, false, false, false, true, false, false, false] rfl rfl rfl rfl rfl rfl (three_of HT_.out (by kernel_rfl)) (by decide) (by decide) (by decide) (fun K hK => ?_) (fun K hK => ?_) (fun K hK => ?_)
    · refine goes_ Try.func72 (by kernel_rfl) rfl #[.pointer (some ⟨D, 0, none⟩)] (by rfl) rfl rfl (by (try simp only [List.map_toArray, List.map_cons, List.map_nil]); first | done | rfl) ?_
      refine (HBE.out W GW.out D av cv GD.out GH.out).mono ?_
      rintro e W2 ⟨rfl, hb⟩
      refine ⟨_, rfl, ?_⟩
      have GBx := Aside0.mk (blk_below GB.out hb)
      have GWx := Aside0.mk (GW.out.trans (hb.mono GW.out.size))
      refine hK.out _ _ GBx.out (fun _ => ?_)
      clear hK K
      refine norm_ (a' := ?_) ?_ ?_
      rotate_left
      · show Act.put _ (some 28) _ = _
        simp only [Act.put, List.setIfInBounds_toArray, List.set_cons_zero, List.set_cons_succ, i64_w, i32_w]
        rfl
      exact (hX _ _ _ _).1 (st200 _ _ GBx GWx)
    · refine value_ (w1 := W.alloc (.cells #[.slice none 0 0, .int .i64 0] 103)) (v := .pointer (some ⟨W.heap.size, 0, none⟩)) (by rfl) rfl (by go_simp; first | done | rfl) ?_
      have hb : Below W.heap.size W (W.alloc (.cells #[.slice none 0 0, .int .i64 0] 103)) := below_alloc (Below.refl _ _) _
      have GBx := Aside0.mk (blk_below GB.out hb)
      have GWx := Aside0.mk (GW.out.trans (hb.mono GW.out.size))
      have GDx := Aside0.mk (blk_below GD.out hb)
      have GHx := Aside0.mk (Kd.C_below GH.out hb)
      have G6x := Aside0.mk (blk_new W (.cells #[.slice none 0 0, .int .i64 0] 103))
      have L6x := Aside0.mk GW.out.size
      refine hK.out _ _ GBx.out (fun _ => ?_)
      clear hK K
      refine norm_ (a' := ?_) ?_ ?_
      rotate_left
      · show Act.put _ (some 6) _ = _
        simp only [Act.put, List.setIfInBounds_toArray, List.set_cons_zero, List.set_cons_succ, i64_w, i32_w]
        rfl
      exact (hX _ _ _ _).1 (st110 _ _ _ _ _ GBx GWx GDx GHx G6x L6x)
    · refine value_ (w1 := W.alloc (.cells #[.slice none 0 0, .int .i64 0] 103)) (v := .pointer (some ⟨W.heap.size, 0, none⟩)) (by rfl) rfl (by go_simp; first | done | rfl) ?_
      have hb : Below W.heap.size W (W.alloc (.cells #[.slice none 0 0, .int .i64 0] 103)) := below_alloc (Below.refl _ _) _
      have GBx := Aside0.mk (blk_below GB.out hb)
      have GWx := Aside0.mk (GW.out.trans (hb.mono GW.out.size))
      have GDx := Aside0.mk (blk_below GD.out hb)
      have GHx := Aside0.mk (Kd.C_below GH.out hb)
      have G7x := Aside0.mk (blk_new W (.cells #[.slice none 0 0, .int .i64 0] 103))
      have L7x := Aside0.mk GW.out.size
      refine hK.out _ _ GBx.out (fun _ => ?_)
      clear hK K
      refine norm_ (a' := ?_) ?_ ?_
      rotate_left
      · show Act.put _ (some 7) _ = _
        simp only [Act.put, List.setIfInBounds_toArray, List.set_cons_zero, List.set_cons_succ, i64_w, i32_w]
        rfl
      exact (hX _ _ _ _).1 (st101 _ _ _ _ _ GBx GWx GDx GHx G7x L7x)
  have st010 : ∀ (g6 : Nat) (W : World), Aside0 (W.heap[B]? = some (.cells #[.slice A n c, .int .i64 level] 103 (0, 0))) → Aside0 (Below w.heap.size w W) → Aside0 (W.heap[g6]? = some (.cells #[.slice none 0 0, .int .i64 0] 103 (0, 0))) → Aside0 (w.heap.size ≤ g6) → X 11 #[true, true, false, false, false, false, false, false, false, true, false, false, false, false] { tmps := #[.agg #[.slice A n c, .int .i64 level], .func (.func 74) #[.pointer (some ⟨P, 0, none⟩)] #[], .func (.func 75) #[.pointer (some ⟨P, 0, none⟩)] #[], .pointer (some ⟨B, 0, none⟩), undef, undef, .pointer (some ⟨g6, 0, none⟩), undef, undef, .agg #[.slice A n c, .int .i64 level], .pointer (some ⟨B, 0, none⟩), .slice A n c, .int .i64 n, .int .i64 m, .int .i64 496, .bool false, undef, undef, undef, .pointer (some ⟨B, 0, none⟩), .slice A n c, .int .i64 n, .bool true, .tuple #[], undef, .agg #[.slice A n c, .int .i64 level], .agg #[.slice A n c, .int .i64 level], undef, undef, undef, undef, undef, undef, undef, undef, undef, undef, undef, undef, undef, undef, undef, undef, undef], defers := [] } W := by
    intro g6 W GB GW G6 L6
    refine (hX _ _ _ _).2 ?_
    have hHeld := GB.out
    refine two_ (i := 2) (j := 10) (Ni := some 27) (Nj := some 7) #[true, true, true, false, false, false, false, false, false, true, false, false, false, false] #[true, true, false, false, false, false, false, false, false, true, true, false, false, false] rfl rfl rfl rfl (two_of HT_.out (by kernel_rfl)) (by decide) (by decide) (fun K hK => ?_) (fun K hK => ?_)
    · refine goes_ Try.func71 (by kernel_rfl) rfl #[.agg #[.slice A n c, .int .i64 level]] (by rfl) rfl rfl (by (try simp only [List.map_toArray, List.map_cons, List.map_nil]); first | done | rfl) ?_
      refine (HDV.out W GW.out).mono ?_
      rintro e W2 ⟨D, v, rfl, _, hd, hq, hb⟩
      refine ⟨_, rfl, ?_⟩
      obtain ⟨av, cv, rfl⟩ := Kd.R_slice1 hq (by rw [HLA.out]; have := H2.out; omega)
      rw [HLA.out] at hd hq
      have GDx := Aside0.mk hd
      have GHx := Aside0.mk (show (Kd.int .i64).C W2 (some av) n (aheads l level) by have h := Kd.R_reads' hq; rw [h.1]; exact h.2.2)
      have GBx := Aside0.mk (blk_below GB.out hb)
      have GWx := Aside0.mk (GW.out.trans (hb.mono GW.out.size))
      have G6x := Aside0.mk (blk_below G6.out hb)
      have L6x := L6
      refine hK.out _ _ GBx.out (fun _ => ?_)
      clear hK K
      refine norm_ (a' := ?_) ?_ ?_
      rotate_left
      · show Act.put _ (some 27) _ = _
        simp only [Act.put, List.setIfInBounds_toArray, List.set_cons_zero, List.set_cons_succ, i64_w, i32_w]
        rfl
      exact (hX _ _ _ _).1 (st110 _ _ _ _ _ GBx GWx GDx GHx G6x L6x)
    · refine value_ (w1 := W.alloc (.cells #[.slice none 0 0, .int .i64 0] 103)) (v := .pointer (some ⟨W.heap.size, 0, none⟩)) (by rfl) rfl (by go_simp; first | done | rfl) ?_
      have hb : Below W.heap.size W (W.alloc (.cells #[.slice none 0 0, .int .i64 0] 103)) := below_alloc (Below.refl _ _) _
      have GBx := Aside0.mk (blk_below GB.out hb)
      have GWx := Aside0.mk (GW.out.trans (hb.mono GW.out.size))
      have G6x := Aside0.mk (blk_below G6.out hb)
      have L6x := L6
      have G7x := Aside0.mk (blk_new W (.cells #[.slice none 0 0, .int .i64 0] 103))
      have L7x := Aside0.mk GW.out.size
      have GNx := Aside0.mk (show ¬ g6 = W.heap.size by have := blk_lt G6.out; omega)
      refine hK.out _ _ GBx.out (fun _ => ?_)
      clear hK K
      refine norm_ (a' := ?_) ?_ ?_
      rotate_left
      · show Act.put _ (some 7) _ = _
        simp only [Act.put, List.setIfInBounds_toArray, List.set_cons_zero, List.set_cons_succ, i64_w, i32_w]
        rfl
      exact (hX _ _ _ _).1 (st011 _ _ _ GBx GWx G6x L6x G7x L7x GNx)
  have st001 : ∀ (g7 : Nat) (W : World), Aside0 (W.heap[B]? = some (.cells #[.slice A n c, .int .i64 level] 103 (0, 0))) → Aside0 (Below w.heap.size w W) → Aside0 (W.heap[g7]? = some (.cells #[.slice none 0 0, .int .i64 0] 103 (0, 0))) → Aside0 (w.heap.size ≤ g7) → X 11 #[true, true, false, false, false, false, false, false, false, false, true, false, false, false] { tmps := #[.agg #[.slice A n c, .int .i64 level], .func (.func 74) #[.pointer (some ⟨P, 0, none⟩)] #[], .func (.func 75) #[.pointer (some ⟨P, 0, none⟩)] #[], .pointer (some ⟨B, 0, none⟩), undef, undef, undef, .pointer (some ⟨g7, 0, none⟩), undef, .agg #[.slice A n c, .int .i64 level], .pointer (some ⟨B, 0, none⟩), .slice A n c, .int .i64 n, .int .i64 m, .int .i64 496, .bool false, undef, undef, undef, .pointer (some ⟨B, 0, none⟩), .slice A n c, .int .i64 n, .bool true, .tuple #[], undef, .agg #[.slice A n c, .int .i64 level], .agg #[.slice A n c, .int .i64 level], undef, undef, undef, undef, undef, undef, undef, undef, undef, undef, undef, undef, undef, undef, undef, undef, undef], defers := [] } W := by
    intro g7 W GB GW G7 L7
    refine (hX _ _ _ _).2 ?_
    have hHeld := GB.out
    refine two_ (i := 2) (j := 9) (Ni := some 27) (Nj := some 6) #[true, true, true, false, false, false, false, false, false, false, true, false, false, false] #[true, true, false, false, false, false, false, false, false, true, true, false, false, false] rfl rfl rfl rfl (two_of HT_.out (by kernel_rfl)) (by decide) (by decide) (fun K hK => ?_) (fun K hK => ?_)
    · refine goes_ Try.func71 (by kernel_rfl) rfl #[.agg #[.slice A n c, .int .i64 level]] (by rfl) rfl rfl (by (try simp only [List.map_toArray, List.map_cons, List.map_nil]); first | done | rfl) ?_
      refine (HDV.out W GW.out).mono ?_
      rintro e W2 ⟨D, v, rfl, _, hd, hq, hb⟩
      refine ⟨_, rfl, ?_⟩
      obtain ⟨av, cv, rfl⟩ := Kd.R_slice1 hq (by rw [HLA.out]; have := H2.out; omega)
      rw [HLA.out] at hd hq
      have GDx := Aside0.mk hd
      have GHx := Aside0.mk (show (Kd.int .i64).C W2 (some av) n (aheads l level) by have h := Kd.R_reads' hq; rw [h.1]; exact h.2.2)
      have GBx := Aside0.mk (blk_below GB.out hb)
      have GWx := Aside0.mk (GW.out.trans (hb.mono GW.out.size))
      have G7x := Aside0.mk (blk_below G7.out hb)
      have L7x := L7
      refine hK.out _ _ GBx.out (fun _ => ?_)
      clear hK K
      refine norm_ (a' := ?_) ?_ ?_
      rotate_left
      · show Act.put _ (some 27) _ = _
        simp only [Act.put, List.setIfInBounds_toArray, List.set_cons_zero, List.set_cons_succ, i64_w, i32_w]
        rfl
      exact (hX _ _ _ _).1 (st101 _ _ _ _ _ GBx GWx GDx GHx G7x L7x)
    · refine value_ (w1 := W.alloc (.cells #[.slice none 0 0, .int .i64 0] 103)) (v := .pointer (some ⟨W.heap.size, 0, none⟩)) (by rfl) rfl (by go_simp; first | done | rfl) ?_
      have hb : Below W.heap.size W (W.alloc (.cells #[.slice none 0 0, .int .i64 0] 103)) := below_alloc (Below.refl _ _) _
      have GBx := Aside0.mk (blk_below GB.out hb)
      have GWx := Aside0.mk (GW.out.trans (hb.mono GW.out.size))
      have G7x := Aside0.mk (blk_below G7.out hb)
      have L7x := L7
      have G6x := Aside0.mk (blk_new W (.cells #[.slice none 0 0, .int .i64 0] 103))
      have L6x := Aside0.mk GW.out.size
      have GNx := Aside0.mk (show ¬ W.heap.size = g7 by have := blk_lt G7.out; omega)
      refine hK.out _ _ GBx.out (fun _ => ?_)
      clear hK K
      refine norm_ (a' := ?_) ?_ ?_
      rotate_left
      · show Act.put _ (some 6) _ = _
        simp only [Act.put, List.setIfInBounds_toArray, List.set_cons_zero, List.set_cons_succ, i64_w, i32_w]
        rfl
      exact (hX _ _ _ _).1 (st011 _ _ _ GBx GWx G6x L6x G7x L7x GNx)
  have st000 : ∀  (W : World), Aside0 (W.heap[B]? = some (.cells #[.slice A n c, .int .i64 level] 103 (0, 0))) → Aside0 (Below w.heap.size w W) → X 12 #[true, true, false, false, false, false, false, false, false, false, false, false, false, false] { tmps := #[.agg #[.slice A n c, .int .i64 level], .func (.func 74) #[.pointer (some ⟨P, 0, none⟩)] #[], .func (.func 75) #[.pointer (some ⟨P, 0, none⟩)] #[], .pointer (some ⟨B, 0, none⟩), undef, undef, undef, undef, undef, .agg #[.slice A n c, .int .i64 level], .pointer (some ⟨B, 0, none⟩), .slice A n c, .int .i64 n, .int .i64 m, .int .i64 496, .bool false, undef, undef, undef, .pointer (some ⟨B, 0, none⟩), .slice A n c, .int .i64 n, .bool true, .tuple #[], undef, .agg #[.slice A n c, .int .i64 level], .agg #[.slice A n c, .int .i64 level], undef, undef, undef, undef, undef, undef, undef, undef, undef, undef, undef, undef, undef, undef, undef, undef, undef], defers := [] } W := by
    intro W GB GW
    refine (hX _ _ _ _).2 ?_
    have hHeld := GB.out
    refine three_ (i := 2) (j := 9) (k := 10) (Ni := some 27) (Nj := some 6) (Nk := some 7) #[true, true, true, false, false, false, false, false, false, false, false, false, false, false] #[true, true, false, false, false, false, false, false, false, true, false, false, false, false] #[true, true, false, false, false, false, false, false, false, false, true, false, false, false] rfl rfl rfl rfl rfl rfl (three_of HT_.out (by kernel_rfl)) (by decide) (by decide) (by decide) (fun K hK => ?_) (fun K hK => ?_) (fun K hK => ?_)
    · refine goes_ Try.func71 (by kernel_rfl) rfl #[.agg #[.slice A n c, .int .i64 level]] (by rfl) rfl rfl (by (try simp only [List.map_toArray, List.map_cons, List.map_nil]); first | done | rfl) ?_
      refine (HDV.out W GW.out).mono ?_
      rintro e W2 ⟨D, v, rfl, _, hd, hq, hb⟩
      refine ⟨_, rfl, ?_⟩
      obtain ⟨av, cv, rfl⟩ := Kd.R_slice1 hq (by rw [HLA.out]; have := H2.out; omega)
      rw [HLA.out] at hd hq
      have GDx := Aside0.mk hd
      have GHx := Aside0.mk (show (Kd.int .i64).C W2 (some av) n (aheads l level) by have h := Kd.R_reads' hq; rw [h.1]; exact h.2.2)
      have GBx := Aside0.mk (blk_below GB.out hb)
      have GWx := Aside0.mk (GW.out.trans (hb.mono GW.out.size))
      refine hK.out _ _ GBx.out (fun _ => ?_)
      clear hK K
      refine norm_ (a' := ?_) ?_ ?_
      rotate_left
      · show Act.put _ (some 27) _ = _
        simp only [Act.put, List.setIfInBounds_toArray, List.set_cons_zero, List.set_cons_succ, i64_w, i32_w]
        rfl
      exact (hX _ _ _ _).1 (st100 _ _ _ _ GBx GWx GDx GHx)
    · refine value_ (w1 := W.alloc (.cells #[.slice none 0 0, .int .i64 0] 103)) (v := .pointer (some ⟨W.heap.size, 0, none⟩)) (by rfl) rfl (by go_simp; first | done | rfl) ?_
      have hb : Below W.heap.size W (W.alloc (.cells #[.slice none 0 0, .int .i64 0] 103)) := below_alloc (Below.refl _ _) _
      have GBx := Aside0.mk (blk_below GB.out hb)
      have GWx := Aside0.mk (GW.out.trans (hb.mono GW.out.size))
      have G6x := Aside0.mk (blk_new W (.cells #[.slice none 0 0, .int .i64 0] 103))
      have L6x := Aside0.mk GW.out.size
      refine hK.out _ _ GBx.out (fun _ => ?_)
      clear hK K
      refine norm_ (a' := ?_) ?_ ?_
      rotate_left
      · show Act.put _ (some 6) _ = _
        simp only [Act.put, List.setIfInBounds_toArray, List.set_cons_zero, List.set_cons_succ, i64_w, i32_w]
        rfl
      exact (hX _ _ _ _).1 (st010 _ _ GBx GWx G6x L6x)
    · refine value_ (w1 := W.alloc (.cells #[.slice none 0 0, .int .i64 0] 103)) (v := .pointer (some ⟨W.heap.size, 0, none⟩)) (by rfl) rfl (by go_simp; first | done | rfl) ?_
      have hb : Below W.heap.size W (W.alloc (.cells #[.slice none 0 0, .int .i64 0] 103)) := below_alloc (Below.refl _ _) _
      have GBx := Aside0.mk (blk_below GB.out hb)
      have GWx := Aside0.mk (GW.out.trans (hb.mono GW.out.size))
      have G7x := Aside0.mk (blk_new W (.cells #[.slice none 0 0, .int .i64 0] 103))
      have L7x := Aside0.mk GW.out.size
      refine hK.out _ _ GBx.out (fun _ => ?_)
      clear hK K
      refine norm_ (a' := ?_) ?_ ?_
      rotate_left
      · show Act.put _ (some 7) _ = _
        simp only [Act.put, List.setIfInBounds_toArray, List.set_cons_zero, List.set_cons_succ, i64_w, i32_w]
        rfl
      exact (hX _ _ _ _).1 (st001 _ _ GBx GWx G7x L7x)
  exact st000 w1 GB GW
end Go.Proofs.Ytalncokpbgbccaa.E

