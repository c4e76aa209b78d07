-- A slim copy of Mg, written by wip/tools/prune2.py.
import Derived.Lib.Strings
import Derived.Test.YtalncokpbgbccaaKMc
import Derived.Test.YtalncokpbgbccaaKNU
import Derived.Test.YtalncokpbgbccaaKNx0
/- Joined: NW, NV, NY. -/
/- Byte sequences: their order, their common beginning, and the least one between two. -/
namespace Go.Proofs.Ytalncokpbgbccaa.E
set_option linter.unusedVariables false
set_option linter.unusedSimpArgs false
open Go.RowKit Go.Proofs.YtalncokpbgbccaaW.PrintWords Go.Proofs.YtalncokpbgbccaaW.PrintLast Go.Proofs.YtalncokpbgbccaaW.PrintMore

abbrev Bytes := List UInt8
def ofL (l : Bytes) : ByteArray := ⟨l.toArray⟩
def toL (s : ByteArray) : Bytes := s.data.toList
theorem toL_ofL (l : Bytes) : toL (ofL l) = l := rfl
theorem ofL_toL (s : ByteArray) : ofL (toL s) = s := by cases s; rfl
theorem toL_inj {a b : ByteArray} (h : toL a = toL b) : a = b := by rw [← ofL_toL a, ← ofL_toL b, h]
theorem size_ofL (l : Bytes) : (ofL l).size = l.length := rfl
theorem extract_ofL (l : Bytes) (a b : Nat) : (ofL l).extract a b = ofL ((l.drop a).take (b - a)) := toL_inj (by rw [toL_ofL]; exact Lib.extract_data _ _ _)
theorem extract_take (l : Bytes) (n : Nat) : (ofL l).extract 0 n = ofL (l.take n) := by rw [extract_ofL]; simp
theorem append_ofL (a b : Bytes) : ofL a ++ ofL b = ofL (a ++ b) := by
  apply toL_inj
  rw [toL_ofL]
  simp [toL, ofL]
theorem bt_ofL (l : Bytes) (i : Nat) (h : i < l.length) : bt (ofL l) i = (l[i].toNat : Int) := by
  have h' : (i : Int).toNat < (ofL l).size := by simpa [size_ofL] using h
  unfold bt
  rw [dif_pos h']
  rfl
theorem toList_ofL (l : Bytes) : (ofL l).toList = l := by rw [Lib.toList_data]; rfl
def numsOf (l : Bytes) : List Int := l.map fun b => (b.toNat : Int)
theorem strOfNums_numsOf (l : Bytes) : strOfNums (numsOf l) = ofL l := by
  unfold strOfNums numsOf ofL
  congr 1
  rw [List.map_map]
  congr 1
  conv => rhs; rw [← List.map_id l]
  apply List.map_congr_left
  intro b _
  simp
theorem bt_getD (l : Bytes) (n : Nat) (h : n < l.length) : bt (ofL l) n = ((l.getD n 0).toNat : Int) := by rw [bt_ofL l n h]; simp [h]
theorem inc_nums (b : UInt8) : ([((b.toNat : Int) + 1) % 256] : List Int) = numsOf [b + 1] := by
  simp [numsOf, UInt8.toNat_add]
/-- the length of the common beginning -/
def lcp : Bytes → Bytes → Nat
  | x :: a, y :: b => if x = y then lcp a b + 1 else 0
  | _, _ => 0
theorem lcp_le (a b : Bytes) : lcp a b ≤ a.length ∧ lcp a b ≤ b.length := by
  fun_induction lcp a b with
  | case1 x a b ih => simp only [List.length_cons]; omega
  | case2 => simp
  | case3 => simp
theorem lcp_nil_left (b : Bytes) : lcp [] b = 0 := by unfold lcp; rfl
theorem lcp_nil_right (a : Bytes) : lcp a [] = 0 := by cases a <;> rfl
theorem lcp_drop (a b : Bytes) (i : Nat) (h0 : i < a.length) (h1 : i < b.length) : lcp (a.drop i) (b.drop i) = if a.getD i 0 = b.getD i 0 then lcp (a.drop (i + 1)) (b.drop (i + 1)) + 1 else 0 := by
  rw [List.drop_eq_getElem_cons h0, List.drop_eq_getElem_cons h1, lcp]
  simp [h0, h1]
theorem toNat_eq (x y : UInt8) : ((x.toNat : Int) = (y.toNat : Int)) ↔ x = y := by
  rw [← UInt8.toNat_inj]; omega
theorem encPrefix_loop (a b : Bytes) (h0 : a.length ≤ 1000000) (h1 : b.length ≤ 1000000) : ∀ k i, i ≤ a.length → i ≤ b.length → a.length - i < k → enc_Prefix.l0 k (ofL a) (ofL b) (i : Int) = some ((i + lcp (a.drop i) (b.drop i) : Nat) : Int) := by
  intro k
  induction k with
  | zero => intro i _ _ h; omega
  | succ k ih =>
    intro i hi hj hk
    unfold enc_Prefix.l0
    rw [size_ofL, size_ofL]
    have hmn : mn (a.length : Int) (b.length : Int) = ((min a.length b.length : Nat) : Int) := by unfold mn; split <;> omega
    rw [hmn]
    by_cases hlt : i < a.length ∧ i < b.length
    · rw [if_pos (by omega), if_pos (by omega), if_pos (by omega), if_pos (by omega), bt_getD a i hlt.1, bt_getD b i hlt.2, lcp_drop a b i hlt.1 hlt.2]
      by_cases he : a.getD i 0 = b.getD i 0
      · rw [if_pos ((toNat_eq _ _).mpr he), if_pos he, w64 _ (by omega) (by omega), show ((i : Int) + 1) = ((i + 1 : Nat) : Int) from by omega, ih (i + 1) (by omega) (by omega) (by omega)]
        congr 2
        omega
      · rw [if_neg (fun h => he ((toNat_eq _ _).mp h)), if_neg he]; rfl
    · rw [if_neg (by omega)]
      have : lcp (a.drop i) (b.drop i) = 0 := by
        by_cases h : i = a.length
        · rw [h, List.drop_length, lcp_nil_left]
        · rw [show i = b.length by omega, List.drop_length, lcp_nil_right]
      rw [this]; rfl
theorem encPrefix (a b : Bytes) (h0 : a.length ≤ 1000000) (h1 : b.length ≤ 1000000) (k : Nat) (hk : a.length < k) : enc_Prefix.f k (ofL a) (ofL b) = some (lcp a b : Int) := by
  have := encPrefix_loop a b h0 h1 k 0 (by omega) (by omega) (by omega)
  simpa [enc_Prefix.f] using this
def cmpL : Bytes → Bytes → Int
  | [], [] => 0
  | [], _ :: _ => -1
  | _ :: _, [] => 1
  | x :: a, y :: b => if x.toNat < y.toNat then -1 else if y.toNat < x.toNat then 1 else cmpL a b
theorem cmpB_cmpL (a b : Bytes) : (if Op.bytesLess a b then (-1 : Int) else if Op.bytesLess b a then 1 else 0) = cmpL a b := by
  fun_induction cmpL a b with
  | case1 => rfl
  | case2 => rfl
  | case3 => rfl
  | case4 x a y b h => rw [less_cons, if_pos h]; rfl
  | case5 x a y b h h2 => rw [less_cons, less_cons, if_neg h, if_pos h2, if_pos h2]; rfl
  | case6 x a y b h h2 ih => rw [less_cons, less_cons, if_neg h, if_neg h2, if_neg h2, if_neg h]; exact ih
theorem less_cmpL (a b : Bytes) : (Op.bytesLess a b = true) ↔ cmpL a b = -1 := by
  rw [← cmpB_cmpL]
  cases Op.bytesLess a b
  · cases Op.bytesLess b a <;> simp
  · simp
def betweenL (a b : Bytes) : Option Bytes :=
  if cmpL a b = -1 then some (a.take (lcp a b) ++ [if lcp a b < a.length then a.getD (lcp a b) 0 + 1 else 0]) else none
def btwR (o : Option Bytes) : ByteArray × Int := match o with | some x => (ofL x, 0) | none => (⟨#[]⟩, 1)
theorem take_lcp (a b : Bytes) : b.take (lcp a b) = a.take (lcp a b) := by
  fun_induction lcp a b with
  | case1 x a b ih => simp [ih]
  | case2 => simp
  | case3 => simp
theorem zero_nums : ([0] : List Int) = numsOf [0] := by rfl
theorem encBetween (a b : Bytes) (h0 : a.length ≤ 1000000) (h1 : b.length ≤ 1000000) (k : Nat) (hk : a.length < k) : enc_Between.f k (ofL a) (ofL b) = some (btwR (betweenL a b)) := by
  have hl := lcp_le a b
  rw [enc_Between.f, toList_ofL, toList_ofL, betweenL]
  by_cases hc : cmpL a b = -1
  · rw [if_pos ((less_cmpL a b).mpr hc), if_pos hc, encPrefix a b h0 h1 _ hk]
    simp only [Option.bind_some, size_ofL, Int.toNat_natCast]
    by_cases hn : lcp a b < a.length
    · rw [if_pos (by omega), if_pos (by omega), if_pos (by omega), bt_getD a _ hn, inc_nums, strOfNums_numsOf, extract_take, append_ofL, take_lcp, if_pos (by simp only [size_ofL, List.length_take, List.length_singleton]; omega), if_pos hn]
      rfl
    · rw [if_neg (by omega), if_pos (by omega), if_pos (by omega), zero_nums, strOfNums_numsOf, extract_take, append_ofL, take_lcp, if_pos (by simp only [size_ofL, List.length_take, List.length_singleton]; omega), if_neg hn]
      rfl
  · rw [if_neg (fun h => hc ((less_cmpL a b).mp h)), if_neg hc]; rfl
/-- Between, from the first byte on -/
def btw : Bytes → Bytes → Bytes
  | [], _ => [0]
  | x :: _, [] => [x]
  | x :: a, y :: b => if x = y then x :: btw a b else [x + 1]
theorem cmpL_cons' (x y : UInt8) (a b : Bytes) : cmpL (x :: a) (y :: b) = if x.toNat < y.toNat then -1 else if y.toNat < x.toNat then 1 else cmpL a b := rfl
theorem cmpL_same' (x : UInt8) (a b : Bytes) : cmpL (x :: a) (x :: b) = cmpL a b := by rw [cmpL_cons', if_neg (by omega), if_neg (by omega)]
theorem cmpL_nil' (x : Bytes) : cmpL x [] ≠ -1 := by cases x <;> simp [cmpL]
theorem between_btw (a b : Bytes) (h : cmpL a b = -1) : betweenL a b = some (btw a b) := by
  rw [betweenL, if_pos h]
  congr 1
  fun_induction btw a b with
  | case1 b => rw [lcp_nil_left]; simp
  | case2 x a => exact absurd h (cmpL_nil' _)
  | case3 x a b ih =>
    rw [cmpL_same'] at h
    rw [lcp, if_pos rfl, ← ih h]
    simp
  | case4 x a y b hne => rw [lcp, if_neg hne]; simp
end Go.Proofs.Ytalncokpbgbccaa.E

/- The packer: it takes a part, and a separator. -/
namespace Go.Proofs.Ytalncokpbgbccaa.E
set_option linter.unusedVariables false
set_option linter.unusedSimpArgs false
open Go.RowKit Go.Proofs.YtalncokpbgbccaaW.PrintWords Go.Proofs.YtalncokpbgbccaaW.PrintLast Go.Proofs.YtalncokpbgbccaaW.PrintMore

def rg74_1_T : Bool × List (List Nat × List Nat) := (true, [([], []), ([], []), ([1], [1]), ([2], [2]), ([3], [3]), ([], []), ([5], [5]), ([6], [6]), ([7], [7]), ([4, 8, 7], [4, 8]), ([0, 0, 1, 2, 3, 4, 5, 6, 7, 8, 9], [0]), ([10, 0, 1, 2, 3, 4, 5, 6, 7, 8, 9], [10]), ([11, 9, 9, 0, 1, 2, 3, 4, 5, 6, 7, 8, 9], [9, 11])])
def rg74_1_B : List Nat := [0, 0, 2, 6, 14, 0, 32, 96, 224, 510, 1023, 2047, 4095]
theorem rg74_1_tab : rtab .any (opsOf Try.f74 1) = rg74_1_T := by kernel_rfl
theorem rg74_1_bits : waitsOk rg74_1_T.2 rg74_1_B = true := by kernel_rfl
/-- the kind of a node: a row of entries -/
abbrev kN : Kd (List S77) := Kd.slice 77 k77
theorem heap77 : Kd.Heap k77 := Kd.heap_iso _ (Kd.heap_pair Kd.heap_string (Kd.heap_pair Kd.heap_string (Kd.heap_pair (Kd.heap_int _) (Kd.heap_pair (Kd.heap_int _) (Kd.heap_pair (Kd.heap_int _) (Kd.heap_pair (Kd.heap_int _) (Kd.heap_iso _ (Kd.heap_pair (Kd.heap_int _) (Kd.heap_pair (Kd.heap_int _) (Kd.heap_pair (Kd.heap_int _) (Kd.heap_pair (Kd.heap_int _) (Kd.heap_pair (Kd.heap_int _) (Kd.heap_pair (Kd.heap_int _) (Kd.heap_pair (Kd.heap_int _) (Kd.heap_pair (Kd.heap_int _) (Kd.heap_pair (Kd.heap_int _) (Kd.heap_pair (Kd.heap_int _) (Kd.heap_pair (Kd.heap_int _) (Kd.heap_pair (Kd.heap_int _) (Kd.heap_pair (Kd.heap_int _) (Kd.heap_pair (Kd.heap_int _) (Kd.heap_pair (Kd.heap_int _) (Kd.heap_int _)))))))))))))))))))))))
/-- what a packer in block P holds -/
def Pk (W : World) (P : Nat) (parts : List (List S77)) (seps : List ByteArray) : Prop :=
  ∃ v1 v2, W.heap[P]? = some (.cells #[v1, v2] 109 (0, 0)) ∧ kN.R 22 W (P + 1) (fun _ => True) v1 parts ∧ Kd.string.R 9 W (P + 1) (fun _ => True) v2 seps
/-- what packing keeps: all below P, and all rows of entries and boxes -/
structure KT (P : Nat) (w W : World) : Prop where
  below : Below P w W
  typed : ∀ k, k < w.heap.size → ∀ cells t, w.heap[k]? = some (.cells cells t (0, 0)) → t ≠ 109 → t ≠ 22 → t ≠ 9 → W.heap[k]? = w.heap[k]?
theorem KT.refl (P : Nat) (w : World) : KT P w w := ⟨Below.refl _ _, fun _ _ _ _ _ _ _ _ => rfl⟩
theorem KT.trans {P : Nat} {a b c : World} (h : KT P a b) (k : KT P b c) : KT P a c :=
  ⟨h.below.trans k.below, fun i hi cells t hc h1 h2 h3 => by
    have e := h.typed i hi cells t hc h1 h2 h3
    exact (k.typed i (Nat.lt_of_lt_of_le hi h.below.size) cells t (e.trans hc) h1 h2 h3).trans e⟩
theorem KT.of_below {P : Nat} {w W : World} (h : Below w.heap.size w W) (hP : P ≤ w.heap.size) : KT P w W := ⟨h.mono hP, fun k hk _ _ _ _ _ _ => h.block k hk⟩
theorem KT.of_grown {P : Nat} {w W : World} {row : Option Nat} (h : w.grownBy W row) (hP : P ≤ w.heap.size) (hr : ∀ k, row = some k → P ≤ k ∧ ∃ cells t, w.heap[k]? = some (.cells cells t (0, 0)) ∧ (t = 22 ∨ t = 9)) : KT P w W := by
  refine ⟨⟨h.os, h.tape, h.output, h.size, fun k hk => h.block k (by omega) (fun e => ?_)⟩, fun k hk cells t hc h1 h2 h3 => h.block k hk (fun e => ?_)⟩
  · have := (hr k e.symm).1; omega
  · obtain ⟨_, cells', t', hc', ht⟩ := hr k e.symm
    rw [hc] at hc'
    injection hc' with hc'
    injection hc' with _ hc'
    subst hc'
    rcases ht with rfl | rfl
    · exact h2 rfl
    · exact h3 rfl
theorem KT.set {P : Nat} {w : World} {cs : Array Value} (h : w.heap[P]? = some (.cells cs 109 (0, 0))) (j : Nat) (u : Value) : KT P w (w.setCell ⟨P, j, none⟩ u) := by
  refine ⟨(Below.refl _ _).setCell (p := ⟨P, j, none⟩) (Nat.le_refl _) u, fun k hk cells t hc h1 _ _ => ?_⟩
  have : k ≠ P := by
    rintro rfl
    rw [h] at hc
    injection hc with hc
    injection hc with _ hc
    exact h1 hc.symm
  exact Below.heap_setCell w ⟨P, j, none⟩ u k this
/-- a block that packing leaves alone -/
def Safe (P : Nat) (w : World) (k : Nat) : Prop := k < P ∨ ∃ cells t, w.heap[k]? = some (.cells cells t (0, 0)) ∧ t ≠ 109 ∧ t ≠ 22 ∧ t ≠ 9
theorem KT.safe {P : Nat} {w W : World} (h : KT P w W) {k : Nat} (hs : Safe P w k) (hk : k < w.heap.size) : W.heap[k]? = w.heap[k]? := by
  rcases hs with hs | ⟨cells, t, hc, h1, h2, h3⟩
  · exact h.below.block k hs
  · exact h.typed k hk cells t hc h1 h2 h3
theorem KT.F {P : Nat} {w W : World} {A : Option Addr} {n : Nat} {xs : List S77} (h : KT P w W) (hf : Kd.F k77 w (Safe P w) A n xs) : Kd.F k77 W (Safe P W) A n xs := by
  refine Kd.F_mono (Kd.F_step (Kd.F_bound hf) (fun k hk hlt => h.safe hk.1 hlt)) (fun k hk => ?_)
  rcases hk.1 with hs | ⟨cells, t, hc, h1⟩
  · exact Or.inl hs
  · exact Or.inr ⟨cells, t, (h.safe hk.1 hk.2).trans hc, h1⟩
theorem safe_own {P base n c : Nat} {w : World} {A : Option Addr} {xs : List S77} (h : Ow w base (.slice A n c) xs) : Kd.F k77 w (Safe P w) A n xs := by
  refine Kd.F_mono (Kd.R_F (Kd.R_bound h)) (fun k hk => Or.inr ?_)
  obtain ⟨_, _, _, q, hq, cells, hc⟩ := hk
  rcases List.mem_cons.mp hq with rfl | hq
  · exact ⟨cells, 77, hc, by decide, by decide, by decide⟩
  · exact absurd (show q ∈ ([] : List Nat) from hq) List.not_mem_nil
theorem safe_came {P : Nat} {w W : World} {A : Option Addr} {n : Nat} {xs : List S77} (h : Kd.C k77 w A n xs) (hb : Below w.heap.size w W) (hP : w.heap.size ≤ P) : Kd.F k77 W (Safe P W) A n xs :=
  Kd.F_mono (Kd.F_below (Kd.C_F heap77 h) hb) (fun k hk => Or.inl (by omega))
theorem kN_only {t : Nat} (h1 : 22 ≠ t) (h2 : 77 ≠ t) : ∀ q, q ∈ 22 :: kN.E → q ≠ t := by
  intro q hq
  rcases List.mem_cons.mp hq with rfl | h
  · exact h1
  · rcases List.mem_cons.mp (show q ∈ 77 :: ([] : List Nat) from h) with rfl | h
    · exact h2
    · exact absurd h List.not_mem_nil
theorem str_only {t : Nat} (h1 : 9 ≠ t) : ∀ q, q ∈ 9 :: Kd.string.E → q ≠ t := by
  intro q hq
  rcases List.mem_cons.mp hq with rfl | h
  · exact h1
  · exact absurd (show q ∈ ([] : List Nat) from h) List.not_mem_nil
theorem R_beside {α β : Type} {d : Kd α} {d' : Kd β} {e e' base base' : Nat} {ok ok' : Nat → Prop} {w : World} {v u : Value} {xs : List α} {ys : List β} (h : d.R e w base ok v xs) (h' : d'.R e' w base' ok' u ys) (hq : ∀ q, q ∈ e :: d.E → q ≠ e') : d.R e w base (fun k => ok k ∧ some k ≠ u.ownBlock) v xs :=
  Kd.R_mono (Kd.R_bound h) (fun k hk => ⟨hk.1, fun he => by
    obtain ⟨_, _, _, q, hq', cells, hc⟩ := hk
    obtain ⟨cells', hc'⟩ := Kd.R_typed h' k he.symm
    rw [hc] at hc'
    injection hc' with hc'
    injection hc' with _ hc'
    exact hq q hq' hc'⟩)
set_option maxRecDepth 100000 in
set_option maxHeartbeats 8000000 in
theorem part_c (l : List S77) (A : Option Addr) (n c : Nat) (level : Int) (w : World) (P : Nat) (parts : List (List S77)) (seps : List ByteArray) (hn : l.length = n) (hr : Kd.C k77 w A n l) (hle : n ≤ 1000000) (hp : Pk w P parts seps) (hpl : parts.length ≤ 1000000) :
    Calls Try.prog 74 #[.pointer (some ⟨P, 0, none⟩), .agg #[.slice A n c, .int .i64 level]] w fun e w' => e = .returned (.tuple #[]) ∧ Pk w' P (parts ++ [l]) seps ∧ KT P w w' := by
  obtain ⟨v1, v2, hP, hR1, hR2⟩ := hp
  have HCL := Aside0.mk (fun (W : World) (hb : Below w.heap.size w W) => (by subst hn; exact clone_c l A c W (Kd.C_below hr hb) hle : Calls Try.prog 68 #[.slice A n c] W fun e w' => ∃ v, e = .returned v ∧ Ow w' W.heap.size v l ∧ Below W.heap.size W w'))
  have hPlt : P < w.heap.size := blk_lt hP
  have HPL := Aside0.mk hpl
  have hB0 : Below w.heap.size w (w.alloc (.cells #[.slice A n c, .int .i64 level] 103)) := below_alloc (Below.refl _ _) _
  have hGB : (w.alloc (.cells #[.slice A n c, .int .i64 level] 103)).heap[w.heap.size]? = some (.cells #[.slice A n c, .int .i64 level] 103 (0, 0)) := blk_new w _
  have hGP : (w.alloc (.cells #[.slice A n c, .int .i64 level] 103)).heap[P]? = some (.cells #[v1, v2] 109 (0, 0)) := blk_alloc hP _
  have hG1 := Kd.R_alloc hR1 (.cells #[.slice A n c, .int .i64 level] 103)
  have hG2 := Kd.R_alloc hR2 (.cells #[.slice A n c, .int .i64 level] 103)
  obtain ⟨A1, n1, c1, rfl⟩ : ∃ A n c, v1 = Value.slice A n c := by obtain ⟨A, c, h⟩ := Kd.R_slice hR1; exact ⟨_, _, _, h⟩
  have HPLT := Aside0.mk hPlt
  clear hr hle hpl hP hR1 hR2 hn hPlt
  go_enter Try.func74, Try.ntmps74
  go_wp2_with fail
  generalize w.alloc (.cells #[.slice A n c, .int .i64 level] 103) = W0 at hB0 hGB hGP hG1 hG2 ⊢
  obtain ⟨B, hB⟩ : ∃ B, w.heap.size = B := ⟨_, rfl⟩
  rw [hB] at hGB
  simp only [hB]
  have HBE := Aside0.mk hB
  clear hB
  refine start_ (n := 13) (S := fun W => W.heap[B]? = some (.cells #[.slice A n c, .int .i64 level] 103 (0, 0)) ∧ W.heap[P]? = some (.cells #[.slice A1 n1 c1, v2] 109 (0, 0))) (ds := [12]) #[false, false, false, false, false, false, false, false, false, false, false, false, false] (by kernel_rfl) rfl rfl (⟨blk_drew hGB, blk_drew hGP⟩) (fun hHeld => ?_)
  refine with_tabW rg74_1_tab rg74_1_bits (fun HT_ HW_ => ?_)
  have GB := Aside0.mk (blk_drew hGB)
  have GP := Aside0.mk (blk_drew hGP)
  have G1 := Aside0.mk (Kd.R_drew hG1)
  have G2 := Aside0.mk (Kd.R_drew hG2)
  have GW := Aside0.mk (below_drew1 hB0)
  clear hGB hGP hG1 hG2 hB0
  generalize W0.drew = w1 at GB GP G1 G2 GW hHeld ⊢
  refine pure_ (i := 0) (N := some 4) (v := ?_) (a' := ?_) #[true, false, false, false, false, false, false, false, false, false, false, false, false] rfl rfl (any_of HT_.out (by kernel_rfl)) (fun _ _ _ h => h) (Or.inl ⟨by rfl, ?_⟩) ?_ ?_
  rotate_left
  · intro w'
    go_simp
    with_reducible rfl
  rotate_left
  · simp only [Act.put, List.setIfInBounds_toArray, List.set_cons_zero, List.set_cons_succ, i64_w, i32_w]
    rfl
  refine pure_ (i := 1) (N := some 5) (v := ?_) (a' := ?_) #[true, true, false, false, false, false, false, false, false, false, false, false, false] rfl rfl (any_of HT_.out (by kernel_rfl)) (fun _ _ _ h => h) (Or.inl ⟨by rfl, ?_⟩) ?_ ?_
  rotate_left
  · intro w'
    go_simp
    with_reducible rfl
  rotate_left
  · simp only [Act.put, List.setIfInBounds_toArray, List.set_cons_zero, List.set_cons_succ, i64_w, i32_w]
    rfl
  refine pure_ (i := 2) (N := some 6) (v := ?_) (a' := ?_) #[true, true, true, false, false, false, false, false, false, false, false, false, false] rfl rfl (any_of HT_.out (by kernel_rfl)) (fun _ _ _ h => h) (Or.inl ⟨by rfl, ?_⟩) ?_ ?_
  rotate_left
  · intro w'
    go_simp
    with_reducible rfl
  rotate_left
  · simp only [Act.put, List.setIfInBounds_toArray, List.set_cons_zero, List.set_cons_succ, i64_w, i32_w]
    rfl
  refine pure_ (i := 3) (N := some 7) (v := ?_) (a' := ?_) #[true, true, true, true, false, false, false, false, false, false, false, false, false] rfl rfl (any_of HT_.out (by kernel_rfl)) (fun _ _ _ h => h) (Or.inl ⟨by rfl, ?_⟩) ?_ ?_
  rotate_left
  · intro w'
    go_simp
    with_reducible rfl
  rotate_left
  · simp only [Act.put, List.setIfInBounds_toArray, List.set_cons_zero, List.set_cons_succ, i64_w, i32_w]
    rfl
  refine take_ (i := 4) (N := some 8) (v := ?_) (a' := ?_) #[true, true, true, true, true, false, false, false, false, false, false, false, false] rfl rfl (take_ofW HT_.out HW_.out (by kernel_rfl)) (fun _ _ _ h => h) (Or.inl ⟨by rfl, ?_⟩) hHeld ?_ ?_
  rotate_left
  · intro w' hW
    have q0 : w'.cell? ⟨B, 0, none⟩ = some (.slice A n c) := by rw [blk_cell hW.1]; rfl
    have q2 : w'.cell? ⟨P, 0, none⟩ = some (.slice A1 n1 c1) := by rw [blk_cell hW.2]; rfl
    go_simp
    with_reducible rfl
  rotate_left
  · simp only [Act.put, List.setIfInBounds_toArray, List.set_cons_zero, List.set_cons_succ, i64_w, i32_w]
    rfl
  refine pure_ (i := 5) (N := some 9) (v := ?_) (a' := ?_) #[true, true, true, true, true, true, false, false, false, false, false, false, false] rfl rfl (any_of HT_.out (by kernel_rfl)) (fun _ _ _ h => h) (Or.inl ⟨by rfl, ?_⟩) ?_ ?_
  rotate_left
  · intro w'
    go_simp
    with_reducible rfl
  rotate_left
  · simp only [Act.put, List.setIfInBounds_toArray, List.set_cons_zero, List.set_cons_succ, i64_w, i32_w]
    rfl
  refine take_ (i := 6) (N := some 10) (v := ?_) (a' := ?_) #[true, true, true, true, true, true, true, false, false, false, false, false, false] rfl rfl (take_ofW HT_.out HW_.out (by kernel_rfl)) (fun _ _ _ h => h) (Or.inl ⟨by rfl, ?_⟩) hHeld ?_ ?_
  rotate_left
  · intro w' hW
    have q0 : w'.cell? ⟨B, 0, none⟩ = some (.slice A n c) := by rw [blk_cell hW.1]; rfl
    have q2 : w'.cell? ⟨P, 0, none⟩ = some (.slice A1 n1 c1) := by rw [blk_cell hW.2]; rfl
    go_simp
    with_reducible rfl
  rotate_left
  · simp only [Act.put, List.setIfInBounds_toArray, List.set_cons_zero, List.set_cons_succ, i64_w, i32_w]
    rfl
  refine one_ (i := 7) (N := some 11) #[true, true, true, true, true, true, true, true, false, false, false, false, false] rfl rfl (one_of HT_.out (by kernel_rfl)) (by decide) (fun K hK => ?_)
  refine goes_ Try.func68 (by kernel_rfl) rfl #[.slice A n c] (by rfl) rfl rfl (by (try simp only [List.map_toArray, List.map_cons, List.map_nil]); first | done | rfl) ?_
  refine (HCL.out _ GW.out).mono ?_
  rintro e w2 ⟨v3, rfl, how, hb⟩
  refine ⟨_, rfl, ?_⟩
  have GB2 := Aside0.mk (blk_below GB.out hb)
  have GP2 := Aside0.mk (blk_below GP.out hb)
  have G12 := Aside0.mk (Kd.R_below G1.out hb)
  have G22 := Aside0.mk (Kd.R_below G2.out hb)
  have HNEW := Aside0.mk (show P + 1 ≤ w1.heap.size from Nat.lt_of_lt_of_le HPLT.out GW.out.size)
  have HOW := Aside0.mk (Kd.R_mono (Kd.R_lower (Kd.R_bound how) HNEW.out) (ok' := fun k => some k ≠ (Value.slice A1 n1 c1).ownBlock) (fun k hk he => by have h1 := hk.2.1; have h2 := Kd.R_lt G1.out k he.symm; omega))
  have HSZ2 := Aside0.mk (show P + 1 ≤ w2.heap.size from Nat.le_trans HNEW.out hb.size)
  have GW2 := Aside0.mk (GW.out.trans (hb.mono GW.out.size))
  clear how hb GB GP G1 G2 GW
  refine hK.out _ _ (⟨GB2.out, GP2.out⟩) (fun hHeld => ?_)
  clear hK K
  refine norm_ (a' := ?_) ?_ ?_
  rotate_left
  · show Act.put _ (some 11) _ = _
    simp only [Act.put, List.setIfInBounds_toArray, List.set_cons_zero, List.set_cons_succ, i64_w, i32_w]
    rfl
  refine one_ (i := 8) (N := some 12) #[true, true, true, true, true, true, true, true, true, false, false, false, false] rfl rfl (one_of HT_.out (by kernel_rfl)) (by decide) (fun K hK => ?_)
  obtain ⟨A3, n3, c3, rfl⟩ : ∃ A n c, v3 = Value.slice A n c := by obtain ⟨A, c, h⟩ := Kd.R_slice HOW.out; exact ⟨_, _, _, h⟩
  refine value_ (w1 := w2.alloc (.cells [.slice A3 n3 c3].toArray 22)) (v := .slice (some ⟨w2.heap.size, 0, none⟩) 1 1) (by rfl) rfl (by go_simp; first | done | rfl) ?_
  refine hK.out _ _ ⟨blk_alloc GB2.out _, blk_alloc GP2.out _⟩ (fun hHeld => ?_)
  clear hK K
  refine norm_ (a' := ?_) ?_ ?_
  rotate_left
  · show Act.put _ (some 12) _ = _
    simp only [Act.put, List.setIfInBounds_toArray, List.set_cons_zero, List.set_cons_succ, i64_w, i32_w]
    rfl
  refine one_ (i := 9) (N := some 13) #[true, true, true, true, true, true, true, true, true, true, false, false, false] rfl rfl (one_of HT_.out (by kernel_rfl)) (by decide) (fun K hK => ?_)
  refine Kd.R_append_step kN (w0 := w2) (P + 1) (by rfl) (.tmp 8) (.tmp 12) 58 22 (.slice none 0 0) 24 rfl Try.underlying58 info22 rfl (by decide) (by omega) (.slice A1 n1 c1) parts l [.slice A3 n3 c3] (fun _ => True) (fun k => some k ≠ (Value.slice A1 n1 c1).ownBlock) rfl rfl (Kd.M_row HOW.out) (fun _ h => ⟨trivial, h⟩) (fun _ _ => trivial) G12.out (Below.refl _ _) HSZ2.out (by have := HPL.out; omega) ?_
  intro v4 w3 ho hb hg hat
  have GB3 := Aside0.mk (blk_grown GB2.out hg (Kd.R_ne G12.out GB2.out (by decide)))
  have GP3 := Aside0.mk (blk_grown GP2.out hg (Kd.R_ne G12.out GP2.out (by decide)))
  have G13 := Aside0.mk ho
  have G23 := Aside0.mk (Kd.R_drop (Kd.R_grown (R_beside G22.out G12.out (str_only (by decide))) hg (fun _ hk => hk.2)))
  have GK3 := Aside0.mk ((KT.of_below GW2.out (Nat.le_of_lt HPLT.out)).trans (KT.of_grown hg (by have := HSZ2.out; omega) (fun k hk => ⟨by have := Kd.R_base G12.out k hk; omega, by obtain ⟨cells, hc⟩ := Kd.R_typed G12.out k hk; exact ⟨cells, 22, hc, Or.inl rfl⟩⟩)))
  clear ho hb hg hat GB2 GP2 G12 G22 GW2 HOW
  refine hK.out _ _ ⟨GB3.out, GP3.out⟩ (fun hHeld => ?_)
  clear hK K
  refine norm_ (a' := ?_) ?_ ?_
  rotate_left
  · show Act.put _ (some 13) _ = _
    simp only [Act.put, List.setIfInBounds_toArray, List.set_cons_zero, List.set_cons_succ, i64_w, i32_w]
    rfl
  refine pure_ (i := 10) (N := some 14) (v := ?_) (a' := ?_) #[true, true, true, true, true, true, true, true, true, true, true, false, false] rfl rfl (any_of HT_.out (by kernel_rfl)) (fun _ _ _ h => h) (Or.inl ⟨by rfl, ?_⟩) ?_ ?_
  rotate_left
  · intro w'
    go_simp
    with_reducible rfl
  rotate_left
  · simp only [Act.put, List.setIfInBounds_toArray, List.set_cons_zero, List.set_cons_succ, i64_w, i32_w]
    rfl
  refine pure_ (i := 11) (N := some 15) (v := ?_) (a' := ?_) #[true, true, true, true, true, true, true, true, true, true, true, true, false] rfl rfl (any_of HT_.out (by kernel_rfl)) (fun _ _ _ h => h) (Or.inl ⟨by rfl, ?_⟩) ?_ ?_
  rotate_left
  · intro w'
    go_simp
    with_reducible rfl
  rotate_left
  · simp only [Act.put, List.setIfInBounds_toArray, List.set_cons_zero, List.set_cons_succ, i64_w, i32_w]
    rfl
  refine last_ (i := 12) (N := none) #[true, true, true, true, true, true, true, true, true, true, true, true, true] rfl rfl (one_of HT_.out (by kernel_rfl)) (by decide) (fun K hK => ?_)
  obtain ⟨A4, n4, c4, rfl⟩ : ∃ A n c, v4 = Value.slice A n c := by obtain ⟨A, c, h⟩ := Kd.R_slice G13.out; exact ⟨_, _, _, h⟩
  have f2 := blk_cell GP3.out 0
  have f3 := blk_frozen GP3.out 0
  refine skip_ (w1 := w3.setCell ⟨P, 0, none⟩ (.slice A4 n4 c4)) (by rfl) rfl (by go_simp; first | done | rfl) ?_
  have GP4 := Aside0.mk (blk_set GP3.out 0 (.slice A4 n4 c4))
  have G14 := Aside0.mk (Kd.R_drop (Kd.R_far (Kd.R_types G13.out GP3.out (kN_only (by decide) (by decide))) (fun k hk => hk.2) (p := ⟨P, 0, none⟩) (.slice A4 n4 c4)))
  have G24 := Aside0.mk (Kd.R_drop (Kd.R_far (Kd.R_types G23.out GP3.out (str_only (by decide))) (fun k hk => hk.2) (p := ⟨P, 0, none⟩) (.slice A4 n4 c4)))
  have GK4 := Aside0.mk (GK3.out.trans (KT.set GP3.out 0 (.slice A4 n4 c4)))
  clear f2 f3 GB3 GP3 G13 G23 GK3
  generalize w3.setCell ⟨P, 0, none⟩ (.slice A4 n4 c4) = w4 at GP4 G14 G24 GK4 ⊢
  refine hK.out _ _ ?_
  clear hK K
  refine done_ (done_of HT_.out (by kernel_rfl)) ?_
  try go_wp2
  go_end0
  exact ⟨rfl, ⟨_, _, GP4.out, G14.out, G24.out⟩, GK4.out⟩
set_option maxRecDepth 100000 in
set_option maxHeartbeats 8000000 in
theorem sep_c (s : ByteArray) (w : World) (P : Nat) (parts : List (List S77)) (seps : List ByteArray) (hp : Pk w P parts seps) (hpl : seps.length ≤ 1000000) :
    Calls Try.prog 75 #[.pointer (some ⟨P, 0, none⟩), .string s] w fun e w' => e = .returned (.tuple #[]) ∧ Pk w' P parts (seps ++ [s]) ∧ KT P w w' := by
  obtain ⟨v1, v2, hP, hR1, hR2⟩ := hp
  have HPLT := Aside0.mk (blk_lt hP)
  obtain ⟨A2, n2, c2, rfl⟩ : ∃ A n c, v2 = Value.slice A n c := by obtain ⟨A, c, h⟩ := Kd.R_slice hR2; exact ⟨_, _, _, h⟩
  have GP2 := Aside0.mk hP
  have G12 := Aside0.mk hR1
  have G22 := Aside0.mk hR2
  have HPL := Aside0.mk hpl
  have q1 : w.cell? ⟨P, 1, none⟩ = some (.slice A2 n2 c2) := by rw [blk_cell hP]; rfl
  clear hP hR1 hR2 hpl
  go_enter Try.func75, Try.ntmps75
  go_wp2_with (first
    | ((with_reducible refine gate_builtin (b := .append) (xs := #[.tmp 8, .tmp 10]) rfl ?_); at_builtin; refine Kd.R_append Kd.string (w0 := w) (P + 1) rfl (.tmp 8) (.tmp 10) 48 9 (.string ⟨#[]⟩) 16 rfl Try.underlying48 info9 rfl (by decide) (by omega) (.slice A2 n2 c2) seps s [.string s] (fun _ => True) (fun _ => False) rfl rfl rfl (fun _ h => h.elim) (fun _ _ => trivial) G22.out (Below.refl _ _) HPLT.out (by have := HPL.out; omega) ?_; intro v4 w3 ho hb hg hat; have GP3 := Aside0.mk (blk_grown GP2.out hg (Kd.R_ne G22.out GP2.out (by decide))); have G23 := Aside0.mk ho; have G13 := Aside0.mk (Kd.R_drop (Kd.R_grown (R_beside G12.out G22.out (kN_only (by decide) (by decide))) hg (fun _ hk => hk.2))); have GK3 := Aside0.mk (KT.of_grown hg (Nat.le_of_lt HPLT.out) (fun k hk => ⟨by have := Kd.R_base G22.out k hk; omega, by obtain ⟨cells, hc⟩ := Kd.R_typed G22.out k hk; exact ⟨cells, 9, hc, Or.inr rfl⟩⟩)); obtain ⟨A4, n4, c4, rfl⟩ : ∃ A n c, v4 = Value.slice A n c := (by obtain ⟨A, c, h⟩ := Kd.R_slice G23.out; exact ⟨_, _, _, h⟩); have f2 : w3.cell? ⟨P, 1, none⟩ = some (.slice A2 n2 c2) := (by rw [blk_cell GP3.out]; rfl); have f3 := blk_frozen GP3.out 1; clear ho hb hg hat q1))
  go_end0
  refine ⟨rfl, ⟨_, _, blk_set GP3.out 1 (.slice A4 n4 c4), Kd.R_drop (Kd.R_far (Kd.R_types G13.out GP3.out (kN_only (by decide) (by decide))) (fun k hk => hk.2) (p := ⟨P, 1, none⟩) (.slice A4 n4 c4)), Kd.R_drop (Kd.R_far (Kd.R_types G23.out GP3.out (str_only (by decide))) (fun k hk => hk.2) (p := ⟨P, 1, none⟩) (.slice A4 n4 c4))⟩, GK3.out.trans (KT.set GP3.out 1 (.slice A4 n4 c4))⟩
end Go.Proofs.Ytalncokpbgbccaa.E

/- Packing as a plain function of lists, and what its parts inherit: order, weights, sizes. -/
namespace Go.Proofs.Ytalncokpbgbccaa.E
set_option linter.unusedVariables false
set_option linter.unusedSimpArgs false
open Go.RowKit Go.Proofs.YtalncokpbgbccaaW.PrintWords Go.Proofs.YtalncokpbgbccaaW.PrintLast Go.Proofs.YtalncokpbgbccaaW.PrintMore

def okB (level : Int) (x : S77) : Bool := (weighI x level).2
def wt (level : Int) (l : List S77) : Int := (l.map fun x => (weighI x level).1).sum
theorem wsum_eq (level : Int) (l : List S77) : wsum level l = if l.all (okB level) = true then some (wt level l) else none := by
  induction l with
  | nil => rfl
  | cons x r ih =>
    rw [wsum, ih]
    by_cases h : (weighI x level).2 = true
    · by_cases h2 : r.all (okB level) = true
      · rw [if_pos h, if_pos h2, if_pos (by simp [okB, h] at h2 ⊢; exact h2)]; simp [wt]
      · rw [if_pos h, if_neg h2, if_neg (by simp [okB, h] at h2 ⊢; exact h2)]; rfl
    · rw [if_neg h, if_neg (by simp [okB, h])]
theorem weightO_eq (level : Int) (l : List S77) (hl : inB level 0 20 = true) : weightO l level = if l.all (okB level) = true then some (6 + wt level l) else none := by
  rw [weightO, if_pos hl, wsum_eq]
  split <;> rfl
/-- what packable says -/
theorem packable_iff (l : List S77) (level : Int) : packable l level = true ↔ inB level 0 20 = true ∧ (∀ i, i < l.length → okAt l level i = true) ∧ (bare level l).all (okB level) = true := by
  unfold packable ordL
  constructor
  · intro h
    rw [Bool.and_eq_true, Bool.and_eq_true] at h
    obtain ⟨⟨h1, h2⟩, h3⟩ := h
    refine ⟨h1, by simpa using h2, ?_⟩
    rw [weightO_eq level _ h1] at h3
    split at h3
    · assumption
    · cases h3
  · rintro ⟨h1, h2, h3⟩
    rw [Bool.and_eq_true, Bool.and_eq_true]
    refine ⟨⟨h1, by simpa using h2⟩, ?_⟩
    rw [weightO_eq level _ h1, if_pos h3]; rfl
theorem okB_bare {level : Int} (hl : level > 0) {x : S77} (h : okB level x = true) : okB level (setKey x ⟨#[]⟩) = true := by
  unfold okB weighI at *
  rw [if_pos hl] at *
  simp only [brB, setKey] at *
  simp only [Bool.and_eq_true] at *
  exact ⟨by simp [ByteArray.size], h.2⟩
theorem all_bare {level : Int} {l : List S77} (h : l.all (okB level) = true) : (bare level l).all (okB level) = true := by
  unfold bare
  split
  · cases l with
    | nil => rfl
    | cons x r =>
      simp only [List.all_cons, Bool.and_eq_true] at h ⊢
      exact ⟨okB_bare ‹_› h.1, h.2⟩
  · exact h
theorem bare_take (level : Int) (l : List S77) (i : Nat) : bare level (l.take i) = (bare level l).take i := by
  unfold bare
  split
  · cases l with
    | nil => simp
    | cons x r => cases i <;> rfl
  · rfl
theorem all_take {p : S77 → Bool} {l : List S77} (h : l.all p = true) (i : Nat) : (l.take i).all p = true := by
  rw [List.all_eq_true] at *
  exact fun x hx => h x (List.mem_of_mem_take hx)
theorem bare_drop (level : Int) (l : List S77) (i : Nat) (hi : 1 ≤ i) : (bare level l).drop i = l.drop i := by
  unfold bare
  split
  · cases l with
    | nil => simp
    | cons x r => obtain ⟨k, rfl⟩ : ∃ k, i = k + 1 := ⟨i - 1, by omega⟩; rfl
  · rfl
theorem all_drop {p : S77 → Bool} {l : List S77} (h : l.all p = true) (i : Nat) : (l.drop i).all p = true := by
  rw [List.all_eq_true] at *
  exact fun x hx => h x (List.mem_of_mem_drop hx)
theorem okAt_take {l : List S77} {level : Int} {i k : Nat} (hk : k < i) (hi : i ≤ l.length) : okAt (l.take i) level k = okAt l level k := by
  unfold okAt
  have h1 : (l.take i).getD k z77 = l.getD k z77 := by simp [List.getD, List.getElem?_take, hk]
  have h2 : (l.take i).getD (k - 1) z77 = l.getD (k - 1) z77 := by simp [List.getD, List.getElem?_take, show k - 1 < i by omega]
  rw [h1, h2]
theorem bare_getD (level : Int) (l : List S77) (k : Nat) (hk : 1 ≤ k) : (bare level l).getD k z77 = l.getD k z77 := by
  unfold bare
  split
  · cases l with
    | nil => rfl
    | cons x r => obtain ⟨m, rfl⟩ : ∃ m, k = m + 1 := ⟨k - 1, by omega⟩; rfl
  · rfl
theorem getD_drop (l : List S77) (i k : Nat) : (l.drop i).getD k z77 = l.getD (i + k) z77 := by simp [List.getD, List.getElem?_drop]
theorem getD_set0 (p : List S77) (y : S77) (h : 0 < p.length) : (p.set 0 y).getD 0 z77 = y := by
  cases p with
  | nil => simp at h
  | cons x r => rfl
theorem key_nil (x : S77) : (setKey x ⟨#[]⟩).f0.toList = [] := toList_ofL []
theorem less_nil (a : List UInt8) (h : Op.bytesLess a [] = true) : False := by cases a <;> simp [Op.bytesLess] at h
theorem okAt_drop {l : List S77} {level : Int} {i k : Nat} (hi : 1 ≤ i) (hk : i + k < l.length) (h : okAt l level (i + k) = true) : okAt (bare level (l.drop i)) level k = true := by
  unfold okAt at h ⊢
  rw [if_neg (by omega)] at h
  by_cases h0 : level > 0 ∧ k = 0
  · rw [if_pos h0]
    obtain ⟨hl, rfl⟩ := h0
    have : 0 < (l.drop i).length := by simp; omega
    rw [← bare_set level hl _ this, getD_set0 _ _ this, key_nil]
    rfl
  · rw [if_neg h0]
    simp only [Bool.and_eq_true, decide_eq_true_eq, Bool.or_eq_true] at h ⊢
    by_cases hk0 : k = 0
    · subst hk0
      have hl : ¬ level > 0 := fun e => h0 ⟨e, rfl⟩
      rw [bare_no level _ (fun e => hl e.1), getD_drop]
      exact ⟨h.1, h.2.1, Or.inl rfl⟩
    · rw [bare_getD level _ k (by omega), getD_drop]
      refine ⟨h.1, h.2.1, Or.inr ?_⟩
      have hlt := h.2.2.resolve_left (by omega)
      by_cases hk1 : k - 1 = 0
      · by_cases hl : level > 0
        · have hp : 0 < (l.drop i).length := by simp; omega
          rw [hk1, ← bare_set level hl _ hp]
          rw [getD_set0 _ _ hp, key_nil]
          cases hx : (l.getD (i + k) z77).f0.toList with
          | nil => rw [hx] at hlt; exact (less_nil _ hlt).elim
          | cons y r => rfl
        · rw [bare_no level _ (fun e => hl e.1), getD_drop, show i + (k - 1) = i + k - 1 by omega]
          exact hlt
      · rw [bare_getD level _ (k - 1) (by omega), getD_drop, show i + (k - 1) = i + k - 1 by omega]
        exact hlt
theorem packable_take {l : List S77} {level : Int} {i : Nat} (hi : i ≤ l.length) (h : packable l level = true) : packable (l.take i) level = true := by
  rw [packable_iff] at *
  refine ⟨h.1, fun k hk => ?_, by rw [bare_take]; exact all_take h.2.2 i⟩
  have : k < i := by simp at hk; omega
  rw [okAt_take this hi]
  exact h.2.1 k (by omega)
theorem packable_drop {l : List S77} {level : Int} {i : Nat} (h1 : 1 ≤ i) (hi : i ≤ l.length) (h : packable l level = true) : packable (bare level (l.drop i)) level = true := by
  rw [packable_iff] at *
  refine ⟨h.1, fun k hk => ?_, ?_⟩
  · rw [bare_length] at hk
    have : i + k < l.length := by simp at hk; omega
    exact okAt_drop h1 this (h.2.1 _ this)
  · have h2 := all_drop h.2.2 i
    rw [bare_drop level l i h1] at h2
    exact all_bare (all_bare h2)
theorem packable_weight {l : List S77} {level : Int} (h : packable l level = true) : weightO (bare level l) level = some (6 + wt level (bare level l)) := by
  rw [packable_iff] at h
  rw [weightO_eq level _ h.1, if_pos h.2.2]
theorem packable_level {l : List S77} {level : Int} (h : packable l level = true) : inB level 0 20 = true := ((packable_iff l level).mp h).1
theorem packable_ahead {l : List S77} {level : Int} (h : packable l level = true) (i : Nat) (hi : i < l.length) : weightO (bare level (partE l 0 (i + 1))) level = some (6 + wt level ((bare level l).take (i + 1))) := by
  rw [show partE l 0 (i + 1) = l.take (i + 1) by simp [partE], packable_weight (packable_take (by omega) h), bare_take]
theorem ahA_eq {l : List S77} {level : Int} (h : packable l level = true) (i : Nat) (hi : i < l.length) : ahA l level i = 6 + wt level ((bare level l).take (i + 1)) := by
  unfold ahA aheads
  simp [List.getD, hi, packable_ahead h i hi]
theorem packable_ahOk {l : List S77} {level : Int} (h : packable l level = true) (hf : Fine l) : AhOk l level := by
  intro i hi
  rw [ahA_eq h i hi]
  have hb := weightO_bound (bare level (partE l 0 (i + 1))) level _ (fine_bare (fine_cut hf 0 (i + 1)) level) (packable_ahead h i hi)
  exact hb
/-- the best cut lies between the ends -/
theorem bestP_range (l : List S77) (level : Int) : ∀ k, 1 ≤ k → 1 ≤ (bestP (cutsL l level k)).1 ∧ (bestP (cutsL l level k)).1 ≤ k := by
  intro k
  induction k with
  | zero => intro h; omega
  | succ k ih =>
    intro _
    rw [cutsL_snoc, bestP_snoc, bestStep]
    by_cases hk : k = 0
    · subst hk
      rw [if_pos (Or.inl (by simp [cutsL, bestP]))]
      simp
    · have := ih (by omega)
      split
      · simp; omega
      · push_cast; omega
theorem bestA_range (l : List S77) (level : Int) (h : 2 ≤ l.length) : 1 ≤ bestA l level ∧ bestA l level ≤ l.length - 1 := by
  have := bestP_range l level (l.length - 1) (by omega)
  unfold bestA
  omega
def bestN (l : List S77) (level : Int) : Nat := (bestA l level).toNat
theorem bestN_spec (l : List S77) (level : Int) (h : 2 ≤ l.length) : bestA l level = (bestN l level : Int) ∧ 1 ≤ bestN l level ∧ bestN l level < l.length := by
  have := bestA_range l level h
  unfold bestN
  omega
/-- the separator ahead of entry i -/
def sepF (l : List S77) (level : Int) (i : Nat) : ByteArray := if level > 0 then (l.getD i z77).f0 else ofL (btw (toL (l.getD (i - 1) z77).f0) (toL (l.getD i z77).f0))
theorem sepF_is {l : List S77} {level : Int} (h : packable l level = true) (hf : Fine l) (hs : ∀ x ∈ l, x.f0.size ≤ 1000000) (i : Nat) (h1 : 1 ≤ i) (hi : i < l.length) : sepIs l level i (sepF l level i) := by
  unfold sepIs sepF
  by_cases hl : level > 0
  · rw [if_pos hl, if_pos hl]
  · rw [if_neg hl, if_neg hl]
    have ho := ((packable_iff l level).mp h).2.1 i hi
    unfold okAt at ho
    rw [if_neg (by omega)] at ho
    simp only [Bool.and_eq_true, decide_eq_true_eq, Bool.or_eq_true] at ho
    have hlt := ho.2.2.resolve_left (by omega)
    have hm : ∀ k, k < l.length → (l.getD k z77).f0.size ≤ 1000000 := fun k hk => hs _ (by simp [List.getD, hk])
    have ha := hm (i - 1) (by omega)
    have hb := hm i hi
    generalize (l.getD (i - 1) z77).f0 = a at hlt ha ⊢
    generalize (l.getD i z77).f0 = b at hlt hb ⊢
    have hab : cmpL (toL a) (toL b) = -1 := by
      rw [← less_cmpL, ← toList_ofL (toL a), ← toList_ofL (toL b), ofL_toL, ofL_toL]; exact hlt
    have he := encBetween (toL a) (toL b) ha hb ((toL a).length + 1) (by omega)
    rw [between_btw _ _ hab, ofL_toL, ofL_toL] at he
    exact ⟨(toL a).length + 1, by rw [node_Separator.f, he]; rfl⟩
/-- the nodes into which a list is divided, and the keys between them -/
def packO : Nat → List S77 → Int → Option (List (List S77) × List ByteArray)
  | 0, _, _ => none
  | f + 1, l, level =>
    if 6 + wt level (bare level l) ≤ 496 then some ([l], [])
    else if l.length ≤ 1 then none
    else (packO f (l.take (bestN l level)) level).bind fun x => (packO f (bare level (l.drop (bestN l level))) level).bind fun y => some (x.1 ++ y.1, x.2 ++ [sepF l level (bestN l level)] ++ y.2)
theorem packO_len : ∀ (f : Nat) (l : List S77) (level : Int) (x : List (List S77) × List ByteArray), 1 ≤ l.length → packO f l level = some x → x.1.length ≤ l.length ∧ x.2.length + 1 = x.1.length := by
  intro f
  induction f with
  | zero => intro l level x _ h; cases h
  | succ f ih =>
    intro l level x hl h
    rw [packO] at h
    split at h
    · cases h; simp; omega
    split at h
    · cases h
    obtain ⟨_, hb1, hb2⟩ := bestN_spec l level (by omega)
    obtain ⟨y, hy, h⟩ := Option.bind_eq_some_iff.mp h
    obtain ⟨z, hz, h⟩ := Option.bind_eq_some_iff.mp h
    cases h
    have k1 := ih _ _ _ (by simp; omega) hy
    have k2 := ih _ _ _ (by rw [bare_length]; simp; omega) hz
    rw [bare_length] at k2
    simp at k1 k2 ⊢
    omega
end Go.Proofs.Ytalncokpbgbccaa.E

