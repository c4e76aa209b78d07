/- Plain facts: what is encoded is read back, and what is read is encoded by the bytes that were read. -/
import Derived.Test.YthpabgiicglbmaaPk
namespace Go.Proofs.Ythpabgiicglbmaa.Pure
set_option linter.unusedVariables false
set_option linter.unusedSimpArgs false
open Go.RowKit Go.Proofs.Ythpabgiicglbmaa.E Go.Proofs.YthpabgiicglbmaaW.PrintWords Go.Proofs.YthpabgiicglbmaaW.PrintLast

theorem unbig_big (n k : Nat) : unbigL (bigL n k) = n % 256 ^ k := by
  induction k generalizing n with
  | zero => simp [bigL, unbigL, Nat.mod_one]
  | succ k ih =>
    rw [bigL, unbigL_snoc, ih, ofNat_lt _ (Nat.mod_lt _ (by decide)), Nat.pow_succ, Nat.mul_comm (256 ^ k) 256, Nat.mod_mul]
    omega
theorem big_unbig (l : Bytes) : bigL (unbigL l) l.length = l := by
  suffices h : ∀ (n : Nat) (l : Bytes), l.length = n → bigL (unbigL l) l.length = l from h _ l rfl
  intro n
  induction n with
  | zero => intro l h; rw [List.length_eq_zero_iff.mp h]; rfl
  | succ n ih =>
    intro l h
    obtain ⟨m, b, rfl⟩ : ∃ m b, l = m ++ [b] := by
      have hne : l ≠ [] := by intro e; rw [e] at h; simp at h
      exact ⟨l.dropLast, l.getLast hne, (List.dropLast_concat_getLast hne).symm⟩
    have hb := b.toNat_lt
    rw [unbigL_snoc, List.length_append, List.length_singleton, bigL, show (unbigL m * 256 + b.toNat) / 256 = unbigL m by omega, show (unbigL m * 256 + b.toNat) % 256 = b.toNat by omega, ih m (by simpa using h)]
    simp
theorem pow8 : (256 : Nat) ^ 8 = 18446744073709551616 := by decide
theorem szF_eq (x m : Nat) (h1 : 1 ≤ m) (h8 : m ≤ 8) (hx : x < 256 ^ m) (hm : m = 1 ∨ 256 ^ (m - 1) ≤ x) : szF 8 x 1 = m := by
  have hp : ∀ a b : Nat, 256 ^ a < 256 ^ b → a < b := fun a b h => (Nat.pow_lt_pow_iff_right (by decide)).mp h
  have hle := (szF_le 8 x 1).1
  have hup : szF 8 x 1 ≤ m := by
    refine Nat.le_of_not_lt fun hh => ?_
    have := szF_low 8 x 1 (by omega)
    have := hp _ _ (Nat.lt_of_le_of_lt this hx)
    omega
  have hlo : m ≤ szF 8 x 1 := by
    have h9 : x < 256 ^ (1 + 8) := Nat.lt_of_lt_of_le hx (Nat.pow_le_pow_right (by decide) (by omega))
    have hh := szF_high 8 x 1 h9 (by decide)
    rcases hm with h | h
    · omega
    · have := hp _ _ (Nat.lt_of_le_of_lt h hh)
      omega
  omega
theorem getUint_put (m : Nat) (h : m ≤ 4611686018427387904) (t : Bytes) : getUintL (putUintL m ++ t) = some (m, (putUintL m).length) := by
  rw [putUintL]
  split
  · rename_i h0
    rw [List.singleton_append, getUintL, ofNat_lt m (by omega), if_pos h0]
    rfl
  · rename_i h0
    obtain ⟨x, hx⟩ : ∃ x, m - 240 = x := ⟨_, rfl⟩
    rw [hx]
    have hle := szF_le 8 x 1
    have h9 : x < 256 ^ (1 + 8) := by have : (256 : Nat) ^ (1 + 8) = 4722366482869645213696 := by decide
                                      omega
    have hhi := szF_high 8 x 1 h9 (by decide)
    have hlo := szF_low 8 x 1
    generalize szF 8 x 1 = z at hle hhi hlo
    have hz8 : z ≤ 8 := by
      refine Nat.le_of_not_lt fun hh => ?_
      have h1 := hlo (by omega)
      have h2 : 256 ^ 8 ≤ 256 ^ (z - 1) := Nat.pow_le_pow_right (by decide) (by omega)
      have := pow8
      omega
    rw [List.cons_append, getUintL, ofNat_lt (239 + z) (by omega), if_neg (by omega)]
    simp only
    have htk : (bigL x z ++ t).take z = bigL x z := by rw [List.take_left' (bigL_length x z)]
    rw [show 239 + z - 239 = z by omega, if_neg (by omega), if_neg (by rw [List.length_append, bigL_length]; omega), htk, unbig_big, Nat.mod_eq_of_lt hhi]
    rw [if_pos, List.length_cons, bigL_length, ← hx, show m - 240 + 240 = m by omega]
    refine ⟨by omega, ?_⟩
    by_cases h1 : z = 1
    · exact .inl h1
    · exact .inr (Nat.div_pos (hlo (by omega)) (Nat.pow_pos (by decide)))
theorem putUint_get (s : Bytes) (x k : Nat) (h : getUintL s = some (x, k)) : x ≤ 4611686018427387904 ∧ k ≤ s.length ∧ putUintL x = s.take k := by
  cases s with
  | nil => cases h
  | cons b r =>
    have hlt := b.toNat_lt
    rw [getUintL] at h
    split at h
    · rename_i h0
      simp only [Option.some.injEq, Prod.mk.injEq] at h
      obtain ⟨rfl, rfl⟩ := h
      refine ⟨by omega, by simp, ?_⟩
      rw [putUintL, if_pos h0]
      simp
    · rename_i h0
      simp only at h
      obtain ⟨m, hm⟩ : ∃ m, b.toNat - 239 = m := ⟨_, rfl⟩
      rw [hm] at h
      split at h
      · cases h
      · rename_i h8
        split at h
        · cases h
        · rename_i hr
          split at h
          · rename_i hc
            simp only [Option.some.injEq, Prod.mk.injEq] at h
            obtain ⟨rfl, rfl⟩ := h
            have hlen : (r.take m).length = m := by rw [List.length_take]; omega
            have hub := unbigL_lt (r.take m)
            rw [hlen] at hub
            have hz : szF 8 (unbigL (r.take m)) 1 = m := szF_eq _ m (by omega) (by omega) hub (hc.2.imp_right fun h => (Nat.div_pos_iff.mp h).2)
            refine ⟨by omega, by simp; omega, ?_⟩
            rw [putUintL, if_neg (by omega), Nat.add_sub_cancel, hz, List.take_succ_cons]
            have hb : UInt8.ofNat (239 + m) = b := by rw [show 239 + m = b.toNat by omega]; simp
            have := big_unbig (r.take m)
            rw [hlen] at this
            rw [hb, this]
          · cases h
theorem getInt_put (n : Int) (h : -9223372036854775808 ≤ n ∧ n ≤ 9223372036854775807) (t : Bytes) : getIntL (putIntL n ++ t) = some n := by
  have hl := putInt_len n
  rw [getIntL, if_neg (by rw [List.length_append]; omega), List.take_left' hl, putIntL, unbig_big, pow8]
  congr 1; omega
theorem get32_put (n : Nat) (h : n ≤ 4294967295) (t : Bytes) : get32L (bigL n 4 ++ t) = some n := by
  rw [get32L, if_neg (by rw [List.length_append, bigL_length]; omega), List.take_left' (bigL_length n 4), unbig_big]
  have e4 : (256 : Nat) ^ 4 = 4294967296 := by decide
  congr 1; omega
theorem escL_cons (s : Bytes) : ∃ c u, escL s = c :: u := by
  cases s with
  | nil => exact ⟨_, _, rfl⟩
  | cons b r =>
    rw [escL]
    split
    · exact ⟨_, _, rfl⟩
    · exact ⟨_, _, rfl⟩
theorem unesc_esc (s t : Bytes) : unescL (escL s ++ t) = some (s, (escL s).length) := by
  induction s with
  | nil => rfl
  | cons b r ih =>
    rw [escL]
    split
    · rename_i hb
      subst hb
      rw [List.cons_append, List.cons_append, unescL, if_pos rfl, if_neg (by decide), if_pos rfl, ih]
      simp
    · rename_i hb
      obtain ⟨c, u, he⟩ := escL_cons r
      rw [he] at ih ⊢
      rw [List.cons_append, List.cons_append, unescL, if_neg hb, ← List.cons_append, ih]
      simp
theorem esc_unesc (s : Bytes) : ∀ v k, unescL s = some (v, k) → k ≤ s.length ∧ escL v = s.take k := by
  induction s using unescL.induct with
  | case1 => intro v k h; cases h
  | case2 b => intro v k h; cases h
  | case3 r =>
    intro v k h
    rw [unescL, if_pos rfl, if_pos rfl] at h
    simp only [Option.some.injEq, Prod.mk.injEq] at h
    obtain ⟨rfl, rfl⟩ := h
    exact ⟨by simp, rfl⟩
  | case4 r h1 ih =>
    intro v k h
    rw [unescL, if_pos rfl, if_neg h1, if_pos rfl] at h
    cases hu : unescL r with
    | none => rw [hu] at h; cases h
    | some x =>
      rw [hu] at h
      simp only [Option.map_some, Option.some.injEq, Prod.mk.injEq] at h
      obtain ⟨rfl, rfl⟩ := h
      obtain ⟨h2, h3⟩ := ih x.1 x.2 hu
      refine ⟨by simp; omega, ?_⟩
      rw [escL, if_pos rfl, h3, List.take_succ_cons, List.take_succ_cons]
  | case5 c r h1 h2 =>
    intro v k h
    rw [unescL, if_pos rfl, if_neg h1, if_neg h2] at h
    cases h
  | case6 b c r hb ih =>
    intro v k h
    rw [unescL, if_neg hb] at h
    cases hu : unescL (c :: r) with
    | none => rw [hu] at h; cases h
    | some x =>
      rw [hu] at h
      simp only [Option.map_some, Option.some.injEq, Prod.mk.injEq] at h
      obtain ⟨rfl, rfl⟩ := h
      obtain ⟨h2, h3⟩ := ih x.1 x.2 hu
      refine ⟨by simp at h2 ⊢; omega, ?_⟩
      rw [escL, if_neg hb, h3, List.take_succ_cons]
theorem size0 (s : ByteArray) (h : s.size = 0) : s = ⟨#[]⟩ := by
  rw [← ofL_toL s]
  have : toL s = [] := List.length_eq_zero_iff.mp (by rw [length_toL]; exact h)
  rw [this]; rfl
theorem one_put (x : S49) (hx : DatOk x) (t : Bytes) : oneL (datumL x ++ t) = some (x, (datumL x).length) := by
  obtain ⟨f0, f1, f2⟩ := x
  obtain ⟨hv, hr⟩ := hx
  rcases dat_form _ hv with ⟨rfl, rfl, h2⟩ | ⟨rfl, h1, h2⟩ | ⟨rfl, h2⟩ | ⟨rfl, rfl⟩
  · obtain rfl := size0 _ h2
    rfl
  · obtain rfl := size0 _ h2
    rcases h1 with h1 | h1
    · simp only at h1; subst h1; rfl
    · simp only at h1; subst h1; rfl
  · obtain rfl := size0 _ h2
    rw [show datumL ⟨2, f1, ⟨#[]⟩⟩ = 3 :: putIntL f1 from rfl, List.cons_append, oneL.eq_def]
    simp only
    rw [if_neg (by decide), if_neg (by decide), if_pos trivial, getInt_put f1 hr, List.length_cons, putInt_len]
    rfl
  · rw [show datumL ⟨3, 0, f2⟩ = 4 :: escL (toL f2) from rfl, List.cons_append, oneL.eq_def]
    simp only
    rw [if_neg (by decide), if_neg (by decide), if_neg (by decide), if_pos trivial, unesc_esc, List.length_cons]
    simp [ofL_toL]
theorem getInt_range (r : Bytes) (n : Int) (h : getIntL r = some n) : 8 ≤ r.length ∧ -9223372036854775808 ≤ n ∧ n ≤ 9223372036854775807 ∧ putIntL n = r.take 8 := by
  unfold getIntL at h
  split at h
  · cases h
  · rename_i h8
    obtain rfl := Option.some.inj h
    have hlen : (r.take 8).length = 8 := by rw [List.length_take]; omega
    have hub := unbigL_lt (r.take 8)
    rw [hlen, pow8] at hub
    refine ⟨by omega, by omega, by omega, ?_⟩
    have := big_unbig (r.take 8)
    rw [hlen] at this
    rw [putIntL, show (((unbigL (r.take 8) : Int) - 9223372036854775808 + 9223372036854775808) % 18446744073709551616).toNat = unbigL (r.take 8) by omega, this]
theorem unesc_len (s : Bytes) : ∀ v k, unescL s = some (v, k) → v.length ≤ k := by
  intro v k h
  have h2 := esc_unesc s v k h
  have h3 : v.length ≤ (escL v).length := by
    clear h h2
    induction v with
    | nil => simp
    | cons b r ih => rw [escL]; split <;> simp <;> omega
  rw [h2.2, List.length_take] at h3
  omega
theorem one_back (l : Bytes) (x : S49) (n : Nat) (h : oneL l = some (x, n)) : DatOk x ∧ 1 ≤ n ∧ n ≤ l.length ∧ datumL x = l.take n ∧ x.f2.size ≤ l.length := by
  cases l with
  | nil => cases h
  | cons b r =>
    rw [oneL.eq_def] at h
    simp only at h
    split at h
    · rename_i hb
      simp only [Option.some.injEq, Prod.mk.injEq] at h
      obtain ⟨rfl, rfl⟩ := h
      exact ⟨⟨rfl, by decide, by decide⟩, by omega, by simp, by rw [hb]; rfl, Nat.zero_le _⟩
    · split at h
      · rename_i hb
        cases r with
        | nil => cases h
        | cons c r =>
          simp only at h
          split at h
          · rename_i hc
            simp only [Option.some.injEq, Prod.mk.injEq] at h
            obtain ⟨rfl, rfl⟩ := h
            have hcc : (c.toNat : Int) = 0 ∨ (c.toNat : Int) = 1 := by omega
            refine ⟨⟨?_, by simp only; omega, by simp only; omega⟩, by omega, by simp, ?_, Nat.zero_le _⟩
            · simp only [validS, validB]
              rcases hcc with h | h <;> rw [h] <;> rfl
            · simp only [datumL]
              rw [if_pos trivial, hb, Int.toNat_natCast]
              simp
          · cases h
      · split at h
        · rename_i hb
          cases hi : getIntL r with
          | none => rw [hi] at h; cases h
          | some y =>
            rw [hi] at h
            simp only [Option.map_some, Option.some.injEq, Prod.mk.injEq] at h
            obtain ⟨rfl, rfl⟩ := h
            obtain ⟨h8, hr1, hr2, hp⟩ := getInt_range r y hi
            refine ⟨⟨rfl, hr1, hr2⟩, by omega, by simp; omega, ?_, Nat.zero_le _⟩
            rw [show datumL ⟨2, y, ⟨#[]⟩⟩ = 3 :: putIntL y from rfl, hp, hb]
            rfl
        · split at h
          · rename_i hb
            cases hi : unescL r with
            | none => rw [hi] at h; cases h
            | some y =>
              rw [hi] at h
              simp only [Option.map_some, Option.some.injEq, Prod.mk.injEq] at h
              obtain ⟨rfl, rfl⟩ := h
              obtain ⟨h1, h2⟩ := esc_unesc r y.1 y.2 hi
              have h3 := unesc_len r y.1 y.2 hi
              refine ⟨⟨rfl, by simp only; omega, by simp only; omega⟩, by omega, by simp; omega, ?_, by simp [size_ofL]; omega⟩
              rw [show datumL ⟨3, 0, ofL y.1⟩ = 4 :: escL (toL (ofL y.1)) from rfl, toL_ofL, h2, hb, List.take_succ_cons]
          · cases h
theorem flipL_app (a b : Bytes) : flipL (a ++ b) = flipL a ++ flipL b := by simp [flipL]
theorem flipL_len (a : Bytes) : (flipL a).length = a.length := by simp [flipL]
theorem flipL_take (a : Bytes) (n : Nat) : flipL (a.take n) = (flipL a).take n := by simp [flipL]
theorem flipL_two (l : Bytes) : flipL (flipL l) = l := by
  simp only [flipL, List.map_map]
  conv => rhs; rw [← List.map_id l]
  apply List.map_congr_left
  intro b _
  apply UInt8.toNat_inj.mp
  simp only [Function.comp, id]
  rw [flip_toNat, flip_toNat]
  have := b.toNat_lt
  omega
theorem encD_len (dv : Bool) (x : S49) : (encD dv x).length = (datumL x).length := by
  cases dv <;> simp [encD, flipL_len]
theorem get_put (ds : List Bool) (l : List S49) : ∀ (k i : Nat), (∀ x ∈ l, DatOk x) → l.length < k → getKeyL ds k i (encK ds i l) = some l := by
  induction l with
  | nil =>
    intro k i _ hk
    obtain ⟨k, rfl⟩ : ∃ j, k = j + 1 := ⟨k - 1, by omega⟩
    rfl
  | cons x r ih =>
    intro k i hl hk
    obtain ⟨k, rfl⟩ : ∃ j, k = j + 1 := ⟨k - 1, by omega⟩
    have hx := hl x (by simp)
    have hne := encD_ne (desc ds i) x hx.1
    have hone : oneL (if desc ds i then flipL (encK ds i (x :: r)) else encK ds i (x :: r)) = some (x, (datumL x).length) := by
      rw [encK]
      cases hd : desc ds i with
      | false => simp only [Bool.false_eq_true, if_false, encD]; exact one_put x hx _
      | true => simp only [if_true, encD, flipL_app, flipL_two]; exact one_put x hx _
    rw [getKeyL, if_neg (by rw [encK]; simp [hne]), hone]
    simp only
    rw [encK, List.drop_left' (encD_len _ x), ih k (i + 1) (fun y hy => hl y (by simp [hy])) (by simp at hk; omega)]
    rfl
theorem encK_len (ds : List Bool) (l : List S49) : ∀ i, (∀ x ∈ l, DatOk x) → l.length ≤ (encK ds i l).length := by
  induction l with
  | nil => intro i _; simp
  | cons x r ih =>
    intro i hl
    have h1 := ih (i + 1) (fun y hy => hl y (by simp [hy]))
    have h2 := encD_ne (desc ds i) x (hl x (by simp)).1
    have h3 : 0 < (encD (desc ds i) x).length := List.length_pos_iff.mpr h2
    rw [encK, List.length_append, List.length_cons]
    omega
theorem put_get (ds : List Bool) : ∀ (k i : Nat) (s : Bytes) (ys : List S49), getKeyL ds k i s = some ys → (∀ y ∈ ys, DatOk y ∧ y.f2.size ≤ s.length) ∧ ys.length ≤ s.length ∧ encK ds i ys = s := by
  intro k
  induction k with
  | zero => intro i s ys h; cases h
  | succ k ih =>
    intro i s ys h
    rw [getKeyL] at h
    split at h
    · rename_i hs
      obtain rfl := Option.some.inj h
      subst hs
      exact ⟨fun y hy => (List.not_mem_nil hy).elim, by simp, rfl⟩
    · rename_i hs
      obtain ⟨S, hS⟩ : ∃ S, (if desc ds i then flipL s else s) = S := ⟨_, rfl⟩
      rw [hS] at h
      have hSl : S.length = s.length := by rw [← hS]; split <;> simp [flipL_len]
      cases ho : oneL S with
      | none => rw [ho] at h; cases h
      | some y =>
        obtain ⟨x, n⟩ := y
        rw [ho] at h
        simp only at h
        cases hg : getKeyL ds k (i + 1) (s.drop n) with
        | none => rw [hg] at h; cases h
        | some zs =>
          rw [hg] at h
          obtain rfl := Option.some.inj h
          obtain ⟨h1, hn1, hn, h2, h3⟩ := one_back S x n ho
          obtain ⟨g1, g2, g3⟩ := ih (i + 1) (s.drop n) zs hg
          rw [List.length_drop] at g2
          refine ⟨?_, by simp; omega, ?_⟩
          · intro y hy
            rcases List.mem_cons.mp hy with rfl | hy
            · exact ⟨h1, by omega⟩
            · obtain ⟨a, b⟩ := g1 y hy
              rw [List.length_drop] at b
              exact ⟨a, by omega⟩
          · rw [encK, g3]
            have : encD (desc ds i) x = s.take n := by
              cases hd : desc ds i with
              | false => rw [hd] at hS; simp only [Bool.false_eq_true, if_false] at hS; subst hS; simpa [encD] using h2
              | true =>
                rw [hd] at hS
                simp only [if_true] at hS
                subst hS
                simp only [encD, if_true]
                rw [h2, flipL_take, flipL_two]
            rw [this, List.take_append_drop]
end Go.Proofs.Ythpabgiicglbmaa.Pure
