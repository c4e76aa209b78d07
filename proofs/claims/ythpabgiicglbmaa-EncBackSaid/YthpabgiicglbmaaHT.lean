import Derived.Test.YthpabgiicglbmaaHR
import Derived.Test.YthpabgiicglbmaaHC
namespace Go.Proofs.Ythpabgiicglbmaa.E
set_option linter.unusedVariables false
set_option linter.unusedSimpArgs false
open Go.RowKit Go.Proofs.YthpabgiicglbmaaW.PrintWords Go.Proofs.YthpabgiicglbmaaW.PrintLast Go.Proofs.YthpabgiicglbmaaW.PrintMore

theorem flip_flip (l : Bytes) : flipL (flipL l) = l := by
  simp only [flipL, List.map_map]
  conv => rhs; rw [← List.map_id l]
  apply List.map_congr_left
  intro b _
  apply UInt8.toNat_inj.mp
  have := b.toNat_lt
  simp only [Function.comp, id, UInt8.toNat_sub]
  show (2 ^ 8 - (2 ^ 8 - b.toNat + 255) % 2 ^ 8 + 255) % 2 ^ 8 = b.toNat
  omega
theorem flip_len (l : Bytes) : (flipL l).length = l.length := by simp [flipL]
theorem flip_drop (l : Bytes) (n : Nat) : (flipL l).drop n = flipL (l.drop n) := by simp [flipL]
theorem one_dat (l : Bytes) : datL l = (oneL l).map fun x => (x.1, l.drop x.2) := by
  cases l with
  | nil => rfl
  | cons b r =>
    have hlt := b.toNat_lt
    have e : ∀ n : Nat, n < 256 → (b = UInt8.ofNat n ↔ b.toNat = n) := fun n hn =>
      ⟨fun h => by rw [h, UInt8.toNat_ofNat', Nat.mod_eq_of_lt (by omega)], fun h => by rw [← h]; simp⟩
    have e1 : b = 1 ↔ b.toNat = 1 := e 1 (by decide)
    have e2 : b = 2 ↔ b.toNat = 2 := e 2 (by decide)
    have e3 : b = 3 ↔ b.toNat = 3 := e 3 (by decide)
    have e4 : b = 4 ↔ b.toNat = 4 := e 4 (by decide)
    simp only [datL, oneL]
    by_cases h1 : b.toNat = 1
    · rw [if_pos (e1.mpr h1), if_pos (by omega), h1]; rfl
    · rw [if_neg (fun h => h1 (e1.mp h))]
      by_cases h2 : b.toNat = 2
      · rw [if_pos (e2.mpr h2), if_pos (by omega), h2]
        cases r with
        | nil => rfl
        | cons c r =>
          simp only [getL]
          by_cases hc : c.toNat ≤ 1 <;> simp [hc]
      · rw [if_neg (fun h => h2 (e2.mp h))]
        by_cases h3 : b.toNat = 3
        · rw [if_pos (e3.mpr h3), if_pos (by omega), h3]
          simp only [getL]
          cases getIntL r <;> simp
        · rw [if_neg (fun h => h3 (e3.mp h))]
          by_cases h4 : b.toNat = 4
          · rw [if_pos (e4.mpr h4), if_pos (by omega), h4]
            simp only [getL]
            cases unescL r <;> simp
          · rw [if_neg (fun h => h4 (e4.mp h)), if_neg (by omega)]; rfl
theorem one_pos (l : Bytes) (x : S49 × Nat) (h : oneL l = some x) : 1 ≤ x.2 := by
  cases l with
  | nil => cases h
  | cons b r =>
    simp only [oneL] at h
    split at h
    · obtain rfl := Option.some.inj h; simp
    · split at h
      · cases r with
        | nil => cases h
        | cons c r =>
          simp only at h
          split at h
          · obtain rfl := Option.some.inj h; simp
          · cases h
      · split at h
        · cases hi : getIntL r with
          | none => rw [hi] at h; cases h
          | some n => rw [hi] at h; obtain rfl := Option.some.inj h; simp
        · split at h
          · cases hi : unescL r with
            | none => rw [hi] at h; cases h
            | some n => rw [hi] at h; obtain rfl := Option.some.inj h; simp
          · cases h
theorem dat_shorter (l : Bytes) (x : S49) (rest : Bytes) (h : datL l = some (x, rest)) : rest.length < l.length := by
  rw [one_dat] at h
  cases ho : oneL l with
  | none => rw [ho] at h; cases h
  | some y =>
    rw [ho] at h
    have := one_pos l y ho
    simp only [Option.map_some, Option.some.injEq, Prod.mk.injEq] at h
    obtain ⟨_, rfl⟩ := h
    rw [List.length_drop]
    cases l with
    | nil => cases ho
    | cons b r => simp only [List.length_cons]; omega
theorem keyL_step (ds : List Bool) (k i : Nat) (r : Bytes) (hr : r ≠ []) :
    getKeyL ds (k + 1) i r = (datL (if desc ds i then flipL r else r)).bind fun x => (getKeyL ds k (i + 1) (if desc ds i then flipL x.2 else x.2)).map (x.1 :: ·) := by
  rw [getKeyL, if_neg hr, one_dat]
  cases hd : desc ds i with
  | false =>
    simp only [Bool.false_eq_true, if_false]
    cases oneL r <;> rfl
  | true =>
    simp only [if_true]
    cases oneL (flipL r) with
    | none => rfl
    | some y => simp [flip_drop, flip_flip]
theorem cons_some (b : UInt8) (r : Bytes) : (ofL (b :: r)).toList.isEmpty = false := by rw [toList_ofL]; rfl
theorem nil_none : (ofL []).toList.isEmpty = true := by rw [toList_ofL]; rfl

def ListPost (tgt : Option (List S49)) (g : Nat) (w : World) (e : Ending) (w' : World) : Prop :=
  (∃ xs v, tgt = some xs ∧ e = .returned v ∧ Kd.R k49 49 w' w.heap.size (fun _ => True) v xs ∧ Now g [] w w') ∨ (tgt = none ∧ e = .panicked fail ∧ But g w w')

set_option maxRecDepth 100000 in
set_option maxHeartbeats 4000000 in
theorem list_walk (g : Nat) (l : Bytes) (ds : List Bool) (A : Option Addr) (c : Nat) (w0 w : World) (hl : l.length ≤ 1000000) (hc : w.cell? ⟨g, 0, none⟩ = some (.string (ofL l))) (hf : w.frozen? ⟨g, 0, none⟩ = false) (hr : Kd.C Kd.bool w0 A ds.length ds) (hca : ds.length ≤ c) (hb0 : Below w0.heap.size w0 w) (hg0 : w0.heap.size ≤ g) :
    Calls Try.prog 78 #[.pointer (some ⟨g, 0, none⟩), .slice A ds.length c] w fun e w' => ListPost (getKeyL ds (l.length + 1) 0 l) g w e w' := by
  have hgw := lt_cell hc
  have HN := Aside0.mk (Now.here hc hf)
  have HR := Aside0.mk (fun (W : World) (h : But g w W) => Kd.C_below hr (hb0.trans (h.below hg0 (by omega))))
  have HCA := Aside0.mk hca
  clear hc hf hr hca hb0 hg0
  generalize htg : getKeyL ds (l.length + 1) 0 l = tgt
  have HT := Aside0.mk (show (getKeyL ds (l.length + 1) ([] : List S49).length l).map ([] ++ ·) = tgt by simp [htg])
  clear htg
  go_enter Try.func78, Try.ntmps78
  go_wp2
  go_loopg [5] (l.length + 1) (fun kq v wr => ∃ (xs : List S49) (r : Bytes), Aside0 ((getKeyL ds kq xs.length r).map (xs ++ ·) = tgt) ∧ Aside0 (r.length < kq) ∧ Aside0 (xs.length + r.length ≤ l.length) ∧ Aside0 (Kd.R k49 49 wr w.heap.size (fun k => k ≠ g) v xs) ∧ Aside0 (Now g r w wr))
  case atStart => exact ⟨[], l, HT, ⟨by omega⟩, ⟨by simp⟩, ⟨Kd.R_nil _ _ _ _ _⟩, HN⟩
  case round =>
    clear HN HT
    obtain ⟨xs, r, HT, HK, HL, HO, HN⟩ := hrel
    obtain ⟨k1, rfl⟩ : ∃ k1, gk = k1 + 1 := ⟨gk - 1, by have := HK.out; omega⟩
    have hc := HN.out.cell
    have hf := HN.out.frozen
    cases r with
    | nil =>
      have he := nil_none
      have HE : Aside0 (tgt = some xs) := ⟨by rw [← HT.out]; simp [getKeyL]⟩
      go_wp2
      go_ret
      refine .inl ⟨xs, _, HE.out, rfl, Kd.R_mono HO.out (fun _ _ => trivial), HN.out⟩
    | cons b r =>
      have he := cons_some b r
      obtain ⟨Ao, co, rfl⟩ := Kd.R_slice HO.out
      obtain ⟨dv, hdv⟩ : ∃ dv, desc ds xs.length = dv := ⟨_, rfl⟩
      have HF := Aside0.mk ((falls_spec ds xs.length).trans (congrArg some hdv))
      have HS := Aside0.mk (keyL_step ds k1 xs.length (b :: r) (by simp))
      rw [hdv] at HS
      clear hdv
      have HHR := Aside0.mk (HR.out _ HN.out.but)
      go_wp2_with fail
      refine (enc_falls.calls A c ds xs.length dv _ HHR.out HCA.out HF.out).mono ?_
      rintro e w2 ⟨rfl, ⟨n1, rfl⟩⟩
      have hn := HN.out.drewN n1
      have ho := Kd.R_drewN HO.out n1
      clear HN HO hc hf HF HHR he
      obtain ⟨W, hW⟩ : ∃ W, wr.drewN n1 = W := ⟨_, rfl⟩
      rw [hW] at hn ho ⊢
      clear hW
      have HN := Aside0.mk hn
      have HO := Aside0.mk ho
      clear hn ho
      cases dv
      · have HD := Aside0.mk (dat_walk g (b :: r) _ (by have := HL.out; omega) HN.out.cell HN.out.frozen)
        go_wp2_with fail
        refine HD.out.mono ?_
        clear HD
        rintro e w3 (⟨x, rest, hx, rfl, hn3⟩ | ⟨hx, rfl, hb4⟩)
        · have hsh := dat_shorter _ _ _ hx
          have HTN : Aside0 ((getKeyL ds k1 (xs ++ [x]).length rest).map ((xs ++ [x]) ++ ·) = tgt) := ⟨by rw [← HT.out, HS.out]; simp [hx, Function.comp_def]⟩
          have HSH := Aside0.mk hsh
          have ho3 := Kd.R_keep HO.out (g := g) ⟨hn3.but.size, fun i hi hg _ => hn3.but.block i hi hg⟩ (fun _ h => h)
          have hn2 := HN.out.trans hn3
          clear hsh hx HN HO HT HS hn3 W
          obtain ⟨W, rfl⟩ : ∃ W, W = w3 := ⟨_, rfl⟩
          have HO2 := Aside0.mk ho3
          have HN2 := Aside0.mk hn2
          have HFR := Aside0.mk (show ∀ k, W.heap.size ≤ k → k ≠ g from fun k hk => by have := hn2.but.size; omega)
          have HSZ := Aside0.mk hn2.but.size
          clear ho3 hn2
          go_wp2_with (first | ((with_reducible refine gate_builtin (b := .append) (xs := #[.tmp 28, .tmp 31]) rfl ?_); at_builtin; refine Kd.R_append k49 (w0 := W) w.heap.size rfl (.tmp 28) (.tmp 31) 44 49 (.agg #[(.int .i64 0), (.int .i64 0), (.string ⟨#[]⟩)]) 32 rfl Try.underlying44 info49 rfl (by decide) (by omega) (.slice Ao xs.length co) xs x [.int .i64 x.f0, .int .i64 x.f1, .string x.f2] (fun k => k ≠ g) (fun _ => False) rfl (by first | (go_simp; done) | (go_simp; rfl)) ?aP (fun _ hk => hk.elim) ?aF ?aO ?aB ?aS ?aL ?_; (case aP => exact k49_mkM _ _ _ x); (case aB => exact (Below.refl _ _)); (case aF => exact HFR.out); (case aO => exact HO2.out); (case aS => exact HSZ.out); (case aL => have := HL.out; simp only [List.length_cons] at *; omega); intro v1 w6 ho hb hg hat; have HO3 := Aside0.mk ho; have HN3 := Aside0.mk (HN2.out.below_trans hgw hb); clear HO2 HN2; clear ho hb hg hat))
          go_roundg k1
          case measure => omega
          case rel => exact ⟨xs ++ [x], rest, HTN, ⟨by have := HK.out; have := HSH.out; simp at *; omega⟩, ⟨by have := HL.out; have := HSH.out; simp at *; omega⟩, HO3, HN3⟩
        · exact ⟨rfl, .inr ⟨by rw [← HT.out, HS.out]; simp [hx], rfl, HN.out.but.trans hb4⟩⟩
      · have hc := HN.out.cell
        have hf := HN.out.frozen
        go_wp2_with fail
        refine (enc_Flip.calls (ofL (b :: r)) (ofL (flipL (b :: r))) _ (by rw [enc_Flip.f, if_pos (by rw [size_ofL]; have := HL.out; omega), toL_ofL])).mono ?_
        rintro e w3 ⟨rfl, hb⟩
        have hn3 := HN.out.below_trans hgw (hb.mono HN.out.but.size)
        have ho3 := Kd.R_below HO.out hb
        clear hc hf hb HN HO W
        have HN := Aside0.mk hn3
        have HO := Aside0.mk ho3
        have hc := hn3.cell
        have hf := hn3.frozen
        clear hn3 ho3
        go_wp2_with fail
        refine (dat_walk g (flipL (b :: r)) _ (by rw [flip_len]; have := HL.out; omega) (Now.set (flipL (b :: r)) hc hf).cell (Now.set (flipL (b :: r)) hc hf).frozen).mono ?_
        rintro e w5 (⟨x, rest, hx, rfl, hn5⟩ | ⟨hx, rfl, hb4⟩)
        · have hsh := dat_shorter _ _ _ hx
          rw [flip_len] at hsh
          have HTN : Aside0 ((getKeyL ds k1 (xs ++ [x]).length (flipL rest)).map ((xs ++ [x]) ++ ·) = tgt) := ⟨by rw [← HT.out, HS.out]; simp [hx, Function.comp_def]⟩
          have HSH := Aside0.mk hsh
          have ho3 := Kd.R_keep (Kd.R_far (p := ⟨g, 0, none⟩) HO.out (fun _ h => h) (.string (ofL (flipL (b :: r))))) (g := g) ⟨hn5.but.size, fun i hi hg _ => hn5.but.block i hi hg⟩ (fun _ h => h)
          have hn2 := (HN.out.trans (Now.set (flipL (b :: r)) hc hf)).trans hn5
          clear hsh hx hc hf HN HO HT HS hn5
          obtain ⟨W, rfl⟩ : ∃ W, W = w5 := ⟨_, rfl⟩
          have HO2 := Aside0.mk ho3
          have HN2 := Aside0.mk hn2
          have HFR := Aside0.mk (show ∀ k, W.heap.size ≤ k → k ≠ g from fun k hk => by have := hn2.but.size; omega)
          have HSZ := Aside0.mk hn2.but.size
          clear ho3 hn2
          go_wp2_with (first | ((with_reducible refine gate_builtin (b := .append) (xs := #[.tmp 28, .tmp 31]) rfl ?_); at_builtin; refine Kd.R_append k49 (w0 := W) w.heap.size rfl (.tmp 28) (.tmp 31) 44 49 (.agg #[(.int .i64 0), (.int .i64 0), (.string ⟨#[]⟩)]) 32 rfl Try.underlying44 info49 rfl (by decide) (by omega) (.slice Ao xs.length co) xs x [.int .i64 x.f0, .int .i64 x.f1, .string x.f2] (fun k => k ≠ g) (fun _ => False) rfl (by first | (go_simp; done) | (go_simp; rfl)) ?aP (fun _ hk => hk.elim) ?aF ?aO ?aB ?aS ?aL ?_; (case aP => exact k49_mkM _ _ _ x); (case aB => exact (Below.refl _ _)); (case aF => exact HFR.out); (case aO => exact HO2.out); (case aS => exact HSZ.out); (case aL => have := HL.out; simp only [List.length_cons] at *; omega); intro v1 w6 ho hb hg hat; have HO3 := Aside0.mk ho; have HN3 := Aside0.mk (HN2.out.below_trans hgw hb); clear HO2 HN2; clear ho hb hg hat; have hc6 := HN3.out.cell; have hf6 := HN3.out.frozen))
          refine (enc_Flip.calls (ofL rest) (ofL (flipL rest)) _ (by rw [enc_Flip.f, if_pos (by rw [size_ofL]; have := HL.out; have := HSH.out; omega), toL_ofL])).mono ?_
          rintro e w7 ⟨rfl, hb⟩
          have hn7 := HN3.out.below_trans hgw (hb.mono HN3.out.but.size)
          have ho7 := Kd.R_below HO3.out hb
          clear hc6 hf6 hb HN3 HO3
          have hc7 := hn7.cell
          have hf7 := hn7.frozen
          have HN7 := Aside0.mk (hn7.trans (Now.set (flipL rest) hc7 hf7))
          have HO7 := Aside0.mk (Kd.R_far (p := ⟨g, 0, none⟩) ho7 (fun _ h => h) (.string (ofL (flipL rest))))
          clear hn7 ho7
          go_wp2
          go_roundg k1
          case measure => omega
          case rel => exact ⟨xs ++ [x], flipL rest, HTN, ⟨by have := HK.out; have := HSH.out; rw [flip_len]; omega⟩, ⟨by have := HL.out; have := HSH.out; rw [flip_len, List.length_append, List.length_singleton]; omega⟩, HO7, HN7⟩
        · exact ⟨rfl, .inr ⟨by rw [← HT.out, HS.out]; simp [hx], rfl, (HN.out.trans (Now.set (flipL (b :: r)) hc hf)).but.trans hb4⟩⟩
end Go.Proofs.Ythpabgiicglbmaa.E

namespace Go.Proofs.Ythpabgiicglbmaa.E
open Go.RowKit Go.Proofs.YthpabgiicglbmaaW.PrintWords Go.Proofs.YthpabgiicglbmaaW.PrintLast Go.Proofs.YthpabgiicglbmaaW.PrintMore

theorem call77 : ∀ args w, (callFunc 77 args).run Try.prog w = .ok (.enter 77 args) w := run_call 77 _ Try.func77 (by kernel_rfl) (by kernel_rfl)
set_option maxRecDepth 100000 in
theorem key1_walk (g d : Nat) (l : Bytes) (ds : List Bool) (A : Option Addr) (c : Nat) (w0 w : World) (hl : l.length ≤ 1000000) (hc : w.cell? ⟨g, 0, none⟩ = some (.string (ofL l))) (hf : w.frozen? ⟨g, 0, none⟩ = false) (hr : Kd.C Kd.bool w0 A ds.length ds) (hca : ds.length ≤ c) (hb0 : Below w0.heap.size w0 w) (hg0 : w0.heap.size ≤ g) (hbox : w.cell? ⟨d, 0, none⟩ = some (.slice A ds.length c)) :
    Calls Try.prog 77 #[.pointer (some ⟨g, 0, none⟩), .pointer (some ⟨d, 0, none⟩)] w fun e w' => ListPost (getKeyL ds (l.length + 1) 0 l) g w e w' := by
  have HL := Aside0.mk (list_walk g l ds A c w0 w hl hc hf hr hca hb0 hg0)
  clear hc hf hr hca hb0 hg0
  go_enter Try.func77, Try.ntmps77
  go_wp2_with fail
  refine HL.out.mono ?_
  rintro e w1 (⟨xs, v, hx, rfl, ho, hn⟩ | ⟨hx, rfl, hb⟩)
  · have HP : Aside0 (ListPost (getKeyL ds (l.length + 1) 0 l) g w (.returned v) w1) := ⟨.inl ⟨xs, v, hx, rfl, ho, hn⟩⟩
    clear ho hn hx
    go_wp2
    go_ret
    exact HP.out
  · exact ⟨rfl, .inr ⟨hx, rfl, hb⟩⟩

def KeyPost (w : World) (l : List S49) (n : Int) (e : Ending) (w' : World) : Prop := ∃ v : Value, e = .returned (.tuple #[v, .int .i64 n]) ∧ Kd.R k49 49 w' w.heap.size (fun _ => True) v l ∧ Below w.heap.size w w'
set_option maxRecDepth 100000 in
theorem get_key_bad (l : Bytes) (ds : List Bool) (A : Option Addr) (c : Nat) (w : World) (hl : l.length ≤ 1000000) (hr : Kd.C Kd.bool w A ds.length ds) (hca : ds.length ≤ c) (hg : getKeyL ds (l.length + 1) 0 l = none) :
    Calls Try.prog 41 #[.string (ofL l), .slice A ds.length c] w fun e w' => KeyPost w [] 2 e w' := by
  have hmf : ∀ (fn : Fn) (first cap : Array Value) (w : World), (Instr.makeFunc fn first cap).run Try.prog w = .ok (.func fn first cap) w := fun _ _ _ _ => rfl
  have hbx : (w.alloc (.cells #[.slice A ds.length c] 45)).cell? ⟨w.heap.size, 0, none⟩ = some (.slice A ds.length c) := by simp [go_sem]
  have HK := Aside0.mk (got_no_44 77 #[.pointer (some ⟨w.heap.size, 0, none⟩)] (ofL l) (w.alloc (.cells #[.slice A ds.length c] 45)) call77 (fun g W hc hf hb hgw =>
    (key1_walk g w.heap.size l ds A c (w.alloc (.cells #[.slice A ds.length c] 45)) W hl hc hf (Kd.C_alloc hr _) hca hb hgw ((hb.cell (p := ⟨w.heap.size, 0, none⟩) (by simp)).trans hbx)).mono fun e w' h => by
      rcases h with ⟨xs, v, hx, _⟩ | ⟨_, he, hb⟩
      · rw [hg] at hx; cases hx
      · exact ⟨he, hb⟩))
  clear hr hca hg hbx
  go_enter Try.func41, Try.ntmps41
  go_wp2_with fail
  refine HK.out.mono ?_
  rintro e w1 ⟨rfl, hb⟩
  have HB := Aside0.mk (((Below.refl _ w).alloc (Nat.le_refl _) (.cells #[.slice A ds.length c] 45)).trans (hb.mono (by simp)))
  clear hb HK
  go_wp2
  go_ret2
  exact ⟨.slice none 0 0, rfl, Kd.R_nil _ _ _ _ _, HB.out⟩
set_option maxRecDepth 100000 in
theorem get_key_ok (l : Bytes) (ds : List Bool) (A : Option Addr) (c : Nat) (xs : List S49) (w : World) (hl : l.length ≤ 1000000) (hr : Kd.C Kd.bool w A ds.length ds) (hca : ds.length ≤ c) (hg : getKeyL ds (l.length + 1) 0 l = some xs) :
    Calls Try.prog 41 #[.string (ofL l), .slice A ds.length c] w fun e w' => KeyPost w xs 0 e w' := by
  have hmf : ∀ (fn : Fn) (first cap : Array Value) (w : World), (Instr.makeFunc fn first cap).run Try.prog w = .ok (.func fn first cap) w := fun _ _ _ _ => rfl
  have hbx : (w.alloc (.cells #[.slice A ds.length c] 45)).cell? ⟨w.heap.size, 0, none⟩ = some (.slice A ds.length c) := by simp [go_sem]
  have HK := Aside0.mk (got_yes_44 77 #[.pointer (some ⟨w.heap.size, 0, none⟩)] (ofL l) (ofL []) xs (w.alloc (.cells #[.slice A ds.length c] 45)) call77 (by rw [size_ofL]; omega) (by rw [size_ofL, size_ofL]; simp) (fun g W hc hf hb hgw =>
    (key1_walk g w.heap.size l ds A c (w.alloc (.cells #[.slice A ds.length c] 45)) W hl hc hf (Kd.C_alloc hr _) hca hb hgw ((hb.cell (p := ⟨w.heap.size, 0, none⟩) (by simp)).trans hbx)).mono fun e w' h => by
      rcases h with ⟨xs', v, hx, he, ho, hn⟩ | ⟨hx, _⟩
      · rw [hg] at hx; cases hx
        exact ⟨v, he, Kd.R_lower ho (Nat.succ_le_of_lt (lt_cell hc)), hn.cell, hn.but⟩
      · rw [hg] at hx; cases hx))
  clear hr hca hg hbx
  go_enter Try.func41, Try.ntmps41
  go_wp2_with fail
  refine HK.out.mono ?_
  rintro e w1 ⟨v, rfl, ho, hb⟩
  have HB := Aside0.mk (((Below.refl _ w).alloc (Nat.le_refl _) (.cells #[.slice A ds.length c] 45)).trans (hb.mono (by simp)))
  have HO := Aside0.mk (Kd.R_lower (base' := w.heap.size) ho (by simp))
  clear hb HK ho
  go_wp2
  go_ret2
  exact ⟨v, rfl, HO.out, HB.out⟩
theorem enc_GetKey.calls (a0 : ByteArray) (A1 : Option Addr) (c1 : Nat) (l1 : List Bool) (r1 : List (S49)) (r2 : Int) (w : World) (hr1 : Kd.C Kd.bool w A1 l1.length l1) (hc1 : l1.length ≤ c1) (h : enc_GetKey.f a0 l1 = some (r1, r2)) :
    Calls Try.prog 41 #[.string a0, .slice A1 l1.length c1] w fun e w' => ∃ v0_ : Value, e = .returned (.tuple #[v0_, .int .i64 r2]) ∧ Kd.R k49 49 w' w.heap.size (fun _ => True) v0_ r1 ∧ Below w.heap.size w w' := by
  unfold enc_GetKey.f at h
  split at h
  · rename_i hs
    obtain ⟨l, rfl⟩ : ∃ l, a0 = ofL l := ⟨toL a0, (ofL_toL a0).symm⟩
    rw [toL_ofL, size_ofL] at h
    rw [size_ofL] at hs
    cases hg : getKeyL l1 (l.length + 1) 0 l with
    | none =>
      rw [hg] at h
      simp only [Option.some.injEq, Prod.mk.injEq] at h
      obtain ⟨rfl, rfl⟩ := h
      exact get_key_bad l l1 A1 c1 w hs hr1 hc1 hg
    | some x =>
      rw [hg] at h
      simp only [Option.some.injEq, Prod.mk.injEq] at h
      obtain ⟨rfl, rfl⟩ := h
      exact get_key_ok l l1 A1 c1 x w hs hr1 hc1 hg
  · cases h
end Go.Proofs.Ythpabgiicglbmaa.E
