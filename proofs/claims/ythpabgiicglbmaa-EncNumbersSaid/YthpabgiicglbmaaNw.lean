/- EncNumbers: the law's own function, walked by hand out of the contracts; every comparison's answer is known ahead. -/
import Derived.Test.YthpabgiicglbmaaPu
import Derived.Test.YthpabgiicglbmaaEx4
import Derived.Test.YthpabgiicglbmaaEx5
import Derived.Test.YthpabgiicglbmaaP0
namespace Go.Proofs.Ythpabgiicglbmaa.Pure
set_option linter.unusedVariables false
set_option linter.unusedSimpArgs false
open Go.RowKit Go.Proofs.Ythpabgiicglbmaa.E Go.Proofs.YthpabgiicglbmaaW.PrintWords Go.Proofs.YthpabgiicglbmaaW.PrintLast Go.Proofs.YthpabgiicglbmaaW.PrintMore

theorem wf_u32 (n : Int) (h : (Lit.int .u32 n).wf = true) : 0 ≤ n ∧ n ≤ 4294967295 := by
  have e1 : IntKind.u32.min = 0 := rfl
  have e2 : IntKind.u32.max = 4294967295 := rfl
  simp [Lit.wf] at h
  omega
set_option maxRecDepth 100000 in
set_option maxHeartbeats 4000000 in
theorem numbers_walk (n m : Int) (s : ByteArray) (w : World) (hm : 0 ≤ m ∧ m ≤ 4294967295) (hs : s.size ≤ 140737488351232) :
    Calls Try.prog 13 #[.int .i64 n, .int .u32 m, .string s] w fun e w' => e = .returned (.bool true) ∧ Below w.heap.size w w' := by
  obtain ⟨l, rfl⟩ : ∃ l, s = ofL l := ⟨toL s, (ofL_toL s).symm⟩
  rw [size_ofL] at hs
  obtain ⟨a, e0, hp1, hp2, hp3⟩ := put_same n
  obtain ⟨z, hz1, hz2⟩ := put32_same m hm
  have hg1 := encGetUint l (by omega)
  have hg2 := refGetUint l (by omega) 30 (by omega)
  have ht1 := encGet32 l (by omega)
  have ht2 := refGet32 l 30 (by omega)
  obtain ⟨⟨b, k, f⟩, hbk⟩ : ∃ x, uintR (getUintL l) = x := ⟨_, rfl⟩
  rw [hbk] at hg1 hg2
  obtain ⟨c, i, g, hi1, hi2⟩ : ∃ c i g : Int, enc_GetInt.f (ofL l) = some (c, i, g) ∧ understoryref01_GetInt.f 30 (ofL l) = some (c, i, g) := by
    have hi1 := encGetInt l (by omega)
    have hi2 := refGetIntN l 30 (by omega)
    cases hx : getIntL l with
    | none => rw [hx] at hi1 hi2; exact ⟨0, 0, 2, hi1, hi2⟩
    | some x => rw [hx] at hi1 hi2; exact ⟨x, 8, 0, hi1, hi2⟩
  obtain ⟨d, d4, h, hd1, hd2, hdr⟩ : ∃ d d4 h : Int, enc_Get32.f (ofL l) = some (d, h) ∧ understoryref01_Get32.f 30 (ofL l) = some (d, d4, h) ∧ 0 ≤ d ∧ d ≤ 4294967295 := by
    cases hx : get32L l with
    | none => rw [hx] at ht1 ht2; exact ⟨0, 0, 2, ht1, ht2, by omega, by omega⟩
    | some x =>
      rw [hx] at ht1 ht2
      refine ⟨x, 4, 0, ht1, ht2, by omega, ?_⟩
      unfold get32L at hx
      split at hx
      · cases hx
      · rename_i h4
        obtain rfl := Option.some.inj hx
        have : unbigL (l.take 4) < 256 ^ 4 := Nat.lt_of_lt_of_le (unbigL_lt _) (Nat.pow_le_pow_right (by omega) (by rw [List.length_take]; omega))
        have e4 : (256 : Nat) ^ 4 = 4294967296 := by decide
        omega
  have HP1 := Aside0.mk hp1
  have HP2 := Aside0.mk hp2
  have HZ1 := Aside0.mk hz1
  have HZ2 := Aside0.mk hz2
  have HG1 := Aside0.mk hg1
  have HG2 := Aside0.mk hg2
  have HI1 := Aside0.mk hi1
  have HI2 := Aside0.mk hi2
  have HD1 := Aside0.mk hd1
  have HD2 := Aside0.mk hd2
  have HN1 := Aside0.mk (putInt_fuel n 20 (by omega))
  have HN2 := Aside0.mk (refPutInt n 20 (by omega))
  have HS := Aside0.mk sane_ok
  have hmo : Try.prog.follows .mixedOrders = true := by kernel_rfl
  have hw64 : wrap64 d = d := w64 _ (by omega) (by omega)
  clear hp1 hp2 hp3 hz1 hz2 hg1 hg2 hi1 hi2 hd1 hd2 ht1 ht2 hbk
  have HB0 := Aside0.mk (Below.refl w.heap.size w)
  go_enter Try.func13, Try.ntmps13
  go_wp2_with fail
  refine (enc_PutUint.calls _ _ _ _ _ HP1.out).mono ?_
  rintro e w1 ⟨rfl, hb⟩
  have HB1 := Aside0.mk (HB0.out.trans (hb.mono (by have := HB0.out.size; first | omega | (simp; done) | (simp; omega))))
  clear hb HB0
  go_wp2_with fail
  refine (understoryref01_PutUint.calls _ _ _ _ _ HP2.out).mono ?_
  rintro e w2 ⟨rfl, hb⟩
  have HB2 := Aside0.mk (HB1.out.trans (hb.mono (by have := HB1.out.size; first | omega | (simp; done) | (simp; omega))))
  clear hb HB1
  go_wp2_with fail
  refine (enc_GetUint.calls _ _ _ _ _ HG1.out).mono ?_
  rintro e w3 ⟨rfl, hb⟩
  have cx0n : w3.cell? ⟨w2.heap.size, 0, none⟩ = some (.string a) := by rw [hb.cell (by simp)]; simp [go_sem]
  have cx1n : w3.cell? ⟨w2.heap.size, 1, none⟩ = some (.int .i64 e0) := by rw [hb.cell (by simp)]; simp [go_sem]
  have sxn := Aside0.mk (show w2.heap.size < w3.heap.size by have := hb.size; (try simp at this); omega)
  have HB3 := Aside0.mk ((HB2.out.alloc HB2.out.size _).trans (hb.mono (by have := HB2.out.size; first | omega | (simp; done) | (simp; omega))))
  clear hb HB2
  have cx0 := cx0n
  clear cx0n
  have cx1 := cx1n
  clear cx1n
  have sx := sxn
  clear sxn
  go_wp2_with fail
  refine (understoryref01_GetUint.calls _ _ _ _ _ _ HG2.out).mono ?_
  rintro e w4 ⟨rfl, hb⟩
  have cx0n : w4.cell? ⟨w2.heap.size, 0, none⟩ = some (.string a) := by rw [hb.cell (by have := sx.out; (try simp); omega)]; simp [go_sem, cx0, sx.out, Nat.ne_of_lt sx.out]
  have cx1n : w4.cell? ⟨w2.heap.size, 1, none⟩ = some (.int .i64 e0) := by rw [hb.cell (by have := sx.out; (try simp); omega)]; simp [go_sem, cx1, sx.out, Nat.ne_of_lt sx.out]
  have sxn := Aside0.mk (show w2.heap.size < w4.heap.size by have := hb.size; (try simp at this); have := sx.out; omega)
  have HB4 := Aside0.mk (HB3.out.trans (hb.mono (by have := HB3.out.size; first | omega | (simp; done) | (simp; omega))))
  clear hb HB3 cx0 cx1 sx
  have cx0 := cx0n
  clear cx0n
  have cx1 := cx1n
  clear cx1n
  have sx := sxn
  clear sxn
  go_wp2_with fail
  refine (enc_GetInt.calls _ _ _ _ _ HI1.out).mono ?_
  rintro e w5 ⟨rfl, hb⟩
  have cx0n : w5.cell? ⟨w2.heap.size, 0, none⟩ = some (.string a) := by rw [hb.cell (by have := sx.out; (try simp); omega)]; simp [go_sem, cx0, sx.out, Nat.ne_of_lt sx.out]
  have cx1n : w5.cell? ⟨w2.heap.size, 1, none⟩ = some (.int .i64 e0) := by rw [hb.cell (by have := sx.out; (try simp); omega)]; simp [go_sem, cx1, sx.out, Nat.ne_of_lt sx.out]
  have sxn := Aside0.mk (show w2.heap.size < w5.heap.size by have := hb.size; (try simp at this); have := sx.out; omega)
  have cy0n : w5.cell? ⟨w4.heap.size, 0, none⟩ = some (.int .i64 b) := by rw [hb.cell (by simp)]; simp [go_sem]
  have cy1n : w5.cell? ⟨w4.heap.size, 1, none⟩ = some (.int .i64 k) := by rw [hb.cell (by simp)]; simp [go_sem]
  have cy2n : w5.cell? ⟨w4.heap.size, 2, none⟩ = some (.int .i64 f) := by rw [hb.cell (by simp)]; simp [go_sem]
  have syn := Aside0.mk (show w4.heap.size < w5.heap.size by have := hb.size; (try simp at this); omega)
  have HB5 := Aside0.mk ((HB4.out.alloc HB4.out.size _).trans (hb.mono (by have := HB4.out.size; first | omega | (simp; done) | (simp; omega))))
  clear hb HB4 cx0 cx1 sx
  have cx0 := cx0n
  clear cx0n
  have cx1 := cx1n
  clear cx1n
  have sx := sxn
  clear sxn
  have cy0 := cy0n
  clear cy0n
  have cy1 := cy1n
  clear cy1n
  have cy2 := cy2n
  clear cy2n
  have sy := syn
  clear syn
  go_wp2_with fail
  refine (understoryref01_GetInt.calls _ _ _ _ _ _ HI2.out).mono ?_
  rintro e w6 ⟨rfl, hb⟩
  have cx0n : w6.cell? ⟨w2.heap.size, 0, none⟩ = some (.string a) := by rw [hb.cell (by have := sx.out; (try simp); omega)]; simp [go_sem, cx0, sx.out, Nat.ne_of_lt sx.out]
  have cx1n : w6.cell? ⟨w2.heap.size, 1, none⟩ = some (.int .i64 e0) := by rw [hb.cell (by have := sx.out; (try simp); omega)]; simp [go_sem, cx1, sx.out, Nat.ne_of_lt sx.out]
  have sxn := Aside0.mk (show w2.heap.size < w6.heap.size by have := hb.size; (try simp at this); have := sx.out; omega)
  have cy0n : w6.cell? ⟨w4.heap.size, 0, none⟩ = some (.int .i64 b) := by rw [hb.cell (by have := sy.out; (try simp); omega)]; simp [go_sem, cy0, sy.out, Nat.ne_of_lt sy.out]
  have cy1n : w6.cell? ⟨w4.heap.size, 1, none⟩ = some (.int .i64 k) := by rw [hb.cell (by have := sy.out; (try simp); omega)]; simp [go_sem, cy1, sy.out, Nat.ne_of_lt sy.out]
  have cy2n : w6.cell? ⟨w4.heap.size, 2, none⟩ = some (.int .i64 f) := by rw [hb.cell (by have := sy.out; (try simp); omega)]; simp [go_sem, cy2, sy.out, Nat.ne_of_lt sy.out]
  have syn := Aside0.mk (show w4.heap.size < w6.heap.size by have := hb.size; (try simp at this); have := sy.out; omega)
  have HB6 := Aside0.mk (HB5.out.trans (hb.mono (by have := HB5.out.size; first | omega | (simp; done) | (simp; omega))))
  clear hb HB5 cx0 cx1 sx cy0 cy1 cy2 sy
  have cx0 := cx0n
  clear cx0n
  have cx1 := cx1n
  clear cx1n
  have sx := sxn
  clear sxn
  have cy0 := cy0n
  clear cy0n
  have cy1 := cy1n
  clear cy1n
  have cy2 := cy2n
  clear cy2n
  have sy := syn
  clear syn
  go_wp2_with fail
  refine (enc_Get32.calls _ _ _ _ HD1.out).mono ?_
  rintro e w7 ⟨rfl, hb⟩
  have cx0n : w7.cell? ⟨w2.heap.size, 0, none⟩ = some (.string a) := by rw [hb.cell (by have := sx.out; (try simp); omega)]; simp [go_sem, cx0, sx.out, Nat.ne_of_lt sx.out]
  have cx1n : w7.cell? ⟨w2.heap.size, 1, none⟩ = some (.int .i64 e0) := by rw [hb.cell (by have := sx.out; (try simp); omega)]; simp [go_sem, cx1, sx.out, Nat.ne_of_lt sx.out]
  have sxn := Aside0.mk (show w2.heap.size < w7.heap.size by have := hb.size; (try simp at this); have := sx.out; omega)
  have cy0n : w7.cell? ⟨w4.heap.size, 0, none⟩ = some (.int .i64 b) := by rw [hb.cell (by have := sy.out; (try simp); omega)]; simp [go_sem, cy0, sy.out, Nat.ne_of_lt sy.out]
  have cy1n : w7.cell? ⟨w4.heap.size, 1, none⟩ = some (.int .i64 k) := by rw [hb.cell (by have := sy.out; (try simp); omega)]; simp [go_sem, cy1, sy.out, Nat.ne_of_lt sy.out]
  have cy2n : w7.cell? ⟨w4.heap.size, 2, none⟩ = some (.int .i64 f) := by rw [hb.cell (by have := sy.out; (try simp); omega)]; simp [go_sem, cy2, sy.out, Nat.ne_of_lt sy.out]
  have syn := Aside0.mk (show w4.heap.size < w7.heap.size by have := hb.size; (try simp at this); have := sy.out; omega)
  have cz0n : w7.cell? ⟨w6.heap.size, 0, none⟩ = some (.int .i64 c) := by rw [hb.cell (by simp)]; simp [go_sem]
  have cz1n : w7.cell? ⟨w6.heap.size, 1, none⟩ = some (.int .i64 i) := by rw [hb.cell (by simp)]; simp [go_sem]
  have cz2n : w7.cell? ⟨w6.heap.size, 2, none⟩ = some (.int .i64 g) := by rw [hb.cell (by simp)]; simp [go_sem]
  have szn := Aside0.mk (show w6.heap.size < w7.heap.size by have := hb.size; (try simp at this); omega)
  have HB7 := Aside0.mk ((HB6.out.alloc HB6.out.size _).trans (hb.mono (by have := HB6.out.size; first | omega | (simp; done) | (simp; omega))))
  clear hb HB6 cx0 cx1 sx cy0 cy1 cy2 sy
  have cx0 := cx0n
  clear cx0n
  have cx1 := cx1n
  clear cx1n
  have sx := sxn
  clear sxn
  have cy0 := cy0n
  clear cy0n
  have cy1 := cy1n
  clear cy1n
  have cy2 := cy2n
  clear cy2n
  have sy := syn
  clear syn
  have cz0 := cz0n
  clear cz0n
  have cz1 := cz1n
  clear cz1n
  have cz2 := cz2n
  clear cz2n
  have sz := szn
  clear szn
  go_wp2_with fail
  refine (understoryref01_Get32.calls _ _ _ _ _ _ HD2.out).mono ?_
  rintro e w8 ⟨rfl, hb⟩
  have cx0n : w8.cell? ⟨w2.heap.size, 0, none⟩ = some (.string a) := by rw [hb.cell (by have := sx.out; (try simp); omega)]; simp [go_sem, cx0, sx.out, Nat.ne_of_lt sx.out]
  have cx1n : w8.cell? ⟨w2.heap.size, 1, none⟩ = some (.int .i64 e0) := by rw [hb.cell (by have := sx.out; (try simp); omega)]; simp [go_sem, cx1, sx.out, Nat.ne_of_lt sx.out]
  have sxn := Aside0.mk (show w2.heap.size < w8.heap.size by have := hb.size; (try simp at this); have := sx.out; omega)
  have cy0n : w8.cell? ⟨w4.heap.size, 0, none⟩ = some (.int .i64 b) := by rw [hb.cell (by have := sy.out; (try simp); omega)]; simp [go_sem, cy0, sy.out, Nat.ne_of_lt sy.out]
  have cy1n : w8.cell? ⟨w4.heap.size, 1, none⟩ = some (.int .i64 k) := by rw [hb.cell (by have := sy.out; (try simp); omega)]; simp [go_sem, cy1, sy.out, Nat.ne_of_lt sy.out]
  have cy2n : w8.cell? ⟨w4.heap.size, 2, none⟩ = some (.int .i64 f) := by rw [hb.cell (by have := sy.out; (try simp); omega)]; simp [go_sem, cy2, sy.out, Nat.ne_of_lt sy.out]
  have syn := Aside0.mk (show w4.heap.size < w8.heap.size by have := hb.size; (try simp at this); have := sy.out; omega)
  have cz0n : w8.cell? ⟨w6.heap.size, 0, none⟩ = some (.int .i64 c) := by rw [hb.cell (by have := sz.out; (try simp); omega)]; simp [go_sem, cz0, sz.out, Nat.ne_of_lt sz.out]
  have cz1n : w8.cell? ⟨w6.heap.size, 1, none⟩ = some (.int .i64 i) := by rw [hb.cell (by have := sz.out; (try simp); omega)]; simp [go_sem, cz1, sz.out, Nat.ne_of_lt sz.out]
  have cz2n : w8.cell? ⟨w6.heap.size, 2, none⟩ = some (.int .i64 g) := by rw [hb.cell (by have := sz.out; (try simp); omega)]; simp [go_sem, cz2, sz.out, Nat.ne_of_lt sz.out]
  have szn := Aside0.mk (show w6.heap.size < w8.heap.size by have := hb.size; (try simp at this); have := sz.out; omega)
  have HB8 := Aside0.mk (HB7.out.trans (hb.mono (by have := HB7.out.size; first | omega | (simp; done) | (simp; omega))))
  clear hb HB7 cx0 cx1 sx cy0 cy1 cy2 sy cz0 cz1 cz2 sz
  have cx0 := cx0n
  clear cx0n
  have cx1 := cx1n
  clear cx1n
  have sx := sxn
  clear sxn
  have cy0 := cy0n
  clear cy0n
  have cy1 := cy1n
  clear cy1n
  have cy2 := cy2n
  clear cy2n
  have sy := syn
  clear syn
  have cz0 := cz0n
  clear cz0n
  have cz1 := cz1n
  clear cz1n
  have cz2 := cz2n
  clear cz2n
  have sz := szn
  clear szn
  have lx := sx.out
  have nx : ¬ w2.heap.size = w8.heap.size := Nat.ne_of_lt lx
  have ly := sy.out
  have ny : ¬ w4.heap.size = w8.heap.size := Nat.ne_of_lt ly
  have lz := sz.out
  have nz : ¬ w6.heap.size = w8.heap.size := Nat.ne_of_lt lz
  go_wp2_with fail
  refine (enc_PutInt.calls _ _ _ _ HN1.out).mono ?_
  rintro e w9 ⟨rfl, hb⟩
  have cx0n : w9.cell? ⟨w2.heap.size, 0, none⟩ = some (.string a) := by rw [hb.cell (by have := sx.out; (try simp); omega)]; simp [go_sem, cx0, sx.out, Nat.ne_of_lt sx.out]
  have cx1n : w9.cell? ⟨w2.heap.size, 1, none⟩ = some (.int .i64 e0) := by rw [hb.cell (by have := sx.out; (try simp); omega)]; simp [go_sem, cx1, sx.out, Nat.ne_of_lt sx.out]
  have sxn := Aside0.mk (show w2.heap.size < w9.heap.size by have := hb.size; (try simp at this); have := sx.out; omega)
  have cy0n : w9.cell? ⟨w4.heap.size, 0, none⟩ = some (.int .i64 b) := by rw [hb.cell (by have := sy.out; (try simp); omega)]; simp [go_sem, cy0, sy.out, Nat.ne_of_lt sy.out]
  have cy1n : w9.cell? ⟨w4.heap.size, 1, none⟩ = some (.int .i64 k) := by rw [hb.cell (by have := sy.out; (try simp); omega)]; simp [go_sem, cy1, sy.out, Nat.ne_of_lt sy.out]
  have cy2n : w9.cell? ⟨w4.heap.size, 2, none⟩ = some (.int .i64 f) := by rw [hb.cell (by have := sy.out; (try simp); omega)]; simp [go_sem, cy2, sy.out, Nat.ne_of_lt sy.out]
  have syn := Aside0.mk (show w4.heap.size < w9.heap.size by have := hb.size; (try simp at this); have := sy.out; omega)
  have cz0n : w9.cell? ⟨w6.heap.size, 0, none⟩ = some (.int .i64 c) := by rw [hb.cell (by have := sz.out; (try simp); omega)]; simp [go_sem, cz0, sz.out, Nat.ne_of_lt sz.out]
  have cz1n : w9.cell? ⟨w6.heap.size, 1, none⟩ = some (.int .i64 i) := by rw [hb.cell (by have := sz.out; (try simp); omega)]; simp [go_sem, cz1, sz.out, Nat.ne_of_lt sz.out]
  have cz2n : w9.cell? ⟨w6.heap.size, 2, none⟩ = some (.int .i64 g) := by rw [hb.cell (by have := sz.out; (try simp); omega)]; simp [go_sem, cz2, sz.out, Nat.ne_of_lt sz.out]
  have szn := Aside0.mk (show w6.heap.size < w9.heap.size by have := hb.size; (try simp at this); have := sz.out; omega)
  have cv0n : w9.cell? ⟨w8.heap.size, 0, none⟩ = some (.int .i64 d) := by rw [hb.cell (by simp)]; simp [go_sem]
  have cv1n : w9.cell? ⟨w8.heap.size, 1, none⟩ = some (.int .i64 d4) := by rw [hb.cell (by simp)]; simp [go_sem]
  have cv2n : w9.cell? ⟨w8.heap.size, 2, none⟩ = some (.int .i64 h) := by rw [hb.cell (by simp)]; simp [go_sem]
  have svn := Aside0.mk (show w8.heap.size < w9.heap.size by have := hb.size; (try simp at this); omega)
  have HB9 := Aside0.mk ((HB8.out.alloc HB8.out.size _).trans (hb.mono (by have := HB8.out.size; first | omega | (simp; done) | (simp; omega))))
  clear hb HB8 cx0 cx1 sx cy0 cy1 cy2 sy cz0 cz1 cz2 sz
  have cx0 := cx0n
  clear cx0n
  have cx1 := cx1n
  clear cx1n
  have sx := sxn
  clear sxn
  have cy0 := cy0n
  clear cy0n
  have cy1 := cy1n
  clear cy1n
  have cy2 := cy2n
  clear cy2n
  have sy := syn
  clear syn
  have cz0 := cz0n
  clear cz0n
  have cz1 := cz1n
  clear cz1n
  have cz2 := cz2n
  clear cz2n
  have sz := szn
  clear szn
  have cv0 := cv0n
  clear cv0n
  have cv1 := cv1n
  clear cv1n
  have cv2 := cv2n
  clear cv2n
  have sv := svn
  clear svn
  clear lx nx ly ny lz nz
  go_wp2_with fail
  refine (understoryref01_PutInt.calls _ _ _ _ HN2.out).mono ?_
  rintro e w10 ⟨rfl, hb⟩
  have cx0n : w10.cell? ⟨w2.heap.size, 0, none⟩ = some (.string a) := by rw [hb.cell (by have := sx.out; (try simp); omega)]; simp [go_sem, cx0, sx.out, Nat.ne_of_lt sx.out]
  have cx1n : w10.cell? ⟨w2.heap.size, 1, none⟩ = some (.int .i64 e0) := by rw [hb.cell (by have := sx.out; (try simp); omega)]; simp [go_sem, cx1, sx.out, Nat.ne_of_lt sx.out]
  have sxn := Aside0.mk (show w2.heap.size < w10.heap.size by have := hb.size; (try simp at this); have := sx.out; omega)
  have cy0n : w10.cell? ⟨w4.heap.size, 0, none⟩ = some (.int .i64 b) := by rw [hb.cell (by have := sy.out; (try simp); omega)]; simp [go_sem, cy0, sy.out, Nat.ne_of_lt sy.out]
  have cy1n : w10.cell? ⟨w4.heap.size, 1, none⟩ = some (.int .i64 k) := by rw [hb.cell (by have := sy.out; (try simp); omega)]; simp [go_sem, cy1, sy.out, Nat.ne_of_lt sy.out]
  have cy2n : w10.cell? ⟨w4.heap.size, 2, none⟩ = some (.int .i64 f) := by rw [hb.cell (by have := sy.out; (try simp); omega)]; simp [go_sem, cy2, sy.out, Nat.ne_of_lt sy.out]
  have syn := Aside0.mk (show w4.heap.size < w10.heap.size by have := hb.size; (try simp at this); have := sy.out; omega)
  have cz0n : w10.cell? ⟨w6.heap.size, 0, none⟩ = some (.int .i64 c) := by rw [hb.cell (by have := sz.out; (try simp); omega)]; simp [go_sem, cz0, sz.out, Nat.ne_of_lt sz.out]
  have cz1n : w10.cell? ⟨w6.heap.size, 1, none⟩ = some (.int .i64 i) := by rw [hb.cell (by have := sz.out; (try simp); omega)]; simp [go_sem, cz1, sz.out, Nat.ne_of_lt sz.out]
  have cz2n : w10.cell? ⟨w6.heap.size, 2, none⟩ = some (.int .i64 g) := by rw [hb.cell (by have := sz.out; (try simp); omega)]; simp [go_sem, cz2, sz.out, Nat.ne_of_lt sz.out]
  have szn := Aside0.mk (show w6.heap.size < w10.heap.size by have := hb.size; (try simp at this); have := sz.out; omega)
  have cv0n : w10.cell? ⟨w8.heap.size, 0, none⟩ = some (.int .i64 d) := by rw [hb.cell (by have := sv.out; (try simp); omega)]; simp [go_sem, cv0, sv.out, Nat.ne_of_lt sv.out]
  have cv1n : w10.cell? ⟨w8.heap.size, 1, none⟩ = some (.int .i64 d4) := by rw [hb.cell (by have := sv.out; (try simp); omega)]; simp [go_sem, cv1, sv.out, Nat.ne_of_lt sv.out]
  have cv2n : w10.cell? ⟨w8.heap.size, 2, none⟩ = some (.int .i64 h) := by rw [hb.cell (by have := sv.out; (try simp); omega)]; simp [go_sem, cv2, sv.out, Nat.ne_of_lt sv.out]
  have svn := Aside0.mk (show w8.heap.size < w10.heap.size by have := hb.size; (try simp at this); have := sv.out; omega)
  have HB10 := Aside0.mk (HB9.out.trans (hb.mono (by have := HB9.out.size; first | omega | (simp; done) | (simp; omega))))
  clear hb HB9 cx0 cx1 sx cy0 cy1 cy2 sy cz0 cz1 cz2 sz cv0 cv1 cv2 sv
  have cx0 := cx0n
  clear cx0n
  have cx1 := cx1n
  clear cx1n
  have sx := sxn
  clear sxn
  have cy0 := cy0n
  clear cy0n
  have cy1 := cy1n
  clear cy1n
  have cy2 := cy2n
  clear cy2n
  have sy := syn
  clear syn
  have cz0 := cz0n
  clear cz0n
  have cz1 := cz1n
  clear cz1n
  have cz2 := cz2n
  clear cz2n
  have sz := szn
  clear szn
  have cv0 := cv0n
  clear cv0n
  have cv1 := cv1n
  clear cv1n
  have cv2 := cv2n
  clear cv2n
  have sv := svn
  clear svn
  go_wp2_with fail
  refine (understorylaw01_sane.calls 20 true _ HS.out).mono ?_
  rintro e w11 ⟨rfl, hb⟩
  have cx0n : w11.cell? ⟨w2.heap.size, 0, none⟩ = some (.string a) := by rw [hb.cell (by have := sx.out; (try simp); omega)]; simp [go_sem, cx0, sx.out, Nat.ne_of_lt sx.out]
  have cx1n : w11.cell? ⟨w2.heap.size, 1, none⟩ = some (.int .i64 e0) := by rw [hb.cell (by have := sx.out; (try simp); omega)]; simp [go_sem, cx1, sx.out, Nat.ne_of_lt sx.out]
  have sxn := Aside0.mk (show w2.heap.size < w11.heap.size by have := hb.size; (try simp at this); have := sx.out; omega)
  have cy0n : w11.cell? ⟨w4.heap.size, 0, none⟩ = some (.int .i64 b) := by rw [hb.cell (by have := sy.out; (try simp); omega)]; simp [go_sem, cy0, sy.out, Nat.ne_of_lt sy.out]
  have cy1n : w11.cell? ⟨w4.heap.size, 1, none⟩ = some (.int .i64 k) := by rw [hb.cell (by have := sy.out; (try simp); omega)]; simp [go_sem, cy1, sy.out, Nat.ne_of_lt sy.out]
  have cy2n : w11.cell? ⟨w4.heap.size, 2, none⟩ = some (.int .i64 f) := by rw [hb.cell (by have := sy.out; (try simp); omega)]; simp [go_sem, cy2, sy.out, Nat.ne_of_lt sy.out]
  have syn := Aside0.mk (show w4.heap.size < w11.heap.size by have := hb.size; (try simp at this); have := sy.out; omega)
  have cz0n : w11.cell? ⟨w6.heap.size, 0, none⟩ = some (.int .i64 c) := by rw [hb.cell (by have := sz.out; (try simp); omega)]; simp [go_sem, cz0, sz.out, Nat.ne_of_lt sz.out]
  have cz1n : w11.cell? ⟨w6.heap.size, 1, none⟩ = some (.int .i64 i) := by rw [hb.cell (by have := sz.out; (try simp); omega)]; simp [go_sem, cz1, sz.out, Nat.ne_of_lt sz.out]
  have cz2n : w11.cell? ⟨w6.heap.size, 2, none⟩ = some (.int .i64 g) := by rw [hb.cell (by have := sz.out; (try simp); omega)]; simp [go_sem, cz2, sz.out, Nat.ne_of_lt sz.out]
  have szn := Aside0.mk (show w6.heap.size < w11.heap.size by have := hb.size; (try simp at this); have := sz.out; omega)
  have cv0n : w11.cell? ⟨w8.heap.size, 0, none⟩ = some (.int .i64 d) := by rw [hb.cell (by have := sv.out; (try simp); omega)]; simp [go_sem, cv0, sv.out, Nat.ne_of_lt sv.out]
  have cv1n : w11.cell? ⟨w8.heap.size, 1, none⟩ = some (.int .i64 d4) := by rw [hb.cell (by have := sv.out; (try simp); omega)]; simp [go_sem, cv1, sv.out, Nat.ne_of_lt sv.out]
  have cv2n : w11.cell? ⟨w8.heap.size, 2, none⟩ = some (.int .i64 h) := by rw [hb.cell (by have := sv.out; (try simp); omega)]; simp [go_sem, cv2, sv.out, Nat.ne_of_lt sv.out]
  have svn := Aside0.mk (show w8.heap.size < w11.heap.size by have := hb.size; (try simp at this); have := sv.out; omega)
  have HB11 := Aside0.mk (HB10.out.trans (hb.mono (by have := HB10.out.size; first | omega | (simp; done) | (simp; omega))))
  clear hb HB10 cx0 cx1 sx cy0 cy1 cy2 sy cz0 cz1 cz2 sz cv0 cv1 cv2 sv
  have cx0 := cx0n
  clear cx0n
  have cx1 := cx1n
  clear cx1n
  have sx := sxn
  clear sxn
  have cy0 := cy0n
  clear cy0n
  have cy1 := cy1n
  clear cy1n
  have cy2 := cy2n
  clear cy2n
  have sy := syn
  clear syn
  have cz0 := cz0n
  clear cz0n
  have cz1 := cz1n
  clear cz1n
  have cz2 := cz2n
  clear cz2n
  have sz := szn
  clear szn
  have cv0 := cv0n
  clear cv0n
  have cv1 := cv1n
  clear cv1n
  have cv2 := cv2n
  clear cv2n
  have sv := svn
  clear svn
  go_wp2_with fail
  refine (enc_Put32.calls _ _ _ _ HZ1.out).mono ?_
  rintro e w12 ⟨rfl, hb⟩
  have cx0n : w12.cell? ⟨w2.heap.size, 0, none⟩ = some (.string a) := by rw [hb.cell (by have := sx.out; (try simp); omega)]; simp [go_sem, cx0, sx.out, Nat.ne_of_lt sx.out]
  have cx1n : w12.cell? ⟨w2.heap.size, 1, none⟩ = some (.int .i64 e0) := by rw [hb.cell (by have := sx.out; (try simp); omega)]; simp [go_sem, cx1, sx.out, Nat.ne_of_lt sx.out]
  have sxn := Aside0.mk (show w2.heap.size < w12.heap.size by have := hb.size; (try simp at this); have := sx.out; omega)
  have cy0n : w12.cell? ⟨w4.heap.size, 0, none⟩ = some (.int .i64 b) := by rw [hb.cell (by have := sy.out; (try simp); omega)]; simp [go_sem, cy0, sy.out, Nat.ne_of_lt sy.out]
  have cy1n : w12.cell? ⟨w4.heap.size, 1, none⟩ = some (.int .i64 k) := by rw [hb.cell (by have := sy.out; (try simp); omega)]; simp [go_sem, cy1, sy.out, Nat.ne_of_lt sy.out]
  have cy2n : w12.cell? ⟨w4.heap.size, 2, none⟩ = some (.int .i64 f) := by rw [hb.cell (by have := sy.out; (try simp); omega)]; simp [go_sem, cy2, sy.out, Nat.ne_of_lt sy.out]
  have syn := Aside0.mk (show w4.heap.size < w12.heap.size by have := hb.size; (try simp at this); have := sy.out; omega)
  have cz0n : w12.cell? ⟨w6.heap.size, 0, none⟩ = some (.int .i64 c) := by rw [hb.cell (by have := sz.out; (try simp); omega)]; simp [go_sem, cz0, sz.out, Nat.ne_of_lt sz.out]
  have cz1n : w12.cell? ⟨w6.heap.size, 1, none⟩ = some (.int .i64 i) := by rw [hb.cell (by have := sz.out; (try simp); omega)]; simp [go_sem, cz1, sz.out, Nat.ne_of_lt sz.out]
  have cz2n : w12.cell? ⟨w6.heap.size, 2, none⟩ = some (.int .i64 g) := by rw [hb.cell (by have := sz.out; (try simp); omega)]; simp [go_sem, cz2, sz.out, Nat.ne_of_lt sz.out]
  have szn := Aside0.mk (show w6.heap.size < w12.heap.size by have := hb.size; (try simp at this); have := sz.out; omega)
  have cv0n : w12.cell? ⟨w8.heap.size, 0, none⟩ = some (.int .i64 d) := by rw [hb.cell (by have := sv.out; (try simp); omega)]; simp [go_sem, cv0, sv.out, Nat.ne_of_lt sv.out]
  have cv1n : w12.cell? ⟨w8.heap.size, 1, none⟩ = some (.int .i64 d4) := by rw [hb.cell (by have := sv.out; (try simp); omega)]; simp [go_sem, cv1, sv.out, Nat.ne_of_lt sv.out]
  have cv2n : w12.cell? ⟨w8.heap.size, 2, none⟩ = some (.int .i64 h) := by rw [hb.cell (by have := sv.out; (try simp); omega)]; simp [go_sem, cv2, sv.out, Nat.ne_of_lt sv.out]
  have svn := Aside0.mk (show w8.heap.size < w12.heap.size by have := hb.size; (try simp at this); have := sv.out; omega)
  have HB12 := Aside0.mk (HB11.out.trans (hb.mono (by have := HB11.out.size; first | omega | (simp; done) | (simp; omega))))
  clear hb HB11 cx0 cx1 sx cy0 cy1 cy2 sy cz0 cz1 cz2 sz cv0 cv1 cv2 sv
  have cx0 := cx0n
  clear cx0n
  have cx1 := cx1n
  clear cx1n
  have sx := sxn
  clear sxn
  have cy0 := cy0n
  clear cy0n
  have cy1 := cy1n
  clear cy1n
  have cy2 := cy2n
  clear cy2n
  have sy := syn
  clear syn
  have cz0 := cz0n
  clear cz0n
  have cz1 := cz1n
  clear cz1n
  have cz2 := cz2n
  clear cz2n
  have sz := szn
  clear szn
  have cv0 := cv0n
  clear cv0n
  have cv1 := cv1n
  clear cv1n
  have cv2 := cv2n
  clear cv2n
  have sv := svn
  clear svn
  go_wp2_with fail
  refine (understoryref01_Put32.calls _ _ _ _ HZ2.out).mono ?_
  rintro e w13 ⟨rfl, hb⟩
  have cx0n : w13.cell? ⟨w2.heap.size, 0, none⟩ = some (.string a) := by rw [hb.cell (by have := sx.out; (try simp); omega)]; simp [go_sem, cx0, sx.out, Nat.ne_of_lt sx.out]
  have cx1n : w13.cell? ⟨w2.heap.size, 1, none⟩ = some (.int .i64 e0) := by rw [hb.cell (by have := sx.out; (try simp); omega)]; simp [go_sem, cx1, sx.out, Nat.ne_of_lt sx.out]
  have sxn := Aside0.mk (show w2.heap.size < w13.heap.size by have := hb.size; (try simp at this); have := sx.out; omega)
  have cy0n : w13.cell? ⟨w4.heap.size, 0, none⟩ = some (.int .i64 b) := by rw [hb.cell (by have := sy.out; (try simp); omega)]; simp [go_sem, cy0, sy.out, Nat.ne_of_lt sy.out]
  have cy1n : w13.cell? ⟨w4.heap.size, 1, none⟩ = some (.int .i64 k) := by rw [hb.cell (by have := sy.out; (try simp); omega)]; simp [go_sem, cy1, sy.out, Nat.ne_of_lt sy.out]
  have cy2n : w13.cell? ⟨w4.heap.size, 2, none⟩ = some (.int .i64 f) := by rw [hb.cell (by have := sy.out; (try simp); omega)]; simp [go_sem, cy2, sy.out, Nat.ne_of_lt sy.out]
  have syn := Aside0.mk (show w4.heap.size < w13.heap.size by have := hb.size; (try simp at this); have := sy.out; omega)
  have cz0n : w13.cell? ⟨w6.heap.size, 0, none⟩ = some (.int .i64 c) := by rw [hb.cell (by have := sz.out; (try simp); omega)]; simp [go_sem, cz0, sz.out, Nat.ne_of_lt sz.out]
  have cz1n : w13.cell? ⟨w6.heap.size, 1, none⟩ = some (.int .i64 i) := by rw [hb.cell (by have := sz.out; (try simp); omega)]; simp [go_sem, cz1, sz.out, Nat.ne_of_lt sz.out]
  have cz2n : w13.cell? ⟨w6.heap.size, 2, none⟩ = some (.int .i64 g) := by rw [hb.cell (by have := sz.out; (try simp); omega)]; simp [go_sem, cz2, sz.out, Nat.ne_of_lt sz.out]
  have szn := Aside0.mk (show w6.heap.size < w13.heap.size by have := hb.size; (try simp at this); have := sz.out; omega)
  have cv0n : w13.cell? ⟨w8.heap.size, 0, none⟩ = some (.int .i64 d) := by rw [hb.cell (by have := sv.out; (try simp); omega)]; simp [go_sem, cv0, sv.out, Nat.ne_of_lt sv.out]
  have cv1n : w13.cell? ⟨w8.heap.size, 1, none⟩ = some (.int .i64 d4) := by rw [hb.cell (by have := sv.out; (try simp); omega)]; simp [go_sem, cv1, sv.out, Nat.ne_of_lt sv.out]
  have cv2n : w13.cell? ⟨w8.heap.size, 2, none⟩ = some (.int .i64 h) := by rw [hb.cell (by have := sv.out; (try simp); omega)]; simp [go_sem, cv2, sv.out, Nat.ne_of_lt sv.out]
  have svn := Aside0.mk (show w8.heap.size < w13.heap.size by have := hb.size; (try simp at this); have := sv.out; omega)
  have HB13 := Aside0.mk (HB12.out.trans (hb.mono (by have := HB12.out.size; first | omega | (simp; done) | (simp; omega))))
  clear hb HB12 cx0 cx1 sx cy0 cy1 cy2 sy cz0 cz1 cz2 sz cv0 cv1 cv2 sv
  have cx0 := cx0n
  clear cx0n
  have cx1 := cx1n
  clear cx1n
  have sx := sxn
  clear sxn
  have cy0 := cy0n
  clear cy0n
  have cy1 := cy1n
  clear cy1n
  have cy2 := cy2n
  clear cy2n
  have sy := syn
  clear syn
  have cz0 := cz0n
  clear cz0n
  have cz1 := cz1n
  clear cz1n
  have cz2 := cz2n
  clear cz2n
  have sz := szn
  clear szn
  have cv0 := cv0n
  clear cv0n
  have cv1 := cv1n
  clear cv1n
  have cv2 := cv2n
  clear cv2n
  have sv := svn
  clear svn
  go_wp2_with fail
  go_ret
  exact ⟨rfl, HB13.out⟩
end Go.Proofs.Ythpabgiicglbmaa.Pure
