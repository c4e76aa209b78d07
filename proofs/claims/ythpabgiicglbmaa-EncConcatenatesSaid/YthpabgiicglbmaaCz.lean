/- EncConcatenates: the law's own function, walked by hand out of the contracts. -/
import Derived.Test.YthpabgiicglbmaaPk
import Derived.Test.YthpabgiicglbmaaEx5
namespace Go.Proofs.Ythpabgiicglbmaa.Pure
set_option linter.unusedVariables false
set_option linter.unusedSimpArgs false
open Go.RowKit Go.Proofs.Ythpabgiicglbmaa.E Go.Proofs.YthpabgiicglbmaaW.PrintWords Go.Proofs.YthpabgiicglbmaaW.PrintLast Go.Proofs.YthpabgiicglbmaaW.PrintMore

theorem encK_shift (ds : List Bool) (k i : Nat) (l : List S49) : encK ds (k + i) l = encK (ds.drop k) i l := by
  induction l generalizing i with
  | nil => rfl
  | cons x l ih =>
    rw [encK, encK, show k + i + 1 = k + (i + 1) by omega, ih (i + 1)]
    rw [show desc (ds.drop k) i = desc ds (k + i) by simp [desc]]
theorem encK_app (ds : List Bool) (i : Nat) (a b : List S49) : encK ds i (a ++ b) = encK ds i a ++ encK ds (i + a.length) b := by
  induction a generalizing i with
  | nil => simp [encK]
  | cons x a ih =>
    rw [List.cons_append, encK, encK, ih (i + 1), List.append_assoc, List.length_cons, show i + 1 + a.length = i + (a.length + 1) by omega]
theorem encK_split (ds : List Bool) (l : List S49) (k : Nat) (h : k ≤ l.length) : encK ds 0 l = encK ds 0 (l.take k) ++ encK (ds.drop k) 0 (l.drop k) := by
  have := encK_app ds 0 (l.take k) (l.drop k)
  rw [List.take_append_drop] at this
  rw [this, List.length_take, Nat.min_eq_left h, Nat.zero_add]
  rw [← encK_shift ds k 0 (l.drop k), Nat.add_zero]

theorem few_below {a b : World} (h : Drawn0 a b) : Below a.heap.size a b := h.below
theorem escL_len (l : Bytes) : (escL l).length ≤ 2 * l.length + 2 := by
  induction l with
  | nil => simp [escL]
  | cons b r ih => rw [escL]; split <;> simp <;> omega
theorem datum_len (x : S49) (h : x.f2.size ≤ 100000) : (datumL x).length ≤ 200010 := by
  unfold datumL
  split
  · simp
  · split
    · simp [putInt_len]
    · split
      · have := escL_len (toL x.f2)
        rw [length_toL] at this
        simp; omega
      · simp
theorem encK_max (ds : List Bool) (l : List S49) (h : ∀ x ∈ l, x.f2.size ≤ 100000) : ∀ i, (encK ds i l).length ≤ 200010 * l.length := by
  induction l with
  | nil => intro i; simp [encK]
  | cons x r ih =>
    intro i
    have h1 := ih (fun y hy => h y (by simp [hy])) (i + 1)
    have h2 := datum_len x (h x (by simp))
    have h3 : (encD (desc ds i) x).length = (datumL x).length := by cases desc ds i <;> simp [encD, flipL]
    rw [encK, List.length_append, List.length_cons]
    omega
theorem sum_fits (ds : List Bool) (l : List S49) (K : Nat) (hK : K ≤ l.length) (hl : l.length ≤ 60) (h : ∀ x ∈ l, x.f2.size ≤ 100000) : ¬ 9223372036854775807 < (ofL (encK ds 0 (List.take K l))).size + (ofL (encK (List.drop K ds) 0 (List.drop K l))).size := by
  have h1 := encK_max ds (l.take K) (fun x hx => h x (List.mem_of_mem_take hx)) 0
  have h2 := encK_max (ds.drop K) (l.drop K) (fun x hx => h x (List.mem_of_mem_drop hx)) 0
  rw [List.length_take] at h1
  rw [List.length_drop] at h2
  rw [size_ofL, size_ofL]
  omega
theorem len_pos (k : Nat) : ¬ ((k : Int) + 1 = 0) := by omega
theorem len_one (k : Nat) (h : k ≤ 60) : wrap64 ((k : Int) + 1) = (k : Int) + 1 := w64 _ (by omega) (by omega)
theorem mod_len (n k K : Nat) (h : n % (k + 1) = K) : (n : Int) % ((k : Int) + 1) = (K : Int) ∧ K ≤ k := by
  subst h
  exact ⟨by push_cast; rfl, Nat.lt_succ_iff.mp (Nat.mod_lt _ (Nat.succ_pos _))⟩
set_option maxRecDepth 100000 in
set_option maxHeartbeats 4000000 in
theorem concat_many (ds : List Bool) (A0 A1 : Option Addr) (c0 c1 : Nat) (l : List S49) (n : Nat) (w : World) (hn : n < 256) (hr0 : Kd.C k49 w A0 l.length l) (hc0 : l.length ≤ c0) (hr1 : Kd.C Kd.bool w A1 ds.length ds) (hc1 : ds.length ≤ c1) (hl : DataOk l) (hfew : understorylaw01_few.f (l.length + 1) l = some false) :
    Calls Try.prog 10 #[.slice A0 l.length c0, .slice A1 ds.length c1, .int .u8 n] w fun e w' => e = .returned (.bool true) ∧ Below w.heap.size w w' := by
  have HF := Aside0.mk hfew
  have HS := Aside0.mk sane_ok
  have HR0 := Aside0.mk hr0
  have HR1 := Aside0.mk hr1
  have HC0 := Aside0.mk hc0
  have HC1 := Aside0.mk hc1
  clear hc0 hc1
  have hmo : Try.prog.follows .mixedOrders = true := by kernel_rfl
  clear hfew hl hr0 hr1
  go_enter Try.func10, Try.ntmps10
  go_wp2_with fail
  refine (understorylaw01_few.calls _ A0 c0 l false _ HR0.out HC0.out HF.out).mono ?_
  rintro e w1 ⟨rfl, hd1⟩
  have HB1 := Aside0.mk (few_below hd1)
  clear hd1
  go_wp2_with fail
  refine (understorylaw01_sane.calls 20 true _ HS.out).mono ?_
  rintro e w2 ⟨rfl, hb⟩
  have HB2 := Aside0.mk (HB1.out.trans (hb.mono HB1.out.size))
  clear hb
  go_wp2
  go_ret
  exact ⟨rfl, HB2.out⟩
set_option maxRecDepth 100000 in
set_option maxHeartbeats 4000000 in
theorem concat_bad (ds : List Bool) (A0 A1 : Option Addr) (c0 c1 : Nat) (l : List S49) (n : Nat) (w : World) (hn : n < 256) (hr0 : Kd.C k49 w A0 l.length l) (hc0 : l.length ≤ c0) (hr1 : Kd.C Kd.bool w A1 ds.length ds) (hc1 : ds.length ≤ c1) (hl : DataOk l) (hfew : understorylaw01_few.f (l.length + 1) l = some true) (hv : understorylaw01_valid.f (l.length + 1) l = some false) :
    Calls Try.prog 10 #[.slice A0 l.length c0, .slice A1 ds.length c1, .int .u8 n] w fun e w' => e = .returned (.bool true) ∧ Below w.heap.size w w' := by
  have HF := Aside0.mk hfew
  have HS := Aside0.mk sane_ok
  have HR0 := Aside0.mk hr0
  have HR1 := Aside0.mk hr1
  have HC0 := Aside0.mk hc0
  have HC1 := Aside0.mk hc1
  clear hc0 hc1
  have hmo : Try.prog.follows .mixedOrders = true := by kernel_rfl
  have HV := Aside0.mk hv
  clear hfew hl hr0 hr1 hv
  go_enter Try.func10, Try.ntmps10
  go_wp2_with fail
  refine (understorylaw01_few.calls _ A0 c0 l true _ HR0.out HC0.out HF.out).mono ?_
  rintro e w1 ⟨rfl, hd1⟩
  have HB1 := Aside0.mk (few_below hd1)
  clear hd1
  go_wp2_with fail
  refine (understorylaw01_valid.calls _ A0 c0 l false _ (Kd.C_below HR0.out HB1.out) HC0.out HV.out).mono ?_
  rintro e w2 ⟨rfl, hd2⟩
  have HB2 := Aside0.mk (HB1.out.trans (hd2.mono HB1.out.size))
  clear hd2
  go_wp2_with fail
  refine (understorylaw01_sane.calls 20 true _ HS.out).mono ?_
  rintro e w3 ⟨rfl, hb⟩
  have HB3 := Aside0.mk (HB2.out.trans (hb.mono HB2.out.size))
  clear hb
  go_wp2
  go_ret
  exact ⟨rfl, HB3.out⟩

set_option maxRecDepth 100000 in
set_option maxHeartbeats 4000000 in
theorem concat_A (ds : List Bool) (A0 A1 : Option Addr) (c0 c1 : Nat) (l : List S49) (n : Nat) (w : World) (hn : n < 256) (hr0 : Kd.C k49 w A0 l.length l) (hc0 : l.length ≤ c0) (hr1 : Kd.C Kd.bool w A1 ds.length ds) (hc1 : ds.length ≤ c1) (hl : DataOk l) (hfew : understorylaw01_few.f (l.length + 1) l = some true) (hv : understorylaw01_valid.f (l.length + 1) l = some true) (h60 : l.length ≤ 60) (ol : ∀ x ∈ l, DatOk x ∧ x.f2.size ≤ 100000) (K : Nat) (hKn : n % (l.length + 1) = K) (hkd : K < ds.length) (hcap : K = c0) :
    Calls Try.prog 10 #[.slice A0 l.length c0, .slice A1 ds.length c1, .int .u8 n] w fun e w' => e = .returned (.bool true) ∧ Below w.heap.size w w' := by
  subst hcap
  have HF := Aside0.mk hfew
  have HS := Aside0.mk sane_ok
  have HR0 := Aside0.mk hr0
  have HR1 := Aside0.mk hr1
  have HC0 := Aside0.mk hc0
  have HC1 := Aside0.mk hc1
  clear hc0 hc1
  have hmo : Try.prog.follows .mixedOrders = true := by kernel_rfl
  have HV := Aside0.mk hv
  have OL := Aside0.mk ol
  have HKN := Aside0.mk hKn
  have HKD := Aside0.mk hkd
  have H60 := Aside0.mk h60
  have HN := Aside0.mk hn
  clear ol hfew hl hr0 hr1 hv hKn hkd h60 hn
  go_enter Try.func10, Try.ntmps10
  go_wp2_with fail
  refine (understorylaw01_few.calls _ A0 K l true _ HR0.out HC0.out HF.out).mono ?_
  rintro e w1 ⟨rfl, hd1⟩
  have HB1 := Aside0.mk (few_below hd1)
  clear hd1
  go_wp2_with fail
  refine (understorylaw01_valid.calls _ A0 K l true _ (Kd.C_below HR0.out HB1.out) HC0.out HV.out).mono ?_
  rintro e w2 ⟨rfl, hd2⟩
  have HB2 := Aside0.mk (HB1.out.trans (hd2.mono HB1.out.size))
  clear hd2
  have ol := OL.out
  have hKn := HKN.out
  have hkd := HKD.out
  have h60 := H60.out
  have hn := HN.out
  obtain ⟨hKi, hKl⟩ := mod_len n l.length K hKn
  have HKI := Aside0.mk hKi
  clear hKi hKn
  have P1 := Aside0.mk (fun (W : World) (hB : Below w.heap.size w W) => enc_PutKey.calls A0 K l A1 c1 ds _ _ W (Kd.C_below HR0.out hB) HC0.out (Kd.C_below HR1.out hB) HC1.out (encPutKey ds l ol (by omega)))
  have hlt : (l.take K).length = K := by rw [List.length_take]; omega
  have p2 := fun (W : World) (hB : Below w.heap.size w W) => enc_PutKey.calls A0 K (l.take K) A1 c1 ds _ _ W (Kd.C_take (Kd.C_below HR0.out hB) hKl) (by rw [hlt]; have := HC0.out; omega) (Kd.C_below HR1.out hB) HC1.out (encPutKey ds (l.take K) (fun x hx => ol x (List.mem_of_mem_take hx)) (by rw [hlt]; omega))
  rw [hlt] at p2
  have hld : (l.drop K).length = l.length - K := List.length_drop
  have p3 := fun (W : World) (hB : Below w.heap.size w W) (R : Option Addr) (cr : Nat) (hR : Kd.C Kd.bool W R (ds.drop K).length (ds.drop K)) (hcr : (ds.drop K).length ≤ cr) => enc_PutKey.calls (if K = K then A0 else A0.map (·.add (K * 3))) (K - K) (l.drop K) R cr (ds.drop K) _ _ W (Kd.C_drop (Kd.C_below HR0.out hB) hKl HC0.out) (by rw [hld]; have := HC0.out; omega) hR hcr (encPutKey (ds.drop K) (l.drop K) (fun x hx => ol x (List.mem_of_mem_drop hx)) (by rw [hld]; omega))
  rw [hld, if_pos rfl, Nat.sub_self, show l.length - K = 0 by have := HC0.out; omega] at p3
  have P2 := Aside0.mk p2
  have P3 := Aside0.mk p3
  have HSUM := Aside0.mk (encK_split ds l K hKl)
  have HFIT := Aside0.mk (sum_fits ds l K hKl h60 (fun x hx => (ol x hx).2))
  have hdl : (ds.drop K).length = ds.length - K := List.length_drop
  have hw1 := len_one l.length h60
  have hpos := len_pos l.length
  have hKi := HKI.out
  have hc0' := HC0.out
  have hc1' := HC1.out
  clear p2 p3 ol hlt hld
  have p4 := fun (W : World) (hB : Below w.heap.size w W) => P3.out W hB (A1.map (·.add K)) (c1 - K) (by have := Kd.C_drop (Kd.C_below HR1.out hB) (Nat.le_of_lt hkd) hc1'; rwa [if_neg (show ¬ c1 = K by omega), show Kd.bool.sz = 1 from rfl, Nat.mul_one] at this) (by rw [hdl]; omega)
  rw [hdl] at p4
  have P4 := Aside0.mk p4
  clear p4 hdl P3
  go_wp2_with fail
  refine (P1.out _ HB2.out).mono ?_
  rintro e w3 ⟨rfl, hb⟩
  have HB3 := Aside0.mk (HB2.out.trans (hb.mono HB2.out.size))
  clear hb
  go_wp2_with fail
  refine (P2.out _ HB3.out).mono ?_
  rintro e w4 ⟨rfl, hb⟩
  have HB4 := Aside0.mk (HB3.out.trans (hb.mono HB3.out.size))
  clear hb
  go_wp2_with fail
  refine (P4.out _ HB4.out).mono ?_
  rintro e w5 ⟨rfl, hb⟩
  have HB5 := Aside0.mk (HB4.out.trans (hb.mono HB4.out.size))
  clear hb
  go_wp2_with fail
  refine (understorylaw01_sane.calls 20 true _ HS.out).mono ?_
  rintro e w6 ⟨rfl, hb⟩
  have HB6 := Aside0.mk (HB5.out.trans (hb.mono HB5.out.size))
  clear hb
  have hfit := HFIT.out
  go_wp2_with fail
  go_ret
  refine ⟨?_, HB6.out⟩
  have heq : ((ofL (encK ds 0 l)).toList == (ofL (encK ds 0 (List.take K l)) ++ ofL (encK (List.drop K ds) 0 (List.drop K l))).toList) = true := by
    rw [append_ofL, ← HSUM.out]; exact beq_self_eq_true _
  exact congrArg (fun b => Ending.returned (Value.bool b)) heq

set_option maxRecDepth 100000 in
set_option maxHeartbeats 4000000 in
theorem concat_B (ds : List Bool) (A0 A1 : Option Addr) (c0 c1 : Nat) (l : List S49) (n : Nat) (w : World) (hn : n < 256) (hr0 : Kd.C k49 w A0 l.length l) (hc0 : l.length ≤ c0) (hr1 : Kd.C Kd.bool w A1 ds.length ds) (hc1 : ds.length ≤ c1) (hl : DataOk l) (hfew : understorylaw01_few.f (l.length + 1) l = some true) (hv : understorylaw01_valid.f (l.length + 1) l = some true) (h60 : l.length ≤ 60) (ol : ∀ x ∈ l, DatOk x ∧ x.f2.size ≤ 100000) (K : Nat) (hKn : n % (l.length + 1) = K) (hkd : K < ds.length) (hcap : ¬ c0 = K) :
    Calls Try.prog 10 #[.slice A0 l.length c0, .slice A1 ds.length c1, .int .u8 n] w fun e w' => e = .returned (.bool true) ∧ Below w.heap.size w w' := by
  have HF := Aside0.mk hfew
  have HS := Aside0.mk sane_ok
  have HR0 := Aside0.mk hr0
  have HR1 := Aside0.mk hr1
  have HC0 := Aside0.mk hc0
  have HC1 := Aside0.mk hc1
  clear hc0 hc1
  have hmo : Try.prog.follows .mixedOrders = true := by kernel_rfl
  have HV := Aside0.mk hv
  have OL := Aside0.mk ol
  have HKN := Aside0.mk hKn
  have HKD := Aside0.mk hkd
  have HCAP := Aside0.mk hcap
  have H60 := Aside0.mk h60
  have HN := Aside0.mk hn
  clear ol hfew hl hr0 hr1 hv hKn hkd hcap h60 hn
  go_enter Try.func10, Try.ntmps10
  go_wp2_with fail
  refine (understorylaw01_few.calls _ A0 c0 l true _ HR0.out HC0.out HF.out).mono ?_
  rintro e w1 ⟨rfl, hd1⟩
  have HB1 := Aside0.mk (few_below hd1)
  clear hd1
  go_wp2_with fail
  refine (understorylaw01_valid.calls _ A0 c0 l true _ (Kd.C_below HR0.out HB1.out) HC0.out HV.out).mono ?_
  rintro e w2 ⟨rfl, hd2⟩
  have HB2 := Aside0.mk (HB1.out.trans (hd2.mono HB1.out.size))
  clear hd2
  have ol := OL.out
  have hKn := HKN.out
  have hkd := HKD.out
  have hcap := HCAP.out
  have h60 := H60.out
  have hn := HN.out
  obtain ⟨hKi, hKl⟩ := mod_len n l.length K hKn
  have HKI := Aside0.mk hKi
  clear hKi hKn
  have P1 := Aside0.mk (fun (W : World) (hB : Below w.heap.size w W) => enc_PutKey.calls A0 c0 l A1 c1 ds _ _ W (Kd.C_below HR0.out hB) HC0.out (Kd.C_below HR1.out hB) HC1.out (encPutKey ds l ol (by omega)))
  have hlt : (l.take K).length = K := by rw [List.length_take]; omega
  have p2 := fun (W : World) (hB : Below w.heap.size w W) => enc_PutKey.calls A0 c0 (l.take K) A1 c1 ds _ _ W (Kd.C_take (Kd.C_below HR0.out hB) hKl) (by rw [hlt]; have := HC0.out; omega) (Kd.C_below HR1.out hB) HC1.out (encPutKey ds (l.take K) (fun x hx => ol x (List.mem_of_mem_take hx)) (by rw [hlt]; omega))
  rw [hlt] at p2
  have hld : (l.drop K).length = l.length - K := List.length_drop
  have p3 := fun (W : World) (hB : Below w.heap.size w W) (R : Option Addr) (cr : Nat) (hR : Kd.C Kd.bool W R (ds.drop K).length (ds.drop K)) (hcr : (ds.drop K).length ≤ cr) => enc_PutKey.calls (if c0 = K then A0 else A0.map (·.add (K * 3))) (c0 - K) (l.drop K) R cr (ds.drop K) _ _ W (Kd.C_drop (Kd.C_below HR0.out hB) hKl HC0.out) (by rw [hld]; have := HC0.out; omega) hR hcr (encPutKey (ds.drop K) (l.drop K) (fun x hx => ol x (List.mem_of_mem_drop hx)) (by rw [hld]; omega))
  rw [hld, if_neg hcap] at p3
  have P2 := Aside0.mk p2
  have P3 := Aside0.mk p3
  have HSUM := Aside0.mk (encK_split ds l K hKl)
  have HFIT := Aside0.mk (sum_fits ds l K hKl h60 (fun x hx => (ol x hx).2))
  have hdl : (ds.drop K).length = ds.length - K := List.length_drop
  have hw1 := len_one l.length h60
  have hpos := len_pos l.length
  have hKi := HKI.out
  have hc0' := HC0.out
  have hc1' := HC1.out
  clear p2 p3 ol hlt hld
  have p4 := fun (W : World) (hB : Below w.heap.size w W) => P3.out W hB (A1.map (·.add K)) (c1 - K) (by have := Kd.C_drop (Kd.C_below HR1.out hB) (Nat.le_of_lt hkd) hc1'; rwa [if_neg (show ¬ c1 = K by omega), show Kd.bool.sz = 1 from rfl, Nat.mul_one] at this) (by rw [hdl]; omega)
  rw [hdl] at p4
  have P4 := Aside0.mk p4
  clear p4 hdl P3
  go_wp2_with fail
  refine (P1.out _ HB2.out).mono ?_
  rintro e w3 ⟨rfl, hb⟩
  have HB3 := Aside0.mk (HB2.out.trans (hb.mono HB2.out.size))
  clear hb
  go_wp2_with fail
  refine (P2.out _ HB3.out).mono ?_
  rintro e w4 ⟨rfl, hb⟩
  have HB4 := Aside0.mk (HB3.out.trans (hb.mono HB3.out.size))
  clear hb
  go_wp2_with fail
  refine (P4.out _ HB4.out).mono ?_
  rintro e w5 ⟨rfl, hb⟩
  have HB5 := Aside0.mk (HB4.out.trans (hb.mono HB4.out.size))
  clear hb
  go_wp2_with fail
  refine (understorylaw01_sane.calls 20 true _ HS.out).mono ?_
  rintro e w6 ⟨rfl, hb⟩
  have HB6 := Aside0.mk (HB5.out.trans (hb.mono HB5.out.size))
  clear hb
  have hfit := HFIT.out
  go_wp2_with fail
  go_ret
  refine ⟨?_, HB6.out⟩
  have heq : ((ofL (encK ds 0 l)).toList == (ofL (encK ds 0 (List.take K l)) ++ ofL (encK (List.drop K ds) 0 (List.drop K l))).toList) = true := by
    rw [append_ofL, ← HSUM.out]; exact beq_self_eq_true _
  exact congrArg (fun b => Ending.returned (Value.bool b)) heq

set_option maxRecDepth 100000 in
set_option maxHeartbeats 4000000 in
theorem concat_C (ds : List Bool) (A0 A1 : Option Addr) (c0 c1 : Nat) (l : List S49) (n : Nat) (w : World) (hn : n < 256) (hr0 : Kd.C k49 w A0 l.length l) (hc0 : l.length ≤ c0) (hr1 : Kd.C Kd.bool w A1 ds.length ds) (hc1 : ds.length ≤ c1) (hl : DataOk l) (hfew : understorylaw01_few.f (l.length + 1) l = some true) (hv : understorylaw01_valid.f (l.length + 1) l = some true) (h60 : l.length ≤ 60) (ol : ∀ x ∈ l, DatOk x ∧ x.f2.size ≤ 100000) (K : Nat) (hKn : n % (l.length + 1) = K) (hkd : ¬ K < ds.length) (hcap : K = c0) :
    Calls Try.prog 10 #[.slice A0 l.length c0, .slice A1 ds.length c1, .int .u8 n] w fun e w' => e = .returned (.bool true) ∧ Below w.heap.size w w' := by
  subst hcap
  have HF := Aside0.mk hfew
  have HS := Aside0.mk sane_ok
  have HR0 := Aside0.mk hr0
  have HR1 := Aside0.mk hr1
  have HC0 := Aside0.mk hc0
  have HC1 := Aside0.mk hc1
  clear hc0 hc1
  have hmo : Try.prog.follows .mixedOrders = true := by kernel_rfl
  have HV := Aside0.mk hv
  have OL := Aside0.mk ol
  have HKN := Aside0.mk hKn
  have HKD := Aside0.mk hkd
  have H60 := Aside0.mk h60
  have HN := Aside0.mk hn
  clear ol hfew hl hr0 hr1 hv hKn hkd h60 hn
  go_enter Try.func10, Try.ntmps10
  go_wp2_with fail
  refine (understorylaw01_few.calls _ A0 K l true _ HR0.out HC0.out HF.out).mono ?_
  rintro e w1 ⟨rfl, hd1⟩
  have HB1 := Aside0.mk (few_below hd1)
  clear hd1
  go_wp2_with fail
  refine (understorylaw01_valid.calls _ A0 K l true _ (Kd.C_below HR0.out HB1.out) HC0.out HV.out).mono ?_
  rintro e w2 ⟨rfl, hd2⟩
  have HB2 := Aside0.mk (HB1.out.trans (hd2.mono HB1.out.size))
  clear hd2
  have ol := OL.out
  have hKn := HKN.out
  have hkd := HKD.out
  have h60 := H60.out
  have hn := HN.out
  obtain ⟨hKi, hKl⟩ := mod_len n l.length K hKn
  have HKI := Aside0.mk hKi
  clear hKi hKn
  have P1 := Aside0.mk (fun (W : World) (hB : Below w.heap.size w W) => enc_PutKey.calls A0 K l A1 c1 ds _ _ W (Kd.C_below HR0.out hB) HC0.out (Kd.C_below HR1.out hB) HC1.out (encPutKey ds l ol (by omega)))
  have hlt : (l.take K).length = K := by rw [List.length_take]; omega
  have p2 := fun (W : World) (hB : Below w.heap.size w W) => enc_PutKey.calls A0 K (l.take K) A1 c1 ds _ _ W (Kd.C_take (Kd.C_below HR0.out hB) hKl) (by rw [hlt]; have := HC0.out; omega) (Kd.C_below HR1.out hB) HC1.out (encPutKey ds (l.take K) (fun x hx => ol x (List.mem_of_mem_take hx)) (by rw [hlt]; omega))
  rw [hlt] at p2
  have hld : (l.drop K).length = l.length - K := List.length_drop
  have p3 := fun (W : World) (hB : Below w.heap.size w W) (R : Option Addr) (cr : Nat) (hR : Kd.C Kd.bool W R (ds.drop K).length (ds.drop K)) (hcr : (ds.drop K).length ≤ cr) => enc_PutKey.calls (if K = K then A0 else A0.map (·.add (K * 3))) (K - K) (l.drop K) R cr (ds.drop K) _ _ W (Kd.C_drop (Kd.C_below HR0.out hB) hKl HC0.out) (by rw [hld]; have := HC0.out; omega) hR hcr (encPutKey (ds.drop K) (l.drop K) (fun x hx => ol x (List.mem_of_mem_drop hx)) (by rw [hld]; omega))
  rw [hld, if_pos rfl, Nat.sub_self, show l.length - K = 0 by have := HC0.out; omega] at p3
  have P2 := Aside0.mk p2
  have P3 := Aside0.mk p3
  have HSUM := Aside0.mk (encK_split ds l K hKl)
  have HFIT := Aside0.mk (sum_fits ds l K hKl h60 (fun x hx => (ol x hx).2))
  have hdl : (ds.drop K).length = ds.length - K := List.length_drop
  have hw1 := len_one l.length h60
  have hpos := len_pos l.length
  have hKi := HKI.out
  have hc0' := HC0.out
  have hc1' := HC1.out
  clear p2 p3 ol hlt hld
  have hnil : ds.drop K = [] := List.drop_eq_nil_of_le (by omega)
  have hn0 : (ds.drop K).length = 0 := by rw [hnil]; rfl
  have p4 := fun (W : World) (hB : Below w.heap.size w W) => P3.out W hB none 0 (by rw [hnil]; exact Kd.C_nil _ _) (by rw [hn0]; omega)
  rw [hn0] at p4
  clear hnil hn0
  have P4 := Aside0.mk p4
  clear p4 hdl P3
  go_wp2_with fail
  refine (P1.out _ HB2.out).mono ?_
  rintro e w3 ⟨rfl, hb⟩
  have HB3 := Aside0.mk (HB2.out.trans (hb.mono HB2.out.size))
  clear hb
  go_wp2_with fail
  refine (P2.out _ HB3.out).mono ?_
  rintro e w4 ⟨rfl, hb⟩
  have HB4 := Aside0.mk (HB3.out.trans (hb.mono HB3.out.size))
  clear hb
  go_wp2_with fail
  refine (P4.out _ HB4.out).mono ?_
  rintro e w5 ⟨rfl, hb⟩
  have HB5 := Aside0.mk (HB4.out.trans (hb.mono HB4.out.size))
  clear hb
  go_wp2_with fail
  refine (understorylaw01_sane.calls 20 true _ HS.out).mono ?_
  rintro e w6 ⟨rfl, hb⟩
  have HB6 := Aside0.mk (HB5.out.trans (hb.mono HB5.out.size))
  clear hb
  have hfit := HFIT.out
  go_wp2_with fail
  go_ret
  refine ⟨?_, HB6.out⟩
  have heq : ((ofL (encK ds 0 l)).toList == (ofL (encK ds 0 (List.take K l)) ++ ofL (encK (List.drop K ds) 0 (List.drop K l))).toList) = true := by
    rw [append_ofL, ← HSUM.out]; exact beq_self_eq_true _
  exact congrArg (fun b => Ending.returned (Value.bool b)) heq

set_option maxRecDepth 100000 in
set_option maxHeartbeats 4000000 in
theorem concat_D (ds : List Bool) (A0 A1 : Option Addr) (c0 c1 : Nat) (l : List S49) (n : Nat) (w : World) (hn : n < 256) (hr0 : Kd.C k49 w A0 l.length l) (hc0 : l.length ≤ c0) (hr1 : Kd.C Kd.bool w A1 ds.length ds) (hc1 : ds.length ≤ c1) (hl : DataOk l) (hfew : understorylaw01_few.f (l.length + 1) l = some true) (hv : understorylaw01_valid.f (l.length + 1) l = some true) (h60 : l.length ≤ 60) (ol : ∀ x ∈ l, DatOk x ∧ x.f2.size ≤ 100000) (K : Nat) (hKn : n % (l.length + 1) = K) (hkd : ¬ K < ds.length) (hcap : ¬ c0 = K) :
    Calls Try.prog 10 #[.slice A0 l.length c0, .slice A1 ds.length c1, .int .u8 n] w fun e w' => e = .returned (.bool true) ∧ Below w.heap.size w w' := by
  have HF := Aside0.mk hfew
  have HS := Aside0.mk sane_ok
  have HR0 := Aside0.mk hr0
  have HR1 := Aside0.mk hr1
  have HC0 := Aside0.mk hc0
  have HC1 := Aside0.mk hc1
  clear hc0 hc1
  have hmo : Try.prog.follows .mixedOrders = true := by kernel_rfl
  have HV := Aside0.mk hv
  have OL := Aside0.mk ol
  have HKN := Aside0.mk hKn
  have HKD := Aside0.mk hkd
  have HCAP := Aside0.mk hcap
  have H60 := Aside0.mk h60
  have HN := Aside0.mk hn
  clear ol hfew hl hr0 hr1 hv hKn hkd hcap h60 hn
  go_enter Try.func10, Try.ntmps10
  go_wp2_with fail
  refine (understorylaw01_few.calls _ A0 c0 l true _ HR0.out HC0.out HF.out).mono ?_
  rintro e w1 ⟨rfl, hd1⟩
  have HB1 := Aside0.mk (few_below hd1)
  clear hd1
  go_wp2_with fail
  refine (understorylaw01_valid.calls _ A0 c0 l true _ (Kd.C_below HR0.out HB1.out) HC0.out HV.out).mono ?_
  rintro e w2 ⟨rfl, hd2⟩
  have HB2 := Aside0.mk (HB1.out.trans (hd2.mono HB1.out.size))
  clear hd2
  have ol := OL.out
  have hKn := HKN.out
  have hkd := HKD.out
  have hcap := HCAP.out
  have h60 := H60.out
  have hn := HN.out
  obtain ⟨hKi, hKl⟩ := mod_len n l.length K hKn
  have HKI := Aside0.mk hKi
  clear hKi hKn
  have P1 := Aside0.mk (fun (W : World) (hB : Below w.heap.size w W) => enc_PutKey.calls A0 c0 l A1 c1 ds _ _ W (Kd.C_below HR0.out hB) HC0.out (Kd.C_below HR1.out hB) HC1.out (encPutKey ds l ol (by omega)))
  have hlt : (l.take K).length = K := by rw [List.length_take]; omega
  have p2 := fun (W : World) (hB : Below w.heap.size w W) => enc_PutKey.calls A0 c0 (l.take K) A1 c1 ds _ _ W (Kd.C_take (Kd.C_below HR0.out hB) hKl) (by rw [hlt]; have := HC0.out; omega) (Kd.C_below HR1.out hB) HC1.out (encPutKey ds (l.take K) (fun x hx => ol x (List.mem_of_mem_take hx)) (by rw [hlt]; omega))
  rw [hlt] at p2
  have hld : (l.drop K).length = l.length - K := List.length_drop
  have p3 := fun (W : World) (hB : Below w.heap.size w W) (R : Option Addr) (cr : Nat) (hR : Kd.C Kd.bool W R (ds.drop K).length (ds.drop K)) (hcr : (ds.drop K).length ≤ cr) => enc_PutKey.calls (if c0 = K then A0 else A0.map (·.add (K * 3))) (c0 - K) (l.drop K) R cr (ds.drop K) _ _ W (Kd.C_drop (Kd.C_below HR0.out hB) hKl HC0.out) (by rw [hld]; have := HC0.out; omega) hR hcr (encPutKey (ds.drop K) (l.drop K) (fun x hx => ol x (List.mem_of_mem_drop hx)) (by rw [hld]; omega))
  rw [hld, if_neg hcap] at p3
  have P2 := Aside0.mk p2
  have P3 := Aside0.mk p3
  have HSUM := Aside0.mk (encK_split ds l K hKl)
  have HFIT := Aside0.mk (sum_fits ds l K hKl h60 (fun x hx => (ol x hx).2))
  have hdl : (ds.drop K).length = ds.length - K := List.length_drop
  have hw1 := len_one l.length h60
  have hpos := len_pos l.length
  have hKi := HKI.out
  have hc0' := HC0.out
  have hc1' := HC1.out
  clear p2 p3 ol hlt hld
  have hnil : ds.drop K = [] := List.drop_eq_nil_of_le (by omega)
  have hn0 : (ds.drop K).length = 0 := by rw [hnil]; rfl
  have p4 := fun (W : World) (hB : Below w.heap.size w W) => P3.out W hB none 0 (by rw [hnil]; exact Kd.C_nil _ _) (by rw [hn0]; omega)
  rw [hn0] at p4
  clear hnil hn0
  have P4 := Aside0.mk p4
  clear p4 hdl P3
  go_wp2_with fail
  refine (P1.out _ HB2.out).mono ?_
  rintro e w3 ⟨rfl, hb⟩
  have HB3 := Aside0.mk (HB2.out.trans (hb.mono HB2.out.size))
  clear hb
  go_wp2_with fail
  refine (P2.out _ HB3.out).mono ?_
  rintro e w4 ⟨rfl, hb⟩
  have HB4 := Aside0.mk (HB3.out.trans (hb.mono HB3.out.size))
  clear hb
  go_wp2_with fail
  refine (P4.out _ HB4.out).mono ?_
  rintro e w5 ⟨rfl, hb⟩
  have HB5 := Aside0.mk (HB4.out.trans (hb.mono HB4.out.size))
  clear hb
  go_wp2_with fail
  refine (understorylaw01_sane.calls 20 true _ HS.out).mono ?_
  rintro e w6 ⟨rfl, hb⟩
  have HB6 := Aside0.mk (HB5.out.trans (hb.mono HB5.out.size))
  clear hb
  have hfit := HFIT.out
  go_wp2_with fail
  go_ret
  refine ⟨?_, HB6.out⟩
  have heq : ((ofL (encK ds 0 l)).toList == (ofL (encK ds 0 (List.take K l)) ++ ofL (encK (List.drop K ds) 0 (List.drop K l))).toList) = true := by
    rw [append_ofL, ← HSUM.out]; exact beq_self_eq_true _
  exact congrArg (fun b => Ending.returned (Value.bool b)) heq

theorem wf_u8 (n : Int) (h : (Lit.int .u8 n).wf = true) : 0 ≤ n ∧ n ≤ 255 := by
  have e1 : IntKind.u8.min = 0 := rfl
  have e2 : IntKind.u8.max = 255 := rfl
  simp [Lit.wf] at h
  omega
theorem concat_walk (ds : List Bool) (A0 A1 : Option Addr) (c0 c1 : Nat) (l : List S49) (n : Nat) (w : World) (hn : n < 256) (hr0 : Kd.C k49 w A0 l.length l) (hc0 : l.length ≤ c0) (hr1 : Kd.C Kd.bool w A1 ds.length ds) (hc1 : ds.length ≤ c1) (hl : DataOk l) :
    Calls Try.prog 10 #[.slice A0 l.length c0, .slice A1 ds.length c1, .int .u8 n] w fun e w' => e = .returned (.bool true) ∧ Below w.heap.size w w' := by
  obtain ⟨b, hfew, hb⟩ := few_spec l (fun x hx => (hl.2 x hx).2.2) hl.1 (l.length + 1) (by omega)
  cases b with
  | false => exact concat_many ds A0 A1 c0 c1 l n w hn hr0 hc0 hr1 hc1 hl hfew
  | true =>
    have h60 := hb rfl
    have hv := valid_spec l (by have := h60.1; omega) (l.length + 1) (by omega)
    cases hvv : l.all validS with
    | false => rw [hvv] at hv; exact concat_bad ds A0 A1 c0 c1 l n w hn hr0 hc0 hr1 hc1 hl hfew hv
    | true =>
      rw [hvv] at hv
      have ol : ∀ x ∈ l, DatOk x ∧ x.f2.size ≤ 100000 := fun x hx => ⟨⟨List.all_eq_true.mp hvv x hx, wf_rangeD _ (hl.2 x hx).2.1⟩, by have := h60.2 x hx; omega⟩
      by_cases hkd : n % (l.length + 1) < ds.length
      · by_cases hcap : n % (l.length + 1) = c0
        · exact concat_A ds A0 A1 c0 c1 l n w hn hr0 hc0 hr1 hc1 hl hfew hv h60.1 ol _ rfl hkd hcap
        · exact concat_B ds A0 A1 c0 c1 l n w hn hr0 hc0 hr1 hc1 hl hfew hv h60.1 ol _ rfl hkd (fun h => hcap h.symm)
      · by_cases hcap : n % (l.length + 1) = c0
        · exact concat_C ds A0 A1 c0 c1 l n w hn hr0 hc0 hr1 hc1 hl hfew hv h60.1 ol _ rfl hkd hcap
        · exact concat_D ds A0 A1 c0 c1 l n w hn hr0 hc0 hr1 hc1 hl hfew hv h60.1 ol _ rfl hkd (fun h => hcap h.symm)
end Go.Proofs.Ythpabgiicglbmaa.Pure
