/- EncBack: the law's own function, walked by hand out of the contracts, cut where its ways meet again. -/
import Derived.Test.YthpabgiicglbmaaPb
import Derived.Test.YthpabgiicglbmaaEo
import Derived.Test.YthpabgiicglbmaaEx5
import Derived.Test.YthpabgiicglbmaaEx3
import Derived.Test.YthpabgiicglbmaaEx9
import Derived.Test.YthpabgiicglbmaaP0
import Derived.Test.YthpabgiicglbmaaEx4
namespace Go.Proofs.Ythpabgiicglbmaa.Pure
set_option linter.unusedVariables false
set_option linter.unusedSimpArgs false
open Go.RowKit Go.Proofs.Ythpabgiicglbmaa.E Go.Proofs.YthpabgiicglbmaaW.PrintWords Go.Proofs.YthpabgiicglbmaaW.PrintLast Go.Proofs.YthpabgiicglbmaaW.PrintMore

/-- the code behind the first n pieces of a body -/
def dropTo : Nat → Code → Code
  | 0, c => c
  | n + 1, .seq _ b => dropTo n b
  | _ + 1, _ => .skip
noncomputable def tail8 : Code := (Try.f14.body.map (dropTo 4)).getD .skip
noncomputable def tail20 : Code := (Try.f14.body.map (dropTo 12)).getD .skip

set_option maxRecDepth 1000000 in
set_option maxHeartbeats 4000000 in
theorem back_20 (n m : Int) (s more : ByteArray) (l : List S49) (ds : List Bool) (A4 : Option Addr) (c4 : Nat) (A5 : Option Addr) (c5 : Nat) (w : World)
    (hr4 : Kd.C k49 w A4 l.length l) (hc4 : l.length ≤ c4) (hr5 : Kd.C Kd.bool w A5 ds.length ds) (hc5 : ds.length ≤ c5)
    (hsh : understorylaw01_short.f 10 [s, more] = some true) (hfew : understorylaw01_few.f (l.length + 1) l = some true)
    (u : ByteArray) (e0 : Int) (hu : enc_PutUint.f 30 n = some (u, e0)) (hu2 : e0 = 0 → enc_GetUint.f (u ++ more) = some (n, (u.size : Int), 0) ∧ ¬ 9223372036854775807 < u.size + more.size) (hu3 : e0 = 0 ∨ e0 = 1)
    (i : ByteArray) (hi : enc_PutInt.f 20 n = some i) (hi2 : enc_GetInt.f (i ++ more) = some (n, (i.size : Int), 0)) (hi3 : ¬ 9223372036854775807 < i.size + more.size)
    (t : ByteArray) (ht : enc_PutText.f s = some t) (ht2 : enc_GetText.f (t ++ more) = some (s, (t.size : Int), 0)) (ht3 : ¬ 9223372036854775807 < t.size + more.size)
    (z : ByteArray) (hz : enc_Put32.f 20 m = some z) (hz2 : enc_Get32.f (z ++ more) = some (m, 0)) (hz3 : ¬ 9223372036854775807 < z.size + more.size)
    (y k e1 : Int) (hy : enc_GetUint.f s = some (y, k, e1)) (hy2 : e1 = 0 → enc_PutUint.f 30 y = some (s.extract 0 k.toNat, 0) ∧ 0 ≤ k ∧ k ≤ s.size) (hy3 : e1 = 0 ∨ e1 = 2)
    (x : ByteArray) (j e2 : Int) (hx : enc_GetText.f s = some (x, j, e2)) (hx2 : e2 = 0 → enc_PutText.f x = some (s.extract 0 j.toNat) ∧ 0 ≤ j ∧ j ≤ s.size) (hx3 : e2 = 0 ∨ e2 = 2)
    (d : List S49) (e3 : Int) (hd : enc_GetKey.f s ds = some (d, e3)) (hd2 : e3 = 0 → enc_PutKey.f d ds = some (s, 0)) (hd3 : e3 = 0 ∨ e3 = 2)
    (v : Bool) (hv : understorylaw01_valid.f (l.length + 1) l = some v) (a : ByteArray) (ha : v = true → enc_PutKey.f l ds = some (a, 0) ∧ enc_GetKey.f a ds = some (l, 0)) (hsd : understoryref01_SameData.f (l.length + 1) l l = some true) {u6 u7 u8 u9 u10 u11 u12 u13 u14 u15 u16 u17 u18 u19 u20 u21 u22 u23 u24 u25 u26 u27 u28 u29 u30 u31 u32 u33 u34 u35 u36 u37 u38 u39 u40 u41 u42 u43 u44 u45 u46 u47 u48 u49 u50 u51 u52 u53 u54 u55 u56 u57 u58 u59 u60 u61 u62 u63 u64 u65 u66 u67 u68 u69 u70 u71 u72 u73 u74 u75 u76 u77 u78 u79 u80 u81 u82 u83 u84 u85 u86 u87 u88 u89 u90 u91 u92 u93 u94 u95 u96 u97 u98 u99 u100 u101 u102 u103 u104 u105 u106 u107 u108 u109 u110 u111 u112 u113 u114 u115 u116 u117 u118 u119 u120 u121 u122 u123 u124 u125 u126 u127 u128 u129 u130 u131 u132 u133 u134 u135 u136 u137 u138 u139 u140 u141 u142 u143 u144 u145 u146 u147 u148 u149 u150 u151 u152 u153 u154 u155 u156 u157 u158 u159 u160 u161 u162 u163 u164 u165 u166 u167 u168 u169 u170 u171 u172 u173 u174 u175 u176 u177 u178 u179 u180 u181 u182 u183 u184 u185 u186 u187 u188 u189 u190 u191 u192 u193 u194 u195 u196 u197 u198 u199 u200 u201 u202 u203 u204 u205 u206 u207 u208 u209 u210 u211 u212 u213 u214 u215 u216 u217 u218 u219 u220 u221 u222 u223 u224 u225 u226 u227 u228 u229 u230 u231 u232 u233 u234 u235 u236 u237 u238 u239 u240 u241 u242 u243 : Value} (wc : World) (hcut : Below w.heap.size w wc) :
    Code.wp Try.prog tail20 (bodyPost Try.prog Try.f14 fun e w' => e = .returned (.bool true) ∧ Below w.heap.size w w') ⟨#[.int .i64 n, .int .u32 m, .string s, .string more, .slice A4 l.length c4, .slice A5 ds.length c5, u6, u7, u8, u9, u10, u11, u12, u13, u14, u15, u16, u17, u18, u19, u20, u21, u22, u23, u24, u25, u26, u27, u28, u29, u30, u31, u32, u33, u34, u35, u36, u37, u38, u39, u40, u41, u42, u43, u44, u45, u46, u47, u48, u49, u50, u51, u52, u53, u54, u55, u56, u57, u58, u59, u60, u61, u62, u63, u64, u65, u66, u67, u68, u69, u70, u71, u72, u73, u74, u75, u76, u77, u78, u79, u80, u81, u82, u83, u84, u85, u86, u87, u88, u89, u90, u91, u92, u93, u94, u95, u96, u97, u98, u99, u100, u101, u102, u103, u104, u105, u106, u107, u108, u109, u110, u111, u112, u113, u114, u115, u116, u117, u118, u119, u120, u121, u122, u123, u124, u125, u126, u127, u128, u129, u130, u131, u132, u133, u134, u135, u136, u137, u138, u139, u140, u141, u142, u143, u144, u145, u146, u147, u148, u149, u150, u151, u152, u153, u154, u155, u156, u157, u158, u159, u160, u161, u162, u163, u164, u165, u166, u167, u168, u169, u170, u171, u172, u173, u174, u175, u176, u177, u178, u179, u180, u181, u182, u183, u184, u185, u186, u187, u188, u189, u190, u191, u192, u193, u194, u195, u196, u197, u198, u199, u200, u201, u202, u203, u204, u205, u206, u207, u208, u209, u210, u211, u212, u213, u214, u215, u216, u217, u218, u219, u220, u221, u222, u223, u224, u225, u226, u227, u228, u229, u230, u231, u232, u233, u234, u235, u236, u237, u238, u239, u240, u241, u242, u243], []⟩ wc := by
  have hmo : Try.prog.follows .mixedOrders = true := by kernel_rfl
  have HR4 := Aside0.mk hr4
  have HC4 := Aside0.mk hc4
  have HR5 := Aside0.mk hr5
  have HC5 := Aside0.mk hc5
  have HSH := Aside0.mk hsh
  have HFEW := Aside0.mk hfew
  have HU := Aside0.mk hu
  have HU2 := Aside0.mk hu2
  have HU3 := Aside0.mk hu3
  have HI := Aside0.mk hi
  have HI2 := Aside0.mk hi2
  have HI3 := Aside0.mk hi3
  have HT := Aside0.mk ht
  have HT2 := Aside0.mk ht2
  have HT3 := Aside0.mk ht3
  have HZ := Aside0.mk hz
  have HZ2 := Aside0.mk hz2
  have HZ3 := Aside0.mk hz3
  have HY := Aside0.mk hy
  have HY2 := Aside0.mk hy2
  have HY3 := Aside0.mk hy3
  have HX := Aside0.mk hx
  have HX2 := Aside0.mk hx2
  have HX3 := Aside0.mk hx3
  have HD := Aside0.mk hd
  have HD2 := Aside0.mk hd2
  have HD3 := Aside0.mk hd3
  have HV := Aside0.mk hv
  have HA := Aside0.mk ha
  have HSD := Aside0.mk hsd
  have HS := Aside0.mk sane_ok
  clear hr4 hc4 hr5 hc5 hsh hfew hu hu2 hu3 hi hi2 hi3 ht ht2 ht3 hz hz2 hz3 hy hy2 hy3 hx hx2 hx3 hd hd2 hd3 hv ha hsd
  have HCUT := Aside0.mk hcut
  clear hcut
  have hcut := HCUT
  clear HCUT
  conv => arg 2; whnf
  go_wp2_with fail
  refine (enc_GetText.calls _ _ _ _ _ HX.out).mono ?_
  rintro e w12 ⟨rfl, hb⟩
  have HB12 := Aside0.mk (hcut.out.trans (hb.mono hcut.out.size))
  clear hb hcut
  go_upto_region 21 with (fail)
  go_cut [192] (fun v192 wc => v192 = .bool false ∧ Aside0 (Below w.heap.size w wc))
  case first =>
    rcases HX3.out with h0 | h0
    · subst h0
      obtain ⟨g1, g2, g3⟩ := HX2.out rfl
      have G1 := Aside0.mk g1
      clear g1
      have b1 : decide (j < 0) = false := decide_eq_false (by omega)
      have b2 : decide (j > (s.size : Int)) = false := decide_eq_false (by omega)
      have b3 : decide ((s.size : Int) < j) = false := decide_eq_false (by omega)
      go_region_held3 (fun w' => Below w.heap.size w w') (first | assumption | exact HB12.out | exact below_drew1 HB12.out | exact Below.trans (by assumption) (hb.mono (Below.size (by assumption))))
        (first | (go_at_call 29; refine (enc_PutText.calls _ _ _ G1.out).mono ?_; rintro e w' ⟨rfl, hb⟩))
      rename_i hh
      have HB13 := Aside0.mk hh
      go_wp2_with fail
      go_meet
      exact ⟨rfl, HB13⟩
    · subst h0
      go_quiet (fail)
      go_wp2_with fail
      go_meet
      exact ⟨rfl, ⟨by first | exact HB12.out | exact below_drew1 HB12.out | exact pw_below_drewN HB12.out _⟩⟩
  case rest =>
    clear HB12
    obtain ⟨rfl, HB13⟩ := hcut
    go_wp2_with fail
    refine (enc_GetKey.calls s A5 c5 ds d e3 _ (Kd.C_below HR5.out HB13.out) HC5.out HD.out).mono ?_
    rintro e w14 ⟨v0, rfl, hR, hb⟩
    have HB14 := Aside0.mk (HB13.out.trans (hb.mono HB13.out.size))
    have HO := Aside0.mk hR
    clear hb HB13 hR
    obtain ⟨Ao, co, eo⟩ := Kd.R_slice HO.out
    subst eo
    go_upto_if 200 with (fail)
    go_cut [] (fun wc => Aside0 (Below w.heap.size w wc))
    case first =>
      rcases HD3.out with h0 | h0
      · subst h0
        have G1 := Aside0.mk (HD2.out rfl)
        go_wp2_with fail
        refine (enc_PutKey.calls Ao co d A5 c5 ds s 0 _ (Kd.R_reads' HO.out).2.2 (Kd.R_reads' HO.out).2.1 (Kd.C_below HR5.out HB14.out) HC5.out G1.out).mono ?_
        rintro e w15 ⟨rfl, hb⟩
        have HB15 := Aside0.mk (HB14.out.trans (hb.mono HB14.out.size))
        clear hb HB14
        go_wp2_with fail
        go_meet
        exact HB15
      · subst h0
        go_wp2_with fail
        go_meet
        exact HB14
    case rest =>
      clear HB14 HO
      go_wp2_with fail
      refine (understorylaw01_valid.calls _ A4 c4 l v _ (Kd.C_below HR4.out hcut.out) HC4.out HV.out).mono ?_
      rintro e w16 ⟨rfl, hb⟩
      have HB16 := Aside0.mk (hcut.out.trans (hb.mono hcut.out.size))
      clear hb hcut
      cases v
      · go_wp2_with fail
        refine (understorylaw01_sane.calls 20 true _ HS.out).mono ?_
        rintro e w17 ⟨rfl, hb⟩
        have HB17 := Aside0.mk (HB16.out.trans (hb.mono HB16.out.size))
        clear hb HB16
        go_wp2
        go_ret
        exact ⟨rfl, HB17.out⟩
      · obtain ⟨q1, q2⟩ := HA.out rfl
        have G1 := Aside0.mk q1
        have G2 := Aside0.mk q2
        clear q1 q2
        go_wp2_with fail
        refine (enc_PutKey.calls A4 c4 l A5 c5 ds a 0 _ (Kd.C_below HR4.out HB16.out) HC4.out (Kd.C_below HR5.out HB16.out) HC5.out G1.out).mono ?_
        rintro e w17 ⟨rfl, hb⟩
        have HB17 := Aside0.mk (HB16.out.trans (hb.mono HB16.out.size))
        clear hb HB16
        go_wp2_with fail
        refine (enc_GetKey.calls a A5 c5 ds l 0 _ (Kd.C_below HR5.out HB17.out) HC5.out G2.out).mono ?_
        rintro e w18 ⟨v0, rfl, hR, hb⟩
        have HB18 := Aside0.mk (HB17.out.trans (hb.mono HB17.out.size))
        have HO := Aside0.mk hR
        clear hb HB17 hR
        obtain ⟨Ap, cp, eo⟩ := Kd.R_slice HO.out
        subst eo
        go_wp2_with fail
        refine (understorylaw01_sane.calls 20 true _ HS.out).mono ?_
        rintro e w19 ⟨rfl, hb⟩
        have HB19 := Aside0.mk (HB18.out.trans (hb.mono HB18.out.size))
        have HCO := Aside0.mk (Kd.C_below (Kd.R_reads' HO.out).2.2 hb)
        have HCP := Aside0.mk (Kd.R_reads' HO.out).2.1
        clear hb HB18 HO
        go_wp2_with fail
        refine (understoryref01_SameData.calls _ Ap cp l A4 c4 l true _ HCO.out HCP.out (Kd.C_below HR4.out HB19.out) HC4.out HSD.out).mono ?_
        rintro e w20 ⟨rfl, ⟨nd3, rfl⟩⟩
        go_wp2_with fail
        go_ret
        exact ⟨rfl, pw_below_drewN HB19.out _⟩
set_option maxRecDepth 1000000 in
set_option maxHeartbeats 4000000 in
theorem back_8 (n m : Int) (s more : ByteArray) (l : List S49) (ds : List Bool) (A4 : Option Addr) (c4 : Nat) (A5 : Option Addr) (c5 : Nat) (w : World)
    (hr4 : Kd.C k49 w A4 l.length l) (hc4 : l.length ≤ c4) (hr5 : Kd.C Kd.bool w A5 ds.length ds) (hc5 : ds.length ≤ c5)
    (hsh : understorylaw01_short.f 10 [s, more] = some true) (hfew : understorylaw01_few.f (l.length + 1) l = some true)
    (u : ByteArray) (e0 : Int) (hu : enc_PutUint.f 30 n = some (u, e0)) (hu2 : e0 = 0 → enc_GetUint.f (u ++ more) = some (n, (u.size : Int), 0) ∧ ¬ 9223372036854775807 < u.size + more.size) (hu3 : e0 = 0 ∨ e0 = 1)
    (i : ByteArray) (hi : enc_PutInt.f 20 n = some i) (hi2 : enc_GetInt.f (i ++ more) = some (n, (i.size : Int), 0)) (hi3 : ¬ 9223372036854775807 < i.size + more.size)
    (t : ByteArray) (ht : enc_PutText.f s = some t) (ht2 : enc_GetText.f (t ++ more) = some (s, (t.size : Int), 0)) (ht3 : ¬ 9223372036854775807 < t.size + more.size)
    (z : ByteArray) (hz : enc_Put32.f 20 m = some z) (hz2 : enc_Get32.f (z ++ more) = some (m, 0)) (hz3 : ¬ 9223372036854775807 < z.size + more.size)
    (y k e1 : Int) (hy : enc_GetUint.f s = some (y, k, e1)) (hy2 : e1 = 0 → enc_PutUint.f 30 y = some (s.extract 0 k.toNat, 0) ∧ 0 ≤ k ∧ k ≤ s.size) (hy3 : e1 = 0 ∨ e1 = 2)
    (x : ByteArray) (j e2 : Int) (hx : enc_GetText.f s = some (x, j, e2)) (hx2 : e2 = 0 → enc_PutText.f x = some (s.extract 0 j.toNat) ∧ 0 ≤ j ∧ j ≤ s.size) (hx3 : e2 = 0 ∨ e2 = 2)
    (d : List S49) (e3 : Int) (hd : enc_GetKey.f s ds = some (d, e3)) (hd2 : e3 = 0 → enc_PutKey.f d ds = some (s, 0)) (hd3 : e3 = 0 ∨ e3 = 2)
    (v : Bool) (hv : understorylaw01_valid.f (l.length + 1) l = some v) (a : ByteArray) (ha : v = true → enc_PutKey.f l ds = some (a, 0) ∧ enc_GetKey.f a ds = some (l, 0)) (hsd : understoryref01_SameData.f (l.length + 1) l l = some true) {u6 u7 u8 u9 u10 u11 u12 u13 u14 u15 u16 u17 u18 u19 u20 u21 u22 u23 u24 u25 u26 u27 u28 u29 u30 u31 u32 u33 u34 u35 u36 u37 u38 u39 u40 u41 u42 u43 u44 u45 u46 u47 u48 u49 u50 u51 u52 u53 u54 u55 u56 u57 u58 u59 u60 u61 u62 u63 u64 u65 u66 u67 u68 u69 u70 u71 u72 u73 u74 u75 u76 u77 u78 u79 u80 u81 u82 u83 u84 u85 u86 u87 u88 u89 u90 u91 u92 u93 u94 u95 u96 u97 u98 u99 u100 u101 u102 u103 u104 u105 u106 u107 u108 u109 u110 u111 u112 u113 u114 u115 u116 u117 u118 u119 u120 u121 u122 u123 u124 u125 u126 u127 u128 u129 u130 u131 u132 u133 u134 u135 u136 u137 u138 u139 u140 u141 u142 u143 u144 u145 u146 u147 u148 u149 u150 u151 u152 u153 u154 u155 u156 u157 u158 u159 u160 u161 u162 u163 u164 u165 u166 u167 u168 u169 u170 u171 u172 u173 u174 u175 u176 u177 u178 u179 u180 u181 u182 u183 u184 u185 u186 u187 u188 u189 u190 u191 u192 u193 u194 u195 u196 u197 u198 u199 u200 u201 u202 u203 u204 u205 u206 u207 u208 u209 u210 u211 u212 u213 u214 u215 u216 u217 u218 u219 u220 u221 u222 u223 u224 u225 u226 u227 u228 u229 u230 u231 u232 u233 u234 u235 u236 u237 u238 u239 u240 u241 u242 u243 : Value} (wc : World) (hcut : Below w.heap.size w wc) :
    Code.wp Try.prog tail8 (bodyPost Try.prog Try.f14 fun e w' => e = .returned (.bool true) ∧ Below w.heap.size w w') ⟨#[.int .i64 n, .int .u32 m, .string s, .string more, .slice A4 l.length c4, .slice A5 ds.length c5, u6, u7, u8, u9, u10, u11, u12, u13, u14, u15, u16, u17, u18, u19, u20, u21, u22, u23, u24, u25, u26, u27, u28, u29, u30, u31, u32, u33, u34, u35, u36, u37, u38, u39, u40, u41, u42, u43, u44, u45, u46, u47, u48, u49, u50, u51, u52, u53, u54, u55, u56, u57, u58, u59, u60, u61, u62, u63, u64, u65, u66, u67, u68, u69, u70, u71, u72, u73, u74, u75, u76, u77, u78, u79, u80, u81, u82, u83, u84, u85, u86, u87, u88, u89, u90, u91, u92, u93, u94, u95, u96, u97, u98, u99, u100, u101, u102, u103, u104, u105, u106, u107, u108, u109, u110, u111, u112, u113, u114, u115, u116, u117, u118, u119, u120, u121, u122, u123, u124, u125, u126, u127, u128, u129, u130, u131, u132, u133, u134, u135, u136, u137, u138, u139, u140, u141, u142, u143, u144, u145, u146, u147, u148, u149, u150, u151, u152, u153, u154, u155, u156, u157, u158, u159, u160, u161, u162, u163, u164, u165, u166, u167, u168, u169, u170, u171, u172, u173, u174, u175, u176, u177, u178, u179, u180, u181, u182, u183, u184, u185, u186, u187, u188, u189, u190, u191, u192, u193, u194, u195, u196, u197, u198, u199, u200, u201, u202, u203, u204, u205, u206, u207, u208, u209, u210, u211, u212, u213, u214, u215, u216, u217, u218, u219, u220, u221, u222, u223, u224, u225, u226, u227, u228, u229, u230, u231, u232, u233, u234, u235, u236, u237, u238, u239, u240, u241, u242, u243], []⟩ wc := by
  have hmo : Try.prog.follows .mixedOrders = true := by kernel_rfl
  have HR4 := Aside0.mk hr4
  have HC4 := Aside0.mk hc4
  have HR5 := Aside0.mk hr5
  have HC5 := Aside0.mk hc5
  have HSH := Aside0.mk hsh
  have HFEW := Aside0.mk hfew
  have HU := Aside0.mk hu
  have HU2 := Aside0.mk hu2
  have HU3 := Aside0.mk hu3
  have HI := Aside0.mk hi
  have HI2 := Aside0.mk hi2
  have HI3 := Aside0.mk hi3
  have HT := Aside0.mk ht
  have HT2 := Aside0.mk ht2
  have HT3 := Aside0.mk ht3
  have HZ := Aside0.mk hz
  have HZ2 := Aside0.mk hz2
  have HZ3 := Aside0.mk hz3
  have HY := Aside0.mk hy
  have HY2 := Aside0.mk hy2
  have HY3 := Aside0.mk hy3
  have HX := Aside0.mk hx
  have HX2 := Aside0.mk hx2
  have HX3 := Aside0.mk hx3
  have HD := Aside0.mk hd
  have HD2 := Aside0.mk hd2
  have HD3 := Aside0.mk hd3
  have HV := Aside0.mk hv
  have HA := Aside0.mk ha
  have HSD := Aside0.mk hsd
  have HS := Aside0.mk sane_ok
  clear hr4 hc4 hr5 hc5 hsh hfew hu hu2 hu3 hi hi2 hi3 ht ht2 ht3 hz hz2 hz3 hy hy2 hy3 hx hx2 hx3 hd hd2 hd3 hv ha hsd
  have HCUT := Aside0.mk hcut
  clear hcut
  have hcut := HCUT
  clear HCUT
  conv => arg 2; whnf
  have i3 := HI3.out
  have t3 := HT3.out
  have z3 := HZ3.out
  go_wp2_with fail
  refine (enc_PutInt.calls 20 n i _ HI.out).mono ?_
  rintro e w4 ⟨rfl, hb⟩
  have HB4 := Aside0.mk (hcut.out.trans (hb.mono hcut.out.size))
  clear hb hcut
  go_wp2_with fail
  refine (enc_GetInt.calls _ _ _ _ _ HI2.out).mono ?_
  rintro e w5 ⟨rfl, hb⟩
  have HB5 := Aside0.mk (HB4.out.trans (hb.mono HB4.out.size))
  clear hb HB4
  go_wp2_with fail
  refine (enc_PutText.calls _ _ _ HT.out).mono ?_
  rintro e w6 ⟨rfl, hb⟩
  have HB6 := Aside0.mk (HB5.out.trans (hb.mono HB5.out.size))
  clear hb HB5
  go_wp2_with fail
  refine (enc_GetText.calls _ _ _ _ _ HT2.out).mono ?_
  rintro e w7 ⟨rfl, hb⟩
  have HB7 := Aside0.mk (HB6.out.trans (hb.mono HB6.out.size))
  clear hb HB6
  go_wp2_with fail
  refine (enc_Put32.calls 20 m z _ HZ.out).mono ?_
  rintro e w8 ⟨rfl, hb⟩
  have HB8 := Aside0.mk (HB7.out.trans (hb.mono HB7.out.size))
  clear hb HB7
  go_wp2_with fail
  refine (enc_Get32.calls _ _ _ _ HZ2.out).mono ?_
  rintro e w9 ⟨rfl, hb⟩
  have HB9 := Aside0.mk (HB8.out.trans (hb.mono HB8.out.size))
  clear hb HB8
  clear i3 t3 z3
  go_wp2_with fail
  refine (enc_GetUint.calls _ _ _ _ _ HY.out).mono ?_
  rintro e w10 ⟨rfl, hb⟩
  have HB10 := Aside0.mk (HB9.out.trans (hb.mono HB9.out.size))
  clear hb HB9
  go_upto_if 146 with (fail)
  go_cut [] (fun wc => Aside0 (Below w.heap.size w wc))
  case first =>
    rcases HY3.out with h0 | h0
    · subst h0
      obtain ⟨g1, g2, g3⟩ := HY2.out rfl
      have G1 := Aside0.mk g1
      clear g1
      go_wp2_with fail
      refine (enc_PutUint.calls 30 y _ 0 _ G1.out).mono ?_
      rintro e w11 ⟨rfl, hb⟩
      have HB11 := Aside0.mk (HB10.out.trans (hb.mono HB10.out.size))
      clear hb HB10
      have g4 : ¬ (s.size : Int) < k := by omega
      go_wp2_with fail
      go_meet
      exact HB11
    · subst h0
      go_wp2_with fail
      go_meet
      exact HB10
  case rest =>
    rename_i ha
    refine ha _ _ ?_
    exact back_20 n m s more l ds A4 c4 A5 c5 w HR4.out HC4.out HR5.out HC5.out HSH.out HFEW.out u e0 HU.out HU2.out HU3.out i HI.out HI2.out HI3.out t HT.out HT2.out HT3.out z HZ.out HZ2.out HZ3.out y k e1 HY.out HY2.out HY3.out x j e2 HX.out HX2.out HX3.out d e3 HD.out HD2.out HD3.out v HV.out a HA.out HSD.out wc hcut.out
set_option maxRecDepth 1000000 in
set_option maxHeartbeats 4000000 in
theorem back_main (n m : Int) (s more : ByteArray) (l : List S49) (ds : List Bool) (A4 : Option Addr) (c4 : Nat) (A5 : Option Addr) (c5 : Nat) (w : World)
    (hr4 : Kd.C k49 w A4 l.length l) (hc4 : l.length ≤ c4) (hr5 : Kd.C Kd.bool w A5 ds.length ds) (hc5 : ds.length ≤ c5)
    (hsh : understorylaw01_short.f 10 [s, more] = some true) (hfew : understorylaw01_few.f (l.length + 1) l = some true)
    (u : ByteArray) (e0 : Int) (hu : enc_PutUint.f 30 n = some (u, e0)) (hu2 : e0 = 0 → enc_GetUint.f (u ++ more) = some (n, (u.size : Int), 0) ∧ ¬ 9223372036854775807 < u.size + more.size) (hu3 : e0 = 0 ∨ e0 = 1)
    (i : ByteArray) (hi : enc_PutInt.f 20 n = some i) (hi2 : enc_GetInt.f (i ++ more) = some (n, (i.size : Int), 0)) (hi3 : ¬ 9223372036854775807 < i.size + more.size)
    (t : ByteArray) (ht : enc_PutText.f s = some t) (ht2 : enc_GetText.f (t ++ more) = some (s, (t.size : Int), 0)) (ht3 : ¬ 9223372036854775807 < t.size + more.size)
    (z : ByteArray) (hz : enc_Put32.f 20 m = some z) (hz2 : enc_Get32.f (z ++ more) = some (m, 0)) (hz3 : ¬ 9223372036854775807 < z.size + more.size)
    (y k e1 : Int) (hy : enc_GetUint.f s = some (y, k, e1)) (hy2 : e1 = 0 → enc_PutUint.f 30 y = some (s.extract 0 k.toNat, 0) ∧ 0 ≤ k ∧ k ≤ s.size) (hy3 : e1 = 0 ∨ e1 = 2)
    (x : ByteArray) (j e2 : Int) (hx : enc_GetText.f s = some (x, j, e2)) (hx2 : e2 = 0 → enc_PutText.f x = some (s.extract 0 j.toNat) ∧ 0 ≤ j ∧ j ≤ s.size) (hx3 : e2 = 0 ∨ e2 = 2)
    (d : List S49) (e3 : Int) (hd : enc_GetKey.f s ds = some (d, e3)) (hd2 : e3 = 0 → enc_PutKey.f d ds = some (s, 0)) (hd3 : e3 = 0 ∨ e3 = 2)
    (v : Bool) (hv : understorylaw01_valid.f (l.length + 1) l = some v) (a : ByteArray) (ha : v = true → enc_PutKey.f l ds = some (a, 0) ∧ enc_GetKey.f a ds = some (l, 0)) (hsd : understoryref01_SameData.f (l.length + 1) l l = some true) :
    Calls Try.prog 14 #[.int .i64 n, .int .u32 m, .string s, .string more, .slice A4 l.length c4, .slice A5 ds.length c5] w fun e w' => e = .returned (.bool true) ∧ Below w.heap.size w w' := by
  have hmo : Try.prog.follows .mixedOrders = true := by kernel_rfl
  have HR4 := Aside0.mk hr4
  have HC4 := Aside0.mk hc4
  have HR5 := Aside0.mk hr5
  have HC5 := Aside0.mk hc5
  have HSH := Aside0.mk hsh
  have HFEW := Aside0.mk hfew
  have HU := Aside0.mk hu
  have HU2 := Aside0.mk hu2
  have HU3 := Aside0.mk hu3
  have HI := Aside0.mk hi
  have HI2 := Aside0.mk hi2
  have HI3 := Aside0.mk hi3
  have HT := Aside0.mk ht
  have HT2 := Aside0.mk ht2
  have HT3 := Aside0.mk ht3
  have HZ := Aside0.mk hz
  have HZ2 := Aside0.mk hz2
  have HZ3 := Aside0.mk hz3
  have HY := Aside0.mk hy
  have HY2 := Aside0.mk hy2
  have HY3 := Aside0.mk hy3
  have HX := Aside0.mk hx
  have HX2 := Aside0.mk hx2
  have HX3 := Aside0.mk hx3
  have HD := Aside0.mk hd
  have HD2 := Aside0.mk hd2
  have HD3 := Aside0.mk hd3
  have HV := Aside0.mk hv
  have HA := Aside0.mk ha
  have HSD := Aside0.mk hsd
  have HS := Aside0.mk sane_ok
  clear hr4 hc4 hr5 hc5 hsh hfew hu hu2 hu3 hi hi2 hi3 ht ht2 ht3 hz hz2 hz3 hy hy2 hy3 hx hx2 hx3 hd hd2 hd3 hv ha hsd
  have HB := Aside0.mk (Below.refl w.heap.size w)
  obtain ⟨ls, hls⟩ : ∃ ls : List ByteArray, ls = [s, more] := ⟨_, rfl⟩
  have NLS := Aside0.mk hls
  have HSHL := Aside0.mk (show understorylaw01_short.f 10 ls = some true by rw [hls]; exact HSH.out)
  clear hls
  go_enter Try.func14, Try.ntmps14
  go_wp2_with (first
    | ((with_reducible refine gate_dst (N := 37) rfl ?_); (try (refine gate_guard (by rfl) ?_; dsimp only)); refine Kd.R_lit Kd.string _ 9 ?hg (N := 37) ?hd (xs := ([s, more] : List ByteArray)) (inner := [.string s, .string more]) (ok := fun _ => True) (okp := fun _ => True) ?hr ?hp (fun _ hk => hk) trivial (Below.refl _ _) (Nat.le_refl _) (by simp) ?_; (case hd => rfl); (case hg => rfl); (case hr => first | (go_simp; done) | (go_simp; rfl)); (case hp => exact (Reps.one (show Kd.M Kd.string _ _ _ s [.string s] from rfl) (Reps.one (show Kd.M Kd.string _ _ _ more [.string more] from rfl) (Reps.none _ _)))); intro v563 w11 ho12 hb hg_ hnew_; clear hg_ hnew_; rw [← NLS.out] at ho12; have HO := Aside0.mk ho12; have HB1 := Aside0.mk (HB.out.trans hb); clear HB hb ho12; obtain ⟨Ao, co, eo⟩ := Kd.R_slice HO.out; subst eo)
    | ((with_reducible refine gate_callee (f := 15) rfl ?_); refine goesL_ (some 38) rfl rfl Try.func15 (by kernel_rfl) rfl #[.slice Ao ls.length co] rfl (by (try simp only [List.map_toArray, List.map_cons, List.map_nil]); first | done | rfl | (simp only [List.length_drop, List.length_take]; rfl)) ?_; (with_reducible refine (understorylaw01_short.calls 10 _ _ ls true _ ?side1 ?side2 HSHL.out).mono ?_); (case side1 => exact (Kd.R_reads' HO.out).2.2); (case side2 => exact (Kd.R_reads' HO.out).2.1); rintro e w' ⟨rfl, ⟨nd, rfl⟩⟩; refine ⟨_, rfl, ?_⟩))
  refine (understorylaw01_few.calls _ _ _ l true _ (Kd.C_below HR4.out (pw_below_drewN HB1.out _)) HC4.out HFEW.out).mono ?_
  rintro e w1 ⟨rfl, ⟨nd2, rfl⟩⟩
  have HB := Aside0.mk (pw_below_drewN (pw_below_drewN HB1.out nd) nd2)
  clear HB1 HO
  obtain ⟨W1, hW1⟩ : ∃ W, W = (w11.drewN nd).drewN nd2 := ⟨_, rfl⟩
  rw [← hW1] at HB ⊢
  clear hW1
  go_wp2_with fail
  refine (enc_PutUint.calls 30 n u e0 _ HU.out).mono ?_
  rintro e w2 ⟨rfl, hb⟩
  have HB2 := Aside0.mk (HB.out.trans (hb.mono HB.out.size))
  clear hb HB
  go_upto_if 52 with (fail)
  go_cut [] (fun wc => Aside0 (Below w.heap.size w wc))
  case first =>
    rcases HU3.out with h0 | h0
    · subst h0
      obtain ⟨g1, g2⟩ := HU2.out rfl
      have G1 := Aside0.mk g1
      clear g1
      go_wp2_with fail
      refine (enc_GetUint.calls _ _ _ _ _ G1.out).mono ?_
      rintro e w3 ⟨rfl, hb⟩
      have HB3 := Aside0.mk (HB2.out.trans (hb.mono HB2.out.size))
      clear hb HB2
      go_wp2_with fail
      go_meet
      exact HB3
    · subst h0
      go_wp2_with fail
      go_meet
      exact HB2
  case rest =>
    rename_i ha
    refine ha _ _ ?_
    exact back_8 n m s more l ds A4 c4 A5 c5 w HR4.out HC4.out HR5.out HC5.out HSH.out HFEW.out u e0 HU.out HU2.out HU3.out i HI.out HI2.out HI3.out t HT.out HT2.out HT3.out z HZ.out HZ2.out HZ3.out y k e1 HY.out HY2.out HY3.out x j e2 HX.out HX2.out HX3.out d e3 HD.out HD2.out HD3.out v HV.out a HA.out HSD.out wc hcut.out

set_option maxRecDepth 100000 in
set_option maxHeartbeats 4000000 in
theorem back_long (n m : Int) (s more : ByteArray) (l : List S49) (ds : List Bool) (A4 : Option Addr) (c4 : Nat) (A5 : Option Addr) (c5 : Nat) (w : World) (hsh : understorylaw01_short.f 10 [s, more] = some false) :
    Calls Try.prog 14 #[.int .i64 n, .int .u32 m, .string s, .string more, .slice A4 l.length c4, .slice A5 ds.length c5] w fun e w' => e = .returned (.bool true) ∧ Below w.heap.size w w' := by
  have HS := Aside0.mk sane_ok
  have hmo : Try.prog.follows .mixedOrders = true := by kernel_rfl
  have HB := Aside0.mk (Below.refl w.heap.size w)
  obtain ⟨ls, hls⟩ : ∃ ls : List ByteArray, ls = [s, more] := ⟨_, rfl⟩
  have NLS := Aside0.mk hls
  have HSHL := Aside0.mk (show understorylaw01_short.f 10 ls = some false by rw [hls]; exact hsh)
  clear hls hsh
  go_enter Try.func14, Try.ntmps14
  go_wp2_with (first
    | ((with_reducible refine gate_dst (N := 37) rfl ?_); (try (refine gate_guard (by rfl) ?_; dsimp only)); refine Kd.R_lit Kd.string _ 9 ?hg (N := 37) ?hd (xs := ([s, more] : List ByteArray)) (inner := [.string s, .string more]) (ok := fun _ => True) (okp := fun _ => True) ?hr ?hp (fun _ hk => hk) trivial (Below.refl _ _) (Nat.le_refl _) (by simp) ?_; (case hd => rfl); (case hg => rfl); (case hr => first | (go_simp; done) | (go_simp; rfl)); (case hp => exact (Reps.one (show Kd.M Kd.string _ _ _ s [.string s] from rfl) (Reps.one (show Kd.M Kd.string _ _ _ more [.string more] from rfl) (Reps.none _ _)))); intro v563 w11 ho12 hb hg_ hnew_; clear hg_ hnew_; rw [← NLS.out] at ho12; have HO := Aside0.mk ho12; have HB1 := Aside0.mk (HB.out.trans hb); clear HB hb ho12; obtain ⟨Ao, co, eo⟩ := Kd.R_slice HO.out; subst eo)
    | ((with_reducible refine gate_callee (f := 15) rfl ?_); refine goesL_ (some 38) rfl rfl Try.func15 (by kernel_rfl) rfl #[.slice Ao ls.length co] rfl (by (try simp only [List.map_toArray, List.map_cons, List.map_nil]); first | done | rfl | (simp only [List.length_drop, List.length_take]; rfl)) ?_; (with_reducible refine (understorylaw01_short.calls 10 _ _ ls false _ ?side1 ?side2 HSHL.out).mono ?_); (case side1 => exact (Kd.R_reads' HO.out).2.2); (case side2 => exact (Kd.R_reads' HO.out).2.1); rintro e w' ⟨rfl, ⟨nd, rfl⟩⟩; refine ⟨_, rfl, ?_⟩))
  refine (understorylaw01_sane.calls 20 true _ HS.out).mono ?_
  rintro e w17 ⟨rfl, hb⟩
  have HB17 := Aside0.mk ((pw_below_drewN HB1.out nd).trans (hb.mono (pw_below_drewN HB1.out nd).size))
  clear hb
  go_wp2
  go_ret
  exact ⟨rfl, HB17.out⟩
set_option maxRecDepth 100000 in
set_option maxHeartbeats 4000000 in
theorem back_many (n m : Int) (s more : ByteArray) (l : List S49) (ds : List Bool) (A4 : Option Addr) (c4 : Nat) (A5 : Option Addr) (c5 : Nat) (w : World) (hr4 : Kd.C k49 w A4 l.length l) (hc4 : l.length ≤ c4) (hsh : understorylaw01_short.f 10 [s, more] = some true) (hfew : understorylaw01_few.f (l.length + 1) l = some false) :
    Calls Try.prog 14 #[.int .i64 n, .int .u32 m, .string s, .string more, .slice A4 l.length c4, .slice A5 ds.length c5] w fun e w' => e = .returned (.bool true) ∧ Below w.heap.size w w' := by
  have HR4 := Aside0.mk hr4
  have HC4 := Aside0.mk hc4
  have HFEW := Aside0.mk hfew
  clear hr4 hc4 hfew
  have HS := Aside0.mk sane_ok
  have hmo : Try.prog.follows .mixedOrders = true := by kernel_rfl
  have HB := Aside0.mk (Below.refl w.heap.size w)
  obtain ⟨ls, hls⟩ : ∃ ls : List ByteArray, ls = [s, more] := ⟨_, rfl⟩
  have NLS := Aside0.mk hls
  have HSHL := Aside0.mk (show understorylaw01_short.f 10 ls = some true by rw [hls]; exact hsh)
  clear hls hsh
  go_enter Try.func14, Try.ntmps14
  go_wp2_with (first
    | ((with_reducible refine gate_dst (N := 37) rfl ?_); (try (refine gate_guard (by rfl) ?_; dsimp only)); refine Kd.R_lit Kd.string _ 9 ?hg (N := 37) ?hd (xs := ([s, more] : List ByteArray)) (inner := [.string s, .string more]) (ok := fun _ => True) (okp := fun _ => True) ?hr ?hp (fun _ hk => hk) trivial (Below.refl _ _) (Nat.le_refl _) (by simp) ?_; (case hd => rfl); (case hg => rfl); (case hr => first | (go_simp; done) | (go_simp; rfl)); (case hp => exact (Reps.one (show Kd.M Kd.string _ _ _ s [.string s] from rfl) (Reps.one (show Kd.M Kd.string _ _ _ more [.string more] from rfl) (Reps.none _ _)))); intro v563 w11 ho12 hb hg_ hnew_; clear hg_ hnew_; rw [← NLS.out] at ho12; have HO := Aside0.mk ho12; have HB1 := Aside0.mk (HB.out.trans hb); clear HB hb ho12; obtain ⟨Ao, co, eo⟩ := Kd.R_slice HO.out; subst eo)
    | ((with_reducible refine gate_callee (f := 15) rfl ?_); refine goesL_ (some 38) rfl rfl Try.func15 (by kernel_rfl) rfl #[.slice Ao ls.length co] rfl (by (try simp only [List.map_toArray, List.map_cons, List.map_nil]); first | done | rfl | (simp only [List.length_drop, List.length_take]; rfl)) ?_; (with_reducible refine (understorylaw01_short.calls 10 _ _ ls true _ ?side1 ?side2 HSHL.out).mono ?_); (case side1 => exact (Kd.R_reads' HO.out).2.2); (case side2 => exact (Kd.R_reads' HO.out).2.1); rintro e w' ⟨rfl, ⟨nd, rfl⟩⟩; refine ⟨_, rfl, ?_⟩))
  refine (understorylaw01_few.calls _ _ _ l false _ (Kd.C_below HR4.out (pw_below_drewN HB1.out _)) HC4.out HFEW.out).mono ?_
  rintro e w1 ⟨rfl, ⟨nd2, rfl⟩⟩
  have HB := Aside0.mk (pw_below_drewN (pw_below_drewN HB1.out nd) nd2)
  clear HB1 HO
  obtain ⟨W1, hW1⟩ : ∃ W, W = (w11.drewN nd).drewN nd2 := ⟨_, rfl⟩
  rw [← hW1] at HB ⊢
  clear hW1
  go_wp2_with fail
  refine (understorylaw01_sane.calls 20 true _ HS.out).mono ?_
  rintro e w17 ⟨rfl, hb⟩
  have HB17 := Aside0.mk (HB.out.trans (hb.mono HB.out.size))
  clear hb
  go_wp2
  go_ret
  exact ⟨rfl, HB17.out⟩

theorem same_loop (l : List S49) (hb : l.length ≤ 100000) : ∀ (d k i : Nat), l.length - i = d → i ≤ l.length → d < k → understoryref01_SameData.l0 k l l (i : Int) = some true := by
  intro d
  induction d with
  | zero =>
    intro k i hd hi hk
    obtain ⟨k, rfl⟩ : ∃ m, k = m + 1 := ⟨k - 1, by omega⟩
    rw [understoryref01_SameData.l0, if_neg (by omega)]
  | succ d ih =>
    intro k i hd hi hk
    obtain ⟨k, rfl⟩ : ∃ m, k = m + 1 := ⟨k - 1, by omega⟩
    rw [understoryref01_SameData.l0, if_pos (by omega), if_pos (by omega), if_pos (by omega), if_neg (by simp), w64 _ (by omega) (by omega), show ((i : Int) + 1) = ((i + 1 : Nat) : Int) by omega]
    exact ih k (i + 1) (by omega) (by omega) (by omega)
theorem same_spec (l : List S49) (hb : l.length ≤ 100000) (k : Nat) (hk : l.length < k) : understoryref01_SameData.f k l l = some true := by
  rw [understoryref01_SameData.f, if_pos rfl]
  exact same_loop l hb l.length k 0 rfl (by omega) hk
theorem wf_u32 (n : Int) (h : (Lit.int .u32 n).wf = true) : 0 ≤ n ∧ n ≤ 4294967295 := by
  have e1 : IntKind.u32.min = 0 := rfl
  have e2 : IntKind.u32.max = 4294967295 := rfl
  simp [Lit.wf] at h
  omega
theorem escL_max (l : Bytes) : (escL l).length ≤ 2 * l.length + 2 := by
  induction l with
  | nil => simp [escL]
  | cons b r ih => rw [escL]; split <;> simp <;> omega
theorem datum_max (x : S49) (h : x.f2.size ≤ 3000) : (datumL x).length ≤ 6010 := by
  unfold datumL
  split
  · simp
  · split
    · simp [putInt_len]
    · split
      · have := escL_max (toL x.f2)
        rw [length_toL] at this
        simp; omega
      · simp
theorem encK_most (ds : List Bool) (l : List S49) (h : ∀ x ∈ l, x.f2.size ≤ 3000) : ∀ i, (encK ds i l).length ≤ 6010 * l.length := by
  induction l with
  | nil => intro i; simp [encK]
  | cons x r ih =>
    intro i
    have h1 := ih (fun y hy => h y (by simp [hy])) (i + 1)
    have h2 := datum_max x (h x (by simp))
    have h3 : (encD (desc ds i) x).length = (datumL x).length := by cases desc ds i <;> simp [encD, flipL]
    rw [encK, List.length_append, List.length_cons]
    omega
theorem putUint_max (m : Nat) : (putUintL m).length ≤ 100 := by
  rw [putUintL]
  split
  · simp
  · have := (szF_le 8 (m - 240) 1).2
    simp [bigL_length]; omega
theorem no_sum (a b : Bytes) (ha : a.length ≤ 1000000) (hb : b.length ≤ 1000000) : ¬ 9223372036854775807 < (ofL a).size + (ofL b).size := by
  rw [size_ofL, size_ofL]; omega
theorem getUint_f (s : Bytes) (h : s.length ≤ 1000000) : enc_GetUint.f (ofL s) = some (match getUintL s with | some x => ((x.1 : Int), (x.2 : Int), 0) | none => (0, 0, 2)) := by
  rw [enc_GetUint.f, if_pos (by rw [size_ofL]; omega), toL_ofL]
  cases getUintL s <;> rfl
theorem getInt_f (s : Bytes) (h : s.length ≤ 1000000) : enc_GetInt.f (ofL s) = some (match getIntL s with | some x => (x, 8, 0) | none => (0, 0, 2)) := by
  rw [enc_GetInt.f, if_pos (by rw [size_ofL]; omega), toL_ofL]
  cases getIntL s <;> rfl
theorem get32_f (s : Bytes) (h : s.length ≤ 1000000) : enc_Get32.f (ofL s) = some (match get32L s with | some x => ((x : Int), 0) | none => (0, 2)) := by
  rw [enc_Get32.f, if_pos (by rw [size_ofL]; omega), toL_ofL]
  cases get32L s <;> rfl
theorem getText_f (s : Bytes) (h : s.length ≤ 1000000) : enc_GetText.f (ofL s) = some (match unescL s with | some x => (ofL x.1, (x.2 : Int), 0) | none => (⟨#[]⟩, 0, 2)) := by
  rw [enc_GetText.f, if_pos (by rw [size_ofL]; omega), toL_ofL]
  cases unescL s <;> rfl
theorem getKey_f (s : Bytes) (ds : List Bool) (h : s.length ≤ 1000000) : enc_GetKey.f (ofL s) ds = some (match getKeyL ds (s.length + 1) 0 s with | some x => (x, 0) | none => ([], 2)) := by
  rw [enc_GetKey.f, if_pos (by rw [size_ofL]; omega), toL_ofL, size_ofL]
  cases getKeyL ds (s.length + 1) 0 s <;> rfl
theorem back_walk (n m : Int) (s more : ByteArray) (l : List S49) (ds : List Bool) (A4 : Option Addr) (c4 : Nat) (A5 : Option Addr) (c5 : Nat) (w : World) (hn : -9223372036854775808 ≤ n ∧ n ≤ 9223372036854775807) (hm : 0 ≤ m ∧ m ≤ 4294967295) (hs : s.size ≤ 140737488351232) (hmore : more.size ≤ 140737488351232)
    (hr4 : Kd.C k49 w A4 l.length l) (hc4 : l.length ≤ c4) (hr5 : Kd.C Kd.bool w A5 ds.length ds) (hc5 : ds.length ≤ c5) (hl : DataOk l) :
    Calls Try.prog 14 #[.int .i64 n, .int .u32 m, .string s, .string more, .slice A4 l.length c4, .slice A5 ds.length c5] w fun e w' => e = .returned (.bool true) ∧ Below w.heap.size w w' := by
  have hsh := short_spec [s, more] (by simp) 10 (by simp)
  cases hb : ([s, more].all fun s => decide (s.size ≤ 3000)) with
  | false => rw [hb] at hsh; exact back_long n m s more l ds A4 c4 A5 c5 w hsh
  | true =>
    rw [hb] at hsh
    simp only [List.all_cons, List.all_nil, Bool.and_true, Bool.and_eq_true, decide_eq_true_eq] at hb
    obtain ⟨b, hfew, hb2⟩ := few_spec l (fun x hx => (hl.2 x hx).2.2) hl.1 (l.length + 1) (by omega)
    cases b with
    | false => exact back_many n m s more l ds A4 c4 A5 c5 w hr4 hc4 hsh hfew
    | true =>
      obtain ⟨h60, h3000⟩ := hb2 rfl
      obtain ⟨S, rfl⟩ : ∃ S, s = ofL S := ⟨toL s, (ofL_toL s).symm⟩
      obtain ⟨M, rfl⟩ : ∃ M, more = ofL M := ⟨toL more, (ofL_toL more).symm⟩
      rw [size_ofL, size_ofL] at hb
      obtain ⟨hS, hM⟩ := hb
      have hv := valid_spec l (by omega) (l.length + 1) (by omega)
      have ol : l.all validS = true → ∀ x ∈ l, DatOk x ∧ x.f2.size ≤ 100000 := fun hvv x hx => ⟨⟨List.all_eq_true.mp hvv x hx, wf_rangeD _ (hl.2 x hx).2.1⟩, by have := h3000 x hx; omega⟩
      -- PutUint
      obtain ⟨u, e0, hu, hu2, hu3⟩ : ∃ (u : ByteArray) (e0 : Int), enc_PutUint.f 30 n = some (u, e0) ∧ (e0 = 0 → enc_GetUint.f (u ++ ofL M) = some (n, (u.size : Int), 0) ∧ ¬ 9223372036854775807 < u.size + (ofL M).size) ∧ (e0 = 0 ∨ e0 = 1) := by
        by_cases h : n < 0 ∨ 4611686018427387904 < n
        · exact ⟨_, _, encPutUint_bad n h 30 (by omega), fun h => absurd h (by decide), .inr rfl⟩
        · obtain ⟨q, rfl⟩ : ∃ q : Nat, n = q := ⟨n.toNat, by omega⟩
          have hp := putUint_max q
          refine ⟨_, _, encPutUint_ok q (by omega) 30 (by omega), fun _ => ⟨?_, no_sum _ _ (by omega) (by omega)⟩, .inl rfl⟩
          rw [append_ofL, getUint_f _ (by rw [List.length_append]; omega), getUint_put q (by omega) M]
          rfl
      -- PutInt
      have hi2 : enc_GetInt.f (ofL (putIntL n) ++ ofL M) = some (n, ((ofL (putIntL n)).size : Int), 0) := by
        rw [append_ofL, getInt_f _ (by rw [List.length_append, putInt_len]; omega), getInt_put n hn M, size_ofL, putInt_len]
        rfl
      -- PutText
      have hesc := escL_max S
      have ht2 : enc_GetText.f (ofL (escL S) ++ ofL M) = some (ofL S, ((ofL (escL S)).size : Int), 0) := by
        rw [append_ofL, getText_f _ (by rw [List.length_append]; omega), unesc_esc S M]
        rfl
      -- Put32
      obtain ⟨z, hz, hz2, hz3⟩ : ∃ z, enc_Put32.f 20 m = some z ∧ enc_Get32.f (z ++ ofL M) = some (m, 0) ∧ ¬ 9223372036854775807 < z.size + (ofL M).size := by
        obtain ⟨q, rfl⟩ : ∃ q : Nat, m = q := ⟨m.toNat, by omega⟩
        refine ⟨ofL (bigL q 4), ?_, ?_, no_sum _ _ (by rw [bigL_length]; omega) (by omega)⟩
        · rw [enc_Put32.f, u64w _ (by omega) (by omega), show (4 : Int) = ((4 : Nat) : Int) from rfl, big_fuel q 4 20 (by omega) (by omega)]; rfl
        · rw [append_ofL, get32_f _ (by rw [List.length_append, bigL_length]; omega), get32_put q (by omega) M]
      -- GetUint
      obtain ⟨y, k, e1, hy, hy2, hy3⟩ : ∃ y k e1 : Int, enc_GetUint.f (ofL S) = some (y, k, e1) ∧ (e1 = 0 → enc_PutUint.f 30 y = some ((ofL S).extract 0 k.toNat, 0) ∧ 0 ≤ k ∧ k ≤ (ofL S).size) ∧ (e1 = 0 ∨ e1 = 2) := by
        cases hg : getUintL S with
        | none => exact ⟨0, 0, 2, by rw [getUint_f S (by omega), hg], fun h => absurd h (by decide), .inr rfl⟩
        | some q =>
          obtain ⟨q1, q2⟩ := q
          obtain ⟨g1, g2, g3⟩ := putUint_get S q1 q2 hg
          refine ⟨q1, q2, 0, by rw [getUint_f S (by omega), hg], fun _ => ⟨?_, by omega, by rw [size_ofL]; omega⟩, .inl rfl⟩
          rw [encPutUint_ok q1 g1 30 (by omega), g3, extract_take, Int.toNat_natCast]
      -- GetText
      obtain ⟨x, j, e2, hx, hx2, hx3⟩ : ∃ (x : ByteArray) (j e2 : Int), enc_GetText.f (ofL S) = some (x, j, e2) ∧ (e2 = 0 → enc_PutText.f x = some ((ofL S).extract 0 j.toNat) ∧ 0 ≤ j ∧ j ≤ (ofL S).size) ∧ (e2 = 0 ∨ e2 = 2) := by
        cases hg : unescL S with
        | none => exact ⟨_, 0, 2, by rw [getText_f S (by omega), hg], fun h => absurd h (by decide), .inr rfl⟩
        | some q =>
          obtain ⟨q1, q2⟩ := q
          obtain ⟨g1, g2⟩ := esc_unesc S q1 q2 hg
          have g3 := unesc_len S q1 q2 hg
          refine ⟨_, q2, 0, by rw [getText_f S (by omega), hg], fun _ => ⟨?_, by omega, by rw [size_ofL]; omega⟩, .inl rfl⟩
          rw [encPutText' q1 (by omega), g2, extract_take, Int.toNat_natCast]
      -- GetKey
      obtain ⟨d, e3, hd, hd2, hd3⟩ : ∃ (d : List S49) (e3 : Int), enc_GetKey.f (ofL S) ds = some (d, e3) ∧ (e3 = 0 → enc_PutKey.f d ds = some (ofL S, 0)) ∧ (e3 = 0 ∨ e3 = 2) := by
        cases hg : getKeyL ds (S.length + 1) 0 S with
        | none => exact ⟨[], 2, by rw [getKey_f S ds (by omega), hg], fun h => absurd h (by decide), .inr rfl⟩
        | some ys =>
          obtain ⟨g1, g2, g3⟩ := put_get ds _ 0 S ys hg
          refine ⟨ys, 0, by rw [getKey_f S ds (by omega), hg], fun _ => ?_, .inl rfl⟩
          rw [encPutKey ds ys (fun y hy => ⟨(g1 y hy).1, by have := (g1 y hy).2; omega⟩) (by omega), g3]
      have hmost := encK_most ds l h3000 0
      exact back_main n m (ofL S) (ofL M) l ds A4 c4 A5 c5 w hr4 hc4 hr5 hc5 hsh hfew u e0 hu hu2 hu3
        (ofL (putIntL n)) (putInt_fuel n 20 (by omega)) hi2 (no_sum _ _ (by rw [putInt_len]; omega) (by omega))
        (ofL (escL S)) (encPutText' S (by omega)) ht2 (no_sum _ _ (by omega) (by omega)) z hz hz2 hz3 y k e1 hy hy2 hy3 x j e2 hx hx2 hx3 d e3 hd hd2 hd3
        (l.all validS) hv (ofL (encK ds 0 l)) (fun hvv => ⟨encPutKey ds l (ol hvv) (by omega), by rw [getKey_f _ ds (by omega), get_put ds l _ 0 (fun x hx => (ol hvv x hx).1) (by have := encK_len ds l 0 (fun x hx => (ol hvv x hx).1); omega)]⟩)
        (same_spec l (by omega) _ (by omega))
end Go.Proofs.Ythpabgiicglbmaa.Pure
