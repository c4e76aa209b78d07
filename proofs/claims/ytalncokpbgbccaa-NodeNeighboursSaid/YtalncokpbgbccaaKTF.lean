-- A slim copy of TF, written by wip/tools/prune2.py.
import Derived.Test.YtalncokpbgbccaaKTE
/- NodeNeighbours, the walk of the way in which the lists are in order and valid. -/
namespace Go.Proofs.Ytalncokpbgbccaa.E
set_option linter.unusedVariables false
set_option linter.unusedSimpArgs false
open Go.RowKit Go.Proofs.YtalncokpbgbccaaW.PrintWords Go.Proofs.YtalncokpbgbccaaW.PrintLast Go.Proofs.YtalncokpbgbccaaW.PrintMore
set_option maxRecDepth 100000 in
set_option maxHeartbeats 4000000 in
theorem neigh_6 (a b : List S77) (A B : Option Addr) (c d : Nat) (sep : ByteArray) (level : Int) (x : S77) (w : World) (HSANE : Aside0 (Say w 15 #[] (.bool true))) (HFEW : Aside0 (Ans3 w A a.length c B b.length d x true)) (HOA : Aside0 (Say w 16 #[.slice A a.length c, .int .i64 level] (.bool true))) (HOB : Aside0 (Say w 16 #[.slice B b.length d, .int .i64 level] (.bool true))) (HEA : Aside0 (Say w 49 #[.slice A a.length c, .int .i64 level] (.bool true))) (HEB : Aside0 (Say w 49 #[.slice B b.length d, .int .i64 level] (.bool true)))
    (rB fB eB kB : Bool) (H46 : Aside0 (Say w 46 #[.slice A a.length c, .int .i64 level] (.bool rB))) (H47 : Aside0 (Say w 47 #[.slice A a.length c, .int .i64 level] (.bool fB)))
    (H49 : Aside0 (∀ w1 gE, Below w.heap.size w w1 → w1.heap[gE]? = some (.cells (entC x) 77 (0, 0)) → Calls Try.prog 49 #[.slice (some ⟨gE, 0, none⟩) 1 1, .int .i64 level] w1 fun e w2 => e = .returned (.bool eB) ∧ Below w1.heap.size w1 w2)) (hkey : (x.f0.toList == ([] : List UInt8)) = !kB)
    (ONE : List S77) (n1 m1 : Nat) (E1 : Int) (o1 : Bool) (HPUT : Aside0 (SayL w 50 #[.slice A a.length c, .agg (entC x)] (fun v => v) ONE))
    (HPK1 : Aside0 (∀ (W : World) A1 c1, Kd.C k77 W A1 ONE.length ONE → ONE.length ≤ c1 → Calls Try.prog 39 #[.slice A1 ONE.length c1, .int .i64 level] W fun e w2 => ∃ A5 c5 A6 c6, e = .returned (.tuple #[.slice A5 n1 c5, .slice A6 m1 c6, .int .i64 E1]) ∧ Below W.heap.size W w2))
    (HOR1 : Aside0 (∀ (W : World) A1 c1, Kd.C k77 W A1 ONE.length ONE → ONE.length ≤ c1 → Calls Try.prog 16 #[.slice A1 ONE.length c1, .int .i64 level] W fun e w2 => e = .returned (.bool o1) ∧ Below W.heap.size W w2))
    (HONE : Aside0 ((rB && (fB && (eB && kB))) = true → o1 = true → E1 = 0 ∧ n1 ≤ 2))
    (la lb bt sa sb : Bool) (H51a : Aside0 (Say w 51 #[.slice A a.length c, .int .i64 level] (.bool la))) (H51b : Aside0 (Say w 51 #[.slice B b.length d, .int .i64 level] (.bool lb))) (H52 : Aside0 (Say w 52 #[.slice A a.length c, .slice B b.length d, .string sep, .int .i64 level] (.bool bt))) (H20a : Aside0 (Say w 20 #[.slice A a.length c, .int .i64 level] (.bool sa))) (H20b : Aside0 (Say w 20 #[.slice B b.length d, .int .i64 level] (.bool sb)))
    (L : List S77) (P : List (List S77)) (m2 : Nat) (HCMB : Aside0 (SayL w 48 #[.slice A a.length c, .slice B b.length d, .string sep, .int .i64 level] (fun v => v) L)) (HRC : Aside0 (SayL w 53 #[.slice A a.length c, .slice B b.length d, .string sep, .int .i64 level] (fun v => v) L))
    (HSM : Aside0 (∀ (W : World) A1 A2 c1 c2, Kd.C k77 W A1 L.length L → Kd.C k77 W A2 L.length L → Calls Try.prog 37 #[.slice A1 L.length c1, .slice A2 L.length c2] W fun e w2 => e = .returned (.bool true) ∧ Below W.heap.size W w2))
    (HPK2 : Aside0 ((la && (lb && (bt && (sa || sb)))) = true → (P.length ≤ 2 ∧ (0 < P.length → m2 + 1 = P.length)) ∧ ∀ (W : World) A1 c1, Kd.C k77 W A1 L.length L → L.length ≤ c1 → Calls Try.prog 39 #[.slice A1 L.length c1, .int .i64 level] W fun e w2 => ∃ A5 c5 A6 c6, e = .returned (.tuple #[.slice A5 P.length c5, .slice A6 m2 c6, .int .i64 0]) ∧ kN.C w2 A5 P.length P ∧ Below W.heap.size W w2))
    (HSMALL : Aside0 ((la && (lb && (bt && (sa || sb)))) = true → ∀ i, i < P.length → 2 ≤ P.length → ∀ (W : World) A0 c0, Kd.C k77 W A0 (P.getD i []).length (P.getD i []) → (P.getD i []).length ≤ c0 → Calls Try.prog 20 #[.slice A0 (P.getD i []).length c0, .int .i64 level] W fun e w2 => e = .returned (.bool false) ∧ Below W.heap.size W w2)) :
    Calls Try.prog 10 #[.slice A a.length c, .slice B b.length d, .string sep, .int .i64 level, .agg (entC x)] w fun e w' => e = .returned (.bool true) ∧ Below w.heap.size w w' := by
  go_enter Try.func10, Try.ntmps10
  go_upto_region 3 with (first
    | ((with_reducible refine gate_dst (N := 9) rfl ?_); refine box_event (hgd := rfl) (N := 9) rfl (cs := entC x) (t := 77) (by go_simp) ?_; intro g hg_ w1 HG hb; (subst hg_); have HD := Aside0.mk (show Hd w w.heap.size (entC x) w1 from ⟨HG, hb⟩); have HB := Aside0.mk hb; clear HG hb)
    | ((with_reducible refine gate_dst (N := 21) rfl ?_); refine wpList_load_hd (w0 := w) (g := w.heap.size) (x := x) HD.out rfl (.tmp 9) rfl rfl ?_; dsimp only [entC])
    | ((go_at_call 14); (with_reducible refine (HFEW.out _ _ w1.heap.size ?hb ?hg ?hgE).mono ?_); (case hb => exact below_alloc (below_alloc HB.out _) _); (case hg => exact blk_new2 _ _ _); (case hgE => exact blk_alloc (blk_new _ _) _); rintro e w9 ⟨rfl, hbl⟩; have HDn := Aside0.mk (hd_call (hd_alloc (hd_alloc HD.out _) _) hbl); have HBn := Aside0.mk (below_tr2 (w := w) (below_alloc (below_alloc HB.out _) _) hbl); (clear HD HB hbl); have HD := HDn; have HB := HBn; clear HDn HBn)
    | ((go_at_call 16); (with_reducible refine (HOA.out _ HB.out).mono ?_); rintro e w9 ⟨rfl, hbl⟩; have HDn := Aside0.mk (hd_call HD.out hbl); have HBn := Aside0.mk (below_tr2 (w := w) HB.out hbl); (clear HD HB hbl); have HD := HDn; have HB := HBn; clear HDn HBn)
    | ((go_at_call 16); (with_reducible refine (HOB.out _ HB.out).mono ?_); rintro e w9 ⟨rfl, hbl⟩; have HDn := Aside0.mk (hd_call HD.out hbl); have HBn := Aside0.mk (below_tr2 (w := w) HB.out hbl); (clear HD HB hbl); have HD := HDn; have HB := HBn; clear HDn HBn)
    | ((go_at_call 49); (with_reducible refine (HEA.out _ HB.out).mono ?_); rintro e w9 ⟨rfl, hbl⟩; have HDn := Aside0.mk (hd_call HD.out hbl); have HBn := Aside0.mk (below_tr2 (w := w) HB.out hbl); (clear HD HB hbl); have HD := HDn; have HB := HBn; clear HDn HBn)
    | ((go_at_call 49); (with_reducible refine (HEB.out _ HB.out).mono ?_); rintro e w9 ⟨rfl, hbl⟩; have HDn := Aside0.mk (hd_call HD.out hbl); have HBn := Aside0.mk (below_tr2 (w := w) HB.out hbl); (clear HD HB hbl); have HD := HDn; have HB := HBn; clear HDn HBn)
    )
  clear HFEW HOA HOB HEA HEB
  go_cut [69] (fun v69 wc => v69 = .bool (rB && (fB && (eB && kB))) ∧ Aside0 (Below w.heap.size w wc) ∧ Aside0 (Hd w w.heap.size (entC x) wc))
  case first =>
    cases rB with
    | false =>
      go_wp2_with (first | ((go_at_call 46); (with_reducible refine (H46.out _ HB.out).mono ?_); rintro e w9 ⟨rfl, hbl⟩; have HDn := Aside0.mk (hd_call HD.out hbl); have HBn := Aside0.mk (below_tr2 (w := w) HB.out hbl); (clear HD HB hbl); have HD := HDn; have HB := HBn; clear HDn HBn))
      go_meet
      exact ⟨rfl, HB, HD⟩
    | true =>
      cases fB with
      | false =>
        go_wp2_with (first | ((go_at_call 46); (with_reducible refine (H46.out _ HB.out).mono ?_); rintro e w9 ⟨rfl, hbl⟩; have HDn := Aside0.mk (hd_call HD.out hbl); have HBn := Aside0.mk (below_tr2 (w := w) HB.out hbl); (clear HD HB hbl); have HD := HDn; have HB := HBn; clear HDn HBn) | ((go_at_call 47); (with_reducible refine (H47.out _ HB.out).mono ?_); rintro e w9 ⟨rfl, hbl⟩; have HDn := Aside0.mk (hd_call HD.out hbl); have HBn := Aside0.mk (below_tr2 (w := w) HB.out hbl); (clear HD HB hbl); have HD := HDn; have HB := HBn; clear HDn HBn))
        go_meet
        exact ⟨rfl, HB, HD⟩
      | true =>
        cases eB with
        | false =>
          go_wp2_with (first | ((go_at_call 46); (with_reducible refine (H46.out _ HB.out).mono ?_); rintro e w9 ⟨rfl, hbl⟩; have HDn := Aside0.mk (hd_call HD.out hbl); have HBn := Aside0.mk (below_tr2 (w := w) HB.out hbl); (clear HD HB hbl); have HD := HDn; have HB := HBn; clear HDn HBn) | ((go_at_call 47); (with_reducible refine (H47.out _ HB.out).mono ?_); rintro e w9 ⟨rfl, hbl⟩; have HDn := Aside0.mk (hd_call HD.out hbl); have HBn := Aside0.mk (below_tr2 (w := w) HB.out hbl); (clear HD HB hbl); have HD := HDn; have HB := HBn; clear HDn HBn) | ((with_reducible refine gate_dst (N := 60) rfl ?_); refine wpList_load_hd (w0 := w) (g := w.heap.size) (x := x) HD.out (by rfl) (.tmp 9) rfl rfl ?_; dsimp only [entC]) | ((go_at_call 49); (with_reducible refine (H49.out _ _ ?hb ?hgE).mono ?_); (case hb => exact below_alloc HB.out _); (case hgE => exact blk_new _ _); rintro e w9 ⟨rfl, hbl⟩; have HDn := Aside0.mk (hd_call (hd_alloc HD.out _) hbl); have HBn := Aside0.mk (below_tr2 (w := w) (below_alloc HB.out _) hbl); (clear HD HB hbl); have HD := HDn; have HB := HBn; clear HDn HBn; have ck := hd_key HD.out))
          go_meet
          exact ⟨rfl, HB, HD⟩
        | true =>
          cases kB with
          | false =>
            have hkey2 : (x.f0.toList == ([] : List UInt8)) = true := hkey
            go_wp2_with (first | ((go_at_call 46); (with_reducible refine (H46.out _ HB.out).mono ?_); rintro e w9 ⟨rfl, hbl⟩; have HDn := Aside0.mk (hd_call HD.out hbl); have HBn := Aside0.mk (below_tr2 (w := w) HB.out hbl); (clear HD HB hbl); have HD := HDn; have HB := HBn; clear HDn HBn) | ((go_at_call 47); (with_reducible refine (H47.out _ HB.out).mono ?_); rintro e w9 ⟨rfl, hbl⟩; have HDn := Aside0.mk (hd_call HD.out hbl); have HBn := Aside0.mk (below_tr2 (w := w) HB.out hbl); (clear HD HB hbl); have HD := HDn; have HB := HBn; clear HDn HBn) | ((with_reducible refine gate_dst (N := 60) rfl ?_); refine wpList_load_hd (w0 := w) (g := w.heap.size) (x := x) HD.out (by rfl) (.tmp 9) rfl rfl ?_; dsimp only [entC]) | ((go_at_call 49); (with_reducible refine (H49.out _ _ ?hb ?hgE).mono ?_); (case hb => exact below_alloc HB.out _); (case hgE => exact blk_new _ _); rintro e w9 ⟨rfl, hbl⟩; have HDn := Aside0.mk (hd_call (hd_alloc HD.out _) hbl); have HBn := Aside0.mk (below_tr2 (w := w) (below_alloc HB.out _) hbl); (clear HD HB hbl); have HD := HDn; have HB := HBn; clear HDn HBn; have ck := hd_key HD.out))
            go_meet
            exact ⟨rfl, HB, HD⟩
          | true =>
            have hkey2 : (x.f0.toList == ([] : List UInt8)) = false := hkey
            go_wp2_with (first | ((go_at_call 46); (with_reducible refine (H46.out _ HB.out).mono ?_); rintro e w9 ⟨rfl, hbl⟩; have HDn := Aside0.mk (hd_call HD.out hbl); have HBn := Aside0.mk (below_tr2 (w := w) HB.out hbl); (clear HD HB hbl); have HD := HDn; have HB := HBn; clear HDn HBn) | ((go_at_call 47); (with_reducible refine (H47.out _ HB.out).mono ?_); rintro e w9 ⟨rfl, hbl⟩; have HDn := Aside0.mk (hd_call HD.out hbl); have HBn := Aside0.mk (below_tr2 (w := w) HB.out hbl); (clear HD HB hbl); have HD := HDn; have HB := HBn; clear HDn HBn) | ((with_reducible refine gate_dst (N := 60) rfl ?_); refine wpList_load_hd (w0 := w) (g := w.heap.size) (x := x) HD.out (by rfl) (.tmp 9) rfl rfl ?_; dsimp only [entC]) | ((go_at_call 49); (with_reducible refine (H49.out _ _ ?hb ?hgE).mono ?_); (case hb => exact below_alloc HB.out _); (case hgE => exact blk_new _ _); rintro e w9 ⟨rfl, hbl⟩; have HDn := Aside0.mk (hd_call (hd_alloc HD.out _) hbl); have HBn := Aside0.mk (below_tr2 (w := w) (below_alloc HB.out _) hbl); (clear HD HB hbl); have HD := HDn; have HB := HBn; clear HDn HBn; have ck := hd_key HD.out))
            go_meet
            exact ⟨rfl, HB, HD⟩
  case rest =>
    (try clear HD HB)
    obtain ⟨rfl, HB, HD⟩ := hcut
    clear H46 H47 H49 hkey
    go_upto_if 69 with (fail)
    go_cut [] (fun wc => Aside0 (Below w.heap.size w wc) ∧ Aside0 (Hd w w.heap.size (entC x) wc))
    case first =>
      obtain ⟨G1, hG1⟩ : ∃ G1, (rB && (fB && (eB && kB))) = G1 := ⟨_, rfl⟩
      rw [hG1] at HONE ⊢
      clear hG1
      cases G1 with
      | false =>
        go_wp2_with fail
        go_meet
        exact ⟨HB, HD⟩
      | true =>
        cases o1 with
        | false =>
          go_wp2_with (first | ((go_at_call 50); (with_reducible refine (HPUT.out _ HB.out).mono ?_); rintro e w9 ⟨v1, rfl, ho, hbl⟩; obtain ⟨A1, c1, rfl⟩ := Kd.R_slice ho; have HO := Aside0.mk ho; have HDn := Aside0.mk (hd_call HD.out hbl); have HBn := Aside0.mk (below_tr2 (w := w) HB.out hbl); (clear HD HB hbl); have HD := HDn; have HB := HBn; clear HDn HBn; clear ho) | ((with_reducible refine gate_dst (N := 71) rfl ?_); refine wpList_load_hd (w0 := w) (g := w.heap.size) (x := x) HD.out rfl (.tmp 9) rfl rfl ?_) | ((go_at_call 39); (with_reducible refine (HPK1.out _ A1 c1 (Kd.R_reads' HO.out).2.2 (Kd.R_reads' HO.out).2.1).mono ?_); rintro e w9 ⟨A5, c5, A6, c6, rfl, hbl⟩; have HOn := Aside0.mk (Kd.R_below HO.out hbl); have HDn := Aside0.mk (hd_call HD.out hbl); have HBn := Aside0.mk (below_tr2 (w := w) HB.out hbl); (clear HD HB hbl); have HD := HDn; have HB := HBn; clear HDn HBn; clear HO; have HO := HOn; clear HOn) | ((go_at_call 16); (with_reducible refine (HOR1.out _ A1 c1 (Kd.R_reads' HO.out).2.2 (Kd.R_reads' HO.out).2.1).mono ?_); rintro e w9 ⟨rfl, hbl⟩; have HDn := Aside0.mk (hd_call HD.out hbl); have HBn := Aside0.mk (below_tr2 (w := w) HB.out hbl); (clear HD HB hbl); have HD := HDn; have HB := HBn; clear HDn HBn; clear HO))
          go_meet
          exact ⟨HB, HD⟩
        | true =>
          obtain ⟨rfl, hn1⟩ := HONE.out rfl rfl
          have d0 : decide ((n1 : Int) > 2) = false := decide_eq_false (by omega)
          have d1 : decide ((2 : Int) < (n1 : Int)) = false := decide_eq_false (by omega)
          have d2 : decide (2 < n1) = false := decide_eq_false (by omega)
          clear hn1
          go_wp2_with (first | ((go_at_call 50); (with_reducible refine (HPUT.out _ HB.out).mono ?_); rintro e w9 ⟨v1, rfl, ho, hbl⟩; obtain ⟨A1, c1, rfl⟩ := Kd.R_slice ho; have HO := Aside0.mk ho; have HDn := Aside0.mk (hd_call HD.out hbl); have HBn := Aside0.mk (below_tr2 (w := w) HB.out hbl); (clear HD HB hbl); have HD := HDn; have HB := HBn; clear HDn HBn; clear ho) | ((with_reducible refine gate_dst (N := 71) rfl ?_); refine wpList_load_hd (w0 := w) (g := w.heap.size) (x := x) HD.out rfl (.tmp 9) rfl rfl ?_) | ((go_at_call 39); (with_reducible refine (HPK1.out _ A1 c1 (Kd.R_reads' HO.out).2.2 (Kd.R_reads' HO.out).2.1).mono ?_); rintro e w9 ⟨A5, c5, A6, c6, rfl, hbl⟩; have HOn := Aside0.mk (Kd.R_below HO.out hbl); have HDn := Aside0.mk (hd_call HD.out hbl); have HBn := Aside0.mk (below_tr2 (w := w) HB.out hbl); (clear HD HB hbl); have HD := HDn; have HB := HBn; clear HDn HBn; clear HO; have HO := HOn; clear HOn) | ((go_at_call 16); (with_reducible refine (HOR1.out _ A1 c1 (Kd.R_reads' HO.out).2.2 (Kd.R_reads' HO.out).2.1).mono ?_); rintro e w9 ⟨rfl, hbl⟩; have HDn := Aside0.mk (hd_call HD.out hbl); have HBn := Aside0.mk (below_tr2 (w := w) HB.out hbl); (clear HD HB hbl); have HD := HDn; have HB := HBn; clear HDn HBn; clear HO))
          go_meet
          exact ⟨HB, HD⟩
    case rest =>
      (try clear HD HB)
      obtain ⟨HB, HD⟩ := hcut
      clear HPUT HPK1 HOR1 HONE HD
      go_upto_region 8 with (fail)
      go_cut [121] (fun v121 wc => v121 = .bool (!(la && (lb && (bt && (sa || sb))))) ∧ Aside0 (Below w.heap.size w wc))
      case first =>
        cases la with
        | false =>
          go_wp2_with (first | ((go_at_call 51); (with_reducible refine (H51a.out _ HB.out).mono ?_); rintro e w9 ⟨rfl, hbl⟩; have HBn := Aside0.mk (below_tr2 (w := w) HB.out hbl); (clear HB hbl); have HB := HBn; clear HBn))
          go_meet
          exact ⟨rfl, HB⟩
        | true =>
          cases lb with
          | false =>
            go_wp2_with (first | ((go_at_call 51); (with_reducible refine (H51a.out _ HB.out).mono ?_); rintro e w9 ⟨rfl, hbl⟩; have HBn := Aside0.mk (below_tr2 (w := w) HB.out hbl); (clear HB hbl); have HB := HBn; clear HBn) | ((go_at_call 51); (with_reducible refine (H51b.out _ HB.out).mono ?_); rintro e w9 ⟨rfl, hbl⟩; have HBn := Aside0.mk (below_tr2 (w := w) HB.out hbl); (clear HB hbl); have HB := HBn; clear HBn))
            go_meet
            exact ⟨rfl, HB⟩
          | true =>
            cases bt with
            | false =>
              go_wp2_with (first | ((go_at_call 51); (with_reducible refine (H51a.out _ HB.out).mono ?_); rintro e w9 ⟨rfl, hbl⟩; have HBn := Aside0.mk (below_tr2 (w := w) HB.out hbl); (clear HB hbl); have HB := HBn; clear HBn) | ((go_at_call 51); (with_reducible refine (H51b.out _ HB.out).mono ?_); rintro e w9 ⟨rfl, hbl⟩; have HBn := Aside0.mk (below_tr2 (w := w) HB.out hbl); (clear HB hbl); have HB := HBn; clear HBn) | ((go_at_call 52); (with_reducible refine (H52.out _ HB.out).mono ?_); rintro e w9 ⟨rfl, hbl⟩; have HBn := Aside0.mk (below_tr2 (w := w) HB.out hbl); (clear HB hbl); have HB := HBn; clear HBn))
              go_meet
              exact ⟨rfl, HB⟩
            | true =>
              cases sa with
              | false =>
                cases sb with
                | false =>
                  go_wp2_with (first | ((go_at_call 51); (with_reducible refine (H51a.out _ HB.out).mono ?_); rintro e w9 ⟨rfl, hbl⟩; have HBn := Aside0.mk (below_tr2 (w := w) HB.out hbl); (clear HB hbl); have HB := HBn; clear HBn) | ((go_at_call 51); (with_reducible refine (H51b.out _ HB.out).mono ?_); rintro e w9 ⟨rfl, hbl⟩; have HBn := Aside0.mk (below_tr2 (w := w) HB.out hbl); (clear HB hbl); have HB := HBn; clear HBn) | ((go_at_call 52); (with_reducible refine (H52.out _ HB.out).mono ?_); rintro e w9 ⟨rfl, hbl⟩; have HBn := Aside0.mk (below_tr2 (w := w) HB.out hbl); (clear HB hbl); have HB := HBn; clear HBn) | ((go_at_call 20); (with_reducible refine (H20a.out _ HB.out).mono ?_); rintro e w9 ⟨rfl, hbl⟩; have HBn := Aside0.mk (below_tr2 (w := w) HB.out hbl); (clear HB hbl); have HB := HBn; clear HBn) | ((go_at_call 20); (with_reducible refine (H20b.out _ HB.out).mono ?_); rintro e w9 ⟨rfl, hbl⟩; have HBn := Aside0.mk (below_tr2 (w := w) HB.out hbl); (clear HB hbl); have HB := HBn; clear HBn))
                  go_meet
                  exact ⟨rfl, HB⟩
                | true =>
                  go_wp2_with (first | ((go_at_call 51); (with_reducible refine (H51a.out _ HB.out).mono ?_); rintro e w9 ⟨rfl, hbl⟩; have HBn := Aside0.mk (below_tr2 (w := w) HB.out hbl); (clear HB hbl); have HB := HBn; clear HBn) | ((go_at_call 51); (with_reducible refine (H51b.out _ HB.out).mono ?_); rintro e w9 ⟨rfl, hbl⟩; have HBn := Aside0.mk (below_tr2 (w := w) HB.out hbl); (clear HB hbl); have HB := HBn; clear HBn) | ((go_at_call 52); (with_reducible refine (H52.out _ HB.out).mono ?_); rintro e w9 ⟨rfl, hbl⟩; have HBn := Aside0.mk (below_tr2 (w := w) HB.out hbl); (clear HB hbl); have HB := HBn; clear HBn) | ((go_at_call 20); (with_reducible refine (H20a.out _ HB.out).mono ?_); rintro e w9 ⟨rfl, hbl⟩; have HBn := Aside0.mk (below_tr2 (w := w) HB.out hbl); (clear HB hbl); have HB := HBn; clear HBn) | ((go_at_call 20); (with_reducible refine (H20b.out _ HB.out).mono ?_); rintro e w9 ⟨rfl, hbl⟩; have HBn := Aside0.mk (below_tr2 (w := w) HB.out hbl); (clear HB hbl); have HB := HBn; clear HBn))
                  go_meet
                  exact ⟨rfl, HB⟩
              | true =>
                go_wp2_with (first | ((go_at_call 51); (with_reducible refine (H51a.out _ HB.out).mono ?_); rintro e w9 ⟨rfl, hbl⟩; have HBn := Aside0.mk (below_tr2 (w := w) HB.out hbl); (clear HB hbl); have HB := HBn; clear HBn) | ((go_at_call 51); (with_reducible refine (H51b.out _ HB.out).mono ?_); rintro e w9 ⟨rfl, hbl⟩; have HBn := Aside0.mk (below_tr2 (w := w) HB.out hbl); (clear HB hbl); have HB := HBn; clear HBn) | ((go_at_call 52); (with_reducible refine (H52.out _ HB.out).mono ?_); rintro e w9 ⟨rfl, hbl⟩; have HBn := Aside0.mk (below_tr2 (w := w) HB.out hbl); (clear HB hbl); have HB := HBn; clear HBn) | ((go_at_call 20); (with_reducible refine (H20a.out _ HB.out).mono ?_); rintro e w9 ⟨rfl, hbl⟩; have HBn := Aside0.mk (below_tr2 (w := w) HB.out hbl); (clear HB hbl); have HB := HBn; clear HBn))
                go_meet
                exact ⟨rfl, HB⟩
      case rest =>
        (try clear HB)
        obtain ⟨rfl, HB⟩ := hcut
        clear H51a H51b H52 H20a H20b
        obtain ⟨G2, hG2⟩ : ∃ G2, (la && (lb && (bt && (sa || sb)))) = G2 := ⟨_, rfl⟩
        rw [hG2] at HPK2 HSMALL ⊢
        clear hG2
        cases G2 with
        | false =>
          go_wp2_with (first | ((go_at_call 15); (with_reducible refine (HSANE.out _ HB.out).mono ?_); rintro e w9 ⟨rfl, hbl⟩; have HBn := Aside0.mk (below_tr2 (w := w) HB.out hbl); (clear HB hbl); have HB := HBn; clear HBn))
          go_ret
          exact ⟨rfl, HB.out⟩
        | true =>
          obtain ⟨hp2, hpc⟩ := HPK2.out rfl
          have HPC := Aside0.mk hpc
          have HSL := Aside0.mk (HSMALL.out rfl)
          obtain ⟨hpl, hpm⟩ := hp2
          clear hpc HPK2 HSMALL
          have d3 : decide ((P.length : Int) > 2) = false := decide_eq_false (by omega)
          have d4 : decide ((2 : Int) < (P.length : Int)) = false := decide_eq_false (by omega)
          have d5 : decide (2 < P.length) = false := decide_eq_false (by omega)
          by_cases h0 : P.length = 0
          · have d6 : decide ((P.length : Int) > 0) = false := decide_eq_false (by omega)
            have d7 : decide (0 < (P.length : Int)) = false := decide_eq_false (by omega)
            have d8 : decide (0 < P.length) = false := decide_eq_false (by omega)
            have d9 : decide ((P.length : Int) < 2) = true := decide_eq_true (by omega)
            have d10 : decide (P.length < 2) = true := decide_eq_true (by omega)
            clear HSL hpl hpm h0
            go_wp2_with (first | ((go_at_call 48); (with_reducible refine (HCMB.out _ HB.out).mono ?_); rintro e wa ⟨v1, rfl, ho, hbl⟩; obtain ⟨A1, c1, rfl⟩ := Kd.R_slice ho; have HO := Aside0.mk ho; have HBn := Aside0.mk (below_tr2 (w := w) HB.out hbl); (clear HB hbl); have HB := HBn; clear HBn; clear ho) | ((go_at_call 53); (with_reducible refine (HRC.out _ HB.out).mono ?_); rintro e wb ⟨v2, rfl, ho, hbl⟩; obtain ⟨A2, c2, rfl⟩ := Kd.R_slice ho; have HO2 := Aside0.mk ho; have HOn := Aside0.mk (Kd.R_below HO.out hbl); have HBn := Aside0.mk (below_tr2 (w := w) HB.out hbl); (clear HB hbl); have HB := HBn; clear HBn; clear ho HO; have HO := HOn; clear HOn) | ((go_at_call 37); (with_reducible refine (HSM.out _ A1 A2 c1 c2 (Kd.R_reads' HO.out).2.2 (Kd.R_reads' HO2.out).2.2).mono ?_); rintro e wd ⟨rfl, hbl⟩; have HOn := Aside0.mk (Kd.R_below HO.out hbl); have HBn := Aside0.mk (below_tr2 (w := w) HB.out hbl); (clear HB hbl); have HB := HBn; clear HBn; clear HO HO2; have HO := HOn; clear HOn) | ((go_at_call 39); (with_reducible refine (HPC.out _ A1 c1 (Kd.R_reads' HO.out).2.2 (Kd.R_reads' HO.out).2.1).mono ?_); rintro e w5 ⟨A5, c5, A6, c6, rfl, hP, hbl⟩; have HP := Aside0.mk hP; have HBn := Aside0.mk (below_tr2 (w := w) HB.out hbl); (clear HB hbl); have HB := HBn; clear HBn; clear HO hP) | ((go_at_call 15); (with_reducible refine (HSANE.out _ HB.out).mono ?_); rintro e w9 ⟨rfl, hbl⟩; have HBn := Aside0.mk (below_tr2 (w := w) HB.out hbl); (clear HB hbl); have HB := HBn; clear HBn))
            go_ret
            exact ⟨rfl, HB.out⟩
          · by_cases h1 : P.length = 1
            · have hmm := hpm (by omega)
              have hwp : wrap64 ((P.length : Int) - 1) = (m2 : Int) := w_pred P.length m2 (by omega) (by omega)
              have d11 : decide ((P.length : Int) > 0) = true := decide_eq_true (by clear hwp; omega)
              have d12 : decide (0 < (P.length : Int)) = true := decide_eq_true (by clear hwp; omega)
              have d13 : decide (0 < P.length) = true := decide_eq_true (by clear hwp; omega)
              have d14 : decide ((P.length : Int) < 2) = true := decide_eq_true (by clear hwp; omega)
              have d15 : decide (P.length < 2) = true := decide_eq_true (by clear hwp; omega)
              clear HSL hpl hpm hmm h0 h1
              go_wp2_with (first | ((go_at_call 48); (with_reducible refine (HCMB.out _ HB.out).mono ?_); rintro e wa ⟨v1, rfl, ho, hbl⟩; obtain ⟨A1, c1, rfl⟩ := Kd.R_slice ho; have HO := Aside0.mk ho; have HBn := Aside0.mk (below_tr2 (w := w) HB.out hbl); (clear HB hbl); have HB := HBn; clear HBn; clear ho) | ((go_at_call 53); (with_reducible refine (HRC.out _ HB.out).mono ?_); rintro e wb ⟨v2, rfl, ho, hbl⟩; obtain ⟨A2, c2, rfl⟩ := Kd.R_slice ho; have HO2 := Aside0.mk ho; have HOn := Aside0.mk (Kd.R_below HO.out hbl); have HBn := Aside0.mk (below_tr2 (w := w) HB.out hbl); (clear HB hbl); have HB := HBn; clear HBn; clear ho HO; have HO := HOn; clear HOn) | ((go_at_call 37); (with_reducible refine (HSM.out _ A1 A2 c1 c2 (Kd.R_reads' HO.out).2.2 (Kd.R_reads' HO2.out).2.2).mono ?_); rintro e wd ⟨rfl, hbl⟩; have HOn := Aside0.mk (Kd.R_below HO.out hbl); have HBn := Aside0.mk (below_tr2 (w := w) HB.out hbl); (clear HB hbl); have HB := HBn; clear HBn; clear HO HO2; have HO := HOn; clear HOn) | ((go_at_call 39); (with_reducible refine (HPC.out _ A1 c1 (Kd.R_reads' HO.out).2.2 (Kd.R_reads' HO.out).2.1).mono ?_); rintro e w5 ⟨A5, c5, A6, c6, rfl, hP, hbl⟩; have HP := Aside0.mk hP; have HBn := Aside0.mk (below_tr2 (w := w) HB.out hbl); (clear HB hbl); have HB := HBn; clear HBn; clear HO hP) | ((go_at_call 15); (with_reducible refine (HSANE.out _ HB.out).mono ?_); rintro e w9 ⟨rfl, hbl⟩; have HBn := Aside0.mk (below_tr2 (w := w) HB.out hbl); (clear HB hbl); have HB := HBn; clear HBn))
              go_ret
              exact ⟨rfl, HB.out⟩
            · have hmm := hpm (by omega)
              have hwp : wrap64 ((P.length : Int) - 1) = (m2 : Int) := w_pred P.length m2 (by omega) (by omega)
              have d16 : decide ((P.length : Int) > 0) = true := decide_eq_true (by clear hwp; omega)
              have d17 : decide (0 < (P.length : Int)) = true := decide_eq_true (by clear hwp; omega)
              have d18 : decide (0 < P.length) = true := decide_eq_true (by clear hwp; omega)
              have d19 : decide ((P.length : Int) < 2) = false := decide_eq_false (by clear hwp; omega)
              have d20 : decide (P.length < 2) = false := decide_eq_false (by clear hwp; omega)
              have HI0 := Aside0.mk (show (0 : Int) < (P.length : Int) by clear hwp; omega)
              have HI1 := Aside0.mk (show (1 : Int) < (P.length : Int) by clear hwp; omega)
              have HS0 := Aside0.mk (fun (W : World) A0 c0 (h : Kd.C k77 W A0 (rd_L5 P 0).length (rd_L5 P 0)) (h2 : (rd_L5 P 0).length ≤ c0) => (show Calls Try.prog 20 #[.slice A0 (rd_L5 P 0).length c0, .int .i64 level] W fun e w2 => e = .returned (.bool false) ∧ Below W.heap.size W w2 from HSL.out 0 (by clear hwp; omega) (by clear hwp; omega) W A0 c0 h h2))
              have HS1 := Aside0.mk (fun (W : World) A0 c0 (h : Kd.C k77 W A0 (rd_L5 P 1).length (rd_L5 P 1)) (h2 : (rd_L5 P 1).length ≤ c0) => (show Calls Try.prog 20 #[.slice A0 (rd_L5 P 1).length c0, .int .i64 level] W fun e w2 => e = .returned (.bool false) ∧ Below W.heap.size W w2 from HSL.out 1 (by clear hwp; omega) (by clear hwp; omega) W A0 c0 h h2))
              have i0 := HI0.out
              have i1 := HI1.out
              clear HSL hpl hpm hmm h0 h1
              go_wp2_with (first | ((go_at_call 48); (with_reducible refine (HCMB.out _ HB.out).mono ?_); rintro e wa ⟨v1, rfl, ho, hbl⟩; obtain ⟨A1, c1, rfl⟩ := Kd.R_slice ho; have HO := Aside0.mk ho; have HBn := Aside0.mk (below_tr2 (w := w) HB.out hbl); (clear HB hbl); have HB := HBn; clear HBn; clear ho) | ((go_at_call 53); (with_reducible refine (HRC.out _ HB.out).mono ?_); rintro e wb ⟨v2, rfl, ho, hbl⟩; obtain ⟨A2, c2, rfl⟩ := Kd.R_slice ho; have HO2 := Aside0.mk ho; have HOn := Aside0.mk (Kd.R_below HO.out hbl); have HBn := Aside0.mk (below_tr2 (w := w) HB.out hbl); (clear HB hbl); have HB := HBn; clear HBn; clear ho HO; have HO := HOn; clear HOn) | ((go_at_call 37); (with_reducible refine (HSM.out _ A1 A2 c1 c2 (Kd.R_reads' HO.out).2.2 (Kd.R_reads' HO2.out).2.2).mono ?_); rintro e wd ⟨rfl, hbl⟩; have HOn := Aside0.mk (Kd.R_below HO.out hbl); have HBn := Aside0.mk (below_tr2 (w := w) HB.out hbl); (clear HB hbl); have HB := HBn; clear HBn; clear HO HO2; have HO := HOn; clear HOn) | ((go_at_call 39); (with_reducible refine (HPC.out _ A1 c1 (Kd.R_reads' HO.out).2.2 (Kd.R_reads' HO.out).2.1).mono ?_); rintro e w5 ⟨A5, c5, A6, c6, rfl, hP, hbl⟩; have HP := Aside0.mk hP; have HBn := Aside0.mk (below_tr2 (w := w) HB.out hbl); (clear HB hbl); have HB := HBn; clear HBn; clear HO hP; obtain ⟨ad, A0, c0, rfl, hc0, hl0, hC0⟩ := at_L5 HP.out (0 : Int) (by omega) HI0.out; obtain ⟨ad', A7, c7, he7, hc7, hl7, hC7⟩ := at_L5 HP.out (1 : Int) (by omega) HI1.out; obtain rfl := Option.some.inj he7; have HC0 := Aside0.mk hC0; have HL0 := Aside0.mk hl0; have HC7 := Aside0.mk hC7; have HL7 := Aside0.mk hl7; have HQ0 := Aside0.mk hc0; have HQ7 := Aside0.mk hc7; clear hC0 hl0 hC7 hl7 hc0 hc7 he7) | ((go_at_call 15); (with_reducible refine (HSANE.out _ HB.out).mono ?_); rintro e w6 ⟨rfl, hbl⟩; have HW := Aside0.mk hbl; have q0 : w6.cell? ad = some (.slice A0 (rd_L5 P 0).length c0) := (by have := cell_below HQ0.out hbl; rwa [show ad.add (0 : Int).toNat = ad from Addr.add_zero' _] at this); have q7 := (show w6.cell? ⟨ad.block, ad.off + 1, none⟩ = some (.slice A7 (rd_L5 P 1).length c7) by have h := cell_below HQ7.out hbl; have e := add_field ad 0 1 (by omega); rw [Addr.add_zero'] at e; rw [← e]; exact h); have HBn := Aside0.mk (below_tr2 (w := w) HB.out hbl); (clear HB hbl); have HB := HBn; clear HBn) | ((go_at_call 20); (with_reducible refine (HS0.out _ A0 c0 (Kd.C_below HC0.out HW.out) HL0.out).mono ?_); rintro e w7 ⟨rfl, hbl⟩; have HWn := Aside0.mk (below_tr2 (w := w5) HW.out hbl); have q7 := (show w7.cell? ⟨ad.block, ad.off + 1, none⟩ = some (.slice A7 (rd_L5 P 1).length c7) by have h := cell_below HQ7.out HWn.out; have e := add_field ad 0 1 (by omega); rw [Addr.add_zero'] at e; rw [← e]; exact h); have HBn := Aside0.mk (below_tr2 (w := w) HB.out hbl); (clear HB hbl); have HB := HBn; clear HBn; clear HW; have HW := HWn; clear HWn) | ((go_at_call 20); (with_reducible refine (HS1.out _ A7 c7 (Kd.C_below HC7.out HW.out) HL7.out).mono ?_); rintro e w8 ⟨rfl, hbl⟩; have HBn := Aside0.mk (below_tr2 (w := w) HB.out hbl); (clear HB hbl); have HB := HBn; clear HBn))
              go_ret
              exact ⟨rfl, HB.out⟩
end Go.Proofs.Ytalncokpbgbccaa.E

