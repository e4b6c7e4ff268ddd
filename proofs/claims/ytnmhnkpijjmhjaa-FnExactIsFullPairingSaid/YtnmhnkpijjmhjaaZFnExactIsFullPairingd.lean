/- Words and lemmas for FnExactIsFullPairing, part 4: what the row's text comes to. -/
import Derived.Test.YtnmhnkpijjmhjaaZFnExactIsFullPairingc
namespace Go.Proofs.Ytnmhnkpijjmhjaa.QS
open Go.Proofs.Ytnmhnkpijjmhjaa.Cw Go.Proofs.Ytnmhnkpijjmhjaa.Kp Go.Proofs.Ytnmhnkpijjmhjaa.Ext Go.RowKit Go.Proofs.YtnmhnkpijjmhjaaW.PrintWords Go.Proofs.YtnmhnkpijjmhjaaW.PrintLast Go.Proofs.YtnmhnkpijjmhjaaW.PrintMore
attribute [local go_sem] max2_int min2_int max_two min_two max_three min_three max_four min_four   -- for this text's walks alone
set_option linter.unusedVariables false
set_option linter.unusedSimpArgs false
mutual
def spec_l02Is.l0 : Nat → List (S76) → Int → Int → List Int → Option (Bool)
 | 0, _, _, _, _ => none
 | k + 1, x1, x5, x573000, x573001 => if x5 < (x1.length : Int) then (if 0 ≤ x5 then ((spec_l02Pair.f k x573000 x573001 ((rd_T76 x1 x5).f0) ((rd_T76 x1 x5).f1)).bind fun t574 => (if t574 = true then (if x5 > 0 then (if 0 ≤ (wrap64 (x5 - 1)) then (if (wrap64 (x5 - 1)) < (x1.length : Int) then ((spec_l02Less.f ((rd_T76 x1 (wrap64 (x5 - 1))).f0) ((rd_T76 x1 (wrap64 (x5 - 1))).f1) ((rd_T76 x1 x5).f0) ((rd_T76 x1 x5).f1)).bind fun t577 => (spec_l02Is.j1 k x1 x5 (!t577) x573000 x573001)) else (none)) else (none)) else (spec_l02Is.j1 k x1 x5 false x573000 x573001)) else (spec_l02Is.j1 k x1 x5 true x573000 x573001))) else (none)) else (some true)
def spec_l02Is.j1 : Nat → List (S76) → Int → Bool → Int → List Int → Option (Bool)
 | 0, _, _, _, _, _ => none
 | k + 1, x1, x5, x36, x573000, x573001 => if x36 = true then (some false) else (spec_l02Is.l1 k x1 x5 0 x573000 x573001)
def spec_l02Is.l1 : Nat → List (S76) → Int → Int → Int → List Int → Option (Bool)
 | 0, _, _, _, _, _ => none
 | k + 1, x1, x5, x6, x573000, x573001 => if x6 < x5 then (if 0 ≤ x5 then (if x5 < (x1.length : Int) then (if 0 ≤ x6 then (if x6 < (x1.length : Int) then (if ((rd_T76 x1 x5).f0) = ((rd_T76 x1 x6).f0) then (some false) else (if ((rd_T76 x1 x5).f0) = ((rd_T76 x1 x6).f1) then (some false) else (if ((rd_T76 x1 x5).f1) = ((rd_T76 x1 x6).f0) then (some false) else (if ((rd_T76 x1 x5).f1) = ((rd_T76 x1 x6).f1) then (some false) else (spec_l02Is.l1 k x1 x5 (wrap64 (x6 + 1)) x573000 x573001))))) else (none)) else (none)) else (none)) else (none)) else (spec_l02Is.l0 k x1 (wrap64 (x5 + 1)) x573000 x573001)
end
def spec_l02Is.f (k : Nat) (a0_0 : Int) (l0_1 : List Int) (l1 : List (S76)) : Option (Bool) := spec_l02Is.l0 k l1 0 a0_0 l0_1
def spec_l02Is.T4 : Bool × List (List Nat × List Nat) := (true, [([], []), ([], []), ([], []), ([1, 2], [1, 2]), ([3], [3]), ([0, 4], [0, 4]), ([5], [5]), ([6, 5], [6]), ([7], [7]), ([8, 7], [7, 8]), ([9, 7, 7], [7, 9]), ([10], [10]), ([10], [10]), ([12, 10], [10, 12]), ([11, 13, 10], [10, 11, 13]), ([14, 10], [10, 14]), ([10], [10]), ([10], [10]), ([16, 17, 10], [10, 16, 17]), ([18, 10], [10, 18]), ([15, 19, 10, 10], [10, 15, 19]), ([20, 10], [10, 20]), ([10, 21, 7], [7, 10, 21]), ([7, 22], [7, 22])])
def spec_l02Is.B4 : List Nat := [0, 0, 0, 6, 14, 31, 63, 127, 255, 511, 1023, 2047, 2047, 6143, 16383, 32767, 2047, 2047, 198655, 460799, 1048575, 2097151, 4194303, 8388607]
theorem spec_l02Is.tab4 : rtab .any (opsOf Try.f174 4) = spec_l02Is.T4 := by kernel_rfl
theorem spec_l02Is.bits4 : waitsOk spec_l02Is.T4.2 spec_l02Is.B4 = true := by kernel_rfl
def spec_l02Is.T9 : Bool × List (List Nat × List Nat) := (true, [([], []), ([], []), ([0, 1], [0, 1]), ([2], [2]), ([3], [3]), ([], []), ([], []), ([5, 6], [5, 6]), ([7], [7]), ([8], [8]), ([4, 9], [4, 9]), ([10], [10]), ([11], [11]), ([11], [11]), ([12, 13, 11], [11, 12, 13]), ([14, 11], [11, 14]), ([15, 11], [11, 15]), ([11], [11]), ([11], [11]), ([17, 18, 11], [11, 17, 18]), ([19, 11], [11, 19]), ([20, 11], [11, 20]), ([16, 21, 11], [11, 16, 21]), ([11, 22], [11, 22]), ([23, 11], [23]), ([24], [24]), ([24], [24]), ([25, 26, 24], [24, 25, 26]), ([27, 24], [24, 27]), ([28, 24], [24, 28]), ([24], [24]), ([24], [24]), ([30, 31, 24], [24, 30, 31]), ([32, 24], [24, 32]), ([33, 24], [24, 33]), ([29, 34, 24], [24, 29, 34]), ([24, 35], [24, 35]), ([36, 24], [36]), ([37], [37]), ([37], [37]), ([38, 39, 37], [37, 38, 39]), ([40, 37], [37, 40]), ([41, 37], [37, 41]), ([37], [37]), ([37], [37]), ([43, 44, 37], [37, 43, 44]), ([45, 37], [37, 45]), ([46, 37], [37, 46]), ([42, 47, 37], [37, 42, 47]), ([37, 48], [37, 48])])
def spec_l02Is.B9 : List Nat := [0, 0, 3, 7, 15, 0, 0, 96, 224, 480, 1023, 2047, 4095, 4095, 16383, 32767, 65535, 4095, 4095, 397311, 921599, 1970175, 4194303, 8388607, 16777215, 33554431, 33554431, 134217727, 268435455, 536870911, 33554431, 33554431, 3254779903, 7549747199, 16139681791, 34359738367, 68719476735, 137438953471, 274877906943, 274877906943, 1099511627775, 2199023255551, 4398046511103, 274877906943, 274877906943, 26663156973567, 61847529062399, 132216273240063, 281474976710655, 562949953421311]
theorem spec_l02Is.tab9 : rtab .any (opsOf Try.f174 9) = spec_l02Is.T9 := by kernel_rfl
theorem spec_l02Is.bits9 : waitsOk spec_l02Is.T9.2 spec_l02Is.B9 = true := by kernel_rfl
set_option maxHeartbeats 8000000 in
set_option maxRecDepth 100000 in
theorem spec_l02Is.calls (k : Nat) (a0_0 : Int) (A0_1 : Option Addr) (c0_1 : Nat) (l0_1 : List Int) (A1 : Option Addr) (c1 : Nat) (l1 : List (S76)) (r : Bool) (w : World) (hr0_1 : Kd.C (Kd.int .i64) w A0_1 l0_1.length l0_1) (hc0_1 : l0_1.length ≤ c0_1) (hr1 : Kd.C k76 w A1 l1.length l1) (hc1 : l1.length ≤ c1) (h : spec_l02Is.f k a0_0 l0_1 l1 = some r) :
  Calls Try.prog 174 #[.agg #[.int .i64 a0_0, .slice A0_1 l0_1.length c0_1], .slice A1 l1.length c1] w fun e w' => e = .returned (.bool r) ∧ Below w.heap.size w w' := by
 have hu26 := Try.underlying26
 have hu76 := Try.underlying76
 have HR0_1 := Aside0.mk hr0_1
 have HC0_1 := Aside0.mk hc0_1
 clear hr0_1 hc0_1
 have HR1 := Aside0.mk hr1
 have HC1 := Aside0.mk hc1
 clear hr1 hc1
 have HB := Aside0.mk (Below.refl w.heap.size w)
 have H : (spec_l02Is.l0 k l1 0 a0_0 l0_1) = some r := h
 clear h
 have H' := Aside0.mk H
 clear H
 go_enter Try.func174, Try.ntmps174
 go_wp2_with (first | ((with_reducible refine gate_dst (N := 2) rfl ?_); refine box_event ?hg (N := 2) ?hd (cs := #[.int .i64 a0_0, .slice A0_1 l0_1.length c0_1]) (t := 26) ?hr ?_; (case hd => rfl); (case hg => rfl); (case hr => first | (go_simp; done) | (go_simp; rfl)); intro gb572 hg w3 hbox hb; have BK572 := Aside0.mk (hbox); have GW572 := gH HB hg; have GE572 := gH HB hg; replace HB := sH HB hb; clear hb hbox hg))
 go_loopg [5] k (fun kq v5 w' => ∃ (x5_1 : Int), v5 = .int .i64 x5_1 ∧ Aside0 (spec_l02Is.l0 kq l1 x5_1 a0_0 l0_1 = some r) ∧ Aside0 (kq ≤ k) ∧ Aside0 (w'.heap[gb572]? = some (.cells #[.int .i64 a0_0, (.slice A0_1 l0_1.length c0_1)] 26 (0, 0))) ∧ Aside0 (Below w.heap.size w w'))
 case atStart => exact ⟨(0), (by first | rfl | (simp; done) | (simp [*]; done)), H', ⟨Nat.le_refl _⟩, ⟨pB BK572⟩, ⟨pH HB⟩⟩
 case round =>
  clear H'
  try clear c1
  try clear p2
  obtain ⟨x5_1, rfl, HA, HK1, BK572, HB⟩ := hrel
  cases gk with
  | zero => exact absurd HA.out (by simp [spec_l02Is.l0])
  | succ k1 =>
   have H := HA.out
   clear HA
   simp only [spec_l02Is.l0] at H
   by_cases c4 : x5_1 < (l1.length : Int)
   ·rw [if_pos c4] at H
    have c4b0 : decide (x5_1 < (l1.length : Int)) = true := decide_eq_true c4
    clear c4
    have HC5 := Aside0.mk H
    clear H
    go_upto_region 4 with (fail)
    go_cut [36] (fun v36 wc => ∃ (kq : Nat) (x36_4 : Bool), v36 = .bool x36_4 ∧ Aside0 (spec_l02Is.j1 kq l1 x5_1 x36_4 a0_0 l0_1 = some r) ∧ Aside0 (kq ≤ k1) ∧ Aside0 (wc.heap[gb572]? = some (.cells #[.int .i64 a0_0, (.slice A0_1 l0_1.length c0_1)] 26 (0, 0))) ∧ Aside0 (Below w.heap.size w wc))
    case first =>
     have H := HC5.out
     clear HC5
     by_cases c6 : 0 ≤ x5_1
     ·rw [if_pos c6] at H
      have c6b0 : decide (0 ≤ x5_1) = true := decide_eq_true c6
      clear c6
      (first | rw [c6b0] | (simp only [i64_w, i32_w]; rw [c6b0]) | skip)
      replace H := Option.bind_eq_some_iff.mp H
      obtain ⟨t574, A70, H⟩ := H
      try dsimp only at H
      have A7 := Aside0.mk A70
      clear A70
      by_cases c8 : t574 = true
      ·subst c8
       have H1 : (if x5_1 > 0 then (if 0 ≤ (wrap64 (x5_1 - 1)) then (if (wrap64 (x5_1 - 1)) < (l1.length : Int) then ((spec_l02Less.f ((rd_T76 l1 (wrap64 (x5_1 - 1))).f0) ((rd_T76 l1 (wrap64 (x5_1 - 1))).f1) ((rd_T76 l1 x5_1).f0) ((rd_T76 l1 x5_1).f1)).bind fun t577 => (spec_l02Is.j1 k1 l1 x5_1 (!t577) a0_0 l0_1)) else (none)) else (none)) else (spec_l02Is.j1 k1 l1 x5_1 false a0_0 l0_1)) = some r := by rw [if_pos rfl] at H; exact H
       clear H
       have H := H1
       clear H1
       by_cases c9 : x5_1 > 0
       ·rw [if_pos c9] at H
        have c9b0 : decide (0 < x5_1) = true := decide_eq_true c9
        clear c9
        obtain ⟨ji10, hji10⟩ : ∃ j_ : Int, (wrap64 (x5_1 - 1)) = j_ := ⟨_, rfl⟩
        replace H : (if 0 ≤ (ji10) then (if (ji10) < (l1.length : Int) then ((spec_l02Less.f ((rd_T76 l1 (ji10)).f0) ((rd_T76 l1 (ji10)).f1) ((rd_T76 l1 x5_1).f0) ((rd_T76 l1 x5_1).f1)).bind fun t577 => (spec_l02Is.j1 k1 l1 x5_1 (!t577) a0_0 l0_1)) else (none)) else (none)) = some r := by first | (rw [hji10] at H; exact H) | (simp only [hji10] at H ⊢; exact H)
        (try rw [hji10] at A7)
        have hji10w : (IntKind.i64.wrap (x5_1 - 1)) = ji10 := (i64_w _).trans hji10
        by_cases c11 : 0 ≤ (ji10)
        ·rw [if_pos c11] at H
         have c11b0 : decide (0 ≤ (ji10)) = true := decide_eq_true c11
         clear c11
         by_cases c12 : (ji10) < (l1.length : Int)
         ·rw [if_pos c12] at H
          have c12b0 : decide ((ji10) < (l1.length : Int)) = true := decide_eq_true c12
          clear c12
          replace H := Option.bind_eq_some_iff.mp H
          obtain ⟨t577, A130, H⟩ := H
          try dsimp only at H
          have A13 := Aside0.mk A130
          clear A130
          have H' := Aside0.mk H
          clear H
          try go_wp2
          replace BK572 := dB BK572
          replace HB := dH HB
          have p573 : 0 ≤ (x5_1 : Int) := of_decide_eq_true (by first | (with_reducible assumption) | assumption)
          have q573 : x5_1 < (l1.length : Int) := of_decide_eq_true (by first | (with_reducible assumption) | assumption)
          obtain ⟨ad573, e573, hx573_0, hx573_1⟩ := at_T76 HR1.out x5_1 p573 q573
          have hw573_1 := hx573_1
          have hw573_0 := hx573_0
          cases e573
          replace hx573_0 := cH HB hx573_0
          replace hx573_1 := cH HB hx573_1
          replace p573 := eq_true p573
          replace q573 := eq_true q573
          have p575 : 0 ≤ ((ji10) : Int) := of_decide_eq_true (by first | (with_reducible assumption) | assumption)
          have q575 : (ji10) < (l1.length : Int) := of_decide_eq_true (by first | (with_reducible assumption) | assumption)
          obtain ⟨ad575, e575, hx575_0, hx575_1⟩ := at_T76 HR1.out (ji10) p575 q575
          have hw575_1 := hx575_1
          have hw575_0 := hx575_0
          obtain rfl : ad573 = ad575 := (by injection e575)
          replace hx575_0 := cH HB hx575_0
          replace hx575_1 := cH HB hx575_1
          replace p575 := eq_true p575
          replace q575 := eq_true q575
          have p576 : 0 ≤ (x5_1 : Int) := of_decide_eq_true (by first | (with_reducible assumption) | assumption)
          have q576 : x5_1 < (l1.length : Int) := of_decide_eq_true (by first | (with_reducible assumption) | assumption)
          obtain ⟨ad576, e576, hx576_0, hx576_1⟩ := at_T76 HR1.out x5_1 p576 q576
          have hw576_1 := hx576_1
          have hw576_0 := hx576_0
          obtain rfl : ad573 = ad576 := (by injection e576)
          replace hx576_0 := cH HB hx576_0
          replace hx576_1 := cH HB hx576_1
          replace p576 := eq_true p576
          replace q576 := eq_true q576
          refine st_ 24 (S := fun w' => w'.cell? ⟨gb572, 0, none⟩ = some (.int .i64 a0_0) ∧ w'.cell? ⟨gb572, 1, none⟩ = some (.slice A0_1 l0_1.length c0_1) ∧ w'.cell? (ad573.add ((x5_1).toNat * 2)) = some (.int .i64 ((rd_T76 l1 x5_1).f0)) ∧ w'.cell? ⟨(ad573.add ((x5_1).toNat * 2)).block, (ad573.add ((x5_1).toNat * 2)).off + 1, none⟩ = some (.int .i64 ((rd_T76 l1 x5_1).f1)) ∧ w'.cell? (ad573.add (((ji10)).toNat * 2)) = some (.int .i64 ((rd_T76 l1 (ji10)).f0)) ∧ w'.cell? ⟨(ad573.add (((ji10)).toNat * 2)).block, (ad573.add (((ji10)).toNat * 2)).off + 1, none⟩ = some (.int .i64 ((rd_T76 l1 (ji10)).f1)) ∧ w'.cell? (ad573.add ((x5_1).toNat * 2)) = some (.int .i64 ((rd_T76 l1 x5_1).f0)) ∧ w'.cell? ⟨(ad573.add ((x5_1).toNat * 2)).block, (ad573.add ((x5_1).toNat * 2)).off + 1, none⟩ = some (.int .i64 ((rd_T76 l1 x5_1).f1))) (ds := []) ⟨cB BK572 0, cB BK572 1, (cH HB hw573_0 :), (cH HB hw573_1 :), (cH HB hw575_0 :), (cH HB hw575_1 :), (cH HB hw576_0 :), (cH HB hw576_1 :)⟩ (fun hHeld => ?_); refine with_tabW spec_l02Is.tab4 spec_l02Is.bits4 (fun HT_ HW_ => ?_)
          generalize wr.drew = w14 at BK572 HB hx573_0 hx573_1 hx575_0 hx575_1 hx576_0 hx576_1 hHeld ⊢
          refine pu_ 1 14 2 HT_ ?_
          refine pu_ 2 15 6 HT_ ?_
          refine pu_ 3 16 14 HT_ ?_
          refine tk_ 0 13 15 HT_ HW_ hHeld ?_
          refine tk_ 4 17 31 HT_ HW_ hHeld ?_
          refine on_ 5 (some 18) 63 HT_ (fun K hK => ?_)
          refine ca_ Try.func210 #[.agg #[.int .i64 a0_0, .slice A0_1 l0_1.length c0_1], .agg #[.int .i64 ((rd_T76 l1 x5_1).f0), .int .i64 ((rd_T76 l1 x5_1).f1)]] ?_
          with_reducible refine (spec_l02Pair.calls k1 a0_0 _ _ l0_1 ((rd_T76 l1 x5_1).f0) ((rd_T76 l1 x5_1).f1) true _ ?side1 ?side2 A7.out).mono ?_
          (case side1 => exact pC ((Kd.C_below HR0_1.out HB.out)))
          (case side2 => exact HC0_1.out)
          rintro e w15 ⟨rfl, hb⟩
          refine ⟨_, rfl, ?_⟩
          replace BK572 := sB BK572 hb
          replace HB := sH HB hb
          (try clear hb)
          (try clear hb2)
          (try clear hk)
          (try clear hi)
          refine hK.out _ _ ⟨cB BK572 0, cB BK572 1, (cH HB hw573_0 :), (cH HB hw573_1 :), (cH HB hw575_0 :), (cH HB hw575_1 :), (cH HB hw576_0 :), (cH HB hw576_1 :)⟩ (fun hHeld => ?_)
          clear hK K
          refine nm_ ?_
          refine pu_ 6 19 127 HT_ ?_
          refine pu_ 7 20 255 HT_ ?_
          refine pu_ 8 21 511 HT_ ?_
          refine pu_ 9 22 1023 HT_ ?_
          refine pu_ 10 23 2047 HT_ ?_
          refine pu_ 11 24 4095 HT_ ?_
          refine pu_ 12 25 8191 HT_ ?_
          refine pu_ 13 26 16383 HT_ ?_
          refine pu_ 14 27 32767 HT_ ?_
          refine pu_ 16 29 98303 HT_ ?_
          refine pu_ 17 30 229375 HT_ ?_
          refine pu_ 18 31 491519 HT_ ?_
          refine tk_ 15 28 524287 HT_ HW_ hHeld ?_
          refine tk_ 19 32 1048575 HT_ HW_ hHeld ?_
          refine on_ 20 (some 33) 2097151 HT_ (fun K hK => ?_)
          refine ca_ Try.func211 #[.agg #[.int .i64 ((rd_T76 l1 (ji10)).f0), .int .i64 ((rd_T76 l1 (ji10)).f1)], .agg #[.int .i64 ((rd_T76 l1 x5_1).f0), .int .i64 ((rd_T76 l1 x5_1).f1)]] (hargs := by (try simp only [List.map_toArray, List.map_cons, List.map_nil]); first | done | (simp only [hji10]; rfl) | rfl | (simp only [List.length_drop, List.length_take]; rfl)) ?_
          with_reducible refine (spec_l02Less.calls ((rd_T76 l1 (ji10)).f0) ((rd_T76 l1 (ji10)).f1) ((rd_T76 l1 x5_1).f0) ((rd_T76 l1 x5_1).f1) t577 _ A13.out).mono ?_
          rintro e w16 ⟨rfl, hb⟩
          refine ⟨_, rfl, ?_⟩
          replace BK572 := sB BK572 hb
          replace HB := sH HB hb
          (try clear hb)
          (try clear hb2)
          (try clear hk)
          (try clear hi)
          refine hK.out _ _ ⟨cB BK572 0, cB BK572 1, (cH HB hw573_0 :), (cH HB hw573_1 :), (cH HB hw575_0 :), (cH HB hw575_1 :), (cH HB hw576_0 :), (cH HB hw576_1 :)⟩ (fun hHeld => ?_)
          clear hK K
          refine nm_ ?_
          refine pu_ 21 34 4194303 HT_ ?_
          refine pu_ 22 35 8388607 HT_ ?_
          refine pu_ 23 36 16777215 HT_ ?_
          refine dn_ HT_ ?_
          try go_wp2
          go_meet
          case rel => exact ⟨_, (!t577), (by first | rfl | (simp; done) | (simp [*]; done)), H', ⟨by have := HK1.out; first | omega | exact Nat.le_refl _⟩, ⟨pB BK572⟩, ⟨pH HB⟩⟩
         ·rw [if_neg c12] at H
          exact absurd H (by simp)
        ·rw [if_neg c11] at H
         exact absurd H (by simp)
       ·rw [if_neg c9] at H
        have c9b0 : decide (0 < x5_1) = false := decide_eq_false c9
        clear c9
        have H' := Aside0.mk H
        clear H
        try go_wp2
        replace BK572 := dB BK572
        replace HB := dH HB
        have p573 : 0 ≤ (x5_1 : Int) := of_decide_eq_true (by first | (with_reducible assumption) | assumption)
        have q573 : x5_1 < (l1.length : Int) := of_decide_eq_true (by first | (with_reducible assumption) | assumption)
        obtain ⟨ad573, e573, hx573_0, hx573_1⟩ := at_T76 HR1.out x5_1 p573 q573
        have hw573_1 := hx573_1
        have hw573_0 := hx573_0
        cases e573
        replace hx573_0 := cH HB hx573_0
        replace hx573_1 := cH HB hx573_1
        replace p573 := eq_true p573
        replace q573 := eq_true q573
        refine st_ 24 (S := fun w' => w'.cell? ⟨gb572, 0, none⟩ = some (.int .i64 a0_0) ∧ w'.cell? ⟨gb572, 1, none⟩ = some (.slice A0_1 l0_1.length c0_1) ∧ w'.cell? (ad573.add ((x5_1).toNat * 2)) = some (.int .i64 ((rd_T76 l1 x5_1).f0)) ∧ w'.cell? ⟨(ad573.add ((x5_1).toNat * 2)).block, (ad573.add ((x5_1).toNat * 2)).off + 1, none⟩ = some (.int .i64 ((rd_T76 l1 x5_1).f1))) (ds := []) ⟨cB BK572 0, cB BK572 1, (cH HB hw573_0 :), (cH HB hw573_1 :)⟩ (fun hHeld => ?_); refine with_tabW spec_l02Is.tab4 spec_l02Is.bits4 (fun HT_ HW_ => ?_)
        generalize wr.drew = w17 at BK572 HB hx573_0 hx573_1 hHeld ⊢
        refine pu_ 1 14 2 HT_ ?_
        refine pu_ 2 15 6 HT_ ?_
        refine pu_ 3 16 14 HT_ ?_
        refine tk_ 0 13 15 HT_ HW_ hHeld ?_
        refine tk_ 4 17 31 HT_ HW_ hHeld ?_
        refine on_ 5 (some 18) 63 HT_ (fun K hK => ?_)
        refine ca_ Try.func210 #[.agg #[.int .i64 a0_0, .slice A0_1 l0_1.length c0_1], .agg #[.int .i64 ((rd_T76 l1 x5_1).f0), .int .i64 ((rd_T76 l1 x5_1).f1)]] ?_
        with_reducible refine (spec_l02Pair.calls k1 a0_0 _ _ l0_1 ((rd_T76 l1 x5_1).f0) ((rd_T76 l1 x5_1).f1) true _ ?side1 ?side2 A7.out).mono ?_
        (case side1 => exact pC ((Kd.C_below HR0_1.out HB.out)))
        (case side2 => exact HC0_1.out)
        rintro e w18 ⟨rfl, hb⟩
        refine ⟨_, rfl, ?_⟩
        replace BK572 := sB BK572 hb
        replace HB := sH HB hb
        (try clear hb)
        (try clear hb2)
        (try clear hk)
        (try clear hi)
        refine hK.out _ _ ⟨cB BK572 0, cB BK572 1, (cH HB hw573_0 :), (cH HB hw573_1 :)⟩ (fun hHeld => ?_)
        clear hK K
        refine nm_ ?_
        refine pu_ 6 19 127 HT_ ?_
        refine pu_ 7 20 255 HT_ ?_
        refine pu_ 8 21 511 HT_ ?_
        refine pu_ 9 22 1023 HT_ ?_
        refine pu_ 10 23 2047 HT_ ?_
        refine pn_ 11 24 4095 HT_ ?_
        refine pn_ 12 25 8191 HT_ ?_
        refine pn_ 13 26 16383 HT_ ?_
        refine pn_ 14 27 32767 HT_ ?_
        refine pn_ 15 28 65535 HT_ ?_
        refine pn_ 16 29 131071 HT_ ?_
        refine pn_ 17 30 262143 HT_ ?_
        refine pn_ 18 31 524287 HT_ ?_
        refine pn_ 19 32 1048575 HT_ ?_
        refine pn_ 20 33 2097151 HT_ ?_
        refine pn_ 21 34 4194303 HT_ ?_
        refine pu_ 22 35 8388607 HT_ ?_
        refine pu_ 23 36 16777215 HT_ ?_
        refine dn_ HT_ ?_
        try go_wp2
        go_meet
        case rel => exact ⟨_, (false), (by first | rfl | (simp; done) | (simp [*]; done)), H', ⟨by have := HK1.out; first | omega | exact Nat.le_refl _⟩, ⟨pB BK572⟩, ⟨pH HB⟩⟩
      ·replace c8 := Bool.eq_false_iff.mpr c8
       subst c8
       have H1 : (spec_l02Is.j1 k1 l1 x5_1 true a0_0 l0_1) = some r := by rw [if_neg (show ¬ (false = true) by decide)] at H; exact H
       clear H
       have H := H1
       clear H1
       have H' := Aside0.mk H
       clear H
       try go_wp2
       replace BK572 := dB BK572
       replace HB := dH HB
       have p573 : 0 ≤ (x5_1 : Int) := of_decide_eq_true (by first | (with_reducible assumption) | assumption)
       have q573 : x5_1 < (l1.length : Int) := of_decide_eq_true (by first | (with_reducible assumption) | assumption)
       obtain ⟨ad573, e573, hx573_0, hx573_1⟩ := at_T76 HR1.out x5_1 p573 q573
       have hw573_1 := hx573_1
       have hw573_0 := hx573_0
       cases e573
       replace hx573_0 := cH HB hx573_0
       replace hx573_1 := cH HB hx573_1
       replace p573 := eq_true p573
       replace q573 := eq_true q573
       refine st_ 24 (S := fun w' => w'.cell? ⟨gb572, 0, none⟩ = some (.int .i64 a0_0) ∧ w'.cell? ⟨gb572, 1, none⟩ = some (.slice A0_1 l0_1.length c0_1) ∧ w'.cell? (ad573.add ((x5_1).toNat * 2)) = some (.int .i64 ((rd_T76 l1 x5_1).f0)) ∧ w'.cell? ⟨(ad573.add ((x5_1).toNat * 2)).block, (ad573.add ((x5_1).toNat * 2)).off + 1, none⟩ = some (.int .i64 ((rd_T76 l1 x5_1).f1))) (ds := []) ⟨cB BK572 0, cB BK572 1, (cH HB hw573_0 :), (cH HB hw573_1 :)⟩ (fun hHeld => ?_); refine with_tabW spec_l02Is.tab4 spec_l02Is.bits4 (fun HT_ HW_ => ?_)
       generalize wr.drew = w19 at BK572 HB hx573_0 hx573_1 hHeld ⊢
       refine pu_ 1 14 2 HT_ ?_
       refine pu_ 2 15 6 HT_ ?_
       refine pu_ 3 16 14 HT_ ?_
       refine tk_ 0 13 15 HT_ HW_ hHeld ?_
       refine tk_ 4 17 31 HT_ HW_ hHeld ?_
       refine on_ 5 (some 18) 63 HT_ (fun K hK => ?_)
       refine ca_ Try.func210 #[.agg #[.int .i64 a0_0, .slice A0_1 l0_1.length c0_1], .agg #[.int .i64 ((rd_T76 l1 x5_1).f0), .int .i64 ((rd_T76 l1 x5_1).f1)]] ?_
       with_reducible refine (spec_l02Pair.calls k1 a0_0 _ _ l0_1 ((rd_T76 l1 x5_1).f0) ((rd_T76 l1 x5_1).f1) false _ ?side1 ?side2 A7.out).mono ?_
       (case side1 => exact pC ((Kd.C_below HR0_1.out HB.out)))
       (case side2 => exact HC0_1.out)
       rintro e w20 ⟨rfl, hb⟩
       refine ⟨_, rfl, ?_⟩
       replace BK572 := sB BK572 hb
       replace HB := sH HB hb
       (try clear hb)
       (try clear hb2)
       (try clear hk)
       (try clear hi)
       refine hK.out _ _ ⟨cB BK572 0, cB BK572 1, (cH HB hw573_0 :), (cH HB hw573_1 :)⟩ (fun hHeld => ?_)
       clear hK K
       refine nm_ ?_
       refine pu_ 6 19 127 HT_ ?_
       refine pu_ 7 20 255 HT_ ?_
       refine pn_ 8 21 511 HT_ ?_
       refine pn_ 9 22 1023 HT_ ?_
       refine pn_ 10 23 2047 HT_ ?_
       refine pn_ 11 24 4095 HT_ ?_
       refine pn_ 12 25 8191 HT_ ?_
       refine pn_ 13 26 16383 HT_ ?_
       refine pn_ 14 27 32767 HT_ ?_
       refine pn_ 15 28 65535 HT_ ?_
       refine pn_ 16 29 131071 HT_ ?_
       refine pn_ 17 30 262143 HT_ ?_
       refine pn_ 18 31 524287 HT_ ?_
       refine pn_ 19 32 1048575 HT_ ?_
       refine pn_ 20 33 2097151 HT_ ?_
       refine pn_ 21 34 4194303 HT_ ?_
       refine pn_ 22 35 8388607 HT_ ?_
       refine pu_ 23 36 16777215 HT_ ?_
       refine dn_ HT_ ?_
       try go_wp2
       go_meet
       case rel => exact ⟨_, (true), (by first | rfl | (simp; done) | (simp [*]; done)), H', ⟨by have := HK1.out; first | omega | exact Nat.le_refl _⟩, ⟨pB BK572⟩, ⟨pH HB⟩⟩
     ·rw [if_neg c6] at H
      exact absurd H (by simp)
    case rest =>
     clear HC5
     try clear c1
     try clear c2
     try clear p2
     try clear p5
     try clear q5
     try clear hx5
     try clear c6
     try clear c8
     try clear c9
     try clear c9b0
     try clear c11
     try clear c12
     try clear hx573_0
     try clear hx573_1
     try clear p573
     try clear q573
     obtain ⟨kq, x36_4, rfl, HA, HJ4, BK572, HB⟩ := hcut
     cases kq with
     | zero => exact absurd HA.out (by simp [spec_l02Is.j1])
     | succ kj4 =>
      have H := HA.out
      clear HA
      simp only [spec_l02Is.j1] at H
      by_cases c21 : x36_4 = true
      ·subst c21
       have H1 : (some false) = some r := by rw [if_pos rfl] at H; exact H
       clear H
       have H := H1
       clear H1
       obtain rfl := Option.some.inj H
       go_wp2
       go_ret
       exact ⟨by first | rfl | (simp [errW_none, errW_some] <;> rfl) | (simp [*, errW_none, errW_some] <;> rfl), pH HB⟩
      ·replace c21 := Bool.eq_false_iff.mpr c21
       subst c21
       have H1 : (spec_l02Is.l1 kj4 l1 x5_1 0 a0_0 l0_1) = some r := by rw [if_neg (show ¬ (false = true) by decide)] at H; exact H
       clear H
       have H := H1
       clear H1
       have H' := Aside0.mk H
       clear H
       go_wp2
       go_loopg [6] kj4 (fun kq v6 w' => ∃ (x6_3 : Int), v6 = .int .i64 x6_3 ∧ Aside0 (spec_l02Is.l1 kq l1 x5_1 x6_3 a0_0 l0_1 = some r) ∧ Aside0 (kq ≤ kj4) ∧ Aside0 (w'.heap[gb572]? = some (.cells #[.int .i64 a0_0, (.slice A0_1 l0_1.length c0_1)] 26 (0, 0))) ∧ Aside0 (Below w.heap.size w w'))
       case atStart => exact ⟨(0), (by first | rfl | (simp; done) | (simp [*]; done)), H', ⟨Nat.le_refl _⟩, ⟨pB BK572⟩, ⟨pH HB⟩⟩
       case round =>
        clear H'
        try clear c1
        try clear c2
        try clear p2
        try clear p5
        try clear q5
        try clear hx5
        try clear c6
        try clear c8
        try clear c9
        try clear c9b0
        try clear c11
        try clear c12
        try clear c21
        try clear hx573_0
        try clear hx573_1
        try clear p2
        try clear p5
        try clear p573
        try clear q5
        try clear q573
        obtain ⟨x6_3, rfl, HA, HK3, BK572, HB⟩ := hrel
        cases gk with
        | zero => exact absurd HA.out (by simp [spec_l02Is.l1])
        | succ k3 =>
         have H := HA.out
         clear HA
         simp only [spec_l02Is.l1] at H
         by_cases c22 : x6_3 < x5_1
         ·rw [if_pos c22] at H
          have c22b0 : decide (x6_3 < x5_1) = true := decide_eq_true c22
          clear c22
          by_cases c23 : 0 ≤ x5_1
          ·rw [if_pos c23] at H
           have c23b0 : decide (0 ≤ x5_1) = true := decide_eq_true c23
           clear c23
           by_cases c24 : x5_1 < (l1.length : Int)
           ·rw [if_pos c24] at H
            have c24b0 : decide (x5_1 < (l1.length : Int)) = true := decide_eq_true c24
            clear c24
            by_cases c25 : 0 ≤ x6_3
            ·rw [if_pos c25] at H
             have c25b0 : decide (0 ≤ x6_3) = true := decide_eq_true c25
             clear c25
             by_cases c26 : x6_3 < (l1.length : Int)
             ·rw [if_pos c26] at H
              have c26b0 : decide (x6_3 < (l1.length : Int)) = true := decide_eq_true c26
              clear c26
              by_cases c27 : ((rd_T76 l1 x5_1).f0) = ((rd_T76 l1 x6_3).f0)
              ·rw [if_pos c27] at H
               have c27b0 : (((rd_T76 l1 x5_1).f0) == ((rd_T76 l1 x6_3).f0)) = true := beq_iff_eq.mpr c27
               have c27b1 : (((rd_T76 l1 x5_1).f0) != ((rd_T76 l1 x6_3).f0)) = false := bne_eq_false_iff_eq.mpr c27
               clear c27
               obtain rfl := Option.some.inj H
               try go_wp2
               replace BK572 := dB BK572
               replace HB := dH HB
               have p578 : 0 ≤ (x5_1 : Int) := of_decide_eq_true (by first | (with_reducible assumption) | assumption)
               have q578 : x5_1 < (l1.length : Int) := of_decide_eq_true (by first | (with_reducible assumption) | assumption)
               obtain ⟨ad578, e578, hx578_0, hx578_1⟩ := at_T76 HR1.out x5_1 p578 q578
               have hw578_1 := hx578_1
               have hw578_0 := hx578_0
               cases e578
               replace hx578_0 := cH HB hx578_0
               replace hx578_1 := cH HB hx578_1
               replace p578 := eq_true p578
               replace q578 := eq_true q578
               have p579 : 0 ≤ (x6_3 : Int) := of_decide_eq_true (by first | (with_reducible assumption) | assumption)
               have q579 : x6_3 < (l1.length : Int) := of_decide_eq_true (by first | (with_reducible assumption) | assumption)
               obtain ⟨ad579, e579, hx579_0, hx579_1⟩ := at_T76 HR1.out x6_3 p579 q579
               have hw579_1 := hx579_1
               have hw579_0 := hx579_0
               obtain rfl : ad578 = ad579 := (by injection e579)
               replace hx579_0 := cH HB hx579_0
               replace hx579_1 := cH HB hx579_1
               replace p579 := eq_true p579
               replace q579 := eq_true q579
               refine st_ 50 (S := fun w' => w'.cell? (ad578.add ((x5_1).toNat * 2)) = some (.int .i64 ((rd_T76 l1 x5_1).f0)) ∧ w'.cell? ⟨(ad578.add ((x5_1).toNat * 2)).block, (ad578.add ((x5_1).toNat * 2)).off + 1, none⟩ = some (.int .i64 ((rd_T76 l1 x5_1).f1)) ∧ w'.cell? (ad578.add ((x6_3).toNat * 2)) = some (.int .i64 ((rd_T76 l1 x6_3).f0)) ∧ w'.cell? ⟨(ad578.add ((x6_3).toNat * 2)).block, (ad578.add ((x6_3).toNat * 2)).off + 1, none⟩ = some (.int .i64 ((rd_T76 l1 x6_3).f1))) (ds := []) ⟨(cH HB hw578_0 :), (cH HB hw578_1 :), (cH HB hw579_0 :), (cH HB hw579_1 :)⟩ (fun hHeld => ?_); refine with_tabW spec_l02Is.tab9 spec_l02Is.bits9 (fun HT_ HW_ => ?_)
               generalize wr.drew = w28 at BK572 HB hx578_0 hx578_1 hx579_0 hx579_1 hHeld ⊢
               refine pu_ 0 42 1 HT_ ?_
               refine pu_ 1 43 3 HT_ ?_
               refine pu_ 2 44 7 HT_ ?_
               refine pu_ 3 45 15 HT_ ?_
               refine pu_ 5 47 47 HT_ ?_
               refine pu_ 6 48 111 HT_ ?_
               refine pu_ 7 49 239 HT_ ?_
               refine pu_ 8 50 495 HT_ ?_
               refine tk_ 4 46 511 HT_ HW_ hHeld ?_
               refine tk_ 9 51 1023 HT_ HW_ hHeld ?_
               refine pu_ 10 52 2047 HT_ ?_
               refine pu_ 11 53 4095 HT_ ?_
               refine pn_ 12 54 8191 HT_ ?_
               refine pn_ 13 55 16383 HT_ ?_
               refine pn_ 14 56 32767 HT_ ?_
               refine pn_ 15 57 65535 HT_ ?_
               refine pn_ 16 58 131071 HT_ ?_
               refine pn_ 17 59 262143 HT_ ?_
               refine pn_ 18 60 524287 HT_ ?_
               refine pn_ 19 61 1048575 HT_ ?_
               refine pn_ 20 62 2097151 HT_ ?_
               refine pn_ 21 63 4194303 HT_ ?_
               refine pn_ 22 64 8388607 HT_ ?_
               refine pu_ 23 65 16777215 HT_ ?_
               refine pu_ 24 66 33554431 HT_ ?_
               refine pn_ 25 67 67108863 HT_ ?_
               refine pn_ 26 68 134217727 HT_ ?_
               refine pn_ 27 69 268435455 HT_ ?_
               refine pn_ 28 70 536870911 HT_ ?_
               refine pn_ 29 71 1073741823 HT_ ?_
               refine pn_ 30 72 2147483647 HT_ ?_
               refine pn_ 31 73 4294967295 HT_ ?_
               refine pn_ 32 74 8589934591 HT_ ?_
               refine pn_ 33 75 17179869183 HT_ ?_
               refine pn_ 34 76 34359738367 HT_ ?_
               refine pn_ 35 77 68719476735 HT_ ?_
               refine pu_ 36 78 137438953471 HT_ ?_
               refine pu_ 37 79 274877906943 HT_ ?_
               refine pn_ 38 80 549755813887 HT_ ?_
               refine pn_ 39 81 1099511627775 HT_ ?_
               refine pn_ 40 82 2199023255551 HT_ ?_
               refine pn_ 41 83 4398046511103 HT_ ?_
               refine pn_ 42 84 8796093022207 HT_ ?_
               refine pn_ 43 85 17592186044415 HT_ ?_
               refine pn_ 44 86 35184372088831 HT_ ?_
               refine pn_ 45 87 70368744177663 HT_ ?_
               refine pn_ 46 88 140737488355327 HT_ ?_
               refine pn_ 47 89 281474976710655 HT_ ?_
               refine pn_ 48 90 562949953421311 HT_ ?_
               refine pu_ 49 91 1125899906842623 HT_ ?_
               refine dn_ HT_ ?_
               try go_wp2
               go_ret
               exact ⟨by first | rfl | (simp [errW_none, errW_some] <;> rfl) | (simp [*, errW_none, errW_some] <;> rfl), pH HB⟩
              ·rw [if_neg c27] at H
               have c27b0 : (((rd_T76 l1 x5_1).f0) == ((rd_T76 l1 x6_3).f0)) = false := beq_eq_false_iff_ne.mpr c27
               have c27b1 : (((rd_T76 l1 x5_1).f0) != ((rd_T76 l1 x6_3).f0)) = true := bne_iff_ne.mpr c27
               by_cases c29 : ((rd_T76 l1 x5_1).f0) = ((rd_T76 l1 x6_3).f1)
               ·rw [if_pos c29] at H
                have c29b0 : (((rd_T76 l1 x5_1).f0) == ((rd_T76 l1 x6_3).f1)) = true := beq_iff_eq.mpr c29
                have c29b1 : (((rd_T76 l1 x5_1).f0) != ((rd_T76 l1 x6_3).f1)) = false := bne_eq_false_iff_eq.mpr c29
                clear c29
                obtain rfl := Option.some.inj H
                try go_wp2
                replace BK572 := dB BK572
                replace HB := dH HB
                have p578 : 0 ≤ (x5_1 : Int) := of_decide_eq_true (by first | (with_reducible assumption) | assumption)
                have q578 : x5_1 < (l1.length : Int) := of_decide_eq_true (by first | (with_reducible assumption) | assumption)
                obtain ⟨ad578, e578, hx578_0, hx578_1⟩ := at_T76 HR1.out x5_1 p578 q578
                have hw578_1 := hx578_1
                have hw578_0 := hx578_0
                cases e578
                replace hx578_0 := cH HB hx578_0
                replace hx578_1 := cH HB hx578_1
                replace p578 := eq_true p578
                replace q578 := eq_true q578
                have p579 : 0 ≤ (x6_3 : Int) := of_decide_eq_true (by first | (with_reducible assumption) | assumption)
                have q579 : x6_3 < (l1.length : Int) := of_decide_eq_true (by first | (with_reducible assumption) | assumption)
                obtain ⟨ad579, e579, hx579_0, hx579_1⟩ := at_T76 HR1.out x6_3 p579 q579
                have hw579_1 := hx579_1
                have hw579_0 := hx579_0
                obtain rfl : ad578 = ad579 := (by injection e579)
                replace hx579_0 := cH HB hx579_0
                replace hx579_1 := cH HB hx579_1
                replace p579 := eq_true p579
                replace q579 := eq_true q579
                have p580 : 0 ≤ (x5_1 : Int) := of_decide_eq_true (by first | (with_reducible assumption) | assumption)
                have q580 : x5_1 < (l1.length : Int) := of_decide_eq_true (by first | (with_reducible assumption) | assumption)
                obtain ⟨ad580, e580, hx580_0, hx580_1⟩ := at_T76 HR1.out x5_1 p580 q580
                have hw580_1 := hx580_1
                have hw580_0 := hx580_0
                obtain rfl : ad578 = ad580 := (by injection e580)
                replace hx580_0 := cH HB hx580_0
                replace hx580_1 := cH HB hx580_1
                replace p580 := eq_true p580
                replace q580 := eq_true q580
                have p581 : 0 ≤ (x6_3 : Int) := of_decide_eq_true (by first | (with_reducible assumption) | assumption)
                have q581 : x6_3 < (l1.length : Int) := of_decide_eq_true (by first | (with_reducible assumption) | assumption)
                obtain ⟨ad581, e581, hx581_0, hx581_1⟩ := at_T76 HR1.out x6_3 p581 q581
                have hw581_1 := hx581_1
                have hw581_0 := hx581_0
                obtain rfl : ad578 = ad581 := (by injection e581)
                replace hx581_0 := cH HB hx581_0
                replace hx581_1 := cH HB hx581_1
                replace p581 := eq_true p581
                replace q581 := eq_true q581
                refine st_ 50 (S := fun w' => w'.cell? (ad578.add ((x5_1).toNat * 2)) = some (.int .i64 ((rd_T76 l1 x5_1).f0)) ∧ w'.cell? ⟨(ad578.add ((x5_1).toNat * 2)).block, (ad578.add ((x5_1).toNat * 2)).off + 1, none⟩ = some (.int .i64 ((rd_T76 l1 x5_1).f1)) ∧ w'.cell? (ad578.add ((x6_3).toNat * 2)) = some (.int .i64 ((rd_T76 l1 x6_3).f0)) ∧ w'.cell? ⟨(ad578.add ((x6_3).toNat * 2)).block, (ad578.add ((x6_3).toNat * 2)).off + 1, none⟩ = some (.int .i64 ((rd_T76 l1 x6_3).f1)) ∧ w'.cell? (ad578.add ((x5_1).toNat * 2)) = some (.int .i64 ((rd_T76 l1 x5_1).f0)) ∧ w'.cell? ⟨(ad578.add ((x5_1).toNat * 2)).block, (ad578.add ((x5_1).toNat * 2)).off + 1, none⟩ = some (.int .i64 ((rd_T76 l1 x5_1).f1)) ∧ w'.cell? (ad578.add ((x6_3).toNat * 2)) = some (.int .i64 ((rd_T76 l1 x6_3).f0)) ∧ w'.cell? ⟨(ad578.add ((x6_3).toNat * 2)).block, (ad578.add ((x6_3).toNat * 2)).off + 1, none⟩ = some (.int .i64 ((rd_T76 l1 x6_3).f1))) (ds := []) ⟨(cH HB hw578_0 :), (cH HB hw578_1 :), (cH HB hw579_0 :), (cH HB hw579_1 :), (cH HB hw580_0 :), (cH HB hw580_1 :), (cH HB hw581_0 :), (cH HB hw581_1 :)⟩ (fun hHeld => ?_); refine with_tabW spec_l02Is.tab9 spec_l02Is.bits9 (fun HT_ HW_ => ?_)
                generalize wr.drew = w30 at BK572 HB hx578_0 hx578_1 hx579_0 hx579_1 hx580_0 hx580_1 hx581_0 hx581_1 hHeld ⊢
                refine pu_ 0 42 1 HT_ ?_
                refine pu_ 1 43 3 HT_ ?_
                refine pu_ 2 44 7 HT_ ?_
                refine pu_ 3 45 15 HT_ ?_
                refine pu_ 5 47 47 HT_ ?_
                refine pu_ 6 48 111 HT_ ?_
                refine pu_ 7 49 239 HT_ ?_
                refine pu_ 8 50 495 HT_ ?_
                refine tk_ 4 46 511 HT_ HW_ hHeld ?_
                refine tk_ 9 51 1023 HT_ HW_ hHeld ?_
                refine pu_ 10 52 2047 HT_ ?_
                refine pu_ 11 53 4095 HT_ ?_
                refine pu_ 12 54 8191 HT_ ?_
                refine pu_ 13 55 16383 HT_ ?_
                refine pu_ 14 56 32767 HT_ ?_
                refine pu_ 15 57 65535 HT_ ?_
                refine pu_ 17 59 196607 HT_ ?_
                refine pu_ 18 60 458751 HT_ ?_
                refine pu_ 19 61 983039 HT_ ?_
                refine pu_ 20 62 2031615 HT_ ?_
                refine tk_ 16 58 2097151 HT_ HW_ hHeld ?_
                refine tk_ 21 63 4194303 HT_ HW_ hHeld ?_
                refine pu_ 22 64 8388607 HT_ ?_
                refine pu_ 23 65 16777215 HT_ ?_
                refine pu_ 24 66 33554431 HT_ ?_
                refine pn_ 25 67 67108863 HT_ ?_
                refine pn_ 26 68 134217727 HT_ ?_
                refine pn_ 27 69 268435455 HT_ ?_
                refine pn_ 28 70 536870911 HT_ ?_
                refine pn_ 29 71 1073741823 HT_ ?_
                refine pn_ 30 72 2147483647 HT_ ?_
                refine pn_ 31 73 4294967295 HT_ ?_
                refine pn_ 32 74 8589934591 HT_ ?_
                refine pn_ 33 75 17179869183 HT_ ?_
                refine pn_ 34 76 34359738367 HT_ ?_
                refine pn_ 35 77 68719476735 HT_ ?_
                refine pu_ 36 78 137438953471 HT_ ?_
                refine pu_ 37 79 274877906943 HT_ ?_
                refine pn_ 38 80 549755813887 HT_ ?_
                refine pn_ 39 81 1099511627775 HT_ ?_
                refine pn_ 40 82 2199023255551 HT_ ?_
                refine pn_ 41 83 4398046511103 HT_ ?_
                refine pn_ 42 84 8796093022207 HT_ ?_
                refine pn_ 43 85 17592186044415 HT_ ?_
                refine pn_ 44 86 35184372088831 HT_ ?_
                refine pn_ 45 87 70368744177663 HT_ ?_
                refine pn_ 46 88 140737488355327 HT_ ?_
                refine pn_ 47 89 281474976710655 HT_ ?_
                refine pn_ 48 90 562949953421311 HT_ ?_
                refine pu_ 49 91 1125899906842623 HT_ ?_
                refine dn_ HT_ ?_
                try go_wp2
                go_ret
                exact ⟨by first | rfl | (simp [errW_none, errW_some] <;> rfl) | (simp [*, errW_none, errW_some] <;> rfl), pH HB⟩
               ·rw [if_neg c29] at H
                have c29b0 : (((rd_T76 l1 x5_1).f0) == ((rd_T76 l1 x6_3).f1)) = false := beq_eq_false_iff_ne.mpr c29
                have c29b1 : (((rd_T76 l1 x5_1).f0) != ((rd_T76 l1 x6_3).f1)) = true := bne_iff_ne.mpr c29
                by_cases c31 : ((rd_T76 l1 x5_1).f1) = ((rd_T76 l1 x6_3).f0)
                ·rw [if_pos c31] at H
                 have c31b0 : (((rd_T76 l1 x5_1).f1) == ((rd_T76 l1 x6_3).f0)) = true := beq_iff_eq.mpr c31
                 have c31b1 : (((rd_T76 l1 x5_1).f1) != ((rd_T76 l1 x6_3).f0)) = false := bne_eq_false_iff_eq.mpr c31
                 clear c31
                 obtain rfl := Option.some.inj H
                 try go_wp2
                 replace BK572 := dB BK572
                 replace HB := dH HB
                 have p578 : 0 ≤ (x5_1 : Int) := of_decide_eq_true (by first | (with_reducible assumption) | assumption)
                 have q578 : x5_1 < (l1.length : Int) := of_decide_eq_true (by first | (with_reducible assumption) | assumption)
                 obtain ⟨ad578, e578, hx578_0, hx578_1⟩ := at_T76 HR1.out x5_1 p578 q578
                 have hw578_1 := hx578_1
                 have hw578_0 := hx578_0
                 cases e578
                 replace hx578_0 := cH HB hx578_0
                 replace hx578_1 := cH HB hx578_1
                 replace p578 := eq_true p578
                 replace q578 := eq_true q578
                 have p579 : 0 ≤ (x6_3 : Int) := of_decide_eq_true (by first | (with_reducible assumption) | assumption)
                 have q579 : x6_3 < (l1.length : Int) := of_decide_eq_true (by first | (with_reducible assumption) | assumption)
                 obtain ⟨ad579, e579, hx579_0, hx579_1⟩ := at_T76 HR1.out x6_3 p579 q579
                 have hw579_1 := hx579_1
                 have hw579_0 := hx579_0
                 obtain rfl : ad578 = ad579 := (by injection e579)
                 replace hx579_0 := cH HB hx579_0
                 replace hx579_1 := cH HB hx579_1
                 replace p579 := eq_true p579
                 replace q579 := eq_true q579
                 have p580 : 0 ≤ (x5_1 : Int) := of_decide_eq_true (by first | (with_reducible assumption) | assumption)
                 have q580 : x5_1 < (l1.length : Int) := of_decide_eq_true (by first | (with_reducible assumption) | assumption)
                 obtain ⟨ad580, e580, hx580_0, hx580_1⟩ := at_T76 HR1.out x5_1 p580 q580
                 have hw580_1 := hx580_1
                 have hw580_0 := hx580_0
                 obtain rfl : ad578 = ad580 := (by injection e580)
                 replace hx580_0 := cH HB hx580_0
                 replace hx580_1 := cH HB hx580_1
                 replace p580 := eq_true p580
                 replace q580 := eq_true q580
                 have p581 : 0 ≤ (x6_3 : Int) := of_decide_eq_true (by first | (with_reducible assumption) | assumption)
                 have q581 : x6_3 < (l1.length : Int) := of_decide_eq_true (by first | (with_reducible assumption) | assumption)
                 obtain ⟨ad581, e581, hx581_0, hx581_1⟩ := at_T76 HR1.out x6_3 p581 q581
                 have hw581_1 := hx581_1
                 have hw581_0 := hx581_0
                 obtain rfl : ad578 = ad581 := (by injection e581)
                 replace hx581_0 := cH HB hx581_0
                 replace hx581_1 := cH HB hx581_1
                 replace p581 := eq_true p581
                 replace q581 := eq_true q581
                 have p582 : 0 ≤ (x5_1 : Int) := of_decide_eq_true (by first | (with_reducible assumption) | assumption)
                 have q582 : x5_1 < (l1.length : Int) := of_decide_eq_true (by first | (with_reducible assumption) | assumption)
                 obtain ⟨ad582, e582, hx582_0, hx582_1⟩ := at_T76 HR1.out x5_1 p582 q582
                 have hw582_1 := hx582_1
                 have hw582_0 := hx582_0
                 obtain rfl : ad578 = ad582 := (by injection e582)
                 replace hx582_0 := cH HB hx582_0
                 replace hx582_1 := cH HB hx582_1
                 replace p582 := eq_true p582
                 replace q582 := eq_true q582
                 have p583 : 0 ≤ (x6_3 : Int) := of_decide_eq_true (by first | (with_reducible assumption) | assumption)
                 have q583 : x6_3 < (l1.length : Int) := of_decide_eq_true (by first | (with_reducible assumption) | assumption)
                 obtain ⟨ad583, e583, hx583_0, hx583_1⟩ := at_T76 HR1.out x6_3 p583 q583
                 have hw583_1 := hx583_1
                 have hw583_0 := hx583_0
                 obtain rfl : ad578 = ad583 := (by injection e583)
                 replace hx583_0 := cH HB hx583_0
                 replace hx583_1 := cH HB hx583_1
                 replace p583 := eq_true p583
                 replace q583 := eq_true q583
                 refine st_ 50 (S := fun w' => w'.cell? (ad578.add ((x5_1).toNat * 2)) = some (.int .i64 ((rd_T76 l1 x5_1).f0)) ∧ w'.cell? ⟨(ad578.add ((x5_1).toNat * 2)).block, (ad578.add ((x5_1).toNat * 2)).off + 1, none⟩ = some (.int .i64 ((rd_T76 l1 x5_1).f1)) ∧ w'.cell? (ad578.add ((x6_3).toNat * 2)) = some (.int .i64 ((rd_T76 l1 x6_3).f0)) ∧ w'.cell? ⟨(ad578.add ((x6_3).toNat * 2)).block, (ad578.add ((x6_3).toNat * 2)).off + 1, none⟩ = some (.int .i64 ((rd_T76 l1 x6_3).f1)) ∧ w'.cell? (ad578.add ((x5_1).toNat * 2)) = some (.int .i64 ((rd_T76 l1 x5_1).f0)) ∧ w'.cell? ⟨(ad578.add ((x5_1).toNat * 2)).block, (ad578.add ((x5_1).toNat * 2)).off + 1, none⟩ = some (.int .i64 ((rd_T76 l1 x5_1).f1)) ∧ w'.cell? (ad578.add ((x6_3).toNat * 2)) = some (.int .i64 ((rd_T76 l1 x6_3).f0)) ∧ w'.cell? ⟨(ad578.add ((x6_3).toNat * 2)).block, (ad578.add ((x6_3).toNat * 2)).off + 1, none⟩ = some (.int .i64 ((rd_T76 l1 x6_3).f1)) ∧ w'.cell? (ad578.add ((x5_1).toNat * 2)) = some (.int .i64 ((rd_T76 l1 x5_1).f0)) ∧ w'.cell? ⟨(ad578.add ((x5_1).toNat * 2)).block, (ad578.add ((x5_1).toNat * 2)).off + 1, none⟩ = some (.int .i64 ((rd_T76 l1 x5_1).f1)) ∧ w'.cell? (ad578.add ((x6_3).toNat * 2)) = some (.int .i64 ((rd_T76 l1 x6_3).f0)) ∧ w'.cell? ⟨(ad578.add ((x6_3).toNat * 2)).block, (ad578.add ((x6_3).toNat * 2)).off + 1, none⟩ = some (.int .i64 ((rd_T76 l1 x6_3).f1))) (ds := []) ⟨(cH HB hw578_0 :), (cH HB hw578_1 :), (cH HB hw579_0 :), (cH HB hw579_1 :), (cH HB hw580_0 :), (cH HB hw580_1 :), (cH HB hw581_0 :), (cH HB hw581_1 :), (cH HB hw582_0 :), (cH HB hw582_1 :), (cH HB hw583_0 :), (cH HB hw583_1 :)⟩ (fun hHeld => ?_); refine with_tabW spec_l02Is.tab9 spec_l02Is.bits9 (fun HT_ HW_ => ?_)
                 generalize wr.drew = w32 at BK572 HB hx578_0 hx578_1 hx579_0 hx579_1 hx580_0 hx580_1 hx581_0 hx581_1 hx582_0 hx582_1 hx583_0 hx583_1 hHeld ⊢
                 refine pu_ 0 42 1 HT_ ?_
                 refine pu_ 1 43 3 HT_ ?_
                 refine pu_ 2 44 7 HT_ ?_
                 refine pu_ 3 45 15 HT_ ?_
                 refine pu_ 5 47 47 HT_ ?_
                 refine pu_ 6 48 111 HT_ ?_
                 refine pu_ 7 49 239 HT_ ?_
                 refine pu_ 8 50 495 HT_ ?_
                 refine tk_ 4 46 511 HT_ HW_ hHeld ?_
                 refine tk_ 9 51 1023 HT_ HW_ hHeld ?_
                 refine pu_ 10 52 2047 HT_ ?_
                 refine pu_ 11 53 4095 HT_ ?_
                 refine pu_ 12 54 8191 HT_ ?_
                 refine pu_ 13 55 16383 HT_ ?_
                 refine pu_ 14 56 32767 HT_ ?_
                 refine pu_ 15 57 65535 HT_ ?_
                 refine pu_ 17 59 196607 HT_ ?_
                 refine pu_ 18 60 458751 HT_ ?_
                 refine pu_ 19 61 983039 HT_ ?_
                 refine pu_ 20 62 2031615 HT_ ?_
                 refine tk_ 16 58 2097151 HT_ HW_ hHeld ?_
                 refine tk_ 21 63 4194303 HT_ HW_ hHeld ?_
                 refine pu_ 22 64 8388607 HT_ ?_
                 refine pu_ 23 65 16777215 HT_ ?_
                 refine pu_ 24 66 33554431 HT_ ?_
                 refine pu_ 25 67 67108863 HT_ ?_
                 refine pu_ 26 68 134217727 HT_ ?_
                 refine pu_ 27 69 268435455 HT_ ?_
                 refine pu_ 28 70 536870911 HT_ ?_
                 refine pu_ 30 72 1610612735 HT_ ?_
                 refine pu_ 31 73 3758096383 HT_ ?_
                 refine pu_ 32 74 8053063679 HT_ ?_
                 refine pu_ 33 75 16642998271 HT_ ?_
                 refine tk_ 29 71 17179869183 HT_ HW_ hHeld ?_
                 refine tk_ 34 76 34359738367 HT_ HW_ hHeld ?_
                 refine pu_ 35 77 68719476735 HT_ ?_
                 refine pu_ 36 78 137438953471 HT_ ?_
                 refine pu_ 37 79 274877906943 HT_ ?_
                 refine pn_ 38 80 549755813887 HT_ ?_
                 refine pn_ 39 81 1099511627775 HT_ ?_
                 refine pn_ 40 82 2199023255551 HT_ ?_
                 refine pn_ 41 83 4398046511103 HT_ ?_
                 refine pn_ 42 84 8796093022207 HT_ ?_
                 refine pn_ 43 85 17592186044415 HT_ ?_
                 refine pn_ 44 86 35184372088831 HT_ ?_
                 refine pn_ 45 87 70368744177663 HT_ ?_
                 refine pn_ 46 88 140737488355327 HT_ ?_
                 refine pn_ 47 89 281474976710655 HT_ ?_
                 refine pn_ 48 90 562949953421311 HT_ ?_
                 refine pu_ 49 91 1125899906842623 HT_ ?_
                 refine dn_ HT_ ?_
                 try go_wp2
                 go_ret
                 exact ⟨by first | rfl | (simp [errW_none, errW_some] <;> rfl) | (simp [*, errW_none, errW_some] <;> rfl), pH HB⟩
                ·rw [if_neg c31] at H
                 have c31b0 : (((rd_T76 l1 x5_1).f1) == ((rd_T76 l1 x6_3).f0)) = false := beq_eq_false_iff_ne.mpr c31
                 have c31b1 : (((rd_T76 l1 x5_1).f1) != ((rd_T76 l1 x6_3).f0)) = true := bne_iff_ne.mpr c31
                 by_cases c33 : ((rd_T76 l1 x5_1).f1) = ((rd_T76 l1 x6_3).f1)
                 ·rw [if_pos c33] at H
                  have c33b0 : (((rd_T76 l1 x5_1).f1) == ((rd_T76 l1 x6_3).f1)) = true := beq_iff_eq.mpr c33
                  have c33b1 : (((rd_T76 l1 x5_1).f1) != ((rd_T76 l1 x6_3).f1)) = false := bne_eq_false_iff_eq.mpr c33
                  clear c33
                  obtain rfl := Option.some.inj H
                  try go_wp2
                  replace BK572 := dB BK572
                  replace HB := dH HB
                  have p578 : 0 ≤ (x5_1 : Int) := of_decide_eq_true (by first | (with_reducible assumption) | assumption)
                  have q578 : x5_1 < (l1.length : Int) := of_decide_eq_true (by first | (with_reducible assumption) | assumption)
                  obtain ⟨ad578, e578, hx578_0, hx578_1⟩ := at_T76 HR1.out x5_1 p578 q578
                  have hw578_1 := hx578_1
                  have hw578_0 := hx578_0
                  cases e578
                  replace hx578_0 := cH HB hx578_0
                  replace hx578_1 := cH HB hx578_1
                  replace p578 := eq_true p578
                  replace q578 := eq_true q578
                  have p579 : 0 ≤ (x6_3 : Int) := of_decide_eq_true (by first | (with_reducible assumption) | assumption)
                  have q579 : x6_3 < (l1.length : Int) := of_decide_eq_true (by first | (with_reducible assumption) | assumption)
                  obtain ⟨ad579, e579, hx579_0, hx579_1⟩ := at_T76 HR1.out x6_3 p579 q579
                  have hw579_1 := hx579_1
                  have hw579_0 := hx579_0
                  obtain rfl : ad578 = ad579 := (by injection e579)
                  replace hx579_0 := cH HB hx579_0
                  replace hx579_1 := cH HB hx579_1
                  replace p579 := eq_true p579
                  replace q579 := eq_true q579
                  have p580 : 0 ≤ (x5_1 : Int) := of_decide_eq_true (by first | (with_reducible assumption) | assumption)
                  have q580 : x5_1 < (l1.length : Int) := of_decide_eq_true (by first | (with_reducible assumption) | assumption)
                  obtain ⟨ad580, e580, hx580_0, hx580_1⟩ := at_T76 HR1.out x5_1 p580 q580
                  have hw580_1 := hx580_1
                  have hw580_0 := hx580_0
                  obtain rfl : ad578 = ad580 := (by injection e580)
                  replace hx580_0 := cH HB hx580_0
                  replace hx580_1 := cH HB hx580_1
                  replace p580 := eq_true p580
                  replace q580 := eq_true q580
                  have p581 : 0 ≤ (x6_3 : Int) := of_decide_eq_true (by first | (with_reducible assumption) | assumption)
                  have q581 : x6_3 < (l1.length : Int) := of_decide_eq_true (by first | (with_reducible assumption) | assumption)
                  obtain ⟨ad581, e581, hx581_0, hx581_1⟩ := at_T76 HR1.out x6_3 p581 q581
                  have hw581_1 := hx581_1
                  have hw581_0 := hx581_0
                  obtain rfl : ad578 = ad581 := (by injection e581)
                  replace hx581_0 := cH HB hx581_0
                  replace hx581_1 := cH HB hx581_1
                  replace p581 := eq_true p581
                  replace q581 := eq_true q581
                  have p582 : 0 ≤ (x5_1 : Int) := of_decide_eq_true (by first | (with_reducible assumption) | assumption)
                  have q582 : x5_1 < (l1.length : Int) := of_decide_eq_true (by first | (with_reducible assumption) | assumption)
                  obtain ⟨ad582, e582, hx582_0, hx582_1⟩ := at_T76 HR1.out x5_1 p582 q582
                  have hw582_1 := hx582_1
                  have hw582_0 := hx582_0
                  obtain rfl : ad578 = ad582 := (by injection e582)
                  replace hx582_0 := cH HB hx582_0
                  replace hx582_1 := cH HB hx582_1
                  replace p582 := eq_true p582
                  replace q582 := eq_true q582
                  have p583 : 0 ≤ (x6_3 : Int) := of_decide_eq_true (by first | (with_reducible assumption) | assumption)
                  have q583 : x6_3 < (l1.length : Int) := of_decide_eq_true (by first | (with_reducible assumption) | assumption)
                  obtain ⟨ad583, e583, hx583_0, hx583_1⟩ := at_T76 HR1.out x6_3 p583 q583
                  have hw583_1 := hx583_1
                  have hw583_0 := hx583_0
                  obtain rfl : ad578 = ad583 := (by injection e583)
                  replace hx583_0 := cH HB hx583_0
                  replace hx583_1 := cH HB hx583_1
                  replace p583 := eq_true p583
                  replace q583 := eq_true q583
                  have p584 : 0 ≤ (x5_1 : Int) := of_decide_eq_true (by first | (with_reducible assumption) | assumption)
                  have q584 : x5_1 < (l1.length : Int) := of_decide_eq_true (by first | (with_reducible assumption) | assumption)
                  obtain ⟨ad584, e584, hx584_0, hx584_1⟩ := at_T76 HR1.out x5_1 p584 q584
                  have hw584_1 := hx584_1
                  have hw584_0 := hx584_0
                  obtain rfl : ad578 = ad584 := (by injection e584)
                  replace hx584_0 := cH HB hx584_0
                  replace hx584_1 := cH HB hx584_1
                  replace p584 := eq_true p584
                  replace q584 := eq_true q584
                  have p585 : 0 ≤ (x6_3 : Int) := of_decide_eq_true (by first | (with_reducible assumption) | assumption)
                  have q585 : x6_3 < (l1.length : Int) := of_decide_eq_true (by first | (with_reducible assumption) | assumption)
                  obtain ⟨ad585, e585, hx585_0, hx585_1⟩ := at_T76 HR1.out x6_3 p585 q585
                  have hw585_1 := hx585_1
                  have hw585_0 := hx585_0
                  obtain rfl : ad578 = ad585 := (by injection e585)
                  replace hx585_0 := cH HB hx585_0
                  replace hx585_1 := cH HB hx585_1
                  replace p585 := eq_true p585
                  replace q585 := eq_true q585
                  refine st_ 50 (S := fun w' => w'.cell? (ad578.add ((x5_1).toNat * 2)) = some (.int .i64 ((rd_T76 l1 x5_1).f0)) ∧ w'.cell? ⟨(ad578.add ((x5_1).toNat * 2)).block, (ad578.add ((x5_1).toNat * 2)).off + 1, none⟩ = some (.int .i64 ((rd_T76 l1 x5_1).f1)) ∧ w'.cell? (ad578.add ((x6_3).toNat * 2)) = some (.int .i64 ((rd_T76 l1 x6_3).f0)) ∧ w'.cell? ⟨(ad578.add ((x6_3).toNat * 2)).block, (ad578.add ((x6_3).toNat * 2)).off + 1, none⟩ = some (.int .i64 ((rd_T76 l1 x6_3).f1)) ∧ w'.cell? (ad578.add ((x5_1).toNat * 2)) = some (.int .i64 ((rd_T76 l1 x5_1).f0)) ∧ w'.cell? ⟨(ad578.add ((x5_1).toNat * 2)).block, (ad578.add ((x5_1).toNat * 2)).off + 1, none⟩ = some (.int .i64 ((rd_T76 l1 x5_1).f1)) ∧ w'.cell? (ad578.add ((x6_3).toNat * 2)) = some (.int .i64 ((rd_T76 l1 x6_3).f0)) ∧ w'.cell? ⟨(ad578.add ((x6_3).toNat * 2)).block, (ad578.add ((x6_3).toNat * 2)).off + 1, none⟩ = some (.int .i64 ((rd_T76 l1 x6_3).f1)) ∧ w'.cell? (ad578.add ((x5_1).toNat * 2)) = some (.int .i64 ((rd_T76 l1 x5_1).f0)) ∧ w'.cell? ⟨(ad578.add ((x5_1).toNat * 2)).block, (ad578.add ((x5_1).toNat * 2)).off + 1, none⟩ = some (.int .i64 ((rd_T76 l1 x5_1).f1)) ∧ w'.cell? (ad578.add ((x6_3).toNat * 2)) = some (.int .i64 ((rd_T76 l1 x6_3).f0)) ∧ w'.cell? ⟨(ad578.add ((x6_3).toNat * 2)).block, (ad578.add ((x6_3).toNat * 2)).off + 1, none⟩ = some (.int .i64 ((rd_T76 l1 x6_3).f1)) ∧ w'.cell? (ad578.add ((x5_1).toNat * 2)) = some (.int .i64 ((rd_T76 l1 x5_1).f0)) ∧ w'.cell? ⟨(ad578.add ((x5_1).toNat * 2)).block, (ad578.add ((x5_1).toNat * 2)).off + 1, none⟩ = some (.int .i64 ((rd_T76 l1 x5_1).f1)) ∧ w'.cell? (ad578.add ((x6_3).toNat * 2)) = some (.int .i64 ((rd_T76 l1 x6_3).f0)) ∧ w'.cell? ⟨(ad578.add ((x6_3).toNat * 2)).block, (ad578.add ((x6_3).toNat * 2)).off + 1, none⟩ = some (.int .i64 ((rd_T76 l1 x6_3).f1))) (ds := []) ⟨(cH HB hw578_0 :), (cH HB hw578_1 :), (cH HB hw579_0 :), (cH HB hw579_1 :), (cH HB hw580_0 :), (cH HB hw580_1 :), (cH HB hw581_0 :), (cH HB hw581_1 :), (cH HB hw582_0 :), (cH HB hw582_1 :), (cH HB hw583_0 :), (cH HB hw583_1 :), (cH HB hw584_0 :), (cH HB hw584_1 :), (cH HB hw585_0 :), (cH HB hw585_1 :)⟩ (fun hHeld => ?_); refine with_tabW spec_l02Is.tab9 spec_l02Is.bits9 (fun HT_ HW_ => ?_)
                  generalize wr.drew = w34 at BK572 HB hx578_0 hx578_1 hx579_0 hx579_1 hx580_0 hx580_1 hx581_0 hx581_1 hx582_0 hx582_1 hx583_0 hx583_1 hx584_0 hx584_1 hx585_0 hx585_1 hHeld ⊢
                  refine pu_ 0 42 1 HT_ ?_
                  refine pu_ 1 43 3 HT_ ?_
                  refine pu_ 2 44 7 HT_ ?_
                  refine pu_ 3 45 15 HT_ ?_
                  refine pu_ 5 47 47 HT_ ?_
                  refine pu_ 6 48 111 HT_ ?_
                  refine pu_ 7 49 239 HT_ ?_
                  refine pu_ 8 50 495 HT_ ?_
                  refine tk_ 4 46 511 HT_ HW_ hHeld ?_
                  refine tk_ 9 51 1023 HT_ HW_ hHeld ?_
                  refine pu_ 10 52 2047 HT_ ?_
                  refine pu_ 11 53 4095 HT_ ?_
                  refine pu_ 12 54 8191 HT_ ?_
                  refine pu_ 13 55 16383 HT_ ?_
                  refine pu_ 14 56 32767 HT_ ?_
                  refine pu_ 15 57 65535 HT_ ?_
                  refine pu_ 17 59 196607 HT_ ?_
                  refine pu_ 18 60 458751 HT_ ?_
                  refine pu_ 19 61 983039 HT_ ?_
                  refine pu_ 20 62 2031615 HT_ ?_
                  refine tk_ 16 58 2097151 HT_ HW_ hHeld ?_
                  refine tk_ 21 63 4194303 HT_ HW_ hHeld ?_
                  refine pu_ 22 64 8388607 HT_ ?_
                  refine pu_ 23 65 16777215 HT_ ?_
                  refine pu_ 24 66 33554431 HT_ ?_
                  refine pu_ 25 67 67108863 HT_ ?_
                  refine pu_ 26 68 134217727 HT_ ?_
                  refine pu_ 27 69 268435455 HT_ ?_
                  refine pu_ 28 70 536870911 HT_ ?_
                  refine pu_ 30 72 1610612735 HT_ ?_
                  refine pu_ 31 73 3758096383 HT_ ?_
                  refine pu_ 32 74 8053063679 HT_ ?_
                  refine pu_ 33 75 16642998271 HT_ ?_
                  refine tk_ 29 71 17179869183 HT_ HW_ hHeld ?_
                  refine tk_ 34 76 34359738367 HT_ HW_ hHeld ?_
                  refine pu_ 35 77 68719476735 HT_ ?_
                  refine pu_ 36 78 137438953471 HT_ ?_
                  refine pu_ 37 79 274877906943 HT_ ?_
                  refine pu_ 38 80 549755813887 HT_ ?_
                  refine pu_ 39 81 1099511627775 HT_ ?_
                  refine pu_ 40 82 2199023255551 HT_ ?_
                  refine pu_ 41 83 4398046511103 HT_ ?_
                  refine pu_ 43 85 13194139533311 HT_ ?_
                  refine pu_ 44 86 30786325577727 HT_ ?_
                  refine pu_ 45 87 65970697666559 HT_ ?_
                  refine pu_ 46 88 136339441844223 HT_ ?_
                  refine tk_ 42 84 140737488355327 HT_ HW_ hHeld ?_
                  refine tk_ 47 89 281474976710655 HT_ HW_ hHeld ?_
                  refine pu_ 48 90 562949953421311 HT_ ?_
                  refine pu_ 49 91 1125899906842623 HT_ ?_
                  refine dn_ HT_ ?_
                  try go_wp2
                  go_ret
                  exact ⟨by first | rfl | (simp [errW_none, errW_some] <;> rfl) | (simp [*, errW_none, errW_some] <;> rfl), pH HB⟩
                 ·rw [if_neg c33] at H
                  have c33b0 : (((rd_T76 l1 x5_1).f1) == ((rd_T76 l1 x6_3).f1)) = false := beq_eq_false_iff_ne.mpr c33
                  have c33b1 : (((rd_T76 l1 x5_1).f1) != ((rd_T76 l1 x6_3).f1)) = true := bne_iff_ne.mpr c33
                  have H' := Aside0.mk H
                  clear H
                  try go_wp2
                  replace BK572 := dB BK572
                  replace HB := dH HB
                  have p578 : 0 ≤ (x5_1 : Int) := of_decide_eq_true (by first | (with_reducible assumption) | assumption)
                  have q578 : x5_1 < (l1.length : Int) := of_decide_eq_true (by first | (with_reducible assumption) | assumption)
                  obtain ⟨ad578, e578, hx578_0, hx578_1⟩ := at_T76 HR1.out x5_1 p578 q578
                  have hw578_1 := hx578_1
                  have hw578_0 := hx578_0
                  cases e578
                  replace hx578_0 := cH HB hx578_0
                  replace hx578_1 := cH HB hx578_1
                  replace p578 := eq_true p578
                  replace q578 := eq_true q578
                  have p579 : 0 ≤ (x6_3 : Int) := of_decide_eq_true (by first | (with_reducible assumption) | assumption)
                  have q579 : x6_3 < (l1.length : Int) := of_decide_eq_true (by first | (with_reducible assumption) | assumption)
                  obtain ⟨ad579, e579, hx579_0, hx579_1⟩ := at_T76 HR1.out x6_3 p579 q579
                  have hw579_1 := hx579_1
                  have hw579_0 := hx579_0
                  obtain rfl : ad578 = ad579 := (by injection e579)
                  replace hx579_0 := cH HB hx579_0
                  replace hx579_1 := cH HB hx579_1
                  replace p579 := eq_true p579
                  replace q579 := eq_true q579
                  have p580 : 0 ≤ (x5_1 : Int) := of_decide_eq_true (by first | (with_reducible assumption) | assumption)
                  have q580 : x5_1 < (l1.length : Int) := of_decide_eq_true (by first | (with_reducible assumption) | assumption)
                  obtain ⟨ad580, e580, hx580_0, hx580_1⟩ := at_T76 HR1.out x5_1 p580 q580
                  have hw580_1 := hx580_1
                  have hw580_0 := hx580_0
                  obtain rfl : ad578 = ad580 := (by injection e580)
                  replace hx580_0 := cH HB hx580_0
                  replace hx580_1 := cH HB hx580_1
                  replace p580 := eq_true p580
                  replace q580 := eq_true q580
                  have p581 : 0 ≤ (x6_3 : Int) := of_decide_eq_true (by first | (with_reducible assumption) | assumption)
                  have q581 : x6_3 < (l1.length : Int) := of_decide_eq_true (by first | (with_reducible assumption) | assumption)
                  obtain ⟨ad581, e581, hx581_0, hx581_1⟩ := at_T76 HR1.out x6_3 p581 q581
                  have hw581_1 := hx581_1
                  have hw581_0 := hx581_0
                  obtain rfl : ad578 = ad581 := (by injection e581)
                  replace hx581_0 := cH HB hx581_0
                  replace hx581_1 := cH HB hx581_1
                  replace p581 := eq_true p581
                  replace q581 := eq_true q581
                  have p582 : 0 ≤ (x5_1 : Int) := of_decide_eq_true (by first | (with_reducible assumption) | assumption)
                  have q582 : x5_1 < (l1.length : Int) := of_decide_eq_true (by first | (with_reducible assumption) | assumption)
                  obtain ⟨ad582, e582, hx582_0, hx582_1⟩ := at_T76 HR1.out x5_1 p582 q582
                  have hw582_1 := hx582_1
                  have hw582_0 := hx582_0
                  obtain rfl : ad578 = ad582 := (by injection e582)
                  replace hx582_0 := cH HB hx582_0
                  replace hx582_1 := cH HB hx582_1
                  replace p582 := eq_true p582
                  replace q582 := eq_true q582
                  have p583 : 0 ≤ (x6_3 : Int) := of_decide_eq_true (by first | (with_reducible assumption) | assumption)
                  have q583 : x6_3 < (l1.length : Int) := of_decide_eq_true (by first | (with_reducible assumption) | assumption)
                  obtain ⟨ad583, e583, hx583_0, hx583_1⟩ := at_T76 HR1.out x6_3 p583 q583
                  have hw583_1 := hx583_1
                  have hw583_0 := hx583_0
                  obtain rfl : ad578 = ad583 := (by injection e583)
                  replace hx583_0 := cH HB hx583_0
                  replace hx583_1 := cH HB hx583_1
                  replace p583 := eq_true p583
                  replace q583 := eq_true q583
                  have p584 : 0 ≤ (x5_1 : Int) := of_decide_eq_true (by first | (with_reducible assumption) | assumption)
                  have q584 : x5_1 < (l1.length : Int) := of_decide_eq_true (by first | (with_reducible assumption) | assumption)
                  obtain ⟨ad584, e584, hx584_0, hx584_1⟩ := at_T76 HR1.out x5_1 p584 q584
                  have hw584_1 := hx584_1
                  have hw584_0 := hx584_0
                  obtain rfl : ad578 = ad584 := (by injection e584)
                  replace hx584_0 := cH HB hx584_0
                  replace hx584_1 := cH HB hx584_1
                  replace p584 := eq_true p584
                  replace q584 := eq_true q584
                  have p585 : 0 ≤ (x6_3 : Int) := of_decide_eq_true (by first | (with_reducible assumption) | assumption)
                  have q585 : x6_3 < (l1.length : Int) := of_decide_eq_true (by first | (with_reducible assumption) | assumption)
                  obtain ⟨ad585, e585, hx585_0, hx585_1⟩ := at_T76 HR1.out x6_3 p585 q585
                  have hw585_1 := hx585_1
                  have hw585_0 := hx585_0
                  obtain rfl : ad578 = ad585 := (by injection e585)
                  replace hx585_0 := cH HB hx585_0
                  replace hx585_1 := cH HB hx585_1
                  replace p585 := eq_true p585
                  replace q585 := eq_true q585
                  refine st_ 50 (S := fun w' => w'.cell? (ad578.add ((x5_1).toNat * 2)) = some (.int .i64 ((rd_T76 l1 x5_1).f0)) ∧ w'.cell? ⟨(ad578.add ((x5_1).toNat * 2)).block, (ad578.add ((x5_1).toNat * 2)).off + 1, none⟩ = some (.int .i64 ((rd_T76 l1 x5_1).f1)) ∧ w'.cell? (ad578.add ((x6_3).toNat * 2)) = some (.int .i64 ((rd_T76 l1 x6_3).f0)) ∧ w'.cell? ⟨(ad578.add ((x6_3).toNat * 2)).block, (ad578.add ((x6_3).toNat * 2)).off + 1, none⟩ = some (.int .i64 ((rd_T76 l1 x6_3).f1)) ∧ w'.cell? (ad578.add ((x5_1).toNat * 2)) = some (.int .i64 ((rd_T76 l1 x5_1).f0)) ∧ w'.cell? ⟨(ad578.add ((x5_1).toNat * 2)).block, (ad578.add ((x5_1).toNat * 2)).off + 1, none⟩ = some (.int .i64 ((rd_T76 l1 x5_1).f1)) ∧ w'.cell? (ad578.add ((x6_3).toNat * 2)) = some (.int .i64 ((rd_T76 l1 x6_3).f0)) ∧ w'.cell? ⟨(ad578.add ((x6_3).toNat * 2)).block, (ad578.add ((x6_3).toNat * 2)).off + 1, none⟩ = some (.int .i64 ((rd_T76 l1 x6_3).f1)) ∧ w'.cell? (ad578.add ((x5_1).toNat * 2)) = some (.int .i64 ((rd_T76 l1 x5_1).f0)) ∧ w'.cell? ⟨(ad578.add ((x5_1).toNat * 2)).block, (ad578.add ((x5_1).toNat * 2)).off + 1, none⟩ = some (.int .i64 ((rd_T76 l1 x5_1).f1)) ∧ w'.cell? (ad578.add ((x6_3).toNat * 2)) = some (.int .i64 ((rd_T76 l1 x6_3).f0)) ∧ w'.cell? ⟨(ad578.add ((x6_3).toNat * 2)).block, (ad578.add ((x6_3).toNat * 2)).off + 1, none⟩ = some (.int .i64 ((rd_T76 l1 x6_3).f1)) ∧ w'.cell? (ad578.add ((x5_1).toNat * 2)) = some (.int .i64 ((rd_T76 l1 x5_1).f0)) ∧ w'.cell? ⟨(ad578.add ((x5_1).toNat * 2)).block, (ad578.add ((x5_1).toNat * 2)).off + 1, none⟩ = some (.int .i64 ((rd_T76 l1 x5_1).f1)) ∧ w'.cell? (ad578.add ((x6_3).toNat * 2)) = some (.int .i64 ((rd_T76 l1 x6_3).f0)) ∧ w'.cell? ⟨(ad578.add ((x6_3).toNat * 2)).block, (ad578.add ((x6_3).toNat * 2)).off + 1, none⟩ = some (.int .i64 ((rd_T76 l1 x6_3).f1))) (ds := []) ⟨(cH HB hw578_0 :), (cH HB hw578_1 :), (cH HB hw579_0 :), (cH HB hw579_1 :), (cH HB hw580_0 :), (cH HB hw580_1 :), (cH HB hw581_0 :), (cH HB hw581_1 :), (cH HB hw582_0 :), (cH HB hw582_1 :), (cH HB hw583_0 :), (cH HB hw583_1 :), (cH HB hw584_0 :), (cH HB hw584_1 :), (cH HB hw585_0 :), (cH HB hw585_1 :)⟩ (fun hHeld => ?_); refine with_tabW spec_l02Is.tab9 spec_l02Is.bits9 (fun HT_ HW_ => ?_)
                  generalize wr.drew = w35 at BK572 HB hx578_0 hx578_1 hx579_0 hx579_1 hx580_0 hx580_1 hx581_0 hx581_1 hx582_0 hx582_1 hx583_0 hx583_1 hx584_0 hx584_1 hx585_0 hx585_1 hHeld ⊢
                  refine pu_ 0 42 1 HT_ ?_
                  refine pu_ 1 43 3 HT_ ?_
                  refine pu_ 2 44 7 HT_ ?_
                  refine pu_ 3 45 15 HT_ ?_
                  refine pu_ 5 47 47 HT_ ?_
                  refine pu_ 6 48 111 HT_ ?_
                  refine pu_ 7 49 239 HT_ ?_
                  refine pu_ 8 50 495 HT_ ?_
                  refine tk_ 4 46 511 HT_ HW_ hHeld ?_
                  refine tk_ 9 51 1023 HT_ HW_ hHeld ?_
                  refine pu_ 10 52 2047 HT_ ?_
                  refine pu_ 11 53 4095 HT_ ?_
                  refine pu_ 12 54 8191 HT_ ?_
                  refine pu_ 13 55 16383 HT_ ?_
                  refine pu_ 14 56 32767 HT_ ?_
                  refine pu_ 15 57 65535 HT_ ?_
                  refine pu_ 17 59 196607 HT_ ?_
                  refine pu_ 18 60 458751 HT_ ?_
                  refine pu_ 19 61 983039 HT_ ?_
                  refine pu_ 20 62 2031615 HT_ ?_
                  refine tk_ 16 58 2097151 HT_ HW_ hHeld ?_
                  refine tk_ 21 63 4194303 HT_ HW_ hHeld ?_
                  refine pu_ 22 64 8388607 HT_ ?_
                  refine pu_ 23 65 16777215 HT_ ?_
                  refine pu_ 24 66 33554431 HT_ ?_
                  refine pu_ 25 67 67108863 HT_ ?_
                  refine pu_ 26 68 134217727 HT_ ?_
                  refine pu_ 27 69 268435455 HT_ ?_
                  refine pu_ 28 70 536870911 HT_ ?_
                  refine pu_ 30 72 1610612735 HT_ ?_
                  refine pu_ 31 73 3758096383 HT_ ?_
                  refine pu_ 32 74 8053063679 HT_ ?_
                  refine pu_ 33 75 16642998271 HT_ ?_
                  refine tk_ 29 71 17179869183 HT_ HW_ hHeld ?_
                  refine tk_ 34 76 34359738367 HT_ HW_ hHeld ?_
                  refine pu_ 35 77 68719476735 HT_ ?_
                  refine pu_ 36 78 137438953471 HT_ ?_
                  refine pu_ 37 79 274877906943 HT_ ?_
                  refine pu_ 38 80 549755813887 HT_ ?_
                  refine pu_ 39 81 1099511627775 HT_ ?_
                  refine pu_ 40 82 2199023255551 HT_ ?_
                  refine pu_ 41 83 4398046511103 HT_ ?_
                  refine pu_ 43 85 13194139533311 HT_ ?_
                  refine pu_ 44 86 30786325577727 HT_ ?_
                  refine pu_ 45 87 65970697666559 HT_ ?_
                  refine pu_ 46 88 136339441844223 HT_ ?_
                  refine tk_ 42 84 140737488355327 HT_ HW_ hHeld ?_
                  refine tk_ 47 89 281474976710655 HT_ HW_ hHeld ?_
                  refine pu_ 48 90 562949953421311 HT_ ?_
                  refine pu_ 49 91 1125899906842623 HT_ ?_
                  refine dn_ HT_ ?_
                  try go_wp2
                  go_roundg k3
                  case measure => have := HK1.out; have := HJ4.out; have := HK3.out; omega
                  case rel => exact ⟨(wrap64 (x6_3 + 1)), (by first | rfl | (simp; done) | (simp [*]; done)), H', ⟨by have := HK1.out; have := HJ4.out; have := HK3.out; omega⟩, ⟨pB BK572⟩, ⟨pH HB⟩⟩
             ·rw [if_neg c26] at H
              exact absurd H (by simp)
            ·rw [if_neg c25] at H
             exact absurd H (by simp)
           ·rw [if_neg c24] at H
            exact absurd H (by simp)
          ·rw [if_neg c23] at H
           exact absurd H (by simp)
         ·rw [if_neg c22] at H
          have c22b0 : decide (x6_3 < x5_1) = false := decide_eq_false c22
          clear c22
          have H' := Aside0.mk H
          clear H
          go_wp2
          go_roundg k3
          case measure => have := HK1.out; have := HJ4.out; have := HK3.out; omega
          case rel => exact ⟨(wrap64 (x5_1 + 1)), (by first | rfl | (simp; done) | (simp [*]; done)), H', ⟨by have := HK1.out; have := HJ4.out; have := HK3.out; omega⟩, ⟨pB BK572⟩, ⟨pH HB⟩⟩
   ·rw [if_neg c4] at H
    have c4b0 : decide (x5_1 < (l1.length : Int)) = false := decide_eq_false c4
    clear c4
    obtain rfl := Option.some.inj H
    go_wp2
    go_ret
    exact ⟨by first | rfl | (simp [errW_none, errW_some] <;> rfl) | (simp [*, errW_none, errW_some] <;> rfl), pH HB⟩
end Go.Proofs.Ytnmhnkpijjmhjaa.QS
namespace Go.Proofs.Ytnmhnkpijjmhjaa.Im
set_option linter.unusedVariables false
set_option linter.unusedSimpArgs false
open Go.RowKit Go.Shelf Go.Proofs.Ytnmhnkpijjmhjaa.Kp Go.Proofs.Ytnmhnkpijjmhjaa.Ext Go.Proofs.Ytnmhnkpijjmhjaa.Cw Go.Proofs.YtnmhnkpijjmhjaaW.PrintWords Go.Proofs.YtnmhnkpijjmhjaaW.PrintLast Go.Proofs.YtnmhnkpijjmhjaaW.PrintMore
theorem lessS_f (p q : Pr) : QS.spec_l02Less.f p.f0 p.f1 q.f0 q.f1 = some (decide (cmpP p q < 0)) := by
  unfold QS.spec_l02Less.f cmpP cmpI
  by_cases h1 : p.f0 < q.f0
  · rw [if_pos h1]; simp [h1]
  · rw [if_neg h1]
    by_cases h2 : p.f0 = q.f0
    · rw [if_pos h2]
      by_cases h3 : p.f1 < q.f1
      · simp [h2, h3]
      · by_cases h4 : p.f1 > q.f1
        · simp [h2, h3, h4]
        · simp [h2, h3, h4]
    · rw [if_neg h2]
      by_cases h3 : p.f0 > q.f0
      · simp [h1, h2, h3]
      · omega
/-- The place of a pair, looked for from the end. -/
def backP (l : List Pr) (p : Pr) : Nat → Nat
  | 0 => 0
  | a + 1 => if cmpP p (l.getD a z76) < 0 then backP l p a else a + 1
def putP (l : List Pr) (p : Pr) : List Pr := l.take (backP l p l.length) ++ p :: l.drop (backP l p l.length)
section
variable {ops : Array Oper} {o : Oper} {a : Act} {Q : Exit → Act → World → Prop} {K : Act → World → Prop}
/-- append(v, ys...) in a region that draws. -/
theorem apPsR {w0 W : World} (base : Nat) (s x : Operand) (v : Value) (xs ys : List Pr) (A : Option Addr) (m c : Nat)
    (hs : a.eval s = v) (hx : a.eval x = .slice A m c) (HO : PO W base v xs) (HR : Kd.C k76 W A m ys) (HB : Below base w0 W) (hbase : base ≤ W.heap.size) (hl : xs.length + m ≤ 8796093022208)
    (h : ∀ v1 w1, PO w1 base v1 (xs ++ ys) → Below base w0 w1 → W.grownBy w1 v.ownBlock → (v1.ownBlock = v.ownBlock ∨ ∃ b, v1.ownBlock = some b ∧ W.heap.size ≤ b) → K (a.put o.dst v1) w1)
    (hw : Region.wanted o (yielded ops a.tmps) = true := by rfl) (ho : o.op = .call { callee := .builtin .append, args := #[s, x], argTypes := #[27, 27] } := by rfl) :
    if Region.wanted o (yielded ops a.tmps) = true then Oper.wp Try.prog o a W K Q else K (a.put o.dst undef) W :=
  Kd.R_append_rows_step k76 base hw s x 27 76 (.agg #[.int .i64 0, .int .i64 0]) 16 ho Try.underlying27 infoP rfl (by decide) (by decide) v xs ys A m c (fun _ => True) (fun _ => False) hs hx HO HR
    (fun x cs h => by rw [k76_open h]; exact k76_mkM _ _ _ _) (fun _ h => h.elim) (fun _ _ => trivial) HB hbase (by omega) h
end
theorem PO.one (w : World) (base : Nat) (p : Pr) (hb : base ≤ w.heap.size) : PO (w.alloc (.cells #[.int .i64 p.f0, .int .i64 p.f1] 76)) base (.slice (some ⟨w.heap.size, 0, none⟩) 1 1) [p] :=
  PO.mk (xs := [p]) (cap := 1) (cur := [.int .i64 p.f0, .int .i64 p.f1]) hb (heap_alloc_new w _) (Nat.le_refl _) (by simp [maxLen]) rfl rfl
theorem prAt_grown1 {w w1 : World} {b g : Nat} {x y : Int} {v : Value} (h : PrAt w g x y) (hv : v.ownBlock = some b) (hne : g ≠ b) (hg : w.grownBy w1 v.ownBlock) : PrAt w1 g x y := (hg.block g h.lt (fun e => hne (by rw [hv] at e; injection e))).trans h
theorem cxAt_grown1 {w w1 : World} {b g : Nat} {n : Int} {A : Option Addr} {len c : Nat} {v : Value} (h : CxAt w g n A len c) (hl : g < w.heap.size) (hv : v.ownBlock = some b) (hne : g ≠ b) (hg : w.grownBy w1 v.ownBlock) : CxAt w1 g n A len c := (hg.block g hl (fun e => hne (by rw [hv] at e; injection e))).trans h
def With2Post (w : World) (r : List Pr) (b : Bool) (e : Ending) (w' : World) : Prop := ∃ v : Value, e = .returned (.tuple #[v, .bool b]) ∧ PO w' w.heap.size v r ∧ Below w.heap.size w w'
set_option maxRecDepth 100000 in
set_option maxHeartbeats 1000000 in
theorem with2_c (k : Nat) (n : Int) (A : Option Addr) (c : Nat) (xs : List Int) (A1 : Option Addr) (c1 : Nat) (l : List Pr) (p : Pr) (b : Bool) (w : World) (hr : RC w A xs.length xs) (hc : xs.length ≤ c) (hr1 : Kd.C k76 w A1 l.length l) (hc1 : l.length ≤ c1) (hl : l.length ≤ 1000000)
    (hk : QS.spec_l02Is.f k n xs (putP l p) = some b) :
    Calls Try.prog 183 #[.agg #[.int .i64 n, .slice A xs.length c], .slice A1 l.length c1, .agg #[.int .i64 p.f0, .int .i64 p.f1]] w (With2Post w (putP l p) b) := by
  have hx0 := Aside0.mk ((CxAt.new w n A xs.length c).below (below_alloc (Below.refl _ _) (.cells #[.int .i64 p.f0, .int .i64 p.f1] 76)))
  have hp0 : Aside0 (PrAt ((w.alloc (.cells #[.int .i64 n, .slice A xs.length c] 26)).alloc (.cells #[.int .i64 p.f0, .int .i64 p.f1] 76)) (w.heap.size + 1) p.f0 p.f1) := ⟨by simpa using PrAt.new (w.alloc (.cells #[.int .i64 n, .slice A xs.length c] 26)) p.f0 p.f1⟩
  have hb0 := Aside0.mk (below_alloc (below_alloc (Below.refl w.heap.size w) (.cells #[.int .i64 n, .slice A xs.length c] 26)) (.cells #[.int .i64 p.f0, .int .i64 p.f1] 76))
  have HR := Aside0.mk hr
  have HR1 := Aside0.mk hr1
  have HC := Aside0.mk hc
  have HC1 := Aside0.mk hc1
  have HK := Aside0.mk hk
  clear hr hr1 hc hc1 hk
  go_enter Try.func183, Try.ntmps183
  go_wp2
  go_loopw [8] (fun s8 wr => ∃ m : Nat, m ≤ l.length ∧ s8 = .int .i64 m ∧ Aside0 (backP l p l.length = backP l p m) ∧ Aside0 (Below w.heap.size w wr) ∧ Aside0 (CxAt wr w.heap.size n A xs.length c) ∧ Aside0 (PrAt wr (w.heap.size + 1) p.f0 p.f1)) (fun s8 _ => (intOf s8).toNat)
  case atStart => exact ⟨l.length, by omega, rfl, ⟨rfl⟩, hb0, hx0, hp0⟩
  case round =>
    clear hx0 hp0 hb0
    obtain ⟨m, hm, rfl, hback, HB, HX, HP⟩ := hrel
    by_cases h0 : m = 0
    · have hgz : ¬ ((0 : Int) < (m : Int)) := by omega
      have hgn : ¬ (0 < m) := by omega
      have HM : Aside0 (backP l p l.length = m) := ⟨by rw [hback.out, h0]; rfl⟩
      clear h0 hback
      go_wp2
      have HPd := Aside0.mk HP.out.drew; have HBd := Aside0.mk HB.out.drew; have HXd := Aside0.mk HX.out.drew'; clear HP HB HX; have HP := HPd; have HB := HBd; have HX := HXd; clear HPd HBd HXd
      refine st_ 11 (S := fun w' => True) (ds := []) trivial (fun hHeld => ?_)
      refine with_tabW (T := (true, [([], []), ([0], [0]), ([1], [1]), ([2], [2]), ([2], [2]), ([2], [2]), ([5, 2], [2, 5]), ([4, 6, 2], [2, 4, 6]), ([7, 2], [2, 7]), ([3, 8, 2, 2], [2, 3, 8]), ([2, 9], [2, 9])])) (B := [0, 1, 3, 7, 7, 7, 39, 119, 247, 511, 1023]) (by kernel_rfl) (by kernel_rfl) (fun HT_ HW_ => ?_)
      refine pd_ 0 13 1 HT_ ?_
      refine pd_ 1 14 3 HT_ ?_
      refine pd_ 2 15 7 HT_ ?_
      refine pn_ 3 16 15 HT_ ?_
      refine pn_ 4 17 31 HT_ ?_
      refine pn_ 5 18 63 HT_ ?_
      refine pn_ 6 19 127 HT_ ?_
      refine pn_ 7 20 255 HT_ ?_
      refine pn_ 8 21 511 HT_ ?_
      refine pn_ 9 22 1023 HT_ ?_
      refine pd_ 10 23 2047 HT_ ?_
      refine dn_ HT_ ?_
      have HPUT : Aside0 (putP l p = l.take m ++ ([p] ++ l.drop m)) := ⟨by unfold putP; rw [HM.out]; rfl⟩
      have hml := Aside0.mk hm
      obtain ⟨D, hD⟩ : ∃ D, D = (if c1 = m then A1 else A1.map (·.add (m * 2))) := ⟨_, rfl⟩
      have hcutF : ∀ W : World, (Instr.slice 27 (.slice A1 l.length c1) (some (.int .i64 (m : Int))) none none).run Try.prog W = .ok (.slice D (l.length - m) (c1 - m)) W := by
        intro W
        obtain ⟨i0, hi0, hz0, hzs, hzb⟩ := info_parts infoP
        have := cut_from 27 76 .i64 Try.underlying27 hi0 2 hzs A1 l.length c1 (m : Int) (by omega) (by omega) W
        rw [Int.toNat_natCast, ← hD] at this
        exact this
      have hcutT : ∀ W : World, (Instr.slice 27 (.slice A1 l.length c1) none (some (.int .i64 (m : Int))) none).run Try.prog W = .ok (.slice A1 m c1) W := by
        intro W
        obtain ⟨i0, hi0, hz0, hzs, hzb⟩ := info_parts infoP
        have := cut_to 27 76 .i64 Try.underlying27 hi0 A1 l.length c1 (m : Int) (by omega) (by omega) HC1.out W
        rw [Int.toNat_natCast] at this
        exact this
      have HRD : Aside0 (∀ W, Below w.heap.size w W → Kd.C k76 W D (l.length - m) (l.drop m)) := ⟨fun W hW => by
        have := Kd.C_drop (Kd.C_below HR1.out hW) hm HC1.out
        rw [List.length_drop] at this
        rw [hD]
        exact this⟩
      have HRT : Aside0 (∀ W, Below w.heap.size w W → Kd.C k76 W A1 m (l.take m)) := ⟨fun W hW => by
        have := Kd.C_take (Kd.C_below HR1.out hW) hm
        rw [List.length_take, Nat.min_eq_left hm] at this
        exact this⟩
      clear hD
      go_wp2
      refine st_ 7 (S := fun w' => w'.cell? ⟨w.heap.size + 1, 0, none⟩ = some (.int .i64 p.f0) ∧ w'.cell? ⟨w.heap.size + 1, 1, none⟩ = some (.int .i64 p.f1)) (ds := []) ⟨HP.out.c0, HP.out.c1⟩ (fun hHeld => ?_)
      refine with_tabW (T := (true, [([], []), ([0], [0]), ([], []), ([], []), ([2, 3], [2, 3]), ([1, 4], [1, 4]), ([5, 5, 0, 1, 2, 3, 4, 5], [5])])) (B := [0, 1, 0, 0, 12, 31, 63]) (by kernel_rfl) (by kernel_rfl) (fun HT_ HW_ => ?_)
      refine pd_ 2 28 4 HT_ ?_
      refine pd_ 3 29 12 HT_ ?_
      refine pd_ 4 30 28 HT_ ?_
      refine tk_ 0 26 29 HT_ HW_ hHeld ?_
      refine on_ 1 (some 27) 31 HT_ (fun K hK => ?_)
      (refine value_ (by rfl) rfl (v := .slice (some ⟨wr.drew.heap.size, 0, none⟩) 1 1) (w1 := wr.drew.drew.alloc (.cells #[.int .i64 p.f0, .int .i64 p.f1] 76)) (by go_simp) ?_; have HX1 := Aside0.mk (HX.out.below (below_alloc (Below.refl _ _) (.cells #[.int .i64 p.f0, .int .i64 p.f1] 76))).drew'; have HP1 := Aside0.mk (HP.out.alloc (.cells #[.int .i64 p.f0, .int .i64 p.f1] 76)).drew; have HB1 := Aside0.mk (HB.out.drew.alloc HB.out.drew.size (.cells #[.int .i64 p.f0, .int .i64 p.f1] 76)); have HLT := Aside0.mk HP.out.lt; have HO1 := Aside0.mk (PO.one wr.drew.drew w.heap.size p HB.out.drew.size); clear HX HP HB)
      refine hK.out _ _ ⟨HP1.out.c0, HP1.out.c1⟩ (fun hHeld => ?_)
      clear hK K
      refine nm_ ?_
      refine on_ 5 (some 31) 63 HT_ (fun K hK => ?_)
      (refine apPsR w.heap.size (.tmp 27) (.tmp 30) _ [p] (l.drop m) D (l.length - m) (c1 - m) rfl rfl HO1.out (HRD.out _ HB1.out) HB1.out HB1.out.size (by simp; omega) ?_; intro v1 w5 ho hb hg hat; have HV1 := Aside0.mk ho; have HB5 := Aside0.mk hb; have HX5 := Aside0.mk (cxAt_grown1 (b := wr.drew.drew.heap.size) HX1.out (Nat.lt_of_succ_lt HP1.out.lt) rfl (Nat.ne_of_lt (Nat.lt_of_succ_lt HLT.out)) hg); have HP5 := Aside0.mk (prAt_grown1 (b := wr.drew.drew.heap.size) HP1.out rfl (Nat.ne_of_lt HLT.out) hg); clear ho hb hg hat HX1 HP1 HB1 HO1)
      refine hK.out _ _ ⟨HP5.out.c0, HP5.out.c1⟩ (fun hHeld => ?_)
      clear hK K
      refine nm_ ?_
      refine pd_ 6 9 127 HT_ ?_
      refine dn_ HT_ ?_
      obtain ⟨A7, c7, rfl⟩ := Kd.R_slice HV1.out
      have hd7 : ([p] ++ l.drop m).length = l.length - m + 1 := by simp <;> omega
      have HRV : Aside0 (∀ W, Below w5.heap.size w5 W → Kd.C k76 W A7 (l.length - m + 1) ([p] ++ l.drop m)) := ⟨fun W hW => by
        have := (Kd.R_reads' HV1.out).2.2
        rw [hd7] at this
        exact Kd.C_below this hW⟩
      have HO6 := Aside0.mk (PO.made w5 w5.heap.size 0 #[] (Nat.le_refl _) (Nat.zero_le _) rfl)
      have HB6 : Aside0 (Below w5.heap.size w5 (w5.alloc (.cells #[] 76))) := ⟨below_alloc (Below.refl _ _) _⟩
      rw [hd7]
      go_wp2_with (first
        | (at_builtin; refine apPs w5.heap.size rfl (.tmp 32) (.tmp 35) rfl _ _ (l.take m) A1 m c1 rfl rfl HO6.out (HRT.out _ (below_in HB5.out HB6.out)) HB6.out HB6.out.size (by simp; omega) ?_; intro v8 w8 ho hb hg hat; clear hat hg; have HO8 := Aside0.mk ho; have HB8 := Aside0.mk hb; clear ho hb)
        | (at_builtin; refine apPs w5.heap.size rfl (.tmp 36) (.tmp 37) rfl _ _ ([p] ++ l.drop m) A7 _ _ rfl rfl HO8.out (HRV.out _ HB8.out) HB8.out HB8.out.size (by simp; omega) ?_; intro v9 w9 ho hb hg hat; clear hat hg; rw [List.nil_append, ← HPUT.out] at ho; have HO9 := Aside0.mk ho; have HB9 := Aside0.mk hb; clear ho hb; obtain ⟨A9, c9, rfl⟩ := Kd.R_slice HO9.out; have HX9 := Aside0.mk (HX5.out.below HB9.out); have hx9 := HX9.out.c0; have hy9 := HX9.out.c1)
        | (go_at_call 174; refine (QS.spec_l02Is.calls k n A c xs A9 c9 (putP l p) b _ (Kd.C_below HR.out (below_in HB5.out HB9.out)) HC.out (Kd.R_reads' HO9.out).2.2 (Kd.R_reads' HO9.out).2.1 HK.out).mono ?_; rintro e w10 ⟨rfl, hb⟩; have HB10 := Aside0.mk hb; clear hb))
      go_ret2
      exact ⟨_, rfl, Kd.R_lower (Kd.R_below HO9.out HB10.out) HB5.out.size, below_in HB5.out (below_in HB9.out HB10.out)⟩
    · have hgz : (0 : Int) < (m : Int) := by omega
      have hgn : 0 < m := by omega
      obtain ⟨m', hm'⟩ : ∃ m', m = m' + 1 := ⟨m - 1, by omega⟩
      obtain ⟨ad, rfl, hp0, hp1⟩ := pair_at (Kd.C_below HR1.out HB.out) m' (by omega)
      have hback' := hback.out
      rw [hm', show backP l p (m' + 1) = if cmpP p (l.getD m' z76) < 0 then backP l p m' else m' + 1 from rfl, ← hm'] at hback'
      generalize l.getD m' z76 = q at hp0 hp1 hback'
      have HW : Aside0 (CellsQ wr ad m' q) := ⟨⟨hp0, hp1⟩⟩
      have HBK := Aside0.mk hback'
      clear hp0 hp1 hback hback'
      have hmlt : (m' : Int) < (l.length : Int) := by omega
      have hwm : wrap64 ((m : Int) - 1) = (m' : Int) := by unfold wrap64; omega
      have HM' := Aside0.mk hm'
      clear hm' h0
      go_wp2
      have HPd := Aside0.mk HP.out.drew; have HBd := Aside0.mk HB.out.drew; have HXd := Aside0.mk HX.out.drew'; have HWd : Aside0 (CellsQ wr.drew ad m' q) := ⟨HW.out⟩; clear HP HB HW HX; have HP := HPd; have HB := HBd; have HW := HWd; have HX := HXd; clear HPd HBd HWd HXd
      refine st_ 11 (S := fun w' => w'.cell? ⟨w.heap.size + 1, 0, none⟩ = some (.int .i64 p.f0) ∧ w'.cell? ⟨w.heap.size + 1, 1, none⟩ = some (.int .i64 p.f1) ∧ w'.cell? (ad.add (m' * 2)) = some (.int .i64 q.f0) ∧ w'.cell? ⟨(ad.add (m' * 2)).block, (ad.add (m' * 2)).off + 1, none⟩ = some (.int .i64 q.f1)) (ds := []) ⟨HP.out.c0, HP.out.c1, HW.out.1, HW.out.2⟩ (fun hHeld => ?_)
      refine with_tabW (T := (true, [([], []), ([0], [0]), ([1], [1]), ([2], [2]), ([2], [2]), ([2], [2]), ([5, 2], [2, 5]), ([4, 6, 2], [2, 4, 6]), ([7, 2], [2, 7]), ([3, 8, 2, 2], [2, 3, 8]), ([2, 9], [2, 9])])) (B := [0, 1, 3, 7, 7, 7, 39, 119, 247, 511, 1023]) (by kernel_rfl) (by kernel_rfl) (fun HT_ HW_ => ?_)
      refine pd_ 0 13 1 HT_ ?_
      refine pd_ 1 14 3 HT_ ?_
      refine pd_ 2 15 7 HT_ ?_
      refine pd_ 4 17 23 HT_ ?_
      refine pd_ 5 18 55 HT_ ?_
      refine pd_ 6 19 119 HT_ ?_
      refine pd_ 7 20 247 HT_ ?_
      refine tk_ 3 16 255 HT_ HW_ hHeld ?_
      refine tk_ 8 21 511 HT_ HW_ hHeld ?_
      refine on_ 9 (some 22) 1023 HT_ (fun K hK => ?_)
      refine ca_ Try.func211 #[.agg #[.int .i64 p.f0, .int .i64 p.f1], .agg #[.int .i64 q.f0, .int .i64 q.f1]] ?_
      refine (QS.spec_l02Less.calls _ _ _ _ _ _ (lessS_f p q)).mono ?_; rintro e w1 ⟨rfl, hb⟩; have HP1 := Aside0.mk (HP.out.below hb); have HX1 := Aside0.mk (HX.out.below hb); have HB1 := Aside0.mk (below_in HB.out hb); have HW1 := Aside0.mk (cellsQ_below HW.out hb); clear HP HX HB HW; have HP := HP1; have HX := HX1; have HB := HB1; have HW := HW1; clear HP1 HX1 HB1 HW1; generalize cmpP p q = cp at HBK
      refine ⟨_, rfl, ?_⟩
      refine hK.out _ _ ⟨HP.out.c0, HP.out.c1, HW.out.1, HW.out.2⟩ (fun hHeld => ?_)
      clear hK K
      refine nm_ ?_
      refine pd_ 10 23 2047 HT_ ?_
      refine dn_ HT_ ?_
      by_cases hcp : cp < 0
      · rw [if_pos hcp] at HBK
        go_wp2
        go_roundw
        case measure => have := HM'.out; have hwm2 : wrap64 ((m : Int) - 1) = (m' : Int) := by unfold wrap64; omega
                        simp only [intOf, hwm2]; omega
        case rel => exact ⟨m', by have := HM'.out; omega, by rw [show ((m : Int) - 1) = (m' : Int) by have := HM'.out; omega], HBK, HB, HX, HP⟩
      · have HM : Aside0 (backP l p l.length = m) := by rw [if_neg hcp] at HBK; exact HBK
        clear HBK hwm hmlt hgz HW
        have HPUT : Aside0 (putP l p = l.take m ++ ([p] ++ l.drop m)) := ⟨by unfold putP; rw [HM.out]; rfl⟩
        have hml := Aside0.mk hm
        obtain ⟨D, hD⟩ : ∃ D, D = (if c1 = m then (some ad) else (some ad : Option Addr).map (·.add (m * 2))) := ⟨_, rfl⟩
        have hcutF : ∀ W : World, (Instr.slice 27 (.slice (some ad) l.length c1) (some (.int .i64 (m : Int))) none none).run Try.prog W = .ok (.slice D (l.length - m) (c1 - m)) W := by
          intro W
          obtain ⟨i0, hi0, hz0, hzs, hzb⟩ := info_parts infoP
          have := cut_from 27 76 .i64 Try.underlying27 hi0 2 hzs (some ad) l.length c1 (m : Int) (by omega) (by omega) W
          rw [Int.toNat_natCast, ← hD] at this
          exact this
        have hcutT : ∀ W : World, (Instr.slice 27 (.slice (some ad) l.length c1) none (some (.int .i64 (m : Int))) none).run Try.prog W = .ok (.slice (some ad) m c1) W := by
          intro W
          obtain ⟨i0, hi0, hz0, hzs, hzb⟩ := info_parts infoP
          have := cut_to 27 76 .i64 Try.underlying27 hi0 (some ad) l.length c1 (m : Int) (by omega) (by omega) HC1.out W
          rw [Int.toNat_natCast] at this
          exact this
        have HRD : Aside0 (∀ W, Below w.heap.size w W → Kd.C k76 W D (l.length - m) (l.drop m)) := ⟨fun W hW => by
          have := Kd.C_drop (Kd.C_below HR1.out hW) hm HC1.out
          rw [List.length_drop] at this
          rw [hD]
          exact this⟩
        have HRT : Aside0 (∀ W, Below w.heap.size w W → Kd.C k76 W (some ad) m (l.take m)) := ⟨fun W hW => by
          have := Kd.C_take (Kd.C_below HR1.out hW) hm
          rw [List.length_take, Nat.min_eq_left hm] at this
          exact this⟩
        clear hD
        go_wp2
        refine st_ 7 (S := fun w' => w'.cell? ⟨w.heap.size + 1, 0, none⟩ = some (.int .i64 p.f0) ∧ w'.cell? ⟨w.heap.size + 1, 1, none⟩ = some (.int .i64 p.f1)) (ds := []) ⟨HP.out.c0, HP.out.c1⟩ (fun hHeld => ?_)
        refine with_tabW (T := (true, [([], []), ([0], [0]), ([], []), ([], []), ([2, 3], [2, 3]), ([1, 4], [1, 4]), ([5, 5, 0, 1, 2, 3, 4, 5], [5])])) (B := [0, 1, 0, 0, 12, 31, 63]) (by kernel_rfl) (by kernel_rfl) (fun HT_ HW_ => ?_)
        refine pd_ 2 28 4 HT_ ?_
        refine pd_ 3 29 12 HT_ ?_
        refine pd_ 4 30 28 HT_ ?_
        refine tk_ 0 26 29 HT_ HW_ hHeld ?_
        refine on_ 1 (some 27) 31 HT_ (fun K hK => ?_)
        (refine value_ (by rfl) rfl (v := .slice (some ⟨w1.heap.size, 0, none⟩) 1 1) (w1 := w1.drew.alloc (.cells #[.int .i64 p.f0, .int .i64 p.f1] 76)) (by go_simp) ?_; have HX1 := Aside0.mk (HX.out.below (below_alloc (Below.refl _ _) (.cells #[.int .i64 p.f0, .int .i64 p.f1] 76))).drew'; have HP1 := Aside0.mk (HP.out.alloc (.cells #[.int .i64 p.f0, .int .i64 p.f1] 76)).drew; have HB1 := Aside0.mk (HB.out.drew.alloc HB.out.drew.size (.cells #[.int .i64 p.f0, .int .i64 p.f1] 76)); have HLT := Aside0.mk HP.out.lt; have HO1 := Aside0.mk (PO.one w1.drew w.heap.size p HB.out.drew.size); clear HX HP HB)
        refine hK.out _ _ ⟨HP1.out.c0, HP1.out.c1⟩ (fun hHeld => ?_)
        clear hK K
        refine nm_ ?_
        refine on_ 5 (some 31) 63 HT_ (fun K hK => ?_)
        (refine apPsR w.heap.size (.tmp 27) (.tmp 30) _ [p] (l.drop m) D (l.length - m) (c1 - m) rfl rfl HO1.out (HRD.out _ HB1.out) HB1.out HB1.out.size (by simp; omega) ?_; intro v1 w5 ho hb hg hat; have HV1 := Aside0.mk ho; have HB5 := Aside0.mk hb; have HX5 := Aside0.mk (cxAt_grown1 (b := w1.drew.heap.size) HX1.out (Nat.lt_of_succ_lt HP1.out.lt) rfl (Nat.ne_of_lt (Nat.lt_of_succ_lt HLT.out)) hg); have HP5 := Aside0.mk (prAt_grown1 (b := w1.drew.heap.size) HP1.out rfl (Nat.ne_of_lt HLT.out) hg); clear ho hb hg hat HX1 HP1 HB1 HO1)
        refine hK.out _ _ ⟨HP5.out.c0, HP5.out.c1⟩ (fun hHeld => ?_)
        clear hK K
        refine nm_ ?_
        refine pd_ 6 9 127 HT_ ?_
        refine dn_ HT_ ?_
        obtain ⟨A7, c7, rfl⟩ := Kd.R_slice HV1.out
        have hd7 : ([p] ++ l.drop m).length = l.length - m + 1 := by simp <;> omega
        have HRV : Aside0 (∀ W, Below w5.heap.size w5 W → Kd.C k76 W A7 (l.length - m + 1) ([p] ++ l.drop m)) := ⟨fun W hW => by
          have := (Kd.R_reads' HV1.out).2.2
          rw [hd7] at this
          exact Kd.C_below this hW⟩
        have HO6 := Aside0.mk (PO.made w5 w5.heap.size 0 #[] (Nat.le_refl _) (Nat.zero_le _) rfl)
        have HB6 : Aside0 (Below w5.heap.size w5 (w5.alloc (.cells #[] 76))) := ⟨below_alloc (Below.refl _ _) _⟩
        rw [hd7]
        go_wp2_with (first
          | (at_builtin; refine apPs w5.heap.size rfl (.tmp 32) (.tmp 35) rfl _ _ (l.take m) (some ad) m c1 rfl rfl HO6.out (HRT.out _ (below_in HB5.out HB6.out)) HB6.out HB6.out.size (by simp; omega) ?_; intro v8 w8 ho hb hg hat; clear hat hg; have HO8 := Aside0.mk ho; have HB8 := Aside0.mk hb; clear ho hb)
          | (at_builtin; refine apPs w5.heap.size rfl (.tmp 36) (.tmp 37) rfl _ _ ([p] ++ l.drop m) A7 _ _ rfl rfl HO8.out (HRV.out _ HB8.out) HB8.out HB8.out.size (by simp; omega) ?_; intro v9 w9 ho hb hg hat; clear hat hg; rw [List.nil_append, ← HPUT.out] at ho; have HO9 := Aside0.mk ho; have HB9 := Aside0.mk hb; clear ho hb; obtain ⟨A9, c9, rfl⟩ := Kd.R_slice HO9.out; have HX9 := Aside0.mk (HX5.out.below HB9.out); have hx9 := HX9.out.c0; have hy9 := HX9.out.c1)
          | (go_at_call 174; refine (QS.spec_l02Is.calls k n A c xs A9 c9 (putP l p) b _ (Kd.C_below HR.out (below_in HB5.out HB9.out)) HC.out (Kd.R_reads' HO9.out).2.2 (Kd.R_reads' HO9.out).2.1 HK.out).mono ?_; rintro e w10 ⟨rfl, hb⟩; have HB10 := Aside0.mk hb; clear hb))
        go_ret2
        exact ⟨_, rfl, Kd.R_lower (Kd.R_below HO9.out HB10.out) HB5.out.size, below_in HB5.out (below_in HB9.out HB10.out)⟩
end Go.Proofs.Ytnmhnkpijjmhjaa.Im
namespace Go.Proofs.Ytnmhnkpijjmhjaa.QS
set_option linter.unusedVariables false
set_option linter.unusedSimpArgs false
open Go.RowKit Go.Proofs.Ytnmhnkpijjmhjaa.Kp Go.Proofs.Ytnmhnkpijjmhjaa.Ext Go.Proofs.YtnmhnkpijjmhjaaW.PrintWords Go.Proofs.YtnmhnkpijjmhjaaW.PrintLast Go.Proofs.YtnmhnkpijjmhjaaW.PrintMore
def spec_l02With.f (k : Nat) (a0_0 : Int) (l0_1 : List Int) (l1 : List (S76)) (a2_0 : Int) (a2_1 : Int) : Option ((List (S76)) × Bool) :=
  if l1.length ≤ 1000000 then (spec_l02Is.f k a0_0 l0_1 (Im.putP l1 ⟨a2_0, a2_1⟩)).bind fun b => some (Im.putP l1 ⟨a2_0, a2_1⟩, b) else none
theorem spec_l02With.calls (k : Nat) (a0_0 : Int) (A0_1 : Option Addr) (c0_1 : Nat) (l0_1 : List Int) (A1 : Option Addr) (c1 : Nat) (l1 : List (S76)) (a2_0 : Int) (a2_1 : Int) (r1 : List (S76)) (r2 : Bool) (w : World) (hr0_1 : Kd.C (Kd.int .i64) w A0_1 l0_1.length l0_1) (hc0_1 : l0_1.length ≤ c0_1) (hr1 : Kd.C k76 w A1 l1.length l1) (hc1 : l1.length ≤ c1) (h : spec_l02With.f k a0_0 l0_1 l1 a2_0 a2_1 = some (r1, r2)) :
    Calls Try.prog 183 #[.agg #[.int .i64 a0_0, .slice A0_1 l0_1.length c0_1], .slice A1 l1.length c1, .agg #[.int .i64 a2_0, .int .i64 a2_1]] w fun e w' => ∃ v0_ : Value, e = .returned (.tuple #[v0_, .bool r2]) ∧ Kd.R k76 76 w' w.heap.size (fun _ => True) v0_ r1 ∧ Below w.heap.size w w' := by
  unfold spec_l02With.f at h
  by_cases hl : l1.length ≤ 1000000
  · rw [if_pos hl] at h
    obtain ⟨b, hk, hb⟩ := Option.bind_eq_some_iff.1 h
    obtain ⟨h1, h2⟩ := Prod.mk.inj (Option.some.inj hb)
    subst h1
    subst h2
    exact Im.with2_c k a0_0 A0_1 c0_1 l0_1 A1 c1 l1 ⟨a2_0, a2_1⟩ b w hr0_1 hc0_1 hr1 hc1 hl hk
  · rw [if_neg hl] at h; cases h
end Go.Proofs.Ytnmhnkpijjmhjaa.QS
namespace Go.Proofs.Ytnmhnkpijjmhjaa.QS
open Go.Proofs.Ytnmhnkpijjmhjaa.Cw Go.Proofs.Ytnmhnkpijjmhjaa.Kp Go.Proofs.Ytnmhnkpijjmhjaa.Ext Go.RowKit Go.Proofs.YtnmhnkpijjmhjaaW.PrintWords Go.Proofs.YtnmhnkpijjmhjaaW.PrintLast Go.Proofs.YtnmhnkpijjmhjaaW.PrintMore
attribute [local go_sem] max2_int min2_int max_two min_two max_three min_three max_four min_four   -- for this text's walks alone
set_option linter.unusedVariables false
set_option linter.unusedSimpArgs false
mutual
def spec_l02All.l0 : Nat → List (S76) → Int → Int → List Int → Option ((List (S76)))
 | 0, _, _, _, _ => none
 | k + 1, x3, x4, x757000, x757001 => if x4 < (x757001.length : Int) then (if 0 ≤ x4 then ((spec_l01Above.f k x757000 x757001 (rd x757001 x4)).bind fun t761 => (spec_l02All.l1 k x3 x4 t761 0 x757000 x757001)) else (none)) else (some x3)
def spec_l02All.l1 : Nat → List (S76) → Int → List Int → Int → Int → List Int → Option ((List (S76)))
 | 0, _, _, _, _, _, _ => none
 | k + 1, x3, x4, x5, x6, x757000, x757001 => if x6 < (x5.length : Int) then (if 0 ≤ x4 then (if x4 < (x757001.length : Int) then (if 0 ≤ x6 then ((spec_l02With.f k x757000 x757001 x3 (rd x757001 x4) (rd x5 x6)).bind fun bt766 => (spec_l02All.l1 k bt766.1 x4 x5 (wrap64 (x6 + 1)) x757000 x757001)) else (none)) else (none)) else (none)) else (spec_l02All.l0 k x3 (wrap64 (x4 + 1)) x757000 x757001)
end
def spec_l02All.f (k : Nat) (a0_0 : Int) (l0_1 : List Int) : Option ((List (S76))) := spec_l02All.l0 k (([] : List (S76))) 0 a0_0 l0_1
def spec_l02All.T5 : Bool × List (List Nat × List Nat) := (true, [([], []), ([], []), ([1], [1]), ([], []), ([2, 3], [2, 3]), ([4], [4]), ([0, 5], [0, 5]), ([6, 6, 0, 1, 2, 3, 4, 5, 6], [6])])
def spec_l02All.B5 : List Nat := [0, 0, 2, 0, 14, 30, 63, 127]
theorem spec_l02All.tab5 : rtab .any (opsOf Try.f182 5) = spec_l02All.T5 := by kernel_rfl
theorem spec_l02All.bits5 : waitsOk spec_l02All.T5.2 spec_l02All.B5 = true := by kernel_rfl
def spec_l02All.T9 : Bool × List (List Nat × List Nat) := (true, [([], []), ([], []), ([], []), ([2], [2]), ([], []), ([3, 4], [3, 4]), ([5], [5]), ([], []), ([], []), ([7, 8], [7, 8]), ([9], [9]), ([6, 10], [6, 10]), ([0, 1, 11], [0, 1, 11]), ([12], [12]), ([13], [13]), ([13], [13]), ([14, 12, 0, 1, 2, 3, 4, 5, 6, 7, 8, 9, 10, 11, 12, 13, 14], [1, 14])])
def spec_l02All.B9 : List Nat := [0, 0, 0, 4, 0, 28, 60, 0, 0, 384, 896, 2044, 4095, 8191, 16383, 16383, 32767]
theorem spec_l02All.tab9 : rtab .any (opsOf Try.f182 9) = spec_l02All.T9 := by kernel_rfl
theorem spec_l02All.bits9 : waitsOk spec_l02All.T9.2 spec_l02All.B9 = true := by kernel_rfl
set_option maxHeartbeats 8000000 in
set_option maxRecDepth 100000 in
theorem spec_l02All.calls (k : Nat) (a0_0 : Int) (A0_1 : Option Addr) (c0_1 : Nat) (l0_1 : List Int) (r : List (S76)) (w : World) (hr0_1 : Kd.C (Kd.int .i64) w A0_1 l0_1.length l0_1) (hc0_1 : l0_1.length ≤ c0_1) (h : spec_l02All.f k a0_0 l0_1 = some r) :
  Calls Try.prog 182 #[.agg #[.int .i64 a0_0, .slice A0_1 l0_1.length c0_1]] w fun e w' => ∃ v0_ : Value, e = .returned (v0_) ∧ Kd.R k76 76 w' w.heap.size (fun _ => True) v0_ r ∧ Below w.heap.size w w' := by
 have hu26 := Try.underlying26
 have hu76 := Try.underlying76
 have HR0_1 := Aside0.mk hr0_1
 have HC0_1 := Aside0.mk hc0_1
 clear hr0_1 hc0_1
 have HB := Aside0.mk (Below.refl w.heap.size w)
 have H : (spec_l02All.l0 k (([] : List (S76))) 0 a0_0 l0_1) = some r := h
 clear h
 obtain ⟨y757, hy757⟩ : ∃ y_ : List (S76), y_ = (([] : List (S76))) := ⟨_, rfl⟩
 replace H : (spec_l02All.l0 k y757 0 a0_0 l0_1) = some r := by first | (rw [hy757]; with_reducible exact H) | (have H2_ := (Option.bind_some _ _).symm.trans H; rw [hy757]; with_reducible exact H2_) | (have H2_ := (Option.bind_some _ _).symm.trans H; with_reducible exact H2_) | with_reducible exact H | (rw [hy757]; exact H) | exact H
 have Ny757 := Aside0.mk hy757
 clear hy757
 have H' := Aside0.mk H
 clear H
 go_enter Try.func182, Try.ntmps182
 go_wp2_with (first | ((with_reducible refine gate_dst (N := 1) rfl ?_); refine box_event ?hg (N := 1) ?hd (cs := #[.int .i64 a0_0, .slice A0_1 l0_1.length c0_1]) (t := 26) ?hr ?_; (case hd => rfl); (case hg => rfl); (case hr => first | (go_simp; done) | (go_simp; rfl)); intro gb756 hg w2 hbox hb; have BK756 := Aside0.mk (hbox); have GW756 := gH HB hg; have GE756 := gH HB hg; replace HB := sH HB hb; clear hb hbox hg) | ((with_reducible refine gate_dst (N := 7) rfl ?_); refine Kd.R_lit k76 _ 76 ?hg (N := 7) ?hd (xs := ([] : List (S76))) (inner := []) (ok := fun _ => True) (okp := fun _ => True) ?hr ?hp (fun _ hk => hk) trivial (Below.refl _ _) (Nat.le_refl _) (by simp) ?_; (case hd => rfl); (case hg => rfl); (case hr => first | (go_simp; done) | (go_simp; rfl)); (case hp => exact (Reps.none _ _)); intro v758 w3 ho4 hb hg_ hnew_; clear hg_ hnew_; (first | rw [← Ny757.out] at ho4 | (simp only [Int.reduceToNat] at ho4; rw [← Ny757.out] at ho4)); have HO759 := Aside0.mk (Kd.R_lower ho4 (below_size (pH HB))); replace BK756 := sB BK756 hb; replace HB := sH HB hb; clear hb ho4))
 go_loopg [3, 4] k (fun kq v3 v4 w' => ∃ (x3_1 : List (S76)) (x4_1 : Int), v4 = .int .i64 x4_1 ∧ Aside0 (spec_l02All.l0 kq x3_1 x4_1 a0_0 l0_1 = some r) ∧ Aside0 (kq ≤ k) ∧ Aside0 (Kd.R k76 76 w' w.heap.size (fun _ => True) v3 x3_1) ∧ Aside0 (w'.heap[gb756]? = some (.cells #[.int .i64 a0_0, (.slice A0_1 l0_1.length c0_1)] 26 (0, 0))) ∧ Aside0 (Below w.heap.size w w'))
 case atStart => exact ⟨(y757), (0), (by first | rfl | (simp; done) | (simp [*]; done)), H', ⟨Nat.le_refl _⟩, ⟨by (with_reducible repeat (first | apply Kd.R_alloc | apply Kd.R_drewN | apply Kd.R_drew)); exact HO759.out⟩, ⟨pB BK756⟩, ⟨pH HB⟩⟩
 case round =>
  clear H'
  try clear c1
  try clear p2
  obtain ⟨x3_1, x4_1, rfl, HA, HK1, HO_3, BK756, HB⟩ := hrel
  cases gk with
  | zero => exact absurd HA.out (by simp [spec_l02All.l0])
  | succ k1 =>
   have H := HA.out
   clear HA
   simp only [spec_l02All.l0] at H
   by_cases c5 : x4_1 < (l0_1.length : Int)
   ·rw [if_pos c5] at H
    have c5b0 : decide (x4_1 < (l0_1.length : Int)) = true := decide_eq_true c5
    clear c5
    by_cases c6 : 0 ≤ x4_1
    ·rw [if_pos c6] at H
     have c6b0 : decide (0 ≤ x4_1) = true := decide_eq_true c6
     clear c6
     replace H := Option.bind_eq_some_iff.mp H
     obtain ⟨t761, A70, H⟩ := H
     try dsimp only at H
     have A7 := Aside0.mk A70
     clear A70
     have H' := Aside0.mk H
     clear H
     have hcz8_0 : wr.cell? ⟨gb756, 0, none⟩ = some (.int .i64 a0_0) := cB BK756 0
     have hcz8_1 : wr.cell? ⟨gb756, 1, none⟩ = some (.slice A0_1 l0_1.length c0_1) := cB BK756 1
     have hfz8_0 := zB BK756 0
     have hfz8_1 := zB BK756 1
     try go_wp2
     replace HO_3 := Aside0.mk (Kd.R_drew HO_3.out)
     replace BK756 := dB BK756
     replace HB := dH HB
     have p760 : 0 ≤ (x4_1 : Int) := of_decide_eq_true (by first | (with_reducible assumption) | assumption)
     have q760 : x4_1 < (l0_1.length : Int) := of_decide_eq_true (by first | (with_reducible assumption) | assumption)
     obtain ⟨ad760, e760, hx760_0⟩ := Kd.at_int HR0_1.out x4_1 p760 q760
     have hw760_0 := hx760_0
     cases e760
     replace hx760_0 := cH HB hx760_0
     replace p760 := eq_true p760
     replace q760 := eq_true q760
     refine st_ 8 (S := fun w' => w'.cell? ⟨gb756, 0, none⟩ = some (.int .i64 a0_0) ∧ w'.cell? ⟨gb756, 1, none⟩ = some (.slice (some ad760) l0_1.length c0_1) ∧ w'.cell? (ad760.add (x4_1).toNat) = some (.int .i64 (rd l0_1 x4_1))) (ds := []) ⟨cB BK756 0, cB BK756 1, (cH HB hw760_0 :)⟩ (fun hHeld => ?_); refine with_tabW spec_l02All.tab5 spec_l02All.bits5 (fun HT_ HW_ => ?_)
     generalize wr.drew = w9 at HO_3 BK756 HB hx760_0 hHeld ⊢
     refine pu_ 1 16 2 HT_ ?_
     refine pu_ 3 18 10 HT_ ?_
     refine tk_ 0 15 11 HT_ HW_ hHeld ?_
     refine tk_ 2 17 15 HT_ HW_ hHeld ?_
     refine pu_ 4 19 31 HT_ ?_
     refine tk_ 5 20 63 HT_ HW_ hHeld ?_
     refine on_ 6 (some 21) 127 HT_ (fun K hK => ?_)
     refine ca_ Try.func72 #[.agg #[.int .i64 a0_0, .slice (some ad760) l0_1.length c0_1], .int .i64 (rd l0_1 x4_1)] ?_
     with_reducible refine (spec_l01Above.calls k1 a0_0 _ _ l0_1 (rd l0_1 x4_1) t761 _ ?side1 ?side2 A7.out).mono ?_
     (case side1 => exact pC ((Kd.C_below HR0_1.out HB.out)))
     (case side2 => exact HC0_1.out)
     rintro e w10 ⟨v762, rfl, ho0, hb⟩
     refine ⟨_, rfl, ?_⟩
     replace HO_3 := sR HO_3 hb
     have HO763 := Aside0.mk (Kd.R_lower ho0 (below_size (pH HB)))
     replace BK756 := sB BK756 hb
     replace HB := sH HB hb
     (try clear hb)
     (try clear hb2)
     (try clear hk)
     (try clear hi)
     (try clear ho0)
     refine hK.out _ _ ⟨cB BK756 0, cB BK756 1, (cH HB hw760_0 :)⟩ (fun hHeld => ?_)
     clear hK K
     refine nm_ ?_
     refine pu_ 7 5 255 HT_ ?_
     refine dn_ HT_ ?_
     try go_wp2
     go_loopg [3, 6] k1 (fun kq v3 v6 w' => ∃ (x3_2 : List (S76)) (x6_2 : Int), v6 = .int .i64 x6_2 ∧ Aside0 (spec_l02All.l1 kq x3_2 x4_1 t761 x6_2 a0_0 l0_1 = some r) ∧ Aside0 (kq ≤ k1) ∧ Aside0 (Kd.R k76 76 w' w.heap.size (fun _ => True) v3 x3_2) ∧ Aside0 (Kd.R (Kd.int .i64) 2 w' w.heap.size (fun _ => True) v762 t761) ∧ Aside0 (w'.heap[gb756]? = some (.cells #[.int .i64 a0_0, (.slice (some ad760) l0_1.length c0_1)] 26 (0, 0))) ∧ Aside0 (Below w.heap.size w w'))
     case atStart => exact ⟨(x3_1), (0), (by first | rfl | (simp; done) | (simp [*]; done)), H', ⟨Nat.le_refl _⟩, ⟨by (with_reducible repeat (first | apply Kd.R_alloc | apply Kd.R_drewN | apply Kd.R_drew)); exact HO_3.out⟩, ⟨by (with_reducible repeat (first | apply Kd.R_alloc | apply Kd.R_drewN | apply Kd.R_drew)); exact HO763.out⟩, ⟨pB BK756⟩, ⟨pH HB⟩⟩
     case round =>
      clear H'
      try clear c1
      try clear p2
      try clear c5
      try clear c5b0
      try clear c6
      try clear c6b0
      try clear c7
      try clear p7
      try clear q7
      try clear hx7
      try clear hcz8_0
      try clear hcz8_1
      try clear hfz8_0
      try clear hfz8_1
      try clear hx760_0
      try clear p2
      try clear p760
      try clear q760
      obtain ⟨x3_2, x6_2, rfl, HA, HK2, HO_3, HO_5, BK756, HB⟩ := hrel
      cases gk with
      | zero => exact absurd HA.out (by simp [spec_l02All.l1])
      | succ k2 =>
       have H := HA.out
       clear HA
       simp only [spec_l02All.l1] at H
       by_cases c11 : x6_2 < (t761.length : Int)
       ·rw [if_pos c11] at H
        have c11b0 : decide (x6_2 < (t761.length : Int)) = true := decide_eq_true c11
        clear c11
        by_cases c12 : 0 ≤ x4_1
        ·rw [if_pos c12] at H
         have c12b0 : decide (0 ≤ x4_1) = true := decide_eq_true c12
         clear c12
         by_cases c13 : x4_1 < (l0_1.length : Int)
         ·rw [if_pos c13] at H
          have c13b0 : decide (x4_1 < (l0_1.length : Int)) = true := decide_eq_true c13
          clear c13
          by_cases c14 : 0 ≤ x6_2
          ·rw [if_pos c14] at H
           have c14b0 : decide (0 ≤ x6_2) = true := decide_eq_true c14
           clear c14
           replace H := Option.bind_eq_some_iff.mp H
           obtain ⟨⟨t766, t769⟩, A150, H⟩ := H
           try dsimp only at H
           have A15 := Aside0.mk A150
           clear A150
           have H' := Aside0.mk H
           clear H
           obtain ⟨Ao16, co16, eo16⟩ := Kd.R_slice HO_5.out
           subst eo16
           try go_wp2
           replace HO_3 := Aside0.mk (Kd.R_drew HO_3.out)
           replace HO_5 := Aside0.mk (Kd.R_drew HO_5.out)
           replace BK756 := dB BK756
           replace HB := dH HB
           have p764 : 0 ≤ (x4_1 : Int) := of_decide_eq_true (by first | (with_reducible assumption) | assumption)
           have q764 : x4_1 < (l0_1.length : Int) := of_decide_eq_true (by first | (with_reducible assumption) | assumption)
           obtain ⟨ad764, e764, hx764_0⟩ := Kd.at_int HR0_1.out x4_1 p764 q764
           have hw764_0 := hx764_0
           obtain rfl : ad760 = ad764 := (by injection e764)
           replace hx764_0 := cH HB hx764_0
           replace p764 := eq_true p764
           replace q764 := eq_true q764
           have p765 : 0 ≤ (x6_2 : Int) := of_decide_eq_true (by first | (with_reducible assumption) | assumption)
           have q765 : x6_2 < (t761.length : Int) := of_decide_eq_true (by first | (with_reducible assumption) | assumption)
           obtain ⟨ad765, e765, hx765_0⟩ := Kd.at_int (Kd.R_reads' HO_5.out).2.2 x6_2 p765 q765
           cases e765
           replace p765 := eq_true p765
           replace q765 := eq_true q765
           obtain ⟨Ao18, co18, eo18⟩ := Kd.R_slice HO_3.out
           (first | subst eo18 | (injection eo18 with f1_ f2_ f3_; have f4_ := f1_.symm; have f5_ := f3_.symm; clear f1_ f2_ f3_; subst f4_; subst f5_))
           refine st_ 17 (S := fun w' => w'.cell? ⟨gb756, 0, none⟩ = some (.int .i64 a0_0) ∧ w'.cell? ⟨gb756, 1, none⟩ = some (.slice (some ad760) l0_1.length c0_1) ∧ w'.cell? (ad760.add (x4_1).toNat) = some (.int .i64 (rd l0_1 x4_1)) ∧ w'.cell? (ad765.add (x6_2).toNat) = some (.int .i64 (rd t761 x6_2))) (ds := []) ⟨cB BK756 0, cB BK756 1, (cH HB hw764_0 :), hx765_0⟩ (fun hHeld => ?_); refine with_tabW spec_l02All.tab9 spec_l02All.bits9 (fun HT_ HW_ => ?_)
           generalize wr.drew = w17 at HO_3 HO_5 BK756 HB hx764_0 hx765_0 hHeld ⊢
           refine pu_ 1 30 2 HT_ ?_
           refine pu_ 2 31 6 HT_ ?_
           refine pu_ 4 33 22 HT_ ?_
           refine pu_ 7 36 150 HT_ ?_
           refine pu_ 8 37 406 HT_ ?_
           refine pu_ 9 38 918 HT_ ?_
           refine tk_ 0 29 919 HT_ HW_ hHeld ?_
           refine tk_ 3 32 927 HT_ HW_ hHeld ?_
           refine pu_ 5 34 959 HT_ ?_
           refine tk_ 6 35 1023 HT_ HW_ hHeld ?_
           refine tk_ 10 39 2047 HT_ HW_ hHeld ?_
           refine pu_ 11 40 4095 HT_ ?_
           refine on_ 12 (some 41) 8191 HT_ (fun K hK => ?_)
           refine ca_ Try.func183 #[.agg #[.int .i64 a0_0, .slice (some ad760) l0_1.length c0_1], .slice Ao18 x3_2.length co18, .agg #[.int .i64 (rd l0_1 x4_1), .int .i64 (rd t761 x6_2)]] ?_
           with_reducible refine (spec_l02With.calls k2 a0_0 _ _ l0_1 _ _ x3_2 (rd l0_1 x4_1) (rd t761 x6_2) t766 t769 _ ?side1 ?side2 ?side3 ?side4 A15.out).mono ?_
           (case side1 => exact pC ((Kd.C_below HR0_1.out HB.out)))
           (case side2 => exact HC0_1.out)
           (case side3 => exact pC ((Kd.R_reads' HO_3.out).2.2))
           (case side4 => exact (Kd.R_reads' HO_3.out).2.1)
           rintro e w19 ⟨v767, rfl, ho0, hb⟩
           have HS3_ := (hb.cell (World.block_lt_of_cell? _ _ (hHeld.2.2.2))).trans (hHeld.2.2.2)
           refine ⟨_, rfl, ?_⟩
           replace HO_5 := sR HO_5 hb
           have HO768 := Aside0.mk (Kd.R_lower (Kd.R_new' ho0 (Kd.R_lt (pR HO_3))) (below_size (pH HB)))
           replace HO_3 := Aside0.mk (Kd.R_elder' (pR HO_3) (Kd.R_base ho0) hb)
           replace BK756 := sB BK756 hb
           replace HB := sH HB hb
           (try clear hb)
           (try clear hb2)
           (try clear hk)
           (try clear hi)
           (try clear ho0)
           refine hK.out _ _ ⟨cB BK756 0, cB BK756 1, (cH HB hw764_0 :), HS3_⟩ (fun hHeld => ?_)
           clear hK K
           refine nm_ ?_
           refine pu_ 13 28 16383 HT_ ?_
           refine pu_ 14 42 32767 HT_ ?_
           refine pu_ 15 43 65535 HT_ ?_
           refine pu_ 16 3 131071 HT_ ?_
           refine dn_ HT_ ?_
           try go_wp2
           go_roundg k2
           case measure => have := HK1.out; have := HK2.out; omega
           case rel => exact ⟨(t766), (wrap64 (x6_2 + 1)), (by first | rfl | (simp; done) | (simp [*]; done)), H', ⟨by have := HK1.out; have := HK2.out; omega⟩, ⟨by (with_reducible repeat (first | apply Kd.R_alloc | apply Kd.R_drewN | apply Kd.R_drew)); exact Kd.R_mono HO768.out (fun _ hk => trivial)⟩, ⟨by (with_reducible repeat (first | apply Kd.R_alloc | apply Kd.R_drewN | apply Kd.R_drew)); exact HO_5.out⟩, ⟨pB BK756⟩, ⟨pH HB⟩⟩
          ·rw [if_neg c14] at H
           exact absurd H (by simp)
         ·rw [if_neg c13] at H
          exact absurd H (by simp)
        ·rw [if_neg c12] at H
         exact absurd H (by simp)
       ·rw [if_neg c11] at H
        have c11b0 : decide (x6_2 < (t761.length : Int)) = false := decide_eq_false c11
        clear c11
        have H' := Aside0.mk H
        clear H
        obtain ⟨Ao20, co20, eo20⟩ := Kd.R_slice HO_5.out
        subst eo20
        go_wp2
        go_roundg k2
        case measure => have := HK1.out; have := HK2.out; omega
        case rel => exact ⟨(x3_2), (wrap64 (x4_1 + 1)), (by first | rfl | (simp; done) | (simp [*]; done)), H', ⟨by have := HK1.out; have := HK2.out; omega⟩, ⟨by (with_reducible repeat (first | apply Kd.R_alloc | apply Kd.R_drewN | apply Kd.R_drew)); exact HO_3.out⟩, ⟨pB BK756⟩, ⟨pH HB⟩⟩
    ·rw [if_neg c6] at H
     exact absurd H (by simp)
   ·rw [if_neg c5] at H
    have c5b0 : decide (x4_1 < (l0_1.length : Int)) = false := decide_eq_false c5
    clear c5
    obtain rfl := Option.some.inj H
    have hcz21_0 : wr.cell? ⟨gb756, 0, none⟩ = some (.int .i64 a0_0) := cB BK756 0
    have hcz21_1 : wr.cell? ⟨gb756, 1, none⟩ = some (.slice A0_1 l0_1.length c0_1) := cB BK756 1
    have hfz21_0 := zB BK756 0
    have hfz21_1 := zB BK756 1
    go_wp2
    go_ret
    exact ⟨_, by first | rfl | (simp [errW_none, errW_some] <;> rfl) | (simp [*, errW_none, errW_some] <;> rfl) | (exfalso; simp_all), by (with_reducible repeat (first | apply Kd.R_alloc | apply Kd.R_drewN | apply Kd.R_drew)); exact HO_3.out, pH HB⟩
end Go.Proofs.Ytnmhnkpijjmhjaa.QS
namespace Go.Proofs.Ytnmhnkpijjmhjaa.QS
open Go.Proofs.Ytnmhnkpijjmhjaa.Cw Go.Proofs.Ytnmhnkpijjmhjaa.Kp Go.Proofs.Ytnmhnkpijjmhjaa.Ext Go.RowKit Go.Proofs.YtnmhnkpijjmhjaaW.PrintWords Go.Proofs.YtnmhnkpijjmhjaaW.PrintLast Go.Proofs.YtnmhnkpijjmhjaaW.PrintMore
attribute [local go_sem] max2_int min2_int max_two min_two max_three min_three max_four min_four   -- for this text's walks alone
set_option linter.unusedVariables false
set_option linter.unusedSimpArgs false
def spec_l02Fill.l0 : Nat → List (S76) → List (S76) → Int → Int → List Int → Option ((List (S76)))
 | 0, _, _, _, _, _ => none
 | k + 1, x1, x5, x6, x771000, x771001 => if x6 < (x5.length : Int) then (if 0 ≤ x6 then ((spec_l02With.f k x771000 x771001 x1 ((rd_T76 x5 x6).f0) ((rd_T76 x5 x6).f1)).bind fun bt775 => (if bt775.2 = true then ((spec_l02Acyclic.f k bt775.1).bind fun t779 => (if t779 = true then (spec_l02Fill.l0 k bt775.1 x5 (wrap64 (x6 + 1)) x771000 x771001) else (spec_l02Fill.l0 k x1 x5 (wrap64 (x6 + 1)) x771000 x771001))) else (spec_l02Fill.l0 k x1 x5 (wrap64 (x6 + 1)) x771000 x771001))) else (none)) else (some x1)
def spec_l02Fill.f (k : Nat) (a0_0 : Int) (l0_1 : List Int) (l1 : List (S76)) : Option ((List (S76))) := (spec_l02All.f k a0_0 l0_1).bind fun t771 => (spec_l02Fill.l0 k l1 t771 0 a0_0 l0_1)
def spec_l02Fill.T5 : Bool × List (List Nat × List Nat) := (true, [([], []), ([], []), ([], []), ([], []), ([2, 3], [2, 3]), ([4], [4]), ([0, 1, 5], [0, 1, 5]), ([6], [6]), ([7], [7]), ([7], [7]), ([8, 6, 0, 1, 2, 3, 4, 5, 6, 7, 8], [8]), ([9, 10, 0, 1, 2, 3, 4, 5, 6, 7, 8, 9, 10], [9])])
def spec_l02Fill.B5 : List Nat := [0, 0, 0, 0, 12, 28, 63, 127, 255, 255, 511, 2047]
theorem spec_l02Fill.tab5 : rtab .any (opsOf Try.f124 5) = spec_l02Fill.T5 := by kernel_rfl
theorem spec_l02Fill.bits5 : waitsOk spec_l02Fill.T5.2 spec_l02Fill.B5 = true := by kernel_rfl
set_option maxHeartbeats 8000000 in
set_option maxRecDepth 100000 in
theorem spec_l02Fill.calls (k : Nat) (a0_0 : Int) (A0_1 : Option Addr) (c0_1 : Nat) (l0_1 : List Int) (P1_ : Nat → Prop) (A1 : Option Addr) (c1 : Nat) (l1 : List (S76)) (r : List (S76)) (w : World) (hr0_1 : Kd.C (Kd.int .i64) w A0_1 l0_1.length l0_1) (hc0_1 : l0_1.length ≤ c0_1) (hs1 : Kd.V k76 76 w w.heap.size (fun k_ => P1_ k_) (.slice A1 l1.length c1) l1) (h : spec_l02Fill.f k a0_0 l0_1 l1 = some r) :
  Calls Try.prog 124 #[.agg #[.int .i64 a0_0, .slice A0_1 l0_1.length c0_1], .slice A1 l1.length c1] w fun e w' => ∃ v0_ : Value, e = .returned (v0_) ∧ Kd.V k76 76 w' w.heap.size (fun k_ => (P1_ k_ ∨ w.heap.size ≤ k_)) v0_ r ∧ Below w.heap.size w w' := by
 have hu26 := Try.underlying26
 have hu76 := Try.underlying76
 have HR0_1 := Aside0.mk hr0_1
 have HC0_1 := Aside0.mk hc0_1
 clear hr0_1 hc0_1
 have HO1 := Aside0.mk (show Kd.V k76 76 w w.heap.size (fun k_ => (P1_ k_ ∨ w.heap.size ≤ k_)) (.slice A1 l1.length c1) l1 from Kd.V_mono hs1 (fun k_ hk => .inl hk))
 have HB := Aside0.mk (Below.refl w.heap.size w)
 have H : ((spec_l02All.f k a0_0 l0_1).bind fun t771 => (spec_l02Fill.l0 k l1 t771 0 a0_0 l0_1)) = some r := h
 clear h
 replace H := Option.bind_eq_some_iff.mp H
 obtain ⟨t771, A30, H⟩ := H
 try dsimp only at H
 have A3 := Aside0.mk A30
 clear A30
 have H' := Aside0.mk H
 clear H
 go_enter Try.func124, Try.ntmps124
 go_wp2_with (first | ((with_reducible refine gate_dst (N := 2) rfl ?_); refine box_event ?hg (N := 2) ?hd (cs := #[.int .i64 a0_0, .slice A0_1 l0_1.length c0_1]) (t := 26) ?hr ?_; (case hd => rfl); (case hg => rfl); (case hr => first | (go_simp; done) | (go_simp; rfl)); intro gb770 hg w4 hbox hb; have n0_ := Aside0.mk (Kd.V_below (Kd.V_elderB (by (with_reducible repeat (first | apply Kd.V_alloc | apply Kd.V_drewN | apply Kd.V_drew)); exact HO1.out) gb770 (Nat.le_of_eq hg.symm)) hb); have n1_ := sH HB hb; have n2_ := Aside0.mk (hbox); have n3_ := gH HB hg; have n4_ := gH HB hg; clear HO1; clear HB; have HO1 := n0_; have HB := n1_; have BK770 := n2_; have GW770 := n3_; have GE770 := n4_; clear n0_ n1_ n2_ n3_ n4_; clear hb hbox hg; have hcz5_0 : w4.cell? ⟨gb770, 0, none⟩ = some (.int .i64 a0_0) := cB BK770 0; have hcz5_1 : w4.cell? ⟨gb770, 1, none⟩ = some (.slice A0_1 l0_1.length c0_1) := cB BK770 1; have hfz5_0 := zB BK770 0; have hfz5_1 := zB BK770 1) | ((with_reducible refine gate_callee (f := 182) rfl ?_); refine cl_ (some 10) Try.func182 #[.agg #[.int .i64 a0_0, .slice A0_1 l0_1.length c0_1]] ?_; (with_reducible refine (spec_l02All.calls k a0_0 _ _ l0_1 t771 _ ?side1 ?side2 A3.out).mono ?_); (case side1 => exact pC ((Kd.C_below HR0_1.out HB.out))); (case side2 => exact HC0_1.out); rintro e w6 ⟨v772, rfl, ho0, hb⟩; refine ⟨_, rfl, ?_⟩; have n0_ := Aside0.mk (Kd.V_elder' (by (with_reducible repeat (first | apply Kd.V_alloc | apply Kd.V_drewN | apply Kd.V_drew)); exact HO1.out) (Kd.R_base ho0) hb); have n1_ := Aside0.mk (Kd.R_lower (Kd.R_newM (M := fun k_ => (w.heap.size ≤ k_)) ho0 (below_size (pH HB)) (fun k_ h_ => h_)) (below_size (pH HB))); have n2_ := sB BK770 hb; have n3_ := sH HB hb; clear HO1; clear BK770; clear HB; have HO1 := n0_; have HO773 := n1_; have BK770 := n2_; have HB := n3_; clear n0_ n1_ n2_ n3_; (try clear hb); (try clear hi); (try clear ho0)))
 go_loopg [1, 6] k (fun kq v1 v6 w' => ∃ (x1_1 : List (S76)) (x6_1 : Int), v6 = .int .i64 x6_1 ∧ Aside0 (spec_l02Fill.l0 kq x1_1 t771 x6_1 a0_0 l0_1 = some r) ∧ Aside0 (kq ≤ k) ∧ Aside0 (Kd.V k76 76 w' w.heap.size (fun k_ => (P1_ k_ ∨ w.heap.size ≤ k_) ∧ some k_ ≠ (v772 : Value).ownBlock ∧ k_ ≠ gb770) v1 x1_1) ∧ Aside0 (Kd.R k76 76 w' w.heap.size (fun k_ => (w.heap.size ≤ k_)) v772 t771) ∧ Aside0 (w'.heap[gb770]? = some (.cells #[.int .i64 a0_0, (.slice A0_1 l0_1.length c0_1)] 26 (0, 0))) ∧ Aside0 (Below w.heap.size w w'))
 case atStart => exact ⟨(l1), (0), (by first | rfl | (simp; done) | (simp [*]; done)), H', ⟨Nat.le_refl _⟩, ⟨by (with_reducible repeat (first | apply Kd.V_alloc | apply Kd.V_drewN | apply Kd.V_drew)); exact Kd.V_mono HO1.out (fun _ hk => ⟨hk.1.1, ⟨hk.2, hk.1.2⟩⟩)⟩, ⟨by (with_reducible repeat (first | apply Kd.R_alloc | apply Kd.R_drewN | apply Kd.R_drew)); exact Kd.R_mono HO773.out (fun _ hk => hk.1)⟩, ⟨pB BK770⟩, ⟨pH HB⟩⟩
 case round =>
  clear H'
  try clear c1
  try clear p2
  try clear hcz5_0
  try clear hcz5_1
  try clear hfz5_0
  try clear hfz5_1
  obtain ⟨x1_1, x6_1, rfl, HA, HK1, HO_1, HO_5, BK770, HB⟩ := hrel
  cases gk with
  | zero => exact absurd HA.out (by simp [spec_l02Fill.l0])
  | succ k1 =>
   have H := HA.out
   clear HA
   simp only [spec_l02Fill.l0] at H
   by_cases c7 : x6_1 < (t771.length : Int)
   ·rw [if_pos c7] at H
    have c7b0 : decide (x6_1 < (t771.length : Int)) = true := decide_eq_true c7
    clear c7
    by_cases c8 : 0 ≤ x6_1
    ·rw [if_pos c8] at H
     have c8b0 : decide (0 ≤ x6_1) = true := decide_eq_true c8
     clear c8
     replace H := Option.bind_eq_some_iff.mp H
     obtain ⟨⟨t775, t778⟩, A90, H⟩ := H
     try dsimp only at H
     have A9 := Aside0.mk A90
     clear A90
     by_cases c10 : t778 = true
     ·subst c10
      have H1 : ((spec_l02Acyclic.f k1 t775).bind fun t779 => (if t779 = true then (spec_l02Fill.l0 k1 t775 t771 (wrap64 (x6_1 + 1)) a0_0 l0_1) else (spec_l02Fill.l0 k1 x1_1 t771 (wrap64 (x6_1 + 1)) a0_0 l0_1))) = some r := by rw [if_pos rfl] at H; exact H
      clear H
      have H := H1
      clear H1
      replace H := Option.bind_eq_some_iff.mp H
      obtain ⟨t779, A110, H⟩ := H
      try dsimp only at H
      have A11 := Aside0.mk A110
      clear A110
      by_cases c12 : t779 = true
      ·subst c12
       have H1 : (spec_l02Fill.l0 k1 t775 t771 (wrap64 (x6_1 + 1)) a0_0 l0_1) = some r := by rw [if_pos rfl] at H; exact H
       clear H
       have H := H1
       clear H1
       have H' := Aside0.mk H
       clear H
       obtain ⟨Ao13, co13, eo13⟩ := Kd.R_slice HO_5.out
       subst eo13
       try go_wp2
       replace HO_1 := Aside0.mk (Kd.V_drew HO_1.out)
       replace HO_5 := Aside0.mk (Kd.R_drew HO_5.out)
       replace BK770 := dB BK770
       replace HB := dH HB
       have p774 : 0 ≤ (x6_1 : Int) := of_decide_eq_true (by first | (with_reducible assumption) | assumption)
       have q774 : x6_1 < (t771.length : Int) := of_decide_eq_true (by first | (with_reducible assumption) | assumption)
       obtain ⟨ad774, e774, hx774_0, hx774_1⟩ := at_T76 (Kd.R_reads' HO_5.out).2.2 x6_1 p774 q774
       cases e774
       replace p774 := eq_true p774
       replace q774 := eq_true q774
       obtain ⟨Ao15, co15, eo15⟩ := Kd.V_slice HO_1.out
       (first | subst eo15 | (injection eo15 with f1_ f2_ f3_; have f4_ := f1_.symm; have f5_ := f3_.symm; clear f1_ f2_ f3_; subst f4_; subst f5_))
       refine st_ 12 (S := fun w' => w'.cell? ⟨gb770, 0, none⟩ = some (.int .i64 a0_0) ∧ w'.cell? ⟨gb770, 1, none⟩ = some (.slice A0_1 l0_1.length c0_1) ∧ w'.cell? (ad774.add ((x6_1).toNat * 2)) = some (.int .i64 ((rd_T76 t771 x6_1).f0)) ∧ w'.cell? ⟨(ad774.add ((x6_1).toNat * 2)).block, (ad774.add ((x6_1).toNat * 2)).off + 1, none⟩ = some (.int .i64 ((rd_T76 t771 x6_1).f1))) (ds := []) ⟨cB BK770 0, cB BK770 1, hx774_0, hx774_1⟩ (fun hHeld => ?_); refine with_tabW spec_l02Fill.tab5 spec_l02Fill.bits5 (fun HT_ HW_ => ?_)
       generalize wr.drew = w14 at HO_1 HO_5 BK770 HB hx774_0 hx774_1 hHeld ⊢
       refine pu_ 1 19 2 HT_ ?_
       refine pu_ 2 20 6 HT_ ?_
       refine pu_ 3 21 14 HT_ ?_
       refine pu_ 4 22 30 HT_ ?_
       refine tk_ 0 18 31 HT_ HW_ hHeld ?_
       refine tk_ 5 23 63 HT_ HW_ hHeld ?_
       refine on_ 6 (some 24) 127 HT_ (fun K hK => ?_)
       refine ca_ Try.func183 #[.agg #[.int .i64 a0_0, .slice A0_1 l0_1.length c0_1], .slice Ao15 x1_1.length co15, .agg #[.int .i64 ((rd_T76 t771 x6_1).f0), .int .i64 ((rd_T76 t771 x6_1).f1)]] ?_
       with_reducible refine (spec_l02With.calls k1 a0_0 _ _ l0_1 _ _ x1_1 ((rd_T76 t771 x6_1).f0) ((rd_T76 t771 x6_1).f1) t775 true _ ?side1 ?side2 ?side3 ?side4 A9.out).mono ?_
       (case side1 => exact pC ((Kd.C_below HR0_1.out HB.out)))
       (case side2 => exact HC0_1.out)
       (case side3 => exact pC ((Kd.V_reads' HO_1.out).2.2))
       (case side4 => exact (Kd.V_reads' HO_1.out).2.1)
       rintro e w16 ⟨v776, rfl, ho0, hb⟩
       have HS2_ := (hb.cell (World.block_lt_of_cell? _ _ (hHeld.2.2.1))).trans (hHeld.2.2.1)
       have HS3_ := (hb.cell (World.block_lt_of_cell? _ _ (hHeld.2.2.2))).trans (hHeld.2.2.2)
       refine ⟨_, rfl, ?_⟩
       replace HO_1 := Aside0.mk (Kd.V_elder' (by (with_reducible repeat (first | apply Kd.V_alloc | apply Kd.V_drewN | apply Kd.V_drew)); exact HO_1.out) (Kd.R_base ho0) hb)
       have HO777 := Aside0.mk (Kd.R_lower (Kd.R_new' (Kd.R_newM (M := fun k_ => (w.heap.size ≤ k_)) ho0 (below_size (pH HB)) (fun k_ h_ => h_)) (Kd.R_lt (pR HO_5))) (below_size (pH HB)))
       replace HO_5 := Aside0.mk (Kd.R_elder' (pR HO_5) (Kd.R_base ho0) hb)
       replace BK770 := sB BK770 hb
       replace HB := sH HB hb
       (try clear hb)
       (try clear hb2)
       (try clear hk)
       (try clear hi)
       (try clear ho0)
       refine hK.out _ _ ⟨cB BK770 0, cB BK770 1, HS2_, HS3_⟩ (fun hHeld => ?_)
       clear hK K
       refine nm_ ?_
       refine pu_ 7 17 255 HT_ ?_
       refine pu_ 8 25 511 HT_ ?_
       refine pu_ 9 26 1023 HT_ ?_
       refine pu_ 10 7 2047 HT_ ?_
       refine pu_ 11 8 4095 HT_ ?_
       refine dn_ HT_ ?_
       obtain ⟨Ao17, co17, eo17⟩ := Kd.R_slice HO777.out
       subst eo17
       try go_wp2_with (first | (go_at_call 119; (with_reducible refine (spec_l02Acyclic.calls k1 _ _ t775 true _ ?side1 ?side2 A11.out).mono ?_); (case side1 => exact pC ((Kd.R_reads' HO777.out).2.2)); (case side2 => exact (Kd.R_reads' HO777.out).2.1); rintro e w18 ⟨rfl, hb⟩; have n0_ := Aside0.mk (Kd.V_below (by (with_reducible repeat (first | apply Kd.V_alloc | apply Kd.V_drewN | apply Kd.V_drew)); exact HO_1.out) hb); have n1_ := sR HO_5 hb; have n2_ := sR HO777 hb; have n3_ := sB BK770 hb; have n4_ := sH HB hb; clear HO_1; clear HO_5; clear HO777; clear BK770; clear HB; have HO_1 := n0_; have HO_5 := n1_; have HO777 := n2_; have BK770 := n3_; have HB := n4_; clear n0_ n1_ n2_ n3_ n4_; (try clear hb); (try clear hi)))
       go_roundg k1
       case measure => have := HK1.out; omega
       case rel => exact ⟨(t775), (wrap64 (x6_1 + 1)), (by first | rfl | (simp; done) | (simp [*]; done)), H', ⟨by have := HK1.out; omega⟩, ⟨(by refine Kd.V_mono (ok := ?ok0_) (Kd.R_V (base := ?base0_) ?hR0_) ?hM0_; (case hR0_ => (with_reducible repeat (first | apply Kd.R_alloc | apply Kd.R_drewN | apply Kd.R_drew)); exact Kd.R_types HO777.out BK770.out (by decide)); (case hM0_ => exact fun k_ hk => ⟨.inr hk.1.1.1, ⟨hk.1.2, hk.2⟩⟩))⟩, ⟨by (with_reducible repeat (first | apply Kd.R_alloc | apply Kd.R_drewN | apply Kd.R_drew)); exact Kd.R_mono HO_5.out (fun _ hk => hk.1)⟩, ⟨pB BK770⟩, ⟨pH HB⟩⟩
      ·replace c12 := Bool.eq_false_iff.mpr c12
       subst c12
       have H1 : (spec_l02Fill.l0 k1 x1_1 t771 (wrap64 (x6_1 + 1)) a0_0 l0_1) = some r := by rw [if_neg (show ¬ (false = true) by decide)] at H; exact H
       clear H
       have H := H1
       clear H1
       have H' := Aside0.mk H
       clear H
       obtain ⟨Ao19, co19, eo19⟩ := Kd.R_slice HO_5.out
       subst eo19
       try go_wp2
       replace HO_1 := Aside0.mk (Kd.V_drew HO_1.out)
       replace HO_5 := Aside0.mk (Kd.R_drew HO_5.out)
       replace BK770 := dB BK770
       replace HB := dH HB
       have p774 : 0 ≤ (x6_1 : Int) := of_decide_eq_true (by first | (with_reducible assumption) | assumption)
       have q774 : x6_1 < (t771.length : Int) := of_decide_eq_true (by first | (with_reducible assumption) | assumption)
       obtain ⟨ad774, e774, hx774_0, hx774_1⟩ := at_T76 (Kd.R_reads' HO_5.out).2.2 x6_1 p774 q774
       cases e774
       replace p774 := eq_true p774
       replace q774 := eq_true q774
       obtain ⟨Ao21, co21, eo21⟩ := Kd.V_slice HO_1.out
       (first | subst eo21 | (injection eo21 with f1_ f2_ f3_; have f4_ := f1_.symm; have f5_ := f3_.symm; clear f1_ f2_ f3_; subst f4_; subst f5_))
       refine st_ 12 (S := fun w' => w'.cell? ⟨gb770, 0, none⟩ = some (.int .i64 a0_0) ∧ w'.cell? ⟨gb770, 1, none⟩ = some (.slice A0_1 l0_1.length c0_1) ∧ w'.cell? (ad774.add ((x6_1).toNat * 2)) = some (.int .i64 ((rd_T76 t771 x6_1).f0)) ∧ w'.cell? ⟨(ad774.add ((x6_1).toNat * 2)).block, (ad774.add ((x6_1).toNat * 2)).off + 1, none⟩ = some (.int .i64 ((rd_T76 t771 x6_1).f1))) (ds := []) ⟨cB BK770 0, cB BK770 1, hx774_0, hx774_1⟩ (fun hHeld => ?_); refine with_tabW spec_l02Fill.tab5 spec_l02Fill.bits5 (fun HT_ HW_ => ?_)
       generalize wr.drew = w20 at HO_1 HO_5 BK770 HB hx774_0 hx774_1 hHeld ⊢
       refine pu_ 1 19 2 HT_ ?_
       refine pu_ 2 20 6 HT_ ?_
       refine pu_ 3 21 14 HT_ ?_
       refine pu_ 4 22 30 HT_ ?_
       refine tk_ 0 18 31 HT_ HW_ hHeld ?_
       refine tk_ 5 23 63 HT_ HW_ hHeld ?_
       refine on_ 6 (some 24) 127 HT_ (fun K hK => ?_)
       refine ca_ Try.func183 #[.agg #[.int .i64 a0_0, .slice A0_1 l0_1.length c0_1], .slice Ao21 x1_1.length co21, .agg #[.int .i64 ((rd_T76 t771 x6_1).f0), .int .i64 ((rd_T76 t771 x6_1).f1)]] ?_
       with_reducible refine (spec_l02With.calls k1 a0_0 _ _ l0_1 _ _ x1_1 ((rd_T76 t771 x6_1).f0) ((rd_T76 t771 x6_1).f1) t775 true _ ?side1 ?side2 ?side3 ?side4 A9.out).mono ?_
       (case side1 => exact pC ((Kd.C_below HR0_1.out HB.out)))
       (case side2 => exact HC0_1.out)
       (case side3 => exact pC ((Kd.V_reads' HO_1.out).2.2))
       (case side4 => exact (Kd.V_reads' HO_1.out).2.1)
       rintro e w22 ⟨v776, rfl, ho0, hb⟩
       have HS2_ := (hb.cell (World.block_lt_of_cell? _ _ (hHeld.2.2.1))).trans (hHeld.2.2.1)
       have HS3_ := (hb.cell (World.block_lt_of_cell? _ _ (hHeld.2.2.2))).trans (hHeld.2.2.2)
       refine ⟨_, rfl, ?_⟩
       replace HO_1 := Aside0.mk (Kd.V_elder' (by (with_reducible repeat (first | apply Kd.V_alloc | apply Kd.V_drewN | apply Kd.V_drew)); exact HO_1.out) (Kd.R_base ho0) hb)
       have HO777 := Aside0.mk (Kd.R_lower (Kd.R_new' (Kd.R_newM (M := fun k_ => (w.heap.size ≤ k_)) ho0 (below_size (pH HB)) (fun k_ h_ => h_)) (Kd.R_lt (pR HO_5))) (below_size (pH HB)))
       replace HO_5 := Aside0.mk (Kd.R_elder' (pR HO_5) (Kd.R_base ho0) hb)
       replace BK770 := sB BK770 hb
       replace HB := sH HB hb
       (try clear hb)
       (try clear hb2)
       (try clear hk)
       (try clear hi)
       (try clear ho0)
       refine hK.out _ _ ⟨cB BK770 0, cB BK770 1, HS2_, HS3_⟩ (fun hHeld => ?_)
       clear hK K
       refine nm_ ?_
       refine pu_ 7 17 255 HT_ ?_
       refine pu_ 8 25 511 HT_ ?_
       refine pu_ 9 26 1023 HT_ ?_
       refine pu_ 10 7 2047 HT_ ?_
       refine pu_ 11 8 4095 HT_ ?_
       refine dn_ HT_ ?_
       obtain ⟨Ao23, co23, eo23⟩ := Kd.R_slice HO777.out
       subst eo23
       try go_wp2_with (first | (go_at_call 119; (with_reducible refine (spec_l02Acyclic.calls k1 _ _ t775 false _ ?side1 ?side2 A11.out).mono ?_); (case side1 => exact pC ((Kd.R_reads' HO777.out).2.2)); (case side2 => exact (Kd.R_reads' HO777.out).2.1); rintro e w24 ⟨rfl, hb⟩; have n0_ := Aside0.mk (Kd.V_below (by (with_reducible repeat (first | apply Kd.V_alloc | apply Kd.V_drewN | apply Kd.V_drew)); exact HO_1.out) hb); have n1_ := sR HO_5 hb; have n2_ := sR HO777 hb; have n3_ := sB BK770 hb; have n4_ := sH HB hb; clear HO_1; clear HO_5; clear HO777; clear BK770; clear HB; have HO_1 := n0_; have HO_5 := n1_; have HO777 := n2_; have BK770 := n3_; have HB := n4_; clear n0_ n1_ n2_ n3_ n4_; (try clear hb); (try clear hi)))
       go_roundg k1
       case measure => have := HK1.out; omega
       case rel => exact ⟨(x1_1), (wrap64 (x6_1 + 1)), (by first | rfl | (simp; done) | (simp [*]; done)), H', ⟨by have := HK1.out; omega⟩, ⟨by (with_reducible repeat (first | apply Kd.V_alloc | apply Kd.V_drewN | apply Kd.V_drew)); exact Kd.V_mono HO_1.out (fun _ hk => ⟨hk.1.1, ⟨hk.1.2.1, hk.1.2.2⟩⟩)⟩, ⟨by (with_reducible repeat (first | apply Kd.R_alloc | apply Kd.R_drewN | apply Kd.R_drew)); exact Kd.R_mono HO_5.out (fun _ hk => hk.1)⟩, ⟨pB BK770⟩, ⟨pH HB⟩⟩
     ·replace c10 := Bool.eq_false_iff.mpr c10
      subst c10
      have H1 : (spec_l02Fill.l0 k1 x1_1 t771 (wrap64 (x6_1 + 1)) a0_0 l0_1) = some r := by rw [if_neg (show ¬ (false = true) by decide)] at H; exact H
      clear H
      have H := H1
      clear H1
      have H' := Aside0.mk H
      clear H
      obtain ⟨Ao25, co25, eo25⟩ := Kd.R_slice HO_5.out
      subst eo25
      try go_wp2
      replace HO_1 := Aside0.mk (Kd.V_drew HO_1.out)
      replace HO_5 := Aside0.mk (Kd.R_drew HO_5.out)
      replace BK770 := dB BK770
      replace HB := dH HB
      have p774 : 0 ≤ (x6_1 : Int) := of_decide_eq_true (by first | (with_reducible assumption) | assumption)
      have q774 : x6_1 < (t771.length : Int) := of_decide_eq_true (by first | (with_reducible assumption) | assumption)
      obtain ⟨ad774, e774, hx774_0, hx774_1⟩ := at_T76 (Kd.R_reads' HO_5.out).2.2 x6_1 p774 q774
      cases e774
      replace p774 := eq_true p774
      replace q774 := eq_true q774
      obtain ⟨Ao27, co27, eo27⟩ := Kd.V_slice HO_1.out
      (first | subst eo27 | (injection eo27 with f1_ f2_ f3_; have f4_ := f1_.symm; have f5_ := f3_.symm; clear f1_ f2_ f3_; subst f4_; subst f5_))
      refine st_ 12 (S := fun w' => w'.cell? ⟨gb770, 0, none⟩ = some (.int .i64 a0_0) ∧ w'.cell? ⟨gb770, 1, none⟩ = some (.slice A0_1 l0_1.length c0_1) ∧ w'.cell? (ad774.add ((x6_1).toNat * 2)) = some (.int .i64 ((rd_T76 t771 x6_1).f0)) ∧ w'.cell? ⟨(ad774.add ((x6_1).toNat * 2)).block, (ad774.add ((x6_1).toNat * 2)).off + 1, none⟩ = some (.int .i64 ((rd_T76 t771 x6_1).f1))) (ds := []) ⟨cB BK770 0, cB BK770 1, hx774_0, hx774_1⟩ (fun hHeld => ?_); refine with_tabW spec_l02Fill.tab5 spec_l02Fill.bits5 (fun HT_ HW_ => ?_)
      generalize wr.drew = w26 at HO_1 HO_5 BK770 HB hx774_0 hx774_1 hHeld ⊢
      refine pu_ 1 19 2 HT_ ?_
      refine pu_ 2 20 6 HT_ ?_
      refine pu_ 3 21 14 HT_ ?_
      refine pu_ 4 22 30 HT_ ?_
      refine tk_ 0 18 31 HT_ HW_ hHeld ?_
      refine tk_ 5 23 63 HT_ HW_ hHeld ?_
      refine on_ 6 (some 24) 127 HT_ (fun K hK => ?_)
      refine ca_ Try.func183 #[.agg #[.int .i64 a0_0, .slice A0_1 l0_1.length c0_1], .slice Ao27 x1_1.length co27, .agg #[.int .i64 ((rd_T76 t771 x6_1).f0), .int .i64 ((rd_T76 t771 x6_1).f1)]] ?_
      with_reducible refine (spec_l02With.calls k1 a0_0 _ _ l0_1 _ _ x1_1 ((rd_T76 t771 x6_1).f0) ((rd_T76 t771 x6_1).f1) t775 false _ ?side1 ?side2 ?side3 ?side4 A9.out).mono ?_
      (case side1 => exact pC ((Kd.C_below HR0_1.out HB.out)))
      (case side2 => exact HC0_1.out)
      (case side3 => exact pC ((Kd.V_reads' HO_1.out).2.2))
      (case side4 => exact (Kd.V_reads' HO_1.out).2.1)
      rintro e w28 ⟨v776, rfl, ho0, hb⟩
      have HS2_ := (hb.cell (World.block_lt_of_cell? _ _ (hHeld.2.2.1))).trans (hHeld.2.2.1)
      have HS3_ := (hb.cell (World.block_lt_of_cell? _ _ (hHeld.2.2.2))).trans (hHeld.2.2.2)
      refine ⟨_, rfl, ?_⟩
      replace HO_1 := Aside0.mk (Kd.V_elder' (by (with_reducible repeat (first | apply Kd.V_alloc | apply Kd.V_drewN | apply Kd.V_drew)); exact HO_1.out) (Kd.R_base ho0) hb)
      have HO777 := Aside0.mk (Kd.R_lower (Kd.R_new' (Kd.R_newM (M := fun k_ => (w.heap.size ≤ k_)) ho0 (below_size (pH HB)) (fun k_ h_ => h_)) (Kd.R_lt (pR HO_5))) (below_size (pH HB)))
      replace HO_5 := Aside0.mk (Kd.R_elder' (pR HO_5) (Kd.R_base ho0) hb)
      replace BK770 := sB BK770 hb
      replace HB := sH HB hb
      (try clear hb)
      (try clear hb2)
      (try clear hk)
      (try clear hi)
      (try clear ho0)
      refine hK.out _ _ ⟨cB BK770 0, cB BK770 1, HS2_, HS3_⟩ (fun hHeld => ?_)
      clear hK K
      refine nm_ ?_
      refine pu_ 7 17 255 HT_ ?_
      refine pu_ 8 25 511 HT_ ?_
      refine pu_ 9 26 1023 HT_ ?_
      refine pu_ 10 7 2047 HT_ ?_
      refine pu_ 11 8 4095 HT_ ?_
      refine dn_ HT_ ?_
      try go_wp2
      go_roundg k1
      case measure => have := HK1.out; omega
      case rel => exact ⟨(x1_1), (wrap64 (x6_1 + 1)), (by first | rfl | (simp; done) | (simp [*]; done)), H', ⟨by have := HK1.out; omega⟩, ⟨by (with_reducible repeat (first | apply Kd.V_alloc | apply Kd.V_drewN | apply Kd.V_drew)); exact Kd.V_mono HO_1.out (fun _ hk => ⟨hk.1.1, ⟨hk.1.2.1, hk.1.2.2⟩⟩)⟩, ⟨by (with_reducible repeat (first | apply Kd.R_alloc | apply Kd.R_drewN | apply Kd.R_drew)); exact Kd.R_mono HO_5.out (fun _ hk => hk.1)⟩, ⟨pB BK770⟩, ⟨pH HB⟩⟩
    ·rw [if_neg c8] at H
     exact absurd H (by simp)
   ·rw [if_neg c7] at H
    have c7b0 : decide (x6_1 < (t771.length : Int)) = false := decide_eq_false c7
    clear c7
    obtain rfl := Option.some.inj H
    obtain ⟨Ao29, co29, eo29⟩ := Kd.R_slice HO_5.out
    subst eo29
    go_wp2
    go_ret
    exact ⟨_, by first | rfl | (simp [errW_none, errW_some] <;> rfl) | (simp [*, errW_none, errW_some] <;> rfl) | (exfalso; simp_all), by (with_reducible repeat (first | apply Kd.V_alloc | apply Kd.V_drewN | apply Kd.V_drew)); exact Kd.V_mono HO_1.out (fun _ hk => hk.1), pH HB⟩
end Go.Proofs.Ytnmhnkpijjmhjaa.QS
namespace Go.Proofs.Ytnmhnkpijjmhjaa.QS
open Go.Proofs.Ytnmhnkpijjmhjaa.Cw Go.Proofs.Ytnmhnkpijjmhjaa.Kp Go.Proofs.Ytnmhnkpijjmhjaa.Ext Go.RowKit Go.Proofs.YtnmhnkpijjmhjaaW.PrintWords Go.Proofs.YtnmhnkpijjmhjaaW.PrintLast Go.Proofs.YtnmhnkpijjmhjaaW.PrintMore
attribute [local go_sem] max2_int min2_int max_two min_two max_three min_three max_four min_four   -- for this text's walks alone
set_option linter.unusedVariables false
set_option linter.unusedSimpArgs false
def spec_l01All.f (a0 : Int) : Option (Int) := if 0 ≤ (IntKind.u64.wrap (a0)) then (some (wrap64 ((shl .i64 1 (IntKind.u64.wrap (a0))) - 1))) else (none)
set_option maxHeartbeats 8000000 in
set_option maxRecDepth 100000 in
theorem spec_l01All.calls (a0 : Int) (r : Int) (w : World) (h : spec_l01All.f a0 = some r) :
  Calls Try.prog 82 #[.int .i64 a0] w fun e w' => e = .returned (.int .i64 r) ∧ Drawn0 w w' := by
 have H : (if 0 ≤ (IntKind.u64.wrap (a0)) then (some (wrap64 ((shl .i64 1 (IntKind.u64.wrap (a0))) - 1))) else (none)) = some r := h
 clear h
 obtain ⟨ji2, hji2⟩ : ∃ j_ : Int, (IntKind.u64.wrap (a0)) = j_ := ⟨_, rfl⟩
 replace H : (if 0 ≤ (ji2) then (some (wrap64 ((shl .i64 1 (ji2)) - 1))) else (none)) = some r := by first | (rw [hji2] at H; exact H) | (simp only [hji2] at H ⊢; exact H)
 by_cases c3 : 0 ≤ (ji2)
 ·rw [if_pos c3] at H
  have c3b0 := eq_true c3
  have c3b1 : decide (0 ≤ (ji2)) = true := decide_eq_true c3
  clear c3
  obtain ⟨ji4, hji4⟩ : ∃ j_ : Int, (shl .i64 1 (ji2)) = j_ := ⟨_, rfl⟩
  replace H : (some (wrap64 ((ji4) - 1))) = some r := by first | (rw [hji4] at H; exact H) | (simp only [hji4] at H ⊢; exact H)
  have hji4_ : (IntKind.i64.wrap (1 * 2 ^ min (ji2).toNat 64)) = ji4 := hji4
  have hji4z : (ji2) ≤ 64 → (IntKind.i64.wrap (1 * 2 ^ (ji2).toNat)) = ji4 := shl_small hji4
  have hji4u : (IntKind.i64.wrap (2 ^ min (ji2).toNat 64)) = ji4 := by have h_ := hji4_; rw [Int.one_mul] at h_; exact h_
  have hji4v : (ji2) ≤ 64 → (IntKind.i64.wrap (2 ^ (ji2).toNat)) = ji4 := fun hle_ => by have h_ := hji4z hle_; rw [Int.one_mul] at h_; exact h_
  have hji4y : (wrap64 (1 * 2 ^ min (ji2).toNat 64)) = ji4 := (i64_w _).symm.trans hji4_
  have hji4x : (ji2) ≤ 64 → (wrap64 (1 * 2 ^ (ji2).toNat)) = ji4 := fun h_ => (i64_w _).symm.trans (hji4z h_)
  obtain rfl := Option.some.inj H
  go_enter Try.func82, Try.ntmps82
  go_wp2
  go_ret
  exact ⟨by first | rfl | (simp; done) | (simp only [← hji2, ← hji4] <;> (first | rfl | simp)) | (simp [*]; done), by repeat (first | exact Drawn0.refl _ | apply Drawn0.step)⟩
 ·rw [if_neg c3] at H
  exact absurd H (by simp)
end Go.Proofs.Ytnmhnkpijjmhjaa.QS
namespace Go.Proofs.Ytnmhnkpijjmhjaa.QS
open Go.Proofs.Ytnmhnkpijjmhjaa.Cw Go.Proofs.Ytnmhnkpijjmhjaa.Kp Go.Proofs.Ytnmhnkpijjmhjaa.Ext Go.RowKit Go.Proofs.YtnmhnkpijjmhjaaW.PrintWords Go.Proofs.YtnmhnkpijjmhjaaW.PrintLast Go.Proofs.YtnmhnkpijjmhjaaW.PrintMore
attribute [local go_sem] max2_int min2_int max_two min_two max_three min_three max_four min_four   -- for this text's walks alone
set_option linter.unusedVariables false
set_option linter.unusedSimpArgs false
def spec_l01In.f (a0 : Int) (a1 : Int) (a2 : Int) : Option (Bool) := if a0 ≥ a1 then (some (decide (a0 ≤ a2))) else (some false)
set_option maxHeartbeats 8000000 in
set_option maxRecDepth 100000 in
theorem spec_l01In.calls (a0 : Int) (a1 : Int) (a2 : Int) (r : Bool) (w : World) (h : spec_l01In.f a0 a1 a2 = some r) :
  Calls Try.prog 106 #[.int .i64 a0, .int .i64 a1, .int .i64 a2] w fun e w' => e = .returned (.bool r) ∧ Drawn0 w w' := by
 have H : (if a0 ≥ a1 then (some (decide (a0 ≤ a2))) else (some false)) = some r := h
 clear h
 by_cases c4 : a0 ≥ a1
 ·rw [if_pos c4] at H
  have c4b0 : decide (a1 ≤ a0) = true := decide_eq_true c4
  clear c4
  obtain rfl := Option.some.inj H
  go_enter Try.func106, Try.ntmps106
  go_wp2
  go_ret
  exact ⟨by first | rfl | (simp; done) | (simp [*]; done), by repeat (first | exact Drawn0.refl _ | apply Drawn0.step)⟩
 ·rw [if_neg c4] at H
  have c4b0 : decide (a1 ≤ a0) = false := decide_eq_false c4
  clear c4
  obtain rfl := Option.some.inj H
  go_enter Try.func106, Try.ntmps106
  go_wp2
  go_ret
  exact ⟨by first | rfl | (simp; done) | (simp [*]; done), by repeat (first | exact Drawn0.refl _ | apply Drawn0.step)⟩
end Go.Proofs.Ytnmhnkpijjmhjaa.QS
namespace Go.Proofs.Ytnmhnkpijjmhjaa.QS
open Go.Proofs.Ytnmhnkpijjmhjaa.Cw Go.Proofs.Ytnmhnkpijjmhjaa.Kp Go.Proofs.Ytnmhnkpijjmhjaa.Ext Go.RowKit Go.Proofs.YtnmhnkpijjmhjaaW.PrintWords Go.Proofs.YtnmhnkpijjmhjaaW.PrintLast Go.Proofs.YtnmhnkpijjmhjaaW.PrintMore
attribute [local go_sem] max2_int min2_int max_two min_two max_three min_three max_four min_four   -- for this text's walks alone
set_option linter.unusedVariables false
set_option linter.unusedSimpArgs false
mutual
def spec_l01Is.l0 : Nat → Int → Int → List Int → Option (Bool)
 | 0, _, _, _ => none
 | k + 1, x3, x151000, x151001 => if x3 < (x151001.length : Int) then (if 0 ≤ x3 then ((spec_l01All.f x151000).bind fun t153 => ((spec_l01In.f (rd x151001 x3) 1 t153).bind fun t154 => (if t154 = true then (if x3 > 0 then (if 0 ≤ (wrap64 (x3 - 1)) then (if (wrap64 (x3 - 1)) < (x151001.length : Int) then (if (rd x151001 x3) ≤ (rd x151001 (wrap64 (x3 - 1))) then (some false) else (spec_l01Is.l0 k (wrap64 (x3 + 1)) x151000 x151001)) else (none)) else (none)) else (spec_l01Is.l0 k (wrap64 (x3 + 1)) x151000 x151001)) else (some false)))) else (none)) else (spec_l01Is.l1 k 0 x151000 x151001)
def spec_l01Is.l1 : Nat → Int → Int → List Int → Option (Bool)
 | 0, _, _, _ => none
 | k + 1, x4, x151000, x151001 => if x4 < (x151001.length : Int) then (if 0 ≤ x4 then ((spec_l01Below.f k (rd x151001 x4)).bind fun t158 => (spec_l01Is.l2 k x4 t158 0 x151000 x151001)) else (none)) else (some true)
def spec_l01Is.l2 : Nat → Int → List Int → Int → Int → List Int → Option (Bool)
 | 0, _, _, _, _, _ => none
 | k + 1, x4, x5, x6, x151000, x151001 => if x6 < (x5.length : Int) then (if 0 ≤ x6 then ((spec_l01Has.f k x151000 x151001 (rd x5 x6)).bind fun t162 => (if t162 = true then (spec_l01Is.l2 k x4 x5 (wrap64 (x6 + 1)) x151000 x151001) else (some false))) else (none)) else (spec_l01Is.l1 k (wrap64 (x4 + 1)) x151000 x151001)
end
def spec_l01Is.f (k : Nat) (a0_0 : Int) (l0_1 : List Int) : Option (Bool) := (spec_l01In.f a0_0 1 6).bind fun t151 => (if t151 = true then (spec_l01Is.l0 k 0 a0_0 l0_1) else (some false))
def spec_l01Is.T6 : Bool × List (List Nat × List Nat) := (true, [([], []), ([0], [0]), ([], []), ([1, 2], [1, 2]), ([3], [3]), ([], []), ([5], [5]), ([6], [6]), ([4, 7, 7], [4, 7]), ([8], [8]), ([9, 8], [9]), ([10], [10]), ([11, 10], [10, 11]), ([12, 10, 10], [10, 12]), ([13], [13]), ([14, 13], [13, 14]), ([13], [13]), ([15, 16, 13], [13, 15, 16]), ([17, 13], [13, 17]), ([13], [13]), ([19, 13], [13, 19]), ([13], [13]), ([21, 13], [13, 21]), ([20, 22, 13], [13, 20, 22]), ([23, 13], [13, 23]), ([18, 24, 13], [13, 18, 24]), ([13, 25, 10], [10, 13, 25]), ([10, 26], [10, 26])])
def spec_l01Is.B6 : List Nat := [0, 1, 0, 7, 15, 0, 32, 96, 255, 511, 1023, 2047, 4095, 8191, 16383, 32767, 16383, 131071, 262143, 16383, 540671, 16383, 2113535, 7880703, 16269311, 33554431, 67108863, 134217727]
theorem spec_l01Is.tab6 : rtab .any (opsOf Try.f57 6) = spec_l01Is.T6 := by kernel_rfl
theorem spec_l01Is.bits6 : waitsOk spec_l01Is.T6.2 spec_l01Is.B6 = true := by kernel_rfl
set_option maxHeartbeats 8000000 in
set_option maxRecDepth 100000 in
theorem spec_l01Is.calls (k : Nat) (a0_0 : Int) (A0_1 : Option Addr) (c0_1 : Nat) (l0_1 : List Int) (r : Bool) (w : World) (hr0_1 : Kd.C (Kd.int .i64) w A0_1 l0_1.length l0_1) (hc0_1 : l0_1.length ≤ c0_1) (h : spec_l01Is.f k a0_0 l0_1 = some r) :
  Calls Try.prog 57 #[.agg #[.int .i64 a0_0, .slice A0_1 l0_1.length c0_1]] w fun e w' => e = .returned (.bool r) ∧ Below w.heap.size w w' := by
 have hu26 := Try.underlying26
 have HR0_1 := Aside0.mk hr0_1
 have HC0_1 := Aside0.mk hc0_1
 clear hr0_1 hc0_1
 have HB := Aside0.mk (Below.refl w.heap.size w)
 have H : ((spec_l01In.f a0_0 1 6).bind fun t151 => (if t151 = true then (spec_l01Is.l0 k 0 a0_0 l0_1) else (some false))) = some r := h
 clear h
 replace H := Option.bind_eq_some_iff.mp H
 obtain ⟨t151, A20, H⟩ := H
 try dsimp only at H
 have A2 := Aside0.mk A20
 clear A20
 by_cases c3 : t151 = true
 ·subst c3
  have H1 : (spec_l01Is.l0 k 0 a0_0 l0_1) = some r := by rw [if_pos rfl] at H; exact H
  clear H
  have H := H1
  clear H1
  have H' := Aside0.mk H
  clear H
  go_enter Try.func57, Try.ntmps57
  go_wp2_with (first | ((with_reducible refine gate_dst (N := 1) rfl ?_); refine box_event ?hg (N := 1) ?hd (cs := #[.int .i64 a0_0, .slice A0_1 l0_1.length c0_1]) (t := 26) ?hr ?_; (case hd => rfl); (case hg => rfl); (case hr => first | (go_simp; done) | (go_simp; rfl)); intro gb150 hg w4 hbox hb; have BK150 := Aside0.mk (hbox); have GW150 := gH HB hg; have GE150 := gH HB hg; replace HB := sH HB hb; clear hb hbox hg; have hcz5_0 : w4.cell? ⟨gb150, 0, none⟩ = some (.int .i64 a0_0) := cB BK150 0; have hcz5_1 : w4.cell? ⟨gb150, 1, none⟩ = some (.slice A0_1 l0_1.length c0_1) := cB BK150 1; have hfz5_0 := zB BK150 0; have hfz5_1 := zB BK150 1) | ((with_reducible refine gate_callee (f := 106) rfl ?_); refine cl_ (some 9) Try.func106 #[.int .i64 a0_0, .int .i64 1, .int .i64 6] ?_; (with_reducible refine (spec_l01In.calls a0_0 1 6 true _ A2.out).mono ?_); rintro e w' ⟨rfl, ⟨nd, rfl⟩⟩; refine ⟨_, rfl, ?_⟩))
  go_loopg [3] k (fun kq v3 w' => ∃ (x3_1 : Int), v3 = .int .i64 x3_1 ∧ Aside0 (spec_l01Is.l0 kq x3_1 a0_0 l0_1 = some r) ∧ Aside0 (kq ≤ k) ∧ Aside0 (w'.heap[gb150]? = some (.cells #[.int .i64 a0_0, (.slice A0_1 l0_1.length c0_1)] 26 (0, 0))) ∧ Aside0 (Below w.heap.size w w'))
  case atStart => exact ⟨(0), (by first | rfl | (simp; done) | (simp [*]; done)), H', ⟨Nat.le_refl _⟩, ⟨pB BK150⟩, ⟨pH HB⟩⟩
  case round =>
   clear H'
   try clear c1
   try clear p2
   try clear c3
   try clear c5
   try clear hcz5_0
   try clear hcz5_1
   try clear hfz5_0
   try clear hfz5_1
   obtain ⟨x3_1, rfl, HA, HK1, BK150, HB⟩ := hrel
   cases gk with
   | zero => exact absurd HA.out (by simp [spec_l01Is.l0])
   | succ k1 =>
    have H := HA.out
    clear HA
    simp only [spec_l01Is.l0] at H
    by_cases c6 : x3_1 < (l0_1.length : Int)
    ·rw [if_pos c6] at H
     have c6b0 : decide (x3_1 < (l0_1.length : Int)) = true := decide_eq_true c6
     clear c6
     by_cases c7 : 0 ≤ x3_1
     ·rw [if_pos c7] at H
      have c7b0 : decide (0 ≤ x3_1) = true := decide_eq_true c7
      clear c7
      replace H := Option.bind_eq_some_iff.mp H
      obtain ⟨t153, A80, H⟩ := H
      try dsimp only at H
      have A8 := Aside0.mk A80
      clear A80
      replace H := Option.bind_eq_some_iff.mp H
      obtain ⟨t154, A90, H⟩ := H
      try dsimp only at H
      have A9 := Aside0.mk A90
      clear A90
      by_cases c10 : t154 = true
      ·subst c10
       have H1 : (if x3_1 > 0 then (if 0 ≤ (wrap64 (x3_1 - 1)) then (if (wrap64 (x3_1 - 1)) < (l0_1.length : Int) then (if (rd l0_1 x3_1) ≤ (rd l0_1 (wrap64 (x3_1 - 1))) then (some false) else (spec_l01Is.l0 k1 (wrap64 (x3_1 + 1)) a0_0 l0_1)) else (none)) else (none)) else (spec_l01Is.l0 k1 (wrap64 (x3_1 + 1)) a0_0 l0_1)) = some r := by rw [if_pos rfl] at H; exact H
       clear H
       have H := H1
       clear H1
       by_cases c11 : x3_1 > 0
       ·rw [if_pos c11] at H
        have c11b0 : decide (0 < x3_1) = true := decide_eq_true c11
        clear c11
        obtain ⟨ji12, hji12⟩ : ∃ j_ : Int, (wrap64 (x3_1 - 1)) = j_ := ⟨_, rfl⟩
        replace H : (if 0 ≤ (ji12) then (if (ji12) < (l0_1.length : Int) then (if (rd l0_1 x3_1) ≤ (rd l0_1 (ji12)) then (some false) else (spec_l01Is.l0 k1 (wrap64 (x3_1 + 1)) a0_0 l0_1)) else (none)) else (none)) = some r := by first | (rw [hji12] at H; exact H) | (simp only [hji12] at H ⊢; exact H)
        (try rw [hji12] at A8)
        (try rw [hji12] at A9)
        have hji12w : (IntKind.i64.wrap (x3_1 - 1)) = ji12 := (i64_w _).trans hji12
        by_cases c13 : 0 ≤ (ji12)
        ·rw [if_pos c13] at H
         have c13b0 : decide (0 ≤ (ji12)) = true := decide_eq_true c13
         clear c13
         by_cases c14 : (ji12) < (l0_1.length : Int)
         ·rw [if_pos c14] at H
          have c14b0 : decide ((ji12) < (l0_1.length : Int)) = true := decide_eq_true c14
          clear c14
          by_cases c15 : (rd l0_1 x3_1) ≤ (rd l0_1 (ji12))
          ·rw [if_pos c15] at H
           have c15b0 : decide ((rd l0_1 x3_1) ≤ (rd l0_1 (ji12))) = true := decide_eq_true c15
           clear c15
           obtain rfl := Option.some.inj H
           have hcz16_0 : wr.cell? ⟨gb150, 0, none⟩ = some (.int .i64 a0_0) := cB BK150 0
           have hcz16_1 : wr.cell? ⟨gb150, 1, none⟩ = some (.slice A0_1 l0_1.length c0_1) := cB BK150 1
           have hfz16_0 := zB BK150 0
           have hfz16_1 := zB BK150 1
           try go_wp2
           replace BK150 := dB BK150
           replace HB := dH HB
           have p152 : 0 ≤ (x3_1 : Int) := of_decide_eq_true (by first | (with_reducible assumption) | assumption)
           have q152 : x3_1 < (l0_1.length : Int) := of_decide_eq_true (by first | (with_reducible assumption) | assumption)
           obtain ⟨ad152, e152, hx152_0⟩ := Kd.at_int HR0_1.out x3_1 p152 q152
           have hw152_0 := hx152_0
           cases e152
           replace hx152_0 := cH HB hx152_0
           replace p152 := eq_true p152
           replace q152 := eq_true q152
           have p155 : 0 ≤ (x3_1 : Int) := of_decide_eq_true (by first | (with_reducible assumption) | assumption)
           have q155 : x3_1 < (l0_1.length : Int) := of_decide_eq_true (by first | (with_reducible assumption) | assumption)
           obtain ⟨ad155, e155, hx155_0⟩ := Kd.at_int HR0_1.out x3_1 p155 q155
           have hw155_0 := hx155_0
           obtain rfl : ad152 = ad155 := (by injection e155)
           replace hx155_0 := cH HB hx155_0
           replace p155 := eq_true p155
           replace q155 := eq_true q155
           have p156 : 0 ≤ ((ji12) : Int) := of_decide_eq_true (by first | (with_reducible assumption) | assumption)
           have q156 : (ji12) < (l0_1.length : Int) := of_decide_eq_true (by first | (with_reducible assumption) | assumption)
           obtain ⟨ad156, e156, hx156_0⟩ := Kd.at_int HR0_1.out (ji12) p156 q156
           have hw156_0 := hx156_0
           obtain rfl : ad152 = ad156 := (by injection e156)
           replace hx156_0 := cH HB hx156_0
           replace p156 := eq_true p156
           replace q156 := eq_true q156
           refine st_ 28 (S := fun w' => w'.cell? ⟨gb150, 0, none⟩ = some (.int .i64 a0_0) ∧ w'.cell? ⟨gb150, 1, none⟩ = some (.slice (some ad152) l0_1.length c0_1) ∧ w'.cell? (ad152.add (x3_1).toNat) = some (.int .i64 (rd l0_1 x3_1)) ∧ w'.cell? (ad152.add (x3_1).toNat) = some (.int .i64 (rd l0_1 x3_1)) ∧ w'.cell? (ad152.add ((ji12)).toNat) = some (.int .i64 (rd l0_1 (ji12)))) (ds := []) ⟨cB BK150 0, cB BK150 1, (cH HB hw152_0 :), (cH HB hw155_0 :), (cH HB hw156_0 :)⟩ (fun hHeld => ?_); refine with_tabW spec_l01Is.tab6 spec_l01Is.bits6 (fun HT_ HW_ => ?_)
           generalize wr.drew = w17 at BK150 HB hx152_0 hx155_0 hx156_0 hHeld ⊢
           refine pu_ 0 18 1 HT_ ?_
           refine pu_ 2 20 5 HT_ ?_
           refine pu_ 5 23 37 HT_ ?_
           refine tk_ 1 19 39 HT_ HW_ hHeld ?_
           refine pu_ 3 21 47 HT_ ?_
           refine tk_ 4 22 63 HT_ HW_ hHeld ?_
           refine tk_ 6 24 127 HT_ HW_ hHeld ?_
           refine on_ 7 (some 25) 255 HT_ (fun K hK => ?_)
           refine ca_ Try.func82 #[.int .i64 a0_0] ?_
           with_reducible refine (spec_l01All.calls a0_0 t153 _ A8.out).mono ?_
           rintro e w' ⟨rfl, ⟨nd, rfl⟩⟩
           refine ⟨_, rfl, ?_⟩
           refine hK.out _ _ ⟨cB BK150 0, cB BK150 1, (cH HB hw152_0 :), (cH HB hw155_0 :), (cH HB hw156_0 :)⟩ (fun hHeld => ?_)
           clear hK K
           refine nm_ ?_
           refine on_ 8 (some 26) 511 HT_ (fun K hK => ?_)
           refine ca_ Try.func106 #[.int .i64 (rd l0_1 x3_1), .int .i64 1, .int .i64 t153] ?_
           with_reducible refine (spec_l01In.calls (rd l0_1 x3_1) 1 t153 true _ A9.out).mono ?_
           rintro e w' ⟨rfl, ⟨nd, rfl⟩⟩
           refine ⟨_, rfl, ?_⟩
           refine hK.out _ _ ⟨cB BK150 0, cB BK150 1, (cH HB hw152_0 :), (cH HB hw155_0 :), (cH HB hw156_0 :)⟩ (fun hHeld => ?_)
           clear hK K
           refine nm_ ?_
           refine pu_ 9 27 1023 HT_ ?_
           refine pu_ 10 28 2047 HT_ ?_
           refine pu_ 11 29 4095 HT_ ?_
           refine pu_ 12 30 8191 HT_ ?_
           refine pu_ 13 31 16383 HT_ ?_
           refine pu_ 14 32 32767 HT_ ?_
           refine pu_ 16 34 98303 HT_ ?_
           refine pu_ 19 37 622591 HT_ ?_
           refine pu_ 21 39 2719743 HT_ ?_
           refine pu_ 22 40 6914047 HT_ ?_
           refine tk_ 15 33 6946815 HT_ HW_ hHeld ?_
           refine pu_ 17 35 7077887 HT_ ?_
           refine tk_ 18 36 7340031 HT_ HW_ hHeld ?_
           refine tk_ 20 38 8388607 HT_ HW_ hHeld ?_
           refine pu_ 23 41 16777215 HT_ ?_
           refine tk_ 24 42 33554431 HT_ HW_ hHeld ?_
           refine pu_ 25 43 67108863 HT_ ?_
           refine pu_ 26 44 134217727 HT_ ?_
           refine pu_ 27 45 268435455 HT_ ?_
           refine dn_ HT_ ?_
           try go_wp2
           go_ret
           exact ⟨by first | rfl | (simp [errW_none, errW_some] <;> rfl) | (simp only [← hji12]; first | rfl | (simp [errW_none, errW_some] <;> rfl)) | (simp [*, errW_none, errW_some] <;> rfl), pH HB⟩
          ·rw [if_neg c15] at H
           have c15b0 : decide ((rd l0_1 x3_1) ≤ (rd l0_1 (ji12))) = false := decide_eq_false c15
           clear c15
           have H' := Aside0.mk H
           clear H
           have hcz18_0 : wr.cell? ⟨gb150, 0, none⟩ = some (.int .i64 a0_0) := cB BK150 0
           have hcz18_1 : wr.cell? ⟨gb150, 1, none⟩ = some (.slice A0_1 l0_1.length c0_1) := cB BK150 1
           have hfz18_0 := zB BK150 0
           have hfz18_1 := zB BK150 1
           try go_wp2
           replace BK150 := dB BK150
           replace HB := dH HB
           have p152 : 0 ≤ (x3_1 : Int) := of_decide_eq_true (by first | (with_reducible assumption) | assumption)
           have q152 : x3_1 < (l0_1.length : Int) := of_decide_eq_true (by first | (with_reducible assumption) | assumption)
           obtain ⟨ad152, e152, hx152_0⟩ := Kd.at_int HR0_1.out x3_1 p152 q152
           have hw152_0 := hx152_0
           cases e152
           replace hx152_0 := cH HB hx152_0
           replace p152 := eq_true p152
           replace q152 := eq_true q152
           have p155 : 0 ≤ (x3_1 : Int) := of_decide_eq_true (by first | (with_reducible assumption) | assumption)
           have q155 : x3_1 < (l0_1.length : Int) := of_decide_eq_true (by first | (with_reducible assumption) | assumption)
           obtain ⟨ad155, e155, hx155_0⟩ := Kd.at_int HR0_1.out x3_1 p155 q155
           have hw155_0 := hx155_0
           obtain rfl : ad152 = ad155 := (by injection e155)
           replace hx155_0 := cH HB hx155_0
           replace p155 := eq_true p155
           replace q155 := eq_true q155
           have p156 : 0 ≤ ((ji12) : Int) := of_decide_eq_true (by first | (with_reducible assumption) | assumption)
           have q156 : (ji12) < (l0_1.length : Int) := of_decide_eq_true (by first | (with_reducible assumption) | assumption)
           obtain ⟨ad156, e156, hx156_0⟩ := Kd.at_int HR0_1.out (ji12) p156 q156
           have hw156_0 := hx156_0
           obtain rfl : ad152 = ad156 := (by injection e156)
           replace hx156_0 := cH HB hx156_0
           replace p156 := eq_true p156
           replace q156 := eq_true q156
           refine st_ 28 (S := fun w' => w'.cell? ⟨gb150, 0, none⟩ = some (.int .i64 a0_0) ∧ w'.cell? ⟨gb150, 1, none⟩ = some (.slice (some ad152) l0_1.length c0_1) ∧ w'.cell? (ad152.add (x3_1).toNat) = some (.int .i64 (rd l0_1 x3_1)) ∧ w'.cell? (ad152.add (x3_1).toNat) = some (.int .i64 (rd l0_1 x3_1)) ∧ w'.cell? (ad152.add ((ji12)).toNat) = some (.int .i64 (rd l0_1 (ji12)))) (ds := []) ⟨cB BK150 0, cB BK150 1, (cH HB hw152_0 :), (cH HB hw155_0 :), (cH HB hw156_0 :)⟩ (fun hHeld => ?_); refine with_tabW spec_l01Is.tab6 spec_l01Is.bits6 (fun HT_ HW_ => ?_)
           generalize wr.drew = w19 at BK150 HB hx152_0 hx155_0 hx156_0 hHeld ⊢
           refine pu_ 0 18 1 HT_ ?_
           refine pu_ 2 20 5 HT_ ?_
           refine pu_ 5 23 37 HT_ ?_
           refine tk_ 1 19 39 HT_ HW_ hHeld ?_
           refine pu_ 3 21 47 HT_ ?_
           refine tk_ 4 22 63 HT_ HW_ hHeld ?_
           refine tk_ 6 24 127 HT_ HW_ hHeld ?_
           refine on_ 7 (some 25) 255 HT_ (fun K hK => ?_)
           refine ca_ Try.func82 #[.int .i64 a0_0] ?_
           with_reducible refine (spec_l01All.calls a0_0 t153 _ A8.out).mono ?_
           rintro e w' ⟨rfl, ⟨nd, rfl⟩⟩
           refine ⟨_, rfl, ?_⟩
           refine hK.out _ _ ⟨cB BK150 0, cB BK150 1, (cH HB hw152_0 :), (cH HB hw155_0 :), (cH HB hw156_0 :)⟩ (fun hHeld => ?_)
           clear hK K
           refine nm_ ?_
           refine on_ 8 (some 26) 511 HT_ (fun K hK => ?_)
           refine ca_ Try.func106 #[.int .i64 (rd l0_1 x3_1), .int .i64 1, .int .i64 t153] ?_
           with_reducible refine (spec_l01In.calls (rd l0_1 x3_1) 1 t153 true _ A9.out).mono ?_
           rintro e w' ⟨rfl, ⟨nd, rfl⟩⟩
           refine ⟨_, rfl, ?_⟩
           refine hK.out _ _ ⟨cB BK150 0, cB BK150 1, (cH HB hw152_0 :), (cH HB hw155_0 :), (cH HB hw156_0 :)⟩ (fun hHeld => ?_)
           clear hK K
           refine nm_ ?_
           refine pu_ 9 27 1023 HT_ ?_
           refine pu_ 10 28 2047 HT_ ?_
           refine pu_ 11 29 4095 HT_ ?_
           refine pu_ 12 30 8191 HT_ ?_
           refine pu_ 13 31 16383 HT_ ?_
           refine pu_ 14 32 32767 HT_ ?_
           refine pu_ 16 34 98303 HT_ ?_
           refine pu_ 19 37 622591 HT_ ?_
           refine pu_ 21 39 2719743 HT_ ?_
           refine pu_ 22 40 6914047 HT_ ?_
           refine tk_ 15 33 6946815 HT_ HW_ hHeld ?_
           refine pu_ 17 35 7077887 HT_ ?_
           refine tk_ 18 36 7340031 HT_ HW_ hHeld ?_
           refine tk_ 20 38 8388607 HT_ HW_ hHeld ?_
           refine pu_ 23 41 16777215 HT_ ?_
           refine tk_ 24 42 33554431 HT_ HW_ hHeld ?_
           refine pu_ 25 43 67108863 HT_ ?_
           refine pu_ 26 44 134217727 HT_ ?_
           refine pu_ 27 45 268435455 HT_ ?_
           refine dn_ HT_ ?_
           try go_wp2
           go_roundg k1
           case measure => have := HK1.out; omega
           case rel => exact ⟨(wrap64 (x3_1 + 1)), (by first | rfl | (simp; done) | (simp [*]; done)), H', ⟨by have := HK1.out; omega⟩, ⟨pB BK150⟩, ⟨pH HB⟩⟩
         ·rw [if_neg c14] at H
          exact absurd H (by simp)
        ·rw [if_neg c13] at H
         exact absurd H (by simp)
       ·rw [if_neg c11] at H
        have c11b0 : decide (0 < x3_1) = false := decide_eq_false c11
        clear c11
        have H' := Aside0.mk H
        clear H
        have hcz20_0 : wr.cell? ⟨gb150, 0, none⟩ = some (.int .i64 a0_0) := cB BK150 0
        have hcz20_1 : wr.cell? ⟨gb150, 1, none⟩ = some (.slice A0_1 l0_1.length c0_1) := cB BK150 1
        have hfz20_0 := zB BK150 0
        have hfz20_1 := zB BK150 1
        try go_wp2
        replace BK150 := dB BK150
        replace HB := dH HB
        have p152 : 0 ≤ (x3_1 : Int) := of_decide_eq_true (by first | (with_reducible assumption) | assumption)
        have q152 : x3_1 < (l0_1.length : Int) := of_decide_eq_true (by first | (with_reducible assumption) | assumption)
        obtain ⟨ad152, e152, hx152_0⟩ := Kd.at_int HR0_1.out x3_1 p152 q152
        have hw152_0 := hx152_0
        cases e152
        replace hx152_0 := cH HB hx152_0
        replace p152 := eq_true p152
        replace q152 := eq_true q152
        refine st_ 28 (S := fun w' => w'.cell? ⟨gb150, 0, none⟩ = some (.int .i64 a0_0) ∧ w'.cell? ⟨gb150, 1, none⟩ = some (.slice (some ad152) l0_1.length c0_1) ∧ w'.cell? (ad152.add (x3_1).toNat) = some (.int .i64 (rd l0_1 x3_1))) (ds := []) ⟨cB BK150 0, cB BK150 1, (cH HB hw152_0 :)⟩ (fun hHeld => ?_); refine with_tabW spec_l01Is.tab6 spec_l01Is.bits6 (fun HT_ HW_ => ?_)
        generalize wr.drew = w21 at BK150 HB hx152_0 hHeld ⊢
        refine pu_ 0 18 1 HT_ ?_
        refine pu_ 2 20 5 HT_ ?_
        refine pu_ 5 23 37 HT_ ?_
        refine tk_ 1 19 39 HT_ HW_ hHeld ?_
        refine pu_ 3 21 47 HT_ ?_
        refine tk_ 4 22 63 HT_ HW_ hHeld ?_
        refine tk_ 6 24 127 HT_ HW_ hHeld ?_
        refine on_ 7 (some 25) 255 HT_ (fun K hK => ?_)
        refine ca_ Try.func82 #[.int .i64 a0_0] ?_
        with_reducible refine (spec_l01All.calls a0_0 t153 _ A8.out).mono ?_
        rintro e w' ⟨rfl, ⟨nd, rfl⟩⟩
        refine ⟨_, rfl, ?_⟩
        refine hK.out _ _ ⟨cB BK150 0, cB BK150 1, (cH HB hw152_0 :)⟩ (fun hHeld => ?_)
        clear hK K
        refine nm_ ?_
        refine on_ 8 (some 26) 511 HT_ (fun K hK => ?_)
        refine ca_ Try.func106 #[.int .i64 (rd l0_1 x3_1), .int .i64 1, .int .i64 t153] ?_
        with_reducible refine (spec_l01In.calls (rd l0_1 x3_1) 1 t153 true _ A9.out).mono ?_
        rintro e w' ⟨rfl, ⟨nd, rfl⟩⟩
        refine ⟨_, rfl, ?_⟩
        refine hK.out _ _ ⟨cB BK150 0, cB BK150 1, (cH HB hw152_0 :)⟩ (fun hHeld => ?_)
        clear hK K
        refine nm_ ?_
        refine pu_ 9 27 1023 HT_ ?_
        refine pu_ 10 28 2047 HT_ ?_
        refine pu_ 11 29 4095 HT_ ?_
        refine pu_ 12 30 8191 HT_ ?_
        refine pu_ 13 31 16383 HT_ ?_
        refine pn_ 14 32 32767 HT_ ?_
        refine pn_ 15 33 65535 HT_ ?_
        refine pn_ 16 34 131071 HT_ ?_
        refine pn_ 17 35 262143 HT_ ?_
        refine pn_ 18 36 524287 HT_ ?_
        refine pn_ 19 37 1048575 HT_ ?_
        refine pn_ 20 38 2097151 HT_ ?_
        refine pn_ 21 39 4194303 HT_ ?_
        refine pn_ 22 40 8388607 HT_ ?_
        refine pn_ 23 41 16777215 HT_ ?_
        refine pn_ 24 42 33554431 HT_ ?_
        refine pn_ 25 43 67108863 HT_ ?_
        refine pu_ 26 44 134217727 HT_ ?_
        refine pu_ 27 45 268435455 HT_ ?_
        refine dn_ HT_ ?_
        try go_wp2
        go_roundg k1
        case measure => have := HK1.out; omega
        case rel => exact ⟨(wrap64 (x3_1 + 1)), (by first | rfl | (simp; done) | (simp [*]; done)), H', ⟨by have := HK1.out; omega⟩, ⟨pB BK150⟩, ⟨pH HB⟩⟩
      ·replace c10 := Bool.eq_false_iff.mpr c10
       subst c10
       have H1 : (some false) = some r := by rw [if_neg (show ¬ (false = true) by decide)] at H; exact H
       clear H
       have H := H1
       clear H1
       obtain rfl := Option.some.inj H
       have hcz22_0 : wr.cell? ⟨gb150, 0, none⟩ = some (.int .i64 a0_0) := cB BK150 0
       have hcz22_1 : wr.cell? ⟨gb150, 1, none⟩ = some (.slice A0_1 l0_1.length c0_1) := cB BK150 1
       have hfz22_0 := zB BK150 0
       have hfz22_1 := zB BK150 1
       try go_wp2
       replace BK150 := dB BK150
       replace HB := dH HB
       have p152 : 0 ≤ (x3_1 : Int) := of_decide_eq_true (by first | (with_reducible assumption) | assumption)
       have q152 : x3_1 < (l0_1.length : Int) := of_decide_eq_true (by first | (with_reducible assumption) | assumption)
       obtain ⟨ad152, e152, hx152_0⟩ := Kd.at_int HR0_1.out x3_1 p152 q152
       have hw152_0 := hx152_0
       cases e152
       replace hx152_0 := cH HB hx152_0
       replace p152 := eq_true p152
       replace q152 := eq_true q152
       refine st_ 28 (S := fun w' => w'.cell? ⟨gb150, 0, none⟩ = some (.int .i64 a0_0) ∧ w'.cell? ⟨gb150, 1, none⟩ = some (.slice (some ad152) l0_1.length c0_1) ∧ w'.cell? (ad152.add (x3_1).toNat) = some (.int .i64 (rd l0_1 x3_1))) (ds := []) ⟨cB BK150 0, cB BK150 1, (cH HB hw152_0 :)⟩ (fun hHeld => ?_); refine with_tabW spec_l01Is.tab6 spec_l01Is.bits6 (fun HT_ HW_ => ?_)
       generalize wr.drew = w23 at BK150 HB hx152_0 hHeld ⊢
       refine pu_ 0 18 1 HT_ ?_
       refine pu_ 2 20 5 HT_ ?_
       refine pu_ 5 23 37 HT_ ?_
       refine tk_ 1 19 39 HT_ HW_ hHeld ?_
       refine pu_ 3 21 47 HT_ ?_
       refine tk_ 4 22 63 HT_ HW_ hHeld ?_
       refine tk_ 6 24 127 HT_ HW_ hHeld ?_
       refine on_ 7 (some 25) 255 HT_ (fun K hK => ?_)
       refine ca_ Try.func82 #[.int .i64 a0_0] ?_
       with_reducible refine (spec_l01All.calls a0_0 t153 _ A8.out).mono ?_
       rintro e w' ⟨rfl, ⟨nd, rfl⟩⟩
       refine ⟨_, rfl, ?_⟩
       refine hK.out _ _ ⟨cB BK150 0, cB BK150 1, (cH HB hw152_0 :)⟩ (fun hHeld => ?_)
       clear hK K
       refine nm_ ?_
       refine on_ 8 (some 26) 511 HT_ (fun K hK => ?_)
       refine ca_ Try.func106 #[.int .i64 (rd l0_1 x3_1), .int .i64 1, .int .i64 t153] ?_
       with_reducible refine (spec_l01In.calls (rd l0_1 x3_1) 1 t153 false _ A9.out).mono ?_
       rintro e w' ⟨rfl, ⟨nd, rfl⟩⟩
       refine ⟨_, rfl, ?_⟩
       refine hK.out _ _ ⟨cB BK150 0, cB BK150 1, (cH HB hw152_0 :)⟩ (fun hHeld => ?_)
       clear hK K
       refine nm_ ?_
       refine pu_ 9 27 1023 HT_ ?_
       refine pu_ 10 28 2047 HT_ ?_
       refine pn_ 11 29 4095 HT_ ?_
       refine pn_ 12 30 8191 HT_ ?_
       refine pn_ 13 31 16383 HT_ ?_
       refine pn_ 14 32 32767 HT_ ?_
       refine pn_ 15 33 65535 HT_ ?_
       refine pn_ 16 34 131071 HT_ ?_
       refine pn_ 17 35 262143 HT_ ?_
       refine pn_ 18 36 524287 HT_ ?_
       refine pn_ 19 37 1048575 HT_ ?_
       refine pn_ 20 38 2097151 HT_ ?_
       refine pn_ 21 39 4194303 HT_ ?_
       refine pn_ 22 40 8388607 HT_ ?_
       refine pn_ 23 41 16777215 HT_ ?_
       refine pn_ 24 42 33554431 HT_ ?_
       refine pn_ 25 43 67108863 HT_ ?_
       refine pn_ 26 44 134217727 HT_ ?_
       refine pu_ 27 45 268435455 HT_ ?_
       refine dn_ HT_ ?_
       try go_wp2
       go_ret
       exact ⟨by first | rfl | (simp [errW_none, errW_some] <;> rfl) | (simp [*, errW_none, errW_some] <;> rfl), pH HB⟩
     ·rw [if_neg c7] at H
      exact absurd H (by simp)
    ·rw [if_neg c6] at H
     have c6b0 : decide (x3_1 < (l0_1.length : Int)) = false := decide_eq_false c6
     clear c6
     have H' := Aside0.mk H
     clear H
     have hcz24_0 : wr.cell? ⟨gb150, 0, none⟩ = some (.int .i64 a0_0) := cB BK150 0
     have hcz24_1 : wr.cell? ⟨gb150, 1, none⟩ = some (.slice A0_1 l0_1.length c0_1) := cB BK150 1
     have hfz24_0 := zB BK150 0
     have hfz24_1 := zB BK150 1
     go_wp2
     go_loopg [4] k1 (fun kq v4 w' => ∃ (x4_2 : Int), v4 = .int .i64 x4_2 ∧ Aside0 (spec_l01Is.l1 kq x4_2 a0_0 l0_1 = some r) ∧ Aside0 (kq ≤ k1) ∧ Aside0 (w'.heap[gb150]? = some (.cells #[.int .i64 a0_0, (.slice A0_1 l0_1.length c0_1)] 26 (0, 0))) ∧ Aside0 (Below w.heap.size w w'))
     case atStart => exact ⟨(0), (by first | rfl | (simp; done) | (simp [*]; done)), H', ⟨Nat.le_refl _⟩, ⟨pB BK150⟩, ⟨pH HB⟩⟩
     case round =>
      clear H'
      try clear c1
      try clear p1
      try clear q1
      try clear hx1
      try clear p2
      try clear c6
      try clear c6b0
      try clear p6
      try clear c7
      try clear c8
      try clear c10
      try clear c11
      try clear c11b0
      try clear c13
      try clear c14
      try clear p15
      try clear q15
      try clear hx15
      try clear hcz20_0
      try clear hcz20_1
      try clear hcz22_0
      try clear hcz22_1
      try clear hcz24_0
      try clear hcz24_1
      try clear hfz20_0
      try clear hfz20_1
      try clear hfz22_0
      try clear hfz22_1
      try clear hfz24_0
      try clear hfz24_1
      try clear hx152_0
      try clear p152
      try clear q152
      obtain ⟨x4_2, rfl, HA, HK2, BK150, HB⟩ := hrel
      cases gk with
      | zero => exact absurd HA.out (by simp [spec_l01Is.l1])
      | succ k2 =>
       have H := HA.out
       clear HA
       simp only [spec_l01Is.l1] at H
       by_cases c25 : x4_2 < (l0_1.length : Int)
       ·rw [if_pos c25] at H
        have c25b0 : decide (x4_2 < (l0_1.length : Int)) = true := decide_eq_true c25
        clear c25
        by_cases c26 : 0 ≤ x4_2
        ·rw [if_pos c26] at H
         have c26b0 : decide (0 ≤ x4_2) = true := decide_eq_true c26
         clear c26
         replace H := Option.bind_eq_some_iff.mp H
         obtain ⟨t158, A270, H⟩ := H
         try dsimp only at H
         have A27 := Aside0.mk A270
         clear A270
         have H' := Aside0.mk H
         clear H
         have hcz28_0 : wr.cell? ⟨gb150, 0, none⟩ = some (.int .i64 a0_0) := cB BK150 0
         have hcz28_1 : wr.cell? ⟨gb150, 1, none⟩ = some (.slice A0_1 l0_1.length c0_1) := cB BK150 1
         have hfz28_0 := zB BK150 0
         have hfz28_1 := zB BK150 1
         have p157 : 0 ≤ (x4_2 : Int) := of_decide_eq_true (by first | (with_reducible assumption) | assumption)
         have q157 : x4_2 < (l0_1.length : Int) := of_decide_eq_true (by first | (with_reducible assumption) | assumption)
         obtain ⟨ad157, e157, hx157_0⟩ := Kd.at_int HR0_1.out x4_2 p157 q157
         cases e157
         replace hx157_0 := cH HB hx157_0
         replace p157 := eq_true p157
         replace q157 := eq_true q157
         go_wp2_with (first | ((with_reducible refine gate_callee (f := 129) rfl ?_); refine cl_ (some 58) Try.func129 #[.int .i64 (rd l0_1 x4_2)] ?_; (with_reducible refine (spec_l01Below.calls k2 (rd l0_1 x4_2) t158 _ A27.out).mono ?_); rintro e w29 ⟨v159, rfl, ho0, hb⟩; refine ⟨_, rfl, ?_⟩; have HO160 := Aside0.mk (Kd.R_lower ho0 (below_size (pH HB))); replace BK150 := sB BK150 hb; replace HB := sH HB hb; (try clear hb); (try clear hi); (try clear ho0)))
         go_loopg [6] k2 (fun kq v6 w' => ∃ (x6_3 : Int), v6 = .int .i64 x6_3 ∧ Aside0 (spec_l01Is.l2 kq x4_2 t158 x6_3 a0_0 l0_1 = some r) ∧ Aside0 (kq ≤ k2) ∧ Aside0 (Kd.R (Kd.int .i64) 2 w' w.heap.size (fun _ => True) v159 t158) ∧ Aside0 (w'.heap[gb150]? = some (.cells #[.int .i64 a0_0, (.slice (some ad157) l0_1.length c0_1)] 26 (0, 0))) ∧ Aside0 (Below w.heap.size w w'))
         case atStart => exact ⟨(0), (by first | rfl | (simp; done) | (simp [*]; done)), H', ⟨Nat.le_refl _⟩, ⟨by (with_reducible repeat (first | apply Kd.R_alloc | apply Kd.R_drewN | apply Kd.R_drew)); exact HO160.out⟩, ⟨pB BK150⟩, ⟨pH HB⟩⟩
         case round =>
          clear H'
          try clear c1
          try clear p1
          try clear q1
          try clear hx1
          try clear c2
          try clear p2
          try clear c6
          try clear c6b0
          try clear p6
          try clear c7
          try clear c8
          try clear c10
          try clear c11
          try clear c11b0
          try clear c12
          try clear c13
          try clear c14
          try clear p15
          try clear q15
          try clear hx15
          try clear c25
          try clear c25b0
          try clear c26
          try clear c26b0
          try clear hcz20_0
          try clear hcz20_1
          try clear hcz22_0
          try clear hcz22_1
          try clear hcz24_0
          try clear hcz24_1
          try clear hcz28_0
          try clear hcz28_1
          try clear hfz20_0
          try clear hfz20_1
          try clear hfz22_0
          try clear hfz22_1
          try clear hfz24_0
          try clear hfz24_1
          try clear hfz28_0
          try clear hfz28_1
          try clear hx152_0
          try clear hx157_0
          try clear p1
          try clear p15
          try clear p152
          try clear p157
          try clear p2
          try clear p6
          try clear q1
          try clear q15
          try clear q152
          try clear q157
          obtain ⟨x6_3, rfl, HA, HK3, HO_5, BK150, HB⟩ := hrel
          cases gk with
          | zero => exact absurd HA.out (by simp [spec_l01Is.l2])
          | succ k3 =>
           have H := HA.out
           clear HA
           simp only [spec_l01Is.l2] at H
           by_cases c30 : x6_3 < (t158.length : Int)
           ·rw [if_pos c30] at H
            have c30b0 : decide (x6_3 < (t158.length : Int)) = true := decide_eq_true c30
            clear c30
            by_cases c31 : 0 ≤ x6_3
            ·rw [if_pos c31] at H
             have c31b0 : decide (0 ≤ x6_3) = true := decide_eq_true c31
             clear c31
             replace H := Option.bind_eq_some_iff.mp H
             obtain ⟨t162, A320, H⟩ := H
             try dsimp only at H
             have A32 := Aside0.mk A320
             clear A320
             by_cases c33 : t162 = true
             ·subst c33
              have H1 : (spec_l01Is.l2 k3 x4_2 t158 (wrap64 (x6_3 + 1)) a0_0 l0_1) = some r := by rw [if_pos rfl] at H; exact H
              clear H
              have H := H1
              clear H1
              have H' := Aside0.mk H
              clear H
              obtain ⟨Ao34, co34, eo34⟩ := Kd.R_slice HO_5.out
              subst eo34
              try go_wp2
              replace HO_5 := Aside0.mk (Kd.R_drew HO_5.out)
              replace BK150 := dB BK150
              replace HB := dH HB
              have p161 : 0 ≤ (x6_3 : Int) := of_decide_eq_true (by first | (with_reducible assumption) | assumption)
              have q161 : x6_3 < (t158.length : Int) := of_decide_eq_true (by first | (with_reducible assumption) | assumption)
              obtain ⟨ad161, e161, hx161_0⟩ := Kd.at_int (Kd.R_reads' HO_5.out).2.2 x6_3 p161 q161
              cases e161
              replace p161 := eq_true p161
              replace q161 := eq_true q161
              refine st_ 7 (S := fun w' => w'.cell? ⟨gb150, 0, none⟩ = some (.int .i64 a0_0) ∧ w'.cell? ⟨gb150, 1, none⟩ = some (.slice (some ad157) l0_1.length c0_1) ∧ w'.cell? (ad161.add (x6_3).toNat) = some (.int .i64 (rd t158 x6_3))) (ds := []) ⟨cB BK150 0, cB BK150 1, hx161_0⟩ (fun hHeld => ?_)
              generalize wr.drew = w35 at HO_5 BK150 HB hx161_0 hHeld ⊢
              refine pure_ (i := 1) (N := some 66) (v := ?_) (a' := ?_) (mB 7 2) rfl rfl (by kernel_rfl) (fun _ _ _ h => h) (Or.inl ⟨by rfl, ?_⟩) ?_ ?_
              rotate_left
              ·intro w'
               go_simp
               with_reducible rfl
              rotate_left
              ·simp only [Act.put, List.setIfInBounds_toArray, List.set_cons_zero, List.set_cons_succ, i64_w, i32_w]
               rfl
              refine pure_ (i := 2) (N := some 67) (v := ?_) (a' := ?_) (mB 7 6) rfl rfl (by kernel_rfl) (fun _ _ _ h => h) (Or.inl ⟨by rfl, ?_⟩) ?_ ?_
              rotate_left
              ·intro w'
               go_simp
               with_reducible rfl
              rotate_left
              ·simp only [Act.put, List.setIfInBounds_toArray, List.set_cons_zero, List.set_cons_succ, i64_w, i32_w]
               rfl
              refine pure_ (i := 3) (N := some 68) (v := ?_) (a' := ?_) (mB 7 14) rfl rfl (by kernel_rfl) (fun _ _ _ h => h) (Or.inl ⟨by rfl, ?_⟩) ?_ ?_
              rotate_left
              ·intro w'
               go_simp
               with_reducible rfl
              rotate_left
              ·simp only [Act.put, List.setIfInBounds_toArray, List.set_cons_zero, List.set_cons_succ, i64_w, i32_w]
               rfl
              refine take_ (i := 0) (N := some 65) (v := ?_) (a' := ?_) (mB 7 15) rfl rfl (by kernel_rfl) (fun _ _ _ h => h) (Or.inl ⟨by rfl, ?_⟩) hHeld ?_ ?_
              rotate_left
              ·rintro w' ⟨s0, s1, s2⟩
               go_simp
               with_reducible rfl
              rotate_left
              ·simp only [Act.put, List.setIfInBounds_toArray, List.set_cons_zero, List.set_cons_succ, i64_w, i32_w]
               rfl
              refine take_ (i := 4) (N := some 69) (v := ?_) (a' := ?_) (mB 7 31) rfl rfl (by kernel_rfl) (fun _ _ _ h => h) (Or.inl ⟨by rfl, ?_⟩) hHeld ?_ ?_
              rotate_left
              ·rintro w' ⟨s0, s1, s2⟩
               go_simp
               with_reducible rfl
              rotate_left
              ·simp only [Act.put, List.setIfInBounds_toArray, List.set_cons_zero, List.set_cons_succ, i64_w, i32_w]
               rfl
              refine one_ (i := 5) (N := some 70) (mB 7 63) rfl rfl (by kernel_rfl) (by decide) (fun K hK => ?_)
              refine ca_ Try.func64 #[.agg #[.int .i64 a0_0, .slice (some ad157) l0_1.length c0_1], .int .i64 (rd t158 x6_3)] ?_
              with_reducible refine (spec_l01Has.calls k3 a0_0 _ _ l0_1 (rd t158 x6_3) true _ ?side1 ?side2 A32.out).mono ?_
              (case side1 => exact pC ((Kd.C_below HR0_1.out HB.out)))
              (case side2 => exact HC0_1.out)
              rintro e w36 ⟨rfl, hb⟩
              have HS2_ := (hb.cell (World.block_lt_of_cell? _ _ (hHeld.2.2))).trans (hHeld.2.2)
              refine ⟨_, rfl, ?_⟩
              replace HO_5 := sR HO_5 hb
              replace BK150 := sB BK150 hb
              replace HB := sH HB hb
              (try clear hb)
              (try clear hb2)
              (try clear hk)
              (try clear hi)
              refine hK.out _ _ ⟨cB BK150 0, cB BK150 1, HS2_⟩ (fun hHeld => ?_)
              clear hK K
              refine nm_ ?_
              refine pure_ (i := 6) (N := some 71) (v := ?_) (a' := ?_) (mB 7 127) rfl rfl (by kernel_rfl) (fun _ _ _ h => h) (Or.inl ⟨by rfl, ?_⟩) ?_ ?_
              rotate_left
              ·intro w'
               go_simp
               with_reducible rfl
              rotate_left
              ·simp only [Act.put, List.setIfInBounds_toArray, List.set_cons_zero, List.set_cons_succ, i64_w, i32_w]
               rfl
              refine done_ (by kernel_rfl) ?_
              try go_wp2
              go_roundg k3
              case measure => have := HK1.out; have := HK2.out; have := HK3.out; omega
              case rel => exact ⟨(wrap64 (x6_3 + 1)), (by first | rfl | (simp; done) | (simp [*]; done)), H', ⟨by have := HK1.out; have := HK2.out; have := HK3.out; omega⟩, ⟨by (with_reducible repeat (first | apply Kd.R_alloc | apply Kd.R_drewN | apply Kd.R_drew)); exact HO_5.out⟩, ⟨pB BK150⟩, ⟨pH HB⟩⟩
             ·replace c33 := Bool.eq_false_iff.mpr c33
              subst c33
              have H1 : (some false) = some r := by rw [if_neg (show ¬ (false = true) by decide)] at H; exact H
              clear H
              have H := H1
              clear H1
              obtain rfl := Option.some.inj H
              obtain ⟨Ao37, co37, eo37⟩ := Kd.R_slice HO_5.out
              subst eo37
              try go_wp2
              replace HO_5 := Aside0.mk (Kd.R_drew HO_5.out)
              replace BK150 := dB BK150
              replace HB := dH HB
              have p161 : 0 ≤ (x6_3 : Int) := of_decide_eq_true (by first | (with_reducible assumption) | assumption)
              have q161 : x6_3 < (t158.length : Int) := of_decide_eq_true (by first | (with_reducible assumption) | assumption)
              obtain ⟨ad161, e161, hx161_0⟩ := Kd.at_int (Kd.R_reads' HO_5.out).2.2 x6_3 p161 q161
              cases e161
              replace p161 := eq_true p161
              replace q161 := eq_true q161
              refine st_ 7 (S := fun w' => w'.cell? ⟨gb150, 0, none⟩ = some (.int .i64 a0_0) ∧ w'.cell? ⟨gb150, 1, none⟩ = some (.slice (some ad157) l0_1.length c0_1) ∧ w'.cell? (ad161.add (x6_3).toNat) = some (.int .i64 (rd t158 x6_3))) (ds := []) ⟨cB BK150 0, cB BK150 1, hx161_0⟩ (fun hHeld => ?_)
              generalize wr.drew = w38 at HO_5 BK150 HB hx161_0 hHeld ⊢
              refine pure_ (i := 1) (N := some 66) (v := ?_) (a' := ?_) (mB 7 2) rfl rfl (by kernel_rfl) (fun _ _ _ h => h) (Or.inl ⟨by rfl, ?_⟩) ?_ ?_
              rotate_left
              ·intro w'
               go_simp
               with_reducible rfl
              rotate_left
              ·simp only [Act.put, List.setIfInBounds_toArray, List.set_cons_zero, List.set_cons_succ, i64_w, i32_w]
               rfl
              refine pure_ (i := 2) (N := some 67) (v := ?_) (a' := ?_) (mB 7 6) rfl rfl (by kernel_rfl) (fun _ _ _ h => h) (Or.inl ⟨by rfl, ?_⟩) ?_ ?_
              rotate_left
              ·intro w'
               go_simp
               with_reducible rfl
              rotate_left
              ·simp only [Act.put, List.setIfInBounds_toArray, List.set_cons_zero, List.set_cons_succ, i64_w, i32_w]
               rfl
              refine pure_ (i := 3) (N := some 68) (v := ?_) (a' := ?_) (mB 7 14) rfl rfl (by kernel_rfl) (fun _ _ _ h => h) (Or.inl ⟨by rfl, ?_⟩) ?_ ?_
              rotate_left
              ·intro w'
               go_simp
               with_reducible rfl
              rotate_left
              ·simp only [Act.put, List.setIfInBounds_toArray, List.set_cons_zero, List.set_cons_succ, i64_w, i32_w]
               rfl
              refine take_ (i := 0) (N := some 65) (v := ?_) (a' := ?_) (mB 7 15) rfl rfl (by kernel_rfl) (fun _ _ _ h => h) (Or.inl ⟨by rfl, ?_⟩) hHeld ?_ ?_
              rotate_left
              ·rintro w' ⟨s0, s1, s2⟩
               go_simp
               with_reducible rfl
              rotate_left
              ·simp only [Act.put, List.setIfInBounds_toArray, List.set_cons_zero, List.set_cons_succ, i64_w, i32_w]
               rfl
              refine take_ (i := 4) (N := some 69) (v := ?_) (a' := ?_) (mB 7 31) rfl rfl (by kernel_rfl) (fun _ _ _ h => h) (Or.inl ⟨by rfl, ?_⟩) hHeld ?_ ?_
              rotate_left
              ·rintro w' ⟨s0, s1, s2⟩
               go_simp
               with_reducible rfl
              rotate_left
              ·simp only [Act.put, List.setIfInBounds_toArray, List.set_cons_zero, List.set_cons_succ, i64_w, i32_w]
               rfl
              refine one_ (i := 5) (N := some 70) (mB 7 63) rfl rfl (by kernel_rfl) (by decide) (fun K hK => ?_)
              refine ca_ Try.func64 #[.agg #[.int .i64 a0_0, .slice (some ad157) l0_1.length c0_1], .int .i64 (rd t158 x6_3)] ?_
              with_reducible refine (spec_l01Has.calls k3 a0_0 _ _ l0_1 (rd t158 x6_3) false _ ?side1 ?side2 A32.out).mono ?_
              (case side1 => exact pC ((Kd.C_below HR0_1.out HB.out)))
              (case side2 => exact HC0_1.out)
              rintro e w39 ⟨rfl, hb⟩
              have HS2_ := (hb.cell (World.block_lt_of_cell? _ _ (hHeld.2.2))).trans (hHeld.2.2)
              refine ⟨_, rfl, ?_⟩
              replace HO_5 := sR HO_5 hb
              replace BK150 := sB BK150 hb
              replace HB := sH HB hb
              (try clear hb)
              (try clear hb2)
              (try clear hk)
              (try clear hi)
              refine hK.out _ _ ⟨cB BK150 0, cB BK150 1, HS2_⟩ (fun hHeld => ?_)
              clear hK K
              refine nm_ ?_
              refine pure_ (i := 6) (N := some 71) (v := ?_) (a' := ?_) (mB 7 127) rfl rfl (by kernel_rfl) (fun _ _ _ h => h) (Or.inl ⟨by rfl, ?_⟩) ?_ ?_
              rotate_left
              ·intro w'
               go_simp
               with_reducible rfl
              rotate_left
              ·simp only [Act.put, List.setIfInBounds_toArray, List.set_cons_zero, List.set_cons_succ, i64_w, i32_w]
               rfl
              refine done_ (by kernel_rfl) ?_
              try go_wp2
              go_ret
              exact ⟨by first | rfl | (simp [errW_none, errW_some] <;> rfl) | (simp [*, errW_none, errW_some] <;> rfl), pH HB⟩
            ·rw [if_neg c31] at H
             exact absurd H (by simp)
           ·rw [if_neg c30] at H
            have c30b0 : decide (x6_3 < (t158.length : Int)) = false := decide_eq_false c30
            clear c30
            have H' := Aside0.mk H
            clear H
            obtain ⟨Ao40, co40, eo40⟩ := Kd.R_slice HO_5.out
            subst eo40
            go_wp2
            go_roundg k3
            case measure => have := HK1.out; have := HK2.out; have := HK3.out; omega
            case rel => exact ⟨(wrap64 (x4_2 + 1)), (by first | rfl | (simp; done) | (simp [*]; done)), H', ⟨by have := HK1.out; have := HK2.out; have := HK3.out; omega⟩, ⟨pB BK150⟩, ⟨pH HB⟩⟩
        ·rw [if_neg c26] at H
         exact absurd H (by simp)
       ·rw [if_neg c25] at H
        have c25b0 : decide (x4_2 < (l0_1.length : Int)) = false := decide_eq_false c25
        clear c25
        obtain rfl := Option.some.inj H
        have hcz41_0 : wr.cell? ⟨gb150, 0, none⟩ = some (.int .i64 a0_0) := cB BK150 0
        have hcz41_1 : wr.cell? ⟨gb150, 1, none⟩ = some (.slice A0_1 l0_1.length c0_1) := cB BK150 1
        have hfz41_0 := zB BK150 0
        have hfz41_1 := zB BK150 1
        go_wp2
        go_ret
        exact ⟨by first | rfl | (simp [errW_none, errW_some] <;> rfl) | (simp [*, errW_none, errW_some] <;> rfl), pH HB⟩
 ·replace c3 := Bool.eq_false_iff.mpr c3
  subst c3
  have H1 : (some false) = some r := by rw [if_neg (show ¬ (false = true) by decide)] at H; exact H
  clear H
  have H := H1
  clear H1
  obtain rfl := Option.some.inj H
  go_enter Try.func57, Try.ntmps57
  go_wp2_with (first | ((with_reducible refine gate_dst (N := 1) rfl ?_); refine box_event ?hg (N := 1) ?hd (cs := #[.int .i64 a0_0, .slice A0_1 l0_1.length c0_1]) (t := 26) ?hr ?_; (case hd => rfl); (case hg => rfl); (case hr => first | (go_simp; done) | (go_simp; rfl)); intro gb150 hg w42 hbox hb; have BK150 := Aside0.mk (hbox); have GW150 := gH HB hg; have GE150 := gH HB hg; replace HB := sH HB hb; clear hb hbox hg; have hcz43_0 : w42.cell? ⟨gb150, 0, none⟩ = some (.int .i64 a0_0) := cB BK150 0; have hcz43_1 : w42.cell? ⟨gb150, 1, none⟩ = some (.slice A0_1 l0_1.length c0_1) := cB BK150 1; have hfz43_0 := zB BK150 0; have hfz43_1 := zB BK150 1) | ((with_reducible refine gate_callee (f := 106) rfl ?_); refine cl_ (some 9) Try.func106 #[.int .i64 a0_0, .int .i64 1, .int .i64 6] ?_; (with_reducible refine (spec_l01In.calls a0_0 1 6 false _ A2.out).mono ?_); rintro e w' ⟨rfl, ⟨nd, rfl⟩⟩; refine ⟨_, rfl, ?_⟩))
  go_ret
  exact ⟨by first | rfl | (simp [errW_none, errW_some] <;> rfl) | (simp [*, errW_none, errW_some] <;> rfl), pH HB⟩
end Go.Proofs.Ytnmhnkpijjmhjaa.QS
namespace Go.Proofs.Ytnmhnkpijjmhjaa.QS
open Go.Proofs.Ytnmhnkpijjmhjaa.Cw Go.Proofs.Ytnmhnkpijjmhjaa.Kp Go.Proofs.Ytnmhnkpijjmhjaa.Ext Go.RowKit Go.Proofs.YtnmhnkpijjmhjaaW.PrintWords Go.Proofs.YtnmhnkpijjmhjaaW.PrintLast Go.Proofs.YtnmhnkpijjmhjaaW.PrintMore
attribute [local go_sem] max2_int min2_int max_two min_two max_three min_three max_four min_four   -- for this text's walks alone
set_option linter.unusedVariables false
set_option linter.unusedSimpArgs false
def spec_l02Code.l0 : Nat → List Int → Int → Int → List Int → Option (Int)
 | 0, _, _, _, _ => none
 | k + 1, x2, x7, x587000, x587001 => if x7 < (x2.length : Int) then (if 0 ≤ x7 then ((spec_l01Has.f k x587000 x587001 (rd x2 x7)).bind fun t590 => (if t590 = true then (spec_l02Code.l0 k x2 (wrap64 (x7 + 1)) x587000 x587001) else (some 2))) else (none)) else (some 0)
def spec_l02Code.f (k : Nat) (a0_0 : Int) (l0_1 : List Int) (l1 : List (S76)) (l2 : List Int) : Option (Int) := (spec_l01Is.f k a0_0 l0_1).bind fun t587 => (if t587 = true then ((spec_l02Is.f k a0_0 l0_1 l1).bind fun t588 => (if t588 = true then (spec_l02Code.l0 k l2 0 a0_0 l0_1) else (some 2))) else (some 1))
set_option maxHeartbeats 8000000 in
set_option maxRecDepth 100000 in
theorem spec_l02Code.calls (k : Nat) (a0_0 : Int) (A0_1 : Option Addr) (c0_1 : Nat) (l0_1 : List Int) (A1 : Option Addr) (c1 : Nat) (l1 : List (S76)) (A2 : Option Addr) (c2 : Nat) (l2 : List Int) (r : Int) (w : World) (hr0_1 : Kd.C (Kd.int .i64) w A0_1 l0_1.length l0_1) (hc0_1 : l0_1.length ≤ c0_1) (hr1 : Kd.C k76 w A1 l1.length l1) (hc1 : l1.length ≤ c1) (hr2 : Kd.C (Kd.int .i64) w A2 l2.length l2) (hc2 : l2.length ≤ c2) (h : spec_l02Code.f k a0_0 l0_1 l1 l2 = some r) :
  Calls Try.prog 118 #[.agg #[.int .i64 a0_0, .slice A0_1 l0_1.length c0_1], .slice A1 l1.length c1, .slice A2 l2.length c2] w fun e w' => e = .returned (.int .i64 r) ∧ Below w.heap.size w w' := by
 have hu26 := Try.underlying26
 have HR0_1 := Aside0.mk hr0_1
 have HC0_1 := Aside0.mk hc0_1
 clear hr0_1 hc0_1
 have HR1 := Aside0.mk hr1
 have HC1 := Aside0.mk hc1
 clear hr1 hc1
 have HR2 := Aside0.mk hr2
 have HC2 := Aside0.mk hc2
 clear hr2 hc2
 have HB := Aside0.mk (Below.refl w.heap.size w)
 have H : ((spec_l01Is.f k a0_0 l0_1).bind fun t587 => (if t587 = true then ((spec_l02Is.f k a0_0 l0_1 l1).bind fun t588 => (if t588 = true then (spec_l02Code.l0 k l2 0 a0_0 l0_1) else (some 2))) else (some 1))) = some r := h
 clear h
 replace H := Option.bind_eq_some_iff.mp H
 obtain ⟨t587, A40, H⟩ := H
 try dsimp only at H
 have A4 := Aside0.mk A40
 clear A40
 by_cases c5 : t587 = true
 ·subst c5
  have H1 : ((spec_l02Is.f k a0_0 l0_1 l1).bind fun t588 => (if t588 = true then (spec_l02Code.l0 k l2 0 a0_0 l0_1) else (some 2))) = some r := by rw [if_pos rfl] at H; exact H
  clear H
  have H := H1
  clear H1
  replace H := Option.bind_eq_some_iff.mp H
  obtain ⟨t588, A60, H⟩ := H
  try dsimp only at H
  have A6 := Aside0.mk A60
  clear A60
  by_cases c7 : t588 = true
  ·subst c7
   have H1 : (spec_l02Code.l0 k l2 0 a0_0 l0_1) = some r := by rw [if_pos rfl] at H; exact H
   clear H
   have H := H1
   clear H1
   have H' := Aside0.mk H
   clear H
   go_enter Try.func118, Try.ntmps118
   go_wp2_with (first | ((with_reducible refine gate_dst (N := 3) rfl ?_); refine box_event ?hg (N := 3) ?hd (cs := #[.int .i64 a0_0, .slice A0_1 l0_1.length c0_1]) (t := 26) ?hr ?_; (case hd => rfl); (case hg => rfl); (case hr => first | (go_simp; done) | (go_simp; rfl)); intro gb586 hg w8 hbox hb; have BK586 := Aside0.mk (hbox); have GW586 := gH HB hg; have GE586 := gH HB hg; replace HB := sH HB hb; clear hb hbox hg; have hcz9_0 : w8.cell? ⟨gb586, 0, none⟩ = some (.int .i64 a0_0) := cB BK586 0; have hcz9_1 : w8.cell? ⟨gb586, 1, none⟩ = some (.slice A0_1 l0_1.length c0_1) := cB BK586 1; have hfz9_0 := zB BK586 0; have hfz9_1 := zB BK586 1) | ((with_reducible refine gate_callee (f := 57) rfl ?_); refine cl_ (some 9) Try.func57 #[.agg #[.int .i64 a0_0, .slice A0_1 l0_1.length c0_1]] ?_; (with_reducible refine (spec_l01Is.calls k a0_0 _ _ l0_1 true _ ?side1 ?side2 A4.out).mono ?_); (case side1 => exact pC ((Kd.C_below HR0_1.out HB.out))); (case side2 => exact HC0_1.out); rintro e w10 ⟨rfl, hb⟩; refine ⟨_, rfl, ?_⟩; replace BK586 := sB BK586 hb; replace HB := sH HB hb; (try clear hb); (try clear hi); have hcz11_0 : w10.cell? ⟨gb586, 0, none⟩ = some (.int .i64 a0_0) := cB BK586 0; have hcz11_1 : w10.cell? ⟨gb586, 1, none⟩ = some (.slice A0_1 l0_1.length c0_1) := cB BK586 1; have hfz11_0 := zB BK586 0; have hfz11_1 := zB BK586 1) | ((with_reducible refine gate_callee (f := 174) rfl ?_); refine cl_ (some 13) Try.func174 #[.agg #[.int .i64 a0_0, .slice A0_1 l0_1.length c0_1], .slice A1 l1.length c1] ?_; (with_reducible refine (spec_l02Is.calls k a0_0 _ _ l0_1 _ _ l1 true _ ?side1 ?side2 ?side3 ?side4 A6.out).mono ?_); (case side1 => exact pC ((Kd.C_below HR0_1.out HB.out))); (case side2 => exact HC0_1.out); (case side3 => exact pC ((Kd.C_below HR1.out HB.out))); (case side4 => exact HC1.out); rintro e w12 ⟨rfl, hb⟩; refine ⟨_, rfl, ?_⟩; replace BK586 := sB BK586 hb; replace HB := sH HB hb; (try clear hb); (try clear hi)))
   go_loopg [7] k (fun kq v7 w' => ∃ (x7_1 : Int), v7 = .int .i64 x7_1 ∧ Aside0 (spec_l02Code.l0 kq l2 x7_1 a0_0 l0_1 = some r) ∧ Aside0 (kq ≤ k) ∧ Aside0 (w'.heap[gb586]? = some (.cells #[.int .i64 a0_0, (.slice A0_1 l0_1.length c0_1)] 26 (0, 0))) ∧ Aside0 (Below w.heap.size w w'))
   case atStart => exact ⟨(0), (by first | rfl | (simp; done) | (simp [*]; done)), H', ⟨Nat.le_refl _⟩, ⟨pB BK586⟩, ⟨pH HB⟩⟩
   case round =>
    clear H'
    try clear c1
    try clear c2
    try clear p2
    try clear c5
    try clear c7
    try clear c11
    try clear hcz11_0
    try clear hcz11_1
    try clear hcz9_0
    try clear hcz9_1
    try clear hfz11_0
    try clear hfz11_1
    try clear hfz9_0
    try clear hfz9_1
    obtain ⟨x7_1, rfl, HA, HK1, BK586, HB⟩ := hrel
    cases gk with
    | zero => exact absurd HA.out (by simp [spec_l02Code.l0])
    | succ k1 =>
     have H := HA.out
     clear HA
     simp only [spec_l02Code.l0] at H
     by_cases c13 : x7_1 < (l2.length : Int)
     ·rw [if_pos c13] at H
      have c13b0 : decide (x7_1 < (l2.length : Int)) = true := decide_eq_true c13
      clear c13
      by_cases c14 : 0 ≤ x7_1
      ·rw [if_pos c14] at H
       have c14b0 : decide (0 ≤ x7_1) = true := decide_eq_true c14
       clear c14
       replace H := Option.bind_eq_some_iff.mp H
       obtain ⟨t590, A150, H⟩ := H
       try dsimp only at H
       have A15 := Aside0.mk A150
       clear A150
       by_cases c16 : t590 = true
       ·subst c16
        have H1 : (spec_l02Code.l0 k1 l2 (wrap64 (x7_1 + 1)) a0_0 l0_1) = some r := by rw [if_pos rfl] at H; exact H
        clear H
        have H := H1
        clear H1
        have H' := Aside0.mk H
        clear H
        try go_wp2
        replace BK586 := dB BK586
        replace HB := dH HB
        have p589 : 0 ≤ (x7_1 : Int) := of_decide_eq_true (by first | (with_reducible assumption) | assumption)
        have q589 : x7_1 < (l2.length : Int) := of_decide_eq_true (by first | (with_reducible assumption) | assumption)
        obtain ⟨ad589, e589, hx589_0⟩ := Kd.at_int HR2.out x7_1 p589 q589
        have hw589_0 := hx589_0
        cases e589
        replace hx589_0 := cH HB hx589_0
        replace p589 := eq_true p589
        replace q589 := eq_true q589
        refine st_ 7 (S := fun w' => w'.cell? ⟨gb586, 0, none⟩ = some (.int .i64 a0_0) ∧ w'.cell? ⟨gb586, 1, none⟩ = some (.slice A0_1 l0_1.length c0_1) ∧ w'.cell? (ad589.add (x7_1).toNat) = some (.int .i64 (rd l2 x7_1))) (ds := []) ⟨cB BK586 0, cB BK586 1, (cH HB hw589_0 :)⟩ (fun hHeld => ?_)
        generalize wr.drew = w17 at BK586 HB hx589_0 hHeld ⊢
        refine pure_ (i := 1) (N := some 22) (v := ?_) (a' := ?_) (mB 7 2) rfl rfl (by kernel_rfl) (fun _ _ _ h => h) (Or.inl ⟨by rfl, ?_⟩) ?_ ?_
        rotate_left
        ·intro w'
         go_simp
         with_reducible rfl
        rotate_left
        ·simp only [Act.put, List.setIfInBounds_toArray, List.set_cons_zero, List.set_cons_succ, i64_w, i32_w]
         rfl
        refine pure_ (i := 2) (N := some 23) (v := ?_) (a' := ?_) (mB 7 6) rfl rfl (by kernel_rfl) (fun _ _ _ h => h) (Or.inl ⟨by rfl, ?_⟩) ?_ ?_
        rotate_left
        ·intro w'
         go_simp
         with_reducible rfl
        rotate_left
        ·simp only [Act.put, List.setIfInBounds_toArray, List.set_cons_zero, List.set_cons_succ, i64_w, i32_w]
         rfl
        refine pure_ (i := 3) (N := some 24) (v := ?_) (a' := ?_) (mB 7 14) rfl rfl (by kernel_rfl) (fun _ _ _ h => h) (Or.inl ⟨by rfl, ?_⟩) ?_ ?_
        rotate_left
        ·intro w'
         go_simp
         with_reducible rfl
        rotate_left
        ·simp only [Act.put, List.setIfInBounds_toArray, List.set_cons_zero, List.set_cons_succ, i64_w, i32_w]
         rfl
        refine take_ (i := 0) (N := some 21) (v := ?_) (a' := ?_) (mB 7 15) rfl rfl (by kernel_rfl) (fun _ _ _ h => h) (Or.inl ⟨by rfl, ?_⟩) hHeld ?_ ?_
        rotate_left
        ·rintro w' ⟨s0, s1, s2⟩
         go_simp
         with_reducible rfl
        rotate_left
        ·simp only [Act.put, List.setIfInBounds_toArray, List.set_cons_zero, List.set_cons_succ, i64_w, i32_w]
         rfl
        refine take_ (i := 4) (N := some 25) (v := ?_) (a' := ?_) (mB 7 31) rfl rfl (by kernel_rfl) (fun _ _ _ h => h) (Or.inl ⟨by rfl, ?_⟩) hHeld ?_ ?_
        rotate_left
        ·rintro w' ⟨s0, s1, s2⟩
         go_simp
         with_reducible rfl
        rotate_left
        ·simp only [Act.put, List.setIfInBounds_toArray, List.set_cons_zero, List.set_cons_succ, i64_w, i32_w]
         rfl
        refine one_ (i := 5) (N := some 26) (mB 7 63) rfl rfl (by kernel_rfl) (by decide) (fun K hK => ?_)
        refine ca_ Try.func64 #[.agg #[.int .i64 a0_0, .slice A0_1 l0_1.length c0_1], .int .i64 (rd l2 x7_1)] ?_
        with_reducible refine (spec_l01Has.calls k1 a0_0 _ _ l0_1 (rd l2 x7_1) true _ ?side1 ?side2 A15.out).mono ?_
        (case side1 => exact pC ((Kd.C_below HR0_1.out HB.out)))
        (case side2 => exact HC0_1.out)
        rintro e w18 ⟨rfl, hb⟩
        refine ⟨_, rfl, ?_⟩
        replace BK586 := sB BK586 hb
        replace HB := sH HB hb
        (try clear hb)
        (try clear hb2)
        (try clear hk)
        (try clear hi)
        refine hK.out _ _ ⟨cB BK586 0, cB BK586 1, (cH HB hw589_0 :)⟩ (fun hHeld => ?_)
        clear hK K
        refine nm_ ?_
        refine pure_ (i := 6) (N := some 27) (v := ?_) (a' := ?_) (mB 7 127) rfl rfl (by kernel_rfl) (fun _ _ _ h => h) (Or.inl ⟨by rfl, ?_⟩) ?_ ?_
        rotate_left
        ·intro w'
         go_simp
         with_reducible rfl
        rotate_left
        ·simp only [Act.put, List.setIfInBounds_toArray, List.set_cons_zero, List.set_cons_succ, i64_w, i32_w]
         rfl
        refine done_ (by kernel_rfl) ?_
        try go_wp2
        go_roundg k1
        case measure => have := HK1.out; omega
        case rel => exact ⟨(wrap64 (x7_1 + 1)), (by first | rfl | (simp; done) | (simp [*]; done)), H', ⟨by have := HK1.out; omega⟩, ⟨pB BK586⟩, ⟨pH HB⟩⟩
       ·replace c16 := Bool.eq_false_iff.mpr c16
        subst c16
        have H1 : (some 2) = some r := by rw [if_neg (show ¬ (false = true) by decide)] at H; exact H
        clear H
        have H := H1
        clear H1
        obtain rfl := Option.some.inj H
        try go_wp2
        replace BK586 := dB BK586
        replace HB := dH HB
        have p589 : 0 ≤ (x7_1 : Int) := of_decide_eq_true (by first | (with_reducible assumption) | assumption)
        have q589 : x7_1 < (l2.length : Int) := of_decide_eq_true (by first | (with_reducible assumption) | assumption)
        obtain ⟨ad589, e589, hx589_0⟩ := Kd.at_int HR2.out x7_1 p589 q589
        have hw589_0 := hx589_0
        cases e589
        replace hx589_0 := cH HB hx589_0
        replace p589 := eq_true p589
        replace q589 := eq_true q589
        refine st_ 7 (S := fun w' => w'.cell? ⟨gb586, 0, none⟩ = some (.int .i64 a0_0) ∧ w'.cell? ⟨gb586, 1, none⟩ = some (.slice A0_1 l0_1.length c0_1) ∧ w'.cell? (ad589.add (x7_1).toNat) = some (.int .i64 (rd l2 x7_1))) (ds := []) ⟨cB BK586 0, cB BK586 1, (cH HB hw589_0 :)⟩ (fun hHeld => ?_)
        generalize wr.drew = w19 at BK586 HB hx589_0 hHeld ⊢
        refine pure_ (i := 1) (N := some 22) (v := ?_) (a' := ?_) (mB 7 2) rfl rfl (by kernel_rfl) (fun _ _ _ h => h) (Or.inl ⟨by rfl, ?_⟩) ?_ ?_
        rotate_left
        ·intro w'
         go_simp
         with_reducible rfl
        rotate_left
        ·simp only [Act.put, List.setIfInBounds_toArray, List.set_cons_zero, List.set_cons_succ, i64_w, i32_w]
         rfl
        refine pure_ (i := 2) (N := some 23) (v := ?_) (a' := ?_) (mB 7 6) rfl rfl (by kernel_rfl) (fun _ _ _ h => h) (Or.inl ⟨by rfl, ?_⟩) ?_ ?_
        rotate_left
        ·intro w'
         go_simp
         with_reducible rfl
        rotate_left
        ·simp only [Act.put, List.setIfInBounds_toArray, List.set_cons_zero, List.set_cons_succ, i64_w, i32_w]
         rfl
        refine pure_ (i := 3) (N := some 24) (v := ?_) (a' := ?_) (mB 7 14) rfl rfl (by kernel_rfl) (fun _ _ _ h => h) (Or.inl ⟨by rfl, ?_⟩) ?_ ?_
        rotate_left
        ·intro w'
         go_simp
         with_reducible rfl
        rotate_left
        ·simp only [Act.put, List.setIfInBounds_toArray, List.set_cons_zero, List.set_cons_succ, i64_w, i32_w]
         rfl
        refine take_ (i := 0) (N := some 21) (v := ?_) (a' := ?_) (mB 7 15) rfl rfl (by kernel_rfl) (fun _ _ _ h => h) (Or.inl ⟨by rfl, ?_⟩) hHeld ?_ ?_
        rotate_left
        ·rintro w' ⟨s0, s1, s2⟩
         go_simp
         with_reducible rfl
        rotate_left
        ·simp only [Act.put, List.setIfInBounds_toArray, List.set_cons_zero, List.set_cons_succ, i64_w, i32_w]
         rfl
        refine take_ (i := 4) (N := some 25) (v := ?_) (a' := ?_) (mB 7 31) rfl rfl (by kernel_rfl) (fun _ _ _ h => h) (Or.inl ⟨by rfl, ?_⟩) hHeld ?_ ?_
        rotate_left
        ·rintro w' ⟨s0, s1, s2⟩
         go_simp
         with_reducible rfl
        rotate_left
        ·simp only [Act.put, List.setIfInBounds_toArray, List.set_cons_zero, List.set_cons_succ, i64_w, i32_w]
         rfl
        refine one_ (i := 5) (N := some 26) (mB 7 63) rfl rfl (by kernel_rfl) (by decide) (fun K hK => ?_)
        refine ca_ Try.func64 #[.agg #[.int .i64 a0_0, .slice A0_1 l0_1.length c0_1], .int .i64 (rd l2 x7_1)] ?_
        with_reducible refine (spec_l01Has.calls k1 a0_0 _ _ l0_1 (rd l2 x7_1) false _ ?side1 ?side2 A15.out).mono ?_
        (case side1 => exact pC ((Kd.C_below HR0_1.out HB.out)))
        (case side2 => exact HC0_1.out)
        rintro e w20 ⟨rfl, hb⟩
        refine ⟨_, rfl, ?_⟩
        replace BK586 := sB BK586 hb
        replace HB := sH HB hb
        (try clear hb)
        (try clear hb2)
        (try clear hk)
        (try clear hi)
        refine hK.out _ _ ⟨cB BK586 0, cB BK586 1, (cH HB hw589_0 :)⟩ (fun hHeld => ?_)
        clear hK K
        refine nm_ ?_
        refine pure_ (i := 6) (N := some 27) (v := ?_) (a' := ?_) (mB 7 127) rfl rfl (by kernel_rfl) (fun _ _ _ h => h) (Or.inl ⟨by rfl, ?_⟩) ?_ ?_
        rotate_left
        ·intro w'
         go_simp
         with_reducible rfl
        rotate_left
        ·simp only [Act.put, List.setIfInBounds_toArray, List.set_cons_zero, List.set_cons_succ, i64_w, i32_w]
         rfl
        refine done_ (by kernel_rfl) ?_
        try go_wp2
        go_ret
        exact ⟨by first | rfl | (simp [errW_none, errW_some] <;> rfl) | (simp [*, errW_none, errW_some] <;> rfl), pH HB⟩
      ·rw [if_neg c14] at H
       exact absurd H (by simp)
     ·rw [if_neg c13] at H
      have c13b0 : decide (x7_1 < (l2.length : Int)) = false := decide_eq_false c13
      clear c13
      obtain rfl := Option.some.inj H
      go_wp2
      go_ret
      exact ⟨by first | rfl | (simp [errW_none, errW_some] <;> rfl) | (simp [*, errW_none, errW_some] <;> rfl), pH HB⟩
  ·replace c7 := Bool.eq_false_iff.mpr c7
   subst c7
   have H1 : (some 2) = some r := by rw [if_neg (show ¬ (false = true) by decide)] at H; exact H
   clear H
   have H := H1
   clear H1
   obtain rfl := Option.some.inj H
   go_enter Try.func118, Try.ntmps118
   go_wp2_with (first | ((with_reducible refine gate_dst (N := 3) rfl ?_); refine box_event ?hg (N := 3) ?hd (cs := #[.int .i64 a0_0, .slice A0_1 l0_1.length c0_1]) (t := 26) ?hr ?_; (case hd => rfl); (case hg => rfl); (case hr => first | (go_simp; done) | (go_simp; rfl)); intro gb586 hg w21 hbox hb; have BK586 := Aside0.mk (hbox); have GW586 := gH HB hg; have GE586 := gH HB hg; replace HB := sH HB hb; clear hb hbox hg; have hcz22_0 : w21.cell? ⟨gb586, 0, none⟩ = some (.int .i64 a0_0) := cB BK586 0; have hcz22_1 : w21.cell? ⟨gb586, 1, none⟩ = some (.slice A0_1 l0_1.length c0_1) := cB BK586 1; have hfz22_0 := zB BK586 0; have hfz22_1 := zB BK586 1) | ((with_reducible refine gate_callee (f := 57) rfl ?_); refine cl_ (some 9) Try.func57 #[.agg #[.int .i64 a0_0, .slice A0_1 l0_1.length c0_1]] ?_; (with_reducible refine (spec_l01Is.calls k a0_0 _ _ l0_1 true _ ?side1 ?side2 A4.out).mono ?_); (case side1 => exact pC ((Kd.C_below HR0_1.out HB.out))); (case side2 => exact HC0_1.out); rintro e w23 ⟨rfl, hb⟩; refine ⟨_, rfl, ?_⟩; replace BK586 := sB BK586 hb; replace HB := sH HB hb; (try clear hb); (try clear hi); have hcz24_0 : w23.cell? ⟨gb586, 0, none⟩ = some (.int .i64 a0_0) := cB BK586 0; have hcz24_1 : w23.cell? ⟨gb586, 1, none⟩ = some (.slice A0_1 l0_1.length c0_1) := cB BK586 1; have hfz24_0 := zB BK586 0; have hfz24_1 := zB BK586 1) | ((with_reducible refine gate_callee (f := 174) rfl ?_); refine cl_ (some 13) Try.func174 #[.agg #[.int .i64 a0_0, .slice A0_1 l0_1.length c0_1], .slice A1 l1.length c1] ?_; (with_reducible refine (spec_l02Is.calls k a0_0 _ _ l0_1 _ _ l1 false _ ?side1 ?side2 ?side3 ?side4 A6.out).mono ?_); (case side1 => exact pC ((Kd.C_below HR0_1.out HB.out))); (case side2 => exact HC0_1.out); (case side3 => exact pC ((Kd.C_below HR1.out HB.out))); (case side4 => exact HC1.out); rintro e w25 ⟨rfl, hb⟩; refine ⟨_, rfl, ?_⟩; replace BK586 := sB BK586 hb; replace HB := sH HB hb; (try clear hb); (try clear hi)))
   go_ret
   exact ⟨by first | rfl | (simp [errW_none, errW_some] <;> rfl) | (simp [*, errW_none, errW_some] <;> rfl), pH HB⟩
 ·replace c5 := Bool.eq_false_iff.mpr c5
  subst c5
  have H1 : (some 1) = some r := by rw [if_neg (show ¬ (false = true) by decide)] at H; exact H
  clear H
  have H := H1
  clear H1
  obtain rfl := Option.some.inj H
  go_enter Try.func118, Try.ntmps118
  go_wp2_with (first | ((with_reducible refine gate_dst (N := 3) rfl ?_); refine box_event ?hg (N := 3) ?hd (cs := #[.int .i64 a0_0, .slice A0_1 l0_1.length c0_1]) (t := 26) ?hr ?_; (case hd => rfl); (case hg => rfl); (case hr => first | (go_simp; done) | (go_simp; rfl)); intro gb586 hg w26 hbox hb; have BK586 := Aside0.mk (hbox); have GW586 := gH HB hg; have GE586 := gH HB hg; replace HB := sH HB hb; clear hb hbox hg; have hcz27_0 : w26.cell? ⟨gb586, 0, none⟩ = some (.int .i64 a0_0) := cB BK586 0; have hcz27_1 : w26.cell? ⟨gb586, 1, none⟩ = some (.slice A0_1 l0_1.length c0_1) := cB BK586 1; have hfz27_0 := zB BK586 0; have hfz27_1 := zB BK586 1) | ((with_reducible refine gate_callee (f := 57) rfl ?_); refine cl_ (some 9) Try.func57 #[.agg #[.int .i64 a0_0, .slice A0_1 l0_1.length c0_1]] ?_; (with_reducible refine (spec_l01Is.calls k a0_0 _ _ l0_1 false _ ?side1 ?side2 A4.out).mono ?_); (case side1 => exact pC ((Kd.C_below HR0_1.out HB.out))); (case side2 => exact HC0_1.out); rintro e w28 ⟨rfl, hb⟩; refine ⟨_, rfl, ?_⟩; replace BK586 := sB BK586 hb; replace HB := sH HB hb; (try clear hb); (try clear hi)))
  go_ret
  exact ⟨by first | rfl | (simp [errW_none, errW_some] <;> rfl) | (simp [*, errW_none, errW_some] <;> rfl), pH HB⟩
end Go.Proofs.Ytnmhnkpijjmhjaa.QS
namespace Go.Proofs.Ytnmhnkpijjmhjaa.QS
open Go.Proofs.Ytnmhnkpijjmhjaa.Cw Go.Proofs.Ytnmhnkpijjmhjaa.Kp Go.Proofs.Ytnmhnkpijjmhjaa.Ext Go.RowKit Go.Proofs.YtnmhnkpijjmhjaaW.PrintWords Go.Proofs.YtnmhnkpijjmhjaaW.PrintLast Go.Proofs.YtnmhnkpijjmhjaaW.PrintMore
attribute [local go_sem] max2_int min2_int max_two min_two max_three min_three max_four min_four   -- for this text's walks alone
set_option linter.unusedVariables false
set_option linter.unusedSimpArgs false
def spec_l08Code.f (k : Nat) (a0_0 : Int) (l0_1 : List Int) (l1 : List (S76)) : Option (Int) := (spec_l02Code.f k a0_0 l0_1 l1 ([] : List Int)).bind fun t702 => (if t702 = 0 then ((spec_l02Acyclic.f k l1).bind fun t703 => (if t703 = true then (some t702) else (some 5))) else (some t702))
set_option maxHeartbeats 8000000 in
set_option maxRecDepth 100000 in
theorem spec_l08Code.calls (k : Nat) (a0_0 : Int) (A0_1 : Option Addr) (c0_1 : Nat) (l0_1 : List Int) (A1 : Option Addr) (c1 : Nat) (l1 : List (S76)) (r : Int) (w : World) (hr0_1 : Kd.C (Kd.int .i64) w A0_1 l0_1.length l0_1) (hc0_1 : l0_1.length ≤ c0_1) (hr1 : Kd.C k76 w A1 l1.length l1) (hc1 : l1.length ≤ c1) (h : spec_l08Code.f k a0_0 l0_1 l1 = some r) :
  Calls Try.prog 123 #[.agg #[.int .i64 a0_0, .slice A0_1 l0_1.length c0_1], .slice A1 l1.length c1] w fun e w' => e = .returned (.int .i64 r) ∧ Below w.heap.size w w' := by
 have hu26 := Try.underlying26
 have HR0_1 := Aside0.mk hr0_1
 have HC0_1 := Aside0.mk hc0_1
 clear hr0_1 hc0_1
 have HR1 := Aside0.mk hr1
 have HC1 := Aside0.mk hc1
 clear hr1 hc1
 have HB := Aside0.mk (Below.refl w.heap.size w)
 have H : ((spec_l02Code.f k a0_0 l0_1 l1 ([] : List Int)).bind fun t702 => (if t702 = 0 then ((spec_l02Acyclic.f k l1).bind fun t703 => (if t703 = true then (some t702) else (some 5))) else (some t702))) = some r := h
 clear h
 replace H := Option.bind_eq_some_iff.mp H
 obtain ⟨t702, A30, H⟩ := H
 try dsimp only at H
 have A3 := Aside0.mk A30
 clear A30
 by_cases c4 : t702 = 0
 ·rw [if_pos c4] at H
  have c4b0 : (t702 == 0) = true := beq_iff_eq.mpr c4
  have c4b1 : (t702 != 0) = false := bne_eq_false_iff_eq.mpr c4
  clear c4
  replace H := Option.bind_eq_some_iff.mp H
  obtain ⟨t703, A50, H⟩ := H
  try dsimp only at H
  have A5 := Aside0.mk A50
  clear A50
  by_cases c6 : t703 = true
  ·subst c6
   have H1 : (some t702) = some r := by rw [if_pos rfl] at H; exact H
   clear H
   have H := H1
   clear H1
   obtain rfl := Option.some.inj H
   go_enter Try.func123, Try.ntmps123
   go_wp2_with (first | ((with_reducible refine gate_dst (N := 2) rfl ?_); refine box_event ?hg (N := 2) ?hd (cs := #[.int .i64 a0_0, .slice A0_1 l0_1.length c0_1]) (t := 26) ?hr ?_; (case hd => rfl); (case hg => rfl); (case hr => first | (go_simp; done) | (go_simp; rfl)); intro gb701 hg w7 hbox hb; have BK701 := Aside0.mk (hbox); have GW701 := gH HB hg; have GE701 := gH HB hg; replace HB := sH HB hb; clear hb hbox hg; have hcz8_0 : w7.cell? ⟨gb701, 0, none⟩ = some (.int .i64 a0_0) := cB BK701 0; have hcz8_1 : w7.cell? ⟨gb701, 1, none⟩ = some (.slice A0_1 l0_1.length c0_1) := cB BK701 1; have hfz8_0 := zB BK701 0; have hfz8_1 := zB BK701 1) | ((with_reducible refine gate_callee (f := 118) rfl ?_); refine cl_ (some 8) Try.func118 #[.agg #[.int .i64 a0_0, .slice A0_1 l0_1.length c0_1], .slice A1 l1.length c1, .slice none 0 0] ?_; (refine (spec_l02Code.calls k a0_0 _ _ l0_1 _ _ l1 _ _ ([] : List Int) t702 _ ?side1 ?side2 ?side3 ?side4 ?side5 ?side6 A3.out).mono ?_); (case side1 => exact pC ((Kd.C_below HR0_1.out HB.out))); (case side2 => exact HC0_1.out); (case side3 => exact pC ((Kd.C_below HR1.out HB.out))); (case side4 => exact HC1.out); (case side5 => exact Kd.C_nil _ _); (case side6 => exact Nat.le_refl _); rintro e w9 ⟨rfl, hb⟩; refine ⟨_, rfl, ?_⟩; replace BK701 := sB BK701 hb; replace HB := sH HB hb; (try clear hb); (try clear hi)) | (go_at_call 119; (with_reducible refine (spec_l02Acyclic.calls k _ _ l1 true _ ?side1 ?side2 A5.out).mono ?_); (case side1 => exact pC ((Kd.C_below HR1.out HB.out))); (case side2 => exact HC1.out); rintro e w10 ⟨rfl, hb⟩; replace BK701 := sB BK701 hb; replace HB := sH HB hb; (try clear hb); (try clear hi)))
   go_ret
   exact ⟨by first | rfl | (simp [errW_none, errW_some] <;> rfl) | (simp [*, errW_none, errW_some] <;> rfl), pH HB⟩
  ·replace c6 := Bool.eq_false_iff.mpr c6
   subst c6
   have H1 : (some 5) = some r := by rw [if_neg (show ¬ (false = true) by decide)] at H; exact H
   clear H
   have H := H1
   clear H1
   obtain rfl := Option.some.inj H
   go_enter Try.func123, Try.ntmps123
   go_wp2_with (first | ((with_reducible refine gate_dst (N := 2) rfl ?_); refine box_event ?hg (N := 2) ?hd (cs := #[.int .i64 a0_0, .slice A0_1 l0_1.length c0_1]) (t := 26) ?hr ?_; (case hd => rfl); (case hg => rfl); (case hr => first | (go_simp; done) | (go_simp; rfl)); intro gb701 hg w11 hbox hb; have BK701 := Aside0.mk (hbox); have GW701 := gH HB hg; have GE701 := gH HB hg; replace HB := sH HB hb; clear hb hbox hg; have hcz12_0 : w11.cell? ⟨gb701, 0, none⟩ = some (.int .i64 a0_0) := cB BK701 0; have hcz12_1 : w11.cell? ⟨gb701, 1, none⟩ = some (.slice A0_1 l0_1.length c0_1) := cB BK701 1; have hfz12_0 := zB BK701 0; have hfz12_1 := zB BK701 1) | ((with_reducible refine gate_callee (f := 118) rfl ?_); refine cl_ (some 8) Try.func118 #[.agg #[.int .i64 a0_0, .slice A0_1 l0_1.length c0_1], .slice A1 l1.length c1, .slice none 0 0] ?_; (refine (spec_l02Code.calls k a0_0 _ _ l0_1 _ _ l1 _ _ ([] : List Int) t702 _ ?side1 ?side2 ?side3 ?side4 ?side5 ?side6 A3.out).mono ?_); (case side1 => exact pC ((Kd.C_below HR0_1.out HB.out))); (case side2 => exact HC0_1.out); (case side3 => exact pC ((Kd.C_below HR1.out HB.out))); (case side4 => exact HC1.out); (case side5 => exact Kd.C_nil _ _); (case side6 => exact Nat.le_refl _); rintro e w13 ⟨rfl, hb⟩; refine ⟨_, rfl, ?_⟩; replace BK701 := sB BK701 hb; replace HB := sH HB hb; (try clear hb); (try clear hi)) | (go_at_call 119; (with_reducible refine (spec_l02Acyclic.calls k _ _ l1 false _ ?side1 ?side2 A5.out).mono ?_); (case side1 => exact pC ((Kd.C_below HR1.out HB.out))); (case side2 => exact HC1.out); rintro e w14 ⟨rfl, hb⟩; replace BK701 := sB BK701 hb; replace HB := sH HB hb; (try clear hb); (try clear hi)))
   go_ret
   exact ⟨by first | rfl | (simp [errW_none, errW_some] <;> rfl) | (simp [*, errW_none, errW_some] <;> rfl), pH HB⟩
 ·rw [if_neg c4] at H
  have c4b0 : (t702 == 0) = false := beq_eq_false_iff_ne.mpr c4
  have c4b1 : (t702 != 0) = true := bne_iff_ne.mpr c4
  obtain rfl := Option.some.inj H
  go_enter Try.func123, Try.ntmps123
  go_wp2_with (first | ((with_reducible refine gate_dst (N := 2) rfl ?_); refine box_event ?hg (N := 2) ?hd (cs := #[.int .i64 a0_0, .slice A0_1 l0_1.length c0_1]) (t := 26) ?hr ?_; (case hd => rfl); (case hg => rfl); (case hr => first | (go_simp; done) | (go_simp; rfl)); intro gb701 hg w15 hbox hb; have BK701 := Aside0.mk (hbox); have GW701 := gH HB hg; have GE701 := gH HB hg; replace HB := sH HB hb; clear hb hbox hg; have hcz16_0 : w15.cell? ⟨gb701, 0, none⟩ = some (.int .i64 a0_0) := cB BK701 0; have hcz16_1 : w15.cell? ⟨gb701, 1, none⟩ = some (.slice A0_1 l0_1.length c0_1) := cB BK701 1; have hfz16_0 := zB BK701 0; have hfz16_1 := zB BK701 1) | ((with_reducible refine gate_callee (f := 118) rfl ?_); refine cl_ (some 8) Try.func118 #[.agg #[.int .i64 a0_0, .slice A0_1 l0_1.length c0_1], .slice A1 l1.length c1, .slice none 0 0] ?_; (refine (spec_l02Code.calls k a0_0 _ _ l0_1 _ _ l1 _ _ ([] : List Int) t702 _ ?side1 ?side2 ?side3 ?side4 ?side5 ?side6 A3.out).mono ?_); (case side1 => exact pC ((Kd.C_below HR0_1.out HB.out))); (case side2 => exact HC0_1.out); (case side3 => exact pC ((Kd.C_below HR1.out HB.out))); (case side4 => exact HC1.out); (case side5 => exact Kd.C_nil _ _); (case side6 => exact Nat.le_refl _); rintro e w17 ⟨rfl, hb⟩; refine ⟨_, rfl, ?_⟩; replace BK701 := sB BK701 hb; replace HB := sH HB hb; (try clear hb); (try clear hi)))
  go_ret
  exact ⟨by first | rfl | (simp [errW_none, errW_some] <;> rfl) | (simp [*, errW_none, errW_some] <;> rfl), pH HB⟩
end Go.Proofs.Ytnmhnkpijjmhjaa.QS
namespace Go.Proofs.Ytnmhnkpijjmhjaa.QS
open Go.Proofs.Ytnmhnkpijjmhjaa.Cw Go.Proofs.Ytnmhnkpijjmhjaa.Kp Go.Proofs.Ytnmhnkpijjmhjaa.Ext Go.RowKit Go.Proofs.YtnmhnkpijjmhjaaW.PrintWords Go.Proofs.YtnmhnkpijjmhjaaW.PrintLast Go.Proofs.YtnmhnkpijjmhjaaW.PrintMore
attribute [local go_sem] max2_int min2_int max_two min_two max_three min_three max_four min_four   -- for this text's walks alone
set_option linter.unusedVariables false
set_option linter.unusedSimpArgs false
def spec_IsFullPairing.f (k : Nat) (a0_0 : Int) (l0_1 : List Int) (l1 : List (S76)) : Option (Bool × Int) := (spec_l08Code.f k a0_0 l0_1 l1).bind fun t781 => (if t781 = 0 then ((spec_l02Fill.f k a0_0 l0_1 l1).bind fun t782 => (some (((t782.length : Int) == (l1.length : Int)), 0))) else (some (false, t781)))
set_option maxHeartbeats 8000000 in
set_option maxRecDepth 100000 in
theorem spec_IsFullPairing.calls (k : Nat) (a0_0 : Int) (A0_1 : Option Addr) (c0_1 : Nat) (l0_1 : List Int) (A1 : Option Addr) (c1 : Nat) (l1 : List (S76)) (r1 : Bool) (r2 : Int) (w : World) (hr0_1 : Kd.C (Kd.int .i64) w A0_1 l0_1.length l0_1) (hc0_1 : l0_1.length ≤ c0_1) (hr1 : Kd.C k76 w A1 l1.length l1) (hc1 : l1.length ≤ c1) (h : spec_IsFullPairing.f k a0_0 l0_1 l1 = some (r1, r2)) :
  Calls Try.prog 54 #[.agg #[.int .i64 a0_0, .slice A0_1 l0_1.length c0_1], .slice A1 l1.length c1] w fun e w' => e = .returned (.tuple #[.bool r1, .int .i64 r2]) ∧ Below w.heap.size w w' := by
 have hu26 := Try.underlying26
 have HR0_1 := Aside0.mk hr0_1
 have HC0_1 := Aside0.mk hc0_1
 clear hr0_1 hc0_1
 have HR1 := Aside0.mk hr1
 have HC1 := Aside0.mk hc1
 clear hr1 hc1
 have HB := Aside0.mk (Below.refl w.heap.size w)
 have H : ((spec_l08Code.f k a0_0 l0_1 l1).bind fun t781 => (if t781 = 0 then ((spec_l02Fill.f k a0_0 l0_1 l1).bind fun t782 => (some (((t782.length : Int) == (l1.length : Int)), 0))) else (some (false, t781)))) = some (r1, r2) := h
 clear h
 replace H := Option.bind_eq_some_iff.mp H
 obtain ⟨t781, A30, H⟩ := H
 try dsimp only at H
 have A3 := Aside0.mk A30
 clear A30
 by_cases c4 : t781 = 0
 ·rw [if_pos c4] at H
  have c4b0 : (t781 == 0) = true := beq_iff_eq.mpr c4
  have c4b1 : (t781 != 0) = false := bne_eq_false_iff_eq.mpr c4
  clear c4
  replace H := Option.bind_eq_some_iff.mp H
  obtain ⟨t782, A50, H⟩ := H
  try dsimp only at H
  have A5 := Aside0.mk A50
  clear A50
  simp only [Option.some.injEq, Prod.mk.injEq] at H
  obtain ⟨rfl, rfl⟩ := H
  go_enter Try.func54, Try.ntmps54
  go_wp2_with (first | ((with_reducible refine gate_dst (N := 2) rfl ?_); refine box_event ?hg (N := 2) ?hd (cs := #[.int .i64 a0_0, .slice A0_1 l0_1.length c0_1]) (t := 26) ?hr ?_; (case hd => rfl); (case hg => rfl); (case hr => first | (go_simp; done) | (go_simp; rfl)); intro gb780 hg w6 hbox hb; have BK780 := Aside0.mk (hbox); have GW780 := gH HB hg; have GE780 := gH HB hg; replace HB := sH HB hb; clear hb hbox hg; have hcz7_0 : w6.cell? ⟨gb780, 0, none⟩ = some (.int .i64 a0_0) := cB BK780 0; have hcz7_1 : w6.cell? ⟨gb780, 1, none⟩ = some (.slice A0_1 l0_1.length c0_1) := cB BK780 1; have hfz7_0 := zB BK780 0; have hfz7_1 := zB BK780 1) | ((with_reducible refine gate_callee (f := 123) rfl ?_); refine cl_ (some 9) Try.func123 #[.agg #[.int .i64 a0_0, .slice A0_1 l0_1.length c0_1], .slice A1 l1.length c1] ?_; (with_reducible refine (spec_l08Code.calls k a0_0 _ _ l0_1 _ _ l1 t781 _ ?side1 ?side2 ?side3 ?side4 A3.out).mono ?_); (case side1 => exact pC ((Kd.C_below HR0_1.out HB.out))); (case side2 => exact HC0_1.out); (case side3 => exact pC ((Kd.C_below HR1.out HB.out))); (case side4 => exact HC1.out); rintro e w8 ⟨rfl, hb⟩; refine ⟨_, rfl, ?_⟩; replace BK780 := sB BK780 hb; replace HB := sH HB hb; (try clear hb); (try clear hi); have hcz9_0 : w8.cell? ⟨gb780, 0, none⟩ = some (.int .i64 a0_0) := cB BK780 0; have hcz9_1 : w8.cell? ⟨gb780, 1, none⟩ = some (.slice A0_1 l0_1.length c0_1) := cB BK780 1; have hfz9_0 := zB BK780 0; have hfz9_1 := zB BK780 1) | ((with_reducible refine gate_callee (f := 124) rfl ?_); refine cl_ (some 15) Try.func124 #[.agg #[.int .i64 a0_0, .slice A0_1 l0_1.length c0_1], .slice A1 l1.length c1] ?_; (with_reducible refine (spec_l02Fill.calls k a0_0 _ _ l0_1 (fun k_ => k_ < w.heap.size) _ _ l1 t782 _ ?side1 ?side2 ?side3 A5.out).mono ?_); (case side1 => exact pC ((Kd.C_below HR0_1.out HB.out))); (case side2 => exact HC0_1.out); (case side3 => exact Kd.V_mk HC1.out (Kd.F_below (Kd.C_F k76_heap HR1.out) (pH HB))); rintro e w10 ⟨v783, rfl, ho0, hb⟩; refine ⟨_, rfl, ?_⟩; have n0_ := Aside0.mk (Kd.V_lower (Kd.V_mono (ok' := fun k_ => k_ ≠ gb780) ho0 (fun k_ hk_ => Or.elim hk_ (fun hs_ => fun e_ => Nat.not_le.2 hs_ (by rw [e_]; exact GW780.out)) (fun hn_ => (Kd.freshB (g := gb780) (o := .cells #[.int .i64 a0_0, .slice A0_1 l0_1.length c0_1] 26 (0, 0)) (pB BK780) k_ hn_)))) (below_size (pH HB))); have n1_ := sB BK780 hb; have n2_ := sH HB hb; clear BK780; clear HB; have HO784 := n0_; have BK780 := n1_; have HB := n2_; clear n0_ n1_ n2_; (try clear hb); (try clear hi); (try clear ho0); obtain ⟨Ao11, co11, eo11⟩ := Kd.V_slice HO784.out; subst eo11))
  go_ret2
  exact ⟨by first | rfl | (simp [errW_none, errW_some] <;> rfl) | (simp [*, errW_none, errW_some] <;> rfl) | (exfalso; simp_all), pH HB⟩
 ·rw [if_neg c4] at H
  have c4b0 : (t781 == 0) = false := beq_eq_false_iff_ne.mpr c4
  have c4b1 : (t781 != 0) = true := bne_iff_ne.mpr c4
  simp only [Option.some.injEq, Prod.mk.injEq] at H
  obtain ⟨rfl, rfl⟩ := H
  go_enter Try.func54, Try.ntmps54
  go_wp2_with (first | ((with_reducible refine gate_dst (N := 2) rfl ?_); refine box_event ?hg (N := 2) ?hd (cs := #[.int .i64 a0_0, .slice A0_1 l0_1.length c0_1]) (t := 26) ?hr ?_; (case hd => rfl); (case hg => rfl); (case hr => first | (go_simp; done) | (go_simp; rfl)); intro gb780 hg w12 hbox hb; have BK780 := Aside0.mk (hbox); have GW780 := gH HB hg; have GE780 := gH HB hg; replace HB := sH HB hb; clear hb hbox hg; have hcz13_0 : w12.cell? ⟨gb780, 0, none⟩ = some (.int .i64 a0_0) := cB BK780 0; have hcz13_1 : w12.cell? ⟨gb780, 1, none⟩ = some (.slice A0_1 l0_1.length c0_1) := cB BK780 1; have hfz13_0 := zB BK780 0; have hfz13_1 := zB BK780 1) | ((with_reducible refine gate_callee (f := 123) rfl ?_); refine cl_ (some 9) Try.func123 #[.agg #[.int .i64 a0_0, .slice A0_1 l0_1.length c0_1], .slice A1 l1.length c1] ?_; (with_reducible refine (spec_l08Code.calls k a0_0 _ _ l0_1 _ _ l1 t781 _ ?side1 ?side2 ?side3 ?side4 A3.out).mono ?_); (case side1 => exact pC ((Kd.C_below HR0_1.out HB.out))); (case side2 => exact HC0_1.out); (case side3 => exact pC ((Kd.C_below HR1.out HB.out))); (case side4 => exact HC1.out); rintro e w14 ⟨rfl, hb⟩; refine ⟨_, rfl, ?_⟩; replace BK780 := sB BK780 hb; replace HB := sH HB hb; (try clear hb); (try clear hi)))
  go_ret2
  exact ⟨by first | rfl | (simp [errW_none, errW_some] <;> rfl) | (simp [*, errW_none, errW_some] <;> rfl) | (exfalso; simp_all), pH HB⟩
end Go.Proofs.Ytnmhnkpijjmhjaa.QS
namespace Go.Proofs.Ytnmhnkpijjmhjaa.QS
open Go.Proofs.Ytnmhnkpijjmhjaa.Cw Go.Proofs.Ytnmhnkpijjmhjaa.Kp Go.Proofs.Ytnmhnkpijjmhjaa.Ext Go.RowKit Go.Proofs.YtnmhnkpijjmhjaaW.PrintWords Go.Proofs.YtnmhnkpijjmhjaaW.PrintLast Go.Proofs.YtnmhnkpijjmhjaaW.PrintMore
attribute [local go_sem] max2_int min2_int max_two min_two max_three min_three max_four min_four   -- for this text's walks alone
set_option linter.unusedVariables false
set_option linter.unusedSimpArgs false
def laws_eqInt64S.l0 : Nat → List Int → List Int → Int → Option (Bool)
 | 0, _, _, _ => none
 | k + 1, x0, x1, x5 => if x5 < (x0.length : Int) then (if 0 ≤ x5 then (if x5 < (x1.length : Int) then (if (rd x0 x5) = (rd x1 x5) then (laws_eqInt64S.l0 k x0 x1 (wrap64 (x5 + 1))) else (some false)) else (none)) else (none)) else (some true)
def laws_eqInt64S.f (k : Nat) (l0 : List Int) (l1 : List Int) : Option (Bool) := if (l0.length : Int) = (l1.length : Int) then (laws_eqInt64S.l0 k l0 l1 0) else (some false)
set_option maxHeartbeats 8000000 in
set_option maxRecDepth 100000 in
theorem laws_eqInt64S.calls (k : Nat) (A0 : Option Addr) (c0 : Nat) (l0 : List Int) (A1 : Option Addr) (c1 : Nat) (l1 : List Int) (r : Bool) (w : World) (hr0 : Kd.C (Kd.int .i64) w A0 l0.length l0) (hc0 : l0.length ≤ c0) (hr1 : Kd.C (Kd.int .i64) w A1 l1.length l1) (hc1 : l1.length ≤ c1) (h : laws_eqInt64S.f k l0 l1 = some r) :
  Calls Try.prog 33 #[.slice A0 l0.length c0, .slice A1 l1.length c1] w fun e w' => e = .returned (.bool r) ∧ Drawn0 w w' := by
 have HR0 := Aside0.mk hr0
 have HC0 := Aside0.mk hc0
 clear hr0 hc0
 have HR1 := Aside0.mk hr1
 have HC1 := Aside0.mk hc1
 clear hr1 hc1
 have H : (if (l0.length : Int) = (l1.length : Int) then (laws_eqInt64S.l0 k l0 l1 0) else (some false)) = some r := h
 clear h
 by_cases c3 : (l0.length : Int) = (l1.length : Int)
 ·rw [if_pos c3] at H
  have c3b0 : ((l0.length : Int) == (l1.length : Int)) = true := beq_iff_eq.mpr c3
  have c3b1 : ((l0.length : Int) != (l1.length : Int)) = false := bne_eq_false_iff_eq.mpr c3
  have c3b2 : (l0.length == l1.length) = true := by first | simpa using c3 | (simp at c3 ⊢; omega)
  clear c3
  have H' := Aside0.mk H
  clear H
  go_enter Try.func33, Try.ntmps33
  go_wp2
  repeat (go_quiet (fail); try go_wp2)
  go_loopg [5] k (fun kq v5 w' => ∃ (x5_1 : Int), v5 = .int .i64 x5_1 ∧ Aside0 (laws_eqInt64S.l0 kq l0 l1 x5_1 = some r) ∧ Aside0 (kq ≤ k) ∧ Drawn0 w w')
  case atStart => exact ⟨(0), (by first | rfl | (simp; done) | (simp [*]; done)), H', ⟨Nat.le_refl _⟩, by repeat (first | exact Drawn0.refl _ | apply Drawn0.step)⟩
  case round =>
   clear H'
   try clear c1
   try clear p2
   try clear c3
   try clear c3b0
   try clear c3b1
   try clear c3b2
   obtain ⟨x5_1, rfl, HA, HK1, ⟨m1, rfl⟩⟩ := hrel
   cases gk with
   | zero => exact absurd HA.out (by simp [laws_eqInt64S.l0])
   | succ k1 =>
    have H := HA.out
    clear HA
    simp only [laws_eqInt64S.l0] at H
    by_cases c4 : x5_1 < (l0.length : Int)
    ·rw [if_pos c4] at H
     have c4b0 : decide (x5_1 < (l0.length : Int)) = true := decide_eq_true c4
     clear c4
     by_cases c5 : 0 ≤ x5_1
     ·rw [if_pos c5] at H
      have c5b0 : decide (0 ≤ x5_1) = true := decide_eq_true c5
      clear c5
      by_cases c6 : x5_1 < (l1.length : Int)
      ·rw [if_pos c6] at H
       have c6b0 : decide (x5_1 < (l1.length : Int)) = true := decide_eq_true c6
       clear c6
       by_cases c7 : (rd l0 x5_1) = (rd l1 x5_1)
       ·rw [if_pos c7] at H
        have c7b0 : ((rd l0 x5_1) == (rd l1 x5_1)) = true := beq_iff_eq.mpr c7
        have c7b1 : ((rd l0 x5_1) != (rd l1 x5_1)) = false := bne_eq_false_iff_eq.mpr c7
        clear c7
        have H' := Aside0.mk H
        clear H
        have p114 : 0 ≤ (x5_1 : Int) := of_decide_eq_true (by first | (with_reducible assumption) | assumption)
        have q114 : x5_1 < (l0.length : Int) := of_decide_eq_true (by first | (with_reducible assumption) | assumption)
        obtain ⟨ad114, e114, hx114_0⟩ := Kd.at_int HR0.out x5_1 p114 q114
        cases e114
        replace p114 := eq_true p114
        replace q114 := eq_true q114
        have p115 : 0 ≤ (x5_1 : Int) := of_decide_eq_true (by first | (with_reducible assumption) | assumption)
        have q115 : x5_1 < (l1.length : Int) := of_decide_eq_true (by first | (with_reducible assumption) | assumption)
        obtain ⟨ad115, e115, hx115_0⟩ := Kd.at_int HR1.out x5_1 p115 q115
        cases e115
        replace p115 := eq_true p115
        replace q115 := eq_true q115
        go_wp2
        repeat (go_quiet (fail); try go_wp2)
        go_roundg k1
        case measure => have := HK1.out; omega
        case rel => exact ⟨(wrap64 (x5_1 + 1)), (by first | rfl | (simp; done) | (simp [*]; done)), H', ⟨by have := HK1.out; omega⟩, by repeat (first | exact Drawn0.refl _ | apply Drawn0.step)⟩
       ·rw [if_neg c7] at H
        have c7b0 : ((rd l0 x5_1) == (rd l1 x5_1)) = false := beq_eq_false_iff_ne.mpr c7
        have c7b1 : ((rd l0 x5_1) != (rd l1 x5_1)) = true := bne_iff_ne.mpr c7
        obtain rfl := Option.some.inj H
        have p114 : 0 ≤ (x5_1 : Int) := of_decide_eq_true (by first | (with_reducible assumption) | assumption)
        have q114 : x5_1 < (l0.length : Int) := of_decide_eq_true (by first | (with_reducible assumption) | assumption)
        obtain ⟨ad114, e114, hx114_0⟩ := Kd.at_int HR0.out x5_1 p114 q114
        cases e114
        replace p114 := eq_true p114
        replace q114 := eq_true q114
        have p115 : 0 ≤ (x5_1 : Int) := of_decide_eq_true (by first | (with_reducible assumption) | assumption)
        have q115 : x5_1 < (l1.length : Int) := of_decide_eq_true (by first | (with_reducible assumption) | assumption)
        obtain ⟨ad115, e115, hx115_0⟩ := Kd.at_int HR1.out x5_1 p115 q115
        cases e115
        replace p115 := eq_true p115
        replace q115 := eq_true q115
        go_wp2
        repeat (go_quiet (fail); try go_wp2)
        go_ret
        exact ⟨by first | rfl | (simp; done) | (simp [*]; done), by repeat (first | exact Drawn0.refl _ | apply Drawn0.step)⟩
      ·rw [if_neg c6] at H
       exact absurd H (by simp)
     ·rw [if_neg c5] at H
      exact absurd H (by simp)
    ·rw [if_neg c4] at H
     have c4b0 : decide (x5_1 < (l0.length : Int)) = false := decide_eq_false c4
     clear c4
     obtain rfl := Option.some.inj H
     go_wp2
     repeat (go_quiet (fail); try go_wp2)
     go_ret
     exact ⟨by first | rfl | (simp; done) | (simp [*]; done), by repeat (first | exact Drawn0.refl _ | apply Drawn0.step)⟩
 ·rw [if_neg c3] at H
  have c3b0 : ((l0.length : Int) == (l1.length : Int)) = false := beq_eq_false_iff_ne.mpr c3
  have c3b1 : ((l0.length : Int) != (l1.length : Int)) = true := bne_iff_ne.mpr c3
  have c3b2 : (l0.length == l1.length) = false := by first | simpa using c3 | (simp at c3 ⊢; omega)
  obtain rfl := Option.some.inj H
  go_enter Try.func33, Try.ntmps33
  go_wp2
  repeat (go_quiet (fail); try go_wp2)
  go_ret
  exact ⟨by first | rfl | (simp; done) | (simp [*]; done), by repeat (first | exact Drawn0.refl _ | apply Drawn0.step)⟩
end Go.Proofs.Ytnmhnkpijjmhjaa.QS
namespace Go.Proofs.Ytnmhnkpijjmhjaa.QS
open Go.Proofs.Ytnmhnkpijjmhjaa.Cw Go.Proofs.Ytnmhnkpijjmhjaa.Kp Go.Proofs.Ytnmhnkpijjmhjaa.Ext Go.RowKit Go.Proofs.YtnmhnkpijjmhjaaW.PrintWords Go.Proofs.YtnmhnkpijjmhjaaW.PrintLast Go.Proofs.YtnmhnkpijjmhjaaW.PrintMore
attribute [local go_sem] max2_int min2_int max_two min_two max_three min_three max_four min_four   -- for this text's walks alone
set_option linter.unusedVariables false
set_option linter.unusedSimpArgs false
def laws_eqComplex.f (k : Nat) (a0_0 : Int) (l0_1 : List Int) (a1_0 : Int) (l1_1 : List Int) : Option (Bool) := if a0_0 = a1_0 then ((laws_eqInt64S.f k l0_1 l1_1).bind fun t118 => (if t118 = true then (some true) else (some false))) else (some false)
set_option maxHeartbeats 8000000 in
set_option maxRecDepth 100000 in
theorem laws_eqComplex.calls (k : Nat) (a0_0 : Int) (A0_1 : Option Addr) (c0_1 : Nat) (l0_1 : List Int) (a1_0 : Int) (A1_1 : Option Addr) (c1_1 : Nat) (l1_1 : List Int) (r : Bool) (w : World) (hr0_1 : Kd.C (Kd.int .i64) w A0_1 l0_1.length l0_1) (hc0_1 : l0_1.length ≤ c0_1) (hr1_1 : Kd.C (Kd.int .i64) w A1_1 l1_1.length l1_1) (hc1_1 : l1_1.length ≤ c1_1) (h : laws_eqComplex.f k a0_0 l0_1 a1_0 l1_1 = some r) :
  Calls Try.prog 19 #[.agg #[.int .i64 a0_0, .slice A0_1 l0_1.length c0_1], .agg #[.int .i64 a1_0, .slice A1_1 l1_1.length c1_1]] w fun e w' => e = .returned (.bool r) ∧ Below w.heap.size w w' := by
 have hu26 := Try.underlying26
 have HR0_1 := Aside0.mk hr0_1
 have HC0_1 := Aside0.mk hc0_1
 clear hr0_1 hc0_1
 have HR1_1 := Aside0.mk hr1_1
 have HC1_1 := Aside0.mk hc1_1
 clear hr1_1 hc1_1
 have HB := Aside0.mk (Below.refl w.heap.size w)
 have H : (if a0_0 = a1_0 then ((laws_eqInt64S.f k l0_1 l1_1).bind fun t118 => (if t118 = true then (some true) else (some false))) else (some false)) = some r := h
 clear h
 by_cases c3 : a0_0 = a1_0
 ·rw [if_pos c3] at H
  have c3b0 : (a0_0 == a1_0) = true := beq_iff_eq.mpr c3
  have c3b1 : (a0_0 != a1_0) = false := bne_eq_false_iff_eq.mpr c3
  clear c3
  replace H := Option.bind_eq_some_iff.mp H
  obtain ⟨t118, A40, H⟩ := H
  try dsimp only at H
  have A4 := Aside0.mk A40
  clear A40
  by_cases c5 : t118 = true
  ·subst c5
   have H1 : (some true) = some r := by rw [if_pos rfl] at H; exact H
   clear H
   have H := H1
   clear H1
   obtain rfl := Option.some.inj H
   go_enter Try.func19, Try.ntmps19
   go_wp2_with (first | ((with_reducible refine gate_dst (N := 2) rfl ?_); refine box_event ?hg (N := 2) ?hd (cs := #[.int .i64 a0_0, .slice A0_1 l0_1.length c0_1]) (t := 26) ?hr ?_; (case hd => rfl); (case hg => rfl); (case hr => first | (go_simp; done) | (go_simp; rfl)); intro gb116 hg w6 hbox hb; have BK116 := Aside0.mk (hbox); have GW116 := gH HB hg; have GE116 := gH HB hg; replace HB := sH HB hb; clear hb hbox hg) | ((with_reducible refine gate_dst (N := 3) rfl ?_); refine box_event ?hg (N := 3) ?hd (cs := #[.int .i64 a1_0, .slice A1_1 l1_1.length c1_1]) (t := 26) ?hr ?_; (case hd => rfl); (case hg => rfl); (case hr => first | (go_simp; done) | (go_simp; rfl)); intro gb117 hg w7 hbox hb; have BK117 := Aside0.mk (hbox); have GW117 := gH HB hg; have GE117 := gH HB hg; replace HB := sH HB hb; have NB116_117 := nB BK116 hg; have NB117_116 := oB BK116 hg; replace BK116 := sB BK116 hb; clear hb hbox hg; (try have hnb8 := NB116_117.out); (try have hnc8 := NB117_116.out); have hcz9_0 : w7.cell? ⟨gb116, 0, none⟩ = some (.int .i64 a0_0) := cB BK116 0; have hcz9_1 : w7.cell? ⟨gb116, 1, none⟩ = some (.slice A0_1 l0_1.length c0_1) := cB BK116 1; have hfz9_0 := zB BK116 0; have hfz9_1 := zB BK116 1; have hcz10_0 : w7.cell? ⟨gb117, 0, none⟩ = some (.int .i64 a1_0) := cB BK117 0; have hcz10_1 : w7.cell? ⟨gb117, 1, none⟩ = some (.slice A1_1 l1_1.length c1_1) := cB BK117 1; have hfz10_0 := zB BK117 0; have hfz10_1 := zB BK117 1) | ((with_reducible refine gate_callee (f := 33) rfl ?_); refine cl_ (some 14) Try.func33 #[.slice A0_1 l0_1.length c0_1, .slice A1_1 l1_1.length c1_1] ?_; (with_reducible refine (laws_eqInt64S.calls k _ _ l0_1 _ _ l1_1 true _ ?side1 ?side2 ?side3 ?side4 A4.out).mono ?_); (case side1 => exact pC ((Kd.C_below HR0_1.out HB.out))); (case side2 => exact HC0_1.out); (case side3 => exact pC ((Kd.C_below HR1_1.out HB.out))); (case side4 => exact HC1_1.out); rintro e w' ⟨rfl, ⟨nd, rfl⟩⟩; refine ⟨_, rfl, ?_⟩))
   go_ret
   exact ⟨by first | rfl | (simp [errW_none, errW_some] <;> rfl) | (simp [*, errW_none, errW_some] <;> rfl), pH HB⟩
  ·replace c5 := Bool.eq_false_iff.mpr c5
   subst c5
   have H1 : (some false) = some r := by rw [if_neg (show ¬ (false = true) by decide)] at H; exact H
   clear H
   have H := H1
   clear H1
   obtain rfl := Option.some.inj H
   go_enter Try.func19, Try.ntmps19
   go_wp2_with (first | ((with_reducible refine gate_dst (N := 2) rfl ?_); refine box_event ?hg (N := 2) ?hd (cs := #[.int .i64 a0_0, .slice A0_1 l0_1.length c0_1]) (t := 26) ?hr ?_; (case hd => rfl); (case hg => rfl); (case hr => first | (go_simp; done) | (go_simp; rfl)); intro gb116 hg w11 hbox hb; have BK116 := Aside0.mk (hbox); have GW116 := gH HB hg; have GE116 := gH HB hg; replace HB := sH HB hb; clear hb hbox hg) | ((with_reducible refine gate_dst (N := 3) rfl ?_); refine box_event ?hg (N := 3) ?hd (cs := #[.int .i64 a1_0, .slice A1_1 l1_1.length c1_1]) (t := 26) ?hr ?_; (case hd => rfl); (case hg => rfl); (case hr => first | (go_simp; done) | (go_simp; rfl)); intro gb117 hg w12 hbox hb; have BK117 := Aside0.mk (hbox); have GW117 := gH HB hg; have GE117 := gH HB hg; replace HB := sH HB hb; have NB116_117 := nB BK116 hg; have NB117_116 := oB BK116 hg; replace BK116 := sB BK116 hb; clear hb hbox hg; (try have hnb13 := NB116_117.out); (try have hnc13 := NB117_116.out); have hcz14_0 : w12.cell? ⟨gb116, 0, none⟩ = some (.int .i64 a0_0) := cB BK116 0; have hcz14_1 : w12.cell? ⟨gb116, 1, none⟩ = some (.slice A0_1 l0_1.length c0_1) := cB BK116 1; have hfz14_0 := zB BK116 0; have hfz14_1 := zB BK116 1; have hcz15_0 : w12.cell? ⟨gb117, 0, none⟩ = some (.int .i64 a1_0) := cB BK117 0; have hcz15_1 : w12.cell? ⟨gb117, 1, none⟩ = some (.slice A1_1 l1_1.length c1_1) := cB BK117 1; have hfz15_0 := zB BK117 0; have hfz15_1 := zB BK117 1) | ((with_reducible refine gate_callee (f := 33) rfl ?_); refine cl_ (some 14) Try.func33 #[.slice A0_1 l0_1.length c0_1, .slice A1_1 l1_1.length c1_1] ?_; (with_reducible refine (laws_eqInt64S.calls k _ _ l0_1 _ _ l1_1 false _ ?side1 ?side2 ?side3 ?side4 A4.out).mono ?_); (case side1 => exact pC ((Kd.C_below HR0_1.out HB.out))); (case side2 => exact HC0_1.out); (case side3 => exact pC ((Kd.C_below HR1_1.out HB.out))); (case side4 => exact HC1_1.out); rintro e w' ⟨rfl, ⟨nd, rfl⟩⟩; refine ⟨_, rfl, ?_⟩))
   go_ret
   exact ⟨by first | rfl | (simp [errW_none, errW_some] <;> rfl) | (simp [*, errW_none, errW_some] <;> rfl), pH HB⟩
 ·rw [if_neg c3] at H
  have c3b0 : (a0_0 == a1_0) = false := beq_eq_false_iff_ne.mpr c3
  have c3b1 : (a0_0 != a1_0) = true := bne_iff_ne.mpr c3
  obtain rfl := Option.some.inj H
  go_enter Try.func19, Try.ntmps19
  go_wp2_with (first | ((with_reducible refine gate_dst (N := 2) rfl ?_); refine box_event ?hg (N := 2) ?hd (cs := #[.int .i64 a0_0, .slice A0_1 l0_1.length c0_1]) (t := 26) ?hr ?_; (case hd => rfl); (case hg => rfl); (case hr => first | (go_simp; done) | (go_simp; rfl)); intro gb116 hg w16 hbox hb; have BK116 := Aside0.mk (hbox); have GW116 := gH HB hg; have GE116 := gH HB hg; replace HB := sH HB hb; clear hb hbox hg) | ((with_reducible refine gate_dst (N := 3) rfl ?_); refine box_event ?hg (N := 3) ?hd (cs := #[.int .i64 a1_0, .slice A1_1 l1_1.length c1_1]) (t := 26) ?hr ?_; (case hd => rfl); (case hg => rfl); (case hr => first | (go_simp; done) | (go_simp; rfl)); intro gb117 hg w17 hbox hb; have BK117 := Aside0.mk (hbox); have GW117 := gH HB hg; have GE117 := gH HB hg; replace HB := sH HB hb; have NB116_117 := nB BK116 hg; have NB117_116 := oB BK116 hg; replace BK116 := sB BK116 hb; clear hb hbox hg; (try have hnb18 := NB116_117.out); (try have hnc18 := NB117_116.out); have hcz19_0 : w17.cell? ⟨gb116, 0, none⟩ = some (.int .i64 a0_0) := cB BK116 0; have hcz19_1 : w17.cell? ⟨gb116, 1, none⟩ = some (.slice A0_1 l0_1.length c0_1) := cB BK116 1; have hfz19_0 := zB BK116 0; have hfz19_1 := zB BK116 1; have hcz20_0 : w17.cell? ⟨gb117, 0, none⟩ = some (.int .i64 a1_0) := cB BK117 0; have hcz20_1 : w17.cell? ⟨gb117, 1, none⟩ = some (.slice A1_1 l1_1.length c1_1) := cB BK117 1; have hfz20_0 := zB BK117 0; have hfz20_1 := zB BK117 1))
  go_ret
  exact ⟨by first | rfl | (simp [errW_none, errW_some] <;> rfl) | (simp [*, errW_none, errW_some] <;> rfl), pH HB⟩
end Go.Proofs.Ytnmhnkpijjmhjaa.QS
namespace Go.Proofs.Ytnmhnkpijjmhjaa.QS
open Go.Proofs.Ytnmhnkpijjmhjaa.Cw Go.Proofs.Ytnmhnkpijjmhjaa.Kp Go.Proofs.Ytnmhnkpijjmhjaa.Ext Go.RowKit Go.Proofs.YtnmhnkpijjmhjaaW.PrintWords Go.Proofs.YtnmhnkpijjmhjaaW.PrintLast Go.Proofs.YtnmhnkpijjmhjaaW.PrintMore
attribute [local go_sem] max2_int min2_int max_two min_two max_three min_three max_four min_four   -- for this text's walks alone
set_option linter.unusedVariables false
set_option linter.unusedSimpArgs false
def laws_eqPairS.l0 : Nat → List (S76) → List (S76) → Int → Option (Bool)
 | 0, _, _, _ => none
 | k + 1, x0, x1, x5 => if x5 < (x0.length : Int) then (if 0 ≤ x5 then (if x5 < (x1.length : Int) then ((laws_eqPair.f ((rd_T76 x0 x5).f0) ((rd_T76 x0 x5).f1) ((rd_T76 x1 x5).f0) ((rd_T76 x1 x5).f1)).bind fun t121 => (if t121 = true then (laws_eqPairS.l0 k x0 x1 (wrap64 (x5 + 1))) else (some false))) else (none)) else (none)) else (some true)
def laws_eqPairS.f (k : Nat) (l0 : List (S76)) (l1 : List (S76)) : Option (Bool) := if (l0.length : Int) = (l1.length : Int) then (laws_eqPairS.l0 k l0 l1 0) else (some false)
def laws_eqPairS.T6 : Bool × List (List Nat × List Nat) := (true, [([], []), ([], []), ([0, 1], [0, 1]), ([2], [2]), ([], []), ([], []), ([4, 5], [4, 5]), ([6], [6]), ([3, 7], [3, 7]), ([8], [8])])
def laws_eqPairS.B6 : List Nat := [0, 0, 3, 7, 0, 0, 48, 112, 255, 511]
theorem laws_eqPairS.tab6 : rtab .any (opsOf Try.f20 6) = laws_eqPairS.T6 := by kernel_rfl
theorem laws_eqPairS.bits6 : waitsOk laws_eqPairS.T6.2 laws_eqPairS.B6 = true := by kernel_rfl
set_option maxHeartbeats 8000000 in
set_option maxRecDepth 100000 in
theorem laws_eqPairS.calls (k : Nat) (A0 : Option Addr) (c0 : Nat) (l0 : List (S76)) (A1 : Option Addr) (c1 : Nat) (l1 : List (S76)) (r : Bool) (w : World) (hr0 : Kd.C k76 w A0 l0.length l0) (hc0 : l0.length ≤ c0) (hr1 : Kd.C k76 w A1 l1.length l1) (hc1 : l1.length ≤ c1) (h : laws_eqPairS.f k l0 l1 = some r) :
  Calls Try.prog 20 #[.slice A0 l0.length c0, .slice A1 l1.length c1] w fun e w' => e = .returned (.bool r) ∧ Below w.heap.size w w' := by
 have hu76 := Try.underlying76
 have HR0 := Aside0.mk hr0
 have HC0 := Aside0.mk hc0
 clear hr0 hc0
 have HR1 := Aside0.mk hr1
 have HC1 := Aside0.mk hc1
 clear hr1 hc1
 have HB := Aside0.mk (Below.refl w.heap.size w)
 have H : (if (l0.length : Int) = (l1.length : Int) then (laws_eqPairS.l0 k l0 l1 0) else (some false)) = some r := h
 clear h
 by_cases c3 : (l0.length : Int) = (l1.length : Int)
 ·rw [if_pos c3] at H
  have c3b0 : ((l0.length : Int) == (l1.length : Int)) = true := beq_iff_eq.mpr c3
  have c3b1 : ((l0.length : Int) != (l1.length : Int)) = false := bne_eq_false_iff_eq.mpr c3
  have c3b2 : (l0.length == l1.length) = true := by first | simpa using c3 | (simp at c3 ⊢; omega)
  clear c3
  have H' := Aside0.mk H
  clear H
  go_enter Try.func20, Try.ntmps20
  go_wp2
  go_loopg [5] k (fun kq v5 w' => ∃ (x5_1 : Int), v5 = .int .i64 x5_1 ∧ Aside0 (laws_eqPairS.l0 kq l0 l1 x5_1 = some r) ∧ Aside0 (kq ≤ k) ∧ Aside0 (Below w.heap.size w w'))
  case atStart => exact ⟨(0), (by first | rfl | (simp; done) | (simp [*]; done)), H', ⟨Nat.le_refl _⟩, ⟨pH HB⟩⟩
  case round =>
   clear H'
   try clear c1
   try clear c2
   try clear p2
   try clear c3
   try clear c3b0
   try clear c3b1
   try clear c3b2
   obtain ⟨x5_1, rfl, HA, HK1, HB⟩ := hrel
   cases gk with
   | zero => exact absurd HA.out (by simp [laws_eqPairS.l0])
   | succ k1 =>
    have H := HA.out
    clear HA
    simp only [laws_eqPairS.l0] at H
    by_cases c4 : x5_1 < (l0.length : Int)
    ·rw [if_pos c4] at H
     have c4b0 : decide (x5_1 < (l0.length : Int)) = true := decide_eq_true c4
     clear c4
     by_cases c5 : 0 ≤ x5_1
     ·rw [if_pos c5] at H
      have c5b0 : decide (0 ≤ x5_1) = true := decide_eq_true c5
      clear c5
      by_cases c6 : x5_1 < (l1.length : Int)
      ·rw [if_pos c6] at H
       have c6b0 : decide (x5_1 < (l1.length : Int)) = true := decide_eq_true c6
       clear c6
       replace H := Option.bind_eq_some_iff.mp H
       obtain ⟨t121, A70, H⟩ := H
       try dsimp only at H
       have A7 := Aside0.mk A70
       clear A70
       by_cases c8 : t121 = true
       ·subst c8
        have H1 : (laws_eqPairS.l0 k1 l0 l1 (wrap64 (x5_1 + 1))) = some r := by rw [if_pos rfl] at H; exact H
        clear H
        have H := H1
        clear H1
        have H' := Aside0.mk H
        clear H
        try go_wp2
        replace HB := dH HB
        have p119 : 0 ≤ (x5_1 : Int) := of_decide_eq_true (by first | (with_reducible assumption) | assumption)
        have q119 : x5_1 < (l0.length : Int) := of_decide_eq_true (by first | (with_reducible assumption) | assumption)
        obtain ⟨ad119, e119, hx119_0, hx119_1⟩ := at_T76 HR0.out x5_1 p119 q119
        have hw119_1 := hx119_1
        have hw119_0 := hx119_0
        cases e119
        replace hx119_0 := cH HB hx119_0
        replace hx119_1 := cH HB hx119_1
        replace p119 := eq_true p119
        replace q119 := eq_true q119
        have p120 : 0 ≤ (x5_1 : Int) := of_decide_eq_true (by first | (with_reducible assumption) | assumption)
        have q120 : x5_1 < (l1.length : Int) := of_decide_eq_true (by first | (with_reducible assumption) | assumption)
        obtain ⟨ad120, e120, hx120_0, hx120_1⟩ := at_T76 HR1.out x5_1 p120 q120
        have hw120_1 := hx120_1
        have hw120_0 := hx120_0
        cases e120
        replace hx120_0 := cH HB hx120_0
        replace hx120_1 := cH HB hx120_1
        replace p120 := eq_true p120
        replace q120 := eq_true q120
        refine st_ 10 (S := fun w' => w'.cell? (ad119.add ((x5_1).toNat * 2)) = some (.int .i64 ((rd_T76 l0 x5_1).f0)) ∧ w'.cell? ⟨(ad119.add ((x5_1).toNat * 2)).block, (ad119.add ((x5_1).toNat * 2)).off + 1, none⟩ = some (.int .i64 ((rd_T76 l0 x5_1).f1)) ∧ w'.cell? (ad120.add ((x5_1).toNat * 2)) = some (.int .i64 ((rd_T76 l1 x5_1).f0)) ∧ w'.cell? ⟨(ad120.add ((x5_1).toNat * 2)).block, (ad120.add ((x5_1).toNat * 2)).off + 1, none⟩ = some (.int .i64 ((rd_T76 l1 x5_1).f1))) (ds := []) ⟨(cH HB hw119_0 :), (cH HB hw119_1 :), (cH HB hw120_0 :), (cH HB hw120_1 :)⟩ (fun hHeld => ?_); refine with_tabW laws_eqPairS.tab6 laws_eqPairS.bits6 (fun HT_ HW_ => ?_)
        generalize wr.drew = w9 at HB hx119_0 hx119_1 hx120_0 hx120_1 hHeld ⊢
        refine pu_ 0 17 1 HT_ ?_
        refine pu_ 1 18 3 HT_ ?_
        refine pu_ 2 19 7 HT_ ?_
        refine pu_ 4 21 23 HT_ ?_
        refine pu_ 5 22 55 HT_ ?_
        refine pu_ 6 23 119 HT_ ?_
        refine tk_ 3 20 127 HT_ HW_ hHeld ?_
        refine tk_ 7 24 255 HT_ HW_ hHeld ?_
        refine on_ 8 (some 25) 511 HT_ (fun K hK => ?_)
        refine ca_ Try.func63 #[.agg #[.int .i64 ((rd_T76 l0 x5_1).f0), .int .i64 ((rd_T76 l0 x5_1).f1)], .agg #[.int .i64 ((rd_T76 l1 x5_1).f0), .int .i64 ((rd_T76 l1 x5_1).f1)]] ?_
        with_reducible refine (laws_eqPair.calls ((rd_T76 l0 x5_1).f0) ((rd_T76 l0 x5_1).f1) ((rd_T76 l1 x5_1).f0) ((rd_T76 l1 x5_1).f1) true _ A7.out).mono ?_
        rintro e w10 ⟨rfl, hb⟩
        refine ⟨_, rfl, ?_⟩
        replace HB := sH HB hb
        (try clear hb)
        (try clear hb2)
        (try clear hk)
        (try clear hi)
        refine hK.out _ _ ⟨(cH HB hw119_0 :), (cH HB hw119_1 :), (cH HB hw120_0 :), (cH HB hw120_1 :)⟩ (fun hHeld => ?_)
        clear hK K
        refine nm_ ?_
        refine pu_ 9 26 1023 HT_ ?_
        refine dn_ HT_ ?_
        try go_wp2
        go_roundg k1
        case measure => have := HK1.out; omega
        case rel => exact ⟨(wrap64 (x5_1 + 1)), (by first | rfl | (simp; done) | (simp [*]; done)), H', ⟨by have := HK1.out; omega⟩, ⟨pH HB⟩⟩
       ·replace c8 := Bool.eq_false_iff.mpr c8
        subst c8
        have H1 : (some false) = some r := by rw [if_neg (show ¬ (false = true) by decide)] at H; exact H
        clear H
        have H := H1
        clear H1
        obtain rfl := Option.some.inj H
        try go_wp2
        replace HB := dH HB
        have p119 : 0 ≤ (x5_1 : Int) := of_decide_eq_true (by first | (with_reducible assumption) | assumption)
        have q119 : x5_1 < (l0.length : Int) := of_decide_eq_true (by first | (with_reducible assumption) | assumption)
        obtain ⟨ad119, e119, hx119_0, hx119_1⟩ := at_T76 HR0.out x5_1 p119 q119
        have hw119_1 := hx119_1
        have hw119_0 := hx119_0
        cases e119
        replace hx119_0 := cH HB hx119_0
        replace hx119_1 := cH HB hx119_1
        replace p119 := eq_true p119
        replace q119 := eq_true q119
        have p120 : 0 ≤ (x5_1 : Int) := of_decide_eq_true (by first | (with_reducible assumption) | assumption)
        have q120 : x5_1 < (l1.length : Int) := of_decide_eq_true (by first | (with_reducible assumption) | assumption)
        obtain ⟨ad120, e120, hx120_0, hx120_1⟩ := at_T76 HR1.out x5_1 p120 q120
        have hw120_1 := hx120_1
        have hw120_0 := hx120_0
        cases e120
        replace hx120_0 := cH HB hx120_0
        replace hx120_1 := cH HB hx120_1
        replace p120 := eq_true p120
        replace q120 := eq_true q120
        refine st_ 10 (S := fun w' => w'.cell? (ad119.add ((x5_1).toNat * 2)) = some (.int .i64 ((rd_T76 l0 x5_1).f0)) ∧ w'.cell? ⟨(ad119.add ((x5_1).toNat * 2)).block, (ad119.add ((x5_1).toNat * 2)).off + 1, none⟩ = some (.int .i64 ((rd_T76 l0 x5_1).f1)) ∧ w'.cell? (ad120.add ((x5_1).toNat * 2)) = some (.int .i64 ((rd_T76 l1 x5_1).f0)) ∧ w'.cell? ⟨(ad120.add ((x5_1).toNat * 2)).block, (ad120.add ((x5_1).toNat * 2)).off + 1, none⟩ = some (.int .i64 ((rd_T76 l1 x5_1).f1))) (ds := []) ⟨(cH HB hw119_0 :), (cH HB hw119_1 :), (cH HB hw120_0 :), (cH HB hw120_1 :)⟩ (fun hHeld => ?_); refine with_tabW laws_eqPairS.tab6 laws_eqPairS.bits6 (fun HT_ HW_ => ?_)
        generalize wr.drew = w11 at HB hx119_0 hx119_1 hx120_0 hx120_1 hHeld ⊢
        refine pu_ 0 17 1 HT_ ?_
        refine pu_ 1 18 3 HT_ ?_
        refine pu_ 2 19 7 HT_ ?_
        refine pu_ 4 21 23 HT_ ?_
        refine pu_ 5 22 55 HT_ ?_
        refine pu_ 6 23 119 HT_ ?_
        refine tk_ 3 20 127 HT_ HW_ hHeld ?_
        refine tk_ 7 24 255 HT_ HW_ hHeld ?_
        refine on_ 8 (some 25) 511 HT_ (fun K hK => ?_)
        refine ca_ Try.func63 #[.agg #[.int .i64 ((rd_T76 l0 x5_1).f0), .int .i64 ((rd_T76 l0 x5_1).f1)], .agg #[.int .i64 ((rd_T76 l1 x5_1).f0), .int .i64 ((rd_T76 l1 x5_1).f1)]] ?_
        with_reducible refine (laws_eqPair.calls ((rd_T76 l0 x5_1).f0) ((rd_T76 l0 x5_1).f1) ((rd_T76 l1 x5_1).f0) ((rd_T76 l1 x5_1).f1) false _ A7.out).mono ?_
        rintro e w12 ⟨rfl, hb⟩
        refine ⟨_, rfl, ?_⟩
        replace HB := sH HB hb
        (try clear hb)
        (try clear hb2)
        (try clear hk)
        (try clear hi)
        refine hK.out _ _ ⟨(cH HB hw119_0 :), (cH HB hw119_1 :), (cH HB hw120_0 :), (cH HB hw120_1 :)⟩ (fun hHeld => ?_)
        clear hK K
        refine nm_ ?_
        refine pu_ 9 26 1023 HT_ ?_
        refine dn_ HT_ ?_
        try go_wp2
        go_ret
        exact ⟨by first | rfl | (simp [errW_none, errW_some] <;> rfl) | (simp [*, errW_none, errW_some] <;> rfl), pH HB⟩
      ·rw [if_neg c6] at H
       exact absurd H (by simp)
     ·rw [if_neg c5] at H
      exact absurd H (by simp)
    ·rw [if_neg c4] at H
     have c4b0 : decide (x5_1 < (l0.length : Int)) = false := decide_eq_false c4
     clear c4
     obtain rfl := Option.some.inj H
     go_wp2
     go_ret
     exact ⟨by first | rfl | (simp [errW_none, errW_some] <;> rfl) | (simp [*, errW_none, errW_some] <;> rfl), pH HB⟩
 ·rw [if_neg c3] at H
  have c3b0 : ((l0.length : Int) == (l1.length : Int)) = false := beq_eq_false_iff_ne.mpr c3
  have c3b1 : ((l0.length : Int) != (l1.length : Int)) = true := bne_iff_ne.mpr c3
  have c3b2 : (l0.length == l1.length) = false := by first | simpa using c3 | (simp at c3 ⊢; omega)
  obtain rfl := Option.some.inj H
  go_enter Try.func20, Try.ntmps20
  go_wp2
  go_ret
  exact ⟨by first | rfl | (simp [errW_none, errW_some] <;> rfl) | (simp [*, errW_none, errW_some] <;> rfl), pH HB⟩
end Go.Proofs.Ytnmhnkpijjmhjaa.QS
namespace Go.Proofs.Ytnmhnkpijjmhjaa.QS
open Go.Proofs.Ytnmhnkpijjmhjaa.Cw Go.Proofs.Ytnmhnkpijjmhjaa.Kp Go.Proofs.Ytnmhnkpijjmhjaa.Ext Go.RowKit Go.Proofs.YtnmhnkpijjmhjaaW.PrintWords Go.Proofs.YtnmhnkpijjmhjaaW.PrintLast Go.Proofs.YtnmhnkpijjmhjaaW.PrintMore
attribute [local go_sem] max2_int min2_int max_two min_two max_three min_three max_four min_four   -- for this text's walks alone
set_option linter.unusedVariables false
set_option linter.unusedSimpArgs false
def laws_szInt64S.f (l0 : List Int) (a1 : Int) : Option (Int) := if (wrap64 (a1 - (l0.length : Int))) < 0 then (some (-1)) else (some (wrap64 (a1 - (l0.length : Int))))
set_option maxHeartbeats 8000000 in
set_option maxRecDepth 100000 in
theorem laws_szInt64S.calls (A0 : Option Addr) (c0 : Nat) (l0 : List Int) (a1 : Int) (r : Int) (w : World) (hr0 : Kd.C (Kd.int .i64) w A0 l0.length l0) (hc0 : l0.length ≤ c0) (h : laws_szInt64S.f l0 a1 = some r) :
  Calls Try.prog 56 #[.slice A0 l0.length c0, .int .i64 a1] w fun e w' => e = .returned (.int .i64 r) ∧ Drawn0 w w' := by
 have HR0 := Aside0.mk hr0
 have HC0 := Aside0.mk hc0
 clear hr0 hc0
 have H : (if (wrap64 (a1 - (l0.length : Int))) < 0 then (some (-1)) else (some (wrap64 (a1 - (l0.length : Int))))) = some r := h
 clear h
 by_cases c3 : (wrap64 (a1 - (l0.length : Int))) < 0
 ·rw [if_pos c3] at H
  have c3b0 : decide ((wrap64 (a1 - (l0.length : Int))) < 0) = true := decide_eq_true c3
  clear c3
  obtain rfl := Option.some.inj H
  go_enter Try.func56, Try.ntmps56
  go_wp2
  go_ret
  exact ⟨by first | rfl | (simp; done) | (simp [*]; done), by repeat (first | exact Drawn0.refl _ | apply Drawn0.step)⟩
 ·rw [if_neg c3] at H
  have c3b0 : decide ((wrap64 (a1 - (l0.length : Int))) < 0) = false := decide_eq_false c3
  clear c3
  obtain rfl := Option.some.inj H
  go_enter Try.func56, Try.ntmps56
  go_wp2
  go_ret
  exact ⟨by first | rfl | (simp; done) | (simp [*]; done), by repeat (first | exact Drawn0.refl _ | apply Drawn0.step)⟩
end Go.Proofs.Ytnmhnkpijjmhjaa.QS
namespace Go.Proofs.Ytnmhnkpijjmhjaa.QS
open Go.Proofs.Ytnmhnkpijjmhjaa.Cw Go.Proofs.Ytnmhnkpijjmhjaa.Kp Go.Proofs.Ytnmhnkpijjmhjaa.Ext Go.RowKit Go.Proofs.YtnmhnkpijjmhjaaW.PrintWords Go.Proofs.YtnmhnkpijjmhjaaW.PrintLast Go.Proofs.YtnmhnkpijjmhjaaW.PrintMore
attribute [local go_sem] max2_int min2_int max_two min_two max_three min_three max_four min_four   -- for this text's walks alone
set_option linter.unusedVariables false
set_option linter.unusedSimpArgs false
def laws_szComplex.f (a0_0 : Int) (l0_1 : List Int) (a1 : Int) : Option (Int) := (laws_szInt64S.f l0_1 a1).bind fun t102 => (if t102 < 0 then (some (-1)) else (some t102))
set_option maxHeartbeats 8000000 in
set_option maxRecDepth 100000 in
theorem laws_szComplex.calls (a0_0 : Int) (A0_1 : Option Addr) (c0_1 : Nat) (l0_1 : List Int) (a1 : Int) (r : Int) (w : World) (hr0_1 : Kd.C (Kd.int .i64) w A0_1 l0_1.length l0_1) (hc0_1 : l0_1.length ≤ c0_1) (h : laws_szComplex.f a0_0 l0_1 a1 = some r) :
  Calls Try.prog 15 #[.agg #[.int .i64 a0_0, .slice A0_1 l0_1.length c0_1], .int .i64 a1] w fun e w' => e = .returned (.int .i64 r) ∧ Below w.heap.size w w' := by
 have hu24 := Try.underlying24
 have HR0_1 := Aside0.mk hr0_1
 have HC0_1 := Aside0.mk hc0_1
 clear hr0_1 hc0_1
 have HB := Aside0.mk (Below.refl w.heap.size w)
 have H : ((laws_szInt64S.f l0_1 a1).bind fun t102 => (if t102 < 0 then (some (-1)) else (some t102))) = some r := h
 clear h
 replace H := Option.bind_eq_some_iff.mp H
 obtain ⟨t102, A30, H⟩ := H
 try dsimp only at H
 have A3 := Aside0.mk A30
 clear A30
 by_cases c4 : t102 < 0
 ·rw [if_pos c4] at H
  have c4b0 : decide (t102 < 0) = true := decide_eq_true c4
  clear c4
  obtain rfl := Option.some.inj H
  go_enter Try.func15, Try.ntmps15
  go_wp2_with (first | ((with_reducible refine gate_dst (N := 2) rfl ?_); refine box_event ?hg (N := 2) ?hd (cs := #[.int .i64 a0_0, .slice A0_1 l0_1.length c0_1]) (t := 24) ?hr ?_; (case hd => rfl); (case hg => rfl); (case hr => first | (go_simp; done) | (go_simp; rfl)); intro gb101 hg w5 hbox hb; have BK101 := Aside0.mk (hbox); have GW101 := gH HB hg; have GE101 := gH HB hg; replace HB := sH HB hb; clear hb hbox hg; have hcz6_0 : w5.cell? ⟨gb101, 0, none⟩ = some (.int .i64 a0_0) := cB BK101 0; have hcz6_1 : w5.cell? ⟨gb101, 1, none⟩ = some (.slice A0_1 l0_1.length c0_1) := cB BK101 1; have hfz6_0 := zB BK101 0; have hfz6_1 := zB BK101 1) | ((with_reducible refine gate_callee (f := 56) rfl ?_); refine cl_ (some 8) Try.func56 #[.slice A0_1 l0_1.length c0_1, .int .i64 a1] ?_; (with_reducible refine (laws_szInt64S.calls _ _ l0_1 a1 t102 _ ?side1 ?side2 A3.out).mono ?_); (case side1 => exact pC ((Kd.C_below HR0_1.out HB.out))); (case side2 => exact HC0_1.out); rintro e w' ⟨rfl, ⟨nd, rfl⟩⟩; refine ⟨_, rfl, ?_⟩))
  go_ret
  exact ⟨by first | rfl | (simp [errW_none, errW_some] <;> rfl) | (simp [*, errW_none, errW_some] <;> rfl), pH HB⟩
 ·rw [if_neg c4] at H
  have c4b0 : decide (t102 < 0) = false := decide_eq_false c4
  clear c4
  obtain rfl := Option.some.inj H
  go_enter Try.func15, Try.ntmps15
  go_wp2_with (first | ((with_reducible refine gate_dst (N := 2) rfl ?_); refine box_event ?hg (N := 2) ?hd (cs := #[.int .i64 a0_0, .slice A0_1 l0_1.length c0_1]) (t := 24) ?hr ?_; (case hd => rfl); (case hg => rfl); (case hr => first | (go_simp; done) | (go_simp; rfl)); intro gb101 hg w7 hbox hb; have BK101 := Aside0.mk (hbox); have GW101 := gH HB hg; have GE101 := gH HB hg; replace HB := sH HB hb; clear hb hbox hg; have hcz8_0 : w7.cell? ⟨gb101, 0, none⟩ = some (.int .i64 a0_0) := cB BK101 0; have hcz8_1 : w7.cell? ⟨gb101, 1, none⟩ = some (.slice A0_1 l0_1.length c0_1) := cB BK101 1; have hfz8_0 := zB BK101 0; have hfz8_1 := zB BK101 1) | ((with_reducible refine gate_callee (f := 56) rfl ?_); refine cl_ (some 8) Try.func56 #[.slice A0_1 l0_1.length c0_1, .int .i64 a1] ?_; (with_reducible refine (laws_szInt64S.calls _ _ l0_1 a1 t102 _ ?side1 ?side2 A3.out).mono ?_); (case side1 => exact pC ((Kd.C_below HR0_1.out HB.out))); (case side2 => exact HC0_1.out); rintro e w' ⟨rfl, ⟨nd, rfl⟩⟩; refine ⟨_, rfl, ?_⟩))
  go_ret
  exact ⟨by first | rfl | (simp [errW_none, errW_some] <;> rfl) | (simp [*, errW_none, errW_some] <;> rfl), pH HB⟩
end Go.Proofs.Ytnmhnkpijjmhjaa.QS
namespace Go.Proofs.Ytnmhnkpijjmhjaa.QS
open Go.Proofs.Ytnmhnkpijjmhjaa.Cw Go.Proofs.Ytnmhnkpijjmhjaa.Kp Go.Proofs.Ytnmhnkpijjmhjaa.Ext Go.RowKit Go.Proofs.YtnmhnkpijjmhjaaW.PrintWords Go.Proofs.YtnmhnkpijjmhjaaW.PrintLast Go.Proofs.YtnmhnkpijjmhjaaW.PrintMore
attribute [local go_sem] max2_int min2_int max_two min_two max_three min_three max_four min_four   -- for this text's walks alone
set_option linter.unusedVariables false
set_option linter.unusedSimpArgs false
def laws_szPairS.f (l0 : List (S75)) (a1 : Int) : Option (Int) := if (wrap64 (a1 - (l0.length : Int))) < 0 then (some (-1)) else (some (wrap64 (a1 - (l0.length : Int))))
set_option maxHeartbeats 8000000 in
set_option maxRecDepth 100000 in
theorem laws_szPairS.calls (A0 : Option Addr) (c0 : Nat) (l0 : List (S75)) (a1 : Int) (r : Int) (w : World) (hr0 : Kd.C k75 w A0 l0.length l0) (hc0 : l0.length ≤ c0) (h : laws_szPairS.f l0 a1 = some r) :
  Calls Try.prog 45 #[.slice A0 l0.length c0, .int .i64 a1] w fun e w' => e = .returned (.int .i64 r) ∧ Drawn0 w w' := by
 have HR0 := Aside0.mk hr0
 have HC0 := Aside0.mk hc0
 clear hr0 hc0
 have H : (if (wrap64 (a1 - (l0.length : Int))) < 0 then (some (-1)) else (some (wrap64 (a1 - (l0.length : Int))))) = some r := h
 clear h
 by_cases c3 : (wrap64 (a1 - (l0.length : Int))) < 0
 ·rw [if_pos c3] at H
  have c3b0 : decide ((wrap64 (a1 - (l0.length : Int))) < 0) = true := decide_eq_true c3
  clear c3
  obtain rfl := Option.some.inj H
  go_enter Try.func45, Try.ntmps45
  go_wp2
  go_ret
  exact ⟨by first | rfl | (simp; done) | (simp [*]; done), by repeat (first | exact Drawn0.refl _ | apply Drawn0.step)⟩
 ·rw [if_neg c3] at H
  have c3b0 : decide ((wrap64 (a1 - (l0.length : Int))) < 0) = false := decide_eq_false c3
  clear c3
  obtain rfl := Option.some.inj H
  go_enter Try.func45, Try.ntmps45
  go_wp2
  go_ret
  exact ⟨by first | rfl | (simp; done) | (simp [*]; done), by repeat (first | exact Drawn0.refl _ | apply Drawn0.step)⟩
end Go.Proofs.Ytnmhnkpijjmhjaa.QS
namespace Go.Proofs.Ytnmhnkpijjmhjaa.QS
open Go.Proofs.Ytnmhnkpijjmhjaa.Cw Go.Proofs.Ytnmhnkpijjmhjaa.Kp Go.Proofs.Ytnmhnkpijjmhjaa.Ext Go.RowKit Go.Proofs.YtnmhnkpijjmhjaaW.PrintWords Go.Proofs.YtnmhnkpijjmhjaaW.PrintLast Go.Proofs.YtnmhnkpijjmhjaaW.PrintMore
attribute [local go_sem] max2_int min2_int max_two min_two max_three min_three max_four min_four   -- for this text's walks alone
set_option linter.unusedVariables false
set_option linter.unusedSimpArgs false
def laws_toInt64S.l0 : Nat → List Int → List Int → Int → Option (List Int)
 | 0, _, _, _ => none
 | k + 1, x0, x3, x4 => if x4 < (x0.length : Int) then (if 0 ≤ x4 then (if x4 < (x3.length : Int) then (laws_toInt64S.l0 k x0 (x3.set (x4 : Int).toNat (rd x0 x4)) (wrap64 (x4 + 1))) else (none)) else (none)) else (some x3)
def laws_toInt64S.f (k : Nat) (l0 : List Int) : Option (List Int) := if 0 ≤ (l0.length : Int) then (if ((l0.length : Int) : Int).toNat ≤ 35184372088832 then (laws_toInt64S.l0 k l0 (List.replicate ((l0.length : Int) : Int).toNat 0) 0) else (none)) else (none)
set_option maxHeartbeats 8000000 in
set_option maxRecDepth 100000 in
theorem laws_toInt64S.calls (k : Nat) (A0 : Option Addr) (c0 : Nat) (l0 : List Int) (r : List Int) (w : World) (hr0 : Kd.C (Kd.int .i64) w A0 l0.length l0) (hc0 : l0.length ≤ c0) (h : laws_toInt64S.f k l0 = some r) :
  Calls Try.prog 43 #[.slice A0 l0.length c0] w fun e w' => ∃ v0_ : Value, e = .returned (v0_) ∧ Kd.R (Kd.int .i64) 2 w' w.heap.size (fun _ => True) v0_ r ∧ Below w.heap.size w w' := by
 have HR0 := Aside0.mk hr0
 have HC0 := Aside0.mk hc0
 clear hr0 hc0
 have HB := Aside0.mk (Below.refl w.heap.size w)
 have H : (if 0 ≤ (l0.length : Int) then (if ((l0.length : Int) : Int).toNat ≤ 35184372088832 then (laws_toInt64S.l0 k l0 (List.replicate ((l0.length : Int) : Int).toNat 0) 0) else (none)) else (none)) = some r := h
 clear h
 by_cases c2 : 0 ≤ (l0.length : Int)
 ·rw [if_pos c2] at H
  have c2b0 := eq_true c2
  have c2b1 : decide (0 ≤ (l0.length : Int)) = true := decide_eq_true c2
  clear c2
  by_cases c3 : ((l0.length : Int) : Int).toNat ≤ 35184372088832
  ·rw [if_pos c3] at H
   have c3b0 := eq_true c3
   have c3b1 : decide (((l0.length : Int) : Int).toNat ≤ 35184372088832) = true := decide_eq_true c3
   clear c3
   obtain ⟨y103, hy103⟩ : ∃ y_ : List Int, y_ = (List.replicate ((l0.length : Int) : Int).toNat 0) := ⟨_, rfl⟩
   replace H : (laws_toInt64S.l0 k l0 y103 0) = some r := by first | (rw [hy103]; with_reducible exact H) | (have H2_ := (Option.bind_some _ _).symm.trans H; rw [hy103]; with_reducible exact H2_) | (have H2_ := (Option.bind_some _ _).symm.trans H; with_reducible exact H2_) | with_reducible exact H | (rw [hy103]; exact H) | exact H
   have Ny103 := Aside0.mk hy103
   clear hy103
   have H' := Aside0.mk H
   clear H
   go_enter Try.func43, Try.ntmps43
   go_wp2_with (first | ((with_reducible refine gate_dst (N := 7) rfl ?_); refine Kd.R_make (Kd.int .i64) _ 2 rfl (N := 7) rfl 22 _ _ rfl (l0.length : Int) rfl rfl Try.underlying22 (.int .i64 0) 8 info2 rfl (by decide) (by omega) 0 (ok := fun _ => True) (okp := fun _ => True) rfl (fun _ hk => hk) trivial (of_decide_eq_true (by first | (with_reducible assumption) | assumption)) (Nat.le_trans (Nat.mul_le_mul_right _ (of_decide_eq_true (by first | (with_reducible assumption) | assumption) : (l0.length : Int).toNat ≤ 35184372088832)) (by omega)) (Below.refl _ _) (Nat.le_refl _) ?_; intro v104 w4 ho5 hb hg_ hnew_; clear hg_ hnew_; (first | rw [← Ny103.out] at ho5 | (simp only [Int.reduceToNat] at ho5; rw [← Ny103.out] at ho5)); have HO105 := Aside0.mk (Kd.R_lower ho5 (below_size (pH HB))); replace HB := sH HB hb; clear hb ho5))
   go_loopg [4] k (fun kq v4 w' => ∃ (x3_1 : List Int) (x4_1 : Int), v4 = .int .i64 x4_1 ∧ Aside0 (laws_toInt64S.l0 kq l0 x3_1 x4_1 = some r) ∧ Aside0 (kq ≤ k) ∧ Aside0 (Kd.R (Kd.int .i64) 2 w' w.heap.size (fun _ => True) v104 x3_1) ∧ Aside0 (Below w.heap.size w w'))
   case atStart => exact ⟨(y103), (0), (by first | rfl | (simp; done) | (simp [*]; done)), H', ⟨Nat.le_refl _⟩, ⟨by (with_reducible repeat (first | apply Kd.R_alloc | apply Kd.R_drewN | apply Kd.R_drew)); exact HO105.out⟩, ⟨pH HB⟩⟩
   case round =>
    clear H'
    try clear c2
    try clear c2b0
    try clear c2b1
    try clear p2
    try clear c3
    try clear c3b0
    try clear c3b1
    try clear c4
    obtain ⟨x3_1, x4_1, rfl, HA, HK1, HO_3, HB⟩ := hrel
    cases gk with
    | zero => exact absurd HA.out (by simp [laws_toInt64S.l0])
    | succ k1 =>
     have H := HA.out
     clear HA
     simp only [laws_toInt64S.l0] at H
     by_cases c6 : x4_1 < (l0.length : Int)
     ·rw [if_pos c6] at H
      have c6b0 : decide (x4_1 < (l0.length : Int)) = true := decide_eq_true c6
      clear c6
      by_cases c7 : 0 ≤ x4_1
      ·rw [if_pos c7] at H
       have c7b0 : decide (0 ≤ x4_1) = true := decide_eq_true c7
       clear c7
       by_cases c8 : x4_1 < (x3_1.length : Int)
       ·rw [if_pos c8] at H
        have c8b0 : decide (x4_1 < (x3_1.length : Int)) = true := decide_eq_true c8
        clear c8
        obtain ⟨y107, hy107⟩ : ∃ y_ : List Int, y_ = (x3_1.set (x4_1 : Int).toNat (rd l0 x4_1)) := ⟨_, rfl⟩
        replace H : (laws_toInt64S.l0 k1 l0 y107 (wrap64 (x4_1 + 1))) = some r := by first | (rw [hy107]; with_reducible exact H) | (have H2_ := (Option.bind_some _ _).symm.trans H; rw [hy107]; with_reducible exact H2_) | (have H2_ := (Option.bind_some _ _).symm.trans H; with_reducible exact H2_) | with_reducible exact H | (rw [hy107]; exact H) | exact H
        have Ny107 := Aside0.mk hy107
        clear hy107
        have H' := Aside0.mk H
        clear H
        have p106 : 0 ≤ (x4_1 : Int) := of_decide_eq_true (by first | (with_reducible assumption) | assumption)
        have q106 : x4_1 < (l0.length : Int) := of_decide_eq_true (by first | (with_reducible assumption) | assumption)
        obtain ⟨ad106, e106, hx106_0⟩ := Kd.at_int HR0.out x4_1 p106 q106
        cases e106
        replace hx106_0 := cH HB hx106_0
        replace p106 := eq_true p106
        replace q106 := eq_true q106
        have p9 : 0 ≤ (x4_1 : Int) := of_decide_eq_true (by first | (with_reducible assumption) | assumption)
        have q9 : (x4_1 : Int) < ((x3_1.length : Int) : Int) := of_decide_eq_true (by first | (with_reducible assumption) | assumption)
        obtain ⟨go9, co9, eo9, gb9, gl9, cl9, HG9⟩ := Kd.R_form HO_3.out (by omega)
        (first | cases eo9 | (injection eo9 with ea_ en_ ec_; (first | subst ea_ | (injection ea_ with ea_; subst ea_)); subst ec_; clear en_))
        have GB9 := Aside0.mk gb9
        have GG9 := Aside0.mk HG9
        clear gb9 gl9 HG9
        obtain ⟨hx9_0, hf9_0⟩ := Kd.R_celln 0 HO_3.out (x4_1 : Int) p9 q9
        replace p9 := eq_true p9
        replace q9 := eq_true q9
        have HP10 := Kd.R_putg HO_3.out (x4_1 : Int) (rd l0 x4_1)
        go_wp2_with (first | ((with_reducible refine gate_store (t := 2) (p := 20) rfl ?_); refine store_event (t := 2) (p := 20) (v := ?vo_w11) (w1 := (wr.setCell ⟨go9, (x4_1 : Int).toNat, none⟩ (.int .i64 (rd l0 x4_1)))) ?hg ?ho ?hn ?hr ?_; (case ho => rfl); (case hg => rfl); (case hn => rfl); (case hr => first | (go_simp; done) | (go_simp; rfl)); intro w11 hw; have hg : wr.grownBy w11 (some go9) := (by rw [hw]; exact HP10.2); have hp_ : Kd.R (Kd.int .i64) 2 w11 w.heap.size (fun _ => True) (.slice (some ⟨go9, 0, none⟩) x3_1.length co9) y107 := (by rw [hw, Ny107.out]; exact HP10.1); clear HP10; have n0_ := Aside0.mk (hp_); have n1_ := Aside0.mk ((by rw [hw]; exact below_set (HB.out) GB9.out : Below w.heap.size w w11)); clear HO_3; clear HB; have HO_3 := n0_; have HB := n1_; clear n0_ n1_; clear hg hw hp_))
        go_roundg k1
        case measure => have := HK1.out; omega
        case rel => exact ⟨(y107), (wrap64 (x4_1 + 1)), (by first | rfl | (simp; done) | (simp [*]; done)), H', ⟨by have := HK1.out; omega⟩, ⟨by (with_reducible repeat (first | apply Kd.R_alloc | apply Kd.R_drewN | apply Kd.R_drew)); exact HO_3.out⟩, ⟨pH HB⟩⟩
       ·rw [if_neg c8] at H
        exact absurd H (by simp)
      ·rw [if_neg c7] at H
       exact absurd H (by simp)
     ·rw [if_neg c6] at H
      have c6b0 : decide (x4_1 < (l0.length : Int)) = false := decide_eq_false c6
      clear c6
      obtain rfl := Option.some.inj H
      go_wp2
      go_ret
      exact ⟨_, by first | rfl | (simp [errW_none, errW_some] <;> rfl) | (simp [*, errW_none, errW_some] <;> rfl), by (with_reducible repeat (first | apply Kd.R_alloc | apply Kd.R_drewN | apply Kd.R_drew)); exact HO_3.out, pH HB⟩
  ·rw [if_neg c3] at H
   exact absurd H (by simp)
 ·rw [if_neg c2] at H
  exact absurd H (by simp)
end Go.Proofs.Ytnmhnkpijjmhjaa.QS
