/- Words and lemmas for FnExactWaysBetween, part 4: what the row's text comes to. -/
import Derived.Test.YtnmhnkpijjmhjaaZFnExactWaysBetweenc
namespace Go.Proofs.Ytnmhnkpijjmhjaa.QS
open Go.Proofs.Ytnmhnkpijjmhjaa.Cw Go.Proofs.Ytnmhnkpijjmhjaa.Kp Go.Proofs.Ytnmhnkpijjmhjaa.Ext Go.RowKit Go.Proofs.YtnmhnkpijjmhjaaW.PrintWords Go.Proofs.YtnmhnkpijjmhjaaW.PrintLast Go.Proofs.YtnmhnkpijjmhjaaW.PrintMore
attribute [local go_sem] max2_int min2_int max_two min_two max_three min_three max_four min_four   -- for this text's walks alone
set_option linter.unusedVariables false
set_option linter.unusedSimpArgs false
def spec_l02Pair.f (k : Nat) (a0_0 : Int) (l0_1 : List Int) (a1_0 : Int) (a1_1 : Int) : Option (Bool) := (spec_l01Has.f k a0_0 l0_1 a1_0).bind fun t566 => (if t566 = true then ((spec_l01Has.f k a0_0 l0_1 a1_1).bind fun t567 => (if t567 = true then (if (Go.bits .and .i64 a1_0 a1_1) = a1_0 then ((spec_l01Ones.f k a1_1).bind fun t568 => ((spec_l01Ones.f k a1_0).bind fun t569 => (some (t568 == (wrap64 (t569 + 1)))))) else (some false)) else (some false))) else (some false))
def spec_l02Pair.T1 : Bool × List (List Nat × List Nat) := (true, [([], []), ([], []), ([1], [1]), ([0, 2], [0, 2]), ([3, 3], [3]), ([4], [4]), ([4], [4]), ([6, 4], [4, 6]), ([5, 7, 4, 4], [4, 5, 7]), ([4, 8], [4, 8]), ([9, 8], [9]), ([10], [10]), ([11, 10], [10, 11]), ([10], [10]), ([13, 10], [10, 13]), ([12, 14, 10], [10, 12, 14]), ([10], [10]), ([16, 10], [10, 16]), ([15, 17, 10], [10, 15, 17]), ([10, 18], [10, 18]), ([19, 10], [19]), ([20], [20]), ([21, 20], [20, 21]), ([22, 20, 20], [20, 22]), ([20], [20]), ([24, 20], [20, 24]), ([25, 23, 20], [20, 25]), ([26, 20], [20, 26]), ([23, 27, 20], [20, 23, 27]), ([20, 28], [20, 28]), ([29, 26, 0, 1, 2, 3, 4, 5, 6, 7, 8, 9, 10, 11, 12, 13, 14, 15, 16, 17, 18, 19, 20, 21, 22, 23, 24, 25, 26, 27, 28, 29], [29])])
def spec_l02Pair.B1 : List Nat := [0, 0, 2, 7, 15, 31, 31, 95, 255, 511, 1023, 2047, 4095, 2047, 10239, 32767, 2047, 67583, 262143, 524287, 1048575, 2097151, 4194303, 8388607, 2097151, 18874367, 67108863, 134217727, 268435455, 536870911, 1073741823]
theorem spec_l02Pair.tab1 : rtab .any (opsOf Try.f210 1) = spec_l02Pair.T1 := by kernel_rfl
theorem spec_l02Pair.bits1 : waitsOk spec_l02Pair.T1.2 spec_l02Pair.B1 = true := by kernel_rfl
set_option maxHeartbeats 8000000 in
set_option maxRecDepth 100000 in
theorem spec_l02Pair.calls (k : Nat) (a0_0 : Int) (A0_1 : Option Addr) (c0_1 : Nat) (l0_1 : List Int) (a1_0 : Int) (a1_1 : Int) (r : Bool) (w : World) (hr0_1 : Kd.C (Kd.int .i64) w A0_1 l0_1.length l0_1) (hc0_1 : l0_1.length ≤ c0_1) (h : spec_l02Pair.f k a0_0 l0_1 a1_0 a1_1 = some r) :
  Calls Try.prog 210 #[.agg #[.int .i64 a0_0, .slice A0_1 l0_1.length c0_1], .agg #[.int .i64 a1_0, .int .i64 a1_1]] w fun e w' => e = .returned (.bool r) ∧ Below w.heap.size w w' := by
 have hu26 := Try.underlying26
 have hu76 := Try.underlying76
 have HR0_1 := Aside0.mk hr0_1
 have HC0_1 := Aside0.mk hc0_1
 clear hr0_1 hc0_1
 have HB := Aside0.mk (Below.refl w.heap.size w)
 have H : ((spec_l01Has.f k a0_0 l0_1 a1_0).bind fun t566 => (if t566 = true then ((spec_l01Has.f k a0_0 l0_1 a1_1).bind fun t567 => (if t567 = true then (if (Go.bits .and .i64 a1_0 a1_1) = a1_0 then ((spec_l01Ones.f k a1_1).bind fun t568 => ((spec_l01Ones.f k a1_0).bind fun t569 => (some (t568 == (wrap64 (t569 + 1)))))) else (some false)) else (some false))) else (some false))) = some r := h
 clear h
 replace H := Option.bind_eq_some_iff.mp H
 obtain ⟨t566, A30, H⟩ := H
 try dsimp only at H
 have A3 := Aside0.mk A30
 clear A30
 by_cases c4 : t566 = true
 ·subst c4
  have H1 : ((spec_l01Has.f k a0_0 l0_1 a1_1).bind fun t567 => (if t567 = true then (if (Go.bits .and .i64 a1_0 a1_1) = a1_0 then ((spec_l01Ones.f k a1_1).bind fun t568 => ((spec_l01Ones.f k a1_0).bind fun t569 => (some (t568 == (wrap64 (t569 + 1)))))) else (some false)) else (some false))) = some r := by rw [if_pos rfl] at H; exact H
  clear H
  have H := H1
  clear H1
  replace H := Option.bind_eq_some_iff.mp H
  obtain ⟨t567, A50, H⟩ := H
  try dsimp only at H
  have A5 := Aside0.mk A50
  clear A50
  by_cases c6 : t567 = true
  ·subst c6
   have H1 : (if (Go.bits .and .i64 a1_0 a1_1) = a1_0 then ((spec_l01Ones.f k a1_1).bind fun t568 => ((spec_l01Ones.f k a1_0).bind fun t569 => (some (t568 == (wrap64 (t569 + 1)))))) else (some false)) = some r := by rw [if_pos rfl] at H; exact H
   clear H
   have H := H1
   clear H1
   by_cases c7 : (Go.bits .and .i64 a1_0 a1_1) = a1_0
   ·rw [if_pos c7] at H
    have c7b0 : ((Go.bits .and .i64 a1_0 a1_1) == a1_0) = true := beq_iff_eq.mpr c7
    have c7b1 : ((Go.bits .and .i64 a1_0 a1_1) != a1_0) = false := bne_eq_false_iff_eq.mpr c7
    clear c7
    replace H := Option.bind_eq_some_iff.mp H
    obtain ⟨t568, A80, H⟩ := H
    try dsimp only at H
    have A8 := Aside0.mk A80
    clear A80
    replace H := Option.bind_eq_some_iff.mp H
    obtain ⟨t569, A90, H⟩ := H
    try dsimp only at H
    have A9 := Aside0.mk A90
    clear A90
    obtain rfl := Option.some.inj H
    go_enter Try.func210, Try.ntmps210
    try go_wp2_with (first | ((with_reducible refine gate_dst (N := 2) rfl ?_); refine box_event ?hg (N := 2) ?hd (cs := #[.int .i64 a0_0, .slice A0_1 l0_1.length c0_1]) (t := 26) ?hr ?_; (case hd => rfl); (case hg => rfl); (case hr => first | (go_simp; done) | (go_simp; rfl)); intro gb564 hg w10 hbox hb; have BK564 := Aside0.mk (hbox); have GW564 := gH HB hg; have GE564 := gH HB hg; replace HB := sH HB hb; clear hb hbox hg) | ((with_reducible refine gate_dst (N := 3) rfl ?_); refine box_event ?hg (N := 3) ?hd (cs := #[.int .i64 a1_0, .int .i64 a1_1]) (t := 76) ?hr ?_; (case hd => rfl); (case hg => rfl); (case hr => first | (go_simp; done) | (go_simp; rfl)); intro gb565 hg w11 hbox hb; have BK565 := Aside0.mk (hbox); have GW565 := gH HB hg; have GE565 := gH HB hg; replace HB := sH HB hb; have NB564_565 := nB BK564 hg; have NB565_564 := oB BK564 hg; replace BK564 := sB BK564 hb; clear hb hbox hg))
    replace BK564 := dB BK564
    replace BK565 := dB BK565
    replace HB := dH HB
    refine st_ 31 (S := fun w' => w'.cell? ⟨gb564, 0, none⟩ = some (.int .i64 a0_0) ∧ w'.cell? ⟨gb564, 1, none⟩ = some (.slice A0_1 l0_1.length c0_1) ∧ w'.cell? ⟨gb565, 0, none⟩ = some (.int .i64 a1_0) ∧ w'.cell? ⟨gb565, 1, none⟩ = some (.int .i64 a1_1)) (ds := []) ⟨cB BK564 0, cB BK564 1, cB BK565 0, cB BK565 1⟩ (fun hHeld => ?_); refine with_tabW spec_l02Pair.tab1 spec_l02Pair.bits1 (fun HT_ HW_ => ?_)
    generalize w11.drew = w12 at BK564 BK565 HB hHeld ⊢
    refine pu_ 1 6 2 HT_ ?_
    refine tk_ 0 5 3 HT_ HW_ hHeld ?_
    refine tk_ 2 7 7 HT_ HW_ hHeld ?_
    refine on_ 3 (some 8) 15 HT_ (fun K hK => ?_)
    refine ca_ Try.func64 #[.agg #[.int .i64 a0_0, .slice A0_1 l0_1.length c0_1], .int .i64 a1_0] ?_
    with_reducible refine (spec_l01Has.calls k a0_0 _ _ l0_1 a1_0 true _ ?side1 ?side2 A3.out).mono ?_
    (case side1 => exact pC ((Kd.C_below HR0_1.out HB.out)))
    (case side2 => exact HC0_1.out)
    rintro e w13 ⟨rfl, hb⟩
    refine ⟨_, rfl, ?_⟩
    replace BK564 := sB BK564 hb
    replace BK565 := sB BK565 hb
    replace HB := sH HB hb
    (try clear hb)
    (try clear hb2)
    (try clear hk)
    (try clear hi)
    refine hK.out _ _ ⟨cB BK564 0, cB BK564 1, cB BK565 0, cB BK565 1⟩ (fun hHeld => ?_)
    clear hK K
    refine nm_ ?_
    refine pu_ 4 9 31 HT_ ?_
    refine pu_ 6 11 95 HT_ ?_
    refine tk_ 5 10 127 HT_ HW_ hHeld ?_
    refine tk_ 7 12 255 HT_ HW_ hHeld ?_
    refine on_ 8 (some 13) 511 HT_ (fun K hK => ?_)
    refine ca_ Try.func64 #[.agg #[.int .i64 a0_0, .slice A0_1 l0_1.length c0_1], .int .i64 a1_1] ?_
    with_reducible refine (spec_l01Has.calls k a0_0 _ _ l0_1 a1_1 true _ ?side1 ?side2 A5.out).mono ?_
    (case side1 => exact pC ((Kd.C_below HR0_1.out HB.out)))
    (case side2 => exact HC0_1.out)
    rintro e w14 ⟨rfl, hb⟩
    refine ⟨_, rfl, ?_⟩
    replace BK564 := sB BK564 hb
    replace BK565 := sB BK565 hb
    replace HB := sH HB hb
    (try clear hb)
    (try clear hb2)
    (try clear hk)
    (try clear hi)
    refine hK.out _ _ ⟨cB BK564 0, cB BK564 1, cB BK565 0, cB BK565 1⟩ (fun hHeld => ?_)
    clear hK K
    refine nm_ ?_
    refine pu_ 9 14 1023 HT_ ?_
    refine pu_ 10 15 2047 HT_ ?_
    refine pu_ 11 16 4095 HT_ ?_
    refine pu_ 13 18 12287 HT_ ?_
    refine pu_ 16 21 77823 HT_ ?_
    refine tk_ 12 17 81919 HT_ HW_ hHeld ?_
    refine tk_ 14 19 98303 HT_ HW_ hHeld ?_
    refine pu_ 15 20 131071 HT_ ?_
    refine tk_ 17 22 262143 HT_ HW_ hHeld ?_
    refine pu_ 18 23 524287 HT_ ?_
    refine pu_ 19 24 1048575 HT_ ?_
    refine pu_ 20 25 2097151 HT_ ?_
    refine pu_ 21 26 4194303 HT_ ?_
    refine pu_ 24 29 20971519 HT_ ?_
    refine tk_ 22 27 25165823 HT_ HW_ hHeld ?_
    refine tk_ 25 30 58720255 HT_ HW_ hHeld ?_
    refine on_ 23 (some 28) 67108863 HT_ (fun K hK => ?_)
    refine ca_ Try.func137 #[.int .i64 a1_1] ?_
    with_reducible refine (spec_l01Ones.calls k a1_1 t568 _ A8.out).mono ?_
    rintro e w' ⟨rfl, ⟨nd, rfl⟩⟩
    refine ⟨_, rfl, ?_⟩
    refine hK.out _ _ ⟨cB BK564 0, cB BK564 1, cB BK565 0, cB BK565 1⟩ (fun hHeld => ?_)
    clear hK K
    refine nm_ ?_
    refine on_ 26 (some 31) 134217727 HT_ (fun K hK => ?_)
    refine ca_ Try.func137 #[.int .i64 a1_0] ?_
    with_reducible refine (spec_l01Ones.calls k a1_0 t569 _ A9.out).mono ?_
    rintro e w' ⟨rfl, ⟨nd, rfl⟩⟩
    refine ⟨_, rfl, ?_⟩
    refine hK.out _ _ ⟨cB BK564 0, cB BK564 1, cB BK565 0, cB BK565 1⟩ (fun hHeld => ?_)
    clear hK K
    refine nm_ ?_
    refine pu_ 27 32 268435455 HT_ ?_
    refine pu_ 28 33 536870911 HT_ ?_
    refine pu_ 29 34 1073741823 HT_ ?_
    refine pu_ 30 4 2147483647 HT_ ?_
    refine dn_ HT_ ?_
    try go_wp2
    go_ret
    exact ⟨by first | rfl | (simp [errW_none, errW_some] <;> rfl) | (simp [*, errW_none, errW_some] <;> rfl), pH HB⟩
   ·rw [if_neg c7] at H
    have c7b0 : ((Go.bits .and .i64 a1_0 a1_1) == a1_0) = false := beq_eq_false_iff_ne.mpr c7
    have c7b1 : ((Go.bits .and .i64 a1_0 a1_1) != a1_0) = true := bne_iff_ne.mpr c7
    obtain rfl := Option.some.inj H
    go_enter Try.func210, Try.ntmps210
    try go_wp2_with (first | ((with_reducible refine gate_dst (N := 2) rfl ?_); refine box_event ?hg (N := 2) ?hd (cs := #[.int .i64 a0_0, .slice A0_1 l0_1.length c0_1]) (t := 26) ?hr ?_; (case hd => rfl); (case hg => rfl); (case hr => first | (go_simp; done) | (go_simp; rfl)); intro gb564 hg w15 hbox hb; have BK564 := Aside0.mk (hbox); have GW564 := gH HB hg; have GE564 := gH HB hg; replace HB := sH HB hb; clear hb hbox hg) | ((with_reducible refine gate_dst (N := 3) rfl ?_); refine box_event ?hg (N := 3) ?hd (cs := #[.int .i64 a1_0, .int .i64 a1_1]) (t := 76) ?hr ?_; (case hd => rfl); (case hg => rfl); (case hr => first | (go_simp; done) | (go_simp; rfl)); intro gb565 hg w16 hbox hb; have BK565 := Aside0.mk (hbox); have GW565 := gH HB hg; have GE565 := gH HB hg; replace HB := sH HB hb; have NB564_565 := nB BK564 hg; have NB565_564 := oB BK564 hg; replace BK564 := sB BK564 hb; clear hb hbox hg))
    replace BK564 := dB BK564
    replace BK565 := dB BK565
    replace HB := dH HB
    refine st_ 31 (S := fun w' => w'.cell? ⟨gb564, 0, none⟩ = some (.int .i64 a0_0) ∧ w'.cell? ⟨gb564, 1, none⟩ = some (.slice A0_1 l0_1.length c0_1) ∧ w'.cell? ⟨gb565, 0, none⟩ = some (.int .i64 a1_0) ∧ w'.cell? ⟨gb565, 1, none⟩ = some (.int .i64 a1_1)) (ds := []) ⟨cB BK564 0, cB BK564 1, cB BK565 0, cB BK565 1⟩ (fun hHeld => ?_); refine with_tabW spec_l02Pair.tab1 spec_l02Pair.bits1 (fun HT_ HW_ => ?_)
    generalize w16.drew = w17 at BK564 BK565 HB hHeld ⊢
    refine pu_ 1 6 2 HT_ ?_
    refine tk_ 0 5 3 HT_ HW_ hHeld ?_
    refine tk_ 2 7 7 HT_ HW_ hHeld ?_
    refine on_ 3 (some 8) 15 HT_ (fun K hK => ?_)
    refine ca_ Try.func64 #[.agg #[.int .i64 a0_0, .slice A0_1 l0_1.length c0_1], .int .i64 a1_0] ?_
    with_reducible refine (spec_l01Has.calls k a0_0 _ _ l0_1 a1_0 true _ ?side1 ?side2 A3.out).mono ?_
    (case side1 => exact pC ((Kd.C_below HR0_1.out HB.out)))
    (case side2 => exact HC0_1.out)
    rintro e w18 ⟨rfl, hb⟩
    refine ⟨_, rfl, ?_⟩
    replace BK564 := sB BK564 hb
    replace BK565 := sB BK565 hb
    replace HB := sH HB hb
    (try clear hb)
    (try clear hb2)
    (try clear hk)
    (try clear hi)
    refine hK.out _ _ ⟨cB BK564 0, cB BK564 1, cB BK565 0, cB BK565 1⟩ (fun hHeld => ?_)
    clear hK K
    refine nm_ ?_
    refine pu_ 4 9 31 HT_ ?_
    refine pu_ 6 11 95 HT_ ?_
    refine tk_ 5 10 127 HT_ HW_ hHeld ?_
    refine tk_ 7 12 255 HT_ HW_ hHeld ?_
    refine on_ 8 (some 13) 511 HT_ (fun K hK => ?_)
    refine ca_ Try.func64 #[.agg #[.int .i64 a0_0, .slice A0_1 l0_1.length c0_1], .int .i64 a1_1] ?_
    with_reducible refine (spec_l01Has.calls k a0_0 _ _ l0_1 a1_1 true _ ?side1 ?side2 A5.out).mono ?_
    (case side1 => exact pC ((Kd.C_below HR0_1.out HB.out)))
    (case side2 => exact HC0_1.out)
    rintro e w19 ⟨rfl, hb⟩
    refine ⟨_, rfl, ?_⟩
    replace BK564 := sB BK564 hb
    replace BK565 := sB BK565 hb
    replace HB := sH HB hb
    (try clear hb)
    (try clear hb2)
    (try clear hk)
    (try clear hi)
    refine hK.out _ _ ⟨cB BK564 0, cB BK564 1, cB BK565 0, cB BK565 1⟩ (fun hHeld => ?_)
    clear hK K
    refine nm_ ?_
    refine pu_ 9 14 1023 HT_ ?_
    refine pu_ 10 15 2047 HT_ ?_
    refine pu_ 11 16 4095 HT_ ?_
    refine pu_ 13 18 12287 HT_ ?_
    refine pu_ 16 21 77823 HT_ ?_
    refine tk_ 12 17 81919 HT_ HW_ hHeld ?_
    refine tk_ 14 19 98303 HT_ HW_ hHeld ?_
    refine pu_ 15 20 131071 HT_ ?_
    refine tk_ 17 22 262143 HT_ HW_ hHeld ?_
    refine pu_ 18 23 524287 HT_ ?_
    refine pu_ 19 24 1048575 HT_ ?_
    refine pu_ 20 25 2097151 HT_ ?_
    refine pn_ 21 26 4194303 HT_ ?_
    refine pn_ 22 27 8388607 HT_ ?_
    refine pn_ 23 28 16777215 HT_ ?_
    refine pn_ 24 29 33554431 HT_ ?_
    refine pn_ 25 30 67108863 HT_ ?_
    refine pn_ 26 31 134217727 HT_ ?_
    refine pn_ 27 32 268435455 HT_ ?_
    refine pn_ 28 33 536870911 HT_ ?_
    refine pu_ 29 34 1073741823 HT_ ?_
    refine pu_ 30 4 2147483647 HT_ ?_
    refine dn_ HT_ ?_
    try go_wp2
    go_ret
    exact ⟨by first | rfl | (simp [errW_none, errW_some] <;> rfl) | (simp [*, errW_none, errW_some] <;> rfl), pH HB⟩
  ·replace c6 := Bool.eq_false_iff.mpr c6
   subst c6
   have H1 : (some false) = some r := by rw [if_neg (show ¬ (false = true) by decide)] at H; exact H
   clear H
   have H := H1
   clear H1
   obtain rfl := Option.some.inj H
   go_enter Try.func210, Try.ntmps210
   try go_wp2_with (first | ((with_reducible refine gate_dst (N := 2) rfl ?_); refine box_event ?hg (N := 2) ?hd (cs := #[.int .i64 a0_0, .slice A0_1 l0_1.length c0_1]) (t := 26) ?hr ?_; (case hd => rfl); (case hg => rfl); (case hr => first | (go_simp; done) | (go_simp; rfl)); intro gb564 hg w20 hbox hb; have BK564 := Aside0.mk (hbox); have GW564 := gH HB hg; have GE564 := gH HB hg; replace HB := sH HB hb; clear hb hbox hg) | ((with_reducible refine gate_dst (N := 3) rfl ?_); refine box_event ?hg (N := 3) ?hd (cs := #[.int .i64 a1_0, .int .i64 a1_1]) (t := 76) ?hr ?_; (case hd => rfl); (case hg => rfl); (case hr => first | (go_simp; done) | (go_simp; rfl)); intro gb565 hg w21 hbox hb; have BK565 := Aside0.mk (hbox); have GW565 := gH HB hg; have GE565 := gH HB hg; replace HB := sH HB hb; have NB564_565 := nB BK564 hg; have NB565_564 := oB BK564 hg; replace BK564 := sB BK564 hb; clear hb hbox hg))
   replace BK564 := dB BK564
   replace BK565 := dB BK565
   replace HB := dH HB
   refine st_ 31 (S := fun w' => w'.cell? ⟨gb564, 0, none⟩ = some (.int .i64 a0_0) ∧ w'.cell? ⟨gb564, 1, none⟩ = some (.slice A0_1 l0_1.length c0_1) ∧ w'.cell? ⟨gb565, 0, none⟩ = some (.int .i64 a1_0) ∧ w'.cell? ⟨gb565, 1, none⟩ = some (.int .i64 a1_1)) (ds := []) ⟨cB BK564 0, cB BK564 1, cB BK565 0, cB BK565 1⟩ (fun hHeld => ?_); refine with_tabW spec_l02Pair.tab1 spec_l02Pair.bits1 (fun HT_ HW_ => ?_)
   generalize w21.drew = w22 at BK564 BK565 HB hHeld ⊢
   refine pu_ 1 6 2 HT_ ?_
   refine tk_ 0 5 3 HT_ HW_ hHeld ?_
   refine tk_ 2 7 7 HT_ HW_ hHeld ?_
   refine on_ 3 (some 8) 15 HT_ (fun K hK => ?_)
   refine ca_ Try.func64 #[.agg #[.int .i64 a0_0, .slice A0_1 l0_1.length c0_1], .int .i64 a1_0] ?_
   with_reducible refine (spec_l01Has.calls k a0_0 _ _ l0_1 a1_0 true _ ?side1 ?side2 A3.out).mono ?_
   (case side1 => exact pC ((Kd.C_below HR0_1.out HB.out)))
   (case side2 => exact HC0_1.out)
   rintro e w23 ⟨rfl, hb⟩
   refine ⟨_, rfl, ?_⟩
   replace BK564 := sB BK564 hb
   replace BK565 := sB BK565 hb
   replace HB := sH HB hb
   (try clear hb)
   (try clear hb2)
   (try clear hk)
   (try clear hi)
   refine hK.out _ _ ⟨cB BK564 0, cB BK564 1, cB BK565 0, cB BK565 1⟩ (fun hHeld => ?_)
   clear hK K
   refine nm_ ?_
   refine pu_ 4 9 31 HT_ ?_
   refine pu_ 6 11 95 HT_ ?_
   refine tk_ 5 10 127 HT_ HW_ hHeld ?_
   refine tk_ 7 12 255 HT_ HW_ hHeld ?_
   refine on_ 8 (some 13) 511 HT_ (fun K hK => ?_)
   refine ca_ Try.func64 #[.agg #[.int .i64 a0_0, .slice A0_1 l0_1.length c0_1], .int .i64 a1_1] ?_
   with_reducible refine (spec_l01Has.calls k a0_0 _ _ l0_1 a1_1 false _ ?side1 ?side2 A5.out).mono ?_
   (case side1 => exact pC ((Kd.C_below HR0_1.out HB.out)))
   (case side2 => exact HC0_1.out)
   rintro e w24 ⟨rfl, hb⟩
   refine ⟨_, rfl, ?_⟩
   replace BK564 := sB BK564 hb
   replace BK565 := sB BK565 hb
   replace HB := sH HB hb
   (try clear hb)
   (try clear hb2)
   (try clear hk)
   (try clear hi)
   refine hK.out _ _ ⟨cB BK564 0, cB BK564 1, cB BK565 0, cB BK565 1⟩ (fun hHeld => ?_)
   clear hK K
   refine nm_ ?_
   refine pu_ 9 14 1023 HT_ ?_
   refine pu_ 10 15 2047 HT_ ?_
   refine pn_ 11 16 4095 HT_ ?_
   refine pn_ 12 17 8191 HT_ ?_
   refine pn_ 13 18 16383 HT_ ?_
   refine pn_ 14 19 32767 HT_ ?_
   refine pn_ 15 20 65535 HT_ ?_
   refine pn_ 16 21 131071 HT_ ?_
   refine pn_ 17 22 262143 HT_ ?_
   refine pn_ 18 23 524287 HT_ ?_
   refine pu_ 19 24 1048575 HT_ ?_
   refine pu_ 20 25 2097151 HT_ ?_
   refine pn_ 21 26 4194303 HT_ ?_
   refine pn_ 22 27 8388607 HT_ ?_
   refine pn_ 23 28 16777215 HT_ ?_
   refine pn_ 24 29 33554431 HT_ ?_
   refine pn_ 25 30 67108863 HT_ ?_
   refine pn_ 26 31 134217727 HT_ ?_
   refine pn_ 27 32 268435455 HT_ ?_
   refine pn_ 28 33 536870911 HT_ ?_
   refine pu_ 29 34 1073741823 HT_ ?_
   refine pu_ 30 4 2147483647 HT_ ?_
   refine dn_ HT_ ?_
   try go_wp2
   go_ret
   exact ⟨by first | rfl | (simp [errW_none, errW_some] <;> rfl) | (simp [*, errW_none, errW_some] <;> rfl), pH HB⟩
 ·replace c4 := Bool.eq_false_iff.mpr c4
  subst c4
  have H1 : (some false) = some r := by rw [if_neg (show ¬ (false = true) by decide)] at H; exact H
  clear H
  have H := H1
  clear H1
  obtain rfl := Option.some.inj H
  go_enter Try.func210, Try.ntmps210
  try go_wp2_with (first | ((with_reducible refine gate_dst (N := 2) rfl ?_); refine box_event ?hg (N := 2) ?hd (cs := #[.int .i64 a0_0, .slice A0_1 l0_1.length c0_1]) (t := 26) ?hr ?_; (case hd => rfl); (case hg => rfl); (case hr => first | (go_simp; done) | (go_simp; rfl)); intro gb564 hg w25 hbox hb; have BK564 := Aside0.mk (hbox); have GW564 := gH HB hg; have GE564 := gH HB hg; replace HB := sH HB hb; clear hb hbox hg) | ((with_reducible refine gate_dst (N := 3) rfl ?_); refine box_event ?hg (N := 3) ?hd (cs := #[.int .i64 a1_0, .int .i64 a1_1]) (t := 76) ?hr ?_; (case hd => rfl); (case hg => rfl); (case hr => first | (go_simp; done) | (go_simp; rfl)); intro gb565 hg w26 hbox hb; have BK565 := Aside0.mk (hbox); have GW565 := gH HB hg; have GE565 := gH HB hg; replace HB := sH HB hb; have NB564_565 := nB BK564 hg; have NB565_564 := oB BK564 hg; replace BK564 := sB BK564 hb; clear hb hbox hg))
  replace BK564 := dB BK564
  replace BK565 := dB BK565
  replace HB := dH HB
  refine st_ 31 (S := fun w' => w'.cell? ⟨gb564, 0, none⟩ = some (.int .i64 a0_0) ∧ w'.cell? ⟨gb564, 1, none⟩ = some (.slice A0_1 l0_1.length c0_1) ∧ w'.cell? ⟨gb565, 0, none⟩ = some (.int .i64 a1_0) ∧ w'.cell? ⟨gb565, 1, none⟩ = some (.int .i64 a1_1)) (ds := []) ⟨cB BK564 0, cB BK564 1, cB BK565 0, cB BK565 1⟩ (fun hHeld => ?_); refine with_tabW spec_l02Pair.tab1 spec_l02Pair.bits1 (fun HT_ HW_ => ?_)
  generalize w26.drew = w27 at BK564 BK565 HB hHeld ⊢
  refine pu_ 1 6 2 HT_ ?_
  refine tk_ 0 5 3 HT_ HW_ hHeld ?_
  refine tk_ 2 7 7 HT_ HW_ hHeld ?_
  refine on_ 3 (some 8) 15 HT_ (fun K hK => ?_)
  refine ca_ Try.func64 #[.agg #[.int .i64 a0_0, .slice A0_1 l0_1.length c0_1], .int .i64 a1_0] ?_
  with_reducible refine (spec_l01Has.calls k a0_0 _ _ l0_1 a1_0 false _ ?side1 ?side2 A3.out).mono ?_
  (case side1 => exact pC ((Kd.C_below HR0_1.out HB.out)))
  (case side2 => exact HC0_1.out)
  rintro e w28 ⟨rfl, hb⟩
  refine ⟨_, rfl, ?_⟩
  replace BK564 := sB BK564 hb
  replace BK565 := sB BK565 hb
  replace HB := sH HB hb
  (try clear hb)
  (try clear hb2)
  (try clear hk)
  (try clear hi)
  refine hK.out _ _ ⟨cB BK564 0, cB BK564 1, cB BK565 0, cB BK565 1⟩ (fun hHeld => ?_)
  clear hK K
  refine nm_ ?_
  refine pu_ 4 9 31 HT_ ?_
  refine pn_ 5 10 63 HT_ ?_
  refine pn_ 6 11 127 HT_ ?_
  refine pn_ 7 12 255 HT_ ?_
  refine pn_ 8 13 511 HT_ ?_
  refine pu_ 9 14 1023 HT_ ?_
  refine pu_ 10 15 2047 HT_ ?_
  refine pn_ 11 16 4095 HT_ ?_
  refine pn_ 12 17 8191 HT_ ?_
  refine pn_ 13 18 16383 HT_ ?_
  refine pn_ 14 19 32767 HT_ ?_
  refine pn_ 15 20 65535 HT_ ?_
  refine pn_ 16 21 131071 HT_ ?_
  refine pn_ 17 22 262143 HT_ ?_
  refine pn_ 18 23 524287 HT_ ?_
  refine pu_ 19 24 1048575 HT_ ?_
  refine pu_ 20 25 2097151 HT_ ?_
  refine pn_ 21 26 4194303 HT_ ?_
  refine pn_ 22 27 8388607 HT_ ?_
  refine pn_ 23 28 16777215 HT_ ?_
  refine pn_ 24 29 33554431 HT_ ?_
  refine pn_ 25 30 67108863 HT_ ?_
  refine pn_ 26 31 134217727 HT_ ?_
  refine pn_ 27 32 268435455 HT_ ?_
  refine pn_ 28 33 536870911 HT_ ?_
  refine pu_ 29 34 1073741823 HT_ ?_
  refine pu_ 30 4 2147483647 HT_ ?_
  refine dn_ HT_ ?_
  try go_wp2
  go_ret
  exact ⟨by first | rfl | (simp [errW_none, errW_some] <;> rfl) | (simp [*, errW_none, errW_some] <;> rfl), pH HB⟩
end Go.Proofs.Ytnmhnkpijjmhjaa.QS
namespace Go.Proofs.Ytnmhnkpijjmhjaa.QS
open Go.Proofs.Ytnmhnkpijjmhjaa.Cw Go.Proofs.Ytnmhnkpijjmhjaa.Kp Go.Proofs.Ytnmhnkpijjmhjaa.Ext Go.RowKit Go.Proofs.YtnmhnkpijjmhjaaW.PrintWords Go.Proofs.YtnmhnkpijjmhjaaW.PrintLast Go.Proofs.YtnmhnkpijjmhjaaW.PrintMore
attribute [local go_sem] max2_int min2_int max_two min_two max_three min_three max_four min_four   -- for this text's walks alone
set_option linter.unusedVariables false
set_option linter.unusedSimpArgs false
mutual
def spec_l02Is.l0 : Nat → List (S76) → Int → Int → List Int → Option (Bool)
 | 0, _, _, _, _ => none
 | k + 1, x1, x5, x573000, x573001 => if x5 < (x1.length : Int) then (if 0 ≤ x5 then ((spec_l02Pair.f k x573000 x573001 ((rd_T76 x1 x5).f0) ((rd_T76 x1 x5).f1)).bind fun t574 => (if t574 = true then (if x5 > 0 then (if 0 ≤ (wrap64 (x5 - 1)) then (if (wrap64 (x5 - 1)) < (x1.length : Int) then ((spec_l02Less.f ((rd_T76 x1 (wrap64 (x5 - 1))).f0) ((rd_T76 x1 (wrap64 (x5 - 1))).f1) ((rd_T76 x1 x5).f0) ((rd_T76 x1 x5).f1)).bind fun t577 => (spec_l02Is.j1 k x1 x5 (!t577) x573000 x573001)) else (none)) else (none)) else (spec_l02Is.j1 k x1 x5 false x573000 x573001)) else (spec_l02Is.j1 k x1 x5 true x573000 x573001))) else (none)) else (some true)
def spec_l02Is.j1 : Nat → List (S76) → Int → Bool → Int → List Int → Option (Bool)
 | 0, _, _, _, _, _ => none
 | k + 1, x1, x5, x36, x573000, x573001 => if x36 = true then (some false) else (spec_l02Is.l1 k x1 x5 0 x573000 x573001)
def spec_l02Is.l1 : Nat → List (S76) → Int → Int → Int → List Int → Option (Bool)
 | 0, _, _, _, _, _ => none
 | k + 1, x1, x5, x6, x573000, x573001 => if x6 < x5 then (if 0 ≤ x5 then (if x5 < (x1.length : Int) then (if 0 ≤ x6 then (if x6 < (x1.length : Int) then (if ((rd_T76 x1 x5).f0) = ((rd_T76 x1 x6).f0) then (some false) else (if ((rd_T76 x1 x5).f0) = ((rd_T76 x1 x6).f1) then (some false) else (if ((rd_T76 x1 x5).f1) = ((rd_T76 x1 x6).f0) then (some false) else (if ((rd_T76 x1 x5).f1) = ((rd_T76 x1 x6).f1) then (some false) else (spec_l02Is.l1 k x1 x5 (wrap64 (x6 + 1)) x573000 x573001))))) else (none)) else (none)) else (none)) else (none)) else (spec_l02Is.l0 k x1 (wrap64 (x5 + 1)) x573000 x573001)
end
def spec_l02Is.f (k : Nat) (a0_0 : Int) (l0_1 : List Int) (l1 : List (S76)) : Option (Bool) := spec_l02Is.l0 k l1 0 a0_0 l0_1
def spec_l02Is.T4 : Bool × List (List Nat × List Nat) := (true, [([], []), ([], []), ([], []), ([1, 2], [1, 2]), ([3], [3]), ([0, 4], [0, 4]), ([5], [5]), ([6, 5], [6]), ([7], [7]), ([8, 7], [7, 8]), ([9, 7, 7], [7, 9]), ([10], [10]), ([10], [10]), ([12, 10], [10, 12]), ([11, 13, 10], [10, 11, 13]), ([14, 10], [10, 14]), ([10], [10]), ([10], [10]), ([16, 17, 10], [10, 16, 17]), ([18, 10], [10, 18]), ([15, 19, 10, 10], [10, 15, 19]), ([20, 10], [10, 20]), ([10, 21, 7], [7, 10, 21]), ([7, 22], [7, 22])])
def spec_l02Is.B4 : List Nat := [0, 0, 0, 6, 14, 31, 63, 127, 255, 511, 1023, 2047, 2047, 6143, 16383, 32767, 2047, 2047, 198655, 460799, 1048575, 2097151, 4194303, 8388607]
theorem spec_l02Is.tab4 : rtab .any (opsOf Try.f174 4) = spec_l02Is.T4 := by kernel_rfl
theorem spec_l02Is.bits4 : waitsOk spec_l02Is.T4.2 spec_l02Is.B4 = true := by kernel_rfl
def spec_l02Is.T9 : Bool × List (List Nat × List Nat) := (true, [([], []), ([], []), ([0, 1], [0, 1]), ([2], [2]), ([3], [3]), ([], []), ([], []), ([5, 6], [5, 6]), ([7], [7]), ([8], [8]), ([4, 9], [4, 9]), ([10], [10]), ([11], [11]), ([11], [11]), ([12, 13, 11], [11, 12, 13]), ([14, 11], [11, 14]), ([15, 11], [11, 15]), ([11], [11]), ([11], [11]), ([17, 18, 11], [11, 17, 18]), ([19, 11], [11, 19]), ([20, 11], [11, 20]), ([16, 21, 11], [11, 16, 21]), ([11, 22], [11, 22]), ([23, 11], [23]), ([24], [24]), ([24], [24]), ([25, 26, 24], [24, 25, 26]), ([27, 24], [24, 27]), ([28, 24], [24, 28]), ([24], [24]), ([24], [24]), ([30, 31, 24], [24, 30, 31]), ([32, 24], [24, 32]), ([33, 24], [24, 33]), ([29, 34, 24], [24, 29, 34]), ([24, 35], [24, 35]), ([36, 24], [36]), ([37], [37]), ([37], [37]), ([38, 39, 37], [37, 38, 39]), ([40, 37], [37, 40]), ([41, 37], [37, 41]), ([37], [37]), ([37], [37]), ([43, 44, 37], [37, 43, 44]), ([45, 37], [37, 45]), ([46, 37], [37, 46]), ([42, 47, 37], [37, 42, 47]), ([37, 48], [37, 48])])
def spec_l02Is.B9 : List Nat := [0, 0, 3, 7, 15, 0, 0, 96, 224, 480, 1023, 2047, 4095, 4095, 16383, 32767, 65535, 4095, 4095, 397311, 921599, 1970175, 4194303, 8388607, 16777215, 33554431, 33554431, 134217727, 268435455, 536870911, 33554431, 33554431, 3254779903, 7549747199, 16139681791, 34359738367, 68719476735, 137438953471, 274877906943, 274877906943, 1099511627775, 2199023255551, 4398046511103, 274877906943, 274877906943, 26663156973567, 61847529062399, 132216273240063, 281474976710655, 562949953421311]
theorem spec_l02Is.tab9 : rtab .any (opsOf Try.f174 9) = spec_l02Is.T9 := by kernel_rfl
theorem spec_l02Is.bits9 : waitsOk spec_l02Is.T9.2 spec_l02Is.B9 = true := by kernel_rfl
set_option maxHeartbeats 8000000 in
set_option maxRecDepth 100000 in
theorem spec_l02Is.calls (k : Nat) (a0_0 : Int) (A0_1 : Option Addr) (c0_1 : Nat) (l0_1 : List Int) (A1 : Option Addr) (c1 : Nat) (l1 : List (S76)) (r : Bool) (w : World) (hr0_1 : Kd.C (Kd.int .i64) w A0_1 l0_1.length l0_1) (hc0_1 : l0_1.length ≤ c0_1) (hr1 : Kd.C k76 w A1 l1.length l1) (hc1 : l1.length ≤ c1) (h : spec_l02Is.f k a0_0 l0_1 l1 = some r) :
  Calls Try.prog 174 #[.agg #[.int .i64 a0_0, .slice A0_1 l0_1.length c0_1], .slice A1 l1.length c1] w fun e w' => e = .returned (.bool r) ∧ Below w.heap.size w w' := by
 have hu26 := Try.underlying26
 have hu76 := Try.underlying76
 have HR0_1 := Aside0.mk hr0_1
 have HC0_1 := Aside0.mk hc0_1
 clear hr0_1 hc0_1
 have HR1 := Aside0.mk hr1
 have HC1 := Aside0.mk hc1
 clear hr1 hc1
 have HB := Aside0.mk (Below.refl w.heap.size w)
 have H : (spec_l02Is.l0 k l1 0 a0_0 l0_1) = some r := h
 clear h
 have H' := Aside0.mk H
 clear H
 go_enter Try.func174, Try.ntmps174
 go_wp2_with (first | ((with_reducible refine gate_dst (N := 2) rfl ?_); refine box_event ?hg (N := 2) ?hd (cs := #[.int .i64 a0_0, .slice A0_1 l0_1.length c0_1]) (t := 26) ?hr ?_; (case hd => rfl); (case hg => rfl); (case hr => first | (go_simp; done) | (go_simp; rfl)); intro gb572 hg w3 hbox hb; have BK572 := Aside0.mk (hbox); have GW572 := gH HB hg; have GE572 := gH HB hg; replace HB := sH HB hb; clear hb hbox hg))
 go_loopg [5] k (fun kq v5 w' => ∃ (x5_1 : Int), v5 = .int .i64 x5_1 ∧ Aside0 (spec_l02Is.l0 kq l1 x5_1 a0_0 l0_1 = some r) ∧ Aside0 (kq ≤ k) ∧ Aside0 (w'.heap[gb572]? = some (.cells #[.int .i64 a0_0, (.slice A0_1 l0_1.length c0_1)] 26 (0, 0))) ∧ Aside0 (Below w.heap.size w w'))
 case atStart => exact ⟨(0), (by first | rfl | (simp; done) | (simp [*]; done)), H', ⟨Nat.le_refl _⟩, ⟨pB BK572⟩, ⟨pH HB⟩⟩
 case round =>
  clear H'
  try clear c1
  try clear p2
  obtain ⟨x5_1, rfl, HA, HK1, BK572, HB⟩ := hrel
  cases gk with
  | zero => exact absurd HA.out (by simp [spec_l02Is.l0])
  | succ k1 =>
   have H := HA.out
   clear HA
   simp only [spec_l02Is.l0] at H
   by_cases c4 : x5_1 < (l1.length : Int)
   ·rw [if_pos c4] at H
    have c4b0 : decide (x5_1 < (l1.length : Int)) = true := decide_eq_true c4
    clear c4
    have HC5 := Aside0.mk H
    clear H
    go_upto_region 4 with (fail)
    go_cut [36] (fun v36 wc => ∃ (kq : Nat) (x36_4 : Bool), v36 = .bool x36_4 ∧ Aside0 (spec_l02Is.j1 kq l1 x5_1 x36_4 a0_0 l0_1 = some r) ∧ Aside0 (kq ≤ k1) ∧ Aside0 (wc.heap[gb572]? = some (.cells #[.int .i64 a0_0, (.slice A0_1 l0_1.length c0_1)] 26 (0, 0))) ∧ Aside0 (Below w.heap.size w wc))
    case first =>
     have H := HC5.out
     clear HC5
     by_cases c6 : 0 ≤ x5_1
     ·rw [if_pos c6] at H
      have c6b0 : decide (0 ≤ x5_1) = true := decide_eq_true c6
      clear c6
      (first | rw [c6b0] | (simp only [i64_w, i32_w]; rw [c6b0]) | skip)
      replace H := Option.bind_eq_some_iff.mp H
      obtain ⟨t574, A70, H⟩ := H
      try dsimp only at H
      have A7 := Aside0.mk A70
      clear A70
      by_cases c8 : t574 = true
      ·subst c8
       have H1 : (if x5_1 > 0 then (if 0 ≤ (wrap64 (x5_1 - 1)) then (if (wrap64 (x5_1 - 1)) < (l1.length : Int) then ((spec_l02Less.f ((rd_T76 l1 (wrap64 (x5_1 - 1))).f0) ((rd_T76 l1 (wrap64 (x5_1 - 1))).f1) ((rd_T76 l1 x5_1).f0) ((rd_T76 l1 x5_1).f1)).bind fun t577 => (spec_l02Is.j1 k1 l1 x5_1 (!t577) a0_0 l0_1)) else (none)) else (none)) else (spec_l02Is.j1 k1 l1 x5_1 false a0_0 l0_1)) = some r := by rw [if_pos rfl] at H; exact H
       clear H
       have H := H1
       clear H1
       by_cases c9 : x5_1 > 0
       ·rw [if_pos c9] at H
        have c9b0 : decide (0 < x5_1) = true := decide_eq_true c9
        clear c9
        obtain ⟨ji10, hji10⟩ : ∃ j_ : Int, (wrap64 (x5_1 - 1)) = j_ := ⟨_, rfl⟩
        replace H : (if 0 ≤ (ji10) then (if (ji10) < (l1.length : Int) then ((spec_l02Less.f ((rd_T76 l1 (ji10)).f0) ((rd_T76 l1 (ji10)).f1) ((rd_T76 l1 x5_1).f0) ((rd_T76 l1 x5_1).f1)).bind fun t577 => (spec_l02Is.j1 k1 l1 x5_1 (!t577) a0_0 l0_1)) else (none)) else (none)) = some r := by first | (rw [hji10] at H; exact H) | (simp only [hji10] at H ⊢; exact H)
        (try rw [hji10] at A7)
        have hji10w : (IntKind.i64.wrap (x5_1 - 1)) = ji10 := (i64_w _).trans hji10
        by_cases c11 : 0 ≤ (ji10)
        ·rw [if_pos c11] at H
         have c11b0 : decide (0 ≤ (ji10)) = true := decide_eq_true c11
         clear c11
         by_cases c12 : (ji10) < (l1.length : Int)
         ·rw [if_pos c12] at H
          have c12b0 : decide ((ji10) < (l1.length : Int)) = true := decide_eq_true c12
          clear c12
          replace H := Option.bind_eq_some_iff.mp H
          obtain ⟨t577, A130, H⟩ := H
          try dsimp only at H
          have A13 := Aside0.mk A130
          clear A130
          have H' := Aside0.mk H
          clear H
          try go_wp2
          replace BK572 := dB BK572
          replace HB := dH HB
          have p573 : 0 ≤ (x5_1 : Int) := of_decide_eq_true (by first | (with_reducible assumption) | assumption)
          have q573 : x5_1 < (l1.length : Int) := of_decide_eq_true (by first | (with_reducible assumption) | assumption)
          obtain ⟨ad573, e573, hx573_0, hx573_1⟩ := at_T76 HR1.out x5_1 p573 q573
          have hw573_1 := hx573_1
          have hw573_0 := hx573_0
          cases e573
          replace hx573_0 := cH HB hx573_0
          replace hx573_1 := cH HB hx573_1
          replace p573 := eq_true p573
          replace q573 := eq_true q573
          have p575 : 0 ≤ ((ji10) : Int) := of_decide_eq_true (by first | (with_reducible assumption) | assumption)
          have q575 : (ji10) < (l1.length : Int) := of_decide_eq_true (by first | (with_reducible assumption) | assumption)
          obtain ⟨ad575, e575, hx575_0, hx575_1⟩ := at_T76 HR1.out (ji10) p575 q575
          have hw575_1 := hx575_1
          have hw575_0 := hx575_0
          obtain rfl : ad573 = ad575 := (by injection e575)
          replace hx575_0 := cH HB hx575_0
          replace hx575_1 := cH HB hx575_1
          replace p575 := eq_true p575
          replace q575 := eq_true q575
          have p576 : 0 ≤ (x5_1 : Int) := of_decide_eq_true (by first | (with_reducible assumption) | assumption)
          have q576 : x5_1 < (l1.length : Int) := of_decide_eq_true (by first | (with_reducible assumption) | assumption)
          obtain ⟨ad576, e576, hx576_0, hx576_1⟩ := at_T76 HR1.out x5_1 p576 q576
          have hw576_1 := hx576_1
          have hw576_0 := hx576_0
          obtain rfl : ad573 = ad576 := (by injection e576)
          replace hx576_0 := cH HB hx576_0
          replace hx576_1 := cH HB hx576_1
          replace p576 := eq_true p576
          replace q576 := eq_true q576
          refine st_ 24 (S := fun w' => w'.cell? ⟨gb572, 0, none⟩ = some (.int .i64 a0_0) ∧ w'.cell? ⟨gb572, 1, none⟩ = some (.slice A0_1 l0_1.length c0_1) ∧ w'.cell? (ad573.add ((x5_1).toNat * 2)) = some (.int .i64 ((rd_T76 l1 x5_1).f0)) ∧ w'.cell? ⟨(ad573.add ((x5_1).toNat * 2)).block, (ad573.add ((x5_1).toNat * 2)).off + 1, none⟩ = some (.int .i64 ((rd_T76 l1 x5_1).f1)) ∧ w'.cell? (ad573.add (((ji10)).toNat * 2)) = some (.int .i64 ((rd_T76 l1 (ji10)).f0)) ∧ w'.cell? ⟨(ad573.add (((ji10)).toNat * 2)).block, (ad573.add (((ji10)).toNat * 2)).off + 1, none⟩ = some (.int .i64 ((rd_T76 l1 (ji10)).f1)) ∧ w'.cell? (ad573.add ((x5_1).toNat * 2)) = some (.int .i64 ((rd_T76 l1 x5_1).f0)) ∧ w'.cell? ⟨(ad573.add ((x5_1).toNat * 2)).block, (ad573.add ((x5_1).toNat * 2)).off + 1, none⟩ = some (.int .i64 ((rd_T76 l1 x5_1).f1))) (ds := []) ⟨cB BK572 0, cB BK572 1, (cH HB hw573_0 :), (cH HB hw573_1 :), (cH HB hw575_0 :), (cH HB hw575_1 :), (cH HB hw576_0 :), (cH HB hw576_1 :)⟩ (fun hHeld => ?_); refine with_tabW spec_l02Is.tab4 spec_l02Is.bits4 (fun HT_ HW_ => ?_)
          generalize wr.drew = w14 at BK572 HB hx573_0 hx573_1 hx575_0 hx575_1 hx576_0 hx576_1 hHeld ⊢
          refine pu_ 1 14 2 HT_ ?_
          refine pu_ 2 15 6 HT_ ?_
          refine pu_ 3 16 14 HT_ ?_
          refine tk_ 0 13 15 HT_ HW_ hHeld ?_
          refine tk_ 4 17 31 HT_ HW_ hHeld ?_
          refine on_ 5 (some 18) 63 HT_ (fun K hK => ?_)
          refine ca_ Try.func210 #[.agg #[.int .i64 a0_0, .slice A0_1 l0_1.length c0_1], .agg #[.int .i64 ((rd_T76 l1 x5_1).f0), .int .i64 ((rd_T76 l1 x5_1).f1)]] ?_
          with_reducible refine (spec_l02Pair.calls k1 a0_0 _ _ l0_1 ((rd_T76 l1 x5_1).f0) ((rd_T76 l1 x5_1).f1) true _ ?side1 ?side2 A7.out).mono ?_
          (case side1 => exact pC ((Kd.C_below HR0_1.out HB.out)))
          (case side2 => exact HC0_1.out)
          rintro e w15 ⟨rfl, hb⟩
          refine ⟨_, rfl, ?_⟩
          replace BK572 := sB BK572 hb
          replace HB := sH HB hb
          (try clear hb)
          (try clear hb2)
          (try clear hk)
          (try clear hi)
          refine hK.out _ _ ⟨cB BK572 0, cB BK572 1, (cH HB hw573_0 :), (cH HB hw573_1 :), (cH HB hw575_0 :), (cH HB hw575_1 :), (cH HB hw576_0 :), (cH HB hw576_1 :)⟩ (fun hHeld => ?_)
          clear hK K
          refine nm_ ?_
          refine pu_ 6 19 127 HT_ ?_
          refine pu_ 7 20 255 HT_ ?_
          refine pu_ 8 21 511 HT_ ?_
          refine pu_ 9 22 1023 HT_ ?_
          refine pu_ 10 23 2047 HT_ ?_
          refine pu_ 11 24 4095 HT_ ?_
          refine pu_ 12 25 8191 HT_ ?_
          refine pu_ 13 26 16383 HT_ ?_
          refine pu_ 14 27 32767 HT_ ?_
          refine pu_ 16 29 98303 HT_ ?_
          refine pu_ 17 30 229375 HT_ ?_
          refine pu_ 18 31 491519 HT_ ?_
          refine tk_ 15 28 524287 HT_ HW_ hHeld ?_
          refine tk_ 19 32 1048575 HT_ HW_ hHeld ?_
          refine on_ 20 (some 33) 2097151 HT_ (fun K hK => ?_)
          refine ca_ Try.func211 #[.agg #[.int .i64 ((rd_T76 l1 (ji10)).f0), .int .i64 ((rd_T76 l1 (ji10)).f1)], .agg #[.int .i64 ((rd_T76 l1 x5_1).f0), .int .i64 ((rd_T76 l1 x5_1).f1)]] (hargs := by (try simp only [List.map_toArray, List.map_cons, List.map_nil]); first | done | (simp only [hji10]; rfl) | rfl | (simp only [List.length_drop, List.length_take]; rfl)) ?_
          with_reducible refine (spec_l02Less.calls ((rd_T76 l1 (ji10)).f0) ((rd_T76 l1 (ji10)).f1) ((rd_T76 l1 x5_1).f0) ((rd_T76 l1 x5_1).f1) t577 _ A13.out).mono ?_
          rintro e w16 ⟨rfl, hb⟩
          refine ⟨_, rfl, ?_⟩
          replace BK572 := sB BK572 hb
          replace HB := sH HB hb
          (try clear hb)
          (try clear hb2)
          (try clear hk)
          (try clear hi)
          refine hK.out _ _ ⟨cB BK572 0, cB BK572 1, (cH HB hw573_0 :), (cH HB hw573_1 :), (cH HB hw575_0 :), (cH HB hw575_1 :), (cH HB hw576_0 :), (cH HB hw576_1 :)⟩ (fun hHeld => ?_)
          clear hK K
          refine nm_ ?_
          refine pu_ 21 34 4194303 HT_ ?_
          refine pu_ 22 35 8388607 HT_ ?_
          refine pu_ 23 36 16777215 HT_ ?_
          refine dn_ HT_ ?_
          try go_wp2
          go_meet
          case rel => exact ⟨_, (!t577), (by first | rfl | (simp; done) | (simp [*]; done)), H', ⟨by have := HK1.out; first | omega | exact Nat.le_refl _⟩, ⟨pB BK572⟩, ⟨pH HB⟩⟩
         ·rw [if_neg c12] at H
          exact absurd H (by simp)
        ·rw [if_neg c11] at H
         exact absurd H (by simp)
       ·rw [if_neg c9] at H
        have c9b0 : decide (0 < x5_1) = false := decide_eq_false c9
        clear c9
        have H' := Aside0.mk H
        clear H
        try go_wp2
        replace BK572 := dB BK572
        replace HB := dH HB
        have p573 : 0 ≤ (x5_1 : Int) := of_decide_eq_true (by first | (with_reducible assumption) | assumption)
        have q573 : x5_1 < (l1.length : Int) := of_decide_eq_true (by first | (with_reducible assumption) | assumption)
        obtain ⟨ad573, e573, hx573_0, hx573_1⟩ := at_T76 HR1.out x5_1 p573 q573
        have hw573_1 := hx573_1
        have hw573_0 := hx573_0
        cases e573
        replace hx573_0 := cH HB hx573_0
        replace hx573_1 := cH HB hx573_1
        replace p573 := eq_true p573
        replace q573 := eq_true q573
        refine st_ 24 (S := fun w' => w'.cell? ⟨gb572, 0, none⟩ = some (.int .i64 a0_0) ∧ w'.cell? ⟨gb572, 1, none⟩ = some (.slice A0_1 l0_1.length c0_1) ∧ w'.cell? (ad573.add ((x5_1).toNat * 2)) = some (.int .i64 ((rd_T76 l1 x5_1).f0)) ∧ w'.cell? ⟨(ad573.add ((x5_1).toNat * 2)).block, (ad573.add ((x5_1).toNat * 2)).off + 1, none⟩ = some (.int .i64 ((rd_T76 l1 x5_1).f1))) (ds := []) ⟨cB BK572 0, cB BK572 1, (cH HB hw573_0 :), (cH HB hw573_1 :)⟩ (fun hHeld => ?_); refine with_tabW spec_l02Is.tab4 spec_l02Is.bits4 (fun HT_ HW_ => ?_)
        generalize wr.drew = w17 at BK572 HB hx573_0 hx573_1 hHeld ⊢
        refine pu_ 1 14 2 HT_ ?_
        refine pu_ 2 15 6 HT_ ?_
        refine pu_ 3 16 14 HT_ ?_
        refine tk_ 0 13 15 HT_ HW_ hHeld ?_
        refine tk_ 4 17 31 HT_ HW_ hHeld ?_
        refine on_ 5 (some 18) 63 HT_ (fun K hK => ?_)
        refine ca_ Try.func210 #[.agg #[.int .i64 a0_0, .slice A0_1 l0_1.length c0_1], .agg #[.int .i64 ((rd_T76 l1 x5_1).f0), .int .i64 ((rd_T76 l1 x5_1).f1)]] ?_
        with_reducible refine (spec_l02Pair.calls k1 a0_0 _ _ l0_1 ((rd_T76 l1 x5_1).f0) ((rd_T76 l1 x5_1).f1) true _ ?side1 ?side2 A7.out).mono ?_
        (case side1 => exact pC ((Kd.C_below HR0_1.out HB.out)))
        (case side2 => exact HC0_1.out)
        rintro e w18 ⟨rfl, hb⟩
        refine ⟨_, rfl, ?_⟩
        replace BK572 := sB BK572 hb
        replace HB := sH HB hb
        (try clear hb)
        (try clear hb2)
        (try clear hk)
        (try clear hi)
        refine hK.out _ _ ⟨cB BK572 0, cB BK572 1, (cH HB hw573_0 :), (cH HB hw573_1 :)⟩ (fun hHeld => ?_)
        clear hK K
        refine nm_ ?_
        refine pu_ 6 19 127 HT_ ?_
        refine pu_ 7 20 255 HT_ ?_
        refine pu_ 8 21 511 HT_ ?_
        refine pu_ 9 22 1023 HT_ ?_
        refine pu_ 10 23 2047 HT_ ?_
        refine pn_ 11 24 4095 HT_ ?_
        refine pn_ 12 25 8191 HT_ ?_
        refine pn_ 13 26 16383 HT_ ?_
        refine pn_ 14 27 32767 HT_ ?_
        refine pn_ 15 28 65535 HT_ ?_
        refine pn_ 16 29 131071 HT_ ?_
        refine pn_ 17 30 262143 HT_ ?_
        refine pn_ 18 31 524287 HT_ ?_
        refine pn_ 19 32 1048575 HT_ ?_
        refine pn_ 20 33 2097151 HT_ ?_
        refine pn_ 21 34 4194303 HT_ ?_
        refine pu_ 22 35 8388607 HT_ ?_
        refine pu_ 23 36 16777215 HT_ ?_
        refine dn_ HT_ ?_
        try go_wp2
        go_meet
        case rel => exact ⟨_, (false), (by first | rfl | (simp; done) | (simp [*]; done)), H', ⟨by have := HK1.out; first | omega | exact Nat.le_refl _⟩, ⟨pB BK572⟩, ⟨pH HB⟩⟩
      ·replace c8 := Bool.eq_false_iff.mpr c8
       subst c8
       have H1 : (spec_l02Is.j1 k1 l1 x5_1 true a0_0 l0_1) = some r := by rw [if_neg (show ¬ (false = true) by decide)] at H; exact H
       clear H
       have H := H1
       clear H1
       have H' := Aside0.mk H
       clear H
       try go_wp2
       replace BK572 := dB BK572
       replace HB := dH HB
       have p573 : 0 ≤ (x5_1 : Int) := of_decide_eq_true (by first | (with_reducible assumption) | assumption)
       have q573 : x5_1 < (l1.length : Int) := of_decide_eq_true (by first | (with_reducible assumption) | assumption)
       obtain ⟨ad573, e573, hx573_0, hx573_1⟩ := at_T76 HR1.out x5_1 p573 q573
       have hw573_1 := hx573_1
       have hw573_0 := hx573_0
       cases e573
       replace hx573_0 := cH HB hx573_0
       replace hx573_1 := cH HB hx573_1
       replace p573 := eq_true p573
       replace q573 := eq_true q573
       refine st_ 24 (S := fun w' => w'.cell? ⟨gb572, 0, none⟩ = some (.int .i64 a0_0) ∧ w'.cell? ⟨gb572, 1, none⟩ = some (.slice A0_1 l0_1.length c0_1) ∧ w'.cell? (ad573.add ((x5_1).toNat * 2)) = some (.int .i64 ((rd_T76 l1 x5_1).f0)) ∧ w'.cell? ⟨(ad573.add ((x5_1).toNat * 2)).block, (ad573.add ((x5_1).toNat * 2)).off + 1, none⟩ = some (.int .i64 ((rd_T76 l1 x5_1).f1))) (ds := []) ⟨cB BK572 0, cB BK572 1, (cH HB hw573_0 :), (cH HB hw573_1 :)⟩ (fun hHeld => ?_); refine with_tabW spec_l02Is.tab4 spec_l02Is.bits4 (fun HT_ HW_ => ?_)
       generalize wr.drew = w19 at BK572 HB hx573_0 hx573_1 hHeld ⊢
       refine pu_ 1 14 2 HT_ ?_
       refine pu_ 2 15 6 HT_ ?_
       refine pu_ 3 16 14 HT_ ?_
       refine tk_ 0 13 15 HT_ HW_ hHeld ?_
       refine tk_ 4 17 31 HT_ HW_ hHeld ?_
       refine on_ 5 (some 18) 63 HT_ (fun K hK => ?_)
       refine ca_ Try.func210 #[.agg #[.int .i64 a0_0, .slice A0_1 l0_1.length c0_1], .agg #[.int .i64 ((rd_T76 l1 x5_1).f0), .int .i64 ((rd_T76 l1 x5_1).f1)]] ?_
       with_reducible refine (spec_l02Pair.calls k1 a0_0 _ _ l0_1 ((rd_T76 l1 x5_1).f0) ((rd_T76 l1 x5_1).f1) false _ ?side1 ?side2 A7.out).mono ?_
       (case side1 => exact pC ((Kd.C_below HR0_1.out HB.out)))
       (case side2 => exact HC0_1.out)
       rintro e w20 ⟨rfl, hb⟩
       refine ⟨_, rfl, ?_⟩
       replace BK572 := sB BK572 hb
       replace HB := sH HB hb
       (try clear hb)
       (try clear hb2)
       (try clear hk)
       (try clear hi)
       refine hK.out _ _ ⟨cB BK572 0, cB BK572 1, (cH HB hw573_0 :), (cH HB hw573_1 :)⟩ (fun hHeld => ?_)
       clear hK K
       refine nm_ ?_
       refine pu_ 6 19 127 HT_ ?_
       refine pu_ 7 20 255 HT_ ?_
       refine pn_ 8 21 511 HT_ ?_
       refine pn_ 9 22 1023 HT_ ?_
       refine pn_ 10 23 2047 HT_ ?_
       refine pn_ 11 24 4095 HT_ ?_
       refine pn_ 12 25 8191 HT_ ?_
       refine pn_ 13 26 16383 HT_ ?_
       refine pn_ 14 27 32767 HT_ ?_
       refine pn_ 15 28 65535 HT_ ?_
       refine pn_ 16 29 131071 HT_ ?_
       refine pn_ 17 30 262143 HT_ ?_
       refine pn_ 18 31 524287 HT_ ?_
       refine pn_ 19 32 1048575 HT_ ?_
       refine pn_ 20 33 2097151 HT_ ?_
       refine pn_ 21 34 4194303 HT_ ?_
       refine pn_ 22 35 8388607 HT_ ?_
       refine pu_ 23 36 16777215 HT_ ?_
       refine dn_ HT_ ?_
       try go_wp2
       go_meet
       case rel => exact ⟨_, (true), (by first | rfl | (simp; done) | (simp [*]; done)), H', ⟨by have := HK1.out; first | omega | exact Nat.le_refl _⟩, ⟨pB BK572⟩, ⟨pH HB⟩⟩
     ·rw [if_neg c6] at H
      exact absurd H (by simp)
    case rest =>
     clear HC5
     try clear c1
     try clear c2
     try clear p2
     try clear p5
     try clear q5
     try clear hx5
     try clear c6
     try clear c8
     try clear c9
     try clear c9b0
     try clear c11
     try clear c12
     try clear hx573_0
     try clear hx573_1
     try clear p573
     try clear q573
     obtain ⟨kq, x36_4, rfl, HA, HJ4, BK572, HB⟩ := hcut
     cases kq with
     | zero => exact absurd HA.out (by simp [spec_l02Is.j1])
     | succ kj4 =>
      have H := HA.out
      clear HA
      simp only [spec_l02Is.j1] at H
      by_cases c21 : x36_4 = true
      ·subst c21
       have H1 : (some false) = some r := by rw [if_pos rfl] at H; exact H
       clear H
       have H := H1
       clear H1
       obtain rfl := Option.some.inj H
       go_wp2
       go_ret
       exact ⟨by first | rfl | (simp [errW_none, errW_some] <;> rfl) | (simp [*, errW_none, errW_some] <;> rfl), pH HB⟩
      ·replace c21 := Bool.eq_false_iff.mpr c21
       subst c21
       have H1 : (spec_l02Is.l1 kj4 l1 x5_1 0 a0_0 l0_1) = some r := by rw [if_neg (show ¬ (false = true) by decide)] at H; exact H
       clear H
       have H := H1
       clear H1
       have H' := Aside0.mk H
       clear H
       go_wp2
       go_loopg [6] kj4 (fun kq v6 w' => ∃ (x6_3 : Int), v6 = .int .i64 x6_3 ∧ Aside0 (spec_l02Is.l1 kq l1 x5_1 x6_3 a0_0 l0_1 = some r) ∧ Aside0 (kq ≤ kj4) ∧ Aside0 (w'.heap[gb572]? = some (.cells #[.int .i64 a0_0, (.slice A0_1 l0_1.length c0_1)] 26 (0, 0))) ∧ Aside0 (Below w.heap.size w w'))
       case atStart => exact ⟨(0), (by first | rfl | (simp; done) | (simp [*]; done)), H', ⟨Nat.le_refl _⟩, ⟨pB BK572⟩, ⟨pH HB⟩⟩
       case round =>
        clear H'
        try clear c1
        try clear c2
        try clear p2
        try clear p5
        try clear q5
        try clear hx5
        try clear c6
        try clear c8
        try clear c9
        try clear c9b0
        try clear c11
        try clear c12
        try clear c21
        try clear hx573_0
        try clear hx573_1
        try clear p2
        try clear p5
        try clear p573
        try clear q5
        try clear q573
        obtain ⟨x6_3, rfl, HA, HK3, BK572, HB⟩ := hrel
        cases gk with
        | zero => exact absurd HA.out (by simp [spec_l02Is.l1])
        | succ k3 =>
         have H := HA.out
         clear HA
         simp only [spec_l02Is.l1] at H
         by_cases c22 : x6_3 < x5_1
         ·rw [if_pos c22] at H
          have c22b0 : decide (x6_3 < x5_1) = true := decide_eq_true c22
          clear c22
          by_cases c23 : 0 ≤ x5_1
          ·rw [if_pos c23] at H
           have c23b0 : decide (0 ≤ x5_1) = true := decide_eq_true c23
           clear c23
           by_cases c24 : x5_1 < (l1.length : Int)
           ·rw [if_pos c24] at H
            have c24b0 : decide (x5_1 < (l1.length : Int)) = true := decide_eq_true c24
            clear c24
            by_cases c25 : 0 ≤ x6_3
            ·rw [if_pos c25] at H
             have c25b0 : decide (0 ≤ x6_3) = true := decide_eq_true c25
             clear c25
             by_cases c26 : x6_3 < (l1.length : Int)
             ·rw [if_pos c26] at H
              have c26b0 : decide (x6_3 < (l1.length : Int)) = true := decide_eq_true c26
              clear c26
              by_cases c27 : ((rd_T76 l1 x5_1).f0) = ((rd_T76 l1 x6_3).f0)
              ·rw [if_pos c27] at H
               have c27b0 : (((rd_T76 l1 x5_1).f0) == ((rd_T76 l1 x6_3).f0)) = true := beq_iff_eq.mpr c27
               have c27b1 : (((rd_T76 l1 x5_1).f0) != ((rd_T76 l1 x6_3).f0)) = false := bne_eq_false_iff_eq.mpr c27
               clear c27
               obtain rfl := Option.some.inj H
               try go_wp2
               replace BK572 := dB BK572
               replace HB := dH HB
               have p578 : 0 ≤ (x5_1 : Int) := of_decide_eq_true (by first | (with_reducible assumption) | assumption)
               have q578 : x5_1 < (l1.length : Int) := of_decide_eq_true (by first | (with_reducible assumption) | assumption)
               obtain ⟨ad578, e578, hx578_0, hx578_1⟩ := at_T76 HR1.out x5_1 p578 q578
               have hw578_1 := hx578_1
               have hw578_0 := hx578_0
               cases e578
               replace hx578_0 := cH HB hx578_0
               replace hx578_1 := cH HB hx578_1
               replace p578 := eq_true p578
               replace q578 := eq_true q578
               have p579 : 0 ≤ (x6_3 : Int) := of_decide_eq_true (by first | (with_reducible assumption) | assumption)
               have q579 : x6_3 < (l1.length : Int) := of_decide_eq_true (by first | (with_reducible assumption) | assumption)
               obtain ⟨ad579, e579, hx579_0, hx579_1⟩ := at_T76 HR1.out x6_3 p579 q579
               have hw579_1 := hx579_1
               have hw579_0 := hx579_0
               obtain rfl : ad578 = ad579 := (by injection e579)
               replace hx579_0 := cH HB hx579_0
               replace hx579_1 := cH HB hx579_1
               replace p579 := eq_true p579
               replace q579 := eq_true q579
               refine st_ 50 (S := fun w' => w'.cell? (ad578.add ((x5_1).toNat * 2)) = some (.int .i64 ((rd_T76 l1 x5_1).f0)) ∧ w'.cell? ⟨(ad578.add ((x5_1).toNat * 2)).block, (ad578.add ((x5_1).toNat * 2)).off + 1, none⟩ = some (.int .i64 ((rd_T76 l1 x5_1).f1)) ∧ w'.cell? (ad578.add ((x6_3).toNat * 2)) = some (.int .i64 ((rd_T76 l1 x6_3).f0)) ∧ w'.cell? ⟨(ad578.add ((x6_3).toNat * 2)).block, (ad578.add ((x6_3).toNat * 2)).off + 1, none⟩ = some (.int .i64 ((rd_T76 l1 x6_3).f1))) (ds := []) ⟨(cH HB hw578_0 :), (cH HB hw578_1 :), (cH HB hw579_0 :), (cH HB hw579_1 :)⟩ (fun hHeld => ?_); refine with_tabW spec_l02Is.tab9 spec_l02Is.bits9 (fun HT_ HW_ => ?_)
               generalize wr.drew = w28 at BK572 HB hx578_0 hx578_1 hx579_0 hx579_1 hHeld ⊢
               refine pu_ 0 42 1 HT_ ?_
               refine pu_ 1 43 3 HT_ ?_
               refine pu_ 2 44 7 HT_ ?_
               refine pu_ 3 45 15 HT_ ?_
               refine pu_ 5 47 47 HT_ ?_
               refine pu_ 6 48 111 HT_ ?_
               refine pu_ 7 49 239 HT_ ?_
               refine pu_ 8 50 495 HT_ ?_
               refine tk_ 4 46 511 HT_ HW_ hHeld ?_
               refine tk_ 9 51 1023 HT_ HW_ hHeld ?_
               refine pu_ 10 52 2047 HT_ ?_
               refine pu_ 11 53 4095 HT_ ?_
               refine pn_ 12 54 8191 HT_ ?_
               refine pn_ 13 55 16383 HT_ ?_
               refine pn_ 14 56 32767 HT_ ?_
               refine pn_ 15 57 65535 HT_ ?_
               refine pn_ 16 58 131071 HT_ ?_
               refine pn_ 17 59 262143 HT_ ?_
               refine pn_ 18 60 524287 HT_ ?_
               refine pn_ 19 61 1048575 HT_ ?_
               refine pn_ 20 62 2097151 HT_ ?_
               refine pn_ 21 63 4194303 HT_ ?_
               refine pn_ 22 64 8388607 HT_ ?_
               refine pu_ 23 65 16777215 HT_ ?_
               refine pu_ 24 66 33554431 HT_ ?_
               refine pn_ 25 67 67108863 HT_ ?_
               refine pn_ 26 68 134217727 HT_ ?_
               refine pn_ 27 69 268435455 HT_ ?_
               refine pn_ 28 70 536870911 HT_ ?_
               refine pn_ 29 71 1073741823 HT_ ?_
               refine pn_ 30 72 2147483647 HT_ ?_
               refine pn_ 31 73 4294967295 HT_ ?_
               refine pn_ 32 74 8589934591 HT_ ?_
               refine pn_ 33 75 17179869183 HT_ ?_
               refine pn_ 34 76 34359738367 HT_ ?_
               refine pn_ 35 77 68719476735 HT_ ?_
               refine pu_ 36 78 137438953471 HT_ ?_
               refine pu_ 37 79 274877906943 HT_ ?_
               refine pn_ 38 80 549755813887 HT_ ?_
               refine pn_ 39 81 1099511627775 HT_ ?_
               refine pn_ 40 82 2199023255551 HT_ ?_
               refine pn_ 41 83 4398046511103 HT_ ?_
               refine pn_ 42 84 8796093022207 HT_ ?_
               refine pn_ 43 85 17592186044415 HT_ ?_
               refine pn_ 44 86 35184372088831 HT_ ?_
               refine pn_ 45 87 70368744177663 HT_ ?_
               refine pn_ 46 88 140737488355327 HT_ ?_
               refine pn_ 47 89 281474976710655 HT_ ?_
               refine pn_ 48 90 562949953421311 HT_ ?_
               refine pu_ 49 91 1125899906842623 HT_ ?_
               refine dn_ HT_ ?_
               try go_wp2
               go_ret
               exact ⟨by first | rfl | (simp [errW_none, errW_some] <;> rfl) | (simp [*, errW_none, errW_some] <;> rfl), pH HB⟩
              ·rw [if_neg c27] at H
               have c27b0 : (((rd_T76 l1 x5_1).f0) == ((rd_T76 l1 x6_3).f0)) = false := beq_eq_false_iff_ne.mpr c27
               have c27b1 : (((rd_T76 l1 x5_1).f0) != ((rd_T76 l1 x6_3).f0)) = true := bne_iff_ne.mpr c27
               by_cases c29 : ((rd_T76 l1 x5_1).f0) = ((rd_T76 l1 x6_3).f1)
               ·rw [if_pos c29] at H
                have c29b0 : (((rd_T76 l1 x5_1).f0) == ((rd_T76 l1 x6_3).f1)) = true := beq_iff_eq.mpr c29
                have c29b1 : (((rd_T76 l1 x5_1).f0) != ((rd_T76 l1 x6_3).f1)) = false := bne_eq_false_iff_eq.mpr c29
                clear c29
                obtain rfl := Option.some.inj H
                try go_wp2
                replace BK572 := dB BK572
                replace HB := dH HB
                have p578 : 0 ≤ (x5_1 : Int) := of_decide_eq_true (by first | (with_reducible assumption) | assumption)
                have q578 : x5_1 < (l1.length : Int) := of_decide_eq_true (by first | (with_reducible assumption) | assumption)
                obtain ⟨ad578, e578, hx578_0, hx578_1⟩ := at_T76 HR1.out x5_1 p578 q578
                have hw578_1 := hx578_1
                have hw578_0 := hx578_0
                cases e578
                replace hx578_0 := cH HB hx578_0
                replace hx578_1 := cH HB hx578_1
                replace p578 := eq_true p578
                replace q578 := eq_true q578
                have p579 : 0 ≤ (x6_3 : Int) := of_decide_eq_true (by first | (with_reducible assumption) | assumption)
                have q579 : x6_3 < (l1.length : Int) := of_decide_eq_true (by first | (with_reducible assumption) | assumption)
                obtain ⟨ad579, e579, hx579_0, hx579_1⟩ := at_T76 HR1.out x6_3 p579 q579
                have hw579_1 := hx579_1
                have hw579_0 := hx579_0
                obtain rfl : ad578 = ad579 := (by injection e579)
                replace hx579_0 := cH HB hx579_0
                replace hx579_1 := cH HB hx579_1
                replace p579 := eq_true p579
                replace q579 := eq_true q579
                have p580 : 0 ≤ (x5_1 : Int) := of_decide_eq_true (by first | (with_reducible assumption) | assumption)
                have q580 : x5_1 < (l1.length : Int) := of_decide_eq_true (by first | (with_reducible assumption) | assumption)
                obtain ⟨ad580, e580, hx580_0, hx580_1⟩ := at_T76 HR1.out x5_1 p580 q580
                have hw580_1 := hx580_1
                have hw580_0 := hx580_0
                obtain rfl : ad578 = ad580 := (by injection e580)
                replace hx580_0 := cH HB hx580_0
                replace hx580_1 := cH HB hx580_1
                replace p580 := eq_true p580
                replace q580 := eq_true q580
                have p581 : 0 ≤ (x6_3 : Int) := of_decide_eq_true (by first | (with_reducible assumption) | assumption)
                have q581 : x6_3 < (l1.length : Int) := of_decide_eq_true (by first | (with_reducible assumption) | assumption)
                obtain ⟨ad581, e581, hx581_0, hx581_1⟩ := at_T76 HR1.out x6_3 p581 q581
                have hw581_1 := hx581_1
                have hw581_0 := hx581_0
                obtain rfl : ad578 = ad581 := (by injection e581)
                replace hx581_0 := cH HB hx581_0
                replace hx581_1 := cH HB hx581_1
                replace p581 := eq_true p581
                replace q581 := eq_true q581
                refine st_ 50 (S := fun w' => w'.cell? (ad578.add ((x5_1).toNat * 2)) = some (.int .i64 ((rd_T76 l1 x5_1).f0)) ∧ w'.cell? ⟨(ad578.add ((x5_1).toNat * 2)).block, (ad578.add ((x5_1).toNat * 2)).off + 1, none⟩ = some (.int .i64 ((rd_T76 l1 x5_1).f1)) ∧ w'.cell? (ad578.add ((x6_3).toNat * 2)) = some (.int .i64 ((rd_T76 l1 x6_3).f0)) ∧ w'.cell? ⟨(ad578.add ((x6_3).toNat * 2)).block, (ad578.add ((x6_3).toNat * 2)).off + 1, none⟩ = some (.int .i64 ((rd_T76 l1 x6_3).f1)) ∧ w'.cell? (ad578.add ((x5_1).toNat * 2)) = some (.int .i64 ((rd_T76 l1 x5_1).f0)) ∧ w'.cell? ⟨(ad578.add ((x5_1).toNat * 2)).block, (ad578.add ((x5_1).toNat * 2)).off + 1, none⟩ = some (.int .i64 ((rd_T76 l1 x5_1).f1)) ∧ w'.cell? (ad578.add ((x6_3).toNat * 2)) = some (.int .i64 ((rd_T76 l1 x6_3).f0)) ∧ w'.cell? ⟨(ad578.add ((x6_3).toNat * 2)).block, (ad578.add ((x6_3).toNat * 2)).off + 1, none⟩ = some (.int .i64 ((rd_T76 l1 x6_3).f1))) (ds := []) ⟨(cH HB hw578_0 :), (cH HB hw578_1 :), (cH HB hw579_0 :), (cH HB hw579_1 :), (cH HB hw580_0 :), (cH HB hw580_1 :), (cH HB hw581_0 :), (cH HB hw581_1 :)⟩ (fun hHeld => ?_); refine with_tabW spec_l02Is.tab9 spec_l02Is.bits9 (fun HT_ HW_ => ?_)
                generalize wr.drew = w30 at BK572 HB hx578_0 hx578_1 hx579_0 hx579_1 hx580_0 hx580_1 hx581_0 hx581_1 hHeld ⊢
                refine pu_ 0 42 1 HT_ ?_
                refine pu_ 1 43 3 HT_ ?_
                refine pu_ 2 44 7 HT_ ?_
                refine pu_ 3 45 15 HT_ ?_
                refine pu_ 5 47 47 HT_ ?_
                refine pu_ 6 48 111 HT_ ?_
                refine pu_ 7 49 239 HT_ ?_
                refine pu_ 8 50 495 HT_ ?_
                refine tk_ 4 46 511 HT_ HW_ hHeld ?_
                refine tk_ 9 51 1023 HT_ HW_ hHeld ?_
                refine pu_ 10 52 2047 HT_ ?_
                refine pu_ 11 53 4095 HT_ ?_
                refine pu_ 12 54 8191 HT_ ?_
                refine pu_ 13 55 16383 HT_ ?_
                refine pu_ 14 56 32767 HT_ ?_
                refine pu_ 15 57 65535 HT_ ?_
                refine pu_ 17 59 196607 HT_ ?_
                refine pu_ 18 60 458751 HT_ ?_
                refine pu_ 19 61 983039 HT_ ?_
                refine pu_ 20 62 2031615 HT_ ?_
                refine tk_ 16 58 2097151 HT_ HW_ hHeld ?_
                refine tk_ 21 63 4194303 HT_ HW_ hHeld ?_
                refine pu_ 22 64 8388607 HT_ ?_
                refine pu_ 23 65 16777215 HT_ ?_
                refine pu_ 24 66 33554431 HT_ ?_
                refine pn_ 25 67 67108863 HT_ ?_
                refine pn_ 26 68 134217727 HT_ ?_
                refine pn_ 27 69 268435455 HT_ ?_
                refine pn_ 28 70 536870911 HT_ ?_
                refine pn_ 29 71 1073741823 HT_ ?_
                refine pn_ 30 72 2147483647 HT_ ?_
                refine pn_ 31 73 4294967295 HT_ ?_
                refine pn_ 32 74 8589934591 HT_ ?_
                refine pn_ 33 75 17179869183 HT_ ?_
                refine pn_ 34 76 34359738367 HT_ ?_
                refine pn_ 35 77 68719476735 HT_ ?_
                refine pu_ 36 78 137438953471 HT_ ?_
                refine pu_ 37 79 274877906943 HT_ ?_
                refine pn_ 38 80 549755813887 HT_ ?_
                refine pn_ 39 81 1099511627775 HT_ ?_
                refine pn_ 40 82 2199023255551 HT_ ?_
                refine pn_ 41 83 4398046511103 HT_ ?_
                refine pn_ 42 84 8796093022207 HT_ ?_
                refine pn_ 43 85 17592186044415 HT_ ?_
                refine pn_ 44 86 35184372088831 HT_ ?_
                refine pn_ 45 87 70368744177663 HT_ ?_
                refine pn_ 46 88 140737488355327 HT_ ?_
                refine pn_ 47 89 281474976710655 HT_ ?_
                refine pn_ 48 90 562949953421311 HT_ ?_
                refine pu_ 49 91 1125899906842623 HT_ ?_
                refine dn_ HT_ ?_
                try go_wp2
                go_ret
                exact ⟨by first | rfl | (simp [errW_none, errW_some] <;> rfl) | (simp [*, errW_none, errW_some] <;> rfl), pH HB⟩
               ·rw [if_neg c29] at H
                have c29b0 : (((rd_T76 l1 x5_1).f0) == ((rd_T76 l1 x6_3).f1)) = false := beq_eq_false_iff_ne.mpr c29
                have c29b1 : (((rd_T76 l1 x5_1).f0) != ((rd_T76 l1 x6_3).f1)) = true := bne_iff_ne.mpr c29
                by_cases c31 : ((rd_T76 l1 x5_1).f1) = ((rd_T76 l1 x6_3).f0)
                ·rw [if_pos c31] at H
                 have c31b0 : (((rd_T76 l1 x5_1).f1) == ((rd_T76 l1 x6_3).f0)) = true := beq_iff_eq.mpr c31
                 have c31b1 : (((rd_T76 l1 x5_1).f1) != ((rd_T76 l1 x6_3).f0)) = false := bne_eq_false_iff_eq.mpr c31
                 clear c31
                 obtain rfl := Option.some.inj H
                 try go_wp2
                 replace BK572 := dB BK572
                 replace HB := dH HB
                 have p578 : 0 ≤ (x5_1 : Int) := of_decide_eq_true (by first | (with_reducible assumption) | assumption)
                 have q578 : x5_1 < (l1.length : Int) := of_decide_eq_true (by first | (with_reducible assumption) | assumption)
                 obtain ⟨ad578, e578, hx578_0, hx578_1⟩ := at_T76 HR1.out x5_1 p578 q578
                 have hw578_1 := hx578_1
                 have hw578_0 := hx578_0
                 cases e578
                 replace hx578_0 := cH HB hx578_0
                 replace hx578_1 := cH HB hx578_1
                 replace p578 := eq_true p578
                 replace q578 := eq_true q578
                 have p579 : 0 ≤ (x6_3 : Int) := of_decide_eq_true (by first | (with_reducible assumption) | assumption)
                 have q579 : x6_3 < (l1.length : Int) := of_decide_eq_true (by first | (with_reducible assumption) | assumption)
                 obtain ⟨ad579, e579, hx579_0, hx579_1⟩ := at_T76 HR1.out x6_3 p579 q579
                 have hw579_1 := hx579_1
                 have hw579_0 := hx579_0
                 obtain rfl : ad578 = ad579 := (by injection e579)
                 replace hx579_0 := cH HB hx579_0
                 replace hx579_1 := cH HB hx579_1
                 replace p579 := eq_true p579
                 replace q579 := eq_true q579
                 have p580 : 0 ≤ (x5_1 : Int) := of_decide_eq_true (by first | (with_reducible assumption) | assumption)
                 have q580 : x5_1 < (l1.length : Int) := of_decide_eq_true (by first | (with_reducible assumption) | assumption)
                 obtain ⟨ad580, e580, hx580_0, hx580_1⟩ := at_T76 HR1.out x5_1 p580 q580
                 have hw580_1 := hx580_1
                 have hw580_0 := hx580_0
                 obtain rfl : ad578 = ad580 := (by injection e580)
                 replace hx580_0 := cH HB hx580_0
                 replace hx580_1 := cH HB hx580_1
                 replace p580 := eq_true p580
                 replace q580 := eq_true q580
                 have p581 : 0 ≤ (x6_3 : Int) := of_decide_eq_true (by first | (with_reducible assumption) | assumption)
                 have q581 : x6_3 < (l1.length : Int) := of_decide_eq_true (by first | (with_reducible assumption) | assumption)
                 obtain ⟨ad581, e581, hx581_0, hx581_1⟩ := at_T76 HR1.out x6_3 p581 q581
                 have hw581_1 := hx581_1
                 have hw581_0 := hx581_0
                 obtain rfl : ad578 = ad581 := (by injection e581)
                 replace hx581_0 := cH HB hx581_0
                 replace hx581_1 := cH HB hx581_1
                 replace p581 := eq_true p581
                 replace q581 := eq_true q581
                 have p582 : 0 ≤ (x5_1 : Int) := of_decide_eq_true (by first | (with_reducible assumption) | assumption)
                 have q582 : x5_1 < (l1.length : Int) := of_decide_eq_true (by first | (with_reducible assumption) | assumption)
                 obtain ⟨ad582, e582, hx582_0, hx582_1⟩ := at_T76 HR1.out x5_1 p582 q582
                 have hw582_1 := hx582_1
                 have hw582_0 := hx582_0
                 obtain rfl : ad578 = ad582 := (by injection e582)
                 replace hx582_0 := cH HB hx582_0
                 replace hx582_1 := cH HB hx582_1
                 replace p582 := eq_true p582
                 replace q582 := eq_true q582
                 have p583 : 0 ≤ (x6_3 : Int) := of_decide_eq_true (by first | (with_reducible assumption) | assumption)
                 have q583 : x6_3 < (l1.length : Int) := of_decide_eq_true (by first | (with_reducible assumption) | assumption)
                 obtain ⟨ad583, e583, hx583_0, hx583_1⟩ := at_T76 HR1.out x6_3 p583 q583
                 have hw583_1 := hx583_1
                 have hw583_0 := hx583_0
                 obtain rfl : ad578 = ad583 := (by injection e583)
                 replace hx583_0 := cH HB hx583_0
                 replace hx583_1 := cH HB hx583_1
                 replace p583 := eq_true p583
                 replace q583 := eq_true q583
                 refine st_ 50 (S := fun w' => w'.cell? (ad578.add ((x5_1).toNat * 2)) = some (.int .i64 ((rd_T76 l1 x5_1).f0)) ∧ w'.cell? ⟨(ad578.add ((x5_1).toNat * 2)).block, (ad578.add ((x5_1).toNat * 2)).off + 1, none⟩ = some (.int .i64 ((rd_T76 l1 x5_1).f1)) ∧ w'.cell? (ad578.add ((x6_3).toNat * 2)) = some (.int .i64 ((rd_T76 l1 x6_3).f0)) ∧ w'.cell? ⟨(ad578.add ((x6_3).toNat * 2)).block, (ad578.add ((x6_3).toNat * 2)).off + 1, none⟩ = some (.int .i64 ((rd_T76 l1 x6_3).f1)) ∧ w'.cell? (ad578.add ((x5_1).toNat * 2)) = some (.int .i64 ((rd_T76 l1 x5_1).f0)) ∧ w'.cell? ⟨(ad578.add ((x5_1).toNat * 2)).block, (ad578.add ((x5_1).toNat * 2)).off + 1, none⟩ = some (.int .i64 ((rd_T76 l1 x5_1).f1)) ∧ w'.cell? (ad578.add ((x6_3).toNat * 2)) = some (.int .i64 ((rd_T76 l1 x6_3).f0)) ∧ w'.cell? ⟨(ad578.add ((x6_3).toNat * 2)).block, (ad578.add ((x6_3).toNat * 2)).off + 1, none⟩ = some (.int .i64 ((rd_T76 l1 x6_3).f1)) ∧ w'.cell? (ad578.add ((x5_1).toNat * 2)) = some (.int .i64 ((rd_T76 l1 x5_1).f0)) ∧ w'.cell? ⟨(ad578.add ((x5_1).toNat * 2)).block, (ad578.add ((x5_1).toNat * 2)).off + 1, none⟩ = some (.int .i64 ((rd_T76 l1 x5_1).f1)) ∧ w'.cell? (ad578.add ((x6_3).toNat * 2)) = some (.int .i64 ((rd_T76 l1 x6_3).f0)) ∧ w'.cell? ⟨(ad578.add ((x6_3).toNat * 2)).block, (ad578.add ((x6_3).toNat * 2)).off + 1, none⟩ = some (.int .i64 ((rd_T76 l1 x6_3).f1))) (ds := []) ⟨(cH HB hw578_0 :), (cH HB hw578_1 :), (cH HB hw579_0 :), (cH HB hw579_1 :), (cH HB hw580_0 :), (cH HB hw580_1 :), (cH HB hw581_0 :), (cH HB hw581_1 :), (cH HB hw582_0 :), (cH HB hw582_1 :), (cH HB hw583_0 :), (cH HB hw583_1 :)⟩ (fun hHeld => ?_); refine with_tabW spec_l02Is.tab9 spec_l02Is.bits9 (fun HT_ HW_ => ?_)
                 generalize wr.drew = w32 at BK572 HB hx578_0 hx578_1 hx579_0 hx579_1 hx580_0 hx580_1 hx581_0 hx581_1 hx582_0 hx582_1 hx583_0 hx583_1 hHeld ⊢
                 refine pu_ 0 42 1 HT_ ?_
                 refine pu_ 1 43 3 HT_ ?_
                 refine pu_ 2 44 7 HT_ ?_
                 refine pu_ 3 45 15 HT_ ?_
                 refine pu_ 5 47 47 HT_ ?_
                 refine pu_ 6 48 111 HT_ ?_
                 refine pu_ 7 49 239 HT_ ?_
                 refine pu_ 8 50 495 HT_ ?_
                 refine tk_ 4 46 511 HT_ HW_ hHeld ?_
                 refine tk_ 9 51 1023 HT_ HW_ hHeld ?_
                 refine pu_ 10 52 2047 HT_ ?_
                 refine pu_ 11 53 4095 HT_ ?_
                 refine pu_ 12 54 8191 HT_ ?_
                 refine pu_ 13 55 16383 HT_ ?_
                 refine pu_ 14 56 32767 HT_ ?_
                 refine pu_ 15 57 65535 HT_ ?_
                 refine pu_ 17 59 196607 HT_ ?_
                 refine pu_ 18 60 458751 HT_ ?_
                 refine pu_ 19 61 983039 HT_ ?_
                 refine pu_ 20 62 2031615 HT_ ?_
                 refine tk_ 16 58 2097151 HT_ HW_ hHeld ?_
                 refine tk_ 21 63 4194303 HT_ HW_ hHeld ?_
                 refine pu_ 22 64 8388607 HT_ ?_
                 refine pu_ 23 65 16777215 HT_ ?_
                 refine pu_ 24 66 33554431 HT_ ?_
                 refine pu_ 25 67 67108863 HT_ ?_
                 refine pu_ 26 68 134217727 HT_ ?_
                 refine pu_ 27 69 268435455 HT_ ?_
                 refine pu_ 28 70 536870911 HT_ ?_
                 refine pu_ 30 72 1610612735 HT_ ?_
                 refine pu_ 31 73 3758096383 HT_ ?_
                 refine pu_ 32 74 8053063679 HT_ ?_
                 refine pu_ 33 75 16642998271 HT_ ?_
                 refine tk_ 29 71 17179869183 HT_ HW_ hHeld ?_
                 refine tk_ 34 76 34359738367 HT_ HW_ hHeld ?_
                 refine pu_ 35 77 68719476735 HT_ ?_
                 refine pu_ 36 78 137438953471 HT_ ?_
                 refine pu_ 37 79 274877906943 HT_ ?_
                 refine pn_ 38 80 549755813887 HT_ ?_
                 refine pn_ 39 81 1099511627775 HT_ ?_
                 refine pn_ 40 82 2199023255551 HT_ ?_
                 refine pn_ 41 83 4398046511103 HT_ ?_
                 refine pn_ 42 84 8796093022207 HT_ ?_
                 refine pn_ 43 85 17592186044415 HT_ ?_
                 refine pn_ 44 86 35184372088831 HT_ ?_
                 refine pn_ 45 87 70368744177663 HT_ ?_
                 refine pn_ 46 88 140737488355327 HT_ ?_
                 refine pn_ 47 89 281474976710655 HT_ ?_
                 refine pn_ 48 90 562949953421311 HT_ ?_
                 refine pu_ 49 91 1125899906842623 HT_ ?_
                 refine dn_ HT_ ?_
                 try go_wp2
                 go_ret
                 exact ⟨by first | rfl | (simp [errW_none, errW_some] <;> rfl) | (simp [*, errW_none, errW_some] <;> rfl), pH HB⟩
                ·rw [if_neg c31] at H
                 have c31b0 : (((rd_T76 l1 x5_1).f1) == ((rd_T76 l1 x6_3).f0)) = false := beq_eq_false_iff_ne.mpr c31
                 have c31b1 : (((rd_T76 l1 x5_1).f1) != ((rd_T76 l1 x6_3).f0)) = true := bne_iff_ne.mpr c31
                 by_cases c33 : ((rd_T76 l1 x5_1).f1) = ((rd_T76 l1 x6_3).f1)
                 ·rw [if_pos c33] at H
                  have c33b0 : (((rd_T76 l1 x5_1).f1) == ((rd_T76 l1 x6_3).f1)) = true := beq_iff_eq.mpr c33
                  have c33b1 : (((rd_T76 l1 x5_1).f1) != ((rd_T76 l1 x6_3).f1)) = false := bne_eq_false_iff_eq.mpr c33
                  clear c33
                  obtain rfl := Option.some.inj H
                  try go_wp2
                  replace BK572 := dB BK572
                  replace HB := dH HB
                  have p578 : 0 ≤ (x5_1 : Int) := of_decide_eq_true (by first | (with_reducible assumption) | assumption)
                  have q578 : x5_1 < (l1.length : Int) := of_decide_eq_true (by first | (with_reducible assumption) | assumption)
                  obtain ⟨ad578, e578, hx578_0, hx578_1⟩ := at_T76 HR1.out x5_1 p578 q578
                  have hw578_1 := hx578_1
                  have hw578_0 := hx578_0
                  cases e578
                  replace hx578_0 := cH HB hx578_0
                  replace hx578_1 := cH HB hx578_1
                  replace p578 := eq_true p578
                  replace q578 := eq_true q578
                  have p579 : 0 ≤ (x6_3 : Int) := of_decide_eq_true (by first | (with_reducible assumption) | assumption)
                  have q579 : x6_3 < (l1.length : Int) := of_decide_eq_true (by first | (with_reducible assumption) | assumption)
                  obtain ⟨ad579, e579, hx579_0, hx579_1⟩ := at_T76 HR1.out x6_3 p579 q579
                  have hw579_1 := hx579_1
                  have hw579_0 := hx579_0
                  obtain rfl : ad578 = ad579 := (by injection e579)
                  replace hx579_0 := cH HB hx579_0
                  replace hx579_1 := cH HB hx579_1
                  replace p579 := eq_true p579
                  replace q579 := eq_true q579
                  have p580 : 0 ≤ (x5_1 : Int) := of_decide_eq_true (by first | (with_reducible assumption) | assumption)
                  have q580 : x5_1 < (l1.length : Int) := of_decide_eq_true (by first | (with_reducible assumption) | assumption)
                  obtain ⟨ad580, e580, hx580_0, hx580_1⟩ := at_T76 HR1.out x5_1 p580 q580
                  have hw580_1 := hx580_1
                  have hw580_0 := hx580_0
                  obtain rfl : ad578 = ad580 := (by injection e580)
                  replace hx580_0 := cH HB hx580_0
                  replace hx580_1 := cH HB hx580_1
                  replace p580 := eq_true p580
                  replace q580 := eq_true q580
                  have p581 : 0 ≤ (x6_3 : Int) := of_decide_eq_true (by first | (with_reducible assumption) | assumption)
                  have q581 : x6_3 < (l1.length : Int) := of_decide_eq_true (by first | (with_reducible assumption) | assumption)
                  obtain ⟨ad581, e581, hx581_0, hx581_1⟩ := at_T76 HR1.out x6_3 p581 q581
                  have hw581_1 := hx581_1
                  have hw581_0 := hx581_0
                  obtain rfl : ad578 = ad581 := (by injection e581)
                  replace hx581_0 := cH HB hx581_0
                  replace hx581_1 := cH HB hx581_1
                  replace p581 := eq_true p581
                  replace q581 := eq_true q581
                  have p582 : 0 ≤ (x5_1 : Int) := of_decide_eq_true (by first | (with_reducible assumption) | assumption)
                  have q582 : x5_1 < (l1.length : Int) := of_decide_eq_true (by first | (with_reducible assumption) | assumption)
                  obtain ⟨ad582, e582, hx582_0, hx582_1⟩ := at_T76 HR1.out x5_1 p582 q582
                  have hw582_1 := hx582_1
                  have hw582_0 := hx582_0
                  obtain rfl : ad578 = ad582 := (by injection e582)
                  replace hx582_0 := cH HB hx582_0
                  replace hx582_1 := cH HB hx582_1
                  replace p582 := eq_true p582
                  replace q582 := eq_true q582
                  have p583 : 0 ≤ (x6_3 : Int) := of_decide_eq_true (by first | (with_reducible assumption) | assumption)
                  have q583 : x6_3 < (l1.length : Int) := of_decide_eq_true (by first | (with_reducible assumption) | assumption)
                  obtain ⟨ad583, e583, hx583_0, hx583_1⟩ := at_T76 HR1.out x6_3 p583 q583
                  have hw583_1 := hx583_1
                  have hw583_0 := hx583_0
                  obtain rfl : ad578 = ad583 := (by injection e583)
                  replace hx583_0 := cH HB hx583_0
                  replace hx583_1 := cH HB hx583_1
                  replace p583 := eq_true p583
                  replace q583 := eq_true q583
                  have p584 : 0 ≤ (x5_1 : Int) := of_decide_eq_true (by first | (with_reducible assumption) | assumption)
                  have q584 : x5_1 < (l1.length : Int) := of_decide_eq_true (by first | (with_reducible assumption) | assumption)
                  obtain ⟨ad584, e584, hx584_0, hx584_1⟩ := at_T76 HR1.out x5_1 p584 q584
                  have hw584_1 := hx584_1
                  have hw584_0 := hx584_0
                  obtain rfl : ad578 = ad584 := (by injection e584)
                  replace hx584_0 := cH HB hx584_0
                  replace hx584_1 := cH HB hx584_1
                  replace p584 := eq_true p584
                  replace q584 := eq_true q584
                  have p585 : 0 ≤ (x6_3 : Int) := of_decide_eq_true (by first | (with_reducible assumption) | assumption)
                  have q585 : x6_3 < (l1.length : Int) := of_decide_eq_true (by first | (with_reducible assumption) | assumption)
                  obtain ⟨ad585, e585, hx585_0, hx585_1⟩ := at_T76 HR1.out x6_3 p585 q585
                  have hw585_1 := hx585_1
                  have hw585_0 := hx585_0
                  obtain rfl : ad578 = ad585 := (by injection e585)
                  replace hx585_0 := cH HB hx585_0
                  replace hx585_1 := cH HB hx585_1
                  replace p585 := eq_true p585
                  replace q585 := eq_true q585
                  refine st_ 50 (S := fun w' => w'.cell? (ad578.add ((x5_1).toNat * 2)) = some (.int .i64 ((rd_T76 l1 x5_1).f0)) ∧ w'.cell? ⟨(ad578.add ((x5_1).toNat * 2)).block, (ad578.add ((x5_1).toNat * 2)).off + 1, none⟩ = some (.int .i64 ((rd_T76 l1 x5_1).f1)) ∧ w'.cell? (ad578.add ((x6_3).toNat * 2)) = some (.int .i64 ((rd_T76 l1 x6_3).f0)) ∧ w'.cell? ⟨(ad578.add ((x6_3).toNat * 2)).block, (ad578.add ((x6_3).toNat * 2)).off + 1, none⟩ = some (.int .i64 ((rd_T76 l1 x6_3).f1)) ∧ w'.cell? (ad578.add ((x5_1).toNat * 2)) = some (.int .i64 ((rd_T76 l1 x5_1).f0)) ∧ w'.cell? ⟨(ad578.add ((x5_1).toNat * 2)).block, (ad578.add ((x5_1).toNat * 2)).off + 1, none⟩ = some (.int .i64 ((rd_T76 l1 x5_1).f1)) ∧ w'.cell? (ad578.add ((x6_3).toNat * 2)) = some (.int .i64 ((rd_T76 l1 x6_3).f0)) ∧ w'.cell? ⟨(ad578.add ((x6_3).toNat * 2)).block, (ad578.add ((x6_3).toNat * 2)).off + 1, none⟩ = some (.int .i64 ((rd_T76 l1 x6_3).f1)) ∧ w'.cell? (ad578.add ((x5_1).toNat * 2)) = some (.int .i64 ((rd_T76 l1 x5_1).f0)) ∧ w'.cell? ⟨(ad578.add ((x5_1).toNat * 2)).block, (ad578.add ((x5_1).toNat * 2)).off + 1, none⟩ = some (.int .i64 ((rd_T76 l1 x5_1).f1)) ∧ w'.cell? (ad578.add ((x6_3).toNat * 2)) = some (.int .i64 ((rd_T76 l1 x6_3).f0)) ∧ w'.cell? ⟨(ad578.add ((x6_3).toNat * 2)).block, (ad578.add ((x6_3).toNat * 2)).off + 1, none⟩ = some (.int .i64 ((rd_T76 l1 x6_3).f1)) ∧ w'.cell? (ad578.add ((x5_1).toNat * 2)) = some (.int .i64 ((rd_T76 l1 x5_1).f0)) ∧ w'.cell? ⟨(ad578.add ((x5_1).toNat * 2)).block, (ad578.add ((x5_1).toNat * 2)).off + 1, none⟩ = some (.int .i64 ((rd_T76 l1 x5_1).f1)) ∧ w'.cell? (ad578.add ((x6_3).toNat * 2)) = some (.int .i64 ((rd_T76 l1 x6_3).f0)) ∧ w'.cell? ⟨(ad578.add ((x6_3).toNat * 2)).block, (ad578.add ((x6_3).toNat * 2)).off + 1, none⟩ = some (.int .i64 ((rd_T76 l1 x6_3).f1))) (ds := []) ⟨(cH HB hw578_0 :), (cH HB hw578_1 :), (cH HB hw579_0 :), (cH HB hw579_1 :), (cH HB hw580_0 :), (cH HB hw580_1 :), (cH HB hw581_0 :), (cH HB hw581_1 :), (cH HB hw582_0 :), (cH HB hw582_1 :), (cH HB hw583_0 :), (cH HB hw583_1 :), (cH HB hw584_0 :), (cH HB hw584_1 :), (cH HB hw585_0 :), (cH HB hw585_1 :)⟩ (fun hHeld => ?_); refine with_tabW spec_l02Is.tab9 spec_l02Is.bits9 (fun HT_ HW_ => ?_)
                  generalize wr.drew = w34 at BK572 HB hx578_0 hx578_1 hx579_0 hx579_1 hx580_0 hx580_1 hx581_0 hx581_1 hx582_0 hx582_1 hx583_0 hx583_1 hx584_0 hx584_1 hx585_0 hx585_1 hHeld ⊢
                  refine pu_ 0 42 1 HT_ ?_
                  refine pu_ 1 43 3 HT_ ?_
                  refine pu_ 2 44 7 HT_ ?_
                  refine pu_ 3 45 15 HT_ ?_
                  refine pu_ 5 47 47 HT_ ?_
                  refine pu_ 6 48 111 HT_ ?_
                  refine pu_ 7 49 239 HT_ ?_
                  refine pu_ 8 50 495 HT_ ?_
                  refine tk_ 4 46 511 HT_ HW_ hHeld ?_
                  refine tk_ 9 51 1023 HT_ HW_ hHeld ?_
                  refine pu_ 10 52 2047 HT_ ?_
                  refine pu_ 11 53 4095 HT_ ?_
                  refine pu_ 12 54 8191 HT_ ?_
                  refine pu_ 13 55 16383 HT_ ?_
                  refine pu_ 14 56 32767 HT_ ?_
                  refine pu_ 15 57 65535 HT_ ?_
                  refine pu_ 17 59 196607 HT_ ?_
                  refine pu_ 18 60 458751 HT_ ?_
                  refine pu_ 19 61 983039 HT_ ?_
                  refine pu_ 20 62 2031615 HT_ ?_
                  refine tk_ 16 58 2097151 HT_ HW_ hHeld ?_
                  refine tk_ 21 63 4194303 HT_ HW_ hHeld ?_
                  refine pu_ 22 64 8388607 HT_ ?_
                  refine pu_ 23 65 16777215 HT_ ?_
                  refine pu_ 24 66 33554431 HT_ ?_
                  refine pu_ 25 67 67108863 HT_ ?_
                  refine pu_ 26 68 134217727 HT_ ?_
                  refine pu_ 27 69 268435455 HT_ ?_
                  refine pu_ 28 70 536870911 HT_ ?_
                  refine pu_ 30 72 1610612735 HT_ ?_
                  refine pu_ 31 73 3758096383 HT_ ?_
                  refine pu_ 32 74 8053063679 HT_ ?_
                  refine pu_ 33 75 16642998271 HT_ ?_
                  refine tk_ 29 71 17179869183 HT_ HW_ hHeld ?_
                  refine tk_ 34 76 34359738367 HT_ HW_ hHeld ?_
                  refine pu_ 35 77 68719476735 HT_ ?_
                  refine pu_ 36 78 137438953471 HT_ ?_
                  refine pu_ 37 79 274877906943 HT_ ?_
                  refine pu_ 38 80 549755813887 HT_ ?_
                  refine pu_ 39 81 1099511627775 HT_ ?_
                  refine pu_ 40 82 2199023255551 HT_ ?_
                  refine pu_ 41 83 4398046511103 HT_ ?_
                  refine pu_ 43 85 13194139533311 HT_ ?_
                  refine pu_ 44 86 30786325577727 HT_ ?_
                  refine pu_ 45 87 65970697666559 HT_ ?_
                  refine pu_ 46 88 136339441844223 HT_ ?_
                  refine tk_ 42 84 140737488355327 HT_ HW_ hHeld ?_
                  refine tk_ 47 89 281474976710655 HT_ HW_ hHeld ?_
                  refine pu_ 48 90 562949953421311 HT_ ?_
                  refine pu_ 49 91 1125899906842623 HT_ ?_
                  refine dn_ HT_ ?_
                  try go_wp2
                  go_ret
                  exact ⟨by first | rfl | (simp [errW_none, errW_some] <;> rfl) | (simp [*, errW_none, errW_some] <;> rfl), pH HB⟩
                 ·rw [if_neg c33] at H
                  have c33b0 : (((rd_T76 l1 x5_1).f1) == ((rd_T76 l1 x6_3).f1)) = false := beq_eq_false_iff_ne.mpr c33
                  have c33b1 : (((rd_T76 l1 x5_1).f1) != ((rd_T76 l1 x6_3).f1)) = true := bne_iff_ne.mpr c33
                  have H' := Aside0.mk H
                  clear H
                  try go_wp2
                  replace BK572 := dB BK572
                  replace HB := dH HB
                  have p578 : 0 ≤ (x5_1 : Int) := of_decide_eq_true (by first | (with_reducible assumption) | assumption)
                  have q578 : x5_1 < (l1.length : Int) := of_decide_eq_true (by first | (with_reducible assumption) | assumption)
                  obtain ⟨ad578, e578, hx578_0, hx578_1⟩ := at_T76 HR1.out x5_1 p578 q578
                  have hw578_1 := hx578_1
                  have hw578_0 := hx578_0
                  cases e578
                  replace hx578_0 := cH HB hx578_0
                  replace hx578_1 := cH HB hx578_1
                  replace p578 := eq_true p578
                  replace q578 := eq_true q578
                  have p579 : 0 ≤ (x6_3 : Int) := of_decide_eq_true (by first | (with_reducible assumption) | assumption)
                  have q579 : x6_3 < (l1.length : Int) := of_decide_eq_true (by first | (with_reducible assumption) | assumption)
                  obtain ⟨ad579, e579, hx579_0, hx579_1⟩ := at_T76 HR1.out x6_3 p579 q579
                  have hw579_1 := hx579_1
                  have hw579_0 := hx579_0
                  obtain rfl : ad578 = ad579 := (by injection e579)
                  replace hx579_0 := cH HB hx579_0
                  replace hx579_1 := cH HB hx579_1
                  replace p579 := eq_true p579
                  replace q579 := eq_true q579
                  have p580 : 0 ≤ (x5_1 : Int) := of_decide_eq_true (by first | (with_reducible assumption) | assumption)
                  have q580 : x5_1 < (l1.length : Int) := of_decide_eq_true (by first | (with_reducible assumption) | assumption)
                  obtain ⟨ad580, e580, hx580_0, hx580_1⟩ := at_T76 HR1.out x5_1 p580 q580
                  have hw580_1 := hx580_1
                  have hw580_0 := hx580_0
                  obtain rfl : ad578 = ad580 := (by injection e580)
                  replace hx580_0 := cH HB hx580_0
                  replace hx580_1 := cH HB hx580_1
                  replace p580 := eq_true p580
                  replace q580 := eq_true q580
                  have p581 : 0 ≤ (x6_3 : Int) := of_decide_eq_true (by first | (with_reducible assumption) | assumption)
                  have q581 : x6_3 < (l1.length : Int) := of_decide_eq_true (by first | (with_reducible assumption) | assumption)
                  obtain ⟨ad581, e581, hx581_0, hx581_1⟩ := at_T76 HR1.out x6_3 p581 q581
                  have hw581_1 := hx581_1
                  have hw581_0 := hx581_0
                  obtain rfl : ad578 = ad581 := (by injection e581)
                  replace hx581_0 := cH HB hx581_0
                  replace hx581_1 := cH HB hx581_1
                  replace p581 := eq_true p581
                  replace q581 := eq_true q581
                  have p582 : 0 ≤ (x5_1 : Int) := of_decide_eq_true (by first | (with_reducible assumption) | assumption)
                  have q582 : x5_1 < (l1.length : Int) := of_decide_eq_true (by first | (with_reducible assumption) | assumption)
                  obtain ⟨ad582, e582, hx582_0, hx582_1⟩ := at_T76 HR1.out x5_1 p582 q582
                  have hw582_1 := hx582_1
                  have hw582_0 := hx582_0
                  obtain rfl : ad578 = ad582 := (by injection e582)
                  replace hx582_0 := cH HB hx582_0
                  replace hx582_1 := cH HB hx582_1
                  replace p582 := eq_true p582
                  replace q582 := eq_true q582
                  have p583 : 0 ≤ (x6_3 : Int) := of_decide_eq_true (by first | (with_reducible assumption) | assumption)
                  have q583 : x6_3 < (l1.length : Int) := of_decide_eq_true (by first | (with_reducible assumption) | assumption)
                  obtain ⟨ad583, e583, hx583_0, hx583_1⟩ := at_T76 HR1.out x6_3 p583 q583
                  have hw583_1 := hx583_1
                  have hw583_0 := hx583_0
                  obtain rfl : ad578 = ad583 := (by injection e583)
                  replace hx583_0 := cH HB hx583_0
                  replace hx583_1 := cH HB hx583_1
                  replace p583 := eq_true p583
                  replace q583 := eq_true q583
                  have p584 : 0 ≤ (x5_1 : Int) := of_decide_eq_true (by first | (with_reducible assumption) | assumption)
                  have q584 : x5_1 < (l1.length : Int) := of_decide_eq_true (by first | (with_reducible assumption) | assumption)
                  obtain ⟨ad584, e584, hx584_0, hx584_1⟩ := at_T76 HR1.out x5_1 p584 q584
                  have hw584_1 := hx584_1
                  have hw584_0 := hx584_0
                  obtain rfl : ad578 = ad584 := (by injection e584)
                  replace hx584_0 := cH HB hx584_0
                  replace hx584_1 := cH HB hx584_1
                  replace p584 := eq_true p584
                  replace q584 := eq_true q584
                  have p585 : 0 ≤ (x6_3 : Int) := of_decide_eq_true (by first | (with_reducible assumption) | assumption)
                  have q585 : x6_3 < (l1.length : Int) := of_decide_eq_true (by first | (with_reducible assumption) | assumption)
                  obtain ⟨ad585, e585, hx585_0, hx585_1⟩ := at_T76 HR1.out x6_3 p585 q585
                  have hw585_1 := hx585_1
                  have hw585_0 := hx585_0
                  obtain rfl : ad578 = ad585 := (by injection e585)
                  replace hx585_0 := cH HB hx585_0
                  replace hx585_1 := cH HB hx585_1
                  replace p585 := eq_true p585
                  replace q585 := eq_true q585
                  refine st_ 50 (S := fun w' => w'.cell? (ad578.add ((x5_1).toNat * 2)) = some (.int .i64 ((rd_T76 l1 x5_1).f0)) ∧ w'.cell? ⟨(ad578.add ((x5_1).toNat * 2)).block, (ad578.add ((x5_1).toNat * 2)).off + 1, none⟩ = some (.int .i64 ((rd_T76 l1 x5_1).f1)) ∧ w'.cell? (ad578.add ((x6_3).toNat * 2)) = some (.int .i64 ((rd_T76 l1 x6_3).f0)) ∧ w'.cell? ⟨(ad578.add ((x6_3).toNat * 2)).block, (ad578.add ((x6_3).toNat * 2)).off + 1, none⟩ = some (.int .i64 ((rd_T76 l1 x6_3).f1)) ∧ w'.cell? (ad578.add ((x5_1).toNat * 2)) = some (.int .i64 ((rd_T76 l1 x5_1).f0)) ∧ w'.cell? ⟨(ad578.add ((x5_1).toNat * 2)).block, (ad578.add ((x5_1).toNat * 2)).off + 1, none⟩ = some (.int .i64 ((rd_T76 l1 x5_1).f1)) ∧ w'.cell? (ad578.add ((x6_3).toNat * 2)) = some (.int .i64 ((rd_T76 l1 x6_3).f0)) ∧ w'.cell? ⟨(ad578.add ((x6_3).toNat * 2)).block, (ad578.add ((x6_3).toNat * 2)).off + 1, none⟩ = some (.int .i64 ((rd_T76 l1 x6_3).f1)) ∧ w'.cell? (ad578.add ((x5_1).toNat * 2)) = some (.int .i64 ((rd_T76 l1 x5_1).f0)) ∧ w'.cell? ⟨(ad578.add ((x5_1).toNat * 2)).block, (ad578.add ((x5_1).toNat * 2)).off + 1, none⟩ = some (.int .i64 ((rd_T76 l1 x5_1).f1)) ∧ w'.cell? (ad578.add ((x6_3).toNat * 2)) = some (.int .i64 ((rd_T76 l1 x6_3).f0)) ∧ w'.cell? ⟨(ad578.add ((x6_3).toNat * 2)).block, (ad578.add ((x6_3).toNat * 2)).off + 1, none⟩ = some (.int .i64 ((rd_T76 l1 x6_3).f1)) ∧ w'.cell? (ad578.add ((x5_1).toNat * 2)) = some (.int .i64 ((rd_T76 l1 x5_1).f0)) ∧ w'.cell? ⟨(ad578.add ((x5_1).toNat * 2)).block, (ad578.add ((x5_1).toNat * 2)).off + 1, none⟩ = some (.int .i64 ((rd_T76 l1 x5_1).f1)) ∧ w'.cell? (ad578.add ((x6_3).toNat * 2)) = some (.int .i64 ((rd_T76 l1 x6_3).f0)) ∧ w'.cell? ⟨(ad578.add ((x6_3).toNat * 2)).block, (ad578.add ((x6_3).toNat * 2)).off + 1, none⟩ = some (.int .i64 ((rd_T76 l1 x6_3).f1))) (ds := []) ⟨(cH HB hw578_0 :), (cH HB hw578_1 :), (cH HB hw579_0 :), (cH HB hw579_1 :), (cH HB hw580_0 :), (cH HB hw580_1 :), (cH HB hw581_0 :), (cH HB hw581_1 :), (cH HB hw582_0 :), (cH HB hw582_1 :), (cH HB hw583_0 :), (cH HB hw583_1 :), (cH HB hw584_0 :), (cH HB hw584_1 :), (cH HB hw585_0 :), (cH HB hw585_1 :)⟩ (fun hHeld => ?_); refine with_tabW spec_l02Is.tab9 spec_l02Is.bits9 (fun HT_ HW_ => ?_)
                  generalize wr.drew = w35 at BK572 HB hx578_0 hx578_1 hx579_0 hx579_1 hx580_0 hx580_1 hx581_0 hx581_1 hx582_0 hx582_1 hx583_0 hx583_1 hx584_0 hx584_1 hx585_0 hx585_1 hHeld ⊢
                  refine pu_ 0 42 1 HT_ ?_
                  refine pu_ 1 43 3 HT_ ?_
                  refine pu_ 2 44 7 HT_ ?_
                  refine pu_ 3 45 15 HT_ ?_
                  refine pu_ 5 47 47 HT_ ?_
                  refine pu_ 6 48 111 HT_ ?_
                  refine pu_ 7 49 239 HT_ ?_
                  refine pu_ 8 50 495 HT_ ?_
                  refine tk_ 4 46 511 HT_ HW_ hHeld ?_
                  refine tk_ 9 51 1023 HT_ HW_ hHeld ?_
                  refine pu_ 10 52 2047 HT_ ?_
                  refine pu_ 11 53 4095 HT_ ?_
                  refine pu_ 12 54 8191 HT_ ?_
                  refine pu_ 13 55 16383 HT_ ?_
                  refine pu_ 14 56 32767 HT_ ?_
                  refine pu_ 15 57 65535 HT_ ?_
                  refine pu_ 17 59 196607 HT_ ?_
                  refine pu_ 18 60 458751 HT_ ?_
                  refine pu_ 19 61 983039 HT_ ?_
                  refine pu_ 20 62 2031615 HT_ ?_
                  refine tk_ 16 58 2097151 HT_ HW_ hHeld ?_
                  refine tk_ 21 63 4194303 HT_ HW_ hHeld ?_
                  refine pu_ 22 64 8388607 HT_ ?_
                  refine pu_ 23 65 16777215 HT_ ?_
                  refine pu_ 24 66 33554431 HT_ ?_
                  refine pu_ 25 67 67108863 HT_ ?_
                  refine pu_ 26 68 134217727 HT_ ?_
                  refine pu_ 27 69 268435455 HT_ ?_
                  refine pu_ 28 70 536870911 HT_ ?_
                  refine pu_ 30 72 1610612735 HT_ ?_
                  refine pu_ 31 73 3758096383 HT_ ?_
                  refine pu_ 32 74 8053063679 HT_ ?_
                  refine pu_ 33 75 16642998271 HT_ ?_
                  refine tk_ 29 71 17179869183 HT_ HW_ hHeld ?_
                  refine tk_ 34 76 34359738367 HT_ HW_ hHeld ?_
                  refine pu_ 35 77 68719476735 HT_ ?_
                  refine pu_ 36 78 137438953471 HT_ ?_
                  refine pu_ 37 79 274877906943 HT_ ?_
                  refine pu_ 38 80 549755813887 HT_ ?_
                  refine pu_ 39 81 1099511627775 HT_ ?_
                  refine pu_ 40 82 2199023255551 HT_ ?_
                  refine pu_ 41 83 4398046511103 HT_ ?_
                  refine pu_ 43 85 13194139533311 HT_ ?_
                  refine pu_ 44 86 30786325577727 HT_ ?_
                  refine pu_ 45 87 65970697666559 HT_ ?_
                  refine pu_ 46 88 136339441844223 HT_ ?_
                  refine tk_ 42 84 140737488355327 HT_ HW_ hHeld ?_
                  refine tk_ 47 89 281474976710655 HT_ HW_ hHeld ?_
                  refine pu_ 48 90 562949953421311 HT_ ?_
                  refine pu_ 49 91 1125899906842623 HT_ ?_
                  refine dn_ HT_ ?_
                  try go_wp2
                  go_roundg k3
                  case measure => have := HK1.out; have := HJ4.out; have := HK3.out; omega
                  case rel => exact ⟨(wrap64 (x6_3 + 1)), (by first | rfl | (simp; done) | (simp [*]; done)), H', ⟨by have := HK1.out; have := HJ4.out; have := HK3.out; omega⟩, ⟨pB BK572⟩, ⟨pH HB⟩⟩
             ·rw [if_neg c26] at H
              exact absurd H (by simp)
            ·rw [if_neg c25] at H
             exact absurd H (by simp)
           ·rw [if_neg c24] at H
            exact absurd H (by simp)
          ·rw [if_neg c23] at H
           exact absurd H (by simp)
         ·rw [if_neg c22] at H
          have c22b0 : decide (x6_3 < x5_1) = false := decide_eq_false c22
          clear c22
          have H' := Aside0.mk H
          clear H
          go_wp2
          go_roundg k3
          case measure => have := HK1.out; have := HJ4.out; have := HK3.out; omega
          case rel => exact ⟨(wrap64 (x5_1 + 1)), (by first | rfl | (simp; done) | (simp [*]; done)), H', ⟨by have := HK1.out; have := HJ4.out; have := HK3.out; omega⟩, ⟨pB BK572⟩, ⟨pH HB⟩⟩
   ·rw [if_neg c4] at H
    have c4b0 : decide (x5_1 < (l1.length : Int)) = false := decide_eq_false c4
    clear c4
    obtain rfl := Option.some.inj H
    go_wp2
    go_ret
    exact ⟨by first | rfl | (simp [errW_none, errW_some] <;> rfl) | (simp [*, errW_none, errW_some] <;> rfl), pH HB⟩
end Go.Proofs.Ytnmhnkpijjmhjaa.QS
namespace Go.Proofs.Ytnmhnkpijjmhjaa.QS
open Go.Proofs.Ytnmhnkpijjmhjaa.Cw Go.Proofs.Ytnmhnkpijjmhjaa.Kp Go.Proofs.Ytnmhnkpijjmhjaa.Ext Go.RowKit Go.Proofs.YtnmhnkpijjmhjaaW.PrintWords Go.Proofs.YtnmhnkpijjmhjaaW.PrintLast Go.Proofs.YtnmhnkpijjmhjaaW.PrintMore
attribute [local go_sem] max2_int min2_int max_two min_two max_three min_three max_four min_four   -- for this text's walks alone
set_option linter.unusedVariables false
set_option linter.unusedSimpArgs false
def spec_l02Code.l0 : Nat → List Int → Int → Int → List Int → Option (Int)
 | 0, _, _, _, _ => none
 | k + 1, x2, x7, x587000, x587001 => if x7 < (x2.length : Int) then (if 0 ≤ x7 then ((spec_l01Has.f k x587000 x587001 (rd x2 x7)).bind fun t590 => (if t590 = true then (spec_l02Code.l0 k x2 (wrap64 (x7 + 1)) x587000 x587001) else (some 2))) else (none)) else (some 0)
def spec_l02Code.f (k : Nat) (a0_0 : Int) (l0_1 : List Int) (l1 : List (S76)) (l2 : List Int) : Option (Int) := (spec_l01Is.f k a0_0 l0_1).bind fun t587 => (if t587 = true then ((spec_l02Is.f k a0_0 l0_1 l1).bind fun t588 => (if t588 = true then (spec_l02Code.l0 k l2 0 a0_0 l0_1) else (some 2))) else (some 1))
set_option maxHeartbeats 8000000 in
set_option maxRecDepth 100000 in
theorem spec_l02Code.calls (k : Nat) (a0_0 : Int) (A0_1 : Option Addr) (c0_1 : Nat) (l0_1 : List Int) (A1 : Option Addr) (c1 : Nat) (l1 : List (S76)) (A2 : Option Addr) (c2 : Nat) (l2 : List Int) (r : Int) (w : World) (hr0_1 : Kd.C (Kd.int .i64) w A0_1 l0_1.length l0_1) (hc0_1 : l0_1.length ≤ c0_1) (hr1 : Kd.C k76 w A1 l1.length l1) (hc1 : l1.length ≤ c1) (hr2 : Kd.C (Kd.int .i64) w A2 l2.length l2) (hc2 : l2.length ≤ c2) (h : spec_l02Code.f k a0_0 l0_1 l1 l2 = some r) :
  Calls Try.prog 118 #[.agg #[.int .i64 a0_0, .slice A0_1 l0_1.length c0_1], .slice A1 l1.length c1, .slice A2 l2.length c2] w fun e w' => e = .returned (.int .i64 r) ∧ Below w.heap.size w w' := by
 have hu26 := Try.underlying26
 have HR0_1 := Aside0.mk hr0_1
 have HC0_1 := Aside0.mk hc0_1
 clear hr0_1 hc0_1
 have HR1 := Aside0.mk hr1
 have HC1 := Aside0.mk hc1
 clear hr1 hc1
 have HR2 := Aside0.mk hr2
 have HC2 := Aside0.mk hc2
 clear hr2 hc2
 have HB := Aside0.mk (Below.refl w.heap.size w)
 have H : ((spec_l01Is.f k a0_0 l0_1).bind fun t587 => (if t587 = true then ((spec_l02Is.f k a0_0 l0_1 l1).bind fun t588 => (if t588 = true then (spec_l02Code.l0 k l2 0 a0_0 l0_1) else (some 2))) else (some 1))) = some r := h
 clear h
 replace H := Option.bind_eq_some_iff.mp H
 obtain ⟨t587, A40, H⟩ := H
 try dsimp only at H
 have A4 := Aside0.mk A40
 clear A40
 by_cases c5 : t587 = true
 ·subst c5
  have H1 : ((spec_l02Is.f k a0_0 l0_1 l1).bind fun t588 => (if t588 = true then (spec_l02Code.l0 k l2 0 a0_0 l0_1) else (some 2))) = some r := by rw [if_pos rfl] at H; exact H
  clear H
  have H := H1
  clear H1
  replace H := Option.bind_eq_some_iff.mp H
  obtain ⟨t588, A60, H⟩ := H
  try dsimp only at H
  have A6 := Aside0.mk A60
  clear A60
  by_cases c7 : t588 = true
  ·subst c7
   have H1 : (spec_l02Code.l0 k l2 0 a0_0 l0_1) = some r := by rw [if_pos rfl] at H; exact H
   clear H
   have H := H1
   clear H1
   have H' := Aside0.mk H
   clear H
   go_enter Try.func118, Try.ntmps118
   go_wp2_with (first | ((with_reducible refine gate_dst (N := 3) rfl ?_); refine box_event ?hg (N := 3) ?hd (cs := #[.int .i64 a0_0, .slice A0_1 l0_1.length c0_1]) (t := 26) ?hr ?_; (case hd => rfl); (case hg => rfl); (case hr => first | (go_simp; done) | (go_simp; rfl)); intro gb586 hg w8 hbox hb; have BK586 := Aside0.mk (hbox); have GW586 := gH HB hg; have GE586 := gH HB hg; replace HB := sH HB hb; clear hb hbox hg; have hcz9_0 : w8.cell? ⟨gb586, 0, none⟩ = some (.int .i64 a0_0) := cB BK586 0; have hcz9_1 : w8.cell? ⟨gb586, 1, none⟩ = some (.slice A0_1 l0_1.length c0_1) := cB BK586 1; have hfz9_0 := zB BK586 0; have hfz9_1 := zB BK586 1) | ((with_reducible refine gate_callee (f := 57) rfl ?_); refine cl_ (some 9) Try.func57 #[.agg #[.int .i64 a0_0, .slice A0_1 l0_1.length c0_1]] ?_; (with_reducible refine (spec_l01Is.calls k a0_0 _ _ l0_1 true _ ?side1 ?side2 A4.out).mono ?_); (case side1 => exact pC ((Kd.C_below HR0_1.out HB.out))); (case side2 => exact HC0_1.out); rintro e w10 ⟨rfl, hb⟩; refine ⟨_, rfl, ?_⟩; replace BK586 := sB BK586 hb; replace HB := sH HB hb; (try clear hb); (try clear hi); have hcz11_0 : w10.cell? ⟨gb586, 0, none⟩ = some (.int .i64 a0_0) := cB BK586 0; have hcz11_1 : w10.cell? ⟨gb586, 1, none⟩ = some (.slice A0_1 l0_1.length c0_1) := cB BK586 1; have hfz11_0 := zB BK586 0; have hfz11_1 := zB BK586 1) | ((with_reducible refine gate_callee (f := 174) rfl ?_); refine cl_ (some 13) Try.func174 #[.agg #[.int .i64 a0_0, .slice A0_1 l0_1.length c0_1], .slice A1 l1.length c1] ?_; (with_reducible refine (spec_l02Is.calls k a0_0 _ _ l0_1 _ _ l1 true _ ?side1 ?side2 ?side3 ?side4 A6.out).mono ?_); (case side1 => exact pC ((Kd.C_below HR0_1.out HB.out))); (case side2 => exact HC0_1.out); (case side3 => exact pC ((Kd.C_below HR1.out HB.out))); (case side4 => exact HC1.out); rintro e w12 ⟨rfl, hb⟩; refine ⟨_, rfl, ?_⟩; replace BK586 := sB BK586 hb; replace HB := sH HB hb; (try clear hb); (try clear hi)))
   go_loopg [7] k (fun kq v7 w' => ∃ (x7_1 : Int), v7 = .int .i64 x7_1 ∧ Aside0 (spec_l02Code.l0 kq l2 x7_1 a0_0 l0_1 = some r) ∧ Aside0 (kq ≤ k) ∧ Aside0 (w'.heap[gb586]? = some (.cells #[.int .i64 a0_0, (.slice A0_1 l0_1.length c0_1)] 26 (0, 0))) ∧ Aside0 (Below w.heap.size w w'))
   case atStart => exact ⟨(0), (by first | rfl | (simp; done) | (simp [*]; done)), H', ⟨Nat.le_refl _⟩, ⟨pB BK586⟩, ⟨pH HB⟩⟩
   case round =>
    clear H'
    try clear c1
    try clear c2
    try clear p2
    try clear c5
    try clear c7
    try clear c11
    try clear hcz11_0
    try clear hcz11_1
    try clear hcz9_0
    try clear hcz9_1
    try clear hfz11_0
    try clear hfz11_1
    try clear hfz9_0
    try clear hfz9_1
    obtain ⟨x7_1, rfl, HA, HK1, BK586, HB⟩ := hrel
    cases gk with
    | zero => exact absurd HA.out (by simp [spec_l02Code.l0])
    | succ k1 =>
     have H := HA.out
     clear HA
     simp only [spec_l02Code.l0] at H
     by_cases c13 : x7_1 < (l2.length : Int)
     ·rw [if_pos c13] at H
      have c13b0 : decide (x7_1 < (l2.length : Int)) = true := decide_eq_true c13
      clear c13
      by_cases c14 : 0 ≤ x7_1
      ·rw [if_pos c14] at H
       have c14b0 : decide (0 ≤ x7_1) = true := decide_eq_true c14
       clear c14
       replace H := Option.bind_eq_some_iff.mp H
       obtain ⟨t590, A150, H⟩ := H
       try dsimp only at H
       have A15 := Aside0.mk A150
       clear A150
       by_cases c16 : t590 = true
       ·subst c16
        have H1 : (spec_l02Code.l0 k1 l2 (wrap64 (x7_1 + 1)) a0_0 l0_1) = some r := by rw [if_pos rfl] at H; exact H
        clear H
        have H := H1
        clear H1
        have H' := Aside0.mk H
        clear H
        try go_wp2
        replace BK586 := dB BK586
        replace HB := dH HB
        have p589 : 0 ≤ (x7_1 : Int) := of_decide_eq_true (by first | (with_reducible assumption) | assumption)
        have q589 : x7_1 < (l2.length : Int) := of_decide_eq_true (by first | (with_reducible assumption) | assumption)
        obtain ⟨ad589, e589, hx589_0⟩ := Kd.at_int HR2.out x7_1 p589 q589
        have hw589_0 := hx589_0
        cases e589
        replace hx589_0 := cH HB hx589_0
        replace p589 := eq_true p589
        replace q589 := eq_true q589
        refine st_ 7 (S := fun w' => w'.cell? ⟨gb586, 0, none⟩ = some (.int .i64 a0_0) ∧ w'.cell? ⟨gb586, 1, none⟩ = some (.slice A0_1 l0_1.length c0_1) ∧ w'.cell? (ad589.add (x7_1).toNat) = some (.int .i64 (rd l2 x7_1))) (ds := []) ⟨cB BK586 0, cB BK586 1, (cH HB hw589_0 :)⟩ (fun hHeld => ?_)
        generalize wr.drew = w17 at BK586 HB hx589_0 hHeld ⊢
        refine pure_ (i := 1) (N := some 22) (v := ?_) (a' := ?_) (mB 7 2) rfl rfl (by kernel_rfl) (fun _ _ _ h => h) (Or.inl ⟨by rfl, ?_⟩) ?_ ?_
        rotate_left
        ·intro w'
         go_simp
         with_reducible rfl
        rotate_left
        ·simp only [Act.put, List.setIfInBounds_toArray, List.set_cons_zero, List.set_cons_succ, i64_w, i32_w]
         rfl
        refine pure_ (i := 2) (N := some 23) (v := ?_) (a' := ?_) (mB 7 6) rfl rfl (by kernel_rfl) (fun _ _ _ h => h) (Or.inl ⟨by rfl, ?_⟩) ?_ ?_
        rotate_left
        ·intro w'
         go_simp
         with_reducible rfl
        rotate_left
        ·simp only [Act.put, List.setIfInBounds_toArray, List.set_cons_zero, List.set_cons_succ, i64_w, i32_w]
         rfl
        refine pure_ (i := 3) (N := some 24) (v := ?_) (a' := ?_) (mB 7 14) rfl rfl (by kernel_rfl) (fun _ _ _ h => h) (Or.inl ⟨by rfl, ?_⟩) ?_ ?_
        rotate_left
        ·intro w'
         go_simp
         with_reducible rfl
        rotate_left
        ·simp only [Act.put, List.setIfInBounds_toArray, List.set_cons_zero, List.set_cons_succ, i64_w, i32_w]
         rfl
        refine take_ (i := 0) (N := some 21) (v := ?_) (a' := ?_) (mB 7 15) rfl rfl (by kernel_rfl) (fun _ _ _ h => h) (Or.inl ⟨by rfl, ?_⟩) hHeld ?_ ?_
        rotate_left
        ·rintro w' ⟨s0, s1, s2⟩
         go_simp
         with_reducible rfl
        rotate_left
        ·simp only [Act.put, List.setIfInBounds_toArray, List.set_cons_zero, List.set_cons_succ, i64_w, i32_w]
         rfl
        refine take_ (i := 4) (N := some 25) (v := ?_) (a' := ?_) (mB 7 31) rfl rfl (by kernel_rfl) (fun _ _ _ h => h) (Or.inl ⟨by rfl, ?_⟩) hHeld ?_ ?_
        rotate_left
        ·rintro w' ⟨s0, s1, s2⟩
         go_simp
         with_reducible rfl
        rotate_left
        ·simp only [Act.put, List.setIfInBounds_toArray, List.set_cons_zero, List.set_cons_succ, i64_w, i32_w]
         rfl
        refine one_ (i := 5) (N := some 26) (mB 7 63) rfl rfl (by kernel_rfl) (by decide) (fun K hK => ?_)
        refine ca_ Try.func64 #[.agg #[.int .i64 a0_0, .slice A0_1 l0_1.length c0_1], .int .i64 (rd l2 x7_1)] ?_
        with_reducible refine (spec_l01Has.calls k1 a0_0 _ _ l0_1 (rd l2 x7_1) true _ ?side1 ?side2 A15.out).mono ?_
        (case side1 => exact pC ((Kd.C_below HR0_1.out HB.out)))
        (case side2 => exact HC0_1.out)
        rintro e w18 ⟨rfl, hb⟩
        refine ⟨_, rfl, ?_⟩
        replace BK586 := sB BK586 hb
        replace HB := sH HB hb
        (try clear hb)
        (try clear hb2)
        (try clear hk)
        (try clear hi)
        refine hK.out _ _ ⟨cB BK586 0, cB BK586 1, (cH HB hw589_0 :)⟩ (fun hHeld => ?_)
        clear hK K
        refine nm_ ?_
        refine pure_ (i := 6) (N := some 27) (v := ?_) (a' := ?_) (mB 7 127) rfl rfl (by kernel_rfl) (fun _ _ _ h => h) (Or.inl ⟨by rfl, ?_⟩) ?_ ?_
        rotate_left
        ·intro w'
         go_simp
         with_reducible rfl
        rotate_left
        ·simp only [Act.put, List.setIfInBounds_toArray, List.set_cons_zero, List.set_cons_succ, i64_w, i32_w]
         rfl
        refine done_ (by kernel_rfl) ?_
        try go_wp2
        go_roundg k1
        case measure => have := HK1.out; omega
        case rel => exact ⟨(wrap64 (x7_1 + 1)), (by first | rfl | (simp; done) | (simp [*]; done)), H', ⟨by have := HK1.out; omega⟩, ⟨pB BK586⟩, ⟨pH HB⟩⟩
       ·replace c16 := Bool.eq_false_iff.mpr c16
        subst c16
        have H1 : (some 2) = some r := by rw [if_neg (show ¬ (false = true) by decide)] at H; exact H
        clear H
        have H := H1
        clear H1
        obtain rfl := Option.some.inj H
        try go_wp2
        replace BK586 := dB BK586
        replace HB := dH HB
        have p589 : 0 ≤ (x7_1 : Int) := of_decide_eq_true (by first | (with_reducible assumption) | assumption)
        have q589 : x7_1 < (l2.length : Int) := of_decide_eq_true (by first | (with_reducible assumption) | assumption)
        obtain ⟨ad589, e589, hx589_0⟩ := Kd.at_int HR2.out x7_1 p589 q589
        have hw589_0 := hx589_0
        cases e589
        replace hx589_0 := cH HB hx589_0
        replace p589 := eq_true p589
        replace q589 := eq_true q589
        refine st_ 7 (S := fun w' => w'.cell? ⟨gb586, 0, none⟩ = some (.int .i64 a0_0) ∧ w'.cell? ⟨gb586, 1, none⟩ = some (.slice A0_1 l0_1.length c0_1) ∧ w'.cell? (ad589.add (x7_1).toNat) = some (.int .i64 (rd l2 x7_1))) (ds := []) ⟨cB BK586 0, cB BK586 1, (cH HB hw589_0 :)⟩ (fun hHeld => ?_)
        generalize wr.drew = w19 at BK586 HB hx589_0 hHeld ⊢
        refine pure_ (i := 1) (N := some 22) (v := ?_) (a' := ?_) (mB 7 2) rfl rfl (by kernel_rfl) (fun _ _ _ h => h) (Or.inl ⟨by rfl, ?_⟩) ?_ ?_
        rotate_left
        ·intro w'
         go_simp
         with_reducible rfl
        rotate_left
        ·simp only [Act.put, List.setIfInBounds_toArray, List.set_cons_zero, List.set_cons_succ, i64_w, i32_w]
         rfl
        refine pure_ (i := 2) (N := some 23) (v := ?_) (a' := ?_) (mB 7 6) rfl rfl (by kernel_rfl) (fun _ _ _ h => h) (Or.inl ⟨by rfl, ?_⟩) ?_ ?_
        rotate_left
        ·intro w'
         go_simp
         with_reducible rfl
        rotate_left
        ·simp only [Act.put, List.setIfInBounds_toArray, List.set_cons_zero, List.set_cons_succ, i64_w, i32_w]
         rfl
        refine pure_ (i := 3) (N := some 24) (v := ?_) (a' := ?_) (mB 7 14) rfl rfl (by kernel_rfl) (fun _ _ _ h => h) (Or.inl ⟨by rfl, ?_⟩) ?_ ?_
        rotate_left
        ·intro w'
         go_simp
         with_reducible rfl
        rotate_left
        ·simp only [Act.put, List.setIfInBounds_toArray, List.set_cons_zero, List.set_cons_succ, i64_w, i32_w]
         rfl
        refine take_ (i := 0) (N := some 21) (v := ?_) (a' := ?_) (mB 7 15) rfl rfl (by kernel_rfl) (fun _ _ _ h => h) (Or.inl ⟨by rfl, ?_⟩) hHeld ?_ ?_
        rotate_left
        ·rintro w' ⟨s0, s1, s2⟩
         go_simp
         with_reducible rfl
        rotate_left
        ·simp only [Act.put, List.setIfInBounds_toArray, List.set_cons_zero, List.set_cons_succ, i64_w, i32_w]
         rfl
        refine take_ (i := 4) (N := some 25) (v := ?_) (a' := ?_) (mB 7 31) rfl rfl (by kernel_rfl) (fun _ _ _ h => h) (Or.inl ⟨by rfl, ?_⟩) hHeld ?_ ?_
        rotate_left
        ·rintro w' ⟨s0, s1, s2⟩
         go_simp
         with_reducible rfl
        rotate_left
        ·simp only [Act.put, List.setIfInBounds_toArray, List.set_cons_zero, List.set_cons_succ, i64_w, i32_w]
         rfl
        refine one_ (i := 5) (N := some 26) (mB 7 63) rfl rfl (by kernel_rfl) (by decide) (fun K hK => ?_)
        refine ca_ Try.func64 #[.agg #[.int .i64 a0_0, .slice A0_1 l0_1.length c0_1], .int .i64 (rd l2 x7_1)] ?_
        with_reducible refine (spec_l01Has.calls k1 a0_0 _ _ l0_1 (rd l2 x7_1) false _ ?side1 ?side2 A15.out).mono ?_
        (case side1 => exact pC ((Kd.C_below HR0_1.out HB.out)))
        (case side2 => exact HC0_1.out)
        rintro e w20 ⟨rfl, hb⟩
        refine ⟨_, rfl, ?_⟩
        replace BK586 := sB BK586 hb
        replace HB := sH HB hb
        (try clear hb)
        (try clear hb2)
        (try clear hk)
        (try clear hi)
        refine hK.out _ _ ⟨cB BK586 0, cB BK586 1, (cH HB hw589_0 :)⟩ (fun hHeld => ?_)
        clear hK K
        refine nm_ ?_
        refine pure_ (i := 6) (N := some 27) (v := ?_) (a' := ?_) (mB 7 127) rfl rfl (by kernel_rfl) (fun _ _ _ h => h) (Or.inl ⟨by rfl, ?_⟩) ?_ ?_
        rotate_left
        ·intro w'
         go_simp
         with_reducible rfl
        rotate_left
        ·simp only [Act.put, List.setIfInBounds_toArray, List.set_cons_zero, List.set_cons_succ, i64_w, i32_w]
         rfl
        refine done_ (by kernel_rfl) ?_
        try go_wp2
        go_ret
        exact ⟨by first | rfl | (simp [errW_none, errW_some] <;> rfl) | (simp [*, errW_none, errW_some] <;> rfl), pH HB⟩
      ·rw [if_neg c14] at H
       exact absurd H (by simp)
     ·rw [if_neg c13] at H
      have c13b0 : decide (x7_1 < (l2.length : Int)) = false := decide_eq_false c13
      clear c13
      obtain rfl := Option.some.inj H
      go_wp2
      go_ret
      exact ⟨by first | rfl | (simp [errW_none, errW_some] <;> rfl) | (simp [*, errW_none, errW_some] <;> rfl), pH HB⟩
  ·replace c7 := Bool.eq_false_iff.mpr c7
   subst c7
   have H1 : (some 2) = some r := by rw [if_neg (show ¬ (false = true) by decide)] at H; exact H
   clear H
   have H := H1
   clear H1
   obtain rfl := Option.some.inj H
   go_enter Try.func118, Try.ntmps118
   go_wp2_with (first | ((with_reducible refine gate_dst (N := 3) rfl ?_); refine box_event ?hg (N := 3) ?hd (cs := #[.int .i64 a0_0, .slice A0_1 l0_1.length c0_1]) (t := 26) ?hr ?_; (case hd => rfl); (case hg => rfl); (case hr => first | (go_simp; done) | (go_simp; rfl)); intro gb586 hg w21 hbox hb; have BK586 := Aside0.mk (hbox); have GW586 := gH HB hg; have GE586 := gH HB hg; replace HB := sH HB hb; clear hb hbox hg; have hcz22_0 : w21.cell? ⟨gb586, 0, none⟩ = some (.int .i64 a0_0) := cB BK586 0; have hcz22_1 : w21.cell? ⟨gb586, 1, none⟩ = some (.slice A0_1 l0_1.length c0_1) := cB BK586 1; have hfz22_0 := zB BK586 0; have hfz22_1 := zB BK586 1) | ((with_reducible refine gate_callee (f := 57) rfl ?_); refine cl_ (some 9) Try.func57 #[.agg #[.int .i64 a0_0, .slice A0_1 l0_1.length c0_1]] ?_; (with_reducible refine (spec_l01Is.calls k a0_0 _ _ l0_1 true _ ?side1 ?side2 A4.out).mono ?_); (case side1 => exact pC ((Kd.C_below HR0_1.out HB.out))); (case side2 => exact HC0_1.out); rintro e w23 ⟨rfl, hb⟩; refine ⟨_, rfl, ?_⟩; replace BK586 := sB BK586 hb; replace HB := sH HB hb; (try clear hb); (try clear hi); have hcz24_0 : w23.cell? ⟨gb586, 0, none⟩ = some (.int .i64 a0_0) := cB BK586 0; have hcz24_1 : w23.cell? ⟨gb586, 1, none⟩ = some (.slice A0_1 l0_1.length c0_1) := cB BK586 1; have hfz24_0 := zB BK586 0; have hfz24_1 := zB BK586 1) | ((with_reducible refine gate_callee (f := 174) rfl ?_); refine cl_ (some 13) Try.func174 #[.agg #[.int .i64 a0_0, .slice A0_1 l0_1.length c0_1], .slice A1 l1.length c1] ?_; (with_reducible refine (spec_l02Is.calls k a0_0 _ _ l0_1 _ _ l1 false _ ?side1 ?side2 ?side3 ?side4 A6.out).mono ?_); (case side1 => exact pC ((Kd.C_below HR0_1.out HB.out))); (case side2 => exact HC0_1.out); (case side3 => exact pC ((Kd.C_below HR1.out HB.out))); (case side4 => exact HC1.out); rintro e w25 ⟨rfl, hb⟩; refine ⟨_, rfl, ?_⟩; replace BK586 := sB BK586 hb; replace HB := sH HB hb; (try clear hb); (try clear hi)))
   go_ret
   exact ⟨by first | rfl | (simp [errW_none, errW_some] <;> rfl) | (simp [*, errW_none, errW_some] <;> rfl), pH HB⟩
 ·replace c5 := Bool.eq_false_iff.mpr c5
  subst c5
  have H1 : (some 1) = some r := by rw [if_neg (show ¬ (false = true) by decide)] at H; exact H
  clear H
  have H := H1
  clear H1
  obtain rfl := Option.some.inj H
  go_enter Try.func118, Try.ntmps118
  go_wp2_with (first | ((with_reducible refine gate_dst (N := 3) rfl ?_); refine box_event ?hg (N := 3) ?hd (cs := #[.int .i64 a0_0, .slice A0_1 l0_1.length c0_1]) (t := 26) ?hr ?_; (case hd => rfl); (case hg => rfl); (case hr => first | (go_simp; done) | (go_simp; rfl)); intro gb586 hg w26 hbox hb; have BK586 := Aside0.mk (hbox); have GW586 := gH HB hg; have GE586 := gH HB hg; replace HB := sH HB hb; clear hb hbox hg; have hcz27_0 : w26.cell? ⟨gb586, 0, none⟩ = some (.int .i64 a0_0) := cB BK586 0; have hcz27_1 : w26.cell? ⟨gb586, 1, none⟩ = some (.slice A0_1 l0_1.length c0_1) := cB BK586 1; have hfz27_0 := zB BK586 0; have hfz27_1 := zB BK586 1) | ((with_reducible refine gate_callee (f := 57) rfl ?_); refine cl_ (some 9) Try.func57 #[.agg #[.int .i64 a0_0, .slice A0_1 l0_1.length c0_1]] ?_; (with_reducible refine (spec_l01Is.calls k a0_0 _ _ l0_1 false _ ?side1 ?side2 A4.out).mono ?_); (case side1 => exact pC ((Kd.C_below HR0_1.out HB.out))); (case side2 => exact HC0_1.out); rintro e w28 ⟨rfl, hb⟩; refine ⟨_, rfl, ?_⟩; replace BK586 := sB BK586 hb; replace HB := sH HB hb; (try clear hb); (try clear hi)))
  go_ret
  exact ⟨by first | rfl | (simp [errW_none, errW_some] <;> rfl) | (simp [*, errW_none, errW_some] <;> rfl), pH HB⟩
end Go.Proofs.Ytnmhnkpijjmhjaa.QS
namespace Go.Proofs.Ytnmhnkpijjmhjaa.QS
open Go.Proofs.Ytnmhnkpijjmhjaa.Cw Go.Proofs.Ytnmhnkpijjmhjaa.Kp Go.Proofs.Ytnmhnkpijjmhjaa.Ext Go.RowKit Go.Proofs.YtnmhnkpijjmhjaaW.PrintWords Go.Proofs.YtnmhnkpijjmhjaaW.PrintLast Go.Proofs.YtnmhnkpijjmhjaaW.PrintMore
attribute [local go_sem] max2_int min2_int max_two min_two max_three min_three max_four min_four   -- for this text's walks alone
set_option linter.unusedVariables false
set_option linter.unusedSimpArgs false
mutual
def spec_l02Critical.l0 : Nat → List (S76) → List Int → Int → Int → List Int → Option (List Int)
 | 0, _, _, _, _, _ => none
 | k + 1, x1, x5, x6, x630000, x630001 => if x6 < (x630001.length : Int) then (spec_l02Critical.l1 k x1 x5 x6 true 0 x630000 x630001) else (some x5)
def spec_l02Critical.l1 : Nat → List (S76) → List Int → Int → Bool → Int → Int → List Int → Option (List Int)
 | 0, _, _, _, _, _, _, _ => none
 | k + 1, x1, x5, x6, x7, x8, x630000, x630001 => if x8 < (x1.length : Int) then (if x7 = true then (if 0 ≤ x8 then (if 0 ≤ x6 then (if x6 < (x630001.length : Int) then (if ((rd_T76 x1 x8).f0) = (rd x630001 x6) then (spec_l02Critical.l1 k x1 x5 x6 false (wrap64 (x8 + 1)) x630000 x630001) else (spec_l02Critical.l1 k x1 x5 x6 (((rd_T76 x1 x8).f1) != (rd x630001 x6)) (wrap64 (x8 + 1)) x630000 x630001)) else (none)) else (none)) else (none)) else (spec_l02Critical.l1 k x1 x5 x6 false (wrap64 (x8 + 1)) x630000 x630001)) else (if x7 = true then (if 0 ≤ x6 then (if x6 < (x630001.length : Int) then (if x5.length < 17592186044416 then (spec_l02Critical.l0 k x1 (x5 ++ [rd x630001 x6]) (wrap64 (x6 + 1)) x630000 x630001) else (none)) else (none)) else (none)) else (spec_l02Critical.l0 k x1 x5 (wrap64 (x6 + 1)) x630000 x630001))
end
def spec_l02Critical.f (k : Nat) (a0_0 : Int) (l0_1 : List Int) (l1 : List (S76)) : Option (List Int) := spec_l02Critical.l0 k l1 (([] : List Int)) 0 a0_0 l0_1
set_option maxHeartbeats 8000000 in
set_option maxRecDepth 100000 in
theorem spec_l02Critical.calls (k : Nat) (a0_0 : Int) (A0_1 : Option Addr) (c0_1 : Nat) (l0_1 : List Int) (A1 : Option Addr) (c1 : Nat) (l1 : List (S76)) (r : List Int) (w : World) (hr0_1 : Kd.C (Kd.int .i64) w A0_1 l0_1.length l0_1) (hc0_1 : l0_1.length ≤ c0_1) (hr1 : Kd.C k76 w A1 l1.length l1) (hc1 : l1.length ≤ c1) (h : spec_l02Critical.f k a0_0 l0_1 l1 = some r) :
  Calls Try.prog 176 #[.agg #[.int .i64 a0_0, .slice A0_1 l0_1.length c0_1], .slice A1 l1.length c1] w fun e w' => ∃ v0_ : Value, e = .returned (v0_) ∧ Kd.R (Kd.int .i64) 2 w' w.heap.size (fun _ => True) v0_ r ∧ Below w.heap.size w w' := by
 have hu26 := Try.underlying26
 have HR0_1 := Aside0.mk hr0_1
 have HC0_1 := Aside0.mk hc0_1
 clear hr0_1 hc0_1
 have HR1 := Aside0.mk hr1
 have HC1 := Aside0.mk hc1
 clear hr1 hc1
 have HB := Aside0.mk (Below.refl w.heap.size w)
 have H : (spec_l02Critical.l0 k l1 (([] : List Int)) 0 a0_0 l0_1) = some r := h
 clear h
 obtain ⟨y630, hy630⟩ : ∃ y_ : List Int, y_ = (([] : List Int)) := ⟨_, rfl⟩
 replace H : (spec_l02Critical.l0 k l1 y630 0 a0_0 l0_1) = some r := by first | (rw [hy630]; with_reducible exact H) | (have H2_ := (Option.bind_some _ _).symm.trans H; rw [hy630]; with_reducible exact H2_) | (have H2_ := (Option.bind_some _ _).symm.trans H; with_reducible exact H2_) | with_reducible exact H | (rw [hy630]; exact H) | exact H
 have Ny630 := Aside0.mk hy630
 clear hy630
 have H' := Aside0.mk H
 clear H
 go_enter Try.func176, Try.ntmps176
 go_wp2_with (first | ((with_reducible refine gate_dst (N := 2) rfl ?_); refine box_event ?hg (N := 2) ?hd (cs := #[.int .i64 a0_0, .slice A0_1 l0_1.length c0_1]) (t := 26) ?hr ?_; (case hd => rfl); (case hg => rfl); (case hr => first | (go_simp; done) | (go_simp; rfl)); intro gb629 hg w3 hbox hb; have BK629 := Aside0.mk (hbox); have GW629 := gH HB hg; have GE629 := gH HB hg; replace HB := sH HB hb; clear hb hbox hg) | ((with_reducible refine gate_dst (N := 9) rfl ?_); refine Kd.R_lit (Kd.int .i64) _ 2 ?hg (N := 9) ?hd (xs := ([] : List Int)) (inner := []) (ok := fun _ => True) (okp := fun _ => True) ?hr ?hp (fun _ hk => hk) trivial (Below.refl _ _) (Nat.le_refl _) (by simp) ?_; (case hd => rfl); (case hg => rfl); (case hr => first | (go_simp; done) | (go_simp; rfl)); (case hp => exact (Reps.none _ _)); intro v631 w4 ho5 hb hg_ hnew_; clear hg_ hnew_; (first | rw [← Ny630.out] at ho5 | (simp only [Int.reduceToNat] at ho5; rw [← Ny630.out] at ho5)); have HO632 := Aside0.mk (Kd.R_lower ho5 (below_size (pH HB))); replace BK629 := sB BK629 hb; replace HB := sH HB hb; clear hb ho5))
 repeat (go_quiet (first | ((with_reducible refine gate_dst (N := 2) rfl ?_); refine box_event ?hg (N := 2) ?hd (cs := #[.int .i64 a0_0, .slice A0_1 l0_1.length c0_1]) (t := 26) ?hr ?_; (case hd => rfl); (case hg => rfl); (case hr => first | (go_simp; done) | (go_simp; rfl)); intro gb629 hg w3 hbox hb; have BK629 := Aside0.mk (hbox); have GW629 := gH HB hg; have GE629 := gH HB hg; replace HB := sH HB hb; clear hb hbox hg) | ((with_reducible refine gate_dst (N := 9) rfl ?_); refine Kd.R_lit (Kd.int .i64) _ 2 ?hg (N := 9) ?hd (xs := ([] : List Int)) (inner := []) (ok := fun _ => True) (okp := fun _ => True) ?hr ?hp (fun _ hk => hk) trivial (Below.refl _ _) (Nat.le_refl _) (by simp) ?_; (case hd => rfl); (case hg => rfl); (case hr => first | (go_simp; done) | (go_simp; rfl)); (case hp => exact (Reps.none _ _)); intro v631 w4 ho5 hb hg_ hnew_; clear hg_ hnew_; (first | rw [← Ny630.out] at ho5 | (simp only [Int.reduceToNat] at ho5; rw [← Ny630.out] at ho5)); have HO632 := Aside0.mk (Kd.R_lower ho5 (below_size (pH HB))); replace BK629 := sB BK629 hb; replace HB := sH HB hb; clear hb ho5)); try go_wp2_with (first | ((with_reducible refine gate_dst (N := 2) rfl ?_); refine box_event ?hg (N := 2) ?hd (cs := #[.int .i64 a0_0, .slice A0_1 l0_1.length c0_1]) (t := 26) ?hr ?_; (case hd => rfl); (case hg => rfl); (case hr => first | (go_simp; done) | (go_simp; rfl)); intro gb629 hg w3 hbox hb; have BK629 := Aside0.mk (hbox); have GW629 := gH HB hg; have GE629 := gH HB hg; replace HB := sH HB hb; clear hb hbox hg) | ((with_reducible refine gate_dst (N := 9) rfl ?_); refine Kd.R_lit (Kd.int .i64) _ 2 ?hg (N := 9) ?hd (xs := ([] : List Int)) (inner := []) (ok := fun _ => True) (okp := fun _ => True) ?hr ?hp (fun _ hk => hk) trivial (Below.refl _ _) (Nat.le_refl _) (by simp) ?_; (case hd => rfl); (case hg => rfl); (case hr => first | (go_simp; done) | (go_simp; rfl)); (case hp => exact (Reps.none _ _)); intro v631 w4 ho5 hb hg_ hnew_; clear hg_ hnew_; (first | rw [← Ny630.out] at ho5 | (simp only [Int.reduceToNat] at ho5; rw [← Ny630.out] at ho5)); have HO632 := Aside0.mk (Kd.R_lower ho5 (below_size (pH HB))); replace BK629 := sB BK629 hb; replace HB := sH HB hb; clear hb ho5)))
 go_loopg [5, 6] k (fun kq v5 v6 w' => ∃ (x5_1 : List Int) (x6_1 : Int), v6 = .int .i64 x6_1 ∧ Aside0 (spec_l02Critical.l0 kq l1 x5_1 x6_1 a0_0 l0_1 = some r) ∧ Aside0 (kq ≤ k) ∧ Aside0 (Kd.R (Kd.int .i64) 2 w' w.heap.size (fun _ => True) v5 x5_1) ∧ Aside0 (w'.heap[gb629]? = some (.cells #[.int .i64 a0_0, (.slice A0_1 l0_1.length c0_1)] 26 (0, 0))) ∧ Aside0 (Below w.heap.size w w'))
 case atStart => exact ⟨(y630), (0), (by first | rfl | (simp; done) | (simp [*]; done)), H', ⟨Nat.le_refl _⟩, ⟨by (with_reducible repeat (first | apply Kd.R_alloc | apply Kd.R_drewN | apply Kd.R_drew)); exact HO632.out⟩, ⟨pB BK629⟩, ⟨pH HB⟩⟩
 case round =>
  clear H'
  try clear c1
  try clear p2
  obtain ⟨x5_1, x6_1, rfl, HA, HK1, HO_5, BK629, HB⟩ := hrel
  cases gk with
  | zero => exact absurd HA.out (by simp [spec_l02Critical.l0])
  | succ k1 =>
   have H := HA.out
   clear HA
   simp only [spec_l02Critical.l0] at H
   by_cases c6 : x6_1 < (l0_1.length : Int)
   ·rw [if_pos c6] at H
    have c6b0 : decide (x6_1 < (l0_1.length : Int)) = true := decide_eq_true c6
    clear c6
    have H' := Aside0.mk H
    clear H
    have hcz7_0 : wr.cell? ⟨gb629, 0, none⟩ = some (.int .i64 a0_0) := cB BK629 0
    have hcz7_1 : wr.cell? ⟨gb629, 1, none⟩ = some (.slice A0_1 l0_1.length c0_1) := cB BK629 1
    have hfz7_0 := zB BK629 0
    have hfz7_1 := zB BK629 1
    go_wp2
    repeat (go_quiet (fail); try go_wp2)
    go_loopg [7, 8] k1 (fun kq v7 v8 w' => ∃ (x7_2 : Bool) (x8_2 : Int), v7 = .bool x7_2 ∧ v8 = .int .i64 x8_2 ∧ Aside0 (spec_l02Critical.l1 kq l1 x5_1 x6_1 x7_2 x8_2 a0_0 l0_1 = some r) ∧ Aside0 (kq ≤ k1) ∧ Aside0 (Kd.R (Kd.int .i64) 2 w' w.heap.size (fun _ => True) u5 x5_1) ∧ Aside0 (w'.heap[gb629]? = some (.cells #[.int .i64 a0_0, (.slice A0_1 l0_1.length c0_1)] 26 (0, 0))) ∧ Aside0 (Below w.heap.size w w'))
    case atStart => exact ⟨(true), (0), (by first | rfl | (simp; done) | (simp [*]; done)), (by first | rfl | (simp; done) | (simp [*]; done)), H', ⟨Nat.le_refl _⟩, ⟨by (with_reducible repeat (first | apply Kd.R_alloc | apply Kd.R_drewN | apply Kd.R_drew)); exact HO_5.out⟩, ⟨pB BK629⟩, ⟨pH HB⟩⟩
    case round =>
     clear H'
     try clear c1
     try clear p2
     try clear c6
     try clear c6b0
     try clear hcz7_0
     try clear hcz7_1
     try clear hfz7_0
     try clear hfz7_1
     try clear p2
     obtain ⟨x7_2, x8_2, rfl, rfl, HA, HK2, HO_5, BK629, HB⟩ := hrel
     cases gk with
     | zero => exact absurd HA.out (by simp [spec_l02Critical.l1])
     | succ k2 =>
      have H := HA.out
      clear HA
      simp only [spec_l02Critical.l1] at H
      by_cases c8 : x8_2 < (l1.length : Int)
      ·rw [if_pos c8] at H
       have c8b0 : decide (x8_2 < (l1.length : Int)) = true := decide_eq_true c8
       clear c8
       by_cases c9 : x7_2 = true
       ·subst c9
        have H1 : (if 0 ≤ x8_2 then (if 0 ≤ x6_1 then (if x6_1 < (l0_1.length : Int) then (if ((rd_T76 l1 x8_2).f0) = (rd l0_1 x6_1) then (spec_l02Critical.l1 k2 l1 x5_1 x6_1 false (wrap64 (x8_2 + 1)) a0_0 l0_1) else (spec_l02Critical.l1 k2 l1 x5_1 x6_1 (((rd_T76 l1 x8_2).f1) != (rd l0_1 x6_1)) (wrap64 (x8_2 + 1)) a0_0 l0_1)) else (none)) else (none)) else (none)) = some r := by rw [if_pos rfl] at H; exact H
        clear H
        have H := H1
        clear H1
        by_cases c10 : 0 ≤ x8_2
        ·rw [if_pos c10] at H
         have c10b0 : decide (0 ≤ x8_2) = true := decide_eq_true c10
         clear c10
         by_cases c11 : 0 ≤ x6_1
         ·rw [if_pos c11] at H
          have c11b0 : decide (0 ≤ x6_1) = true := decide_eq_true c11
          clear c11
          by_cases c12 : x6_1 < (l0_1.length : Int)
          ·rw [if_pos c12] at H
           have c12b0 : decide (x6_1 < (l0_1.length : Int)) = true := decide_eq_true c12
           clear c12
           by_cases c13 : ((rd_T76 l1 x8_2).f0) = (rd l0_1 x6_1)
           ·rw [if_pos c13] at H
            have c13b0 : (((rd_T76 l1 x8_2).f0) == (rd l0_1 x6_1)) = true := beq_iff_eq.mpr c13
            have c13b1 : (((rd_T76 l1 x8_2).f0) != (rd l0_1 x6_1)) = false := bne_eq_false_iff_eq.mpr c13
            clear c13
            have H' := Aside0.mk H
            clear H
            have p633 : 0 ≤ (x8_2 : Int) := of_decide_eq_true (by first | (with_reducible assumption) | assumption)
            have q633 : x8_2 < (l1.length : Int) := of_decide_eq_true (by first | (with_reducible assumption) | assumption)
            obtain ⟨ad633, e633, hx633_0, hx633_1⟩ := at_T76 HR1.out x8_2 p633 q633
            cases e633
            replace hx633_0 := cH HB hx633_0
            replace hx633_1 := cH HB hx633_1
            replace p633 := eq_true p633
            replace q633 := eq_true q633
            have hcz14_0 : wr.cell? ⟨gb629, 0, none⟩ = some (.int .i64 a0_0) := cB BK629 0
            have hcz14_1 : wr.cell? ⟨gb629, 1, none⟩ = some (.slice A0_1 l0_1.length c0_1) := cB BK629 1
            have hfz14_0 := zB BK629 0
            have hfz14_1 := zB BK629 1
            have p634 : 0 ≤ (x6_1 : Int) := of_decide_eq_true (by first | (with_reducible assumption) | assumption)
            have q634 : x6_1 < (l0_1.length : Int) := of_decide_eq_true (by first | (with_reducible assumption) | assumption)
            obtain ⟨ad634, e634, hx634_0⟩ := Kd.at_int HR0_1.out x6_1 p634 q634
            cases e634
            replace hx634_0 := cH HB hx634_0
            replace p634 := eq_true p634
            replace q634 := eq_true q634
            go_wp2
            repeat (go_quiet (fail); try go_wp2)
            go_roundg k2
            case measure => have := HK1.out; have := HK2.out; omega
            case rel => exact ⟨(false), (wrap64 (x8_2 + 1)), (by first | rfl | (simp; done) | (simp [*]; done)), (by first | rfl | (simp; done) | (simp [*]; done)), H', ⟨by have := HK1.out; have := HK2.out; omega⟩, ⟨by (with_reducible repeat (first | apply Kd.R_alloc | apply Kd.R_drewN | apply Kd.R_drew)); exact HO_5.out⟩, ⟨pB BK629⟩, ⟨pH HB⟩⟩
           ·rw [if_neg c13] at H
            have c13b0 : (((rd_T76 l1 x8_2).f0) == (rd l0_1 x6_1)) = false := beq_eq_false_iff_ne.mpr c13
            have c13b1 : (((rd_T76 l1 x8_2).f0) != (rd l0_1 x6_1)) = true := bne_iff_ne.mpr c13
            have H' := Aside0.mk H
            clear H
            have p633 : 0 ≤ (x8_2 : Int) := of_decide_eq_true (by first | (with_reducible assumption) | assumption)
            have q633 : x8_2 < (l1.length : Int) := of_decide_eq_true (by first | (with_reducible assumption) | assumption)
            obtain ⟨ad633, e633, hx633_0, hx633_1⟩ := at_T76 HR1.out x8_2 p633 q633
            cases e633
            replace hx633_0 := cH HB hx633_0
            replace hx633_1 := cH HB hx633_1
            replace p633 := eq_true p633
            replace q633 := eq_true q633
            have hcz15_0 : wr.cell? ⟨gb629, 0, none⟩ = some (.int .i64 a0_0) := cB BK629 0
            have hcz15_1 : wr.cell? ⟨gb629, 1, none⟩ = some (.slice A0_1 l0_1.length c0_1) := cB BK629 1
            have hfz15_0 := zB BK629 0
            have hfz15_1 := zB BK629 1
            have p634 : 0 ≤ (x6_1 : Int) := of_decide_eq_true (by first | (with_reducible assumption) | assumption)
            have q634 : x6_1 < (l0_1.length : Int) := of_decide_eq_true (by first | (with_reducible assumption) | assumption)
            obtain ⟨ad634, e634, hx634_0⟩ := Kd.at_int HR0_1.out x6_1 p634 q634
            cases e634
            replace hx634_0 := cH HB hx634_0
            replace p634 := eq_true p634
            replace q634 := eq_true q634
            have p635 : 0 ≤ (x8_2 : Int) := of_decide_eq_true (by first | (with_reducible assumption) | assumption)
            have q635 : x8_2 < (l1.length : Int) := of_decide_eq_true (by first | (with_reducible assumption) | assumption)
            obtain ⟨ad635, e635, hx635_0, hx635_1⟩ := at_T76 HR1.out x8_2 p635 q635
            obtain rfl : ad633 = ad635 := (by injection e635)
            replace hx635_0 := cH HB hx635_0
            replace hx635_1 := cH HB hx635_1
            replace p635 := eq_true p635
            replace q635 := eq_true q635
            have p636 : 0 ≤ (x6_1 : Int) := of_decide_eq_true (by first | (with_reducible assumption) | assumption)
            have q636 : x6_1 < (l0_1.length : Int) := of_decide_eq_true (by first | (with_reducible assumption) | assumption)
            obtain ⟨ad636, e636, hx636_0⟩ := Kd.at_int HR0_1.out x6_1 p636 q636
            obtain rfl : ad634 = ad636 := (by injection e636)
            replace hx636_0 := cH HB hx636_0
            replace p636 := eq_true p636
            replace q636 := eq_true q636
            go_wp2
            repeat (go_quiet (fail); try go_wp2)
            go_roundg k2
            case measure => have := HK1.out; have := HK2.out; omega
            case rel => exact ⟨((((rd_T76 l1 x8_2).f1) != (rd l0_1 x6_1))), (wrap64 (x8_2 + 1)), (by first | rfl | (simp; done) | (simp [*]; done)), (by first | rfl | (simp; done) | (simp [*]; done)), H', ⟨by have := HK1.out; have := HK2.out; omega⟩, ⟨by (with_reducible repeat (first | apply Kd.R_alloc | apply Kd.R_drewN | apply Kd.R_drew)); exact HO_5.out⟩, ⟨pB BK629⟩, ⟨pH HB⟩⟩
          ·rw [if_neg c12] at H
           exact absurd H (by simp)
         ·rw [if_neg c11] at H
          exact absurd H (by simp)
        ·rw [if_neg c10] at H
         exact absurd H (by simp)
       ·replace c9 := Bool.eq_false_iff.mpr c9
        subst c9
        have H1 : (spec_l02Critical.l1 k2 l1 x5_1 x6_1 false (wrap64 (x8_2 + 1)) a0_0 l0_1) = some r := by rw [if_neg (show ¬ (false = true) by decide)] at H; exact H
        clear H
        have H := H1
        clear H1
        have H' := Aside0.mk H
        clear H
        go_wp2
        repeat (go_quiet (fail); try go_wp2)
        go_roundg k2
        case measure => have := HK1.out; have := HK2.out; omega
        case rel => exact ⟨(false), (wrap64 (x8_2 + 1)), (by first | rfl | (simp; done) | (simp [*]; done)), (by first | rfl | (simp; done) | (simp [*]; done)), H', ⟨by have := HK1.out; have := HK2.out; omega⟩, ⟨by (with_reducible repeat (first | apply Kd.R_alloc | apply Kd.R_drewN | apply Kd.R_drew)); exact HO_5.out⟩, ⟨pB BK629⟩, ⟨pH HB⟩⟩
      ·rw [if_neg c8] at H
       have c8b0 : decide (x8_2 < (l1.length : Int)) = false := decide_eq_false c8
       clear c8
       by_cases c16 : x7_2 = true
       ·subst c16
        have H1 : (if 0 ≤ x6_1 then (if x6_1 < (l0_1.length : Int) then (if x5_1.length < 17592186044416 then (spec_l02Critical.l0 k2 l1 (x5_1 ++ [rd l0_1 x6_1]) (wrap64 (x6_1 + 1)) a0_0 l0_1) else (none)) else (none)) else (none)) = some r := by rw [if_pos rfl] at H; exact H
        clear H
        have H := H1
        clear H1
        by_cases c17 : 0 ≤ x6_1
        ·rw [if_pos c17] at H
         have c17b0 : decide (0 ≤ x6_1) = true := decide_eq_true c17
         clear c17
         by_cases c18 : x6_1 < (l0_1.length : Int)
         ·rw [if_pos c18] at H
          have c18b0 : decide (x6_1 < (l0_1.length : Int)) = true := decide_eq_true c18
          clear c18
          by_cases c19 : x5_1.length < 17592186044416
          ·rw [if_pos c19] at H
           have LMc19 := Aside0.mk c19
           clear c19
           obtain ⟨y638, hy638⟩ : ∃ y_ : List Int, y_ = (x5_1 ++ [rd l0_1 x6_1]) := ⟨_, rfl⟩
           replace H : (spec_l02Critical.l0 k2 l1 y638 (wrap64 (x6_1 + 1)) a0_0 l0_1) = some r := by first | (rw [hy638]; with_reducible exact H) | (have H2_ := (Option.bind_some _ _).symm.trans H; rw [hy638]; with_reducible exact H2_) | (have H2_ := (Option.bind_some _ _).symm.trans H; with_reducible exact H2_) | with_reducible exact H | (rw [hy638]; exact H) | exact H
           have Ny638 := Aside0.mk hy638
           clear hy638
           have H' := Aside0.mk H
           clear H
           have hcz20_0 : wr.cell? ⟨gb629, 0, none⟩ = some (.int .i64 a0_0) := cB BK629 0
           have hcz20_1 : wr.cell? ⟨gb629, 1, none⟩ = some (.slice A0_1 l0_1.length c0_1) := cB BK629 1
           have hfz20_0 := zB BK629 0
           have hfz20_1 := zB BK629 1
           have p637 : 0 ≤ (x6_1 : Int) := of_decide_eq_true (by first | (with_reducible assumption) | assumption)
           have q637 : x6_1 < (l0_1.length : Int) := of_decide_eq_true (by first | (with_reducible assumption) | assumption)
           obtain ⟨ad637, e637, hx637_0⟩ := Kd.at_int HR0_1.out x6_1 p637 q637
           cases e637
           replace hx637_0 := cH HB hx637_0
           replace p637 := eq_true p637
           replace q637 := eq_true q637
           go_wp2_with (first | ((with_reducible refine gate_builtin (b := .append) (xs := #[.tmp 51, .tmp 57]) rfl ?_); at_builtin; refine Kd.R_append (Kd.int .i64) (w0 := w) w.heap.size rfl (.tmp 51) (.tmp 57) 22 2 (.int .i64 0) 8 rfl Try.underlying22 info2 rfl (by decide) (by omega) u5 x5_1 (rd l0_1 x6_1) [.int .i64 (rd l0_1 x6_1)] (fun _ => True) (fun _ => False) rfl rfl ?aP (fun _ hk => hk.elim) ?aF ?aO ?aB ?aS ?aL ?_; (case aP => exact rfl); (case aB => exact (pH HB)); (case aF => exact (fun _ _ => trivial)); (case aO => exact (pR HO_5)); (case aS => exact (below_size (pH HB))); (case aL => have := LMc19.out; omega); intro v639 w21 ho hb hg hat; rw [← Ny638.out] at ho; replace BK629 := Aside0.mk (blk_grown (g := gb629) (o := .cells #[.int .i64 a0_0, .slice (some ad637) l0_1.length c0_1] 26 (0, 0)) (pB BK629) hg (Kd.R_ne HO_5.out BK629.out (by decide))); replace HB := Aside0.mk (hb); have HO640 := Aside0.mk (ho); clear HO_5; clear ho hb hg hat))
           repeat (go_quiet (first | ((with_reducible refine gate_builtin (b := .append) (xs := #[.tmp 51, .tmp 57]) rfl ?_); at_builtin; refine Kd.R_append (Kd.int .i64) (w0 := w) w.heap.size rfl (.tmp 51) (.tmp 57) 22 2 (.int .i64 0) 8 rfl Try.underlying22 info2 rfl (by decide) (by omega) u5 x5_1 (rd l0_1 x6_1) [.int .i64 (rd l0_1 x6_1)] (fun _ => True) (fun _ => False) rfl rfl ?aP (fun _ hk => hk.elim) ?aF ?aO ?aB ?aS ?aL ?_; (case aP => exact rfl); (case aB => exact (pH HB)); (case aF => exact (fun _ _ => trivial)); (case aO => exact (pR HO_5)); (case aS => exact (below_size (pH HB))); (case aL => have := LMc19.out; omega); intro v639 w21 ho hb hg hat; rw [← Ny638.out] at ho; replace BK629 := Aside0.mk (blk_grown (g := gb629) (o := .cells #[.int .i64 a0_0, .slice (some ad637) l0_1.length c0_1] 26 (0, 0)) (pB BK629) hg (Kd.R_ne HO_5.out BK629.out (by decide))); replace HB := Aside0.mk (hb); have HO640 := Aside0.mk (ho); clear HO_5; clear ho hb hg hat)); try go_wp2_with (first | ((with_reducible refine gate_builtin (b := .append) (xs := #[.tmp 51, .tmp 57]) rfl ?_); at_builtin; refine Kd.R_append (Kd.int .i64) (w0 := w) w.heap.size rfl (.tmp 51) (.tmp 57) 22 2 (.int .i64 0) 8 rfl Try.underlying22 info2 rfl (by decide) (by omega) u5 x5_1 (rd l0_1 x6_1) [.int .i64 (rd l0_1 x6_1)] (fun _ => True) (fun _ => False) rfl rfl ?aP (fun _ hk => hk.elim) ?aF ?aO ?aB ?aS ?aL ?_; (case aP => exact rfl); (case aB => exact (pH HB)); (case aF => exact (fun _ _ => trivial)); (case aO => exact (pR HO_5)); (case aS => exact (below_size (pH HB))); (case aL => have := LMc19.out; omega); intro v639 w21 ho hb hg hat; rw [← Ny638.out] at ho; replace BK629 := Aside0.mk (blk_grown (g := gb629) (o := .cells #[.int .i64 a0_0, .slice (some ad637) l0_1.length c0_1] 26 (0, 0)) (pB BK629) hg (Kd.R_ne HO_5.out BK629.out (by decide))); replace HB := Aside0.mk (hb); have HO640 := Aside0.mk (ho); clear HO_5; clear ho hb hg hat)))
           go_roundg k2
           case measure => have := HK1.out; have := HK2.out; omega
           case rel => exact ⟨(y638), (wrap64 (x6_1 + 1)), (by first | rfl | (simp; done) | (simp [*]; done)), H', ⟨by have := HK1.out; have := HK2.out; omega⟩, ⟨by (with_reducible repeat (first | apply Kd.R_alloc | apply Kd.R_drewN | apply Kd.R_drew)); exact HO640.out⟩, ⟨pB BK629⟩, ⟨pH HB⟩⟩
          ·rw [if_neg c19] at H
           exact absurd H (by simp)
         ·rw [if_neg c18] at H
          exact absurd H (by simp)
        ·rw [if_neg c17] at H
         exact absurd H (by simp)
       ·replace c16 := Bool.eq_false_iff.mpr c16
        subst c16
        have H1 : (spec_l02Critical.l0 k2 l1 x5_1 (wrap64 (x6_1 + 1)) a0_0 l0_1) = some r := by rw [if_neg (show ¬ (false = true) by decide)] at H; exact H
        clear H
        have H := H1
        clear H1
        have H' := Aside0.mk H
        clear H
        go_wp2
        repeat (go_quiet (fail); try go_wp2)
        go_roundg k2
        case measure => have := HK1.out; have := HK2.out; omega
        case rel => exact ⟨(x5_1), (wrap64 (x6_1 + 1)), (by first | rfl | (simp; done) | (simp [*]; done)), H', ⟨by have := HK1.out; have := HK2.out; omega⟩, ⟨by (with_reducible repeat (first | apply Kd.R_alloc | apply Kd.R_drewN | apply Kd.R_drew)); exact HO_5.out⟩, ⟨pB BK629⟩, ⟨pH HB⟩⟩
   ·rw [if_neg c6] at H
    have c6b0 : decide (x6_1 < (l0_1.length : Int)) = false := decide_eq_false c6
    clear c6
    obtain rfl := Option.some.inj H
    have hcz22_0 : wr.cell? ⟨gb629, 0, none⟩ = some (.int .i64 a0_0) := cB BK629 0
    have hcz22_1 : wr.cell? ⟨gb629, 1, none⟩ = some (.slice A0_1 l0_1.length c0_1) := cB BK629 1
    have hfz22_0 := zB BK629 0
    have hfz22_1 := zB BK629 1
    go_wp2
    repeat (go_quiet (fail); try go_wp2)
    go_ret
    exact ⟨_, by first | rfl | (simp [errW_none, errW_some] <;> rfl) | (simp [*, errW_none, errW_some] <;> rfl), by (with_reducible repeat (first | apply Kd.R_alloc | apply Kd.R_drewN | apply Kd.R_drew)); exact HO_5.out, pH HB⟩
end Go.Proofs.Ytnmhnkpijjmhjaa.QS
namespace Go.Proofs.Ytnmhnkpijjmhjaa.QS
open Go.Proofs.Ytnmhnkpijjmhjaa.Cw Go.Proofs.Ytnmhnkpijjmhjaa.Kp Go.Proofs.Ytnmhnkpijjmhjaa.Ext Go.RowKit Go.Proofs.YtnmhnkpijjmhjaaW.PrintWords Go.Proofs.YtnmhnkpijjmhjaaW.PrintLast Go.Proofs.YtnmhnkpijjmhjaaW.PrintMore
attribute [local go_sem] max2_int min2_int max_two min_two max_three min_three max_four min_four   -- for this text's walks alone
set_option linter.unusedVariables false
set_option linter.unusedSimpArgs false
def spec_l06Critical.l0 : Nat → Int → List Int → Int → Option (Bool)
 | 0, _, _, _ => none
 | k + 1, x2, x7, x8 => if x8 < (x7.length : Int) then (if 0 ≤ x8 then (if (rd x7 x8) = x2 then (some true) else (spec_l06Critical.l0 k x2 x7 (wrap64 (x8 + 1)))) else (none)) else (some false)
def spec_l06Critical.f (k : Nat) (a0_0 : Int) (l0_1 : List Int) (l1 : List (S76)) (a2 : Int) : Option (Bool) := (spec_l02Critical.f k a0_0 l0_1 l1).bind fun t642 => (spec_l06Critical.l0 k a2 t642 0)
set_option maxHeartbeats 8000000 in
set_option maxRecDepth 100000 in
theorem spec_l06Critical.calls (k : Nat) (a0_0 : Int) (A0_1 : Option Addr) (c0_1 : Nat) (l0_1 : List Int) (A1 : Option Addr) (c1 : Nat) (l1 : List (S76)) (a2 : Int) (r : Bool) (w : World) (hr0_1 : Kd.C (Kd.int .i64) w A0_1 l0_1.length l0_1) (hc0_1 : l0_1.length ≤ c0_1) (hr1 : Kd.C k76 w A1 l1.length l1) (hc1 : l1.length ≤ c1) (h : spec_l06Critical.f k a0_0 l0_1 l1 a2 = some r) :
  Calls Try.prog 169 #[.agg #[.int .i64 a0_0, .slice A0_1 l0_1.length c0_1], .slice A1 l1.length c1, .int .i64 a2] w fun e w' => e = .returned (.bool r) ∧ Below w.heap.size w w' := by
 have hu26 := Try.underlying26
 have HR0_1 := Aside0.mk hr0_1
 have HC0_1 := Aside0.mk hc0_1
 clear hr0_1 hc0_1
 have HR1 := Aside0.mk hr1
 have HC1 := Aside0.mk hc1
 clear hr1 hc1
 have HB := Aside0.mk (Below.refl w.heap.size w)
 have H : ((spec_l02Critical.f k a0_0 l0_1 l1).bind fun t642 => (spec_l06Critical.l0 k a2 t642 0)) = some r := h
 clear h
 replace H := Option.bind_eq_some_iff.mp H
 obtain ⟨t642, A40, H⟩ := H
 try dsimp only at H
 have A4 := Aside0.mk A40
 clear A40
 have H' := Aside0.mk H
 clear H
 go_enter Try.func169, Try.ntmps169
 go_wp2_with (first | ((with_reducible refine gate_dst (N := 3) rfl ?_); refine box_event ?hg (N := 3) ?hd (cs := #[.int .i64 a0_0, .slice A0_1 l0_1.length c0_1]) (t := 26) ?hr ?_; (case hd => rfl); (case hg => rfl); (case hr => first | (go_simp; done) | (go_simp; rfl)); intro gb641 hg w5 hbox hb; have BK641 := Aside0.mk (hbox); have GW641 := gH HB hg; have GE641 := gH HB hg; replace HB := sH HB hb; clear hb hbox hg; have hcz6_0 : w5.cell? ⟨gb641, 0, none⟩ = some (.int .i64 a0_0) := cB BK641 0; have hcz6_1 : w5.cell? ⟨gb641, 1, none⟩ = some (.slice A0_1 l0_1.length c0_1) := cB BK641 1; have hfz6_0 := zB BK641 0; have hfz6_1 := zB BK641 1) | ((with_reducible refine gate_callee (f := 176) rfl ?_); refine cl_ (some 11) Try.func176 #[.agg #[.int .i64 a0_0, .slice A0_1 l0_1.length c0_1], .slice A1 l1.length c1] ?_; (with_reducible refine (spec_l02Critical.calls k a0_0 _ _ l0_1 _ _ l1 t642 _ ?side1 ?side2 ?side3 ?side4 A4.out).mono ?_); (case side1 => exact pC ((Kd.C_below HR0_1.out HB.out))); (case side2 => exact HC0_1.out); (case side3 => exact pC ((Kd.C_below HR1.out HB.out))); (case side4 => exact HC1.out); rintro e w7 ⟨v643, rfl, ho0, hb⟩; refine ⟨_, rfl, ?_⟩; have HO644 := Aside0.mk (Kd.R_lower ho0 (below_size (pH HB))); replace BK641 := sB BK641 hb; replace HB := sH HB hb; (try clear hb); (try clear hi); (try clear ho0)))
 go_loopg [8] k (fun kq v8 w' => ∃ (x8_1 : Int), v8 = .int .i64 x8_1 ∧ Aside0 (spec_l06Critical.l0 kq a2 t642 x8_1 = some r) ∧ Aside0 (kq ≤ k) ∧ Aside0 (Kd.R (Kd.int .i64) 2 w' w.heap.size (fun _ => True) v643 t642) ∧ Aside0 (w'.heap[gb641]? = some (.cells #[.int .i64 a0_0, (.slice A0_1 l0_1.length c0_1)] 26 (0, 0))) ∧ Aside0 (Below w.heap.size w w'))
 case atStart => exact ⟨(0), (by first | rfl | (simp; done) | (simp [*]; done)), H', ⟨Nat.le_refl _⟩, ⟨by (with_reducible repeat (first | apply Kd.R_alloc | apply Kd.R_drewN | apply Kd.R_drew)); exact HO644.out⟩, ⟨pB BK641⟩, ⟨pH HB⟩⟩
 case round =>
  clear H'
  try clear c1
  try clear p2
  try clear hcz6_0
  try clear hcz6_1
  try clear hfz6_0
  try clear hfz6_1
  obtain ⟨x8_1, rfl, HA, HK1, HO_7, BK641, HB⟩ := hrel
  cases gk with
  | zero => exact absurd HA.out (by simp [spec_l06Critical.l0])
  | succ k1 =>
   have H := HA.out
   clear HA
   simp only [spec_l06Critical.l0] at H
   by_cases c8 : x8_1 < (t642.length : Int)
   ·rw [if_pos c8] at H
    have c8b0 : decide (x8_1 < (t642.length : Int)) = true := decide_eq_true c8
    clear c8
    by_cases c9 : 0 ≤ x8_1
    ·rw [if_pos c9] at H
     have c9b0 : decide (0 ≤ x8_1) = true := decide_eq_true c9
     clear c9
     by_cases c10 : (rd t642 x8_1) = a2
     ·rw [if_pos c10] at H
      have c10b0 : ((rd t642 x8_1) == a2) = true := beq_iff_eq.mpr c10
      have c10b1 : ((rd t642 x8_1) != a2) = false := bne_eq_false_iff_eq.mpr c10
      clear c10
      obtain rfl := Option.some.inj H
      obtain ⟨Ao11, co11, eo11⟩ := Kd.R_slice HO_7.out
      subst eo11
      have p645 : 0 ≤ (x8_1 : Int) := of_decide_eq_true (by first | (with_reducible assumption) | assumption)
      have q645 : x8_1 < (t642.length : Int) := of_decide_eq_true (by first | (with_reducible assumption) | assumption)
      obtain ⟨ad645, e645, hx645_0⟩ := Kd.at_int (Kd.R_reads' HO_7.out).2.2 x8_1 p645 q645
      cases e645
      replace p645 := eq_true p645
      replace q645 := eq_true q645
      go_wp2
      go_ret
      exact ⟨by first | rfl | (simp [errW_none, errW_some] <;> rfl) | (simp [*, errW_none, errW_some] <;> rfl), pH HB⟩
     ·rw [if_neg c10] at H
      have c10b0 : ((rd t642 x8_1) == a2) = false := beq_eq_false_iff_ne.mpr c10
      have c10b1 : ((rd t642 x8_1) != a2) = true := bne_iff_ne.mpr c10
      have H' := Aside0.mk H
      clear H
      obtain ⟨Ao12, co12, eo12⟩ := Kd.R_slice HO_7.out
      subst eo12
      have p645 : 0 ≤ (x8_1 : Int) := of_decide_eq_true (by first | (with_reducible assumption) | assumption)
      have q645 : x8_1 < (t642.length : Int) := of_decide_eq_true (by first | (with_reducible assumption) | assumption)
      obtain ⟨ad645, e645, hx645_0⟩ := Kd.at_int (Kd.R_reads' HO_7.out).2.2 x8_1 p645 q645
      cases e645
      replace p645 := eq_true p645
      replace q645 := eq_true q645
      go_wp2
      go_roundg k1
      case measure => have := HK1.out; omega
      case rel => exact ⟨(wrap64 (x8_1 + 1)), (by first | rfl | (simp; done) | (simp [*]; done)), H', ⟨by have := HK1.out; omega⟩, ⟨by (with_reducible repeat (first | apply Kd.R_alloc | apply Kd.R_drewN | apply Kd.R_drew)); exact HO_7.out⟩, ⟨pB BK641⟩, ⟨pH HB⟩⟩
    ·rw [if_neg c9] at H
     exact absurd H (by simp)
   ·rw [if_neg c8] at H
    have c8b0 : decide (x8_1 < (t642.length : Int)) = false := decide_eq_false c8
    clear c8
    obtain rfl := Option.some.inj H
    obtain ⟨Ao13, co13, eo13⟩ := Kd.R_slice HO_7.out
    subst eo13
    go_wp2
    go_ret
    exact ⟨by first | rfl | (simp [errW_none, errW_some] <;> rfl) | (simp [*, errW_none, errW_some] <;> rfl), pH HB⟩
end Go.Proofs.Ytnmhnkpijjmhjaa.QS
namespace Go.Proofs.Ytnmhnkpijjmhjaa.QS
open Go.Proofs.Ytnmhnkpijjmhjaa.Cw Go.Proofs.Ytnmhnkpijjmhjaa.Kp Go.Proofs.Ytnmhnkpijjmhjaa.Ext Go.RowKit Go.Proofs.YtnmhnkpijjmhjaaW.PrintWords Go.Proofs.YtnmhnkpijjmhjaaW.PrintLast Go.Proofs.YtnmhnkpijjmhjaaW.PrintMore
attribute [local go_sem] max2_int min2_int max_two min_two max_three min_three max_four min_four   -- for this text's walks alone
set_option linter.unusedVariables false
set_option linter.unusedSimpArgs false
def spec_l06Given.j0 : Nat → List (S76) → Int → Bool → Option (Int)
 | 0, _, _, _ => none
 | k + 1, x1, x9, x36 => if x36 = true then (if 2 = 0 then ((spec_l02Acyclic.f k x1).bind fun t652 => (if t652 = true then (some 2) else (some 5))) else (some 2)) else (if x9 = 0 then ((spec_l02Acyclic.f k x1).bind fun t653 => (if t653 = true then (some x9) else (some 5))) else (some x9))
def spec_l06Given.f (k : Nat) (a0_0 : Int) (l0_1 : List Int) (l1 : List (S76)) (a2 : Int) (a3 : Int) : Option (Int) := (spec_l02Code.f k a0_0 l0_1 l1 ([] : List Int)).bind fun t647 => (if t647 = 0 then ((spec_l06Critical.f k a0_0 l0_1 l1 a2).bind fun t648 => (if t648 = true then ((spec_l06Critical.f k a0_0 l0_1 l1 a3).bind fun t649 => (if t649 = true then ((spec_l01Ones.f k a2).bind fun t650 => ((spec_l01Ones.f k a3).bind fun t651 => (spec_l06Given.j0 k l1 t647 (t650 != (wrap64 (t651 + 1)))))) else (spec_l06Given.j0 k l1 t647 true))) else (spec_l06Given.j0 k l1 t647 true))) else (spec_l06Given.j0 k l1 t647 false))
set_option maxHeartbeats 8000000 in
set_option maxRecDepth 100000 in
theorem spec_l06Given.calls (k : Nat) (a0_0 : Int) (A0_1 : Option Addr) (c0_1 : Nat) (l0_1 : List Int) (A1 : Option Addr) (c1 : Nat) (l1 : List (S76)) (a2 : Int) (a3 : Int) (r : Int) (w : World) (hr0_1 : Kd.C (Kd.int .i64) w A0_1 l0_1.length l0_1) (hc0_1 : l0_1.length ≤ c0_1) (hr1 : Kd.C k76 w A1 l1.length l1) (hc1 : l1.length ≤ c1) (h : spec_l06Given.f k a0_0 l0_1 l1 a2 a3 = some r) :
  Calls Try.prog 113 #[.agg #[.int .i64 a0_0, .slice A0_1 l0_1.length c0_1], .slice A1 l1.length c1, .int .i64 a2, .int .i64 a3] w fun e w' => e = .returned (.int .i64 r) ∧ Below w.heap.size w w' := by
 have hu26 := Try.underlying26
 have HR0_1 := Aside0.mk hr0_1
 have HC0_1 := Aside0.mk hc0_1
 clear hr0_1 hc0_1
 have HR1 := Aside0.mk hr1
 have HC1 := Aside0.mk hc1
 clear hr1 hc1
 have HB := Aside0.mk (Below.refl w.heap.size w)
 have H : ((spec_l02Code.f k a0_0 l0_1 l1 ([] : List Int)).bind fun t647 => (if t647 = 0 then ((spec_l06Critical.f k a0_0 l0_1 l1 a2).bind fun t648 => (if t648 = true then ((spec_l06Critical.f k a0_0 l0_1 l1 a3).bind fun t649 => (if t649 = true then ((spec_l01Ones.f k a2).bind fun t650 => ((spec_l01Ones.f k a3).bind fun t651 => (spec_l06Given.j0 k l1 t647 (t650 != (wrap64 (t651 + 1)))))) else (spec_l06Given.j0 k l1 t647 true))) else (spec_l06Given.j0 k l1 t647 true))) else (spec_l06Given.j0 k l1 t647 false))) = some r := h
 clear h
 replace H := Option.bind_eq_some_iff.mp H
 obtain ⟨t647, A50, H⟩ := H
 try dsimp only at H
 have A5 := Aside0.mk A50
 clear A50
 have HC6 := Aside0.mk H
 clear H
 go_enter Try.func113, Try.ntmps113
 go_upto_region 2 with (first | ((with_reducible refine gate_dst (N := 4) rfl ?_); refine box_event ?hg (N := 4) ?hd (cs := #[.int .i64 a0_0, .slice A0_1 l0_1.length c0_1]) (t := 26) ?hr ?_; (case hd => rfl); (case hg => rfl); (case hr => first | (go_simp; done) | (go_simp; rfl)); intro gb646 hg w7 hbox hb; have BK646 := Aside0.mk (hbox); have GW646 := gH HB hg; have GE646 := gH HB hg; replace HB := sH HB hb; clear hb hbox hg; have hcz8_0 : w7.cell? ⟨gb646, 0, none⟩ = some (.int .i64 a0_0) := cB BK646 0; have hcz8_1 : w7.cell? ⟨gb646, 1, none⟩ = some (.slice A0_1 l0_1.length c0_1) := cB BK646 1; have hfz8_0 := zB BK646 0; have hfz8_1 := zB BK646 1) | ((with_reducible refine gate_callee (f := 118) rfl ?_); refine cl_ (some 12) Try.func118 #[.agg #[.int .i64 a0_0, .slice A0_1 l0_1.length c0_1], .slice A1 l1.length c1, .slice none 0 0] ?_; (refine (spec_l02Code.calls k a0_0 _ _ l0_1 _ _ l1 _ _ ([] : List Int) t647 _ ?side1 ?side2 ?side3 ?side4 ?side5 ?side6 A5.out).mono ?_); (case side1 => exact pC ((Kd.C_below HR0_1.out HB.out))); (case side2 => exact HC0_1.out); (case side3 => exact pC ((Kd.C_below HR1.out HB.out))); (case side4 => exact HC1.out); (case side5 => exact Kd.C_nil _ _); (case side6 => exact Nat.le_refl _); rintro e w9 ⟨rfl, hb⟩; refine ⟨_, rfl, ?_⟩; replace BK646 := sB BK646 hb; replace HB := sH HB hb; (try clear hb); (try clear hi)))
 (try simp only [Act.put, List.setIfInBounds_toArray, List.set_cons_zero, List.set_cons_succ])
 go_cut [36] (fun v36 wc => ∃ (kq : Nat) (x36_5 : Bool), v36 = .bool x36_5 ∧ Aside0 (spec_l06Given.j0 kq l1 t647 x36_5 = some r) ∧ Aside0 (kq ≤ k) ∧ Aside0 (wc.heap[gb646]? = some (.cells #[.int .i64 a0_0, (.slice A0_1 l0_1.length c0_1)] 26 (0, 0))) ∧ Aside0 (Below w.heap.size w wc))
 case first =>
  have H := HC6.out
  clear HC6
  by_cases c10 : t647 = 0
  ·rw [if_pos c10] at H
   have c10b0 : (t647 == 0) = true := beq_iff_eq.mpr c10
   have c10b1 : (t647 != 0) = false := bne_eq_false_iff_eq.mpr c10
   clear c10
   (first | rw [c10b0] | (simp only [i64_w, i32_w]; rw [c10b0]) | skip)
   replace H := Option.bind_eq_some_iff.mp H
   obtain ⟨t648, A110, H⟩ := H
   try dsimp only at H
   have A11 := Aside0.mk A110
   clear A110
   by_cases c12 : t648 = true
   ·subst c12
    have H1 : ((spec_l06Critical.f k a0_0 l0_1 l1 a3).bind fun t649 => (if t649 = true then ((spec_l01Ones.f k a2).bind fun t650 => ((spec_l01Ones.f k a3).bind fun t651 => (spec_l06Given.j0 k l1 t647 (t650 != (wrap64 (t651 + 1)))))) else (spec_l06Given.j0 k l1 t647 true))) = some r := by rw [if_pos rfl] at H; exact H
    clear H
    have H := H1
    clear H1
    replace H := Option.bind_eq_some_iff.mp H
    obtain ⟨t649, A130, H⟩ := H
    try dsimp only at H
    have A13 := Aside0.mk A130
    clear A130
    by_cases c14 : t649 = true
    ·subst c14
     have H1 : ((spec_l01Ones.f k a2).bind fun t650 => ((spec_l01Ones.f k a3).bind fun t651 => (spec_l06Given.j0 k l1 t647 (t650 != (wrap64 (t651 + 1)))))) = some r := by rw [if_pos rfl] at H; exact H
     clear H
     have H := H1
     clear H1
     replace H := Option.bind_eq_some_iff.mp H
     obtain ⟨t650, A150, H⟩ := H
     try dsimp only at H
     have A15 := Aside0.mk A150
     clear A150
     replace H := Option.bind_eq_some_iff.mp H
     obtain ⟨t651, A160, H⟩ := H
     try dsimp only at H
     have A16 := Aside0.mk A160
     clear A160
     have H' := Aside0.mk H
     clear H
     have hcz17_0 : w9.cell? ⟨gb646, 0, none⟩ = some (.int .i64 a0_0) := cB BK646 0
     have hcz17_1 : w9.cell? ⟨gb646, 1, none⟩ = some (.slice A0_1 l0_1.length c0_1) := cB BK646 1
     have hfz17_0 := zB BK646 0
     have hfz17_1 := zB BK646 1
     go_wp2_with (first | (go_at_call 169; (with_reducible refine (spec_l06Critical.calls k a0_0 _ _ l0_1 _ _ l1 a2 true _ ?side1 ?side2 ?side3 ?side4 A11.out).mono ?_); (case side1 => exact pC ((Kd.C_below HR0_1.out HB.out))); (case side2 => exact HC0_1.out); (case side3 => exact pC ((Kd.C_below HR1.out HB.out))); (case side4 => exact HC1.out); rintro e w18 ⟨rfl, hb⟩; replace BK646 := sB BK646 hb; replace HB := sH HB hb; (try clear hb); (try clear hi); have hcz19_0 : w18.cell? ⟨gb646, 0, none⟩ = some (.int .i64 a0_0) := cB BK646 0; have hcz19_1 : w18.cell? ⟨gb646, 1, none⟩ = some (.slice A0_1 l0_1.length c0_1) := cB BK646 1; have hfz19_0 := zB BK646 0; have hfz19_1 := zB BK646 1) | (go_at_call 169; (with_reducible refine (spec_l06Critical.calls k a0_0 _ _ l0_1 _ _ l1 a3 true _ ?side1 ?side2 ?side3 ?side4 A13.out).mono ?_); (case side1 => exact pC ((Kd.C_below HR0_1.out HB.out))); (case side2 => exact HC0_1.out); (case side3 => exact pC ((Kd.C_below HR1.out HB.out))); (case side4 => exact HC1.out); rintro e w20 ⟨rfl, hb⟩; replace BK646 := sB BK646 hb; replace HB := sH HB hb; (try clear hb); (try clear hi)) | (go_at_call 137; (with_reducible refine (spec_l01Ones.calls k a2 t650 _ A15.out).mono ?_); rintro e w' ⟨rfl, ⟨nd, rfl⟩⟩) | (go_at_call 137; (with_reducible refine (spec_l01Ones.calls k a3 t651 _ A16.out).mono ?_); rintro e w' ⟨rfl, ⟨nd, rfl⟩⟩))
     go_meet
     case rel => exact ⟨_, ((t650 != (wrap64 (t651 + 1)))), (by first | rfl | (simp; done) | (simp [*]; done)), H', ⟨by first | omega | exact Nat.le_refl _⟩, ⟨pB BK646⟩, ⟨pH HB⟩⟩
    ·replace c14 := Bool.eq_false_iff.mpr c14
     subst c14
     have H1 : (spec_l06Given.j0 k l1 t647 true) = some r := by rw [if_neg (show ¬ (false = true) by decide)] at H; exact H
     clear H
     have H := H1
     clear H1
     have H' := Aside0.mk H
     clear H
     have hcz21_0 : w9.cell? ⟨gb646, 0, none⟩ = some (.int .i64 a0_0) := cB BK646 0
     have hcz21_1 : w9.cell? ⟨gb646, 1, none⟩ = some (.slice A0_1 l0_1.length c0_1) := cB BK646 1
     have hfz21_0 := zB BK646 0
     have hfz21_1 := zB BK646 1
     go_wp2_with (first | (go_at_call 169; (with_reducible refine (spec_l06Critical.calls k a0_0 _ _ l0_1 _ _ l1 a2 true _ ?side1 ?side2 ?side3 ?side4 A11.out).mono ?_); (case side1 => exact pC ((Kd.C_below HR0_1.out HB.out))); (case side2 => exact HC0_1.out); (case side3 => exact pC ((Kd.C_below HR1.out HB.out))); (case side4 => exact HC1.out); rintro e w22 ⟨rfl, hb⟩; replace BK646 := sB BK646 hb; replace HB := sH HB hb; (try clear hb); (try clear hi); have hcz23_0 : w22.cell? ⟨gb646, 0, none⟩ = some (.int .i64 a0_0) := cB BK646 0; have hcz23_1 : w22.cell? ⟨gb646, 1, none⟩ = some (.slice A0_1 l0_1.length c0_1) := cB BK646 1; have hfz23_0 := zB BK646 0; have hfz23_1 := zB BK646 1) | (go_at_call 169; (with_reducible refine (spec_l06Critical.calls k a0_0 _ _ l0_1 _ _ l1 a3 false _ ?side1 ?side2 ?side3 ?side4 A13.out).mono ?_); (case side1 => exact pC ((Kd.C_below HR0_1.out HB.out))); (case side2 => exact HC0_1.out); (case side3 => exact pC ((Kd.C_below HR1.out HB.out))); (case side4 => exact HC1.out); rintro e w24 ⟨rfl, hb⟩; replace BK646 := sB BK646 hb; replace HB := sH HB hb; (try clear hb); (try clear hi)))
     go_meet
     case rel => exact ⟨_, (true), (by first | rfl | (simp; done) | (simp [*]; done)), H', ⟨by first | omega | exact Nat.le_refl _⟩, ⟨pB BK646⟩, ⟨pH HB⟩⟩
   ·replace c12 := Bool.eq_false_iff.mpr c12
    subst c12
    have H1 : (spec_l06Given.j0 k l1 t647 true) = some r := by rw [if_neg (show ¬ (false = true) by decide)] at H; exact H
    clear H
    have H := H1
    clear H1
    have H' := Aside0.mk H
    clear H
    have hcz25_0 : w9.cell? ⟨gb646, 0, none⟩ = some (.int .i64 a0_0) := cB BK646 0
    have hcz25_1 : w9.cell? ⟨gb646, 1, none⟩ = some (.slice A0_1 l0_1.length c0_1) := cB BK646 1
    have hfz25_0 := zB BK646 0
    have hfz25_1 := zB BK646 1
    go_wp2_with (first | (go_at_call 169; (with_reducible refine (spec_l06Critical.calls k a0_0 _ _ l0_1 _ _ l1 a2 false _ ?side1 ?side2 ?side3 ?side4 A11.out).mono ?_); (case side1 => exact pC ((Kd.C_below HR0_1.out HB.out))); (case side2 => exact HC0_1.out); (case side3 => exact pC ((Kd.C_below HR1.out HB.out))); (case side4 => exact HC1.out); rintro e w26 ⟨rfl, hb⟩; replace BK646 := sB BK646 hb; replace HB := sH HB hb; (try clear hb); (try clear hi)))
    go_meet
    case rel => exact ⟨_, (true), (by first | rfl | (simp; done) | (simp [*]; done)), H', ⟨by first | omega | exact Nat.le_refl _⟩, ⟨pB BK646⟩, ⟨pH HB⟩⟩
  ·rw [if_neg c10] at H
   have c10b0 : (t647 == 0) = false := beq_eq_false_iff_ne.mpr c10
   have c10b1 : (t647 != 0) = true := bne_iff_ne.mpr c10
   (first | rw [c10b0] | (simp only [i64_w, i32_w]; rw [c10b0]) | skip)
   have H' := Aside0.mk H
   clear H
   go_wp2
   go_meet
   case rel => exact ⟨_, (false), (by first | rfl | (simp; done) | (simp [*]; done)), H', ⟨by first | omega | exact Nat.le_refl _⟩, ⟨pB BK646⟩, ⟨pH HB⟩⟩
 case rest =>
  clear HC6
  try clear c1
  try clear p2
  try clear p6
  try clear c10
  try clear c10b0
  try clear c10b1
  try clear c11
  try clear c12
  try clear c14
  try clear hcz17_0
  try clear hcz17_1
  try clear hcz19_0
  try clear hcz19_1
  try clear hcz21_0
  try clear hcz21_1
  try clear hcz23_0
  try clear hcz23_1
  try clear hcz25_0
  try clear hcz25_1
  try clear hcz8_0
  try clear hcz8_1
  try clear hfz17_0
  try clear hfz17_1
  try clear hfz19_0
  try clear hfz19_1
  try clear hfz21_0
  try clear hfz21_1
  try clear hfz23_0
  try clear hfz23_1
  try clear hfz25_0
  try clear hfz25_1
  try clear hfz8_0
  try clear hfz8_1
  obtain ⟨kq, x36_5, rfl, HA, HJ5, BK646, HB⟩ := hcut
  cases kq with
  | zero => exact absurd HA.out (by simp [spec_l06Given.j0])
  | succ kj5 =>
   have H := HA.out
   clear HA
   simp only [spec_l06Given.j0] at H
   by_cases c27 : x36_5 = true
   ·subst c27
    have H1 : (if 2 = 0 then ((spec_l02Acyclic.f kj5 l1).bind fun t652 => (if t652 = true then (some 2) else (some 5))) else (some 2)) = some r := by rw [if_pos rfl] at H; exact H
    clear H
    have H := H1
    clear H1
    by_cases c28 : 2 = 0
    ·rw [if_pos c28] at H
     have c28b0 : (2 == 0) = true := beq_iff_eq.mpr c28
     have c28b1 : (2 != 0) = false := bne_eq_false_iff_eq.mpr c28
     clear c28
     replace H := Option.bind_eq_some_iff.mp H
     obtain ⟨t652, A290, H⟩ := H
     try dsimp only at H
     have A29 := Aside0.mk A290
     clear A290
     by_cases c30 : t652 = true
     ·subst c30
      have H1 : (some 2) = some r := by rw [if_pos rfl] at H; exact H
      clear H
      have H := H1
      clear H1
      obtain rfl := Option.some.inj H
      go_wp2_with (first | (go_at_call 119; (with_reducible refine (spec_l02Acyclic.calls kj5 _ _ l1 true _ ?side1 ?side2 A29.out).mono ?_); (case side1 => exact pC ((Kd.C_below HR1.out HB.out))); (case side2 => exact HC1.out); rintro e w31 ⟨rfl, hb⟩; replace BK646 := sB BK646 hb; replace HB := sH HB hb; (try clear hb); (try clear hi)))
      go_ret
      exact ⟨by first | rfl | (simp [errW_none, errW_some] <;> rfl) | (simp [*, errW_none, errW_some] <;> rfl) | (exfalso; simp_all), pH HB⟩
     ·replace c30 := Bool.eq_false_iff.mpr c30
      subst c30
      have H1 : (some 5) = some r := by rw [if_neg (show ¬ (false = true) by decide)] at H; exact H
      clear H
      have H := H1
      clear H1
      obtain rfl := Option.some.inj H
      go_wp2_with (first | (go_at_call 119; (with_reducible refine (spec_l02Acyclic.calls kj5 _ _ l1 false _ ?side1 ?side2 A29.out).mono ?_); (case side1 => exact pC ((Kd.C_below HR1.out HB.out))); (case side2 => exact HC1.out); rintro e w32 ⟨rfl, hb⟩; replace BK646 := sB BK646 hb; replace HB := sH HB hb; (try clear hb); (try clear hi)))
      go_ret
      exact ⟨by first | rfl | (simp [errW_none, errW_some] <;> rfl) | (simp [*, errW_none, errW_some] <;> rfl) | (exfalso; simp_all), pH HB⟩
    ·rw [if_neg c28] at H
     have c28b0 : (2 == 0) = false := beq_eq_false_iff_ne.mpr c28
     have c28b1 : (2 != 0) = true := bne_iff_ne.mpr c28
     obtain rfl := Option.some.inj H
     go_wp2
     go_ret
     exact ⟨by first | rfl | (simp [errW_none, errW_some] <;> rfl) | (simp [*, errW_none, errW_some] <;> rfl) | (exfalso; simp_all), pH HB⟩
   ·replace c27 := Bool.eq_false_iff.mpr c27
    subst c27
    have H1 : (if t647 = 0 then ((spec_l02Acyclic.f kj5 l1).bind fun t653 => (if t653 = true then (some t647) else (some 5))) else (some t647)) = some r := by rw [if_neg (show ¬ (false = true) by decide)] at H; exact H
    clear H
    have H := H1
    clear H1
    by_cases c33 : t647 = 0
    ·rw [if_pos c33] at H
     have c33b0 : (t647 == 0) = true := beq_iff_eq.mpr c33
     have c33b1 : (t647 != 0) = false := bne_eq_false_iff_eq.mpr c33
     clear c33
     replace H := Option.bind_eq_some_iff.mp H
     obtain ⟨t653, A340, H⟩ := H
     try dsimp only at H
     have A34 := Aside0.mk A340
     clear A340
     by_cases c35 : t653 = true
     ·subst c35
      have H1 : (some t647) = some r := by rw [if_pos rfl] at H; exact H
      clear H
      have H := H1
      clear H1
      obtain rfl := Option.some.inj H
      go_wp2_with (first | (go_at_call 119; (with_reducible refine (spec_l02Acyclic.calls kj5 _ _ l1 true _ ?side1 ?side2 A34.out).mono ?_); (case side1 => exact pC ((Kd.C_below HR1.out HB.out))); (case side2 => exact HC1.out); rintro e w36 ⟨rfl, hb⟩; replace BK646 := sB BK646 hb; replace HB := sH HB hb; (try clear hb); (try clear hi)))
      go_ret
      exact ⟨by first | rfl | (simp [errW_none, errW_some] <;> rfl) | (simp [*, errW_none, errW_some] <;> rfl) | (exfalso; simp_all), pH HB⟩
     ·replace c35 := Bool.eq_false_iff.mpr c35
      subst c35
      have H1 : (some 5) = some r := by rw [if_neg (show ¬ (false = true) by decide)] at H; exact H
      clear H
      have H := H1
      clear H1
      obtain rfl := Option.some.inj H
      go_wp2_with (first | (go_at_call 119; (with_reducible refine (spec_l02Acyclic.calls kj5 _ _ l1 false _ ?side1 ?side2 A34.out).mono ?_); (case side1 => exact pC ((Kd.C_below HR1.out HB.out))); (case side2 => exact HC1.out); rintro e w37 ⟨rfl, hb⟩; replace BK646 := sB BK646 hb; replace HB := sH HB hb; (try clear hb); (try clear hi)))
      go_ret
      exact ⟨by first | rfl | (simp [errW_none, errW_some] <;> rfl) | (simp [*, errW_none, errW_some] <;> rfl) | (exfalso; simp_all), pH HB⟩
    ·rw [if_neg c33] at H
     have c33b0 : (t647 == 0) = false := beq_eq_false_iff_ne.mpr c33
     have c33b1 : (t647 != 0) = true := bne_iff_ne.mpr c33
     obtain rfl := Option.some.inj H
     go_wp2
     go_ret
     exact ⟨by first | rfl | (simp [errW_none, errW_some] <;> rfl) | (simp [*, errW_none, errW_some] <;> rfl) | (exfalso; simp_all), pH HB⟩
end Go.Proofs.Ytnmhnkpijjmhjaa.QS
namespace Go.Proofs.Ytnmhnkpijjmhjaa.QS
open Go.Proofs.Ytnmhnkpijjmhjaa.Cw Go.Proofs.Ytnmhnkpijjmhjaa.Kp Go.Proofs.Ytnmhnkpijjmhjaa.Ext Go.RowKit Go.Proofs.YtnmhnkpijjmhjaaW.PrintWords Go.Proofs.YtnmhnkpijjmhjaaW.PrintLast Go.Proofs.YtnmhnkpijjmhjaaW.PrintMore
attribute [local go_sem] max2_int min2_int max_two min_two max_three min_three max_four min_four   -- for this text's walks alone
set_option linter.unusedVariables false
set_option linter.unusedSimpArgs false
def spec_WaysBetween.f (k : Nat) (a0_0 : Int) (l0_1 : List Int) (l1 : List (S76)) (a2 : Int) (a3 : Int) : Option (Int × Int) := (spec_l06Given.f k a0_0 l0_1 l1 a2 a3).bind fun t665 => (if t665 = 0 then ((spec_l06Between.f k l1 a2 a3).bind fun t666 => (some (t666, 0))) else (some (0, t665)))
set_option maxHeartbeats 8000000 in
set_option maxRecDepth 100000 in
theorem spec_WaysBetween.calls (k : Nat) (a0_0 : Int) (A0_1 : Option Addr) (c0_1 : Nat) (l0_1 : List Int) (A1 : Option Addr) (c1 : Nat) (l1 : List (S76)) (a2 : Int) (a3 : Int) (r1 : Int) (r2 : Int) (w : World) (hr0_1 : Kd.C (Kd.int .i64) w A0_1 l0_1.length l0_1) (hc0_1 : l0_1.length ≤ c0_1) (hr1 : Kd.C k76 w A1 l1.length l1) (hc1 : l1.length ≤ c1) (h : spec_WaysBetween.f k a0_0 l0_1 l1 a2 a3 = some (r1, r2)) :
  Calls Try.prog 46 #[.agg #[.int .i64 a0_0, .slice A0_1 l0_1.length c0_1], .slice A1 l1.length c1, .int .i64 a2, .int .i64 a3] w fun e w' => e = .returned (.tuple #[.int .i64 r1, .int .i64 r2]) ∧ Below w.heap.size w w' := by
 have hu26 := Try.underlying26
 have HR0_1 := Aside0.mk hr0_1
 have HC0_1 := Aside0.mk hc0_1
 clear hr0_1 hc0_1
 have HR1 := Aside0.mk hr1
 have HC1 := Aside0.mk hc1
 clear hr1 hc1
 have HB := Aside0.mk (Below.refl w.heap.size w)
 have H : ((spec_l06Given.f k a0_0 l0_1 l1 a2 a3).bind fun t665 => (if t665 = 0 then ((spec_l06Between.f k l1 a2 a3).bind fun t666 => (some (t666, 0))) else (some (0, t665)))) = some (r1, r2) := h
 clear h
 replace H := Option.bind_eq_some_iff.mp H
 obtain ⟨t665, A50, H⟩ := H
 try dsimp only at H
 have A5 := Aside0.mk A50
 clear A50
 by_cases c6 : t665 = 0
 ·rw [if_pos c6] at H
  have c6b0 : (t665 == 0) = true := beq_iff_eq.mpr c6
  have c6b1 : (t665 != 0) = false := bne_eq_false_iff_eq.mpr c6
  clear c6
  replace H := Option.bind_eq_some_iff.mp H
  obtain ⟨t666, A70, H⟩ := H
  try dsimp only at H
  have A7 := Aside0.mk A70
  clear A70
  simp only [Option.some.injEq, Prod.mk.injEq] at H
  obtain ⟨rfl, rfl⟩ := H
  go_enter Try.func46, Try.ntmps46
  go_wp2_with (first | ((with_reducible refine gate_dst (N := 4) rfl ?_); refine box_event ?hg (N := 4) ?hd (cs := #[.int .i64 a0_0, .slice A0_1 l0_1.length c0_1]) (t := 26) ?hr ?_; (case hd => rfl); (case hg => rfl); (case hr => first | (go_simp; done) | (go_simp; rfl)); intro gb664 hg w8 hbox hb; have BK664 := Aside0.mk (hbox); have GW664 := gH HB hg; have GE664 := gH HB hg; replace HB := sH HB hb; clear hb hbox hg; have hcz9_0 : w8.cell? ⟨gb664, 0, none⟩ = some (.int .i64 a0_0) := cB BK664 0; have hcz9_1 : w8.cell? ⟨gb664, 1, none⟩ = some (.slice A0_1 l0_1.length c0_1) := cB BK664 1; have hfz9_0 := zB BK664 0; have hfz9_1 := zB BK664 1) | ((with_reducible refine gate_callee (f := 113) rfl ?_); refine cl_ (some 15) Try.func113 #[.agg #[.int .i64 a0_0, .slice A0_1 l0_1.length c0_1], .slice A1 l1.length c1, .int .i64 a2, .int .i64 a3] ?_; (with_reducible refine (spec_l06Given.calls k a0_0 _ _ l0_1 _ _ l1 a2 a3 t665 _ ?side1 ?side2 ?side3 ?side4 A5.out).mono ?_); (case side1 => exact pC ((Kd.C_below HR0_1.out HB.out))); (case side2 => exact HC0_1.out); (case side3 => exact pC ((Kd.C_below HR1.out HB.out))); (case side4 => exact HC1.out); rintro e w10 ⟨rfl, hb⟩; refine ⟨_, rfl, ?_⟩; replace BK664 := sB BK664 hb; replace HB := sH HB hb; (try clear hb); (try clear hi)) | ((with_reducible refine gate_callee (f := 114) rfl ?_); refine cl_ (some 22) Try.func114 #[.slice A1 l1.length c1, .int .i64 a2, .int .i64 a3] ?_; (with_reducible refine (spec_l06Between.calls k _ _ l1 a2 a3 t666 _ ?side1 ?side2 A7.out).mono ?_); (case side1 => exact pC ((Kd.C_below HR1.out HB.out))); (case side2 => exact HC1.out); rintro e w11 ⟨rfl, hb⟩; refine ⟨_, rfl, ?_⟩; replace BK664 := sB BK664 hb; replace HB := sH HB hb; (try clear hb); (try clear hi)))
  go_ret2
  exact ⟨by first | rfl | (simp [errW_none, errW_some] <;> rfl) | (simp [*, errW_none, errW_some] <;> rfl) | (exfalso; simp_all), pH HB⟩
 ·rw [if_neg c6] at H
  have c6b0 : (t665 == 0) = false := beq_eq_false_iff_ne.mpr c6
  have c6b1 : (t665 != 0) = true := bne_iff_ne.mpr c6
  simp only [Option.some.injEq, Prod.mk.injEq] at H
  obtain ⟨rfl, rfl⟩ := H
  go_enter Try.func46, Try.ntmps46
  go_wp2_with (first | ((with_reducible refine gate_dst (N := 4) rfl ?_); refine box_event ?hg (N := 4) ?hd (cs := #[.int .i64 a0_0, .slice A0_1 l0_1.length c0_1]) (t := 26) ?hr ?_; (case hd => rfl); (case hg => rfl); (case hr => first | (go_simp; done) | (go_simp; rfl)); intro gb664 hg w12 hbox hb; have BK664 := Aside0.mk (hbox); have GW664 := gH HB hg; have GE664 := gH HB hg; replace HB := sH HB hb; clear hb hbox hg; have hcz13_0 : w12.cell? ⟨gb664, 0, none⟩ = some (.int .i64 a0_0) := cB BK664 0; have hcz13_1 : w12.cell? ⟨gb664, 1, none⟩ = some (.slice A0_1 l0_1.length c0_1) := cB BK664 1; have hfz13_0 := zB BK664 0; have hfz13_1 := zB BK664 1) | ((with_reducible refine gate_callee (f := 113) rfl ?_); refine cl_ (some 15) Try.func113 #[.agg #[.int .i64 a0_0, .slice A0_1 l0_1.length c0_1], .slice A1 l1.length c1, .int .i64 a2, .int .i64 a3] ?_; (with_reducible refine (spec_l06Given.calls k a0_0 _ _ l0_1 _ _ l1 a2 a3 t665 _ ?side1 ?side2 ?side3 ?side4 A5.out).mono ?_); (case side1 => exact pC ((Kd.C_below HR0_1.out HB.out))); (case side2 => exact HC0_1.out); (case side3 => exact pC ((Kd.C_below HR1.out HB.out))); (case side4 => exact HC1.out); rintro e w14 ⟨rfl, hb⟩; refine ⟨_, rfl, ?_⟩; replace BK664 := sB BK664 hb; replace HB := sH HB hb; (try clear hb); (try clear hi)))
  go_ret2
  exact ⟨by first | rfl | (simp [errW_none, errW_some] <;> rfl) | (simp [*, errW_none, errW_some] <;> rfl) | (exfalso; simp_all), pH HB⟩
end Go.Proofs.Ytnmhnkpijjmhjaa.QS
namespace Go.Proofs.Ytnmhnkpijjmhjaa.QS
open Go.Proofs.Ytnmhnkpijjmhjaa.Cw Go.Proofs.Ytnmhnkpijjmhjaa.Kp Go.Proofs.Ytnmhnkpijjmhjaa.Ext Go.RowKit Go.Proofs.YtnmhnkpijjmhjaaW.PrintWords Go.Proofs.YtnmhnkpijjmhjaaW.PrintLast Go.Proofs.YtnmhnkpijjmhjaaW.PrintMore
attribute [local go_sem] max2_int min2_int max_two min_two max_three min_three max_four min_four   -- for this text's walks alone
set_option linter.unusedVariables false
set_option linter.unusedSimpArgs false
def laws_eqInt64S.l0 : Nat → List Int → List Int → Int → Option (Bool)
 | 0, _, _, _ => none
 | k + 1, x0, x1, x5 => if x5 < (x0.length : Int) then (if 0 ≤ x5 then (if x5 < (x1.length : Int) then (if (rd x0 x5) = (rd x1 x5) then (laws_eqInt64S.l0 k x0 x1 (wrap64 (x5 + 1))) else (some false)) else (none)) else (none)) else (some true)
def laws_eqInt64S.f (k : Nat) (l0 : List Int) (l1 : List Int) : Option (Bool) := if (l0.length : Int) = (l1.length : Int) then (laws_eqInt64S.l0 k l0 l1 0) else (some false)
set_option maxHeartbeats 8000000 in
set_option maxRecDepth 100000 in
theorem laws_eqInt64S.calls (k : Nat) (A0 : Option Addr) (c0 : Nat) (l0 : List Int) (A1 : Option Addr) (c1 : Nat) (l1 : List Int) (r : Bool) (w : World) (hr0 : Kd.C (Kd.int .i64) w A0 l0.length l0) (hc0 : l0.length ≤ c0) (hr1 : Kd.C (Kd.int .i64) w A1 l1.length l1) (hc1 : l1.length ≤ c1) (h : laws_eqInt64S.f k l0 l1 = some r) :
  Calls Try.prog 33 #[.slice A0 l0.length c0, .slice A1 l1.length c1] w fun e w' => e = .returned (.bool r) ∧ Drawn0 w w' := by
 have HR0 := Aside0.mk hr0
 have HC0 := Aside0.mk hc0
 clear hr0 hc0
 have HR1 := Aside0.mk hr1
 have HC1 := Aside0.mk hc1
 clear hr1 hc1
 have H : (if (l0.length : Int) = (l1.length : Int) then (laws_eqInt64S.l0 k l0 l1 0) else (some false)) = some r := h
 clear h
 by_cases c3 : (l0.length : Int) = (l1.length : Int)
 ·rw [if_pos c3] at H
  have c3b0 : ((l0.length : Int) == (l1.length : Int)) = true := beq_iff_eq.mpr c3
  have c3b1 : ((l0.length : Int) != (l1.length : Int)) = false := bne_eq_false_iff_eq.mpr c3
  have c3b2 : (l0.length == l1.length) = true := by first | simpa using c3 | (simp at c3 ⊢; omega)
  clear c3
  have H' := Aside0.mk H
  clear H
  go_enter Try.func33, Try.ntmps33
  go_wp2
  repeat (go_quiet (fail); try go_wp2)
  go_loopg [5] k (fun kq v5 w' => ∃ (x5_1 : Int), v5 = .int .i64 x5_1 ∧ Aside0 (laws_eqInt64S.l0 kq l0 l1 x5_1 = some r) ∧ Aside0 (kq ≤ k) ∧ Drawn0 w w')
  case atStart => exact ⟨(0), (by first | rfl | (simp; done) | (simp [*]; done)), H', ⟨Nat.le_refl _⟩, by repeat (first | exact Drawn0.refl _ | apply Drawn0.step)⟩
  case round =>
   clear H'
   try clear c1
   try clear p2
   try clear c3
   try clear c3b0
   try clear c3b1
   try clear c3b2
   obtain ⟨x5_1, rfl, HA, HK1, ⟨m1, rfl⟩⟩ := hrel
   cases gk with
   | zero => exact absurd HA.out (by simp [laws_eqInt64S.l0])
   | succ k1 =>
    have H := HA.out
    clear HA
    simp only [laws_eqInt64S.l0] at H
    by_cases c4 : x5_1 < (l0.length : Int)
    ·rw [if_pos c4] at H
     have c4b0 : decide (x5_1 < (l0.length : Int)) = true := decide_eq_true c4
     clear c4
     by_cases c5 : 0 ≤ x5_1
     ·rw [if_pos c5] at H
      have c5b0 : decide (0 ≤ x5_1) = true := decide_eq_true c5
      clear c5
      by_cases c6 : x5_1 < (l1.length : Int)
      ·rw [if_pos c6] at H
       have c6b0 : decide (x5_1 < (l1.length : Int)) = true := decide_eq_true c6
       clear c6
       by_cases c7 : (rd l0 x5_1) = (rd l1 x5_1)
       ·rw [if_pos c7] at H
        have c7b0 : ((rd l0 x5_1) == (rd l1 x5_1)) = true := beq_iff_eq.mpr c7
        have c7b1 : ((rd l0 x5_1) != (rd l1 x5_1)) = false := bne_eq_false_iff_eq.mpr c7
        clear c7
        have H' := Aside0.mk H
        clear H
        have p114 : 0 ≤ (x5_1 : Int) := of_decide_eq_true (by first | (with_reducible assumption) | assumption)
        have q114 : x5_1 < (l0.length : Int) := of_decide_eq_true (by first | (with_reducible assumption) | assumption)
        obtain ⟨ad114, e114, hx114_0⟩ := Kd.at_int HR0.out x5_1 p114 q114
        cases e114
        replace p114 := eq_true p114
        replace q114 := eq_true q114
        have p115 : 0 ≤ (x5_1 : Int) := of_decide_eq_true (by first | (with_reducible assumption) | assumption)
        have q115 : x5_1 < (l1.length : Int) := of_decide_eq_true (by first | (with_reducible assumption) | assumption)
        obtain ⟨ad115, e115, hx115_0⟩ := Kd.at_int HR1.out x5_1 p115 q115
        cases e115
        replace p115 := eq_true p115
        replace q115 := eq_true q115
        go_wp2
        repeat (go_quiet (fail); try go_wp2)
        go_roundg k1
        case measure => have := HK1.out; omega
        case rel => exact ⟨(wrap64 (x5_1 + 1)), (by first | rfl | (simp; done) | (simp [*]; done)), H', ⟨by have := HK1.out; omega⟩, by repeat (first | exact Drawn0.refl _ | apply Drawn0.step)⟩
       ·rw [if_neg c7] at H
        have c7b0 : ((rd l0 x5_1) == (rd l1 x5_1)) = false := beq_eq_false_iff_ne.mpr c7
        have c7b1 : ((rd l0 x5_1) != (rd l1 x5_1)) = true := bne_iff_ne.mpr c7
        obtain rfl := Option.some.inj H
        have p114 : 0 ≤ (x5_1 : Int) := of_decide_eq_true (by first | (with_reducible assumption) | assumption)
        have q114 : x5_1 < (l0.length : Int) := of_decide_eq_true (by first | (with_reducible assumption) | assumption)
        obtain ⟨ad114, e114, hx114_0⟩ := Kd.at_int HR0.out x5_1 p114 q114
        cases e114
        replace p114 := eq_true p114
        replace q114 := eq_true q114
        have p115 : 0 ≤ (x5_1 : Int) := of_decide_eq_true (by first | (with_reducible assumption) | assumption)
        have q115 : x5_1 < (l1.length : Int) := of_decide_eq_true (by first | (with_reducible assumption) | assumption)
        obtain ⟨ad115, e115, hx115_0⟩ := Kd.at_int HR1.out x5_1 p115 q115
        cases e115
        replace p115 := eq_true p115
        replace q115 := eq_true q115
        go_wp2
        repeat (go_quiet (fail); try go_wp2)
        go_ret
        exact ⟨by first | rfl | (simp; done) | (simp [*]; done), by repeat (first | exact Drawn0.refl _ | apply Drawn0.step)⟩
      ·rw [if_neg c6] at H
       exact absurd H (by simp)
     ·rw [if_neg c5] at H
      exact absurd H (by simp)
    ·rw [if_neg c4] at H
     have c4b0 : decide (x5_1 < (l0.length : Int)) = false := decide_eq_false c4
     clear c4
     obtain rfl := Option.some.inj H
     go_wp2
     repeat (go_quiet (fail); try go_wp2)
     go_ret
     exact ⟨by first | rfl | (simp; done) | (simp [*]; done), by repeat (first | exact Drawn0.refl _ | apply Drawn0.step)⟩
 ·rw [if_neg c3] at H
  have c3b0 : ((l0.length : Int) == (l1.length : Int)) = false := beq_eq_false_iff_ne.mpr c3
  have c3b1 : ((l0.length : Int) != (l1.length : Int)) = true := bne_iff_ne.mpr c3
  have c3b2 : (l0.length == l1.length) = false := by first | simpa using c3 | (simp at c3 ⊢; omega)
  obtain rfl := Option.some.inj H
  go_enter Try.func33, Try.ntmps33
  go_wp2
  repeat (go_quiet (fail); try go_wp2)
  go_ret
  exact ⟨by first | rfl | (simp; done) | (simp [*]; done), by repeat (first | exact Drawn0.refl _ | apply Drawn0.step)⟩
end Go.Proofs.Ytnmhnkpijjmhjaa.QS
namespace Go.Proofs.Ytnmhnkpijjmhjaa.QS
open Go.Proofs.Ytnmhnkpijjmhjaa.Cw Go.Proofs.Ytnmhnkpijjmhjaa.Kp Go.Proofs.Ytnmhnkpijjmhjaa.Ext Go.RowKit Go.Proofs.YtnmhnkpijjmhjaaW.PrintWords Go.Proofs.YtnmhnkpijjmhjaaW.PrintLast Go.Proofs.YtnmhnkpijjmhjaaW.PrintMore
attribute [local go_sem] max2_int min2_int max_two min_two max_three min_three max_four min_four   -- for this text's walks alone
set_option linter.unusedVariables false
set_option linter.unusedSimpArgs false
def laws_eqComplex.f (k : Nat) (a0_0 : Int) (l0_1 : List Int) (a1_0 : Int) (l1_1 : List Int) : Option (Bool) := if a0_0 = a1_0 then ((laws_eqInt64S.f k l0_1 l1_1).bind fun t118 => (if t118 = true then (some true) else (some false))) else (some false)
set_option maxHeartbeats 8000000 in
set_option maxRecDepth 100000 in
theorem laws_eqComplex.calls (k : Nat) (a0_0 : Int) (A0_1 : Option Addr) (c0_1 : Nat) (l0_1 : List Int) (a1_0 : Int) (A1_1 : Option Addr) (c1_1 : Nat) (l1_1 : List Int) (r : Bool) (w : World) (hr0_1 : Kd.C (Kd.int .i64) w A0_1 l0_1.length l0_1) (hc0_1 : l0_1.length ≤ c0_1) (hr1_1 : Kd.C (Kd.int .i64) w A1_1 l1_1.length l1_1) (hc1_1 : l1_1.length ≤ c1_1) (h : laws_eqComplex.f k a0_0 l0_1 a1_0 l1_1 = some r) :
  Calls Try.prog 19 #[.agg #[.int .i64 a0_0, .slice A0_1 l0_1.length c0_1], .agg #[.int .i64 a1_0, .slice A1_1 l1_1.length c1_1]] w fun e w' => e = .returned (.bool r) ∧ Below w.heap.size w w' := by
 have hu26 := Try.underlying26
 have HR0_1 := Aside0.mk hr0_1
 have HC0_1 := Aside0.mk hc0_1
 clear hr0_1 hc0_1
 have HR1_1 := Aside0.mk hr1_1
 have HC1_1 := Aside0.mk hc1_1
 clear hr1_1 hc1_1
 have HB := Aside0.mk (Below.refl w.heap.size w)
 have H : (if a0_0 = a1_0 then ((laws_eqInt64S.f k l0_1 l1_1).bind fun t118 => (if t118 = true then (some true) else (some false))) else (some false)) = some r := h
 clear h
 by_cases c3 : a0_0 = a1_0
 ·rw [if_pos c3] at H
  have c3b0 : (a0_0 == a1_0) = true := beq_iff_eq.mpr c3
  have c3b1 : (a0_0 != a1_0) = false := bne_eq_false_iff_eq.mpr c3
  clear c3
  replace H := Option.bind_eq_some_iff.mp H
  obtain ⟨t118, A40, H⟩ := H
  try dsimp only at H
  have A4 := Aside0.mk A40
  clear A40
  by_cases c5 : t118 = true
  ·subst c5
   have H1 : (some true) = some r := by rw [if_pos rfl] at H; exact H
   clear H
   have H := H1
   clear H1
   obtain rfl := Option.some.inj H
   go_enter Try.func19, Try.ntmps19
   go_wp2_with (first | ((with_reducible refine gate_dst (N := 2) rfl ?_); refine box_event ?hg (N := 2) ?hd (cs := #[.int .i64 a0_0, .slice A0_1 l0_1.length c0_1]) (t := 26) ?hr ?_; (case hd => rfl); (case hg => rfl); (case hr => first | (go_simp; done) | (go_simp; rfl)); intro gb116 hg w6 hbox hb; have BK116 := Aside0.mk (hbox); have GW116 := gH HB hg; have GE116 := gH HB hg; replace HB := sH HB hb; clear hb hbox hg) | ((with_reducible refine gate_dst (N := 3) rfl ?_); refine box_event ?hg (N := 3) ?hd (cs := #[.int .i64 a1_0, .slice A1_1 l1_1.length c1_1]) (t := 26) ?hr ?_; (case hd => rfl); (case hg => rfl); (case hr => first | (go_simp; done) | (go_simp; rfl)); intro gb117 hg w7 hbox hb; have BK117 := Aside0.mk (hbox); have GW117 := gH HB hg; have GE117 := gH HB hg; replace HB := sH HB hb; have NB116_117 := nB BK116 hg; have NB117_116 := oB BK116 hg; replace BK116 := sB BK116 hb; clear hb hbox hg; (try have hnb8 := NB116_117.out); (try have hnc8 := NB117_116.out); have hcz9_0 : w7.cell? ⟨gb116, 0, none⟩ = some (.int .i64 a0_0) := cB BK116 0; have hcz9_1 : w7.cell? ⟨gb116, 1, none⟩ = some (.slice A0_1 l0_1.length c0_1) := cB BK116 1; have hfz9_0 := zB BK116 0; have hfz9_1 := zB BK116 1; have hcz10_0 : w7.cell? ⟨gb117, 0, none⟩ = some (.int .i64 a1_0) := cB BK117 0; have hcz10_1 : w7.cell? ⟨gb117, 1, none⟩ = some (.slice A1_1 l1_1.length c1_1) := cB BK117 1; have hfz10_0 := zB BK117 0; have hfz10_1 := zB BK117 1) | ((with_reducible refine gate_callee (f := 33) rfl ?_); refine cl_ (some 14) Try.func33 #[.slice A0_1 l0_1.length c0_1, .slice A1_1 l1_1.length c1_1] ?_; (with_reducible refine (laws_eqInt64S.calls k _ _ l0_1 _ _ l1_1 true _ ?side1 ?side2 ?side3 ?side4 A4.out).mono ?_); (case side1 => exact pC ((Kd.C_below HR0_1.out HB.out))); (case side2 => exact HC0_1.out); (case side3 => exact pC ((Kd.C_below HR1_1.out HB.out))); (case side4 => exact HC1_1.out); rintro e w' ⟨rfl, ⟨nd, rfl⟩⟩; refine ⟨_, rfl, ?_⟩))
   go_ret
   exact ⟨by first | rfl | (simp [errW_none, errW_some] <;> rfl) | (simp [*, errW_none, errW_some] <;> rfl), pH HB⟩
  ·replace c5 := Bool.eq_false_iff.mpr c5
   subst c5
   have H1 : (some false) = some r := by rw [if_neg (show ¬ (false = true) by decide)] at H; exact H
   clear H
   have H := H1
   clear H1
   obtain rfl := Option.some.inj H
   go_enter Try.func19, Try.ntmps19
   go_wp2_with (first | ((with_reducible refine gate_dst (N := 2) rfl ?_); refine box_event ?hg (N := 2) ?hd (cs := #[.int .i64 a0_0, .slice A0_1 l0_1.length c0_1]) (t := 26) ?hr ?_; (case hd => rfl); (case hg => rfl); (case hr => first | (go_simp; done) | (go_simp; rfl)); intro gb116 hg w11 hbox hb; have BK116 := Aside0.mk (hbox); have GW116 := gH HB hg; have GE116 := gH HB hg; replace HB := sH HB hb; clear hb hbox hg) | ((with_reducible refine gate_dst (N := 3) rfl ?_); refine box_event ?hg (N := 3) ?hd (cs := #[.int .i64 a1_0, .slice A1_1 l1_1.length c1_1]) (t := 26) ?hr ?_; (case hd => rfl); (case hg => rfl); (case hr => first | (go_simp; done) | (go_simp; rfl)); intro gb117 hg w12 hbox hb; have BK117 := Aside0.mk (hbox); have GW117 := gH HB hg; have GE117 := gH HB hg; replace HB := sH HB hb; have NB116_117 := nB BK116 hg; have NB117_116 := oB BK116 hg; replace BK116 := sB BK116 hb; clear hb hbox hg; (try have hnb13 := NB116_117.out); (try have hnc13 := NB117_116.out); have hcz14_0 : w12.cell? ⟨gb116, 0, none⟩ = some (.int .i64 a0_0) := cB BK116 0; have hcz14_1 : w12.cell? ⟨gb116, 1, none⟩ = some (.slice A0_1 l0_1.length c0_1) := cB BK116 1; have hfz14_0 := zB BK116 0; have hfz14_1 := zB BK116 1; have hcz15_0 : w12.cell? ⟨gb117, 0, none⟩ = some (.int .i64 a1_0) := cB BK117 0; have hcz15_1 : w12.cell? ⟨gb117, 1, none⟩ = some (.slice A1_1 l1_1.length c1_1) := cB BK117 1; have hfz15_0 := zB BK117 0; have hfz15_1 := zB BK117 1) | ((with_reducible refine gate_callee (f := 33) rfl ?_); refine cl_ (some 14) Try.func33 #[.slice A0_1 l0_1.length c0_1, .slice A1_1 l1_1.length c1_1] ?_; (with_reducible refine (laws_eqInt64S.calls k _ _ l0_1 _ _ l1_1 false _ ?side1 ?side2 ?side3 ?side4 A4.out).mono ?_); (case side1 => exact pC ((Kd.C_below HR0_1.out HB.out))); (case side2 => exact HC0_1.out); (case side3 => exact pC ((Kd.C_below HR1_1.out HB.out))); (case side4 => exact HC1_1.out); rintro e w' ⟨rfl, ⟨nd, rfl⟩⟩; refine ⟨_, rfl, ?_⟩))
   go_ret
   exact ⟨by first | rfl | (simp [errW_none, errW_some] <;> rfl) | (simp [*, errW_none, errW_some] <;> rfl), pH HB⟩
 ·rw [if_neg c3] at H
  have c3b0 : (a0_0 == a1_0) = false := beq_eq_false_iff_ne.mpr c3
  have c3b1 : (a0_0 != a1_0) = true := bne_iff_ne.mpr c3
  obtain rfl := Option.some.inj H
  go_enter Try.func19, Try.ntmps19
  go_wp2_with (first | ((with_reducible refine gate_dst (N := 2) rfl ?_); refine box_event ?hg (N := 2) ?hd (cs := #[.int .i64 a0_0, .slice A0_1 l0_1.length c0_1]) (t := 26) ?hr ?_; (case hd => rfl); (case hg => rfl); (case hr => first | (go_simp; done) | (go_simp; rfl)); intro gb116 hg w16 hbox hb; have BK116 := Aside0.mk (hbox); have GW116 := gH HB hg; have GE116 := gH HB hg; replace HB := sH HB hb; clear hb hbox hg) | ((with_reducible refine gate_dst (N := 3) rfl ?_); refine box_event ?hg (N := 3) ?hd (cs := #[.int .i64 a1_0, .slice A1_1 l1_1.length c1_1]) (t := 26) ?hr ?_; (case hd => rfl); (case hg => rfl); (case hr => first | (go_simp; done) | (go_simp; rfl)); intro gb117 hg w17 hbox hb; have BK117 := Aside0.mk (hbox); have GW117 := gH HB hg; have GE117 := gH HB hg; replace HB := sH HB hb; have NB116_117 := nB BK116 hg; have NB117_116 := oB BK116 hg; replace BK116 := sB BK116 hb; clear hb hbox hg; (try have hnb18 := NB116_117.out); (try have hnc18 := NB117_116.out); have hcz19_0 : w17.cell? ⟨gb116, 0, none⟩ = some (.int .i64 a0_0) := cB BK116 0; have hcz19_1 : w17.cell? ⟨gb116, 1, none⟩ = some (.slice A0_1 l0_1.length c0_1) := cB BK116 1; have hfz19_0 := zB BK116 0; have hfz19_1 := zB BK116 1; have hcz20_0 : w17.cell? ⟨gb117, 0, none⟩ = some (.int .i64 a1_0) := cB BK117 0; have hcz20_1 : w17.cell? ⟨gb117, 1, none⟩ = some (.slice A1_1 l1_1.length c1_1) := cB BK117 1; have hfz20_0 := zB BK117 0; have hfz20_1 := zB BK117 1))
  go_ret
  exact ⟨by first | rfl | (simp [errW_none, errW_some] <;> rfl) | (simp [*, errW_none, errW_some] <;> rfl), pH HB⟩
end Go.Proofs.Ytnmhnkpijjmhjaa.QS
namespace Go.Proofs.Ytnmhnkpijjmhjaa.QS
open Go.Proofs.Ytnmhnkpijjmhjaa.Cw Go.Proofs.Ytnmhnkpijjmhjaa.Kp Go.Proofs.Ytnmhnkpijjmhjaa.Ext Go.RowKit Go.Proofs.YtnmhnkpijjmhjaaW.PrintWords Go.Proofs.YtnmhnkpijjmhjaaW.PrintLast Go.Proofs.YtnmhnkpijjmhjaaW.PrintMore
attribute [local go_sem] max2_int min2_int max_two min_two max_three min_three max_four min_four   -- for this text's walks alone
set_option linter.unusedVariables false
set_option linter.unusedSimpArgs false
def laws_eqPairS.l0 : Nat → List (S76) → List (S76) → Int → Option (Bool)
 | 0, _, _, _ => none
 | k + 1, x0, x1, x5 => if x5 < (x0.length : Int) then (if 0 ≤ x5 then (if x5 < (x1.length : Int) then ((laws_eqPair.f ((rd_T76 x0 x5).f0) ((rd_T76 x0 x5).f1) ((rd_T76 x1 x5).f0) ((rd_T76 x1 x5).f1)).bind fun t121 => (if t121 = true then (laws_eqPairS.l0 k x0 x1 (wrap64 (x5 + 1))) else (some false))) else (none)) else (none)) else (some true)
def laws_eqPairS.f (k : Nat) (l0 : List (S76)) (l1 : List (S76)) : Option (Bool) := if (l0.length : Int) = (l1.length : Int) then (laws_eqPairS.l0 k l0 l1 0) else (some false)
def laws_eqPairS.T6 : Bool × List (List Nat × List Nat) := (true, [([], []), ([], []), ([0, 1], [0, 1]), ([2], [2]), ([], []), ([], []), ([4, 5], [4, 5]), ([6], [6]), ([3, 7], [3, 7]), ([8], [8])])
def laws_eqPairS.B6 : List Nat := [0, 0, 3, 7, 0, 0, 48, 112, 255, 511]
theorem laws_eqPairS.tab6 : rtab .any (opsOf Try.f20 6) = laws_eqPairS.T6 := by kernel_rfl
theorem laws_eqPairS.bits6 : waitsOk laws_eqPairS.T6.2 laws_eqPairS.B6 = true := by kernel_rfl
set_option maxHeartbeats 8000000 in
set_option maxRecDepth 100000 in
theorem laws_eqPairS.calls (k : Nat) (A0 : Option Addr) (c0 : Nat) (l0 : List (S76)) (A1 : Option Addr) (c1 : Nat) (l1 : List (S76)) (r : Bool) (w : World) (hr0 : Kd.C k76 w A0 l0.length l0) (hc0 : l0.length ≤ c0) (hr1 : Kd.C k76 w A1 l1.length l1) (hc1 : l1.length ≤ c1) (h : laws_eqPairS.f k l0 l1 = some r) :
  Calls Try.prog 20 #[.slice A0 l0.length c0, .slice A1 l1.length c1] w fun e w' => e = .returned (.bool r) ∧ Below w.heap.size w w' := by
 have hu76 := Try.underlying76
 have HR0 := Aside0.mk hr0
 have HC0 := Aside0.mk hc0
 clear hr0 hc0
 have HR1 := Aside0.mk hr1
 have HC1 := Aside0.mk hc1
 clear hr1 hc1
 have HB := Aside0.mk (Below.refl w.heap.size w)
 have H : (if (l0.length : Int) = (l1.length : Int) then (laws_eqPairS.l0 k l0 l1 0) else (some false)) = some r := h
 clear h
 by_cases c3 : (l0.length : Int) = (l1.length : Int)
 ·rw [if_pos c3] at H
  have c3b0 : ((l0.length : Int) == (l1.length : Int)) = true := beq_iff_eq.mpr c3
  have c3b1 : ((l0.length : Int) != (l1.length : Int)) = false := bne_eq_false_iff_eq.mpr c3
  have c3b2 : (l0.length == l1.length) = true := by first | simpa using c3 | (simp at c3 ⊢; omega)
  clear c3
  have H' := Aside0.mk H
  clear H
  go_enter Try.func20, Try.ntmps20
  go_wp2
  go_loopg [5] k (fun kq v5 w' => ∃ (x5_1 : Int), v5 = .int .i64 x5_1 ∧ Aside0 (laws_eqPairS.l0 kq l0 l1 x5_1 = some r) ∧ Aside0 (kq ≤ k) ∧ Aside0 (Below w.heap.size w w'))
  case atStart => exact ⟨(0), (by first | rfl | (simp; done) | (simp [*]; done)), H', ⟨Nat.le_refl _⟩, ⟨pH HB⟩⟩
  case round =>
   clear H'
   try clear c1
   try clear c2
   try clear p2
   try clear c3
   try clear c3b0
   try clear c3b1
   try clear c3b2
   obtain ⟨x5_1, rfl, HA, HK1, HB⟩ := hrel
   cases gk with
   | zero => exact absurd HA.out (by simp [laws_eqPairS.l0])
   | succ k1 =>
    have H := HA.out
    clear HA
    simp only [laws_eqPairS.l0] at H
    by_cases c4 : x5_1 < (l0.length : Int)
    ·rw [if_pos c4] at H
     have c4b0 : decide (x5_1 < (l0.length : Int)) = true := decide_eq_true c4
     clear c4
     by_cases c5 : 0 ≤ x5_1
     ·rw [if_pos c5] at H
      have c5b0 : decide (0 ≤ x5_1) = true := decide_eq_true c5
      clear c5
      by_cases c6 : x5_1 < (l1.length : Int)
      ·rw [if_pos c6] at H
       have c6b0 : decide (x5_1 < (l1.length : Int)) = true := decide_eq_true c6
       clear c6
       replace H := Option.bind_eq_some_iff.mp H
       obtain ⟨t121, A70, H⟩ := H
       try dsimp only at H
       have A7 := Aside0.mk A70
       clear A70
       by_cases c8 : t121 = true
       ·subst c8
        have H1 : (laws_eqPairS.l0 k1 l0 l1 (wrap64 (x5_1 + 1))) = some r := by rw [if_pos rfl] at H; exact H
        clear H
        have H := H1
        clear H1
        have H' := Aside0.mk H
        clear H
        try go_wp2
        replace HB := dH HB
        have p119 : 0 ≤ (x5_1 : Int) := of_decide_eq_true (by first | (with_reducible assumption) | assumption)
        have q119 : x5_1 < (l0.length : Int) := of_decide_eq_true (by first | (with_reducible assumption) | assumption)
        obtain ⟨ad119, e119, hx119_0, hx119_1⟩ := at_T76 HR0.out x5_1 p119 q119
        have hw119_1 := hx119_1
        have hw119_0 := hx119_0
        cases e119
        replace hx119_0 := cH HB hx119_0
        replace hx119_1 := cH HB hx119_1
        replace p119 := eq_true p119
        replace q119 := eq_true q119
        have p120 : 0 ≤ (x5_1 : Int) := of_decide_eq_true (by first | (with_reducible assumption) | assumption)
        have q120 : x5_1 < (l1.length : Int) := of_decide_eq_true (by first | (with_reducible assumption) | assumption)
        obtain ⟨ad120, e120, hx120_0, hx120_1⟩ := at_T76 HR1.out x5_1 p120 q120
        have hw120_1 := hx120_1
        have hw120_0 := hx120_0
        cases e120
        replace hx120_0 := cH HB hx120_0
        replace hx120_1 := cH HB hx120_1
        replace p120 := eq_true p120
        replace q120 := eq_true q120
        refine st_ 10 (S := fun w' => w'.cell? (ad119.add ((x5_1).toNat * 2)) = some (.int .i64 ((rd_T76 l0 x5_1).f0)) ∧ w'.cell? ⟨(ad119.add ((x5_1).toNat * 2)).block, (ad119.add ((x5_1).toNat * 2)).off + 1, none⟩ = some (.int .i64 ((rd_T76 l0 x5_1).f1)) ∧ w'.cell? (ad120.add ((x5_1).toNat * 2)) = some (.int .i64 ((rd_T76 l1 x5_1).f0)) ∧ w'.cell? ⟨(ad120.add ((x5_1).toNat * 2)).block, (ad120.add ((x5_1).toNat * 2)).off + 1, none⟩ = some (.int .i64 ((rd_T76 l1 x5_1).f1))) (ds := []) ⟨(cH HB hw119_0 :), (cH HB hw119_1 :), (cH HB hw120_0 :), (cH HB hw120_1 :)⟩ (fun hHeld => ?_); refine with_tabW laws_eqPairS.tab6 laws_eqPairS.bits6 (fun HT_ HW_ => ?_)
        generalize wr.drew = w9 at HB hx119_0 hx119_1 hx120_0 hx120_1 hHeld ⊢
        refine pu_ 0 17 1 HT_ ?_
        refine pu_ 1 18 3 HT_ ?_
        refine pu_ 2 19 7 HT_ ?_
        refine pu_ 4 21 23 HT_ ?_
        refine pu_ 5 22 55 HT_ ?_
        refine pu_ 6 23 119 HT_ ?_
        refine tk_ 3 20 127 HT_ HW_ hHeld ?_
        refine tk_ 7 24 255 HT_ HW_ hHeld ?_
        refine on_ 8 (some 25) 511 HT_ (fun K hK => ?_)
        refine ca_ Try.func63 #[.agg #[.int .i64 ((rd_T76 l0 x5_1).f0), .int .i64 ((rd_T76 l0 x5_1).f1)], .agg #[.int .i64 ((rd_T76 l1 x5_1).f0), .int .i64 ((rd_T76 l1 x5_1).f1)]] ?_
        with_reducible refine (laws_eqPair.calls ((rd_T76 l0 x5_1).f0) ((rd_T76 l0 x5_1).f1) ((rd_T76 l1 x5_1).f0) ((rd_T76 l1 x5_1).f1) true _ A7.out).mono ?_
        rintro e w10 ⟨rfl, hb⟩
        refine ⟨_, rfl, ?_⟩
        replace HB := sH HB hb
        (try clear hb)
        (try clear hb2)
        (try clear hk)
        (try clear hi)
        refine hK.out _ _ ⟨(cH HB hw119_0 :), (cH HB hw119_1 :), (cH HB hw120_0 :), (cH HB hw120_1 :)⟩ (fun hHeld => ?_)
        clear hK K
        refine nm_ ?_
        refine pu_ 9 26 1023 HT_ ?_
        refine dn_ HT_ ?_
        try go_wp2
        go_roundg k1
        case measure => have := HK1.out; omega
        case rel => exact ⟨(wrap64 (x5_1 + 1)), (by first | rfl | (simp; done) | (simp [*]; done)), H', ⟨by have := HK1.out; omega⟩, ⟨pH HB⟩⟩
       ·replace c8 := Bool.eq_false_iff.mpr c8
        subst c8
        have H1 : (some false) = some r := by rw [if_neg (show ¬ (false = true) by decide)] at H; exact H
        clear H
        have H := H1
        clear H1
        obtain rfl := Option.some.inj H
        try go_wp2
        replace HB := dH HB
        have p119 : 0 ≤ (x5_1 : Int) := of_decide_eq_true (by first | (with_reducible assumption) | assumption)
        have q119 : x5_1 < (l0.length : Int) := of_decide_eq_true (by first | (with_reducible assumption) | assumption)
        obtain ⟨ad119, e119, hx119_0, hx119_1⟩ := at_T76 HR0.out x5_1 p119 q119
        have hw119_1 := hx119_1
        have hw119_0 := hx119_0
        cases e119
        replace hx119_0 := cH HB hx119_0
        replace hx119_1 := cH HB hx119_1
        replace p119 := eq_true p119
        replace q119 := eq_true q119
        have p120 : 0 ≤ (x5_1 : Int) := of_decide_eq_true (by first | (with_reducible assumption) | assumption)
        have q120 : x5_1 < (l1.length : Int) := of_decide_eq_true (by first | (with_reducible assumption) | assumption)
        obtain ⟨ad120, e120, hx120_0, hx120_1⟩ := at_T76 HR1.out x5_1 p120 q120
        have hw120_1 := hx120_1
        have hw120_0 := hx120_0
        cases e120
        replace hx120_0 := cH HB hx120_0
        replace hx120_1 := cH HB hx120_1
        replace p120 := eq_true p120
        replace q120 := eq_true q120
        refine st_ 10 (S := fun w' => w'.cell? (ad119.add ((x5_1).toNat * 2)) = some (.int .i64 ((rd_T76 l0 x5_1).f0)) ∧ w'.cell? ⟨(ad119.add ((x5_1).toNat * 2)).block, (ad119.add ((x5_1).toNat * 2)).off + 1, none⟩ = some (.int .i64 ((rd_T76 l0 x5_1).f1)) ∧ w'.cell? (ad120.add ((x5_1).toNat * 2)) = some (.int .i64 ((rd_T76 l1 x5_1).f0)) ∧ w'.cell? ⟨(ad120.add ((x5_1).toNat * 2)).block, (ad120.add ((x5_1).toNat * 2)).off + 1, none⟩ = some (.int .i64 ((rd_T76 l1 x5_1).f1))) (ds := []) ⟨(cH HB hw119_0 :), (cH HB hw119_1 :), (cH HB hw120_0 :), (cH HB hw120_1 :)⟩ (fun hHeld => ?_); refine with_tabW laws_eqPairS.tab6 laws_eqPairS.bits6 (fun HT_ HW_ => ?_)
        generalize wr.drew = w11 at HB hx119_0 hx119_1 hx120_0 hx120_1 hHeld ⊢
        refine pu_ 0 17 1 HT_ ?_
        refine pu_ 1 18 3 HT_ ?_
        refine pu_ 2 19 7 HT_ ?_
        refine pu_ 4 21 23 HT_ ?_
        refine pu_ 5 22 55 HT_ ?_
        refine pu_ 6 23 119 HT_ ?_
        refine tk_ 3 20 127 HT_ HW_ hHeld ?_
        refine tk_ 7 24 255 HT_ HW_ hHeld ?_
        refine on_ 8 (some 25) 511 HT_ (fun K hK => ?_)
        refine ca_ Try.func63 #[.agg #[.int .i64 ((rd_T76 l0 x5_1).f0), .int .i64 ((rd_T76 l0 x5_1).f1)], .agg #[.int .i64 ((rd_T76 l1 x5_1).f0), .int .i64 ((rd_T76 l1 x5_1).f1)]] ?_
        with_reducible refine (laws_eqPair.calls ((rd_T76 l0 x5_1).f0) ((rd_T76 l0 x5_1).f1) ((rd_T76 l1 x5_1).f0) ((rd_T76 l1 x5_1).f1) false _ A7.out).mono ?_
        rintro e w12 ⟨rfl, hb⟩
        refine ⟨_, rfl, ?_⟩
        replace HB := sH HB hb
        (try clear hb)
        (try clear hb2)
        (try clear hk)
        (try clear hi)
        refine hK.out _ _ ⟨(cH HB hw119_0 :), (cH HB hw119_1 :), (cH HB hw120_0 :), (cH HB hw120_1 :)⟩ (fun hHeld => ?_)
        clear hK K
        refine nm_ ?_
        refine pu_ 9 26 1023 HT_ ?_
        refine dn_ HT_ ?_
        try go_wp2
        go_ret
        exact ⟨by first | rfl | (simp [errW_none, errW_some] <;> rfl) | (simp [*, errW_none, errW_some] <;> rfl), pH HB⟩
      ·rw [if_neg c6] at H
       exact absurd H (by simp)
     ·rw [if_neg c5] at H
      exact absurd H (by simp)
    ·rw [if_neg c4] at H
     have c4b0 : decide (x5_1 < (l0.length : Int)) = false := decide_eq_false c4
     clear c4
     obtain rfl := Option.some.inj H
     go_wp2
     go_ret
     exact ⟨by first | rfl | (simp [errW_none, errW_some] <;> rfl) | (simp [*, errW_none, errW_some] <;> rfl), pH HB⟩
 ·rw [if_neg c3] at H
  have c3b0 : ((l0.length : Int) == (l1.length : Int)) = false := beq_eq_false_iff_ne.mpr c3
  have c3b1 : ((l0.length : Int) != (l1.length : Int)) = true := bne_iff_ne.mpr c3
  have c3b2 : (l0.length == l1.length) = false := by first | simpa using c3 | (simp at c3 ⊢; omega)
  obtain rfl := Option.some.inj H
  go_enter Try.func20, Try.ntmps20
  go_wp2
  go_ret
  exact ⟨by first | rfl | (simp [errW_none, errW_some] <;> rfl) | (simp [*, errW_none, errW_some] <;> rfl), pH HB⟩
end Go.Proofs.Ytnmhnkpijjmhjaa.QS
namespace Go.Proofs.Ytnmhnkpijjmhjaa.QS
open Go.Proofs.Ytnmhnkpijjmhjaa.Cw Go.Proofs.Ytnmhnkpijjmhjaa.Kp Go.Proofs.Ytnmhnkpijjmhjaa.Ext Go.RowKit Go.Proofs.YtnmhnkpijjmhjaaW.PrintWords Go.Proofs.YtnmhnkpijjmhjaaW.PrintLast Go.Proofs.YtnmhnkpijjmhjaaW.PrintMore
attribute [local go_sem] max2_int min2_int max_two min_two max_three min_three max_four min_four   -- for this text's walks alone
set_option linter.unusedVariables false
set_option linter.unusedSimpArgs false
def laws_szInt64S.f (l0 : List Int) (a1 : Int) : Option (Int) := if (wrap64 (a1 - (l0.length : Int))) < 0 then (some (-1)) else (some (wrap64 (a1 - (l0.length : Int))))
set_option maxHeartbeats 8000000 in
set_option maxRecDepth 100000 in
theorem laws_szInt64S.calls (A0 : Option Addr) (c0 : Nat) (l0 : List Int) (a1 : Int) (r : Int) (w : World) (hr0 : Kd.C (Kd.int .i64) w A0 l0.length l0) (hc0 : l0.length ≤ c0) (h : laws_szInt64S.f l0 a1 = some r) :
  Calls Try.prog 56 #[.slice A0 l0.length c0, .int .i64 a1] w fun e w' => e = .returned (.int .i64 r) ∧ Drawn0 w w' := by
 have HR0 := Aside0.mk hr0
 have HC0 := Aside0.mk hc0
 clear hr0 hc0
 have H : (if (wrap64 (a1 - (l0.length : Int))) < 0 then (some (-1)) else (some (wrap64 (a1 - (l0.length : Int))))) = some r := h
 clear h
 by_cases c3 : (wrap64 (a1 - (l0.length : Int))) < 0
 ·rw [if_pos c3] at H
  have c3b0 : decide ((wrap64 (a1 - (l0.length : Int))) < 0) = true := decide_eq_true c3
  clear c3
  obtain rfl := Option.some.inj H
  go_enter Try.func56, Try.ntmps56
  go_wp2
  go_ret
  exact ⟨by first | rfl | (simp; done) | (simp [*]; done), by repeat (first | exact Drawn0.refl _ | apply Drawn0.step)⟩
 ·rw [if_neg c3] at H
  have c3b0 : decide ((wrap64 (a1 - (l0.length : Int))) < 0) = false := decide_eq_false c3
  clear c3
  obtain rfl := Option.some.inj H
  go_enter Try.func56, Try.ntmps56
  go_wp2
  go_ret
  exact ⟨by first | rfl | (simp; done) | (simp [*]; done), by repeat (first | exact Drawn0.refl _ | apply Drawn0.step)⟩
end Go.Proofs.Ytnmhnkpijjmhjaa.QS
namespace Go.Proofs.Ytnmhnkpijjmhjaa.QS
open Go.Proofs.Ytnmhnkpijjmhjaa.Cw Go.Proofs.Ytnmhnkpijjmhjaa.Kp Go.Proofs.Ytnmhnkpijjmhjaa.Ext Go.RowKit Go.Proofs.YtnmhnkpijjmhjaaW.PrintWords Go.Proofs.YtnmhnkpijjmhjaaW.PrintLast Go.Proofs.YtnmhnkpijjmhjaaW.PrintMore
attribute [local go_sem] max2_int min2_int max_two min_two max_three min_three max_four min_four   -- for this text's walks alone
set_option linter.unusedVariables false
set_option linter.unusedSimpArgs false
def laws_szComplex.f (a0_0 : Int) (l0_1 : List Int) (a1 : Int) : Option (Int) := (laws_szInt64S.f l0_1 a1).bind fun t102 => (if t102 < 0 then (some (-1)) else (some t102))
set_option maxHeartbeats 8000000 in
set_option maxRecDepth 100000 in
theorem laws_szComplex.calls (a0_0 : Int) (A0_1 : Option Addr) (c0_1 : Nat) (l0_1 : List Int) (a1 : Int) (r : Int) (w : World) (hr0_1 : Kd.C (Kd.int .i64) w A0_1 l0_1.length l0_1) (hc0_1 : l0_1.length ≤ c0_1) (h : laws_szComplex.f a0_0 l0_1 a1 = some r) :
  Calls Try.prog 15 #[.agg #[.int .i64 a0_0, .slice A0_1 l0_1.length c0_1], .int .i64 a1] w fun e w' => e = .returned (.int .i64 r) ∧ Below w.heap.size w w' := by
 have hu24 := Try.underlying24
 have HR0_1 := Aside0.mk hr0_1
 have HC0_1 := Aside0.mk hc0_1
 clear hr0_1 hc0_1
 have HB := Aside0.mk (Below.refl w.heap.size w)
 have H : ((laws_szInt64S.f l0_1 a1).bind fun t102 => (if t102 < 0 then (some (-1)) else (some t102))) = some r := h
 clear h
 replace H := Option.bind_eq_some_iff.mp H
 obtain ⟨t102, A30, H⟩ := H
 try dsimp only at H
 have A3 := Aside0.mk A30
 clear A30
 by_cases c4 : t102 < 0
 ·rw [if_pos c4] at H
  have c4b0 : decide (t102 < 0) = true := decide_eq_true c4
  clear c4
  obtain rfl := Option.some.inj H
  go_enter Try.func15, Try.ntmps15
  go_wp2_with (first | ((with_reducible refine gate_dst (N := 2) rfl ?_); refine box_event ?hg (N := 2) ?hd (cs := #[.int .i64 a0_0, .slice A0_1 l0_1.length c0_1]) (t := 24) ?hr ?_; (case hd => rfl); (case hg => rfl); (case hr => first | (go_simp; done) | (go_simp; rfl)); intro gb101 hg w5 hbox hb; have BK101 := Aside0.mk (hbox); have GW101 := gH HB hg; have GE101 := gH HB hg; replace HB := sH HB hb; clear hb hbox hg; have hcz6_0 : w5.cell? ⟨gb101, 0, none⟩ = some (.int .i64 a0_0) := cB BK101 0; have hcz6_1 : w5.cell? ⟨gb101, 1, none⟩ = some (.slice A0_1 l0_1.length c0_1) := cB BK101 1; have hfz6_0 := zB BK101 0; have hfz6_1 := zB BK101 1) | ((with_reducible refine gate_callee (f := 56) rfl ?_); refine cl_ (some 8) Try.func56 #[.slice A0_1 l0_1.length c0_1, .int .i64 a1] ?_; (with_reducible refine (laws_szInt64S.calls _ _ l0_1 a1 t102 _ ?side1 ?side2 A3.out).mono ?_); (case side1 => exact pC ((Kd.C_below HR0_1.out HB.out))); (case side2 => exact HC0_1.out); rintro e w' ⟨rfl, ⟨nd, rfl⟩⟩; refine ⟨_, rfl, ?_⟩))
  go_ret
  exact ⟨by first | rfl | (simp [errW_none, errW_some] <;> rfl) | (simp [*, errW_none, errW_some] <;> rfl), pH HB⟩
 ·rw [if_neg c4] at H
  have c4b0 : decide (t102 < 0) = false := decide_eq_false c4
  clear c4
  obtain rfl := Option.some.inj H
  go_enter Try.func15, Try.ntmps15
  go_wp2_with (first | ((with_reducible refine gate_dst (N := 2) rfl ?_); refine box_event ?hg (N := 2) ?hd (cs := #[.int .i64 a0_0, .slice A0_1 l0_1.length c0_1]) (t := 24) ?hr ?_; (case hd => rfl); (case hg => rfl); (case hr => first | (go_simp; done) | (go_simp; rfl)); intro gb101 hg w7 hbox hb; have BK101 := Aside0.mk (hbox); have GW101 := gH HB hg; have GE101 := gH HB hg; replace HB := sH HB hb; clear hb hbox hg; have hcz8_0 : w7.cell? ⟨gb101, 0, none⟩ = some (.int .i64 a0_0) := cB BK101 0; have hcz8_1 : w7.cell? ⟨gb101, 1, none⟩ = some (.slice A0_1 l0_1.length c0_1) := cB BK101 1; have hfz8_0 := zB BK101 0; have hfz8_1 := zB BK101 1) | ((with_reducible refine gate_callee (f := 56) rfl ?_); refine cl_ (some 8) Try.func56 #[.slice A0_1 l0_1.length c0_1, .int .i64 a1] ?_; (with_reducible refine (laws_szInt64S.calls _ _ l0_1 a1 t102 _ ?side1 ?side2 A3.out).mono ?_); (case side1 => exact pC ((Kd.C_below HR0_1.out HB.out))); (case side2 => exact HC0_1.out); rintro e w' ⟨rfl, ⟨nd, rfl⟩⟩; refine ⟨_, rfl, ?_⟩))
  go_ret
  exact ⟨by first | rfl | (simp [errW_none, errW_some] <;> rfl) | (simp [*, errW_none, errW_some] <;> rfl), pH HB⟩
end Go.Proofs.Ytnmhnkpijjmhjaa.QS
namespace Go.Proofs.Ytnmhnkpijjmhjaa.QS
open Go.Proofs.Ytnmhnkpijjmhjaa.Cw Go.Proofs.Ytnmhnkpijjmhjaa.Kp Go.Proofs.Ytnmhnkpijjmhjaa.Ext Go.RowKit Go.Proofs.YtnmhnkpijjmhjaaW.PrintWords Go.Proofs.YtnmhnkpijjmhjaaW.PrintLast Go.Proofs.YtnmhnkpijjmhjaaW.PrintMore
attribute [local go_sem] max2_int min2_int max_two min_two max_three min_three max_four min_four   -- for this text's walks alone
set_option linter.unusedVariables false
set_option linter.unusedSimpArgs false
def laws_szPairS.f (l0 : List (S75)) (a1 : Int) : Option (Int) := if (wrap64 (a1 - (l0.length : Int))) < 0 then (some (-1)) else (some (wrap64 (a1 - (l0.length : Int))))
set_option maxHeartbeats 8000000 in
set_option maxRecDepth 100000 in
theorem laws_szPairS.calls (A0 : Option Addr) (c0 : Nat) (l0 : List (S75)) (a1 : Int) (r : Int) (w : World) (hr0 : Kd.C k75 w A0 l0.length l0) (hc0 : l0.length ≤ c0) (h : laws_szPairS.f l0 a1 = some r) :
  Calls Try.prog 45 #[.slice A0 l0.length c0, .int .i64 a1] w fun e w' => e = .returned (.int .i64 r) ∧ Drawn0 w w' := by
 have HR0 := Aside0.mk hr0
 have HC0 := Aside0.mk hc0
 clear hr0 hc0
 have H : (if (wrap64 (a1 - (l0.length : Int))) < 0 then (some (-1)) else (some (wrap64 (a1 - (l0.length : Int))))) = some r := h
 clear h
 by_cases c3 : (wrap64 (a1 - (l0.length : Int))) < 0
 ·rw [if_pos c3] at H
  have c3b0 : decide ((wrap64 (a1 - (l0.length : Int))) < 0) = true := decide_eq_true c3
  clear c3
  obtain rfl := Option.some.inj H
  go_enter Try.func45, Try.ntmps45
  go_wp2
  go_ret
  exact ⟨by first | rfl | (simp; done) | (simp [*]; done), by repeat (first | exact Drawn0.refl _ | apply Drawn0.step)⟩
 ·rw [if_neg c3] at H
  have c3b0 : decide ((wrap64 (a1 - (l0.length : Int))) < 0) = false := decide_eq_false c3
  clear c3
  obtain rfl := Option.some.inj H
  go_enter Try.func45, Try.ntmps45
  go_wp2
  go_ret
  exact ⟨by first | rfl | (simp; done) | (simp [*]; done), by repeat (first | exact Drawn0.refl _ | apply Drawn0.step)⟩
end Go.Proofs.Ytnmhnkpijjmhjaa.QS
namespace Go.Proofs.Ytnmhnkpijjmhjaa.QS
open Go.Proofs.Ytnmhnkpijjmhjaa.Cw Go.Proofs.Ytnmhnkpijjmhjaa.Kp Go.Proofs.Ytnmhnkpijjmhjaa.Ext Go.RowKit Go.Proofs.YtnmhnkpijjmhjaaW.PrintWords Go.Proofs.YtnmhnkpijjmhjaaW.PrintLast Go.Proofs.YtnmhnkpijjmhjaaW.PrintMore
attribute [local go_sem] max2_int min2_int max_two min_two max_three min_three max_four min_four   -- for this text's walks alone
set_option linter.unusedVariables false
set_option linter.unusedSimpArgs false
def laws_toInt64S.l0 : Nat → List Int → List Int → Int → Option (List Int)
 | 0, _, _, _ => none
 | k + 1, x0, x3, x4 => if x4 < (x0.length : Int) then (if 0 ≤ x4 then (if x4 < (x3.length : Int) then (laws_toInt64S.l0 k x0 (x3.set (x4 : Int).toNat (rd x0 x4)) (wrap64 (x4 + 1))) else (none)) else (none)) else (some x3)
def laws_toInt64S.f (k : Nat) (l0 : List Int) : Option (List Int) := if 0 ≤ (l0.length : Int) then (if ((l0.length : Int) : Int).toNat ≤ 35184372088832 then (laws_toInt64S.l0 k l0 (List.replicate ((l0.length : Int) : Int).toNat 0) 0) else (none)) else (none)
set_option maxHeartbeats 8000000 in
set_option maxRecDepth 100000 in
theorem laws_toInt64S.calls (k : Nat) (A0 : Option Addr) (c0 : Nat) (l0 : List Int) (r : List Int) (w : World) (hr0 : Kd.C (Kd.int .i64) w A0 l0.length l0) (hc0 : l0.length ≤ c0) (h : laws_toInt64S.f k l0 = some r) :
  Calls Try.prog 43 #[.slice A0 l0.length c0] w fun e w' => ∃ v0_ : Value, e = .returned (v0_) ∧ Kd.R (Kd.int .i64) 2 w' w.heap.size (fun _ => True) v0_ r ∧ Below w.heap.size w w' := by
 have HR0 := Aside0.mk hr0
 have HC0 := Aside0.mk hc0
 clear hr0 hc0
 have HB := Aside0.mk (Below.refl w.heap.size w)
 have H : (if 0 ≤ (l0.length : Int) then (if ((l0.length : Int) : Int).toNat ≤ 35184372088832 then (laws_toInt64S.l0 k l0 (List.replicate ((l0.length : Int) : Int).toNat 0) 0) else (none)) else (none)) = some r := h
 clear h
 by_cases c2 : 0 ≤ (l0.length : Int)
 ·rw [if_pos c2] at H
  have c2b0 := eq_true c2
  have c2b1 : decide (0 ≤ (l0.length : Int)) = true := decide_eq_true c2
  clear c2
  by_cases c3 : ((l0.length : Int) : Int).toNat ≤ 35184372088832
  ·rw [if_pos c3] at H
   have c3b0 := eq_true c3
   have c3b1 : decide (((l0.length : Int) : Int).toNat ≤ 35184372088832) = true := decide_eq_true c3
   clear c3
   obtain ⟨y103, hy103⟩ : ∃ y_ : List Int, y_ = (List.replicate ((l0.length : Int) : Int).toNat 0) := ⟨_, rfl⟩
   replace H : (laws_toInt64S.l0 k l0 y103 0) = some r := by first | (rw [hy103]; with_reducible exact H) | (have H2_ := (Option.bind_some _ _).symm.trans H; rw [hy103]; with_reducible exact H2_) | (have H2_ := (Option.bind_some _ _).symm.trans H; with_reducible exact H2_) | with_reducible exact H | (rw [hy103]; exact H) | exact H
   have Ny103 := Aside0.mk hy103
   clear hy103
   have H' := Aside0.mk H
   clear H
   go_enter Try.func43, Try.ntmps43
   go_wp2_with (first | ((with_reducible refine gate_dst (N := 7) rfl ?_); refine Kd.R_make (Kd.int .i64) _ 2 rfl (N := 7) rfl 22 _ _ rfl (l0.length : Int) rfl rfl Try.underlying22 (.int .i64 0) 8 info2 rfl (by decide) (by omega) 0 (ok := fun _ => True) (okp := fun _ => True) rfl (fun _ hk => hk) trivial (of_decide_eq_true (by first | (with_reducible assumption) | assumption)) (Nat.le_trans (Nat.mul_le_mul_right _ (of_decide_eq_true (by first | (with_reducible assumption) | assumption) : (l0.length : Int).toNat ≤ 35184372088832)) (by omega)) (Below.refl _ _) (Nat.le_refl _) ?_; intro v104 w4 ho5 hb hg_ hnew_; clear hg_ hnew_; (first | rw [← Ny103.out] at ho5 | (simp only [Int.reduceToNat] at ho5; rw [← Ny103.out] at ho5)); have HO105 := Aside0.mk (Kd.R_lower ho5 (below_size (pH HB))); replace HB := sH HB hb; clear hb ho5))
   go_loopg [4] k (fun kq v4 w' => ∃ (x3_1 : List Int) (x4_1 : Int), v4 = .int .i64 x4_1 ∧ Aside0 (laws_toInt64S.l0 kq l0 x3_1 x4_1 = some r) ∧ Aside0 (kq ≤ k) ∧ Aside0 (Kd.R (Kd.int .i64) 2 w' w.heap.size (fun _ => True) v104 x3_1) ∧ Aside0 (Below w.heap.size w w'))
   case atStart => exact ⟨(y103), (0), (by first | rfl | (simp; done) | (simp [*]; done)), H', ⟨Nat.le_refl _⟩, ⟨by (with_reducible repeat (first | apply Kd.R_alloc | apply Kd.R_drewN | apply Kd.R_drew)); exact HO105.out⟩, ⟨pH HB⟩⟩
   case round =>
    clear H'
    try clear c2
    try clear c2b0
    try clear c2b1
    try clear p2
    try clear c3
    try clear c3b0
    try clear c3b1
    try clear c4
    obtain ⟨x3_1, x4_1, rfl, HA, HK1, HO_3, HB⟩ := hrel
    cases gk with
    | zero => exact absurd HA.out (by simp [laws_toInt64S.l0])
    | succ k1 =>
     have H := HA.out
     clear HA
     simp only [laws_toInt64S.l0] at H
     by_cases c6 : x4_1 < (l0.length : Int)
     ·rw [if_pos c6] at H
      have c6b0 : decide (x4_1 < (l0.length : Int)) = true := decide_eq_true c6
      clear c6
      by_cases c7 : 0 ≤ x4_1
      ·rw [if_pos c7] at H
       have c7b0 : decide (0 ≤ x4_1) = true := decide_eq_true c7
       clear c7
       by_cases c8 : x4_1 < (x3_1.length : Int)
       ·rw [if_pos c8] at H
        have c8b0 : decide (x4_1 < (x3_1.length : Int)) = true := decide_eq_true c8
        clear c8
        obtain ⟨y107, hy107⟩ : ∃ y_ : List Int, y_ = (x3_1.set (x4_1 : Int).toNat (rd l0 x4_1)) := ⟨_, rfl⟩
        replace H : (laws_toInt64S.l0 k1 l0 y107 (wrap64 (x4_1 + 1))) = some r := by first | (rw [hy107]; with_reducible exact H) | (have H2_ := (Option.bind_some _ _).symm.trans H; rw [hy107]; with_reducible exact H2_) | (have H2_ := (Option.bind_some _ _).symm.trans H; with_reducible exact H2_) | with_reducible exact H | (rw [hy107]; exact H) | exact H
        have Ny107 := Aside0.mk hy107
        clear hy107
        have H' := Aside0.mk H
        clear H
        have p106 : 0 ≤ (x4_1 : Int) := of_decide_eq_true (by first | (with_reducible assumption) | assumption)
        have q106 : x4_1 < (l0.length : Int) := of_decide_eq_true (by first | (with_reducible assumption) | assumption)
        obtain ⟨ad106, e106, hx106_0⟩ := Kd.at_int HR0.out x4_1 p106 q106
        cases e106
        replace hx106_0 := cH HB hx106_0
        replace p106 := eq_true p106
        replace q106 := eq_true q106
        have p9 : 0 ≤ (x4_1 : Int) := of_decide_eq_true (by first | (with_reducible assumption) | assumption)
        have q9 : (x4_1 : Int) < ((x3_1.length : Int) : Int) := of_decide_eq_true (by first | (with_reducible assumption) | assumption)
        obtain ⟨go9, co9, eo9, gb9, gl9, cl9, HG9⟩ := Kd.R_form HO_3.out (by omega)
        (first | cases eo9 | (injection eo9 with ea_ en_ ec_; (first | subst ea_ | (injection ea_ with ea_; subst ea_)); subst ec_; clear en_))
        have GB9 := Aside0.mk gb9
        have GG9 := Aside0.mk HG9
        clear gb9 gl9 HG9
        obtain ⟨hx9_0, hf9_0⟩ := Kd.R_celln 0 HO_3.out (x4_1 : Int) p9 q9
        replace p9 := eq_true p9
        replace q9 := eq_true q9
        have HP10 := Kd.R_putg HO_3.out (x4_1 : Int) (rd l0 x4_1)
        go_wp2_with (first | ((with_reducible refine gate_store (t := 2) (p := 20) rfl ?_); refine store_event (t := 2) (p := 20) (v := ?vo_w11) (w1 := (wr.setCell ⟨go9, (x4_1 : Int).toNat, none⟩ (.int .i64 (rd l0 x4_1)))) ?hg ?ho ?hn ?hr ?_; (case ho => rfl); (case hg => rfl); (case hn => rfl); (case hr => first | (go_simp; done) | (go_simp; rfl)); intro w11 hw; have hg : wr.grownBy w11 (some go9) := (by rw [hw]; exact HP10.2); have hp_ : Kd.R (Kd.int .i64) 2 w11 w.heap.size (fun _ => True) (.slice (some ⟨go9, 0, none⟩) x3_1.length co9) y107 := (by rw [hw, Ny107.out]; exact HP10.1); clear HP10; have n0_ := Aside0.mk (hp_); have n1_ := Aside0.mk ((by rw [hw]; exact below_set (HB.out) GB9.out : Below w.heap.size w w11)); clear HO_3; clear HB; have HO_3 := n0_; have HB := n1_; clear n0_ n1_; clear hg hw hp_))
        go_roundg k1
        case measure => have := HK1.out; omega
        case rel => exact ⟨(y107), (wrap64 (x4_1 + 1)), (by first | rfl | (simp; done) | (simp [*]; done)), H', ⟨by have := HK1.out; omega⟩, ⟨by (with_reducible repeat (first | apply Kd.R_alloc | apply Kd.R_drewN | apply Kd.R_drew)); exact HO_3.out⟩, ⟨pH HB⟩⟩
       ·rw [if_neg c8] at H
        exact absurd H (by simp)
      ·rw [if_neg c7] at H
       exact absurd H (by simp)
     ·rw [if_neg c6] at H
      have c6b0 : decide (x4_1 < (l0.length : Int)) = false := decide_eq_false c6
      clear c6
      obtain rfl := Option.some.inj H
      go_wp2
      go_ret
      exact ⟨_, by first | rfl | (simp [errW_none, errW_some] <;> rfl) | (simp [*, errW_none, errW_some] <;> rfl), by (with_reducible repeat (first | apply Kd.R_alloc | apply Kd.R_drewN | apply Kd.R_drew)); exact HO_3.out, pH HB⟩
  ·rw [if_neg c3] at H
   exact absurd H (by simp)
 ·rw [if_neg c2] at H
  exact absurd H (by simp)
end Go.Proofs.Ytnmhnkpijjmhjaa.QS
namespace Go.Proofs.Ytnmhnkpijjmhjaa.QS
open Go.Proofs.Ytnmhnkpijjmhjaa.Cw Go.Proofs.Ytnmhnkpijjmhjaa.Kp Go.Proofs.Ytnmhnkpijjmhjaa.Ext Go.RowKit Go.Proofs.YtnmhnkpijjmhjaaW.PrintWords Go.Proofs.YtnmhnkpijjmhjaaW.PrintLast Go.Proofs.YtnmhnkpijjmhjaaW.PrintMore
attribute [local go_sem] max2_int min2_int max_two min_two max_three min_three max_four min_four   -- for this text's walks alone
set_option linter.unusedVariables false
set_option linter.unusedSimpArgs false
def laws_toComplex.f (k : Nat) (a0_0 : Int) (l0_1 : List Int) : Option (Int × List Int) := (laws_toInt64S.f k l0_1).bind fun t111 => (some (a0_0, t111))
set_option maxHeartbeats 8000000 in
set_option maxRecDepth 100000 in
theorem laws_toComplex.calls (k : Nat) (a0_0 : Int) (A0_1 : Option Addr) (c0_1 : Nat) (l0_1 : List Int) (r1 : Int) (r2 : List Int) (w : World) (hr0_1 : Kd.C (Kd.int .i64) w A0_1 l0_1.length l0_1) (hc0_1 : l0_1.length ≤ c0_1) (h : laws_toComplex.f k a0_0 l0_1 = some (r1, r2)) :
  Calls Try.prog 17 #[.agg #[.int .i64 a0_0, .slice A0_1 l0_1.length c0_1]] w fun e w' => ∃ v1_ : Value, e = .returned (.agg #[.int .i64 r1, v1_]) ∧ Kd.R (Kd.int .i64) 2 w' w.heap.size (fun _ => True) v1_ r2 ∧ Below w.heap.size w w' := by
 have hu24 := Try.underlying24
 have hu26 := Try.underlying26
 have HR0_1 := Aside0.mk hr0_1
 have HC0_1 := Aside0.mk hc0_1
 clear hr0_1 hc0_1
 have HB := Aside0.mk (Below.refl w.heap.size w)
 have H : ((laws_toInt64S.f k l0_1).bind fun t111 => (some (a0_0, t111))) = some (r1, r2) := h
 clear h
 replace H := Option.bind_eq_some_iff.mp H
 obtain ⟨t111, A20, H⟩ := H
 try dsimp only at H
 have A2 := Aside0.mk A20
 clear A20
 simp only [Option.some.injEq, Prod.mk.injEq] at H
 obtain ⟨rfl, rfl⟩ := H
 go_enter Try.func17, Try.ntmps17
 go_wp2_with (first | ((with_reducible refine gate_dst (N := 1) rfl ?_); refine box_event ?hg (N := 1) ?hd (cs := #[.int .i64 a0_0, .slice A0_1 l0_1.length c0_1]) (t := 24) ?hr ?_; (case hd => rfl); (case hg => rfl); (case hr => first | (go_simp; done) | (go_simp; rfl)); intro gb108 hg w3 hbox hb; have BK108 := Aside0.mk (hbox); have GW108 := gH HB hg; have GE108 := gH HB hg; replace HB := sH HB hb; clear hb hbox hg) | ((with_reducible refine gate_dst (N := 2) rfl ?_); refine box_event ?hg (N := 2) ?hd (cs := #[.int .i64 0, .slice none 0 0]) (t := 26) ?hr ?_; (case hd => rfl); (case hg => rfl); (case hr => first | (go_simp; done) | (go_simp; rfl)); intro gb109 hg w4 hbox hb; have BK109 := Aside0.mk (hbox); have GW109 := gH HB hg; have GE109 := gH HB hg; replace HB := sH HB hb; have NB108_109 := nB BK108 hg; have NB109_108 := oB BK108 hg; replace BK108 := sB BK108 hb; clear hb hbox hg) | ((with_reducible refine gate_dst (N := 3) rfl ?_); refine box_event ?hg (N := 3) ?hd (cs := #[.int .i64 0, .slice none 0 0]) (t := 26) ?hr ?_; (case hd => rfl); (case hg => rfl); (case hr => first | (go_simp; done) | (go_simp; rfl)); intro gb110 hg w5 hbox hb; have BK110 := Aside0.mk (hbox); have GW110 := gH HB hg; have GE110 := gH HB hg; replace HB := sH HB hb; have NB108_110 := nB BK108 hg; have NB110_108 := oB BK108 hg; replace BK108 := sB BK108 hb; have NB109_110 := nB BK109 hg; have NB110_109 := oB BK109 hg; replace BK109 := sB BK109 hb; clear hb hbox hg; (try have hnb6 := NB108_109.out); (try have hnc6 := NB109_108.out); (try have hnb7 := NB108_110.out); (try have hnc7 := NB110_108.out); have hcz8_0 : w5.cell? ⟨gb108, 0, none⟩ = some (.int .i64 a0_0) := cB BK108 0; have hcz8_1 : w5.cell? ⟨gb108, 1, none⟩ = some (.slice A0_1 l0_1.length c0_1) := cB BK108 1; have hfz8_0 := zB BK108 0; have hfz8_1 := zB BK108 1; (try have hnb9 := NB110_109.out); (try have hnc9 := NB109_110.out); have hcz10_0 : w5.cell? ⟨gb110, 0, none⟩ = some (.int .i64 0) := cB BK110 0; have hcz10_1 : w5.cell? ⟨gb110, 1, none⟩ = some (.slice none 0 0) := cB BK110 1; have hfz10_0 := zB BK110 0; have hfz10_1 := zB BK110 1) | ((with_reducible refine gate_callee (f := 43) rfl ?_); refine cl_ (some 9) Try.func43 #[.slice A0_1 l0_1.length c0_1] ?_; (with_reducible refine (laws_toInt64S.calls k _ _ l0_1 t111 _ ?side1 ?side2 A2.out).mono ?_); (case side1 => exact Kd.C_below HR0_1.out (pH HB)); (case side2 => exact HC0_1.out); rintro e w11 ⟨v112, rfl, ho0, hb⟩; refine ⟨_, rfl, ?_⟩; have n0_ := Aside0.mk (Kd.R_lower ho0 (below_size (pH HB))); have n1_ := Aside0.mk (blk_below (g := gb108) (o := .cells #[.int .i64 a0_0, .slice A0_1 l0_1.length c0_1] 24 (0, 0)) (by (with_reducible repeat (first | refine blk_drewN ?_ _ | refine blk_drew ?_ | refine blk_alloc ?_ _)); refine blk_far ?_ NB108_110.out _; (with_reducible repeat (first | refine blk_drewN ?_ _ | refine blk_drew ?_ | refine blk_alloc ?_ _)); exact BK108.out) hb); have n2_ := Aside0.mk (blk_below (g := gb109) (o := .cells #[.int .i64 0, .slice none 0 0] 26 (0, 0)) (by (with_reducible repeat (first | refine blk_drewN ?_ _ | refine blk_drew ?_ | refine blk_alloc ?_ _)); refine blk_far ?_ NB109_110.out _; (with_reducible repeat (first | refine blk_drewN ?_ _ | refine blk_drew ?_ | refine blk_alloc ?_ _)); exact BK109.out) hb); have n3_ := Aside0.mk (blk_below (g := gb110) (o := .cells #[.int .i64 a0_0, .slice none 0 0] 26 (0, 0)) (by (with_reducible repeat (first | refine blk_drewN ?_ _ | refine blk_drew ?_ | refine blk_alloc ?_ _)); refine blk_put (cs := #[.int .i64 0, .slice none 0 0]) ?_ 0 _ rfl; (with_reducible repeat (first | refine blk_drewN ?_ _ | refine blk_drew ?_ | refine blk_alloc ?_ _)); exact BK110.out) hb); have n4_ := sH HB hb; clear BK108; clear BK109; clear BK110; clear HB; have HO113 := n0_; have BK108 := n1_; have BK109 := n2_; have BK110 := n3_; have HB := n4_; clear n0_ n1_ n2_ n3_ n4_; (try clear hb); (try clear hi); (try clear ho0); obtain ⟨Ao12, co12, eo12⟩ := Kd.R_slice HO113.out; subst eo12; have hcz13_0 : w11.cell? ⟨gb110, 0, none⟩ = some (.int .i64 a0_0) := cB BK110 0; have hcz13_1 : w11.cell? ⟨gb110, 1, none⟩ = some (.slice none 0 0) := cB BK110 1; have hfz13_0 := zB BK110 0; have hfz13_1 := zB BK110 1; have hcz14_0 : w11.cell? ⟨gb109, 0, none⟩ = some (.int .i64 0) := cB BK109 0; have hcz14_1 : w11.cell? ⟨gb109, 1, none⟩ = some (.slice none 0 0) := cB BK109 1; have hfz14_0 := zB BK109 0; have hfz14_1 := zB BK109 1))
 refine bodyPost_ret (results_cell_row rfl _ _ gb109 26 #[.int .i64 a0_0, .slice Ao12 t111.length co12] (0, 0) _ rfl (by (with_reducible repeat (first | refine blk_drewN ?_ _ | refine blk_drew ?_ | refine blk_alloc ?_ _)); refine blk_put (cs := #[.int .i64 a0_0, .slice none 0 0]) ?_ 1 _ rfl; (with_reducible repeat (first | refine blk_drewN ?_ _ | refine blk_drew ?_ | refine blk_alloc ?_ _)); refine blk_put (cs := #[.int .i64 0, .slice none 0 0]) ?_ 0 _ rfl; (with_reducible repeat (first | refine blk_drewN ?_ _ | refine blk_drew ?_ | refine blk_alloc ?_ _)); refine blk_far ?_ NB109_110.out _; (with_reducible repeat (first | refine blk_drewN ?_ _ | refine blk_drew ?_ | refine blk_alloc ?_ _)); exact BK109.out) Try.underlying26 rfl (by kernel_rfl)) rfl ?_
 exact ⟨_, by first | rfl | (simp [errW_none, errW_some] <;> rfl) | (simp [*, errW_none, errW_some] <;> rfl), by (with_reducible repeat (first | apply Kd.R_alloc | apply Kd.R_drewN | apply Kd.R_drew)); exact Kd.R_mono (Kd.R_far (p := ⟨gb109, 1, none⟩) (Kd.R_far (p := ⟨gb109, 0, none⟩) (Kd.R_far (p := ⟨gb110, 1, none⟩) (Kd.R_types (Kd.R_types HO113.out BK110.out (by decide)) BK109.out (by decide)) (fun _ hk => hk.1.2) (.slice Ao12 t111.length co12)) (fun _ hk => hk.2) (.int .i64 a0_0)) (fun _ hk => hk.2) (.slice Ao12 t111.length co12)) (fun _ hk => trivial), pH HB⟩
end Go.Proofs.Ytnmhnkpijjmhjaa.QS
namespace Go.Proofs.Ytnmhnkpijjmhjaa.QS
open Go.Proofs.Ytnmhnkpijjmhjaa.Cw Go.Proofs.Ytnmhnkpijjmhjaa.Kp Go.Proofs.Ytnmhnkpijjmhjaa.Ext Go.RowKit Go.Proofs.YtnmhnkpijjmhjaaW.PrintWords Go.Proofs.YtnmhnkpijjmhjaaW.PrintLast Go.Proofs.YtnmhnkpijjmhjaaW.PrintMore
attribute [local go_sem] max2_int min2_int max_two min_two max_three min_three max_four min_four   -- for this text's walks alone
set_option linter.unusedVariables false
set_option linter.unusedSimpArgs false
def laws_toPairS.l0 : Nat → List (S75) → List (S76) → Int → Option ((List (S76)))
 | 0, _, _, _ => none
 | k + 1, x0, x3, x4 => if x4 < (x0.length : Int) then (if 0 ≤ x4 then ((laws_toPair.f ((rd_T75 x0 x4).f0) ((rd_T75 x0 x4).f1)).bind fun bt133 => (if x4 < (x3.length : Int) then (laws_toPairS.l0 k x0 (x3.set (x4 : Int).toNat (⟨bt133.1, bt133.2⟩ : S76)) (wrap64 (x4 + 1))) else (none))) else (none)) else (some x3)
def laws_toPairS.f (k : Nat) (l0 : List (S75)) : Option ((List (S76))) := if 0 ≤ (l0.length : Int) then (if ((l0.length : Int) : Int).toNat ≤ 17592186044416 then (laws_toPairS.l0 k l0 (List.replicate ((l0.length : Int) : Int).toNat z76) 0) else (none)) else (none)
set_option maxHeartbeats 8000000 in
set_option maxRecDepth 100000 in
theorem laws_toPairS.calls (k : Nat) (A0 : Option Addr) (c0 : Nat) (l0 : List (S75)) (r : List (S76)) (w : World) (hr0 : Kd.C k75 w A0 l0.length l0) (hc0 : l0.length ≤ c0) (h : laws_toPairS.f k l0 = some r) :
  Calls Try.prog 47 #[.slice A0 l0.length c0] w fun e w' => ∃ v0_ : Value, e = .returned (v0_) ∧ Kd.R k76 76 w' w.heap.size (fun _ => True) v0_ r ∧ Below w.heap.size w w' := by
 have hu75 := Try.underlying75
 have hu76 := Try.underlying76
 have HR0 := Aside0.mk hr0
 have HC0 := Aside0.mk hc0
 clear hr0 hc0
 have HB := Aside0.mk (Below.refl w.heap.size w)
 have H : (if 0 ≤ (l0.length : Int) then (if ((l0.length : Int) : Int).toNat ≤ 17592186044416 then (laws_toPairS.l0 k l0 (List.replicate ((l0.length : Int) : Int).toNat z76) 0) else (none)) else (none)) = some r := h
 clear h
 by_cases c2 : 0 ≤ (l0.length : Int)
 ·rw [if_pos c2] at H
  have c2b0 := eq_true c2
  have c2b1 : decide (0 ≤ (l0.length : Int)) = true := decide_eq_true c2
  clear c2
  by_cases c3 : ((l0.length : Int) : Int).toNat ≤ 17592186044416
  ·rw [if_pos c3] at H
   have c3b0 := eq_true c3
   have c3b1 : decide (((l0.length : Int) : Int).toNat ≤ 17592186044416) = true := decide_eq_true c3
   clear c3
   obtain ⟨y129, hy129⟩ : ∃ y_ : List (S76), y_ = (List.replicate ((l0.length : Int) : Int).toNat z76) := ⟨_, rfl⟩
   replace H : (laws_toPairS.l0 k l0 y129 0) = some r := by first | (rw [hy129]; with_reducible exact H) | (have H2_ := (Option.bind_some _ _).symm.trans H; rw [hy129]; with_reducible exact H2_) | (have H2_ := (Option.bind_some _ _).symm.trans H; with_reducible exact H2_) | with_reducible exact H | (rw [hy129]; exact H) | exact H
   have Ny129 := Aside0.mk hy129
   clear hy129
   have H' := Aside0.mk H
   clear H
   go_enter Try.func47, Try.ntmps47
   go_wp2_with (first | ((with_reducible refine gate_dst (N := 7) rfl ?_); refine Kd.R_make k76 _ 76 rfl (N := 7) rfl 27 _ _ rfl (l0.length : Int) rfl rfl Try.underlying27 (.agg #[(.int .i64 0), (.int .i64 0)]) 16 info76 rfl (by decide) (by omega) z76 (ok := fun _ => True) (okp := fun _ => True) (k76_mkM _ _ _ z76 ) (fun _ hk => hk) trivial (of_decide_eq_true (by first | (with_reducible assumption) | assumption)) (Nat.le_trans (Nat.mul_le_mul_right _ (of_decide_eq_true (by first | (with_reducible assumption) | assumption) : (l0.length : Int).toNat ≤ 17592186044416)) (by omega)) (Below.refl _ _) (Nat.le_refl _) ?_; intro v130 w4 ho5 hb hg_ hnew_; clear hg_ hnew_; (first | rw [← Ny129.out] at ho5 | (simp only [Int.reduceToNat] at ho5; rw [← Ny129.out] at ho5)); have HO131 := Aside0.mk (Kd.R_lower ho5 (below_size (pH HB))); replace HB := sH HB hb; clear hb ho5))
   go_loopg [4] k (fun kq v4 w' => ∃ (x3_1 : List (S76)) (x4_1 : Int), v4 = .int .i64 x4_1 ∧ Aside0 (laws_toPairS.l0 kq l0 x3_1 x4_1 = some r) ∧ Aside0 (kq ≤ k) ∧ Aside0 (Kd.R k76 76 w' w.heap.size (fun _ => True) v130 x3_1) ∧ Aside0 (Below w.heap.size w w'))
   case atStart => exact ⟨(y129), (0), (by first | rfl | (simp; done) | (simp [*]; done)), H', ⟨Nat.le_refl _⟩, ⟨by (with_reducible repeat (first | apply Kd.R_alloc | apply Kd.R_drewN | apply Kd.R_drew)); exact HO131.out⟩, ⟨pH HB⟩⟩
   case round =>
    clear H'
    try clear c2
    try clear c2b0
    try clear c2b1
    try clear p2
    try clear c3
    try clear c3b0
    try clear c3b1
    try clear c4
    obtain ⟨x3_1, x4_1, rfl, HA, HK1, HO_3, HB⟩ := hrel
    cases gk with
    | zero => exact absurd HA.out (by simp [laws_toPairS.l0])
    | succ k1 =>
     have H := HA.out
     clear HA
     simp only [laws_toPairS.l0] at H
     by_cases c6 : x4_1 < (l0.length : Int)
     ·rw [if_pos c6] at H
      have c6b0 : decide (x4_1 < (l0.length : Int)) = true := decide_eq_true c6
      clear c6
      by_cases c7 : 0 ≤ x4_1
      ·rw [if_pos c7] at H
       have c7b0 : decide (0 ≤ x4_1) = true := decide_eq_true c7
       clear c7
       replace H := Option.bind_eq_some_iff.mp H
       obtain ⟨⟨t133, t134⟩, A80, H⟩ := H
       try dsimp only at H
       have A8 := Aside0.mk A80
       clear A80
       by_cases c9 : x4_1 < (x3_1.length : Int)
       ·rw [if_pos c9] at H
        have c9b0 : decide (x4_1 < (x3_1.length : Int)) = true := decide_eq_true c9
        clear c9
        obtain ⟨y135, hy135⟩ : ∃ y_ : List (S76), y_ = (x3_1.set (x4_1 : Int).toNat (⟨t133, t134⟩ : S76)) := ⟨_, rfl⟩
        replace H : (laws_toPairS.l0 k1 l0 y135 (wrap64 (x4_1 + 1))) = some r := by first | (rw [hy135]; with_reducible exact H) | (have H2_ := (Option.bind_some _ _).symm.trans H; rw [hy135]; with_reducible exact H2_) | (have H2_ := (Option.bind_some _ _).symm.trans H; with_reducible exact H2_) | with_reducible exact H | (rw [hy135]; exact H) | exact H
        have Ny135 := Aside0.mk hy135
        clear hy135
        have H' := Aside0.mk H
        clear H
        have p132 : 0 ≤ (x4_1 : Int) := of_decide_eq_true (by first | (with_reducible assumption) | assumption)
        have q132 : x4_1 < (l0.length : Int) := of_decide_eq_true (by first | (with_reducible assumption) | assumption)
        obtain ⟨ad132, e132, hx132_0, hx132_1⟩ := at_T75 HR0.out x4_1 p132 q132
        cases e132
        replace hx132_0 := cH HB hx132_0
        replace hx132_1 := cH HB hx132_1
        replace p132 := eq_true p132
        replace q132 := eq_true q132
        go_wp2_with (first | ((with_reducible refine gate_callee (f := 115) rfl ?_); refine cl_ (some 20) Try.func115 #[.agg #[.int .i64 ((rd_T75 l0 x4_1).f0), .int .i64 ((rd_T75 l0 x4_1).f1)]] ?_; (with_reducible refine (laws_toPair.calls ((rd_T75 l0 x4_1).f0) ((rd_T75 l0 x4_1).f1) t133 t134 _ A8.out).mono ?_); rintro e w11 ⟨rfl, hb⟩; refine ⟨_, rfl, ?_⟩; replace HO_3 := sR HO_3 hb; replace HB := sH HB hb; (try clear hb); (try clear hi); have p10 : 0 ≤ (x4_1 : Int) := of_decide_eq_true (by first | (with_reducible assumption) | assumption); have q10 : (x4_1 : Int) < ((x3_1.length : Int) : Int) := of_decide_eq_true (by first | (with_reducible assumption) | assumption); obtain ⟨go10, co10, eo10, gb10, gl10, cl10, HG10⟩ := Kd.R_form HO_3.out (by omega); (first | cases eo10 | (injection eo10 with ea_ en_ ec_; (first | subst ea_ | (injection ea_ with ea_; subst ea_)); subst ec_; clear en_)); have GB10 := Aside0.mk gb10; have GG10 := Aside0.mk HG10; clear gb10 gl10 HG10; obtain ⟨ce10, hcl10, hM10, hcc10, hfr10⟩ := Kd.R_elem HO_3.out z76 (x4_1 : Int) p10 q10; obtain rfl := k76_openM hM10; have hx10_0 : w11.cell? ⟨go10, (x4_1 : Int).toNat * 2, none⟩ = some (.int .i64 ((rd_T76 x3_1 x4_1).f0)) := hcc10 0 _ rfl; have hx10_1 : w11.cell? ⟨go10, (x4_1 : Int).toNat * 2 + 1, none⟩ = some (.int .i64 ((rd_T76 x3_1 x4_1).f1)) := hcc10 1 _ rfl; have hf10_0 : w11.frozen? ⟨go10, (x4_1 : Int).toNat * 2, none⟩ = false := hfr10 0; have hf10_1 : w11.frozen? ⟨go10, (x4_1 : Int).toNat * 2 + 1, none⟩ = false := hfr10 1; clear hcl10 hcc10 hfr10 hM10; replace p10 := eq_true p10; replace q10 := eq_true q10; have HX12 := Aside0.mk (show Kd.R k76 76 w11 w.heap.size (fun _ => True) (.slice (some ⟨go10, 0, none⟩) x3_1.length co10) x3_1 from (pR HO_3)); obtain ⟨ce12, hcl12, hM12, hcc12, hfr12⟩ := Kd.R_elem HX12.out z76 (x4_1 : Int) (of_decide_eq_true (by first | (with_reducible assumption) | assumption)) (by have h_ : (x4_1 : Int) < ((x3_1.length : Int) : Int) := of_decide_eq_true (by first | (with_reducible assumption) | assumption); first | exact h_ | (have e_ := (Kd.R_reads' HO_3.out).1; omega) | simpa using h_); obtain rfl := k76_openM hM12; have HP12 := Kd.R_seg HX12.out (x4_1 : Int) (of_decide_eq_true (by first | (with_reducible assumption) | assumption)) (by have h_ : (x4_1 : Int) < ((x3_1.length : Int) : Int) := of_decide_eq_true (by first | (with_reducible assumption) | assumption); first | exact h_ | (have e_ := (Kd.R_reads' HO_3.out).1; omega) | simpa using h_) (seg := [.int .i64 t133, .int .i64 t134]) (j := 0) hcl12 hcc12 (show 2 ≤ 2 from by decide) (x' := (⟨t133, t134⟩ : S76)) (k76_mkM _ _ _ (⟨t133, t134⟩ : S76) ) (fun _ hk => hk); have hx12_0 := hcc12 0 _ rfl; (try simp only [show (k76).sz = 2 from rfl, Nat.mul_one, Nat.add_zero] at hx12_0); have hf12_0 := hfr12 0; (try simp only [show (k76).sz = 2 from rfl, Nat.mul_one, Nat.add_zero] at hf12_0); have hx12_1 := hcc12 1 _ rfl; (try simp only [show (k76).sz = 2 from rfl, Nat.mul_one, Nat.add_zero] at hx12_1); have hf12_1 := hfr12 1; (try simp only [show (k76).sz = 2 from rfl, Nat.mul_one, Nat.add_zero] at hf12_1); clear hcl12 hcc12 hfr12 hM12) | ((with_reducible refine gate_store (t := 76) (p := 21) rfl ?_); refine store_event (t := 76) (p := 21) (v := ?vo_w13) (w1 := ((w11.setCell ⟨go10, (x4_1 : Int).toNat * 2, none⟩ (.int .i64 t133)).setCell ⟨go10, (x4_1 : Int).toNat * 2 + 1, none⟩ (.int .i64 t134))) ?hg ?ho ?hn ?hr ?_; (case ho => rfl); (case hg => rfl); (case hn => rfl); (case hr => first | (go_simp; done) | (go_simp; rfl)); intro w13 hw; have hg : w11.grownBy w13 (some go10) := (by rw [hw]; exact HP12.2); have hp_ : Kd.R k76 76 w13 w.heap.size (fun _ => True) (.slice (some ⟨go10, 0, none⟩) x3_1.length co10) y135 := (by rw [hw, Ny135.out]; exact HP12.1); clear HP12; have n0_ := Aside0.mk (hp_); have n1_ := Aside0.mk ((by rw [hw]; exact below_set (below_set (HB.out) GB10.out) GB10.out : Below w.heap.size w w13)); clear HO_3; clear HB; have HO_3 := n0_; have HB := n1_; clear n0_ n1_; clear hg hw hp_))
        go_roundg k1
        case measure => have := HK1.out; omega
        case rel => exact ⟨(y135), (wrap64 (x4_1 + 1)), (by first | rfl | (simp; done) | (simp [*]; done)), H', ⟨by have := HK1.out; omega⟩, ⟨by (with_reducible repeat (first | apply Kd.R_alloc | apply Kd.R_drewN | apply Kd.R_drew)); exact HO_3.out⟩, ⟨pH HB⟩⟩
       ·rw [if_neg c9] at H
        exact absurd H (by simp)
      ·rw [if_neg c7] at H
       exact absurd H (by simp)
     ·rw [if_neg c6] at H
      have c6b0 : decide (x4_1 < (l0.length : Int)) = false := decide_eq_false c6
      clear c6
      obtain rfl := Option.some.inj H
      go_wp2
      go_ret
      exact ⟨_, by first | rfl | (simp [errW_none, errW_some] <;> rfl) | (simp [*, errW_none, errW_some] <;> rfl), by (with_reducible repeat (first | apply Kd.R_alloc | apply Kd.R_drewN | apply Kd.R_drew)); exact HO_3.out, pH HB⟩
  ·rw [if_neg c3] at H
   exact absurd H (by simp)
 ·rw [if_neg c2] at H
  exact absurd H (by simp)
end Go.Proofs.Ytnmhnkpijjmhjaa.QS
namespace Go.Proofs.Ytnmhnkpijjmhjaa.QFnExactWaysBetween
open Go.Proofs.Ytnmhnkpijjmhjaa.Cw Go.Proofs.Ytnmhnkpijjmhjaa.Kp Go.Proofs.Ytnmhnkpijjmhjaa.Ext Go.Proofs.Ytnmhnkpijjmhjaa.QS Go.RowKit Go.Proofs.YtnmhnkpijjmhjaaW.PrintWords Go.Proofs.YtnmhnkpijjmhjaaW.PrintLast Go.Proofs.YtnmhnkpijjmhjaaW.PrintMore
attribute [local go_sem] max2_int min2_int max_two min_two max_three min_three max_four min_four   -- for this text's walks alone
set_option linter.unusedVariables false
set_option linter.unusedSimpArgs false
theorem info2 : (Try.prog.info? 2).map (fun i => (i.zero, i.size, i.bytes)) = some (some (.int .i64 0), 1, 8) := by kernel_rfl
theorem info4 : (Try.prog.info? 4).map (fun i => (i.zero, i.size, i.bytes)) = some (some (.bool false), 1, 1) := by kernel_rfl
theorem info76 : (Try.prog.info? 76).map (fun i => (i.zero, i.size, i.bytes)) = some (some (.agg #[(.int .i64 0), (.int .i64 0)]), 2, 16) := by kernel_rfl
end Go.Proofs.Ytnmhnkpijjmhjaa.QFnExactWaysBetween
namespace Go.Proofs.Ytnmhnkpijjmhjaa.QFnExactWaysBetween
open Go.Proofs.Ytnmhnkpijjmhjaa.Cw Go.Proofs.Ytnmhnkpijjmhjaa.Kp Go.Proofs.Ytnmhnkpijjmhjaa.Ext Go.Proofs.Ytnmhnkpijjmhjaa.QS Go.RowKit Go.Proofs.YtnmhnkpijjmhjaaW.PrintWords Go.Proofs.YtnmhnkpijjmhjaaW.PrintLast Go.Proofs.YtnmhnkpijjmhjaaW.PrintMore
attribute [local go_sem] max2_int min2_int max_two min_two max_three min_three max_four min_four   -- for this text's walks alone
set_option linter.unusedVariables false
set_option linter.unusedSimpArgs false
noncomputable def laws_FnExactWaysBetween.f (k : Nat) (a0_0 : Int) (l0_1 : List Int) (l1 : List (S75)) (a2 : Int) (a3 : Int) : Option (Bool) := (laws_szComplex.f a0_0 l0_1 1048576).bind fun t254 => (if t254 < 0 then (some true) else ((laws_szPairS.f l1 t254).bind fun t255 => (if t255 < 0 then (some true) else ((laws_toComplex.f k a0_0 l0_1).bind fun bt256 => ((laws_toPairS.f k l1).bind fun t260 => ((spec_WaysBetween.f k bt256.1 bt256.2 t260 a2 a3).bind fun bt263 => ((laws_toComplex.f k a0_0 l0_1).bind fun bt265 => ((laws_toPairS.f k l1).bind fun t270 => ((impl_WaysBetween.f bt265.1 bt265.2 t270 a2 a3).bind fun bt273 => (if bt273.1 = bt263.1 then (if bt273.2 = bt263.2 then ((laws_toComplex.f k a0_0 l0_1).bind fun bt275 => ((laws_eqComplex.f k bt265.1 bt265.2 bt275.1 bt275.2).bind fun t279 => (if t279 = true then ((laws_toPairS.f k l1).bind fun t280 => ((laws_eqPairS.f k t270 t280).bind fun t283 => (if t283 = true then (some true) else (none)))) else (none)))) else (none)) else (none)))))))))))
set_option maxHeartbeats 8000000 in
set_option maxRecDepth 100000 in
theorem laws_FnExactWaysBetween.calls (k : Nat) (a0_0 : Int) (A0_1 : Option Addr) (c0_1 : Nat) (l0_1 : List Int) (A1 : Option Addr) (c1 : Nat) (l1 : List (S75)) (a2 : Int) (a3 : Int) (r : Bool) (w : World) (hr0_1 : Kd.C (Kd.int .i64) w A0_1 l0_1.length l0_1) (hc0_1 : l0_1.length ≤ c0_1) (hr1 : Kd.C k75 w A1 l1.length l1) (hc1 : l1.length ≤ c1) (h : laws_FnExactWaysBetween.f k a0_0 l0_1 l1 a2 a3 = some r) :
  Calls Try.prog 12 #[.agg #[.int .i64 a0_0, .slice A0_1 l0_1.length c0_1], .slice A1 l1.length c1, .int .i64 a2, .int .i64 a3] w fun e w' => e = .returned (.bool r) ∧ Below w.heap.size w w' := by
 have hu24 := Try.underlying24
 have hu26 := Try.underlying26
 have HR0_1 := Aside0.mk hr0_1
 have HC0_1 := Aside0.mk hc0_1
 clear hr0_1 hc0_1
 have HR1 := Aside0.mk hr1
 have HC1 := Aside0.mk hc1
 clear hr1 hc1
 have HB := Aside0.mk (Below.refl w.heap.size w)
 have H : ((laws_szComplex.f a0_0 l0_1 1048576).bind fun t254 => (if t254 < 0 then (some true) else ((laws_szPairS.f l1 t254).bind fun t255 => (if t255 < 0 then (some true) else ((laws_toComplex.f k a0_0 l0_1).bind fun bt256 => ((laws_toPairS.f k l1).bind fun t260 => ((spec_WaysBetween.f k bt256.1 bt256.2 t260 a2 a3).bind fun bt263 => ((laws_toComplex.f k a0_0 l0_1).bind fun bt265 => ((laws_toPairS.f k l1).bind fun t270 => ((impl_WaysBetween.f bt265.1 bt265.2 t270 a2 a3).bind fun bt273 => (if bt273.1 = bt263.1 then (if bt273.2 = bt263.2 then ((laws_toComplex.f k a0_0 l0_1).bind fun bt275 => ((laws_eqComplex.f k bt265.1 bt265.2 bt275.1 bt275.2).bind fun t279 => (if t279 = true then ((laws_toPairS.f k l1).bind fun t280 => ((laws_eqPairS.f k t270 t280).bind fun t283 => (if t283 = true then (some true) else (none)))) else (none)))) else (none)) else (none)))))))))))) = some r := h
 clear h
 replace H := Option.bind_eq_some_iff.mp H
 obtain ⟨t254, A50, H⟩ := H
 try dsimp only at H
 have A5 := Aside0.mk A50
 clear A50
 by_cases c6 : t254 < 0
 ·rw [if_pos c6] at H
  have c6b0 : decide (t254 < 0) = true := decide_eq_true c6
  clear c6
  obtain rfl := Option.some.inj H
  go_enter Try.func12, Try.ntmps12
  go_wp2_with (first | ((with_reducible refine gate_dst (N := 4) rfl ?_); refine box_event ?hg (N := 4) ?hd (cs := #[.int .i64 a0_0, .slice A0_1 l0_1.length c0_1]) (t := 24) ?hr ?_; (case hd => rfl); (case hg => rfl); (case hr => first | (go_simp; done) | (go_simp; rfl)); intro gb253 hg w7 hbox hb; have BK253 := Aside0.mk (hbox); have GW253 := gH HB hg; have GE253 := gH HB hg; replace HB := sH HB hb; clear hb hbox hg; have hcz8_0 : w7.cell? ⟨gb253, 0, none⟩ = some (.int .i64 a0_0) := cB BK253 0; have hcz8_1 : w7.cell? ⟨gb253, 1, none⟩ = some (.slice A0_1 l0_1.length c0_1) := cB BK253 1; have hfz8_0 := zB BK253 0; have hfz8_1 := zB BK253 1) | ((with_reducible refine gate_callee (f := 15) rfl ?_); refine cl_ (some 18) Try.func15 #[.agg #[.int .i64 a0_0, .slice A0_1 l0_1.length c0_1], .int .i64 1048576] ?_; (with_reducible refine (laws_szComplex.calls a0_0 _ _ l0_1 1048576 t254 _ ?side1 ?side2 A5.out).mono ?_); (case side1 => exact pC ((Kd.C_below HR0_1.out HB.out))); (case side2 => exact HC0_1.out); rintro e w9 ⟨rfl, hb⟩; refine ⟨_, rfl, ?_⟩; replace BK253 := sB BK253 hb; replace HB := sH HB hb; (try clear hb); (try clear hi)))
  go_ret
  exact ⟨by first | rfl | (simp [errW_none, errW_some] <;> rfl) | (simp [*, errW_none, errW_some] <;> rfl) | (exfalso; simp_all), pH HB⟩
 ·rw [if_neg c6] at H
  have c6b0 : decide (t254 < 0) = false := decide_eq_false c6
  clear c6
  replace H := Option.bind_eq_some_iff.mp H
  obtain ⟨t255, A100, H⟩ := H
  try dsimp only at H
  have A10 := Aside0.mk A100
  clear A100
  by_cases c11 : t255 < 0
  ·rw [if_pos c11] at H
   have c11b0 : decide (t255 < 0) = true := decide_eq_true c11
   clear c11
   obtain rfl := Option.some.inj H
   go_enter Try.func12, Try.ntmps12
   go_wp2_with (first | ((with_reducible refine gate_dst (N := 4) rfl ?_); refine box_event ?hg (N := 4) ?hd (cs := #[.int .i64 a0_0, .slice A0_1 l0_1.length c0_1]) (t := 24) ?hr ?_; (case hd => rfl); (case hg => rfl); (case hr => first | (go_simp; done) | (go_simp; rfl)); intro gb253 hg w12 hbox hb; have BK253 := Aside0.mk (hbox); have GW253 := gH HB hg; have GE253 := gH HB hg; replace HB := sH HB hb; clear hb hbox hg; have hcz13_0 : w12.cell? ⟨gb253, 0, none⟩ = some (.int .i64 a0_0) := cB BK253 0; have hcz13_1 : w12.cell? ⟨gb253, 1, none⟩ = some (.slice A0_1 l0_1.length c0_1) := cB BK253 1; have hfz13_0 := zB BK253 0; have hfz13_1 := zB BK253 1) | ((with_reducible refine gate_callee (f := 15) rfl ?_); refine cl_ (some 18) Try.func15 #[.agg #[.int .i64 a0_0, .slice A0_1 l0_1.length c0_1], .int .i64 1048576] ?_; (with_reducible refine (laws_szComplex.calls a0_0 _ _ l0_1 1048576 t254 _ ?side1 ?side2 A5.out).mono ?_); (case side1 => exact pC ((Kd.C_below HR0_1.out HB.out))); (case side2 => exact HC0_1.out); rintro e w14 ⟨rfl, hb⟩; refine ⟨_, rfl, ?_⟩; replace BK253 := sB BK253 hb; replace HB := sH HB hb; (try clear hb); (try clear hi)) | ((with_reducible refine gate_callee (f := 45) rfl ?_); refine cl_ (some 23) Try.func45 #[.slice A1 l1.length c1, .int .i64 t254] ?_; (with_reducible refine (laws_szPairS.calls _ _ l1 t254 t255 _ ?side1 ?side2 A10.out).mono ?_); (case side1 => exact pC ((Kd.C_below HR1.out HB.out))); (case side2 => exact HC1.out); rintro e w' ⟨rfl, ⟨nd, rfl⟩⟩; refine ⟨_, rfl, ?_⟩))
   go_ret
   exact ⟨by first | rfl | (simp [errW_none, errW_some] <;> rfl) | (simp [*, errW_none, errW_some] <;> rfl) | (exfalso; simp_all), pH HB⟩
  ·rw [if_neg c11] at H
   have c11b0 : decide (t255 < 0) = false := decide_eq_false c11
   clear c11
   replace H := Option.bind_eq_some_iff.mp H
   obtain ⟨⟨t256, t257⟩, A150, H⟩ := H
   try dsimp only at H
   have A15 := Aside0.mk A150
   clear A150
   replace H := Option.bind_eq_some_iff.mp H
   obtain ⟨t260, A160, H⟩ := H
   try dsimp only at H
   have A16 := Aside0.mk A160
   clear A160
   replace H := Option.bind_eq_some_iff.mp H
   obtain ⟨⟨t263, t264⟩, A170, H⟩ := H
   try dsimp only at H
   have A17 := Aside0.mk A170
   clear A170
   replace H := Option.bind_eq_some_iff.mp H
   obtain ⟨⟨t265, t266⟩, A180, H⟩ := H
   try dsimp only at H
   have A18 := Aside0.mk A180
   clear A180
   replace H := Option.bind_eq_some_iff.mp H
   obtain ⟨t270, A190, H⟩ := H
   try dsimp only at H
   have A19 := Aside0.mk A190
   clear A190
   replace H := Option.bind_eq_some_iff.mp H
   obtain ⟨⟨t273, t274⟩, A200, H⟩ := H
   try dsimp only at H
   have A20 := Aside0.mk A200
   clear A200
   by_cases c21 : t273 = t263
   ·rw [if_pos c21] at H
    have c21b0 : (t273 == t263) = true := beq_iff_eq.mpr c21
    have c21b1 : (t273 != t263) = false := bne_eq_false_iff_eq.mpr c21
    clear c21
    by_cases c22 : t274 = t264
    ·rw [if_pos c22] at H
     have c22b0 : (t274 == t264) = true := beq_iff_eq.mpr c22
     have c22b1 : (t274 != t264) = false := bne_eq_false_iff_eq.mpr c22
     clear c22
     replace H := Option.bind_eq_some_iff.mp H
     obtain ⟨⟨t275, t276⟩, A230, H⟩ := H
     try dsimp only at H
     have A23 := Aside0.mk A230
     clear A230
     replace H := Option.bind_eq_some_iff.mp H
     obtain ⟨t279, A240, H⟩ := H
     try dsimp only at H
     have A24 := Aside0.mk A240
     clear A240
     by_cases c25 : t279 = true
     ·subst c25
      have H1 : ((laws_toPairS.f k l1).bind fun t280 => ((laws_eqPairS.f k t270 t280).bind fun t283 => (if t283 = true then (some true) else (none)))) = some r := by rw [if_pos rfl] at H; exact H
      clear H
      have H := H1
      clear H1
      replace H := Option.bind_eq_some_iff.mp H
      obtain ⟨t280, A260, H⟩ := H
      try dsimp only at H
      have A26 := Aside0.mk A260
      clear A260
      replace H := Option.bind_eq_some_iff.mp H
      obtain ⟨t283, A270, H⟩ := H
      try dsimp only at H
      have A27 := Aside0.mk A270
      clear A270
      by_cases c28 : t283 = true
      ·subst c28
       have H1 : (some true) = some r := by rw [if_pos rfl] at H; exact H
       clear H
       have H := H1
       clear H1
       obtain rfl := Option.some.inj H
       go_enter Try.func12, Try.ntmps12
       try go_wp2_with (first | ((with_reducible refine gate_dst (N := 4) rfl ?_); refine box_event ?hg (N := 4) ?hd (cs := #[.int .i64 a0_0, .slice A0_1 l0_1.length c0_1]) (t := 24) ?hr ?_; (case hd => rfl); (case hg => rfl); (case hr => first | (go_simp; done) | (go_simp; rfl)); intro gb253 hg w29 hbox hb; have BK253 := Aside0.mk (hbox); have GW253 := gH HB hg; have GE253 := gH HB hg; replace HB := sH HB hb; clear hb hbox hg; have hcz30_0 : w29.cell? ⟨gb253, 0, none⟩ = some (.int .i64 a0_0) := cB BK253 0; have hcz30_1 : w29.cell? ⟨gb253, 1, none⟩ = some (.slice A0_1 l0_1.length c0_1) := cB BK253 1; have hfz30_0 := zB BK253 0; have hfz30_1 := zB BK253 1) | ((with_reducible refine gate_callee (f := 15) rfl ?_); refine cl_ (some 18) Try.func15 #[.agg #[.int .i64 a0_0, .slice A0_1 l0_1.length c0_1], .int .i64 1048576] ?_; (with_reducible refine (laws_szComplex.calls a0_0 _ _ l0_1 1048576 t254 _ ?side1 ?side2 A5.out).mono ?_); (case side1 => exact pC ((Kd.C_below HR0_1.out HB.out))); (case side2 => exact HC0_1.out); rintro e w31 ⟨rfl, hb⟩; refine ⟨_, rfl, ?_⟩; replace BK253 := sB BK253 hb; replace HB := sH HB hb; (try clear hb); (try clear hi)) | ((with_reducible refine gate_callee (f := 45) rfl ?_); refine cl_ (some 23) Try.func45 #[.slice A1 l1.length c1, .int .i64 t254] ?_; (with_reducible refine (laws_szPairS.calls _ _ l1 t254 t255 _ ?side1 ?side2 A10.out).mono ?_); (case side1 => exact pC ((Kd.C_below HR1.out HB.out))); (case side2 => exact HC1.out); rintro e w' ⟨rfl, ⟨nd, rfl⟩⟩; refine ⟨_, rfl, ?_⟩; (try (rw [drewN_self w31]; generalize hq_ : World.drewN w31 _ = w31; have n0_ : Aside0 (w31.heap[gb253]? = some (.cells #[.int .i64 a0_0, .slice A0_1 l0_1.length c0_1] 24 (0, 0))) := ⟨by rw [← hq_]; exact (pB BK253)⟩; have n1_ : Aside0 (Below w.heap.size w w31) := ⟨by rw [← hq_]; exact (pH HB)⟩; clear BK253 HB hq_; have BK253 := n0_; have HB := n1_; clear n0_ n1_)); (try (have hcz32_0 : w31.cell? ⟨gb253, 0, none⟩ = some (.int .i64 a0_0) := cB BK253 0; have hcz32_1 : w31.cell? ⟨gb253, 1, none⟩ = some (.slice A0_1 l0_1.length c0_1) := cB BK253 1; have hfz32_0 := zB BK253 0; have hfz32_1 := zB BK253 1)); have hcz33_0 : w31.cell? ⟨gb253, 0, none⟩ = some (.int .i64 a0_0) := cB BK253 0; have hcz33_1 : w31.cell? ⟨gb253, 1, none⟩ = some (.slice A0_1 l0_1.length c0_1) := cB BK253 1; have hfz33_0 := zB BK253 0; have hfz33_1 := zB BK253 1) | ((with_reducible refine gate_callee (f := 17) rfl ?_); refine cl_ (some 28) Try.func17 #[.agg #[.int .i64 a0_0, .slice A0_1 l0_1.length c0_1]] ?_; (with_reducible refine (laws_toComplex.calls k a0_0 _ _ l0_1 t256 t257 _ ?side1 ?side2 A15.out).mono ?_); (case side1 => exact pC ((Kd.C_below HR0_1.out HB.out))); (case side2 => exact HC0_1.out); rintro e w34 ⟨v258, rfl, ho0, hb⟩; refine ⟨_, rfl, ?_⟩; have HO259 := Aside0.mk (Kd.R_lower ho0 (below_size (pH HB))); replace BK253 := sB BK253 hb; replace HB := sH HB hb; (try clear hb); (try clear hi); (try clear ho0)) | ((with_reducible refine gate_callee (f := 47) rfl ?_); refine cl_ (some 30) Try.func47 #[.slice A1 l1.length c1] ?_; (with_reducible refine (laws_toPairS.calls k _ _ l1 t260 _ ?side1 ?side2 A16.out).mono ?_); (case side1 => exact pC ((Kd.C_below HR1.out HB.out))); (case side2 => exact HC1.out); rintro e w35 ⟨v261, rfl, ho0, hb⟩; refine ⟨_, rfl, ?_⟩; replace HO259 := sR HO259 hb; have HO262 := Aside0.mk (Kd.R_lower ho0 (below_size (pH HB))); replace BK253 := sB BK253 hb; replace HB := sH HB hb; (try clear hb); (try clear hi); (try clear ho0); obtain ⟨Ao36, co36, eo36⟩ := Kd.R_slice HO259.out; subst eo36; obtain ⟨Ao37, co37, eo37⟩ := Kd.R_slice HO262.out; subst eo37) | ((with_reducible refine gate_callee (f := 46) rfl ?_); refine cl_ (some 33) Try.func46 #[.agg #[.int .i64 t256, .slice Ao36 t257.length co36], .slice Ao37 t260.length co37, .int .i64 a2, .int .i64 a3] ?_; (with_reducible refine (spec_WaysBetween.calls k t256 _ _ t257 _ _ t260 a2 a3 t263 t264 _ ?side1 ?side2 ?side3 ?side4 A17.out).mono ?_); (case side1 => exact pC ((Kd.R_reads' HO259.out).2.2)); (case side2 => exact (Kd.R_reads' HO259.out).2.1); (case side3 => exact pC ((Kd.R_reads' HO262.out).2.2)); (case side4 => exact (Kd.R_reads' HO262.out).2.1); rintro e w38 ⟨rfl, hb⟩; refine ⟨_, rfl, ?_⟩; replace HO259 := sR HO259 hb; replace HO262 := sR HO262 hb; replace BK253 := sB BK253 hb; replace HB := sH HB hb; (try clear hb); (try clear hi); have hcz39_0 : w38.cell? ⟨gb253, 0, none⟩ = some (.int .i64 a0_0) := cB BK253 0; have hcz39_1 : w38.cell? ⟨gb253, 1, none⟩ = some (.slice A0_1 l0_1.length c0_1) := cB BK253 1; have hfz39_0 := zB BK253 0; have hfz39_1 := zB BK253 1) | ((with_reducible refine gate_callee (f := 17) rfl ?_); refine cl_ (some 37) Try.func17 #[.agg #[.int .i64 a0_0, .slice A0_1 l0_1.length c0_1]] ?_; (with_reducible refine (laws_toComplex.calls k a0_0 _ _ l0_1 t265 t266 _ ?side1 ?side2 A18.out).mono ?_); (case side1 => exact pC ((Kd.C_below HR0_1.out HB.out))); (case side2 => exact HC0_1.out); rintro e w40 ⟨v267, rfl, ho0, hb⟩; refine ⟨_, rfl, ?_⟩; replace HO262 := sR HO262 hb; have HO268 := Aside0.mk (Kd.R_lower (Kd.R_new' ho0 (Kd.R_lt (pR HO259))) (below_size (pH HB))); replace HO259 := Aside0.mk (Kd.R_elder' (pR HO259) (Kd.R_base ho0) hb); replace BK253 := sB BK253 hb; replace HB := sH HB hb; (try clear hb); (try clear hi); (try clear ho0)) | ((with_reducible refine gate_dst (N := 12) rfl ?_); refine box_event ?hg (N := 12) ?hd (cs := #[.int .i64 0, .slice none 0 0]) (t := 26) ?hr ?_; (case hd => rfl); (case hg => rfl); (case hr => first | (go_simp; done) | (go_simp; rfl)); intro gb269 hg w41 hbox hb; replace HO259 := sR HO259 hb; replace HO262 := sR HO262 hb; replace HO268 := sR HO268 hb; have BK269 := Aside0.mk (hbox); have GW269 := gH HB hg; have GE269 := gH HB hg; replace HB := sH HB hb; have NB253_269 := nB BK253 hg; have NB269_253 := oB BK253 hg; replace BK253 := sB BK253 hb; clear hb hbox hg; (try have hnb42 := NB269_253.out); (try have hnc42 := NB253_269.out); have hcz43_0 : w41.cell? ⟨gb269, 0, none⟩ = some (.int .i64 0) := cB BK269 0; have hcz43_1 : w41.cell? ⟨gb269, 1, none⟩ = some (.slice none 0 0) := cB BK269 1; have hfz43_0 := zB BK269 0; have hfz43_1 := zB BK269 1; obtain ⟨Ao44, co44, eo44⟩ := Kd.R_slice HO268.out; subst eo44) | ((with_reducible refine gate_callee (f := 47) rfl ?_); refine cl_ (some 39) Try.func47 #[.slice A1 l1.length c1] ?_; (with_reducible refine (laws_toPairS.calls k _ _ l1 t270 _ ?side1 ?side2 A19.out).mono ?_); (case side1 => exact Kd.C_below HR1.out (pH HB)); (case side2 => exact HC1.out); rintro e w45 ⟨v271, rfl, ho0, hb⟩; refine ⟨_, rfl, ?_⟩; have n0_ := Aside0.mk (Kd.R_below (by (with_reducible repeat (first | apply Kd.R_alloc | apply Kd.R_drewN | apply Kd.R_drew)); exact (Kd.R_mono (Kd.R_far (p := ⟨gb269, 1, none⟩) (Kd.R_far (p := ⟨gb269, 0, none⟩) (Kd.R_types HO259.out BK269.out (by decide)) (fun _ hk => hk.2) (.int .i64 t265)) (fun _ hk => hk.2) (.slice Ao44 t266.length co44)) (fun _ h_ => h_.1))) hb); have n1_ := Aside0.mk (Kd.R_elder' (by (with_reducible repeat (first | apply Kd.R_alloc | apply Kd.R_drewN | apply Kd.R_drew)); exact (Kd.R_mono (Kd.R_far (p := ⟨gb269, 1, none⟩) (Kd.R_far (p := ⟨gb269, 0, none⟩) (Kd.R_types HO262.out BK269.out (by decide)) (fun _ hk => hk.2) (.int .i64 t265)) (fun _ hk => hk.2) (.slice Ao44 t266.length co44)) (fun _ h_ => h_.1))) (Kd.R_base ho0) hb); have n2_ := Aside0.mk (Kd.R_below (by (with_reducible repeat (first | apply Kd.R_alloc | apply Kd.R_drewN | apply Kd.R_drew)); exact (Kd.R_mono (Kd.R_far (p := ⟨gb269, 1, none⟩) (Kd.R_far (p := ⟨gb269, 0, none⟩) (Kd.R_types HO268.out BK269.out (by decide)) (fun _ hk => hk.2) (.int .i64 t265)) (fun _ hk => hk.2) (.slice Ao44 t266.length co44)) (fun _ h_ => h_.1))) hb); have n3_ := Aside0.mk (Kd.R_lower (Kd.R_new' ho0 (Kd.R_lt (by (with_reducible repeat (first | apply Kd.R_alloc | apply Kd.R_drewN | apply Kd.R_drew)); exact (Kd.R_mono (Kd.R_far (p := ⟨gb269, 1, none⟩) (Kd.R_far (p := ⟨gb269, 0, none⟩) (Kd.R_types HO262.out BK269.out (by decide)) (fun _ hk => hk.2) (.int .i64 t265)) (fun _ hk => hk.2) (.slice Ao44 t266.length co44)) (fun _ h_ => h_.1))))) (below_size (pH HB))); have n4_ := Aside0.mk (blk_below (g := gb253) (o := .cells #[.int .i64 a0_0, .slice A0_1 l0_1.length c0_1] 24 (0, 0)) (by (with_reducible repeat (first | refine blk_drewN ?_ _ | refine blk_drew ?_ | refine blk_alloc ?_ _)); refine blk_far ?_ NB253_269.out _; (with_reducible repeat (first | refine blk_drewN ?_ _ | refine blk_drew ?_ | refine blk_alloc ?_ _)); refine blk_far ?_ NB253_269.out _; (with_reducible repeat (first | refine blk_drewN ?_ _ | refine blk_drew ?_ | refine blk_alloc ?_ _)); exact BK253.out) hb); have n5_ := Aside0.mk (blk_below (g := gb269) (o := .cells #[.int .i64 t265, .slice Ao44 t266.length co44] 26 (0, 0)) (by (with_reducible repeat (first | refine blk_drewN ?_ _ | refine blk_drew ?_ | refine blk_alloc ?_ _)); refine blk_put (cs := #[.int .i64 t265, .slice none 0 0]) ?_ 1 _ rfl; (with_reducible repeat (first | refine blk_drewN ?_ _ | refine blk_drew ?_ | refine blk_alloc ?_ _)); refine blk_put (cs := #[.int .i64 0, .slice none 0 0]) ?_ 0 _ rfl; (with_reducible repeat (first | refine blk_drewN ?_ _ | refine blk_drew ?_ | refine blk_alloc ?_ _)); exact BK269.out) hb); have n6_ := sH HB hb; clear HO259; clear HO262; clear HO268; clear BK253; clear BK269; clear HB; have HO259 := n0_; have HO262 := n1_; have HO268 := n2_; have HO272 := n3_; have BK253 := n4_; have BK269 := n5_; have HB := n6_; clear n0_ n1_ n2_ n3_ n4_ n5_ n6_; (try clear hb); (try clear hi); (try clear ho0); have hcz46_0 : w45.cell? ⟨gb269, 0, none⟩ = some (.int .i64 t265) := cB BK269 0; have hcz46_1 : w45.cell? ⟨gb269, 1, none⟩ = some (.slice Ao44 t266.length co44) := cB BK269 1; have hfz46_0 := zB BK269 0; have hfz46_1 := zB BK269 1; obtain ⟨Ao47, co47, eo47⟩ := Kd.R_slice HO272.out; subst eo47) | ((with_reducible refine gate_callee (f := 48) rfl ?_); refine cl_ (some 45) Try.func48 #[.agg #[.int .i64 t265, .slice Ao44 t266.length co44], .slice Ao47 t270.length co47, .int .i64 a2, .int .i64 a3] ?_; (with_reducible refine (impl_WaysBetween.calls t265 _ _ t266 _ _ t270 a2 a3 t273 t274 _ ?side1 ?side2 ?side3 ?side4 A20.out).mono ?_); (case side1 => exact pC ((Kd.R_reads' HO268.out).2.2)); (case side2 => exact (Kd.R_reads' HO268.out).2.1); (case side3 => exact pC ((Kd.R_reads' HO272.out).2.2)); (case side4 => exact (Kd.R_reads' HO272.out).2.1); rintro e w48 ⟨rfl, hb⟩; refine ⟨_, rfl, ?_⟩; replace HO259 := sR HO259 hb; replace HO262 := sR HO262 hb; replace HO268 := sR HO268 hb; replace HO272 := sR HO272 hb; replace BK253 := sB BK253 hb; replace BK269 := sB BK269 hb; replace HB := sH HB hb; (try clear hb); (try clear hi)))
       replace HO259 := Aside0.mk (Kd.R_drew HO259.out)
       replace HO262 := Aside0.mk (Kd.R_drew HO262.out)
       replace HO268 := Aside0.mk (Kd.R_drew HO268.out)
       replace HO272 := Aside0.mk (Kd.R_drew HO272.out)
       replace BK253 := dB BK253
       replace BK269 := dB BK269
       replace HB := dH HB
       refine st_ 5 (S := fun w' => w'.cell? ⟨gb269, 0, none⟩ = some (.int .i64 t265) ∧ w'.cell? ⟨gb269, 1, none⟩ = some (.slice Ao44 t266.length co44) ∧ w'.cell? ⟨gb253, 0, none⟩ = some (.int .i64 a0_0) ∧ w'.cell? ⟨gb253, 1, none⟩ = some (.slice A0_1 l0_1.length c0_1)) (ds := []) ⟨cB BK269 0, cB BK269 1, cB BK253 0, cB BK253 1⟩ (fun hHeld => ?_)
       generalize w48.drew = w49 at HO259 HO262 HO268 HO272 BK253 BK269 HB hHeld ⊢
       refine take_ (i := 0) (N := some 56) (v := ?_) (a' := ?_) (mB 5 1) rfl rfl (by kernel_rfl) (fun _ _ _ h => h) (Or.inl ⟨by rfl, ?_⟩) hHeld ?_ ?_
       rotate_left
       ·rintro w' ⟨s0, s1, s2, s3⟩
        go_simp
        with_reducible rfl
       rotate_left
       ·simp only [Act.put, List.setIfInBounds_toArray, List.set_cons_zero, List.set_cons_succ, i64_w, i32_w]
        rfl
       refine take_ (i := 1) (N := some 57) (v := ?_) (a' := ?_) (mB 5 3) rfl rfl (by kernel_rfl) (fun _ _ _ h => h) (Or.inl ⟨by rfl, ?_⟩) hHeld ?_ ?_
       rotate_left
       ·rintro w' ⟨s0, s1, s2, s3⟩
        go_simp
        with_reducible rfl
       rotate_left
       ·simp only [Act.put, List.setIfInBounds_toArray, List.set_cons_zero, List.set_cons_succ, i64_w, i32_w]
        rfl
       refine one_ (i := 2) (N := some 58) (mB 5 7) rfl rfl (by kernel_rfl) (by decide) (fun K hK => ?_)
       refine ca_ Try.func17 #[.agg #[.int .i64 a0_0, .slice A0_1 l0_1.length c0_1]] ?_
       with_reducible refine (laws_toComplex.calls k a0_0 _ _ l0_1 t275 t276 _ ?side1 ?side2 A23.out).mono ?_
       (case side1 => exact pC ((Kd.C_below HR0_1.out HB.out)))
       (case side2 => exact HC0_1.out)
       rintro e w50 ⟨v277, rfl, ho0, hb⟩
       refine ⟨_, rfl, ?_⟩
       replace HO262 := sR HO262 hb
       replace HO272 := sR HO272 hb
       have HO278 := Aside0.mk (Kd.R_lower (Kd.R_new' (Kd.R_new' ho0 (Kd.R_lt (pR HO259))) (Kd.R_lt (pR HO268))) (below_size (pH HB)))
       replace HO259 := Aside0.mk (Kd.R_elder' (pR HO259) (Kd.R_base ho0) hb)
       replace HO268 := Aside0.mk (Kd.R_elder' (pR HO268) (Kd.R_base ho0) hb)
       replace BK253 := sB BK253 hb
       replace BK269 := sB BK269 hb
       replace HB := sH HB hb
       (try clear hb)
       (try clear hb2)
       (try clear hk)
       (try clear hi)
       (try clear ho0)
       obtain ⟨Ao51, co51, eo51⟩ := Kd.R_slice HO278.out
       (first | subst eo51 | (injection eo51 with f1_ f2_ f3_; have f4_ := f1_.symm; have f5_ := f3_.symm; clear f1_ f2_ f3_; subst f4_; subst f5_))
       refine hK.out _ _ ⟨cB BK269 0, cB BK269 1, cB BK253 0, cB BK253 1⟩ (fun hHeld => ?_)
       clear hK K
       refine nm_ ?_
       refine one_ (i := 3) (N := some 59) (mB 5 15) rfl rfl (by kernel_rfl) (by decide) (fun K hK => ?_)
       refine ca_ Try.func19 #[.agg #[.int .i64 t265, .slice Ao44 t266.length co44], .agg #[.int .i64 t275, .slice Ao51 t276.length co51]] ?_
       with_reducible refine (laws_eqComplex.calls k t265 _ _ t266 t275 _ _ t276 true _ ?side1 ?side2 ?side3 ?side4 A24.out).mono ?_
       (case side1 => exact pC ((Kd.R_reads' HO268.out).2.2))
       (case side2 => exact (Kd.R_reads' HO268.out).2.1)
       (case side3 => exact pC ((Kd.R_reads' HO278.out).2.2))
       (case side4 => exact (Kd.R_reads' HO278.out).2.1)
       rintro e w52 ⟨rfl, hb⟩
       refine ⟨_, rfl, ?_⟩
       replace HO259 := sR HO259 hb
       replace HO262 := sR HO262 hb
       replace HO268 := sR HO268 hb
       replace HO272 := sR HO272 hb
       replace HO278 := sR HO278 hb
       replace BK253 := sB BK253 hb
       replace BK269 := sB BK269 hb
       replace HB := sH HB hb
       (try clear hb)
       (try clear hb2)
       (try clear hk)
       (try clear hi)
       refine hK.out _ _ ⟨cB BK269 0, cB BK269 1, cB BK253 0, cB BK253 1⟩ (fun hHeld => ?_)
       clear hK K
       refine nm_ ?_
       refine pure_ (i := 4) (N := some 60) (v := ?_) (a' := ?_) (mB 5 31) rfl rfl (by kernel_rfl) (fun _ _ _ h => h) (Or.inl ⟨by rfl, ?_⟩) ?_ ?_
       rotate_left
       ·intro w'
        go_simp
        with_reducible rfl
       rotate_left
       ·simp only [Act.put, List.setIfInBounds_toArray, List.set_cons_zero, List.set_cons_succ, i64_w, i32_w]
        rfl
       refine done_ (by kernel_rfl) ?_
       try go_wp2_with (first | ((with_reducible refine gate_callee (f := 47) rfl ?_); refine cl_ (some 63) Try.func47 #[.slice A1 l1.length c1] ?_; (with_reducible refine (laws_toPairS.calls k _ _ l1 t280 _ ?side1 ?side2 A26.out).mono ?_); (case side1 => exact pC ((Kd.C_below HR1.out HB.out))); (case side2 => exact HC1.out); rintro e w53 ⟨v281, rfl, ho0, hb⟩; refine ⟨_, rfl, ?_⟩; replace HO259 := sR HO259 hb; replace HO268 := sR HO268 hb; replace HO278 := sR HO278 hb; have HO282 := Aside0.mk (Kd.R_lower (Kd.R_new' (Kd.R_new' ho0 (Kd.R_lt (pR HO262))) (Kd.R_lt (pR HO272))) (below_size (pH HB))); replace HO262 := Aside0.mk (Kd.R_elder' (pR HO262) (Kd.R_base ho0) hb); replace HO272 := Aside0.mk (Kd.R_elder' (pR HO272) (Kd.R_base ho0) hb); replace BK253 := sB BK253 hb; replace BK269 := sB BK269 hb; replace HB := sH HB hb; (try clear hb); (try clear hi); (try clear ho0); have nD_ := Aside0.mk (Kd.R_mono (ok' := fun k_ => True) HO268.out (fun k_ hk => trivial)); clear HO268; have HO268 := nD_; clear nD_; have nD_ := Aside0.mk (Kd.R_mono (ok' := fun k_ => some k_ ≠ (v281 : Value).ownBlock) HO272.out (fun k_ hk => hk.2)); clear HO272; have HO272 := nD_; clear nD_; have nD_ := Aside0.mk (Kd.R_mono (ok' := fun k_ => some k_ ≠ (.slice Ao47 t270.length co47 : Value).ownBlock) HO282.out (fun k_ hk => hk.2)); clear HO282; have HO282 := nD_; clear nD_; clear HO259 HO262 HO278; obtain ⟨Ao54, co54, eo54⟩ := Kd.R_slice HO282.out; subst eo54) | ((with_reducible refine gate_callee (f := 20) rfl ?_); refine cl_ (some 64) Try.func20 #[.slice Ao47 t270.length co47, .slice Ao54 t280.length co54] ?_; (with_reducible refine (laws_eqPairS.calls k _ _ t270 _ _ t280 true _ ?side1 ?side2 ?side3 ?side4 A27.out).mono ?_); (case side1 => exact pC ((Kd.R_reads' HO272.out).2.2)); (case side2 => exact (Kd.R_reads' HO272.out).2.1); (case side3 => exact pC ((Kd.R_reads' HO282.out).2.2)); (case side4 => exact (Kd.R_reads' HO282.out).2.1); rintro e w55 ⟨rfl, hb⟩; refine ⟨_, rfl, ?_⟩; replace HO268 := sR HO268 hb; replace HO272 := sR HO272 hb; replace HO282 := sR HO282 hb; replace BK253 := sB BK253 hb; replace BK269 := sB BK269 hb; replace HB := sH HB hb; (try clear hb); (try clear hi); clear HO272 HO282))
       go_ret
       exact ⟨by first | rfl | (simp [errW_none, errW_some] <;> rfl) | (simp [*, errW_none, errW_some] <;> rfl) | (exfalso; simp_all), pH HB⟩
      ·replace c28 := Bool.eq_false_iff.mpr c28
       subst c28
       have H1 : (none) = some r := by rw [if_neg (show ¬ (false = true) by decide)] at H; exact H
       clear H
       have H := H1
       clear H1
       exact absurd H (by simp)
     ·replace c25 := Bool.eq_false_iff.mpr c25
      subst c25
      have H1 : (none) = some r := by rw [if_neg (show ¬ (false = true) by decide)] at H; exact H
      clear H
      have H := H1
      clear H1
      exact absurd H (by simp)
    ·rw [if_neg c22] at H
     exact absurd H (by simp)
   ·rw [if_neg c21] at H
    exact absurd H (by simp)
end Go.Proofs.Ytnmhnkpijjmhjaa.QFnExactWaysBetween
namespace Go.Proofs.Ytnmhnkpijjmhjaa.QS
open Go.Proofs.Ytnmhnkpijjmhjaa.Cw Go.Proofs.Ytnmhnkpijjmhjaa.Kp Go.Proofs.Ytnmhnkpijjmhjaa.Ext Go.RowKit Go.Proofs.YtnmhnkpijjmhjaaW.PrintWords Go.Proofs.YtnmhnkpijjmhjaaW.PrintLast Go.Proofs.YtnmhnkpijjmhjaaW.PrintMore
attribute [local go_sem] max2_int min2_int max_two min_two max_three min_three max_four min_four   -- for this text's walks alone
set_option linter.unusedVariables false
set_option linter.unusedSimpArgs false
end Go.Proofs.Ytnmhnkpijjmhjaa.QS
namespace Go.Proofs.Ytnmhnkpijjmhjaa.QS
open Go.Proofs.Ytnmhnkpijjmhjaa.Cw Go.Proofs.Ytnmhnkpijjmhjaa.Kp Go.Proofs.Ytnmhnkpijjmhjaa.Ext Go.RowKit Go.Proofs.YtnmhnkpijjmhjaaW.PrintWords Go.Proofs.YtnmhnkpijjmhjaaW.PrintLast Go.Proofs.YtnmhnkpijjmhjaaW.PrintMore
attribute [local go_sem] max2_int min2_int max_two min_two max_three min_three max_four min_four   -- for this text's walks alone
set_option linter.unusedVariables false
set_option linter.unusedSimpArgs false
end Go.Proofs.Ytnmhnkpijjmhjaa.QS
namespace Go.Proofs.Ytnmhnkpijjmhjaa.QS
open Go.Proofs.Ytnmhnkpijjmhjaa.Cw Go.Proofs.Ytnmhnkpijjmhjaa.Kp Go.Proofs.Ytnmhnkpijjmhjaa.Ext Go.RowKit Go.Proofs.YtnmhnkpijjmhjaaW.PrintWords Go.Proofs.YtnmhnkpijjmhjaaW.PrintLast Go.Proofs.YtnmhnkpijjmhjaaW.PrintMore
attribute [local go_sem] max2_int min2_int max_two min_two max_three min_three max_four min_four   -- for this text's walks alone
set_option linter.unusedVariables false
set_option linter.unusedSimpArgs false
end Go.Proofs.Ytnmhnkpijjmhjaa.QS
namespace Go.Proofs.Ytnmhnkpijjmhjaa.QS
open Go.Proofs.Ytnmhnkpijjmhjaa.Cw Go.Proofs.Ytnmhnkpijjmhjaa.Kp Go.Proofs.Ytnmhnkpijjmhjaa.Ext Go.RowKit Go.Proofs.YtnmhnkpijjmhjaaW.PrintWords Go.Proofs.YtnmhnkpijjmhjaaW.PrintLast Go.Proofs.YtnmhnkpijjmhjaaW.PrintMore
attribute [local go_sem] max2_int min2_int max_two min_two max_three min_three max_four min_four   -- for this text's walks alone
set_option linter.unusedVariables false
set_option linter.unusedSimpArgs false
end Go.Proofs.Ytnmhnkpijjmhjaa.QS
