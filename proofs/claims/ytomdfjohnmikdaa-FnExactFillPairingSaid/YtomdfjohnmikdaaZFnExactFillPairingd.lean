/- Words and lemmas for FnExactFillPairing, part 4: what the row's text comes to. -/
import Derived.Test.YtomdfjohnmikdaaZFnExactFillPairingc
namespace Go.Proofs.Ytomdfjohnmikdaa.QS
open Go.Proofs.Ytomdfjohnmikdaa.Cw Go.Proofs.Ytomdfjohnmikdaa.Kp Go.Proofs.Ytomdfjohnmikdaa.Ext Go.RowKit Go.Proofs.YtomdfjohnmikdaaW.PrintWords Go.Proofs.YtomdfjohnmikdaaW.PrintLast Go.Proofs.YtomdfjohnmikdaaW.PrintMore
attribute [local go_sem] max2_int min2_int max_two min_two max_three min_three max_four min_four   -- for this text's walks alone
set_option linter.unusedVariables false
set_option linter.unusedSimpArgs false
def spec_l02Pair.f (k : Nat) (a0_0 : Int) (l0_1 : List Int) (a1_0 : Int) (a1_1 : Int) : Option (Bool) := (spec_l01Has.f k a0_0 l0_1 a1_0).bind fun t234 => (if t234 = true then ((spec_l01Has.f k a0_0 l0_1 a1_1).bind fun t235 => (if t235 = true then (if (Go.bits .and .i64 a1_0 a1_1) = a1_0 then ((spec_l01Ones.f k a1_1).bind fun t236 => ((spec_l01Ones.f k a1_0).bind fun t237 => (some (t236 == (wrap64 (t237 + 1)))))) else (some false)) else (some false))) else (some false))
def spec_l02Pair.T1 : Bool × List (List Nat × List Nat) := (true, [([], []), ([], []), ([1], [1]), ([0, 2], [0, 2]), ([3, 3], [3]), ([4], [4]), ([4], [4]), ([6, 4], [4, 6]), ([5, 7, 4, 4], [4, 5, 7]), ([4, 8], [4, 8]), ([9, 8], [9]), ([10], [10]), ([11, 10], [10, 11]), ([10], [10]), ([13, 10], [10, 13]), ([12, 14, 10], [10, 12, 14]), ([10], [10]), ([16, 10], [10, 16]), ([15, 17, 10], [10, 15, 17]), ([10, 18], [10, 18]), ([19, 10], [19]), ([20], [20]), ([21, 20], [20, 21]), ([22, 20, 20], [20, 22]), ([20], [20]), ([24, 20], [20, 24]), ([25, 23, 20], [20, 25]), ([26, 20], [20, 26]), ([23, 27, 20], [20, 23, 27]), ([20, 28], [20, 28]), ([29, 26, 0, 1, 2, 3, 4, 5, 6, 7, 8, 9, 10, 11, 12, 13, 14, 15, 16, 17, 18, 19, 20, 21, 22, 23, 24, 25, 26, 27, 28, 29], [29])])
def spec_l02Pair.B1 : List Nat := [0, 0, 2, 7, 15, 31, 31, 95, 255, 511, 1023, 2047, 4095, 2047, 10239, 32767, 2047, 67583, 262143, 524287, 1048575, 2097151, 4194303, 8388607, 2097151, 18874367, 67108863, 134217727, 268435455, 536870911, 1073741823]
theorem spec_l02Pair.tab1 : rtab .any (opsOf Try.f179 1) = spec_l02Pair.T1 := by kernel_rfl
theorem spec_l02Pair.bits1 : waitsOk spec_l02Pair.T1.2 spec_l02Pair.B1 = true := by kernel_rfl
set_option maxHeartbeats 8000000 in
set_option maxRecDepth 100000 in
theorem spec_l02Pair.calls (k : Nat) (a0_0 : Int) (A0_1 : Option Addr) (c0_1 : Nat) (l0_1 : List Int) (a1_0 : Int) (a1_1 : Int) (r : Bool) (w : World) (hr0_1 : Kd.C (Kd.int .i64) w A0_1 l0_1.length l0_1) (hc0_1 : l0_1.length ≤ c0_1) (h : spec_l02Pair.f k a0_0 l0_1 a1_0 a1_1 = some r) :
  Calls Try.prog 179 #[.agg #[.int .i64 a0_0, .slice A0_1 l0_1.length c0_1], .agg #[.int .i64 a1_0, .int .i64 a1_1]] w fun e w' => e = .returned (.bool r) ∧ Below w.heap.size w w' := by
 have hu28 := Try.underlying28
 have hu73 := Try.underlying73
 have HR0_1 := Aside0.mk hr0_1
 have HC0_1 := Aside0.mk hc0_1
 clear hr0_1 hc0_1
 have HB := Aside0.mk (Below.refl w.heap.size w)
 have H : ((spec_l01Has.f k a0_0 l0_1 a1_0).bind fun t234 => (if t234 = true then ((spec_l01Has.f k a0_0 l0_1 a1_1).bind fun t235 => (if t235 = true then (if (Go.bits .and .i64 a1_0 a1_1) = a1_0 then ((spec_l01Ones.f k a1_1).bind fun t236 => ((spec_l01Ones.f k a1_0).bind fun t237 => (some (t236 == (wrap64 (t237 + 1)))))) else (some false)) else (some false))) else (some false))) = some r := h
 clear h
 replace H := Option.bind_eq_some_iff.mp H
 obtain ⟨t234, A30, H⟩ := H
 try dsimp only at H
 have A3 := Aside0.mk A30
 clear A30
 by_cases c4 : t234 = true
 ·subst c4
  have H1 : ((spec_l01Has.f k a0_0 l0_1 a1_1).bind fun t235 => (if t235 = true then (if (Go.bits .and .i64 a1_0 a1_1) = a1_0 then ((spec_l01Ones.f k a1_1).bind fun t236 => ((spec_l01Ones.f k a1_0).bind fun t237 => (some (t236 == (wrap64 (t237 + 1)))))) else (some false)) else (some false))) = some r := by rw [if_pos rfl] at H; exact H
  clear H
  have H := H1
  clear H1
  replace H := Option.bind_eq_some_iff.mp H
  obtain ⟨t235, A50, H⟩ := H
  try dsimp only at H
  have A5 := Aside0.mk A50
  clear A50
  by_cases c6 : t235 = true
  ·subst c6
   have H1 : (if (Go.bits .and .i64 a1_0 a1_1) = a1_0 then ((spec_l01Ones.f k a1_1).bind fun t236 => ((spec_l01Ones.f k a1_0).bind fun t237 => (some (t236 == (wrap64 (t237 + 1)))))) else (some false)) = some r := by rw [if_pos rfl] at H; exact H
   clear H
   have H := H1
   clear H1
   by_cases c7 : (Go.bits .and .i64 a1_0 a1_1) = a1_0
   ·rw [if_pos c7] at H
    have c7b0 : ((Go.bits .and .i64 a1_0 a1_1) == a1_0) = true := beq_iff_eq.mpr c7
    have c7b1 : ((Go.bits .and .i64 a1_0 a1_1) != a1_0) = false := bne_eq_false_iff_eq.mpr c7
    clear c7
    replace H := Option.bind_eq_some_iff.mp H
    obtain ⟨t236, A80, H⟩ := H
    try dsimp only at H
    have A8 := Aside0.mk A80
    clear A80
    replace H := Option.bind_eq_some_iff.mp H
    obtain ⟨t237, A90, H⟩ := H
    try dsimp only at H
    have A9 := Aside0.mk A90
    clear A90
    obtain rfl := Option.some.inj H
    go_enter Try.func179, Try.ntmps179
    try go_wp2_with (first | ((with_reducible refine gate_dst (N := 2) rfl ?_); refine box_event ?hg (N := 2) ?hd (cs := #[.int .i64 a0_0, .slice A0_1 l0_1.length c0_1]) (t := 28) ?hr ?_; (case hd => rfl); (case hg => rfl); (case hr => first | (go_simp; done) | (go_simp; rfl)); intro gb232 hg w10 hbox hb; have BK232 := Aside0.mk (hbox); have GW232 := gH HB hg; have GE232 := gH HB hg; replace HB := sH HB hb; clear hb hbox hg) | ((with_reducible refine gate_dst (N := 3) rfl ?_); refine box_event ?hg (N := 3) ?hd (cs := #[.int .i64 a1_0, .int .i64 a1_1]) (t := 73) ?hr ?_; (case hd => rfl); (case hg => rfl); (case hr => first | (go_simp; done) | (go_simp; rfl)); intro gb233 hg w11 hbox hb; have BK233 := Aside0.mk (hbox); have GW233 := gH HB hg; have GE233 := gH HB hg; replace HB := sH HB hb; have NB232_233 := nB BK232 hg; have NB233_232 := oB BK232 hg; replace BK232 := sB BK232 hb; clear hb hbox hg))
    replace BK232 := dB BK232
    replace BK233 := dB BK233
    replace HB := dH HB
    refine st_ 31 (S := fun w' => w'.cell? ⟨gb232, 0, none⟩ = some (.int .i64 a0_0) ∧ w'.cell? ⟨gb232, 1, none⟩ = some (.slice A0_1 l0_1.length c0_1) ∧ w'.cell? ⟨gb233, 0, none⟩ = some (.int .i64 a1_0) ∧ w'.cell? ⟨gb233, 1, none⟩ = some (.int .i64 a1_1)) (ds := []) ⟨cB BK232 0, cB BK232 1, cB BK233 0, cB BK233 1⟩ (fun hHeld => ?_); refine with_tabW spec_l02Pair.tab1 spec_l02Pair.bits1 (fun HT_ HW_ => ?_)
    generalize w11.drew = w12 at BK232 BK233 HB hHeld ⊢
    refine pu_ 1 6 2 HT_ ?_
    refine tk_ 0 5 3 HT_ HW_ hHeld ?_
    refine tk_ 2 7 7 HT_ HW_ hHeld ?_
    refine on_ 3 (some 8) 15 HT_ (fun K hK => ?_)
    refine ca_ Try.func102 #[.agg #[.int .i64 a0_0, .slice A0_1 l0_1.length c0_1], .int .i64 a1_0] ?_
    with_reducible refine (spec_l01Has.calls k a0_0 _ _ l0_1 a1_0 true _ ?side1 ?side2 A3.out).mono ?_
    (case side1 => exact pC ((Kd.C_below HR0_1.out HB.out)))
    (case side2 => exact HC0_1.out)
    rintro e w13 ⟨rfl, hb⟩
    refine ⟨_, rfl, ?_⟩
    replace BK232 := sB BK232 hb
    replace BK233 := sB BK233 hb
    replace HB := sH HB hb
    (try clear hb)
    (try clear hb2)
    (try clear hk)
    (try clear hi)
    refine hK.out _ _ ⟨cB BK232 0, cB BK232 1, cB BK233 0, cB BK233 1⟩ (fun hHeld => ?_)
    clear hK K
    refine nm_ ?_
    refine pu_ 4 9 31 HT_ ?_
    refine pu_ 6 11 95 HT_ ?_
    refine tk_ 5 10 127 HT_ HW_ hHeld ?_
    refine tk_ 7 12 255 HT_ HW_ hHeld ?_
    refine on_ 8 (some 13) 511 HT_ (fun K hK => ?_)
    refine ca_ Try.func102 #[.agg #[.int .i64 a0_0, .slice A0_1 l0_1.length c0_1], .int .i64 a1_1] ?_
    with_reducible refine (spec_l01Has.calls k a0_0 _ _ l0_1 a1_1 true _ ?side1 ?side2 A5.out).mono ?_
    (case side1 => exact pC ((Kd.C_below HR0_1.out HB.out)))
    (case side2 => exact HC0_1.out)
    rintro e w14 ⟨rfl, hb⟩
    refine ⟨_, rfl, ?_⟩
    replace BK232 := sB BK232 hb
    replace BK233 := sB BK233 hb
    replace HB := sH HB hb
    (try clear hb)
    (try clear hb2)
    (try clear hk)
    (try clear hi)
    refine hK.out _ _ ⟨cB BK232 0, cB BK232 1, cB BK233 0, cB BK233 1⟩ (fun hHeld => ?_)
    clear hK K
    refine nm_ ?_
    refine pu_ 9 14 1023 HT_ ?_
    refine pu_ 10 15 2047 HT_ ?_
    refine pu_ 11 16 4095 HT_ ?_
    refine pu_ 13 18 12287 HT_ ?_
    refine pu_ 16 21 77823 HT_ ?_
    refine tk_ 12 17 81919 HT_ HW_ hHeld ?_
    refine tk_ 14 19 98303 HT_ HW_ hHeld ?_
    refine pu_ 15 20 131071 HT_ ?_
    refine tk_ 17 22 262143 HT_ HW_ hHeld ?_
    refine pu_ 18 23 524287 HT_ ?_
    refine pu_ 19 24 1048575 HT_ ?_
    refine pu_ 20 25 2097151 HT_ ?_
    refine pu_ 21 26 4194303 HT_ ?_
    refine pu_ 24 29 20971519 HT_ ?_
    refine tk_ 22 27 25165823 HT_ HW_ hHeld ?_
    refine tk_ 25 30 58720255 HT_ HW_ hHeld ?_
    refine on_ 23 (some 28) 67108863 HT_ (fun K hK => ?_)
    refine ca_ Try.func129 #[.int .i64 a1_1] ?_
    with_reducible refine (spec_l01Ones.calls k a1_1 t236 _ A8.out).mono ?_
    rintro e w' ⟨rfl, ⟨nd, rfl⟩⟩
    refine ⟨_, rfl, ?_⟩
    refine hK.out _ _ ⟨cB BK232 0, cB BK232 1, cB BK233 0, cB BK233 1⟩ (fun hHeld => ?_)
    clear hK K
    refine nm_ ?_
    refine on_ 26 (some 31) 134217727 HT_ (fun K hK => ?_)
    refine ca_ Try.func129 #[.int .i64 a1_0] ?_
    with_reducible refine (spec_l01Ones.calls k a1_0 t237 _ A9.out).mono ?_
    rintro e w' ⟨rfl, ⟨nd, rfl⟩⟩
    refine ⟨_, rfl, ?_⟩
    refine hK.out _ _ ⟨cB BK232 0, cB BK232 1, cB BK233 0, cB BK233 1⟩ (fun hHeld => ?_)
    clear hK K
    refine nm_ ?_
    refine pu_ 27 32 268435455 HT_ ?_
    refine pu_ 28 33 536870911 HT_ ?_
    refine pu_ 29 34 1073741823 HT_ ?_
    refine pu_ 30 4 2147483647 HT_ ?_
    refine dn_ HT_ ?_
    try go_wp2
    go_ret
    exact ⟨by first | rfl | (simp [errW_none, errW_some] <;> rfl) | (simp [*, errW_none, errW_some] <;> rfl) | (exfalso; simp_all), pH HB⟩
   ·rw [if_neg c7] at H
    have c7b0 : ((Go.bits .and .i64 a1_0 a1_1) == a1_0) = false := beq_eq_false_iff_ne.mpr c7
    have c7b1 : ((Go.bits .and .i64 a1_0 a1_1) != a1_0) = true := bne_iff_ne.mpr c7
    obtain rfl := Option.some.inj H
    go_enter Try.func179, Try.ntmps179
    try go_wp2_with (first | ((with_reducible refine gate_dst (N := 2) rfl ?_); refine box_event ?hg (N := 2) ?hd (cs := #[.int .i64 a0_0, .slice A0_1 l0_1.length c0_1]) (t := 28) ?hr ?_; (case hd => rfl); (case hg => rfl); (case hr => first | (go_simp; done) | (go_simp; rfl)); intro gb232 hg w15 hbox hb; have BK232 := Aside0.mk (hbox); have GW232 := gH HB hg; have GE232 := gH HB hg; replace HB := sH HB hb; clear hb hbox hg) | ((with_reducible refine gate_dst (N := 3) rfl ?_); refine box_event ?hg (N := 3) ?hd (cs := #[.int .i64 a1_0, .int .i64 a1_1]) (t := 73) ?hr ?_; (case hd => rfl); (case hg => rfl); (case hr => first | (go_simp; done) | (go_simp; rfl)); intro gb233 hg w16 hbox hb; have BK233 := Aside0.mk (hbox); have GW233 := gH HB hg; have GE233 := gH HB hg; replace HB := sH HB hb; have NB232_233 := nB BK232 hg; have NB233_232 := oB BK232 hg; replace BK232 := sB BK232 hb; clear hb hbox hg))
    replace BK232 := dB BK232
    replace BK233 := dB BK233
    replace HB := dH HB
    refine st_ 31 (S := fun w' => w'.cell? ⟨gb232, 0, none⟩ = some (.int .i64 a0_0) ∧ w'.cell? ⟨gb232, 1, none⟩ = some (.slice A0_1 l0_1.length c0_1) ∧ w'.cell? ⟨gb233, 0, none⟩ = some (.int .i64 a1_0) ∧ w'.cell? ⟨gb233, 1, none⟩ = some (.int .i64 a1_1)) (ds := []) ⟨cB BK232 0, cB BK232 1, cB BK233 0, cB BK233 1⟩ (fun hHeld => ?_); refine with_tabW spec_l02Pair.tab1 spec_l02Pair.bits1 (fun HT_ HW_ => ?_)
    generalize w16.drew = w17 at BK232 BK233 HB hHeld ⊢
    refine pu_ 1 6 2 HT_ ?_
    refine tk_ 0 5 3 HT_ HW_ hHeld ?_
    refine tk_ 2 7 7 HT_ HW_ hHeld ?_
    refine on_ 3 (some 8) 15 HT_ (fun K hK => ?_)
    refine ca_ Try.func102 #[.agg #[.int .i64 a0_0, .slice A0_1 l0_1.length c0_1], .int .i64 a1_0] ?_
    with_reducible refine (spec_l01Has.calls k a0_0 _ _ l0_1 a1_0 true _ ?side1 ?side2 A3.out).mono ?_
    (case side1 => exact pC ((Kd.C_below HR0_1.out HB.out)))
    (case side2 => exact HC0_1.out)
    rintro e w18 ⟨rfl, hb⟩
    refine ⟨_, rfl, ?_⟩
    replace BK232 := sB BK232 hb
    replace BK233 := sB BK233 hb
    replace HB := sH HB hb
    (try clear hb)
    (try clear hb2)
    (try clear hk)
    (try clear hi)
    refine hK.out _ _ ⟨cB BK232 0, cB BK232 1, cB BK233 0, cB BK233 1⟩ (fun hHeld => ?_)
    clear hK K
    refine nm_ ?_
    refine pu_ 4 9 31 HT_ ?_
    refine pu_ 6 11 95 HT_ ?_
    refine tk_ 5 10 127 HT_ HW_ hHeld ?_
    refine tk_ 7 12 255 HT_ HW_ hHeld ?_
    refine on_ 8 (some 13) 511 HT_ (fun K hK => ?_)
    refine ca_ Try.func102 #[.agg #[.int .i64 a0_0, .slice A0_1 l0_1.length c0_1], .int .i64 a1_1] ?_
    with_reducible refine (spec_l01Has.calls k a0_0 _ _ l0_1 a1_1 true _ ?side1 ?side2 A5.out).mono ?_
    (case side1 => exact pC ((Kd.C_below HR0_1.out HB.out)))
    (case side2 => exact HC0_1.out)
    rintro e w19 ⟨rfl, hb⟩
    refine ⟨_, rfl, ?_⟩
    replace BK232 := sB BK232 hb
    replace BK233 := sB BK233 hb
    replace HB := sH HB hb
    (try clear hb)
    (try clear hb2)
    (try clear hk)
    (try clear hi)
    refine hK.out _ _ ⟨cB BK232 0, cB BK232 1, cB BK233 0, cB BK233 1⟩ (fun hHeld => ?_)
    clear hK K
    refine nm_ ?_
    refine pu_ 9 14 1023 HT_ ?_
    refine pu_ 10 15 2047 HT_ ?_
    refine pu_ 11 16 4095 HT_ ?_
    refine pu_ 13 18 12287 HT_ ?_
    refine pu_ 16 21 77823 HT_ ?_
    refine tk_ 12 17 81919 HT_ HW_ hHeld ?_
    refine tk_ 14 19 98303 HT_ HW_ hHeld ?_
    refine pu_ 15 20 131071 HT_ ?_
    refine tk_ 17 22 262143 HT_ HW_ hHeld ?_
    refine pu_ 18 23 524287 HT_ ?_
    refine pu_ 19 24 1048575 HT_ ?_
    refine pu_ 20 25 2097151 HT_ ?_
    refine pn_ 21 26 4194303 HT_ ?_
    refine pn_ 22 27 8388607 HT_ ?_
    refine pn_ 23 28 16777215 HT_ ?_
    refine pn_ 24 29 33554431 HT_ ?_
    refine pn_ 25 30 67108863 HT_ ?_
    refine pn_ 26 31 134217727 HT_ ?_
    refine pn_ 27 32 268435455 HT_ ?_
    refine pn_ 28 33 536870911 HT_ ?_
    refine pu_ 29 34 1073741823 HT_ ?_
    refine pu_ 30 4 2147483647 HT_ ?_
    refine dn_ HT_ ?_
    try go_wp2
    go_ret
    exact ⟨by first | rfl | (simp [errW_none, errW_some] <;> rfl) | (simp [*, errW_none, errW_some] <;> rfl) | (exfalso; simp_all), pH HB⟩
  ·replace c6 := Bool.eq_false_iff.mpr c6
   subst c6
   have H1 : (some false) = some r := by rw [if_neg (show ¬ (false = true) by decide)] at H; exact H
   clear H
   have H := H1
   clear H1
   obtain rfl := Option.some.inj H
   go_enter Try.func179, Try.ntmps179
   try go_wp2_with (first | ((with_reducible refine gate_dst (N := 2) rfl ?_); refine box_event ?hg (N := 2) ?hd (cs := #[.int .i64 a0_0, .slice A0_1 l0_1.length c0_1]) (t := 28) ?hr ?_; (case hd => rfl); (case hg => rfl); (case hr => first | (go_simp; done) | (go_simp; rfl)); intro gb232 hg w20 hbox hb; have BK232 := Aside0.mk (hbox); have GW232 := gH HB hg; have GE232 := gH HB hg; replace HB := sH HB hb; clear hb hbox hg) | ((with_reducible refine gate_dst (N := 3) rfl ?_); refine box_event ?hg (N := 3) ?hd (cs := #[.int .i64 a1_0, .int .i64 a1_1]) (t := 73) ?hr ?_; (case hd => rfl); (case hg => rfl); (case hr => first | (go_simp; done) | (go_simp; rfl)); intro gb233 hg w21 hbox hb; have BK233 := Aside0.mk (hbox); have GW233 := gH HB hg; have GE233 := gH HB hg; replace HB := sH HB hb; have NB232_233 := nB BK232 hg; have NB233_232 := oB BK232 hg; replace BK232 := sB BK232 hb; clear hb hbox hg))
   replace BK232 := dB BK232
   replace BK233 := dB BK233
   replace HB := dH HB
   refine st_ 31 (S := fun w' => w'.cell? ⟨gb232, 0, none⟩ = some (.int .i64 a0_0) ∧ w'.cell? ⟨gb232, 1, none⟩ = some (.slice A0_1 l0_1.length c0_1) ∧ w'.cell? ⟨gb233, 0, none⟩ = some (.int .i64 a1_0) ∧ w'.cell? ⟨gb233, 1, none⟩ = some (.int .i64 a1_1)) (ds := []) ⟨cB BK232 0, cB BK232 1, cB BK233 0, cB BK233 1⟩ (fun hHeld => ?_); refine with_tabW spec_l02Pair.tab1 spec_l02Pair.bits1 (fun HT_ HW_ => ?_)
   generalize w21.drew = w22 at BK232 BK233 HB hHeld ⊢
   refine pu_ 1 6 2 HT_ ?_
   refine tk_ 0 5 3 HT_ HW_ hHeld ?_
   refine tk_ 2 7 7 HT_ HW_ hHeld ?_
   refine on_ 3 (some 8) 15 HT_ (fun K hK => ?_)
   refine ca_ Try.func102 #[.agg #[.int .i64 a0_0, .slice A0_1 l0_1.length c0_1], .int .i64 a1_0] ?_
   with_reducible refine (spec_l01Has.calls k a0_0 _ _ l0_1 a1_0 true _ ?side1 ?side2 A3.out).mono ?_
   (case side1 => exact pC ((Kd.C_below HR0_1.out HB.out)))
   (case side2 => exact HC0_1.out)
   rintro e w23 ⟨rfl, hb⟩
   refine ⟨_, rfl, ?_⟩
   replace BK232 := sB BK232 hb
   replace BK233 := sB BK233 hb
   replace HB := sH HB hb
   (try clear hb)
   (try clear hb2)
   (try clear hk)
   (try clear hi)
   refine hK.out _ _ ⟨cB BK232 0, cB BK232 1, cB BK233 0, cB BK233 1⟩ (fun hHeld => ?_)
   clear hK K
   refine nm_ ?_
   refine pu_ 4 9 31 HT_ ?_
   refine pu_ 6 11 95 HT_ ?_
   refine tk_ 5 10 127 HT_ HW_ hHeld ?_
   refine tk_ 7 12 255 HT_ HW_ hHeld ?_
   refine on_ 8 (some 13) 511 HT_ (fun K hK => ?_)
   refine ca_ Try.func102 #[.agg #[.int .i64 a0_0, .slice A0_1 l0_1.length c0_1], .int .i64 a1_1] ?_
   with_reducible refine (spec_l01Has.calls k a0_0 _ _ l0_1 a1_1 false _ ?side1 ?side2 A5.out).mono ?_
   (case side1 => exact pC ((Kd.C_below HR0_1.out HB.out)))
   (case side2 => exact HC0_1.out)
   rintro e w24 ⟨rfl, hb⟩
   refine ⟨_, rfl, ?_⟩
   replace BK232 := sB BK232 hb
   replace BK233 := sB BK233 hb
   replace HB := sH HB hb
   (try clear hb)
   (try clear hb2)
   (try clear hk)
   (try clear hi)
   refine hK.out _ _ ⟨cB BK232 0, cB BK232 1, cB BK233 0, cB BK233 1⟩ (fun hHeld => ?_)
   clear hK K
   refine nm_ ?_
   refine pu_ 9 14 1023 HT_ ?_
   refine pu_ 10 15 2047 HT_ ?_
   refine pn_ 11 16 4095 HT_ ?_
   refine pn_ 12 17 8191 HT_ ?_
   refine pn_ 13 18 16383 HT_ ?_
   refine pn_ 14 19 32767 HT_ ?_
   refine pn_ 15 20 65535 HT_ ?_
   refine pn_ 16 21 131071 HT_ ?_
   refine pn_ 17 22 262143 HT_ ?_
   refine pn_ 18 23 524287 HT_ ?_
   refine pu_ 19 24 1048575 HT_ ?_
   refine pu_ 20 25 2097151 HT_ ?_
   refine pn_ 21 26 4194303 HT_ ?_
   refine pn_ 22 27 8388607 HT_ ?_
   refine pn_ 23 28 16777215 HT_ ?_
   refine pn_ 24 29 33554431 HT_ ?_
   refine pn_ 25 30 67108863 HT_ ?_
   refine pn_ 26 31 134217727 HT_ ?_
   refine pn_ 27 32 268435455 HT_ ?_
   refine pn_ 28 33 536870911 HT_ ?_
   refine pu_ 29 34 1073741823 HT_ ?_
   refine pu_ 30 4 2147483647 HT_ ?_
   refine dn_ HT_ ?_
   try go_wp2
   go_ret
   exact ⟨by first | rfl | (simp [errW_none, errW_some] <;> rfl) | (simp [*, errW_none, errW_some] <;> rfl) | (exfalso; simp_all), pH HB⟩
 ·replace c4 := Bool.eq_false_iff.mpr c4
  subst c4
  have H1 : (some false) = some r := by rw [if_neg (show ¬ (false = true) by decide)] at H; exact H
  clear H
  have H := H1
  clear H1
  obtain rfl := Option.some.inj H
  go_enter Try.func179, Try.ntmps179
  try go_wp2_with (first | ((with_reducible refine gate_dst (N := 2) rfl ?_); refine box_event ?hg (N := 2) ?hd (cs := #[.int .i64 a0_0, .slice A0_1 l0_1.length c0_1]) (t := 28) ?hr ?_; (case hd => rfl); (case hg => rfl); (case hr => first | (go_simp; done) | (go_simp; rfl)); intro gb232 hg w25 hbox hb; have BK232 := Aside0.mk (hbox); have GW232 := gH HB hg; have GE232 := gH HB hg; replace HB := sH HB hb; clear hb hbox hg) | ((with_reducible refine gate_dst (N := 3) rfl ?_); refine box_event ?hg (N := 3) ?hd (cs := #[.int .i64 a1_0, .int .i64 a1_1]) (t := 73) ?hr ?_; (case hd => rfl); (case hg => rfl); (case hr => first | (go_simp; done) | (go_simp; rfl)); intro gb233 hg w26 hbox hb; have BK233 := Aside0.mk (hbox); have GW233 := gH HB hg; have GE233 := gH HB hg; replace HB := sH HB hb; have NB232_233 := nB BK232 hg; have NB233_232 := oB BK232 hg; replace BK232 := sB BK232 hb; clear hb hbox hg))
  replace BK232 := dB BK232
  replace BK233 := dB BK233
  replace HB := dH HB
  refine st_ 31 (S := fun w' => w'.cell? ⟨gb232, 0, none⟩ = some (.int .i64 a0_0) ∧ w'.cell? ⟨gb232, 1, none⟩ = some (.slice A0_1 l0_1.length c0_1) ∧ w'.cell? ⟨gb233, 0, none⟩ = some (.int .i64 a1_0) ∧ w'.cell? ⟨gb233, 1, none⟩ = some (.int .i64 a1_1)) (ds := []) ⟨cB BK232 0, cB BK232 1, cB BK233 0, cB BK233 1⟩ (fun hHeld => ?_); refine with_tabW spec_l02Pair.tab1 spec_l02Pair.bits1 (fun HT_ HW_ => ?_)
  generalize w26.drew = w27 at BK232 BK233 HB hHeld ⊢
  refine pu_ 1 6 2 HT_ ?_
  refine tk_ 0 5 3 HT_ HW_ hHeld ?_
  refine tk_ 2 7 7 HT_ HW_ hHeld ?_
  refine on_ 3 (some 8) 15 HT_ (fun K hK => ?_)
  refine ca_ Try.func102 #[.agg #[.int .i64 a0_0, .slice A0_1 l0_1.length c0_1], .int .i64 a1_0] ?_
  with_reducible refine (spec_l01Has.calls k a0_0 _ _ l0_1 a1_0 false _ ?side1 ?side2 A3.out).mono ?_
  (case side1 => exact pC ((Kd.C_below HR0_1.out HB.out)))
  (case side2 => exact HC0_1.out)
  rintro e w28 ⟨rfl, hb⟩
  refine ⟨_, rfl, ?_⟩
  replace BK232 := sB BK232 hb
  replace BK233 := sB BK233 hb
  replace HB := sH HB hb
  (try clear hb)
  (try clear hb2)
  (try clear hk)
  (try clear hi)
  refine hK.out _ _ ⟨cB BK232 0, cB BK232 1, cB BK233 0, cB BK233 1⟩ (fun hHeld => ?_)
  clear hK K
  refine nm_ ?_
  refine pu_ 4 9 31 HT_ ?_
  refine pn_ 5 10 63 HT_ ?_
  refine pn_ 6 11 127 HT_ ?_
  refine pn_ 7 12 255 HT_ ?_
  refine pn_ 8 13 511 HT_ ?_
  refine pu_ 9 14 1023 HT_ ?_
  refine pu_ 10 15 2047 HT_ ?_
  refine pn_ 11 16 4095 HT_ ?_
  refine pn_ 12 17 8191 HT_ ?_
  refine pn_ 13 18 16383 HT_ ?_
  refine pn_ 14 19 32767 HT_ ?_
  refine pn_ 15 20 65535 HT_ ?_
  refine pn_ 16 21 131071 HT_ ?_
  refine pn_ 17 22 262143 HT_ ?_
  refine pn_ 18 23 524287 HT_ ?_
  refine pu_ 19 24 1048575 HT_ ?_
  refine pu_ 20 25 2097151 HT_ ?_
  refine pn_ 21 26 4194303 HT_ ?_
  refine pn_ 22 27 8388607 HT_ ?_
  refine pn_ 23 28 16777215 HT_ ?_
  refine pn_ 24 29 33554431 HT_ ?_
  refine pn_ 25 30 67108863 HT_ ?_
  refine pn_ 26 31 134217727 HT_ ?_
  refine pn_ 27 32 268435455 HT_ ?_
  refine pn_ 28 33 536870911 HT_ ?_
  refine pu_ 29 34 1073741823 HT_ ?_
  refine pu_ 30 4 2147483647 HT_ ?_
  refine dn_ HT_ ?_
  try go_wp2
  go_ret
  exact ⟨by first | rfl | (simp [errW_none, errW_some] <;> rfl) | (simp [*, errW_none, errW_some] <;> rfl) | (exfalso; simp_all), pH HB⟩
end Go.Proofs.Ytomdfjohnmikdaa.QS
namespace Go.Proofs.Ytomdfjohnmikdaa.QS
open Go.Proofs.Ytomdfjohnmikdaa.Cw Go.Proofs.Ytomdfjohnmikdaa.Kp Go.Proofs.Ytomdfjohnmikdaa.Ext Go.RowKit Go.Proofs.YtomdfjohnmikdaaW.PrintWords Go.Proofs.YtomdfjohnmikdaaW.PrintLast Go.Proofs.YtomdfjohnmikdaaW.PrintMore
attribute [local go_sem] max2_int min2_int max_two min_two max_three min_three max_four min_four   -- for this text's walks alone
set_option linter.unusedVariables false
set_option linter.unusedSimpArgs false
mutual
def spec_l02Is.l0 : Nat → List (S73) → Int → Int → List Int → Option (Bool)
 | 0, _, _, _, _ => none
 | k + 1, x1, x5, x239000, x239001 => if x5 < (x1.length : Int) then (if 0 ≤ x5 then ((spec_l02Pair.f k x239000 x239001 ((rd_T73 x1 x5).f0) ((rd_T73 x1 x5).f1)).bind fun t240 => (if t240 = true then (if x5 > 0 then (if 0 ≤ (wrap64 (x5 - 1)) then (if (wrap64 (x5 - 1)) < (x1.length : Int) then ((spec_l02Less.f ((rd_T73 x1 (wrap64 (x5 - 1))).f0) ((rd_T73 x1 (wrap64 (x5 - 1))).f1) ((rd_T73 x1 x5).f0) ((rd_T73 x1 x5).f1)).bind fun t243 => (spec_l02Is.j1 k x1 x5 (!t243) x239000 x239001)) else (none)) else (none)) else (spec_l02Is.j1 k x1 x5 false x239000 x239001)) else (spec_l02Is.j1 k x1 x5 true x239000 x239001))) else (none)) else (some true)
def spec_l02Is.j1 : Nat → List (S73) → Int → Bool → Int → List Int → Option (Bool)
 | 0, _, _, _, _, _ => none
 | k + 1, x1, x5, x36, x239000, x239001 => if x36 = true then (some false) else (spec_l02Is.l1 k x1 x5 0 x239000 x239001)
def spec_l02Is.l1 : Nat → List (S73) → Int → Int → Int → List Int → Option (Bool)
 | 0, _, _, _, _, _ => none
 | k + 1, x1, x5, x6, x239000, x239001 => if x6 < x5 then (if 0 ≤ x5 then (if x5 < (x1.length : Int) then (if 0 ≤ x6 then (if x6 < (x1.length : Int) then (if ((rd_T73 x1 x5).f0) = ((rd_T73 x1 x6).f0) then (some false) else (if ((rd_T73 x1 x5).f0) = ((rd_T73 x1 x6).f1) then (some false) else (if ((rd_T73 x1 x5).f1) = ((rd_T73 x1 x6).f0) then (some false) else (if ((rd_T73 x1 x5).f1) = ((rd_T73 x1 x6).f1) then (some false) else (spec_l02Is.l1 k x1 x5 (wrap64 (x6 + 1)) x239000 x239001))))) else (none)) else (none)) else (none)) else (none)) else (spec_l02Is.l0 k x1 (wrap64 (x5 + 1)) x239000 x239001)
end
def spec_l02Is.f (k : Nat) (a0_0 : Int) (l0_1 : List Int) (l1 : List (S73)) : Option (Bool) := spec_l02Is.l0 k l1 0 a0_0 l0_1
def spec_l02Is.T4 : Bool × List (List Nat × List Nat) := (true, [([], []), ([], []), ([], []), ([1, 2], [1, 2]), ([3], [3]), ([0, 4], [0, 4]), ([5], [5]), ([6, 5], [6]), ([7], [7]), ([8, 7], [7, 8]), ([9, 7, 7], [7, 9]), ([10], [10]), ([10], [10]), ([12, 10], [10, 12]), ([11, 13, 10], [10, 11, 13]), ([14, 10], [10, 14]), ([10], [10]), ([10], [10]), ([16, 17, 10], [10, 16, 17]), ([18, 10], [10, 18]), ([15, 19, 10, 10], [10, 15, 19]), ([20, 10], [10, 20]), ([10, 21, 7], [7, 10, 21]), ([7, 22], [7, 22])])
def spec_l02Is.B4 : List Nat := [0, 0, 0, 6, 14, 31, 63, 127, 255, 511, 1023, 2047, 2047, 6143, 16383, 32767, 2047, 2047, 198655, 460799, 1048575, 2097151, 4194303, 8388607]
theorem spec_l02Is.tab4 : rtab .any (opsOf Try.f144 4) = spec_l02Is.T4 := by kernel_rfl
theorem spec_l02Is.bits4 : waitsOk spec_l02Is.T4.2 spec_l02Is.B4 = true := by kernel_rfl
def spec_l02Is.T9 : Bool × List (List Nat × List Nat) := (true, [([], []), ([], []), ([0, 1], [0, 1]), ([2], [2]), ([3], [3]), ([], []), ([], []), ([5, 6], [5, 6]), ([7], [7]), ([8], [8]), ([4, 9], [4, 9]), ([10], [10]), ([11], [11]), ([11], [11]), ([12, 13, 11], [11, 12, 13]), ([14, 11], [11, 14]), ([15, 11], [11, 15]), ([11], [11]), ([11], [11]), ([17, 18, 11], [11, 17, 18]), ([19, 11], [11, 19]), ([20, 11], [11, 20]), ([16, 21, 11], [11, 16, 21]), ([11, 22], [11, 22]), ([23, 11], [23]), ([24], [24]), ([24], [24]), ([25, 26, 24], [24, 25, 26]), ([27, 24], [24, 27]), ([28, 24], [24, 28]), ([24], [24]), ([24], [24]), ([30, 31, 24], [24, 30, 31]), ([32, 24], [24, 32]), ([33, 24], [24, 33]), ([29, 34, 24], [24, 29, 34]), ([24, 35], [24, 35]), ([36, 24], [36]), ([37], [37]), ([37], [37]), ([38, 39, 37], [37, 38, 39]), ([40, 37], [37, 40]), ([41, 37], [37, 41]), ([37], [37]), ([37], [37]), ([43, 44, 37], [37, 43, 44]), ([45, 37], [37, 45]), ([46, 37], [37, 46]), ([42, 47, 37], [37, 42, 47]), ([37, 48], [37, 48])])
def spec_l02Is.B9 : List Nat := [0, 0, 3, 7, 15, 0, 0, 96, 224, 480, 1023, 2047, 4095, 4095, 16383, 32767, 65535, 4095, 4095, 397311, 921599, 1970175, 4194303, 8388607, 16777215, 33554431, 33554431, 134217727, 268435455, 536870911, 33554431, 33554431, 3254779903, 7549747199, 16139681791, 34359738367, 68719476735, 137438953471, 274877906943, 274877906943, 1099511627775, 2199023255551, 4398046511103, 274877906943, 274877906943, 26663156973567, 61847529062399, 132216273240063, 281474976710655, 562949953421311]
theorem spec_l02Is.tab9 : rtab .any (opsOf Try.f144 9) = spec_l02Is.T9 := by kernel_rfl
theorem spec_l02Is.bits9 : waitsOk spec_l02Is.T9.2 spec_l02Is.B9 = true := by kernel_rfl
set_option maxHeartbeats 8000000 in
set_option maxRecDepth 100000 in
theorem spec_l02Is.calls (k : Nat) (a0_0 : Int) (A0_1 : Option Addr) (c0_1 : Nat) (l0_1 : List Int) (A1 : Option Addr) (c1 : Nat) (l1 : List (S73)) (r : Bool) (w : World) (hr0_1 : Kd.C (Kd.int .i64) w A0_1 l0_1.length l0_1) (hc0_1 : l0_1.length ≤ c0_1) (hr1 : Kd.C k73 w A1 l1.length l1) (hc1 : l1.length ≤ c1) (h : spec_l02Is.f k a0_0 l0_1 l1 = some r) :
  Calls Try.prog 144 #[.agg #[.int .i64 a0_0, .slice A0_1 l0_1.length c0_1], .slice A1 l1.length c1] w fun e w' => e = .returned (.bool r) ∧ Below w.heap.size w w' := by
 have hu28 := Try.underlying28
 have hu73 := Try.underlying73
 have HR0_1 := Aside0.mk hr0_1
 have HC0_1 := Aside0.mk hc0_1
 clear hr0_1 hc0_1
 have HR1 := Aside0.mk hr1
 have HC1 := Aside0.mk hc1
 clear hr1 hc1
 have HB := Aside0.mk (Below.refl w.heap.size w)
 have H : (spec_l02Is.l0 k l1 0 a0_0 l0_1) = some r := h
 clear h
 have H' := Aside0.mk H
 clear H
 go_enter Try.func144, Try.ntmps144
 go_wp2_with (first | ((with_reducible refine gate_dst (N := 2) rfl ?_); refine box_event ?hg (N := 2) ?hd (cs := #[.int .i64 a0_0, .slice A0_1 l0_1.length c0_1]) (t := 28) ?hr ?_; (case hd => rfl); (case hg => rfl); (case hr => first | (go_simp; done) | (go_simp; rfl)); intro gb238 hg w3 hbox hb; have BK238 := Aside0.mk (hbox); have GW238 := gH HB hg; have GE238 := gH HB hg; replace HB := sH HB hb; clear hb hbox hg))
 go_loopg [5] k (fun kq v5 w' => ∃ (x5_1 : Int), v5 = .int .i64 x5_1 ∧ Aside0 (spec_l02Is.l0 kq l1 x5_1 a0_0 l0_1 = some r) ∧ Aside0 (kq ≤ k) ∧ Aside0 (w'.heap[gb238]? = some (.cells #[.int .i64 a0_0, (.slice A0_1 l0_1.length c0_1)] 28 (0, 0))) ∧ Aside0 (Below w.heap.size w w'))
 case atStart => exact ⟨(0), (by first | rfl | (simp; done) | (simp [*]; done)), H', ⟨Nat.le_refl _⟩, ⟨pB BK238⟩, ⟨pH HB⟩⟩
 case round =>
  clear H'
  try clear c1
  try clear p2
  obtain ⟨x5_1, rfl, HA, HK1, BK238, HB⟩ := hrel
  cases gk with
  | zero => exact absurd HA.out (by simp [spec_l02Is.l0])
  | succ k1 =>
   have H := HA.out
   clear HA
   simp only [spec_l02Is.l0] at H
   by_cases c4 : x5_1 < (l1.length : Int)
   ·rw [if_pos c4] at H
    have c4b0 : decide (x5_1 < (l1.length : Int)) = true := decide_eq_true c4
    clear c4
    have HC5 := Aside0.mk H
    clear H
    go_upto_region 4 with (fail)
    go_cut [36] (fun v36 wc => ∃ (kq : Nat) (x36_4 : Bool), v36 = .bool x36_4 ∧ Aside0 (spec_l02Is.j1 kq l1 x5_1 x36_4 a0_0 l0_1 = some r) ∧ Aside0 (kq ≤ k1) ∧ Aside0 (wc.heap[gb238]? = some (.cells #[.int .i64 a0_0, (.slice A0_1 l0_1.length c0_1)] 28 (0, 0))) ∧ Aside0 (Below w.heap.size w wc))
    case first =>
     have H := HC5.out
     clear HC5
     by_cases c6 : 0 ≤ x5_1
     ·rw [if_pos c6] at H
      have c6b0 : decide (0 ≤ x5_1) = true := decide_eq_true c6
      clear c6
      (first | rw [c6b0] | (simp only [i64_w, i32_w]; rw [c6b0]) | skip)
      replace H := Option.bind_eq_some_iff.mp H
      obtain ⟨t240, A70, H⟩ := H
      try dsimp only at H
      have A7 := Aside0.mk A70
      clear A70
      by_cases c8 : t240 = true
      ·subst c8
       have H1 : (if x5_1 > 0 then (if 0 ≤ (wrap64 (x5_1 - 1)) then (if (wrap64 (x5_1 - 1)) < (l1.length : Int) then ((spec_l02Less.f ((rd_T73 l1 (wrap64 (x5_1 - 1))).f0) ((rd_T73 l1 (wrap64 (x5_1 - 1))).f1) ((rd_T73 l1 x5_1).f0) ((rd_T73 l1 x5_1).f1)).bind fun t243 => (spec_l02Is.j1 k1 l1 x5_1 (!t243) a0_0 l0_1)) else (none)) else (none)) else (spec_l02Is.j1 k1 l1 x5_1 false a0_0 l0_1)) = some r := by rw [if_pos rfl] at H; exact H
       clear H
       have H := H1
       clear H1
       by_cases c9 : x5_1 > 0
       ·rw [if_pos c9] at H
        have c9b0 : decide (0 < x5_1) = true := decide_eq_true c9
        clear c9
        obtain ⟨ji10, hji10⟩ : ∃ j_ : Int, (wrap64 (x5_1 - 1)) = j_ := ⟨_, rfl⟩
        replace H : (if 0 ≤ (ji10) then (if (ji10) < (l1.length : Int) then ((spec_l02Less.f ((rd_T73 l1 (ji10)).f0) ((rd_T73 l1 (ji10)).f1) ((rd_T73 l1 x5_1).f0) ((rd_T73 l1 x5_1).f1)).bind fun t243 => (spec_l02Is.j1 k1 l1 x5_1 (!t243) a0_0 l0_1)) else (none)) else (none)) = some r := by first | (rw [hji10] at H; exact H) | (simp only [hji10] at H ⊢; exact H)
        (try rw [hji10] at A7)
        have hji10w : (IntKind.i64.wrap (x5_1 - 1)) = ji10 := (i64_w _).trans hji10
        by_cases c11 : 0 ≤ (ji10)
        ·rw [if_pos c11] at H
         have c11b0 : decide (0 ≤ (ji10)) = true := decide_eq_true c11
         clear c11
         by_cases c12 : (ji10) < (l1.length : Int)
         ·rw [if_pos c12] at H
          have c12b0 : decide ((ji10) < (l1.length : Int)) = true := decide_eq_true c12
          clear c12
          replace H := Option.bind_eq_some_iff.mp H
          obtain ⟨t243, A130, H⟩ := H
          try dsimp only at H
          have A13 := Aside0.mk A130
          clear A130
          have H' := Aside0.mk H
          clear H
          try go_wp2
          replace BK238 := dB BK238
          replace HB := dH HB
          have p239 : 0 ≤ (x5_1 : Int) := of_decide_eq_true (by first | (with_reducible assumption) | assumption)
          have q239 : x5_1 < (l1.length : Int) := of_decide_eq_true (by first | (with_reducible assumption) | assumption)
          obtain ⟨ad239, e239, hx239_0, hx239_1⟩ := at_T73 HR1.out x5_1 p239 q239
          have hw239_1 := hx239_1
          have hw239_0 := hx239_0
          cases e239
          replace hx239_0 := cH HB hx239_0
          replace hx239_1 := cH HB hx239_1
          replace p239 := eq_true p239
          replace q239 := eq_true q239
          have p241 : 0 ≤ ((ji10) : Int) := of_decide_eq_true (by first | (with_reducible assumption) | assumption)
          have q241 : (ji10) < (l1.length : Int) := of_decide_eq_true (by first | (with_reducible assumption) | assumption)
          obtain ⟨ad241, e241, hx241_0, hx241_1⟩ := at_T73 HR1.out (ji10) p241 q241
          have hw241_1 := hx241_1
          have hw241_0 := hx241_0
          obtain rfl : ad239 = ad241 := (by injection e241)
          replace hx241_0 := cH HB hx241_0
          replace hx241_1 := cH HB hx241_1
          replace p241 := eq_true p241
          replace q241 := eq_true q241
          have p242 : 0 ≤ (x5_1 : Int) := of_decide_eq_true (by first | (with_reducible assumption) | assumption)
          have q242 : x5_1 < (l1.length : Int) := of_decide_eq_true (by first | (with_reducible assumption) | assumption)
          obtain ⟨ad242, e242, hx242_0, hx242_1⟩ := at_T73 HR1.out x5_1 p242 q242
          have hw242_1 := hx242_1
          have hw242_0 := hx242_0
          obtain rfl : ad239 = ad242 := (by injection e242)
          replace hx242_0 := cH HB hx242_0
          replace hx242_1 := cH HB hx242_1
          replace p242 := eq_true p242
          replace q242 := eq_true q242
          refine st_ 24 (S := fun w' => w'.cell? ⟨gb238, 0, none⟩ = some (.int .i64 a0_0) ∧ w'.cell? ⟨gb238, 1, none⟩ = some (.slice A0_1 l0_1.length c0_1) ∧ w'.cell? (ad239.add ((x5_1).toNat * 2)) = some (.int .i64 ((rd_T73 l1 x5_1).f0)) ∧ w'.cell? ⟨(ad239.add ((x5_1).toNat * 2)).block, (ad239.add ((x5_1).toNat * 2)).off + 1, none⟩ = some (.int .i64 ((rd_T73 l1 x5_1).f1)) ∧ w'.cell? (ad239.add (((ji10)).toNat * 2)) = some (.int .i64 ((rd_T73 l1 (ji10)).f0)) ∧ w'.cell? ⟨(ad239.add (((ji10)).toNat * 2)).block, (ad239.add (((ji10)).toNat * 2)).off + 1, none⟩ = some (.int .i64 ((rd_T73 l1 (ji10)).f1)) ∧ w'.cell? (ad239.add ((x5_1).toNat * 2)) = some (.int .i64 ((rd_T73 l1 x5_1).f0)) ∧ w'.cell? ⟨(ad239.add ((x5_1).toNat * 2)).block, (ad239.add ((x5_1).toNat * 2)).off + 1, none⟩ = some (.int .i64 ((rd_T73 l1 x5_1).f1))) (ds := []) ⟨cB BK238 0, cB BK238 1, (cH HB hw239_0 :), (cH HB hw239_1 :), (cH HB hw241_0 :), (cH HB hw241_1 :), (cH HB hw242_0 :), (cH HB hw242_1 :)⟩ (fun hHeld => ?_); refine with_tabW spec_l02Is.tab4 spec_l02Is.bits4 (fun HT_ HW_ => ?_)
          generalize wr.drew = w14 at BK238 HB hx239_0 hx239_1 hx241_0 hx241_1 hx242_0 hx242_1 hHeld ⊢
          refine pu_ 1 14 2 HT_ ?_
          refine pu_ 2 15 6 HT_ ?_
          refine pu_ 3 16 14 HT_ ?_
          refine tk_ 0 13 15 HT_ HW_ hHeld ?_
          refine tk_ 4 17 31 HT_ HW_ hHeld ?_
          refine on_ 5 (some 18) 63 HT_ (fun K hK => ?_)
          refine ca_ Try.func179 #[.agg #[.int .i64 a0_0, .slice A0_1 l0_1.length c0_1], .agg #[.int .i64 ((rd_T73 l1 x5_1).f0), .int .i64 ((rd_T73 l1 x5_1).f1)]] ?_
          with_reducible refine (spec_l02Pair.calls k1 a0_0 _ _ l0_1 ((rd_T73 l1 x5_1).f0) ((rd_T73 l1 x5_1).f1) true _ ?side1 ?side2 A7.out).mono ?_
          (case side1 => exact pC ((Kd.C_below HR0_1.out HB.out)))
          (case side2 => exact HC0_1.out)
          rintro e w15 ⟨rfl, hb⟩
          refine ⟨_, rfl, ?_⟩
          replace BK238 := sB BK238 hb
          replace HB := sH HB hb
          (try clear hb)
          (try clear hb2)
          (try clear hk)
          (try clear hi)
          refine hK.out _ _ ⟨cB BK238 0, cB BK238 1, (cH HB hw239_0 :), (cH HB hw239_1 :), (cH HB hw241_0 :), (cH HB hw241_1 :), (cH HB hw242_0 :), (cH HB hw242_1 :)⟩ (fun hHeld => ?_)
          clear hK K
          refine nm_ ?_
          refine pu_ 6 19 127 HT_ ?_
          refine pu_ 7 20 255 HT_ ?_
          refine pu_ 8 21 511 HT_ ?_
          refine pu_ 9 22 1023 HT_ ?_
          refine pu_ 10 23 2047 HT_ ?_
          refine pu_ 11 24 4095 HT_ ?_
          refine pu_ 12 25 8191 HT_ ?_
          refine pu_ 13 26 16383 HT_ ?_
          refine pu_ 14 27 32767 HT_ ?_
          refine pu_ 16 29 98303 HT_ ?_
          refine pu_ 17 30 229375 HT_ ?_
          refine pu_ 18 31 491519 HT_ ?_
          refine tk_ 15 28 524287 HT_ HW_ hHeld ?_
          refine tk_ 19 32 1048575 HT_ HW_ hHeld ?_
          refine on_ 20 (some 33) 2097151 HT_ (fun K hK => ?_)
          refine ca_ Try.func162 #[.agg #[.int .i64 ((rd_T73 l1 (ji10)).f0), .int .i64 ((rd_T73 l1 (ji10)).f1)], .agg #[.int .i64 ((rd_T73 l1 x5_1).f0), .int .i64 ((rd_T73 l1 x5_1).f1)]] (hargs := by (try simp only [List.map_toArray, List.map_cons, List.map_nil]); first | done | (simp only [hji10]; rfl) | rfl | (simp only [List.length_drop, List.length_take]; rfl)) ?_
          with_reducible refine (spec_l02Less.calls ((rd_T73 l1 (ji10)).f0) ((rd_T73 l1 (ji10)).f1) ((rd_T73 l1 x5_1).f0) ((rd_T73 l1 x5_1).f1) t243 _ A13.out).mono ?_
          rintro e w16 ⟨rfl, hb⟩
          refine ⟨_, rfl, ?_⟩
          replace BK238 := sB BK238 hb
          replace HB := sH HB hb
          (try clear hb)
          (try clear hb2)
          (try clear hk)
          (try clear hi)
          refine hK.out _ _ ⟨cB BK238 0, cB BK238 1, (cH HB hw239_0 :), (cH HB hw239_1 :), (cH HB hw241_0 :), (cH HB hw241_1 :), (cH HB hw242_0 :), (cH HB hw242_1 :)⟩ (fun hHeld => ?_)
          clear hK K
          refine nm_ ?_
          refine pu_ 21 34 4194303 HT_ ?_
          refine pu_ 22 35 8388607 HT_ ?_
          refine pu_ 23 36 16777215 HT_ ?_
          refine dn_ HT_ ?_
          try go_wp2
          go_meet
          case rel => exact ⟨_, (!t243), (by first | rfl | (simp; done) | (simp [*]; done)), H', ⟨by have := HK1.out; first | omega | exact Nat.le_refl _⟩, ⟨pB BK238⟩, ⟨pH HB⟩⟩
         ·rw [if_neg c12] at H
          exact absurd H (by simp)
        ·rw [if_neg c11] at H
         exact absurd H (by simp)
       ·rw [if_neg c9] at H
        have c9b0 : decide (0 < x5_1) = false := decide_eq_false c9
        clear c9
        have H' := Aside0.mk H
        clear H
        try go_wp2
        replace BK238 := dB BK238
        replace HB := dH HB
        have p239 : 0 ≤ (x5_1 : Int) := of_decide_eq_true (by first | (with_reducible assumption) | assumption)
        have q239 : x5_1 < (l1.length : Int) := of_decide_eq_true (by first | (with_reducible assumption) | assumption)
        obtain ⟨ad239, e239, hx239_0, hx239_1⟩ := at_T73 HR1.out x5_1 p239 q239
        have hw239_1 := hx239_1
        have hw239_0 := hx239_0
        cases e239
        replace hx239_0 := cH HB hx239_0
        replace hx239_1 := cH HB hx239_1
        replace p239 := eq_true p239
        replace q239 := eq_true q239
        refine st_ 24 (S := fun w' => w'.cell? ⟨gb238, 0, none⟩ = some (.int .i64 a0_0) ∧ w'.cell? ⟨gb238, 1, none⟩ = some (.slice A0_1 l0_1.length c0_1) ∧ w'.cell? (ad239.add ((x5_1).toNat * 2)) = some (.int .i64 ((rd_T73 l1 x5_1).f0)) ∧ w'.cell? ⟨(ad239.add ((x5_1).toNat * 2)).block, (ad239.add ((x5_1).toNat * 2)).off + 1, none⟩ = some (.int .i64 ((rd_T73 l1 x5_1).f1))) (ds := []) ⟨cB BK238 0, cB BK238 1, (cH HB hw239_0 :), (cH HB hw239_1 :)⟩ (fun hHeld => ?_); refine with_tabW spec_l02Is.tab4 spec_l02Is.bits4 (fun HT_ HW_ => ?_)
        generalize wr.drew = w17 at BK238 HB hx239_0 hx239_1 hHeld ⊢
        refine pu_ 1 14 2 HT_ ?_
        refine pu_ 2 15 6 HT_ ?_
        refine pu_ 3 16 14 HT_ ?_
        refine tk_ 0 13 15 HT_ HW_ hHeld ?_
        refine tk_ 4 17 31 HT_ HW_ hHeld ?_
        refine on_ 5 (some 18) 63 HT_ (fun K hK => ?_)
        refine ca_ Try.func179 #[.agg #[.int .i64 a0_0, .slice A0_1 l0_1.length c0_1], .agg #[.int .i64 ((rd_T73 l1 x5_1).f0), .int .i64 ((rd_T73 l1 x5_1).f1)]] ?_
        with_reducible refine (spec_l02Pair.calls k1 a0_0 _ _ l0_1 ((rd_T73 l1 x5_1).f0) ((rd_T73 l1 x5_1).f1) true _ ?side1 ?side2 A7.out).mono ?_
        (case side1 => exact pC ((Kd.C_below HR0_1.out HB.out)))
        (case side2 => exact HC0_1.out)
        rintro e w18 ⟨rfl, hb⟩
        refine ⟨_, rfl, ?_⟩
        replace BK238 := sB BK238 hb
        replace HB := sH HB hb
        (try clear hb)
        (try clear hb2)
        (try clear hk)
        (try clear hi)
        refine hK.out _ _ ⟨cB BK238 0, cB BK238 1, (cH HB hw239_0 :), (cH HB hw239_1 :)⟩ (fun hHeld => ?_)
        clear hK K
        refine nm_ ?_
        refine pu_ 6 19 127 HT_ ?_
        refine pu_ 7 20 255 HT_ ?_
        refine pu_ 8 21 511 HT_ ?_
        refine pu_ 9 22 1023 HT_ ?_
        refine pu_ 10 23 2047 HT_ ?_
        refine pn_ 11 24 4095 HT_ ?_
        refine pn_ 12 25 8191 HT_ ?_
        refine pn_ 13 26 16383 HT_ ?_
        refine pn_ 14 27 32767 HT_ ?_
        refine pn_ 15 28 65535 HT_ ?_
        refine pn_ 16 29 131071 HT_ ?_
        refine pn_ 17 30 262143 HT_ ?_
        refine pn_ 18 31 524287 HT_ ?_
        refine pn_ 19 32 1048575 HT_ ?_
        refine pn_ 20 33 2097151 HT_ ?_
        refine pn_ 21 34 4194303 HT_ ?_
        refine pu_ 22 35 8388607 HT_ ?_
        refine pu_ 23 36 16777215 HT_ ?_
        refine dn_ HT_ ?_
        try go_wp2
        go_meet
        case rel => exact ⟨_, (false), (by first | rfl | (simp; done) | (simp [*]; done)), H', ⟨by have := HK1.out; first | omega | exact Nat.le_refl _⟩, ⟨pB BK238⟩, ⟨pH HB⟩⟩
      ·replace c8 := Bool.eq_false_iff.mpr c8
       subst c8
       have H1 : (spec_l02Is.j1 k1 l1 x5_1 true a0_0 l0_1) = some r := by rw [if_neg (show ¬ (false = true) by decide)] at H; exact H
       clear H
       have H := H1
       clear H1
       have H' := Aside0.mk H
       clear H
       try go_wp2
       replace BK238 := dB BK238
       replace HB := dH HB
       have p239 : 0 ≤ (x5_1 : Int) := of_decide_eq_true (by first | (with_reducible assumption) | assumption)
       have q239 : x5_1 < (l1.length : Int) := of_decide_eq_true (by first | (with_reducible assumption) | assumption)
       obtain ⟨ad239, e239, hx239_0, hx239_1⟩ := at_T73 HR1.out x5_1 p239 q239
       have hw239_1 := hx239_1
       have hw239_0 := hx239_0
       cases e239
       replace hx239_0 := cH HB hx239_0
       replace hx239_1 := cH HB hx239_1
       replace p239 := eq_true p239
       replace q239 := eq_true q239
       refine st_ 24 (S := fun w' => w'.cell? ⟨gb238, 0, none⟩ = some (.int .i64 a0_0) ∧ w'.cell? ⟨gb238, 1, none⟩ = some (.slice A0_1 l0_1.length c0_1) ∧ w'.cell? (ad239.add ((x5_1).toNat * 2)) = some (.int .i64 ((rd_T73 l1 x5_1).f0)) ∧ w'.cell? ⟨(ad239.add ((x5_1).toNat * 2)).block, (ad239.add ((x5_1).toNat * 2)).off + 1, none⟩ = some (.int .i64 ((rd_T73 l1 x5_1).f1))) (ds := []) ⟨cB BK238 0, cB BK238 1, (cH HB hw239_0 :), (cH HB hw239_1 :)⟩ (fun hHeld => ?_); refine with_tabW spec_l02Is.tab4 spec_l02Is.bits4 (fun HT_ HW_ => ?_)
       generalize wr.drew = w19 at BK238 HB hx239_0 hx239_1 hHeld ⊢
       refine pu_ 1 14 2 HT_ ?_
       refine pu_ 2 15 6 HT_ ?_
       refine pu_ 3 16 14 HT_ ?_
       refine tk_ 0 13 15 HT_ HW_ hHeld ?_
       refine tk_ 4 17 31 HT_ HW_ hHeld ?_
       refine on_ 5 (some 18) 63 HT_ (fun K hK => ?_)
       refine ca_ Try.func179 #[.agg #[.int .i64 a0_0, .slice A0_1 l0_1.length c0_1], .agg #[.int .i64 ((rd_T73 l1 x5_1).f0), .int .i64 ((rd_T73 l1 x5_1).f1)]] ?_
       with_reducible refine (spec_l02Pair.calls k1 a0_0 _ _ l0_1 ((rd_T73 l1 x5_1).f0) ((rd_T73 l1 x5_1).f1) false _ ?side1 ?side2 A7.out).mono ?_
       (case side1 => exact pC ((Kd.C_below HR0_1.out HB.out)))
       (case side2 => exact HC0_1.out)
       rintro e w20 ⟨rfl, hb⟩
       refine ⟨_, rfl, ?_⟩
       replace BK238 := sB BK238 hb
       replace HB := sH HB hb
       (try clear hb)
       (try clear hb2)
       (try clear hk)
       (try clear hi)
       refine hK.out _ _ ⟨cB BK238 0, cB BK238 1, (cH HB hw239_0 :), (cH HB hw239_1 :)⟩ (fun hHeld => ?_)
       clear hK K
       refine nm_ ?_
       refine pu_ 6 19 127 HT_ ?_
       refine pu_ 7 20 255 HT_ ?_
       refine pn_ 8 21 511 HT_ ?_
       refine pn_ 9 22 1023 HT_ ?_
       refine pn_ 10 23 2047 HT_ ?_
       refine pn_ 11 24 4095 HT_ ?_
       refine pn_ 12 25 8191 HT_ ?_
       refine pn_ 13 26 16383 HT_ ?_
       refine pn_ 14 27 32767 HT_ ?_
       refine pn_ 15 28 65535 HT_ ?_
       refine pn_ 16 29 131071 HT_ ?_
       refine pn_ 17 30 262143 HT_ ?_
       refine pn_ 18 31 524287 HT_ ?_
       refine pn_ 19 32 1048575 HT_ ?_
       refine pn_ 20 33 2097151 HT_ ?_
       refine pn_ 21 34 4194303 HT_ ?_
       refine pn_ 22 35 8388607 HT_ ?_
       refine pu_ 23 36 16777215 HT_ ?_
       refine dn_ HT_ ?_
       try go_wp2
       go_meet
       case rel => exact ⟨_, (true), (by first | rfl | (simp; done) | (simp [*]; done)), H', ⟨by have := HK1.out; first | omega | exact Nat.le_refl _⟩, ⟨pB BK238⟩, ⟨pH HB⟩⟩
     ·rw [if_neg c6] at H
      exact absurd H (by simp)
    case rest =>
     clear HC5
     try clear c1
     try clear p2
     try clear q2
     try clear hx2
     try clear c6
     try clear c8
     try clear c9
     try clear c9b0
     try clear c11
     try clear c12
     try clear c16
     try clear c17
     try clear hx239_0
     try clear hx239_1
     try clear p239
     try clear q239
     obtain ⟨kq, x36_4, rfl, HA, HJ4, BK238, HB⟩ := hcut
     cases kq with
     | zero => exact absurd HA.out (by simp [spec_l02Is.j1])
     | succ kj4 =>
      have H := HA.out
      clear HA
      simp only [spec_l02Is.j1] at H
      by_cases c21 : x36_4 = true
      ·subst c21
       have H1 : (some false) = some r := by rw [if_pos rfl] at H; exact H
       clear H
       have H := H1
       clear H1
       obtain rfl := Option.some.inj H
       go_wp2
       go_ret
       exact ⟨by first | rfl | (simp [errW_none, errW_some] <;> rfl) | (simp [*, errW_none, errW_some] <;> rfl) | (exfalso; simp_all), pH HB⟩
      ·replace c21 := Bool.eq_false_iff.mpr c21
       subst c21
       have H1 : (spec_l02Is.l1 kj4 l1 x5_1 0 a0_0 l0_1) = some r := by rw [if_neg (show ¬ (false = true) by decide)] at H; exact H
       clear H
       have H := H1
       clear H1
       have H' := Aside0.mk H
       clear H
       go_wp2
       go_loopg [6] kj4 (fun kq v6 w' => ∃ (x6_3 : Int), v6 = .int .i64 x6_3 ∧ Aside0 (spec_l02Is.l1 kq l1 x5_1 x6_3 a0_0 l0_1 = some r) ∧ Aside0 (kq ≤ kj4) ∧ Aside0 (w'.heap[gb238]? = some (.cells #[.int .i64 a0_0, (.slice A0_1 l0_1.length c0_1)] 28 (0, 0))) ∧ Aside0 (Below w.heap.size w w'))
       case atStart => exact ⟨(0), (by first | rfl | (simp; done) | (simp [*]; done)), H', ⟨Nat.le_refl _⟩, ⟨pB BK238⟩, ⟨pH HB⟩⟩
       case round =>
        clear H'
        try clear c1
        try clear c2
        try clear p2
        try clear q2
        try clear hx2
        try clear c6
        try clear c8
        try clear c9
        try clear c9b0
        try clear c11
        try clear c12
        try clear c16
        try clear c17
        try clear c21
        try clear hx239_0
        try clear hx239_1
        try clear p2
        try clear p239
        try clear q2
        try clear q239
        obtain ⟨x6_3, rfl, HA, HK3, BK238, HB⟩ := hrel
        cases gk with
        | zero => exact absurd HA.out (by simp [spec_l02Is.l1])
        | succ k3 =>
         have H := HA.out
         clear HA
         simp only [spec_l02Is.l1] at H
         by_cases c22 : x6_3 < x5_1
         ·rw [if_pos c22] at H
          have c22b0 : decide (x6_3 < x5_1) = true := decide_eq_true c22
          clear c22
          by_cases c23 : 0 ≤ x5_1
          ·rw [if_pos c23] at H
           have c23b0 : decide (0 ≤ x5_1) = true := decide_eq_true c23
           clear c23
           by_cases c24 : x5_1 < (l1.length : Int)
           ·rw [if_pos c24] at H
            have c24b0 : decide (x5_1 < (l1.length : Int)) = true := decide_eq_true c24
            clear c24
            by_cases c25 : 0 ≤ x6_3
            ·rw [if_pos c25] at H
             have c25b0 : decide (0 ≤ x6_3) = true := decide_eq_true c25
             clear c25
             by_cases c26 : x6_3 < (l1.length : Int)
             ·rw [if_pos c26] at H
              have c26b0 : decide (x6_3 < (l1.length : Int)) = true := decide_eq_true c26
              clear c26
              by_cases c27 : ((rd_T73 l1 x5_1).f0) = ((rd_T73 l1 x6_3).f0)
              ·rw [if_pos c27] at H
               have c27b0 : (((rd_T73 l1 x5_1).f0) == ((rd_T73 l1 x6_3).f0)) = true := beq_iff_eq.mpr c27
               have c27b1 : (((rd_T73 l1 x5_1).f0) != ((rd_T73 l1 x6_3).f0)) = false := bne_eq_false_iff_eq.mpr c27
               clear c27
               obtain rfl := Option.some.inj H
               try go_wp2
               replace BK238 := dB BK238
               replace HB := dH HB
               have p244 : 0 ≤ (x5_1 : Int) := of_decide_eq_true (by first | (with_reducible assumption) | assumption)
               have q244 : x5_1 < (l1.length : Int) := of_decide_eq_true (by first | (with_reducible assumption) | assumption)
               obtain ⟨ad244, e244, hx244_0, hx244_1⟩ := at_T73 HR1.out x5_1 p244 q244
               have hw244_1 := hx244_1
               have hw244_0 := hx244_0
               cases e244
               replace hx244_0 := cH HB hx244_0
               replace hx244_1 := cH HB hx244_1
               replace p244 := eq_true p244
               replace q244 := eq_true q244
               have p245 : 0 ≤ (x6_3 : Int) := of_decide_eq_true (by first | (with_reducible assumption) | assumption)
               have q245 : x6_3 < (l1.length : Int) := of_decide_eq_true (by first | (with_reducible assumption) | assumption)
               obtain ⟨ad245, e245, hx245_0, hx245_1⟩ := at_T73 HR1.out x6_3 p245 q245
               have hw245_1 := hx245_1
               have hw245_0 := hx245_0
               obtain rfl : ad244 = ad245 := (by injection e245)
               replace hx245_0 := cH HB hx245_0
               replace hx245_1 := cH HB hx245_1
               replace p245 := eq_true p245
               replace q245 := eq_true q245
               refine st_ 50 (S := fun w' => w'.cell? (ad244.add ((x5_1).toNat * 2)) = some (.int .i64 ((rd_T73 l1 x5_1).f0)) ∧ w'.cell? ⟨(ad244.add ((x5_1).toNat * 2)).block, (ad244.add ((x5_1).toNat * 2)).off + 1, none⟩ = some (.int .i64 ((rd_T73 l1 x5_1).f1)) ∧ w'.cell? (ad244.add ((x6_3).toNat * 2)) = some (.int .i64 ((rd_T73 l1 x6_3).f0)) ∧ w'.cell? ⟨(ad244.add ((x6_3).toNat * 2)).block, (ad244.add ((x6_3).toNat * 2)).off + 1, none⟩ = some (.int .i64 ((rd_T73 l1 x6_3).f1))) (ds := []) ⟨(cH HB hw244_0 :), (cH HB hw244_1 :), (cH HB hw245_0 :), (cH HB hw245_1 :)⟩ (fun hHeld => ?_); refine with_tabW spec_l02Is.tab9 spec_l02Is.bits9 (fun HT_ HW_ => ?_)
               generalize wr.drew = w28 at BK238 HB hx244_0 hx244_1 hx245_0 hx245_1 hHeld ⊢
               refine pu_ 0 42 1 HT_ ?_
               refine pu_ 1 43 3 HT_ ?_
               refine pu_ 2 44 7 HT_ ?_
               refine pu_ 3 45 15 HT_ ?_
               refine pu_ 5 47 47 HT_ ?_
               refine pu_ 6 48 111 HT_ ?_
               refine pu_ 7 49 239 HT_ ?_
               refine pu_ 8 50 495 HT_ ?_
               refine tk_ 4 46 511 HT_ HW_ hHeld ?_
               refine tk_ 9 51 1023 HT_ HW_ hHeld ?_
               refine pu_ 10 52 2047 HT_ ?_
               refine pu_ 11 53 4095 HT_ ?_
               refine pn_ 12 54 8191 HT_ ?_
               refine pn_ 13 55 16383 HT_ ?_
               refine pn_ 14 56 32767 HT_ ?_
               refine pn_ 15 57 65535 HT_ ?_
               refine pn_ 16 58 131071 HT_ ?_
               refine pn_ 17 59 262143 HT_ ?_
               refine pn_ 18 60 524287 HT_ ?_
               refine pn_ 19 61 1048575 HT_ ?_
               refine pn_ 20 62 2097151 HT_ ?_
               refine pn_ 21 63 4194303 HT_ ?_
               refine pn_ 22 64 8388607 HT_ ?_
               refine pu_ 23 65 16777215 HT_ ?_
               refine pu_ 24 66 33554431 HT_ ?_
               refine pn_ 25 67 67108863 HT_ ?_
               refine pn_ 26 68 134217727 HT_ ?_
               refine pn_ 27 69 268435455 HT_ ?_
               refine pn_ 28 70 536870911 HT_ ?_
               refine pn_ 29 71 1073741823 HT_ ?_
               refine pn_ 30 72 2147483647 HT_ ?_
               refine pn_ 31 73 4294967295 HT_ ?_
               refine pn_ 32 74 8589934591 HT_ ?_
               refine pn_ 33 75 17179869183 HT_ ?_
               refine pn_ 34 76 34359738367 HT_ ?_
               refine pn_ 35 77 68719476735 HT_ ?_
               refine pu_ 36 78 137438953471 HT_ ?_
               refine pu_ 37 79 274877906943 HT_ ?_
               refine pn_ 38 80 549755813887 HT_ ?_
               refine pn_ 39 81 1099511627775 HT_ ?_
               refine pn_ 40 82 2199023255551 HT_ ?_
               refine pn_ 41 83 4398046511103 HT_ ?_
               refine pn_ 42 84 8796093022207 HT_ ?_
               refine pn_ 43 85 17592186044415 HT_ ?_
               refine pn_ 44 86 35184372088831 HT_ ?_
               refine pn_ 45 87 70368744177663 HT_ ?_
               refine pn_ 46 88 140737488355327 HT_ ?_
               refine pn_ 47 89 281474976710655 HT_ ?_
               refine pn_ 48 90 562949953421311 HT_ ?_
               refine pu_ 49 91 1125899906842623 HT_ ?_
               refine dn_ HT_ ?_
               try go_wp2
               go_ret
               exact ⟨by first | rfl | (simp [errW_none, errW_some] <;> rfl) | (simp [*, errW_none, errW_some] <;> rfl) | (exfalso; simp_all), pH HB⟩
              ·rw [if_neg c27] at H
               have c27b0 : (((rd_T73 l1 x5_1).f0) == ((rd_T73 l1 x6_3).f0)) = false := beq_eq_false_iff_ne.mpr c27
               have c27b1 : (((rd_T73 l1 x5_1).f0) != ((rd_T73 l1 x6_3).f0)) = true := bne_iff_ne.mpr c27
               by_cases c29 : ((rd_T73 l1 x5_1).f0) = ((rd_T73 l1 x6_3).f1)
               ·rw [if_pos c29] at H
                have c29b0 : (((rd_T73 l1 x5_1).f0) == ((rd_T73 l1 x6_3).f1)) = true := beq_iff_eq.mpr c29
                have c29b1 : (((rd_T73 l1 x5_1).f0) != ((rd_T73 l1 x6_3).f1)) = false := bne_eq_false_iff_eq.mpr c29
                clear c29
                obtain rfl := Option.some.inj H
                try go_wp2
                replace BK238 := dB BK238
                replace HB := dH HB
                have p244 : 0 ≤ (x5_1 : Int) := of_decide_eq_true (by first | (with_reducible assumption) | assumption)
                have q244 : x5_1 < (l1.length : Int) := of_decide_eq_true (by first | (with_reducible assumption) | assumption)
                obtain ⟨ad244, e244, hx244_0, hx244_1⟩ := at_T73 HR1.out x5_1 p244 q244
                have hw244_1 := hx244_1
                have hw244_0 := hx244_0
                cases e244
                replace hx244_0 := cH HB hx244_0
                replace hx244_1 := cH HB hx244_1
                replace p244 := eq_true p244
                replace q244 := eq_true q244
                have p245 : 0 ≤ (x6_3 : Int) := of_decide_eq_true (by first | (with_reducible assumption) | assumption)
                have q245 : x6_3 < (l1.length : Int) := of_decide_eq_true (by first | (with_reducible assumption) | assumption)
                obtain ⟨ad245, e245, hx245_0, hx245_1⟩ := at_T73 HR1.out x6_3 p245 q245
                have hw245_1 := hx245_1
                have hw245_0 := hx245_0
                obtain rfl : ad244 = ad245 := (by injection e245)
                replace hx245_0 := cH HB hx245_0
                replace hx245_1 := cH HB hx245_1
                replace p245 := eq_true p245
                replace q245 := eq_true q245
                have p246 : 0 ≤ (x5_1 : Int) := of_decide_eq_true (by first | (with_reducible assumption) | assumption)
                have q246 : x5_1 < (l1.length : Int) := of_decide_eq_true (by first | (with_reducible assumption) | assumption)
                obtain ⟨ad246, e246, hx246_0, hx246_1⟩ := at_T73 HR1.out x5_1 p246 q246
                have hw246_1 := hx246_1
                have hw246_0 := hx246_0
                obtain rfl : ad244 = ad246 := (by injection e246)
                replace hx246_0 := cH HB hx246_0
                replace hx246_1 := cH HB hx246_1
                replace p246 := eq_true p246
                replace q246 := eq_true q246
                have p247 : 0 ≤ (x6_3 : Int) := of_decide_eq_true (by first | (with_reducible assumption) | assumption)
                have q247 : x6_3 < (l1.length : Int) := of_decide_eq_true (by first | (with_reducible assumption) | assumption)
                obtain ⟨ad247, e247, hx247_0, hx247_1⟩ := at_T73 HR1.out x6_3 p247 q247
                have hw247_1 := hx247_1
                have hw247_0 := hx247_0
                obtain rfl : ad244 = ad247 := (by injection e247)
                replace hx247_0 := cH HB hx247_0
                replace hx247_1 := cH HB hx247_1
                replace p247 := eq_true p247
                replace q247 := eq_true q247
                refine st_ 50 (S := fun w' => w'.cell? (ad244.add ((x5_1).toNat * 2)) = some (.int .i64 ((rd_T73 l1 x5_1).f0)) ∧ w'.cell? ⟨(ad244.add ((x5_1).toNat * 2)).block, (ad244.add ((x5_1).toNat * 2)).off + 1, none⟩ = some (.int .i64 ((rd_T73 l1 x5_1).f1)) ∧ w'.cell? (ad244.add ((x6_3).toNat * 2)) = some (.int .i64 ((rd_T73 l1 x6_3).f0)) ∧ w'.cell? ⟨(ad244.add ((x6_3).toNat * 2)).block, (ad244.add ((x6_3).toNat * 2)).off + 1, none⟩ = some (.int .i64 ((rd_T73 l1 x6_3).f1)) ∧ w'.cell? (ad244.add ((x5_1).toNat * 2)) = some (.int .i64 ((rd_T73 l1 x5_1).f0)) ∧ w'.cell? ⟨(ad244.add ((x5_1).toNat * 2)).block, (ad244.add ((x5_1).toNat * 2)).off + 1, none⟩ = some (.int .i64 ((rd_T73 l1 x5_1).f1)) ∧ w'.cell? (ad244.add ((x6_3).toNat * 2)) = some (.int .i64 ((rd_T73 l1 x6_3).f0)) ∧ w'.cell? ⟨(ad244.add ((x6_3).toNat * 2)).block, (ad244.add ((x6_3).toNat * 2)).off + 1, none⟩ = some (.int .i64 ((rd_T73 l1 x6_3).f1))) (ds := []) ⟨(cH HB hw244_0 :), (cH HB hw244_1 :), (cH HB hw245_0 :), (cH HB hw245_1 :), (cH HB hw246_0 :), (cH HB hw246_1 :), (cH HB hw247_0 :), (cH HB hw247_1 :)⟩ (fun hHeld => ?_); refine with_tabW spec_l02Is.tab9 spec_l02Is.bits9 (fun HT_ HW_ => ?_)
                generalize wr.drew = w30 at BK238 HB hx244_0 hx244_1 hx245_0 hx245_1 hx246_0 hx246_1 hx247_0 hx247_1 hHeld ⊢
                refine pu_ 0 42 1 HT_ ?_
                refine pu_ 1 43 3 HT_ ?_
                refine pu_ 2 44 7 HT_ ?_
                refine pu_ 3 45 15 HT_ ?_
                refine pu_ 5 47 47 HT_ ?_
                refine pu_ 6 48 111 HT_ ?_
                refine pu_ 7 49 239 HT_ ?_
                refine pu_ 8 50 495 HT_ ?_
                refine tk_ 4 46 511 HT_ HW_ hHeld ?_
                refine tk_ 9 51 1023 HT_ HW_ hHeld ?_
                refine pu_ 10 52 2047 HT_ ?_
                refine pu_ 11 53 4095 HT_ ?_
                refine pu_ 12 54 8191 HT_ ?_
                refine pu_ 13 55 16383 HT_ ?_
                refine pu_ 14 56 32767 HT_ ?_
                refine pu_ 15 57 65535 HT_ ?_
                refine pu_ 17 59 196607 HT_ ?_
                refine pu_ 18 60 458751 HT_ ?_
                refine pu_ 19 61 983039 HT_ ?_
                refine pu_ 20 62 2031615 HT_ ?_
                refine tk_ 16 58 2097151 HT_ HW_ hHeld ?_
                refine tk_ 21 63 4194303 HT_ HW_ hHeld ?_
                refine pu_ 22 64 8388607 HT_ ?_
                refine pu_ 23 65 16777215 HT_ ?_
                refine pu_ 24 66 33554431 HT_ ?_
                refine pn_ 25 67 67108863 HT_ ?_
                refine pn_ 26 68 134217727 HT_ ?_
                refine pn_ 27 69 268435455 HT_ ?_
                refine pn_ 28 70 536870911 HT_ ?_
                refine pn_ 29 71 1073741823 HT_ ?_
                refine pn_ 30 72 2147483647 HT_ ?_
                refine pn_ 31 73 4294967295 HT_ ?_
                refine pn_ 32 74 8589934591 HT_ ?_
                refine pn_ 33 75 17179869183 HT_ ?_
                refine pn_ 34 76 34359738367 HT_ ?_
                refine pn_ 35 77 68719476735 HT_ ?_
                refine pu_ 36 78 137438953471 HT_ ?_
                refine pu_ 37 79 274877906943 HT_ ?_
                refine pn_ 38 80 549755813887 HT_ ?_
                refine pn_ 39 81 1099511627775 HT_ ?_
                refine pn_ 40 82 2199023255551 HT_ ?_
                refine pn_ 41 83 4398046511103 HT_ ?_
                refine pn_ 42 84 8796093022207 HT_ ?_
                refine pn_ 43 85 17592186044415 HT_ ?_
                refine pn_ 44 86 35184372088831 HT_ ?_
                refine pn_ 45 87 70368744177663 HT_ ?_
                refine pn_ 46 88 140737488355327 HT_ ?_
                refine pn_ 47 89 281474976710655 HT_ ?_
                refine pn_ 48 90 562949953421311 HT_ ?_
                refine pu_ 49 91 1125899906842623 HT_ ?_
                refine dn_ HT_ ?_
                try go_wp2
                go_ret
                exact ⟨by first | rfl | (simp [errW_none, errW_some] <;> rfl) | (simp [*, errW_none, errW_some] <;> rfl) | (exfalso; simp_all), pH HB⟩
               ·rw [if_neg c29] at H
                have c29b0 : (((rd_T73 l1 x5_1).f0) == ((rd_T73 l1 x6_3).f1)) = false := beq_eq_false_iff_ne.mpr c29
                have c29b1 : (((rd_T73 l1 x5_1).f0) != ((rd_T73 l1 x6_3).f1)) = true := bne_iff_ne.mpr c29
                by_cases c31 : ((rd_T73 l1 x5_1).f1) = ((rd_T73 l1 x6_3).f0)
                ·rw [if_pos c31] at H
                 have c31b0 : (((rd_T73 l1 x5_1).f1) == ((rd_T73 l1 x6_3).f0)) = true := beq_iff_eq.mpr c31
                 have c31b1 : (((rd_T73 l1 x5_1).f1) != ((rd_T73 l1 x6_3).f0)) = false := bne_eq_false_iff_eq.mpr c31
                 clear c31
                 obtain rfl := Option.some.inj H
                 try go_wp2
                 replace BK238 := dB BK238
                 replace HB := dH HB
                 have p244 : 0 ≤ (x5_1 : Int) := of_decide_eq_true (by first | (with_reducible assumption) | assumption)
                 have q244 : x5_1 < (l1.length : Int) := of_decide_eq_true (by first | (with_reducible assumption) | assumption)
                 obtain ⟨ad244, e244, hx244_0, hx244_1⟩ := at_T73 HR1.out x5_1 p244 q244
                 have hw244_1 := hx244_1
                 have hw244_0 := hx244_0
                 cases e244
                 replace hx244_0 := cH HB hx244_0
                 replace hx244_1 := cH HB hx244_1
                 replace p244 := eq_true p244
                 replace q244 := eq_true q244
                 have p245 : 0 ≤ (x6_3 : Int) := of_decide_eq_true (by first | (with_reducible assumption) | assumption)
                 have q245 : x6_3 < (l1.length : Int) := of_decide_eq_true (by first | (with_reducible assumption) | assumption)
                 obtain ⟨ad245, e245, hx245_0, hx245_1⟩ := at_T73 HR1.out x6_3 p245 q245
                 have hw245_1 := hx245_1
                 have hw245_0 := hx245_0
                 obtain rfl : ad244 = ad245 := (by injection e245)
                 replace hx245_0 := cH HB hx245_0
                 replace hx245_1 := cH HB hx245_1
                 replace p245 := eq_true p245
                 replace q245 := eq_true q245
                 have p246 : 0 ≤ (x5_1 : Int) := of_decide_eq_true (by first | (with_reducible assumption) | assumption)
                 have q246 : x5_1 < (l1.length : Int) := of_decide_eq_true (by first | (with_reducible assumption) | assumption)
                 obtain ⟨ad246, e246, hx246_0, hx246_1⟩ := at_T73 HR1.out x5_1 p246 q246
                 have hw246_1 := hx246_1
                 have hw246_0 := hx246_0
                 obtain rfl : ad244 = ad246 := (by injection e246)
                 replace hx246_0 := cH HB hx246_0
                 replace hx246_1 := cH HB hx246_1
                 replace p246 := eq_true p246
                 replace q246 := eq_true q246
                 have p247 : 0 ≤ (x6_3 : Int) := of_decide_eq_true (by first | (with_reducible assumption) | assumption)
                 have q247 : x6_3 < (l1.length : Int) := of_decide_eq_true (by first | (with_reducible assumption) | assumption)
                 obtain ⟨ad247, e247, hx247_0, hx247_1⟩ := at_T73 HR1.out x6_3 p247 q247
                 have hw247_1 := hx247_1
                 have hw247_0 := hx247_0
                 obtain rfl : ad244 = ad247 := (by injection e247)
                 replace hx247_0 := cH HB hx247_0
                 replace hx247_1 := cH HB hx247_1
                 replace p247 := eq_true p247
                 replace q247 := eq_true q247
                 have p248 : 0 ≤ (x5_1 : Int) := of_decide_eq_true (by first | (with_reducible assumption) | assumption)
                 have q248 : x5_1 < (l1.length : Int) := of_decide_eq_true (by first | (with_reducible assumption) | assumption)
                 obtain ⟨ad248, e248, hx248_0, hx248_1⟩ := at_T73 HR1.out x5_1 p248 q248
                 have hw248_1 := hx248_1
                 have hw248_0 := hx248_0
                 obtain rfl : ad244 = ad248 := (by injection e248)
                 replace hx248_0 := cH HB hx248_0
                 replace hx248_1 := cH HB hx248_1
                 replace p248 := eq_true p248
                 replace q248 := eq_true q248
                 have p249 : 0 ≤ (x6_3 : Int) := of_decide_eq_true (by first | (with_reducible assumption) | assumption)
                 have q249 : x6_3 < (l1.length : Int) := of_decide_eq_true (by first | (with_reducible assumption) | assumption)
                 obtain ⟨ad249, e249, hx249_0, hx249_1⟩ := at_T73 HR1.out x6_3 p249 q249
                 have hw249_1 := hx249_1
                 have hw249_0 := hx249_0
                 obtain rfl : ad244 = ad249 := (by injection e249)
                 replace hx249_0 := cH HB hx249_0
                 replace hx249_1 := cH HB hx249_1
                 replace p249 := eq_true p249
                 replace q249 := eq_true q249
                 refine st_ 50 (S := fun w' => w'.cell? (ad244.add ((x5_1).toNat * 2)) = some (.int .i64 ((rd_T73 l1 x5_1).f0)) ∧ w'.cell? ⟨(ad244.add ((x5_1).toNat * 2)).block, (ad244.add ((x5_1).toNat * 2)).off + 1, none⟩ = some (.int .i64 ((rd_T73 l1 x5_1).f1)) ∧ w'.cell? (ad244.add ((x6_3).toNat * 2)) = some (.int .i64 ((rd_T73 l1 x6_3).f0)) ∧ w'.cell? ⟨(ad244.add ((x6_3).toNat * 2)).block, (ad244.add ((x6_3).toNat * 2)).off + 1, none⟩ = some (.int .i64 ((rd_T73 l1 x6_3).f1)) ∧ w'.cell? (ad244.add ((x5_1).toNat * 2)) = some (.int .i64 ((rd_T73 l1 x5_1).f0)) ∧ w'.cell? ⟨(ad244.add ((x5_1).toNat * 2)).block, (ad244.add ((x5_1).toNat * 2)).off + 1, none⟩ = some (.int .i64 ((rd_T73 l1 x5_1).f1)) ∧ w'.cell? (ad244.add ((x6_3).toNat * 2)) = some (.int .i64 ((rd_T73 l1 x6_3).f0)) ∧ w'.cell? ⟨(ad244.add ((x6_3).toNat * 2)).block, (ad244.add ((x6_3).toNat * 2)).off + 1, none⟩ = some (.int .i64 ((rd_T73 l1 x6_3).f1)) ∧ w'.cell? (ad244.add ((x5_1).toNat * 2)) = some (.int .i64 ((rd_T73 l1 x5_1).f0)) ∧ w'.cell? ⟨(ad244.add ((x5_1).toNat * 2)).block, (ad244.add ((x5_1).toNat * 2)).off + 1, none⟩ = some (.int .i64 ((rd_T73 l1 x5_1).f1)) ∧ w'.cell? (ad244.add ((x6_3).toNat * 2)) = some (.int .i64 ((rd_T73 l1 x6_3).f0)) ∧ w'.cell? ⟨(ad244.add ((x6_3).toNat * 2)).block, (ad244.add ((x6_3).toNat * 2)).off + 1, none⟩ = some (.int .i64 ((rd_T73 l1 x6_3).f1))) (ds := []) ⟨(cH HB hw244_0 :), (cH HB hw244_1 :), (cH HB hw245_0 :), (cH HB hw245_1 :), (cH HB hw246_0 :), (cH HB hw246_1 :), (cH HB hw247_0 :), (cH HB hw247_1 :), (cH HB hw248_0 :), (cH HB hw248_1 :), (cH HB hw249_0 :), (cH HB hw249_1 :)⟩ (fun hHeld => ?_); refine with_tabW spec_l02Is.tab9 spec_l02Is.bits9 (fun HT_ HW_ => ?_)
                 generalize wr.drew = w32 at BK238 HB hx244_0 hx244_1 hx245_0 hx245_1 hx246_0 hx246_1 hx247_0 hx247_1 hx248_0 hx248_1 hx249_0 hx249_1 hHeld ⊢
                 refine pu_ 0 42 1 HT_ ?_
                 refine pu_ 1 43 3 HT_ ?_
                 refine pu_ 2 44 7 HT_ ?_
                 refine pu_ 3 45 15 HT_ ?_
                 refine pu_ 5 47 47 HT_ ?_
                 refine pu_ 6 48 111 HT_ ?_
                 refine pu_ 7 49 239 HT_ ?_
                 refine pu_ 8 50 495 HT_ ?_
                 refine tk_ 4 46 511 HT_ HW_ hHeld ?_
                 refine tk_ 9 51 1023 HT_ HW_ hHeld ?_
                 refine pu_ 10 52 2047 HT_ ?_
                 refine pu_ 11 53 4095 HT_ ?_
                 refine pu_ 12 54 8191 HT_ ?_
                 refine pu_ 13 55 16383 HT_ ?_
                 refine pu_ 14 56 32767 HT_ ?_
                 refine pu_ 15 57 65535 HT_ ?_
                 refine pu_ 17 59 196607 HT_ ?_
                 refine pu_ 18 60 458751 HT_ ?_
                 refine pu_ 19 61 983039 HT_ ?_
                 refine pu_ 20 62 2031615 HT_ ?_
                 refine tk_ 16 58 2097151 HT_ HW_ hHeld ?_
                 refine tk_ 21 63 4194303 HT_ HW_ hHeld ?_
                 refine pu_ 22 64 8388607 HT_ ?_
                 refine pu_ 23 65 16777215 HT_ ?_
                 refine pu_ 24 66 33554431 HT_ ?_
                 refine pu_ 25 67 67108863 HT_ ?_
                 refine pu_ 26 68 134217727 HT_ ?_
                 refine pu_ 27 69 268435455 HT_ ?_
                 refine pu_ 28 70 536870911 HT_ ?_
                 refine pu_ 30 72 1610612735 HT_ ?_
                 refine pu_ 31 73 3758096383 HT_ ?_
                 refine pu_ 32 74 8053063679 HT_ ?_
                 refine pu_ 33 75 16642998271 HT_ ?_
                 refine tk_ 29 71 17179869183 HT_ HW_ hHeld ?_
                 refine tk_ 34 76 34359738367 HT_ HW_ hHeld ?_
                 refine pu_ 35 77 68719476735 HT_ ?_
                 refine pu_ 36 78 137438953471 HT_ ?_
                 refine pu_ 37 79 274877906943 HT_ ?_
                 refine pn_ 38 80 549755813887 HT_ ?_
                 refine pn_ 39 81 1099511627775 HT_ ?_
                 refine pn_ 40 82 2199023255551 HT_ ?_
                 refine pn_ 41 83 4398046511103 HT_ ?_
                 refine pn_ 42 84 8796093022207 HT_ ?_
                 refine pn_ 43 85 17592186044415 HT_ ?_
                 refine pn_ 44 86 35184372088831 HT_ ?_
                 refine pn_ 45 87 70368744177663 HT_ ?_
                 refine pn_ 46 88 140737488355327 HT_ ?_
                 refine pn_ 47 89 281474976710655 HT_ ?_
                 refine pn_ 48 90 562949953421311 HT_ ?_
                 refine pu_ 49 91 1125899906842623 HT_ ?_
                 refine dn_ HT_ ?_
                 try go_wp2
                 go_ret
                 exact ⟨by first | rfl | (simp [errW_none, errW_some] <;> rfl) | (simp [*, errW_none, errW_some] <;> rfl) | (exfalso; simp_all), pH HB⟩
                ·rw [if_neg c31] at H
                 have c31b0 : (((rd_T73 l1 x5_1).f1) == ((rd_T73 l1 x6_3).f0)) = false := beq_eq_false_iff_ne.mpr c31
                 have c31b1 : (((rd_T73 l1 x5_1).f1) != ((rd_T73 l1 x6_3).f0)) = true := bne_iff_ne.mpr c31
                 by_cases c33 : ((rd_T73 l1 x5_1).f1) = ((rd_T73 l1 x6_3).f1)
                 ·rw [if_pos c33] at H
                  have c33b0 : (((rd_T73 l1 x5_1).f1) == ((rd_T73 l1 x6_3).f1)) = true := beq_iff_eq.mpr c33
                  have c33b1 : (((rd_T73 l1 x5_1).f1) != ((rd_T73 l1 x6_3).f1)) = false := bne_eq_false_iff_eq.mpr c33
                  clear c33
                  obtain rfl := Option.some.inj H
                  try go_wp2
                  replace BK238 := dB BK238
                  replace HB := dH HB
                  have p244 : 0 ≤ (x5_1 : Int) := of_decide_eq_true (by first | (with_reducible assumption) | assumption)
                  have q244 : x5_1 < (l1.length : Int) := of_decide_eq_true (by first | (with_reducible assumption) | assumption)
                  obtain ⟨ad244, e244, hx244_0, hx244_1⟩ := at_T73 HR1.out x5_1 p244 q244
                  have hw244_1 := hx244_1
                  have hw244_0 := hx244_0
                  cases e244
                  replace hx244_0 := cH HB hx244_0
                  replace hx244_1 := cH HB hx244_1
                  replace p244 := eq_true p244
                  replace q244 := eq_true q244
                  have p245 : 0 ≤ (x6_3 : Int) := of_decide_eq_true (by first | (with_reducible assumption) | assumption)
                  have q245 : x6_3 < (l1.length : Int) := of_decide_eq_true (by first | (with_reducible assumption) | assumption)
                  obtain ⟨ad245, e245, hx245_0, hx245_1⟩ := at_T73 HR1.out x6_3 p245 q245
                  have hw245_1 := hx245_1
                  have hw245_0 := hx245_0
                  obtain rfl : ad244 = ad245 := (by injection e245)
                  replace hx245_0 := cH HB hx245_0
                  replace hx245_1 := cH HB hx245_1
                  replace p245 := eq_true p245
                  replace q245 := eq_true q245
                  have p246 : 0 ≤ (x5_1 : Int) := of_decide_eq_true (by first | (with_reducible assumption) | assumption)
                  have q246 : x5_1 < (l1.length : Int) := of_decide_eq_true (by first | (with_reducible assumption) | assumption)
                  obtain ⟨ad246, e246, hx246_0, hx246_1⟩ := at_T73 HR1.out x5_1 p246 q246
                  have hw246_1 := hx246_1
                  have hw246_0 := hx246_0
                  obtain rfl : ad244 = ad246 := (by injection e246)
                  replace hx246_0 := cH HB hx246_0
                  replace hx246_1 := cH HB hx246_1
                  replace p246 := eq_true p246
                  replace q246 := eq_true q246
                  have p247 : 0 ≤ (x6_3 : Int) := of_decide_eq_true (by first | (with_reducible assumption) | assumption)
                  have q247 : x6_3 < (l1.length : Int) := of_decide_eq_true (by first | (with_reducible assumption) | assumption)
                  obtain ⟨ad247, e247, hx247_0, hx247_1⟩ := at_T73 HR1.out x6_3 p247 q247
                  have hw247_1 := hx247_1
                  have hw247_0 := hx247_0
                  obtain rfl : ad244 = ad247 := (by injection e247)
                  replace hx247_0 := cH HB hx247_0
                  replace hx247_1 := cH HB hx247_1
                  replace p247 := eq_true p247
                  replace q247 := eq_true q247
                  have p248 : 0 ≤ (x5_1 : Int) := of_decide_eq_true (by first | (with_reducible assumption) | assumption)
                  have q248 : x5_1 < (l1.length : Int) := of_decide_eq_true (by first | (with_reducible assumption) | assumption)
                  obtain ⟨ad248, e248, hx248_0, hx248_1⟩ := at_T73 HR1.out x5_1 p248 q248
                  have hw248_1 := hx248_1
                  have hw248_0 := hx248_0
                  obtain rfl : ad244 = ad248 := (by injection e248)
                  replace hx248_0 := cH HB hx248_0
                  replace hx248_1 := cH HB hx248_1
                  replace p248 := eq_true p248
                  replace q248 := eq_true q248
                  have p249 : 0 ≤ (x6_3 : Int) := of_decide_eq_true (by first | (with_reducible assumption) | assumption)
                  have q249 : x6_3 < (l1.length : Int) := of_decide_eq_true (by first | (with_reducible assumption) | assumption)
                  obtain ⟨ad249, e249, hx249_0, hx249_1⟩ := at_T73 HR1.out x6_3 p249 q249
                  have hw249_1 := hx249_1
                  have hw249_0 := hx249_0
                  obtain rfl : ad244 = ad249 := (by injection e249)
                  replace hx249_0 := cH HB hx249_0
                  replace hx249_1 := cH HB hx249_1
                  replace p249 := eq_true p249
                  replace q249 := eq_true q249
                  have p250 : 0 ≤ (x5_1 : Int) := of_decide_eq_true (by first | (with_reducible assumption) | assumption)
                  have q250 : x5_1 < (l1.length : Int) := of_decide_eq_true (by first | (with_reducible assumption) | assumption)
                  obtain ⟨ad250, e250, hx250_0, hx250_1⟩ := at_T73 HR1.out x5_1 p250 q250
                  have hw250_1 := hx250_1
                  have hw250_0 := hx250_0
                  obtain rfl : ad244 = ad250 := (by injection e250)
                  replace hx250_0 := cH HB hx250_0
                  replace hx250_1 := cH HB hx250_1
                  replace p250 := eq_true p250
                  replace q250 := eq_true q250
                  have p251 : 0 ≤ (x6_3 : Int) := of_decide_eq_true (by first | (with_reducible assumption) | assumption)
                  have q251 : x6_3 < (l1.length : Int) := of_decide_eq_true (by first | (with_reducible assumption) | assumption)
                  obtain ⟨ad251, e251, hx251_0, hx251_1⟩ := at_T73 HR1.out x6_3 p251 q251
                  have hw251_1 := hx251_1
                  have hw251_0 := hx251_0
                  obtain rfl : ad244 = ad251 := (by injection e251)
                  replace hx251_0 := cH HB hx251_0
                  replace hx251_1 := cH HB hx251_1
                  replace p251 := eq_true p251
                  replace q251 := eq_true q251
                  refine st_ 50 (S := fun w' => w'.cell? (ad244.add ((x5_1).toNat * 2)) = some (.int .i64 ((rd_T73 l1 x5_1).f0)) ∧ w'.cell? ⟨(ad244.add ((x5_1).toNat * 2)).block, (ad244.add ((x5_1).toNat * 2)).off + 1, none⟩ = some (.int .i64 ((rd_T73 l1 x5_1).f1)) ∧ w'.cell? (ad244.add ((x6_3).toNat * 2)) = some (.int .i64 ((rd_T73 l1 x6_3).f0)) ∧ w'.cell? ⟨(ad244.add ((x6_3).toNat * 2)).block, (ad244.add ((x6_3).toNat * 2)).off + 1, none⟩ = some (.int .i64 ((rd_T73 l1 x6_3).f1)) ∧ w'.cell? (ad244.add ((x5_1).toNat * 2)) = some (.int .i64 ((rd_T73 l1 x5_1).f0)) ∧ w'.cell? ⟨(ad244.add ((x5_1).toNat * 2)).block, (ad244.add ((x5_1).toNat * 2)).off + 1, none⟩ = some (.int .i64 ((rd_T73 l1 x5_1).f1)) ∧ w'.cell? (ad244.add ((x6_3).toNat * 2)) = some (.int .i64 ((rd_T73 l1 x6_3).f0)) ∧ w'.cell? ⟨(ad244.add ((x6_3).toNat * 2)).block, (ad244.add ((x6_3).toNat * 2)).off + 1, none⟩ = some (.int .i64 ((rd_T73 l1 x6_3).f1)) ∧ w'.cell? (ad244.add ((x5_1).toNat * 2)) = some (.int .i64 ((rd_T73 l1 x5_1).f0)) ∧ w'.cell? ⟨(ad244.add ((x5_1).toNat * 2)).block, (ad244.add ((x5_1).toNat * 2)).off + 1, none⟩ = some (.int .i64 ((rd_T73 l1 x5_1).f1)) ∧ w'.cell? (ad244.add ((x6_3).toNat * 2)) = some (.int .i64 ((rd_T73 l1 x6_3).f0)) ∧ w'.cell? ⟨(ad244.add ((x6_3).toNat * 2)).block, (ad244.add ((x6_3).toNat * 2)).off + 1, none⟩ = some (.int .i64 ((rd_T73 l1 x6_3).f1)) ∧ w'.cell? (ad244.add ((x5_1).toNat * 2)) = some (.int .i64 ((rd_T73 l1 x5_1).f0)) ∧ w'.cell? ⟨(ad244.add ((x5_1).toNat * 2)).block, (ad244.add ((x5_1).toNat * 2)).off + 1, none⟩ = some (.int .i64 ((rd_T73 l1 x5_1).f1)) ∧ w'.cell? (ad244.add ((x6_3).toNat * 2)) = some (.int .i64 ((rd_T73 l1 x6_3).f0)) ∧ w'.cell? ⟨(ad244.add ((x6_3).toNat * 2)).block, (ad244.add ((x6_3).toNat * 2)).off + 1, none⟩ = some (.int .i64 ((rd_T73 l1 x6_3).f1))) (ds := []) ⟨(cH HB hw244_0 :), (cH HB hw244_1 :), (cH HB hw245_0 :), (cH HB hw245_1 :), (cH HB hw246_0 :), (cH HB hw246_1 :), (cH HB hw247_0 :), (cH HB hw247_1 :), (cH HB hw248_0 :), (cH HB hw248_1 :), (cH HB hw249_0 :), (cH HB hw249_1 :), (cH HB hw250_0 :), (cH HB hw250_1 :), (cH HB hw251_0 :), (cH HB hw251_1 :)⟩ (fun hHeld => ?_); refine with_tabW spec_l02Is.tab9 spec_l02Is.bits9 (fun HT_ HW_ => ?_)
                  generalize wr.drew = w34 at BK238 HB hx244_0 hx244_1 hx245_0 hx245_1 hx246_0 hx246_1 hx247_0 hx247_1 hx248_0 hx248_1 hx249_0 hx249_1 hx250_0 hx250_1 hx251_0 hx251_1 hHeld ⊢
                  refine pu_ 0 42 1 HT_ ?_
                  refine pu_ 1 43 3 HT_ ?_
                  refine pu_ 2 44 7 HT_ ?_
                  refine pu_ 3 45 15 HT_ ?_
                  refine pu_ 5 47 47 HT_ ?_
                  refine pu_ 6 48 111 HT_ ?_
                  refine pu_ 7 49 239 HT_ ?_
                  refine pu_ 8 50 495 HT_ ?_
                  refine tk_ 4 46 511 HT_ HW_ hHeld ?_
                  refine tk_ 9 51 1023 HT_ HW_ hHeld ?_
                  refine pu_ 10 52 2047 HT_ ?_
                  refine pu_ 11 53 4095 HT_ ?_
                  refine pu_ 12 54 8191 HT_ ?_
                  refine pu_ 13 55 16383 HT_ ?_
                  refine pu_ 14 56 32767 HT_ ?_
                  refine pu_ 15 57 65535 HT_ ?_
                  refine pu_ 17 59 196607 HT_ ?_
                  refine pu_ 18 60 458751 HT_ ?_
                  refine pu_ 19 61 983039 HT_ ?_
                  refine pu_ 20 62 2031615 HT_ ?_
                  refine tk_ 16 58 2097151 HT_ HW_ hHeld ?_
                  refine tk_ 21 63 4194303 HT_ HW_ hHeld ?_
                  refine pu_ 22 64 8388607 HT_ ?_
                  refine pu_ 23 65 16777215 HT_ ?_
                  refine pu_ 24 66 33554431 HT_ ?_
                  refine pu_ 25 67 67108863 HT_ ?_
                  refine pu_ 26 68 134217727 HT_ ?_
                  refine pu_ 27 69 268435455 HT_ ?_
                  refine pu_ 28 70 536870911 HT_ ?_
                  refine pu_ 30 72 1610612735 HT_ ?_
                  refine pu_ 31 73 3758096383 HT_ ?_
                  refine pu_ 32 74 8053063679 HT_ ?_
                  refine pu_ 33 75 16642998271 HT_ ?_
                  refine tk_ 29 71 17179869183 HT_ HW_ hHeld ?_
                  refine tk_ 34 76 34359738367 HT_ HW_ hHeld ?_
                  refine pu_ 35 77 68719476735 HT_ ?_
                  refine pu_ 36 78 137438953471 HT_ ?_
                  refine pu_ 37 79 274877906943 HT_ ?_
                  refine pu_ 38 80 549755813887 HT_ ?_
                  refine pu_ 39 81 1099511627775 HT_ ?_
                  refine pu_ 40 82 2199023255551 HT_ ?_
                  refine pu_ 41 83 4398046511103 HT_ ?_
                  refine pu_ 43 85 13194139533311 HT_ ?_
                  refine pu_ 44 86 30786325577727 HT_ ?_
                  refine pu_ 45 87 65970697666559 HT_ ?_
                  refine pu_ 46 88 136339441844223 HT_ ?_
                  refine tk_ 42 84 140737488355327 HT_ HW_ hHeld ?_
                  refine tk_ 47 89 281474976710655 HT_ HW_ hHeld ?_
                  refine pu_ 48 90 562949953421311 HT_ ?_
                  refine pu_ 49 91 1125899906842623 HT_ ?_
                  refine dn_ HT_ ?_
                  try go_wp2
                  go_ret
                  exact ⟨by first | rfl | (simp [errW_none, errW_some] <;> rfl) | (simp [*, errW_none, errW_some] <;> rfl) | (exfalso; simp_all), pH HB⟩
                 ·rw [if_neg c33] at H
                  have c33b0 : (((rd_T73 l1 x5_1).f1) == ((rd_T73 l1 x6_3).f1)) = false := beq_eq_false_iff_ne.mpr c33
                  have c33b1 : (((rd_T73 l1 x5_1).f1) != ((rd_T73 l1 x6_3).f1)) = true := bne_iff_ne.mpr c33
                  have H' := Aside0.mk H
                  clear H
                  try go_wp2
                  replace BK238 := dB BK238
                  replace HB := dH HB
                  have p244 : 0 ≤ (x5_1 : Int) := of_decide_eq_true (by first | (with_reducible assumption) | assumption)
                  have q244 : x5_1 < (l1.length : Int) := of_decide_eq_true (by first | (with_reducible assumption) | assumption)
                  obtain ⟨ad244, e244, hx244_0, hx244_1⟩ := at_T73 HR1.out x5_1 p244 q244
                  have hw244_1 := hx244_1
                  have hw244_0 := hx244_0
                  cases e244
                  replace hx244_0 := cH HB hx244_0
                  replace hx244_1 := cH HB hx244_1
                  replace p244 := eq_true p244
                  replace q244 := eq_true q244
                  have p245 : 0 ≤ (x6_3 : Int) := of_decide_eq_true (by first | (with_reducible assumption) | assumption)
                  have q245 : x6_3 < (l1.length : Int) := of_decide_eq_true (by first | (with_reducible assumption) | assumption)
                  obtain ⟨ad245, e245, hx245_0, hx245_1⟩ := at_T73 HR1.out x6_3 p245 q245
                  have hw245_1 := hx245_1
                  have hw245_0 := hx245_0
                  obtain rfl : ad244 = ad245 := (by injection e245)
                  replace hx245_0 := cH HB hx245_0
                  replace hx245_1 := cH HB hx245_1
                  replace p245 := eq_true p245
                  replace q245 := eq_true q245
                  have p246 : 0 ≤ (x5_1 : Int) := of_decide_eq_true (by first | (with_reducible assumption) | assumption)
                  have q246 : x5_1 < (l1.length : Int) := of_decide_eq_true (by first | (with_reducible assumption) | assumption)
                  obtain ⟨ad246, e246, hx246_0, hx246_1⟩ := at_T73 HR1.out x5_1 p246 q246
                  have hw246_1 := hx246_1
                  have hw246_0 := hx246_0
                  obtain rfl : ad244 = ad246 := (by injection e246)
                  replace hx246_0 := cH HB hx246_0
                  replace hx246_1 := cH HB hx246_1
                  replace p246 := eq_true p246
                  replace q246 := eq_true q246
                  have p247 : 0 ≤ (x6_3 : Int) := of_decide_eq_true (by first | (with_reducible assumption) | assumption)
                  have q247 : x6_3 < (l1.length : Int) := of_decide_eq_true (by first | (with_reducible assumption) | assumption)
                  obtain ⟨ad247, e247, hx247_0, hx247_1⟩ := at_T73 HR1.out x6_3 p247 q247
                  have hw247_1 := hx247_1
                  have hw247_0 := hx247_0
                  obtain rfl : ad244 = ad247 := (by injection e247)
                  replace hx247_0 := cH HB hx247_0
                  replace hx247_1 := cH HB hx247_1
                  replace p247 := eq_true p247
                  replace q247 := eq_true q247
                  have p248 : 0 ≤ (x5_1 : Int) := of_decide_eq_true (by first | (with_reducible assumption) | assumption)
                  have q248 : x5_1 < (l1.length : Int) := of_decide_eq_true (by first | (with_reducible assumption) | assumption)
                  obtain ⟨ad248, e248, hx248_0, hx248_1⟩ := at_T73 HR1.out x5_1 p248 q248
                  have hw248_1 := hx248_1
                  have hw248_0 := hx248_0
                  obtain rfl : ad244 = ad248 := (by injection e248)
                  replace hx248_0 := cH HB hx248_0
                  replace hx248_1 := cH HB hx248_1
                  replace p248 := eq_true p248
                  replace q248 := eq_true q248
                  have p249 : 0 ≤ (x6_3 : Int) := of_decide_eq_true (by first | (with_reducible assumption) | assumption)
                  have q249 : x6_3 < (l1.length : Int) := of_decide_eq_true (by first | (with_reducible assumption) | assumption)
                  obtain ⟨ad249, e249, hx249_0, hx249_1⟩ := at_T73 HR1.out x6_3 p249 q249
                  have hw249_1 := hx249_1
                  have hw249_0 := hx249_0
                  obtain rfl : ad244 = ad249 := (by injection e249)
                  replace hx249_0 := cH HB hx249_0
                  replace hx249_1 := cH HB hx249_1
                  replace p249 := eq_true p249
                  replace q249 := eq_true q249
                  have p250 : 0 ≤ (x5_1 : Int) := of_decide_eq_true (by first | (with_reducible assumption) | assumption)
                  have q250 : x5_1 < (l1.length : Int) := of_decide_eq_true (by first | (with_reducible assumption) | assumption)
                  obtain ⟨ad250, e250, hx250_0, hx250_1⟩ := at_T73 HR1.out x5_1 p250 q250
                  have hw250_1 := hx250_1
                  have hw250_0 := hx250_0
                  obtain rfl : ad244 = ad250 := (by injection e250)
                  replace hx250_0 := cH HB hx250_0
                  replace hx250_1 := cH HB hx250_1
                  replace p250 := eq_true p250
                  replace q250 := eq_true q250
                  have p251 : 0 ≤ (x6_3 : Int) := of_decide_eq_true (by first | (with_reducible assumption) | assumption)
                  have q251 : x6_3 < (l1.length : Int) := of_decide_eq_true (by first | (with_reducible assumption) | assumption)
                  obtain ⟨ad251, e251, hx251_0, hx251_1⟩ := at_T73 HR1.out x6_3 p251 q251
                  have hw251_1 := hx251_1
                  have hw251_0 := hx251_0
                  obtain rfl : ad244 = ad251 := (by injection e251)
                  replace hx251_0 := cH HB hx251_0
                  replace hx251_1 := cH HB hx251_1
                  replace p251 := eq_true p251
                  replace q251 := eq_true q251
                  refine st_ 50 (S := fun w' => w'.cell? (ad244.add ((x5_1).toNat * 2)) = some (.int .i64 ((rd_T73 l1 x5_1).f0)) ∧ w'.cell? ⟨(ad244.add ((x5_1).toNat * 2)).block, (ad244.add ((x5_1).toNat * 2)).off + 1, none⟩ = some (.int .i64 ((rd_T73 l1 x5_1).f1)) ∧ w'.cell? (ad244.add ((x6_3).toNat * 2)) = some (.int .i64 ((rd_T73 l1 x6_3).f0)) ∧ w'.cell? ⟨(ad244.add ((x6_3).toNat * 2)).block, (ad244.add ((x6_3).toNat * 2)).off + 1, none⟩ = some (.int .i64 ((rd_T73 l1 x6_3).f1)) ∧ w'.cell? (ad244.add ((x5_1).toNat * 2)) = some (.int .i64 ((rd_T73 l1 x5_1).f0)) ∧ w'.cell? ⟨(ad244.add ((x5_1).toNat * 2)).block, (ad244.add ((x5_1).toNat * 2)).off + 1, none⟩ = some (.int .i64 ((rd_T73 l1 x5_1).f1)) ∧ w'.cell? (ad244.add ((x6_3).toNat * 2)) = some (.int .i64 ((rd_T73 l1 x6_3).f0)) ∧ w'.cell? ⟨(ad244.add ((x6_3).toNat * 2)).block, (ad244.add ((x6_3).toNat * 2)).off + 1, none⟩ = some (.int .i64 ((rd_T73 l1 x6_3).f1)) ∧ w'.cell? (ad244.add ((x5_1).toNat * 2)) = some (.int .i64 ((rd_T73 l1 x5_1).f0)) ∧ w'.cell? ⟨(ad244.add ((x5_1).toNat * 2)).block, (ad244.add ((x5_1).toNat * 2)).off + 1, none⟩ = some (.int .i64 ((rd_T73 l1 x5_1).f1)) ∧ w'.cell? (ad244.add ((x6_3).toNat * 2)) = some (.int .i64 ((rd_T73 l1 x6_3).f0)) ∧ w'.cell? ⟨(ad244.add ((x6_3).toNat * 2)).block, (ad244.add ((x6_3).toNat * 2)).off + 1, none⟩ = some (.int .i64 ((rd_T73 l1 x6_3).f1)) ∧ w'.cell? (ad244.add ((x5_1).toNat * 2)) = some (.int .i64 ((rd_T73 l1 x5_1).f0)) ∧ w'.cell? ⟨(ad244.add ((x5_1).toNat * 2)).block, (ad244.add ((x5_1).toNat * 2)).off + 1, none⟩ = some (.int .i64 ((rd_T73 l1 x5_1).f1)) ∧ w'.cell? (ad244.add ((x6_3).toNat * 2)) = some (.int .i64 ((rd_T73 l1 x6_3).f0)) ∧ w'.cell? ⟨(ad244.add ((x6_3).toNat * 2)).block, (ad244.add ((x6_3).toNat * 2)).off + 1, none⟩ = some (.int .i64 ((rd_T73 l1 x6_3).f1))) (ds := []) ⟨(cH HB hw244_0 :), (cH HB hw244_1 :), (cH HB hw245_0 :), (cH HB hw245_1 :), (cH HB hw246_0 :), (cH HB hw246_1 :), (cH HB hw247_0 :), (cH HB hw247_1 :), (cH HB hw248_0 :), (cH HB hw248_1 :), (cH HB hw249_0 :), (cH HB hw249_1 :), (cH HB hw250_0 :), (cH HB hw250_1 :), (cH HB hw251_0 :), (cH HB hw251_1 :)⟩ (fun hHeld => ?_); refine with_tabW spec_l02Is.tab9 spec_l02Is.bits9 (fun HT_ HW_ => ?_)
                  generalize wr.drew = w35 at BK238 HB hx244_0 hx244_1 hx245_0 hx245_1 hx246_0 hx246_1 hx247_0 hx247_1 hx248_0 hx248_1 hx249_0 hx249_1 hx250_0 hx250_1 hx251_0 hx251_1 hHeld ⊢
                  refine pu_ 0 42 1 HT_ ?_
                  refine pu_ 1 43 3 HT_ ?_
                  refine pu_ 2 44 7 HT_ ?_
                  refine pu_ 3 45 15 HT_ ?_
                  refine pu_ 5 47 47 HT_ ?_
                  refine pu_ 6 48 111 HT_ ?_
                  refine pu_ 7 49 239 HT_ ?_
                  refine pu_ 8 50 495 HT_ ?_
                  refine tk_ 4 46 511 HT_ HW_ hHeld ?_
                  refine tk_ 9 51 1023 HT_ HW_ hHeld ?_
                  refine pu_ 10 52 2047 HT_ ?_
                  refine pu_ 11 53 4095 HT_ ?_
                  refine pu_ 12 54 8191 HT_ ?_
                  refine pu_ 13 55 16383 HT_ ?_
                  refine pu_ 14 56 32767 HT_ ?_
                  refine pu_ 15 57 65535 HT_ ?_
                  refine pu_ 17 59 196607 HT_ ?_
                  refine pu_ 18 60 458751 HT_ ?_
                  refine pu_ 19 61 983039 HT_ ?_
                  refine pu_ 20 62 2031615 HT_ ?_
                  refine tk_ 16 58 2097151 HT_ HW_ hHeld ?_
                  refine tk_ 21 63 4194303 HT_ HW_ hHeld ?_
                  refine pu_ 22 64 8388607 HT_ ?_
                  refine pu_ 23 65 16777215 HT_ ?_
                  refine pu_ 24 66 33554431 HT_ ?_
                  refine pu_ 25 67 67108863 HT_ ?_
                  refine pu_ 26 68 134217727 HT_ ?_
                  refine pu_ 27 69 268435455 HT_ ?_
                  refine pu_ 28 70 536870911 HT_ ?_
                  refine pu_ 30 72 1610612735 HT_ ?_
                  refine pu_ 31 73 3758096383 HT_ ?_
                  refine pu_ 32 74 8053063679 HT_ ?_
                  refine pu_ 33 75 16642998271 HT_ ?_
                  refine tk_ 29 71 17179869183 HT_ HW_ hHeld ?_
                  refine tk_ 34 76 34359738367 HT_ HW_ hHeld ?_
                  refine pu_ 35 77 68719476735 HT_ ?_
                  refine pu_ 36 78 137438953471 HT_ ?_
                  refine pu_ 37 79 274877906943 HT_ ?_
                  refine pu_ 38 80 549755813887 HT_ ?_
                  refine pu_ 39 81 1099511627775 HT_ ?_
                  refine pu_ 40 82 2199023255551 HT_ ?_
                  refine pu_ 41 83 4398046511103 HT_ ?_
                  refine pu_ 43 85 13194139533311 HT_ ?_
                  refine pu_ 44 86 30786325577727 HT_ ?_
                  refine pu_ 45 87 65970697666559 HT_ ?_
                  refine pu_ 46 88 136339441844223 HT_ ?_
                  refine tk_ 42 84 140737488355327 HT_ HW_ hHeld ?_
                  refine tk_ 47 89 281474976710655 HT_ HW_ hHeld ?_
                  refine pu_ 48 90 562949953421311 HT_ ?_
                  refine pu_ 49 91 1125899906842623 HT_ ?_
                  refine dn_ HT_ ?_
                  try go_wp2
                  go_roundg k3
                  case measure => have := HK1.out; have := HJ4.out; have := HK3.out; omega
                  case rel => exact ⟨(wrap64 (x6_3 + 1)), (by first | rfl | (simp; done) | (simp [*]; done)), H', ⟨by have := HK1.out; have := HJ4.out; have := HK3.out; omega⟩, ⟨pB BK238⟩, ⟨pH HB⟩⟩
             ·rw [if_neg c26] at H
              exact absurd H (by simp)
            ·rw [if_neg c25] at H
             exact absurd H (by simp)
           ·rw [if_neg c24] at H
            exact absurd H (by simp)
          ·rw [if_neg c23] at H
           exact absurd H (by simp)
         ·rw [if_neg c22] at H
          have c22b0 : decide (x6_3 < x5_1) = false := decide_eq_false c22
          clear c22
          have H' := Aside0.mk H
          clear H
          go_wp2
          go_roundg k3
          case measure => have := HK1.out; have := HJ4.out; have := HK3.out; omega
          case rel => exact ⟨(wrap64 (x5_1 + 1)), (by first | rfl | (simp; done) | (simp [*]; done)), H', ⟨by have := HK1.out; have := HJ4.out; have := HK3.out; omega⟩, ⟨pB BK238⟩, ⟨pH HB⟩⟩
   ·rw [if_neg c4] at H
    have c4b0 : decide (x5_1 < (l1.length : Int)) = false := decide_eq_false c4
    clear c4
    obtain rfl := Option.some.inj H
    go_wp2
    go_ret
    exact ⟨by first | rfl | (simp [errW_none, errW_some] <;> rfl) | (simp [*, errW_none, errW_some] <;> rfl) | (exfalso; simp_all), pH HB⟩
end Go.Proofs.Ytomdfjohnmikdaa.QS
namespace Go.Proofs.Ytomdfjohnmikdaa.Im
set_option linter.unusedVariables false
set_option linter.unusedSimpArgs false
open Go.RowKit Go.Shelf Go.Proofs.Ytomdfjohnmikdaa.Kp Go.Proofs.Ytomdfjohnmikdaa.Ext Go.Proofs.Ytomdfjohnmikdaa.Cw Go.Proofs.YtomdfjohnmikdaaW.PrintWords Go.Proofs.YtomdfjohnmikdaaW.PrintLast Go.Proofs.YtomdfjohnmikdaaW.PrintMore
theorem lessS_f (p q : Pr) : QS.spec_l02Less.f p.f0 p.f1 q.f0 q.f1 = some (decide (cmpP p q < 0)) := by
  unfold QS.spec_l02Less.f cmpP cmpI
  by_cases h1 : p.f0 < q.f0
  · rw [if_pos h1]; simp [h1]
  · rw [if_neg h1]
    by_cases h2 : p.f0 = q.f0
    · rw [if_pos h2]
      by_cases h3 : p.f1 < q.f1
      · simp [h2, h3]
      · by_cases h4 : p.f1 > q.f1
        · simp [h2, h3, h4]
        · simp [h2, h3, h4]
    · rw [if_neg h2]
      by_cases h3 : p.f0 > q.f0
      · simp [h1, h2, h3]
      · omega
/-- The place of a pair, looked for from the end. -/
def backP (l : List Pr) (p : Pr) : Nat → Nat
  | 0 => 0
  | a + 1 => if cmpP p (l.getD a z73) < 0 then backP l p a else a + 1
def putP (l : List Pr) (p : Pr) : List Pr := l.take (backP l p l.length) ++ p :: l.drop (backP l p l.length)
section
variable {ops : Array Oper} {o : Oper} {a : Act} {Q : Exit → Act → World → Prop} {K : Act → World → Prop}
/-- append(v, ys...) in a region that draws. -/
theorem apPsR {w0 W : World} (base : Nat) (s x : Operand) (v : Value) (xs ys : List Pr) (A : Option Addr) (m c : Nat)
    (hs : a.eval s = v) (hx : a.eval x = .slice A m c) (HO : PO W base v xs) (HR : Kd.C k73 W A m ys) (HB : Below base w0 W) (hbase : base ≤ W.heap.size) (hl : xs.length + m ≤ 8796093022208)
    (h : ∀ v1 w1, PO w1 base v1 (xs ++ ys) → Below base w0 w1 → W.grownBy w1 v.ownBlock → (v1.ownBlock = v.ownBlock ∨ ∃ b, v1.ownBlock = some b ∧ W.heap.size ≤ b) → K (a.put o.dst v1) w1)
    (hw : Region.wanted o (yielded ops a.tmps) = true := by rfl) (ho : o.op = .call { callee := .builtin .append, args := #[s, x], argTypes := #[38, 38] } := by rfl) :
    if Region.wanted o (yielded ops a.tmps) = true then Oper.wp Try.prog o a W K Q else K (a.put o.dst undef) W :=
  Kd.R_append_rows_step k73 base hw s x 38 73 (.agg #[.int .i64 0, .int .i64 0]) 16 ho Try.underlying38 infoP rfl (by decide) (by decide) v xs ys A m c (fun _ => True) (fun _ => False) hs hx HO HR
    (fun x cs h => by rw [k73_open h]; exact k73_mkM _ _ _ _) (fun _ h => h.elim) (fun _ _ => trivial) HB hbase (by omega) h
end
theorem PO.one (w : World) (base : Nat) (p : Pr) (hb : base ≤ w.heap.size) : PO (w.alloc (.cells #[.int .i64 p.f0, .int .i64 p.f1] 73)) base (.slice (some ⟨w.heap.size, 0, none⟩) 1 1) [p] :=
  PO.mk (xs := [p]) (cap := 1) (cur := [.int .i64 p.f0, .int .i64 p.f1]) hb (heap_alloc_new w _) (Nat.le_refl _) (by simp [maxLen]) rfl rfl
theorem prAt_grown1 {w w1 : World} {b g : Nat} {x y : Int} {v : Value} (h : PrAt w g x y) (hv : v.ownBlock = some b) (hne : g ≠ b) (hg : w.grownBy w1 v.ownBlock) : PrAt w1 g x y := (hg.block g h.lt (fun e => hne (by rw [hv] at e; injection e))).trans h
theorem cxAt_grown1 {w w1 : World} {b g : Nat} {n : Int} {A : Option Addr} {len c : Nat} {v : Value} (h : CxAt w g n A len c) (hl : g < w.heap.size) (hv : v.ownBlock = some b) (hne : g ≠ b) (hg : w.grownBy w1 v.ownBlock) : CxAt w1 g n A len c := (hg.block g hl (fun e => hne (by rw [hv] at e; injection e))).trans h
def With2Post (w : World) (r : List Pr) (b : Bool) (e : Ending) (w' : World) : Prop := ∃ v : Value, e = .returned (.tuple #[v, .bool b]) ∧ PO w' w.heap.size v r ∧ Below w.heap.size w w'
set_option maxRecDepth 100000 in
set_option maxHeartbeats 1000000 in
theorem with2_c (k : Nat) (n : Int) (A : Option Addr) (c : Nat) (xs : List Int) (A1 : Option Addr) (c1 : Nat) (l : List Pr) (p : Pr) (b : Bool) (w : World) (hr : RC w A xs.length xs) (hc : xs.length ≤ c) (hr1 : Kd.C k73 w A1 l.length l) (hc1 : l.length ≤ c1) (hl : l.length ≤ 1000000)
    (hk : QS.spec_l02Is.f k n xs (putP l p) = some b) :
    Calls Try.prog 111 #[.agg #[.int .i64 n, .slice A xs.length c], .slice A1 l.length c1, .agg #[.int .i64 p.f0, .int .i64 p.f1]] w (With2Post w (putP l p) b) := by
  have hx0 := Aside0.mk ((CxAt.new w n A xs.length c).below (below_alloc (Below.refl _ _) (.cells #[.int .i64 p.f0, .int .i64 p.f1] 73)))
  have hp0 : Aside0 (PrAt ((w.alloc (.cells #[.int .i64 n, .slice A xs.length c] 28)).alloc (.cells #[.int .i64 p.f0, .int .i64 p.f1] 73)) (w.heap.size + 1) p.f0 p.f1) := ⟨by simpa using PrAt.new (w.alloc (.cells #[.int .i64 n, .slice A xs.length c] 28)) p.f0 p.f1⟩
  have hb0 := Aside0.mk (below_alloc (below_alloc (Below.refl w.heap.size w) (.cells #[.int .i64 n, .slice A xs.length c] 28)) (.cells #[.int .i64 p.f0, .int .i64 p.f1] 73))
  have HR := Aside0.mk hr
  have HR1 := Aside0.mk hr1
  have HC := Aside0.mk hc
  have HC1 := Aside0.mk hc1
  have HK := Aside0.mk hk
  clear hr hr1 hc hc1 hk
  go_enter Try.func111, Try.ntmps111
  go_wp2
  go_loopw [8] (fun s8 wr => ∃ m : Nat, m ≤ l.length ∧ s8 = .int .i64 m ∧ Aside0 (backP l p l.length = backP l p m) ∧ Aside0 (Below w.heap.size w wr) ∧ Aside0 (CxAt wr w.heap.size n A xs.length c) ∧ Aside0 (PrAt wr (w.heap.size + 1) p.f0 p.f1)) (fun s8 _ => (intOf s8).toNat)
  case atStart => exact ⟨l.length, by omega, rfl, ⟨rfl⟩, hb0, hx0, hp0⟩
  case round =>
    clear hx0 hp0 hb0
    obtain ⟨m, hm, rfl, hback, HB, HX, HP⟩ := hrel
    by_cases h0 : m = 0
    · have hgz : ¬ ((0 : Int) < (m : Int)) := by omega
      have hgn : ¬ (0 < m) := by omega
      have HM : Aside0 (backP l p l.length = m) := ⟨by rw [hback.out, h0]; rfl⟩
      clear h0 hback
      go_wp2
      have HPd := Aside0.mk HP.out.drew; have HBd := Aside0.mk HB.out.drew; have HXd := Aside0.mk HX.out.drew'; clear HP HB HX; have HP := HPd; have HB := HBd; have HX := HXd; clear HPd HBd HXd
      refine st_ 11 (S := fun w' => True) (ds := []) trivial (fun hHeld => ?_)
      refine with_tabW (T := (true, [([], []), ([0], [0]), ([1], [1]), ([2], [2]), ([2], [2]), ([2], [2]), ([5, 2], [2, 5]), ([4, 6, 2], [2, 4, 6]), ([7, 2], [2, 7]), ([3, 8, 2, 2], [2, 3, 8]), ([2, 9], [2, 9])])) (B := [0, 1, 3, 7, 7, 7, 39, 119, 247, 511, 1023]) (by kernel_rfl) (by kernel_rfl) (fun HT_ HW_ => ?_)
      refine pd_ 0 13 1 HT_ ?_
      refine pd_ 1 14 3 HT_ ?_
      refine pd_ 2 15 7 HT_ ?_
      refine pn_ 3 16 15 HT_ ?_
      refine pn_ 4 17 31 HT_ ?_
      refine pn_ 5 18 63 HT_ ?_
      refine pn_ 6 19 127 HT_ ?_
      refine pn_ 7 20 255 HT_ ?_
      refine pn_ 8 21 511 HT_ ?_
      refine pn_ 9 22 1023 HT_ ?_
      refine pd_ 10 23 2047 HT_ ?_
      refine dn_ HT_ ?_
      have HPUT : Aside0 (putP l p = l.take m ++ ([p] ++ l.drop m)) := ⟨by unfold putP; rw [HM.out]; rfl⟩
      have hml := Aside0.mk hm
      obtain ⟨D, hD⟩ : ∃ D, D = (if c1 = m then A1 else A1.map (·.add (m * 2))) := ⟨_, rfl⟩
      have hcutF : ∀ W : World, (Instr.slice 38 (.slice A1 l.length c1) (some (.int .i64 (m : Int))) none none).run Try.prog W = .ok (.slice D (l.length - m) (c1 - m)) W := by
        intro W
        obtain ⟨i0, hi0, hz0, hzs, hzb⟩ := info_parts infoP
        have := cut_from 38 73 .i64 Try.underlying38 hi0 2 hzs A1 l.length c1 (m : Int) (by omega) (by omega) W
        rw [Int.toNat_natCast, ← hD] at this
        exact this
      have hcutT : ∀ W : World, (Instr.slice 38 (.slice A1 l.length c1) none (some (.int .i64 (m : Int))) none).run Try.prog W = .ok (.slice A1 m c1) W := by
        intro W
        obtain ⟨i0, hi0, hz0, hzs, hzb⟩ := info_parts infoP
        have := cut_to 38 73 .i64 Try.underlying38 hi0 A1 l.length c1 (m : Int) (by omega) (by omega) HC1.out W
        rw [Int.toNat_natCast] at this
        exact this
      have HRD : Aside0 (∀ W, Below w.heap.size w W → Kd.C k73 W D (l.length - m) (l.drop m)) := ⟨fun W hW => by
        have := Kd.C_drop (Kd.C_below HR1.out hW) hm HC1.out
        rw [List.length_drop] at this
        rw [hD]
        exact this⟩
      have HRT : Aside0 (∀ W, Below w.heap.size w W → Kd.C k73 W A1 m (l.take m)) := ⟨fun W hW => by
        have := Kd.C_take (Kd.C_below HR1.out hW) hm
        rw [List.length_take, Nat.min_eq_left hm] at this
        exact this⟩
      clear hD
      go_wp2
      refine st_ 7 (S := fun w' => w'.cell? ⟨w.heap.size + 1, 0, none⟩ = some (.int .i64 p.f0) ∧ w'.cell? ⟨w.heap.size + 1, 1, none⟩ = some (.int .i64 p.f1)) (ds := []) ⟨HP.out.c0, HP.out.c1⟩ (fun hHeld => ?_)
      refine with_tabW (T := (true, [([], []), ([0], [0]), ([], []), ([], []), ([2, 3], [2, 3]), ([1, 4], [1, 4]), ([5, 5, 0, 1, 2, 3, 4, 5], [5])])) (B := [0, 1, 0, 0, 12, 31, 63]) (by kernel_rfl) (by kernel_rfl) (fun HT_ HW_ => ?_)
      refine pd_ 2 28 4 HT_ ?_
      refine pd_ 3 29 12 HT_ ?_
      refine pd_ 4 30 28 HT_ ?_
      refine tk_ 0 26 29 HT_ HW_ hHeld ?_
      refine on_ 1 (some 27) 31 HT_ (fun K hK => ?_)
      (refine value_ (by rfl) rfl (v := .slice (some ⟨wr.drew.heap.size, 0, none⟩) 1 1) (w1 := wr.drew.drew.alloc (.cells #[.int .i64 p.f0, .int .i64 p.f1] 73)) (by go_simp) ?_; have HX1 := Aside0.mk (HX.out.below (below_alloc (Below.refl _ _) (.cells #[.int .i64 p.f0, .int .i64 p.f1] 73))).drew'; have HP1 := Aside0.mk (HP.out.alloc (.cells #[.int .i64 p.f0, .int .i64 p.f1] 73)).drew; have HB1 := Aside0.mk (HB.out.drew.alloc HB.out.drew.size (.cells #[.int .i64 p.f0, .int .i64 p.f1] 73)); have HLT := Aside0.mk HP.out.lt; have HO1 := Aside0.mk (PO.one wr.drew.drew w.heap.size p HB.out.drew.size); clear HX HP HB)
      refine hK.out _ _ ⟨HP1.out.c0, HP1.out.c1⟩ (fun hHeld => ?_)
      clear hK K
      refine nm_ ?_
      refine on_ 5 (some 31) 63 HT_ (fun K hK => ?_)
      (refine apPsR w.heap.size (.tmp 27) (.tmp 30) _ [p] (l.drop m) D (l.length - m) (c1 - m) rfl rfl HO1.out (HRD.out _ HB1.out) HB1.out HB1.out.size (by simp; omega) ?_; intro v1 w5 ho hb hg hat; have HV1 := Aside0.mk ho; have HB5 := Aside0.mk hb; have HX5 := Aside0.mk (cxAt_grown1 (b := wr.drew.drew.heap.size) HX1.out (Nat.lt_of_succ_lt HP1.out.lt) rfl (Nat.ne_of_lt (Nat.lt_of_succ_lt HLT.out)) hg); have HP5 := Aside0.mk (prAt_grown1 (b := wr.drew.drew.heap.size) HP1.out rfl (Nat.ne_of_lt HLT.out) hg); clear ho hb hg hat HX1 HP1 HB1 HO1)
      refine hK.out _ _ ⟨HP5.out.c0, HP5.out.c1⟩ (fun hHeld => ?_)
      clear hK K
      refine nm_ ?_
      refine pd_ 6 9 127 HT_ ?_
      refine dn_ HT_ ?_
      obtain ⟨A7, c7, rfl⟩ := Kd.R_slice HV1.out
      have hd7 : ([p] ++ l.drop m).length = l.length - m + 1 := by simp <;> omega
      have HRV : Aside0 (∀ W, Below w5.heap.size w5 W → Kd.C k73 W A7 (l.length - m + 1) ([p] ++ l.drop m)) := ⟨fun W hW => by
        have := (Kd.R_reads' HV1.out).2.2
        rw [hd7] at this
        exact Kd.C_below this hW⟩
      have HO6 := Aside0.mk (PO.made w5 w5.heap.size 0 #[] (Nat.le_refl _) (Nat.zero_le _) rfl)
      have HB6 : Aside0 (Below w5.heap.size w5 (w5.alloc (.cells #[] 73))) := ⟨below_alloc (Below.refl _ _) _⟩
      rw [hd7]
      go_wp2_with (first
        | (at_builtin; refine apPs w5.heap.size rfl (.tmp 32) (.tmp 35) rfl _ _ (l.take m) A1 m c1 rfl rfl HO6.out (HRT.out _ (below_in HB5.out HB6.out)) HB6.out HB6.out.size (by simp; omega) ?_; intro v8 w8 ho hb hg hat; clear hat hg; have HO8 := Aside0.mk ho; have HB8 := Aside0.mk hb; clear ho hb)
        | (at_builtin; refine apPs w5.heap.size rfl (.tmp 36) (.tmp 37) rfl _ _ ([p] ++ l.drop m) A7 _ _ rfl rfl HO8.out (HRV.out _ HB8.out) HB8.out HB8.out.size (by simp; omega) ?_; intro v9 w9 ho hb hg hat; clear hat hg; rw [List.nil_append, ← HPUT.out] at ho; have HO9 := Aside0.mk ho; have HB9 := Aside0.mk hb; clear ho hb; obtain ⟨A9, c9, rfl⟩ := Kd.R_slice HO9.out; have HX9 := Aside0.mk (HX5.out.below HB9.out); have hx9 := HX9.out.c0; have hy9 := HX9.out.c1)
        | (go_at_call 144; refine (QS.spec_l02Is.calls k n A c xs A9 c9 (putP l p) b _ (Kd.C_below HR.out (below_in HB5.out HB9.out)) HC.out (Kd.R_reads' HO9.out).2.2 (Kd.R_reads' HO9.out).2.1 HK.out).mono ?_; rintro e w10 ⟨rfl, hb⟩; have HB10 := Aside0.mk hb; clear hb))
      go_ret2
      exact ⟨_, rfl, Kd.R_lower (Kd.R_below HO9.out HB10.out) HB5.out.size, below_in HB5.out (below_in HB9.out HB10.out)⟩
    · have hgz : (0 : Int) < (m : Int) := by omega
      have hgn : 0 < m := by omega
      obtain ⟨m', hm'⟩ : ∃ m', m = m' + 1 := ⟨m - 1, by omega⟩
      obtain ⟨ad, rfl, hp0, hp1⟩ := pair_at (Kd.C_below HR1.out HB.out) m' (by omega)
      have hback' := hback.out
      rw [hm', show backP l p (m' + 1) = if cmpP p (l.getD m' z73) < 0 then backP l p m' else m' + 1 from rfl, ← hm'] at hback'
      generalize l.getD m' z73 = q at hp0 hp1 hback'
      have HW : Aside0 (CellsQ wr ad m' q) := ⟨⟨hp0, hp1⟩⟩
      have HBK := Aside0.mk hback'
      clear hp0 hp1 hback hback'
      have hmlt : (m' : Int) < (l.length : Int) := by omega
      have hwm : wrap64 ((m : Int) - 1) = (m' : Int) := by unfold wrap64; omega
      have HM' := Aside0.mk hm'
      clear hm' h0
      go_wp2
      have HPd := Aside0.mk HP.out.drew; have HBd := Aside0.mk HB.out.drew; have HXd := Aside0.mk HX.out.drew'; have HWd : Aside0 (CellsQ wr.drew ad m' q) := ⟨HW.out⟩; clear HP HB HW HX; have HP := HPd; have HB := HBd; have HW := HWd; have HX := HXd; clear HPd HBd HWd HXd
      refine st_ 11 (S := fun w' => w'.cell? ⟨w.heap.size + 1, 0, none⟩ = some (.int .i64 p.f0) ∧ w'.cell? ⟨w.heap.size + 1, 1, none⟩ = some (.int .i64 p.f1) ∧ w'.cell? (ad.add (m' * 2)) = some (.int .i64 q.f0) ∧ w'.cell? ⟨(ad.add (m' * 2)).block, (ad.add (m' * 2)).off + 1, none⟩ = some (.int .i64 q.f1)) (ds := []) ⟨HP.out.c0, HP.out.c1, HW.out.1, HW.out.2⟩ (fun hHeld => ?_)
      refine with_tabW (T := (true, [([], []), ([0], [0]), ([1], [1]), ([2], [2]), ([2], [2]), ([2], [2]), ([5, 2], [2, 5]), ([4, 6, 2], [2, 4, 6]), ([7, 2], [2, 7]), ([3, 8, 2, 2], [2, 3, 8]), ([2, 9], [2, 9])])) (B := [0, 1, 3, 7, 7, 7, 39, 119, 247, 511, 1023]) (by kernel_rfl) (by kernel_rfl) (fun HT_ HW_ => ?_)
      refine pd_ 0 13 1 HT_ ?_
      refine pd_ 1 14 3 HT_ ?_
      refine pd_ 2 15 7 HT_ ?_
      refine pd_ 4 17 23 HT_ ?_
      refine pd_ 5 18 55 HT_ ?_
      refine pd_ 6 19 119 HT_ ?_
      refine pd_ 7 20 247 HT_ ?_
      refine tk_ 3 16 255 HT_ HW_ hHeld ?_
      refine tk_ 8 21 511 HT_ HW_ hHeld ?_
      refine on_ 9 (some 22) 1023 HT_ (fun K hK => ?_)
      refine ca_ Try.func162 #[.agg #[.int .i64 p.f0, .int .i64 p.f1], .agg #[.int .i64 q.f0, .int .i64 q.f1]] ?_
      refine (QS.spec_l02Less.calls _ _ _ _ _ _ (lessS_f p q)).mono ?_; rintro e w1 ⟨rfl, hb⟩; have HP1 := Aside0.mk (HP.out.below hb); have HX1 := Aside0.mk (HX.out.below hb); have HB1 := Aside0.mk (below_in HB.out hb); have HW1 := Aside0.mk (cellsQ_below HW.out hb); clear HP HX HB HW; have HP := HP1; have HX := HX1; have HB := HB1; have HW := HW1; clear HP1 HX1 HB1 HW1; generalize cmpP p q = cp at HBK
      refine ⟨_, rfl, ?_⟩
      refine hK.out _ _ ⟨HP.out.c0, HP.out.c1, HW.out.1, HW.out.2⟩ (fun hHeld => ?_)
      clear hK K
      refine nm_ ?_
      refine pd_ 10 23 2047 HT_ ?_
      refine dn_ HT_ ?_
      by_cases hcp : cp < 0
      · rw [if_pos hcp] at HBK
        go_wp2
        go_roundw
        case measure => have := HM'.out; have hwm2 : wrap64 ((m : Int) - 1) = (m' : Int) := by unfold wrap64; omega
                        simp only [intOf, hwm2]; omega
        case rel => exact ⟨m', by have := HM'.out; omega, by rw [show ((m : Int) - 1) = (m' : Int) by have := HM'.out; omega], HBK, HB, HX, HP⟩
      · have HM : Aside0 (backP l p l.length = m) := by rw [if_neg hcp] at HBK; exact HBK
        clear HBK hwm hmlt hgz HW
        have HPUT : Aside0 (putP l p = l.take m ++ ([p] ++ l.drop m)) := ⟨by unfold putP; rw [HM.out]; rfl⟩
        have hml := Aside0.mk hm
        obtain ⟨D, hD⟩ : ∃ D, D = (if c1 = m then (some ad) else (some ad : Option Addr).map (·.add (m * 2))) := ⟨_, rfl⟩
        have hcutF : ∀ W : World, (Instr.slice 38 (.slice (some ad) l.length c1) (some (.int .i64 (m : Int))) none none).run Try.prog W = .ok (.slice D (l.length - m) (c1 - m)) W := by
          intro W
          obtain ⟨i0, hi0, hz0, hzs, hzb⟩ := info_parts infoP
          have := cut_from 38 73 .i64 Try.underlying38 hi0 2 hzs (some ad) l.length c1 (m : Int) (by omega) (by omega) W
          rw [Int.toNat_natCast, ← hD] at this
          exact this
        have hcutT : ∀ W : World, (Instr.slice 38 (.slice (some ad) l.length c1) none (some (.int .i64 (m : Int))) none).run Try.prog W = .ok (.slice (some ad) m c1) W := by
          intro W
          obtain ⟨i0, hi0, hz0, hzs, hzb⟩ := info_parts infoP
          have := cut_to 38 73 .i64 Try.underlying38 hi0 (some ad) l.length c1 (m : Int) (by omega) (by omega) HC1.out W
          rw [Int.toNat_natCast] at this
          exact this
        have HRD : Aside0 (∀ W, Below w.heap.size w W → Kd.C k73 W D (l.length - m) (l.drop m)) := ⟨fun W hW => by
          have := Kd.C_drop (Kd.C_below HR1.out hW) hm HC1.out
          rw [List.length_drop] at this
          rw [hD]
          exact this⟩
        have HRT : Aside0 (∀ W, Below w.heap.size w W → Kd.C k73 W (some ad) m (l.take m)) := ⟨fun W hW => by
          have := Kd.C_take (Kd.C_below HR1.out hW) hm
          rw [List.length_take, Nat.min_eq_left hm] at this
          exact this⟩
        clear hD
        go_wp2
        refine st_ 7 (S := fun w' => w'.cell? ⟨w.heap.size + 1, 0, none⟩ = some (.int .i64 p.f0) ∧ w'.cell? ⟨w.heap.size + 1, 1, none⟩ = some (.int .i64 p.f1)) (ds := []) ⟨HP.out.c0, HP.out.c1⟩ (fun hHeld => ?_)
        refine with_tabW (T := (true, [([], []), ([0], [0]), ([], []), ([], []), ([2, 3], [2, 3]), ([1, 4], [1, 4]), ([5, 5, 0, 1, 2, 3, 4, 5], [5])])) (B := [0, 1, 0, 0, 12, 31, 63]) (by kernel_rfl) (by kernel_rfl) (fun HT_ HW_ => ?_)
        refine pd_ 2 28 4 HT_ ?_
        refine pd_ 3 29 12 HT_ ?_
        refine pd_ 4 30 28 HT_ ?_
        refine tk_ 0 26 29 HT_ HW_ hHeld ?_
        refine on_ 1 (some 27) 31 HT_ (fun K hK => ?_)
        (refine value_ (by rfl) rfl (v := .slice (some ⟨w1.heap.size, 0, none⟩) 1 1) (w1 := w1.drew.alloc (.cells #[.int .i64 p.f0, .int .i64 p.f1] 73)) (by go_simp) ?_; have HX1 := Aside0.mk (HX.out.below (below_alloc (Below.refl _ _) (.cells #[.int .i64 p.f0, .int .i64 p.f1] 73))).drew'; have HP1 := Aside0.mk (HP.out.alloc (.cells #[.int .i64 p.f0, .int .i64 p.f1] 73)).drew; have HB1 := Aside0.mk (HB.out.drew.alloc HB.out.drew.size (.cells #[.int .i64 p.f0, .int .i64 p.f1] 73)); have HLT := Aside0.mk HP.out.lt; have HO1 := Aside0.mk (PO.one w1.drew w.heap.size p HB.out.drew.size); clear HX HP HB)
        refine hK.out _ _ ⟨HP1.out.c0, HP1.out.c1⟩ (fun hHeld => ?_)
        clear hK K
        refine nm_ ?_
        refine on_ 5 (some 31) 63 HT_ (fun K hK => ?_)
        (refine apPsR w.heap.size (.tmp 27) (.tmp 30) _ [p] (l.drop m) D (l.length - m) (c1 - m) rfl rfl HO1.out (HRD.out _ HB1.out) HB1.out HB1.out.size (by simp; omega) ?_; intro v1 w5 ho hb hg hat; have HV1 := Aside0.mk ho; have HB5 := Aside0.mk hb; have HX5 := Aside0.mk (cxAt_grown1 (b := w1.drew.heap.size) HX1.out (Nat.lt_of_succ_lt HP1.out.lt) rfl (Nat.ne_of_lt (Nat.lt_of_succ_lt HLT.out)) hg); have HP5 := Aside0.mk (prAt_grown1 (b := w1.drew.heap.size) HP1.out rfl (Nat.ne_of_lt HLT.out) hg); clear ho hb hg hat HX1 HP1 HB1 HO1)
        refine hK.out _ _ ⟨HP5.out.c0, HP5.out.c1⟩ (fun hHeld => ?_)
        clear hK K
        refine nm_ ?_
        refine pd_ 6 9 127 HT_ ?_
        refine dn_ HT_ ?_
        obtain ⟨A7, c7, rfl⟩ := Kd.R_slice HV1.out
        have hd7 : ([p] ++ l.drop m).length = l.length - m + 1 := by simp <;> omega
        have HRV : Aside0 (∀ W, Below w5.heap.size w5 W → Kd.C k73 W A7 (l.length - m + 1) ([p] ++ l.drop m)) := ⟨fun W hW => by
          have := (Kd.R_reads' HV1.out).2.2
          rw [hd7] at this
          exact Kd.C_below this hW⟩
        have HO6 := Aside0.mk (PO.made w5 w5.heap.size 0 #[] (Nat.le_refl _) (Nat.zero_le _) rfl)
        have HB6 : Aside0 (Below w5.heap.size w5 (w5.alloc (.cells #[] 73))) := ⟨below_alloc (Below.refl _ _) _⟩
        rw [hd7]
        go_wp2_with (first
          | (at_builtin; refine apPs w5.heap.size rfl (.tmp 32) (.tmp 35) rfl _ _ (l.take m) (some ad) m c1 rfl rfl HO6.out (HRT.out _ (below_in HB5.out HB6.out)) HB6.out HB6.out.size (by simp; omega) ?_; intro v8 w8 ho hb hg hat; clear hat hg; have HO8 := Aside0.mk ho; have HB8 := Aside0.mk hb; clear ho hb)
          | (at_builtin; refine apPs w5.heap.size rfl (.tmp 36) (.tmp 37) rfl _ _ ([p] ++ l.drop m) A7 _ _ rfl rfl HO8.out (HRV.out _ HB8.out) HB8.out HB8.out.size (by simp; omega) ?_; intro v9 w9 ho hb hg hat; clear hat hg; rw [List.nil_append, ← HPUT.out] at ho; have HO9 := Aside0.mk ho; have HB9 := Aside0.mk hb; clear ho hb; obtain ⟨A9, c9, rfl⟩ := Kd.R_slice HO9.out; have HX9 := Aside0.mk (HX5.out.below HB9.out); have hx9 := HX9.out.c0; have hy9 := HX9.out.c1)
          | (go_at_call 144; refine (QS.spec_l02Is.calls k n A c xs A9 c9 (putP l p) b _ (Kd.C_below HR.out (below_in HB5.out HB9.out)) HC.out (Kd.R_reads' HO9.out).2.2 (Kd.R_reads' HO9.out).2.1 HK.out).mono ?_; rintro e w10 ⟨rfl, hb⟩; have HB10 := Aside0.mk hb; clear hb))
        go_ret2
        exact ⟨_, rfl, Kd.R_lower (Kd.R_below HO9.out HB10.out) HB5.out.size, below_in HB5.out (below_in HB9.out HB10.out)⟩
end Go.Proofs.Ytomdfjohnmikdaa.Im
namespace Go.Proofs.Ytomdfjohnmikdaa.QS
set_option linter.unusedVariables false
set_option linter.unusedSimpArgs false
open Go.RowKit Go.Proofs.Ytomdfjohnmikdaa.Kp Go.Proofs.Ytomdfjohnmikdaa.Ext Go.Proofs.YtomdfjohnmikdaaW.PrintWords Go.Proofs.YtomdfjohnmikdaaW.PrintLast Go.Proofs.YtomdfjohnmikdaaW.PrintMore
def spec_l02With.f (k : Nat) (a0_0 : Int) (l0_1 : List Int) (l1 : List (S73)) (a2_0 : Int) (a2_1 : Int) : Option ((List (S73)) × Bool) :=
  if l1.length ≤ 1000000 then (spec_l02Is.f k a0_0 l0_1 (Im.putP l1 ⟨a2_0, a2_1⟩)).bind fun b => some (Im.putP l1 ⟨a2_0, a2_1⟩, b) else none
theorem spec_l02With.calls (k : Nat) (a0_0 : Int) (A0_1 : Option Addr) (c0_1 : Nat) (l0_1 : List Int) (A1 : Option Addr) (c1 : Nat) (l1 : List (S73)) (a2_0 : Int) (a2_1 : Int) (r1 : List (S73)) (r2 : Bool) (w : World) (hr0_1 : Kd.C (Kd.int .i64) w A0_1 l0_1.length l0_1) (hc0_1 : l0_1.length ≤ c0_1) (hr1 : Kd.C k73 w A1 l1.length l1) (hc1 : l1.length ≤ c1) (h : spec_l02With.f k a0_0 l0_1 l1 a2_0 a2_1 = some (r1, r2)) :
    Calls Try.prog 111 #[.agg #[.int .i64 a0_0, .slice A0_1 l0_1.length c0_1], .slice A1 l1.length c1, .agg #[.int .i64 a2_0, .int .i64 a2_1]] w fun e w' => ∃ v0_ : Value, e = .returned (.tuple #[v0_, .bool r2]) ∧ Kd.R k73 73 w' w.heap.size (fun _ => True) v0_ r1 ∧ Below w.heap.size w w' := by
  unfold spec_l02With.f at h
  by_cases hl : l1.length ≤ 1000000
  · rw [if_pos hl] at h
    obtain ⟨b, hk, hb⟩ := Option.bind_eq_some_iff.1 h
    obtain ⟨h1, h2⟩ := Prod.mk.inj (Option.some.inj hb)
    subst h1
    subst h2
    exact Im.with2_c k a0_0 A0_1 c0_1 l0_1 A1 c1 l1 ⟨a2_0, a2_1⟩ b w hr0_1 hc0_1 hr1 hc1 hl hk
  · rw [if_neg hl] at h; cases h
end Go.Proofs.Ytomdfjohnmikdaa.QS
namespace Go.Proofs.Ytomdfjohnmikdaa.QS
open Go.Proofs.Ytomdfjohnmikdaa.Cw Go.Proofs.Ytomdfjohnmikdaa.Kp Go.Proofs.Ytomdfjohnmikdaa.Ext Go.RowKit Go.Proofs.YtomdfjohnmikdaaW.PrintWords Go.Proofs.YtomdfjohnmikdaaW.PrintLast Go.Proofs.YtomdfjohnmikdaaW.PrintMore
attribute [local go_sem] max2_int min2_int max_two min_two max_three min_three max_four min_four   -- for this text's walks alone
set_option linter.unusedVariables false
set_option linter.unusedSimpArgs false
mutual
def spec_l02All.l0 : Nat → List (S73) → Int → Int → List Int → Option ((List (S73)))
 | 0, _, _, _, _ => none
 | k + 1, x3, x4, x363000, x363001 => if x4 < (x363001.length : Int) then (if 0 ≤ x4 then ((spec_l01Above.f k x363000 x363001 (rd x363001 x4)).bind fun t367 => (spec_l02All.l1 k x3 x4 t367 0 x363000 x363001)) else (none)) else (some x3)
def spec_l02All.l1 : Nat → List (S73) → Int → List Int → Int → Int → List Int → Option ((List (S73)))
 | 0, _, _, _, _, _, _ => none
 | k + 1, x3, x4, x5, x6, x363000, x363001 => if x6 < (x5.length : Int) then (if 0 ≤ x4 then (if x4 < (x363001.length : Int) then (if 0 ≤ x6 then ((spec_l02With.f k x363000 x363001 x3 (rd x363001 x4) (rd x5 x6)).bind fun bt372 => (spec_l02All.l1 k bt372.1 x4 x5 (wrap64 (x6 + 1)) x363000 x363001)) else (none)) else (none)) else (none)) else (spec_l02All.l0 k x3 (wrap64 (x4 + 1)) x363000 x363001)
end
def spec_l02All.f (k : Nat) (a0_0 : Int) (l0_1 : List Int) : Option ((List (S73))) := spec_l02All.l0 k (([] : List (S73))) 0 a0_0 l0_1
def spec_l02All.T5 : Bool × List (List Nat × List Nat) := (true, [([], []), ([], []), ([1], [1]), ([], []), ([2, 3], [2, 3]), ([4], [4]), ([0, 5], [0, 5]), ([6, 6, 0, 1, 2, 3, 4, 5, 6], [6])])
def spec_l02All.B5 : List Nat := [0, 0, 2, 0, 14, 30, 63, 127]
theorem spec_l02All.tab5 : rtab .any (opsOf Try.f110 5) = spec_l02All.T5 := by kernel_rfl
theorem spec_l02All.bits5 : waitsOk spec_l02All.T5.2 spec_l02All.B5 = true := by kernel_rfl
def spec_l02All.T9 : Bool × List (List Nat × List Nat) := (true, [([], []), ([], []), ([], []), ([2], [2]), ([], []), ([3, 4], [3, 4]), ([5], [5]), ([], []), ([], []), ([7, 8], [7, 8]), ([9], [9]), ([6, 10], [6, 10]), ([0, 1, 11], [0, 1, 11]), ([12], [12]), ([13], [13]), ([13], [13]), ([14, 12, 0, 1, 2, 3, 4, 5, 6, 7, 8, 9, 10, 11, 12, 13, 14], [1, 14])])
def spec_l02All.B9 : List Nat := [0, 0, 0, 4, 0, 28, 60, 0, 0, 384, 896, 2044, 4095, 8191, 16383, 16383, 32767]
theorem spec_l02All.tab9 : rtab .any (opsOf Try.f110 9) = spec_l02All.T9 := by kernel_rfl
theorem spec_l02All.bits9 : waitsOk spec_l02All.T9.2 spec_l02All.B9 = true := by kernel_rfl
set_option maxHeartbeats 8000000 in
set_option maxRecDepth 100000 in
theorem spec_l02All.calls (k : Nat) (a0_0 : Int) (A0_1 : Option Addr) (c0_1 : Nat) (l0_1 : List Int) (r : List (S73)) (w : World) (hr0_1 : Kd.C (Kd.int .i64) w A0_1 l0_1.length l0_1) (hc0_1 : l0_1.length ≤ c0_1) (h : spec_l02All.f k a0_0 l0_1 = some r) :
  Calls Try.prog 110 #[.agg #[.int .i64 a0_0, .slice A0_1 l0_1.length c0_1]] w fun e w' => ∃ v0_ : Value, e = .returned (v0_) ∧ Kd.R k73 73 w' w.heap.size (fun _ => True) v0_ r ∧ Below w.heap.size w w' := by
 have hu28 := Try.underlying28
 have hu73 := Try.underlying73
 have HR0_1 := Aside0.mk hr0_1
 have HC0_1 := Aside0.mk hc0_1
 clear hr0_1 hc0_1
 have HB := Aside0.mk (Below.refl w.heap.size w)
 have H : (spec_l02All.l0 k (([] : List (S73))) 0 a0_0 l0_1) = some r := h
 clear h
 obtain ⟨y363, hy363⟩ : ∃ y_ : List (S73), y_ = (([] : List (S73))) := ⟨_, rfl⟩
 replace H : (spec_l02All.l0 k y363 0 a0_0 l0_1) = some r := by first | (rw [hy363]; with_reducible exact H) | (have H2_ := (Option.bind_some _ _).symm.trans H; rw [hy363]; with_reducible exact H2_) | (have H2_ := (Option.bind_some _ _).symm.trans H; with_reducible exact H2_) | with_reducible exact H | (rw [hy363]; exact H) | exact H
 have Ny363 := Aside0.mk hy363
 clear hy363
 have H' := Aside0.mk H
 clear H
 go_enter Try.func110, Try.ntmps110
 go_wp2_with (first | ((with_reducible refine gate_dst (N := 1) rfl ?_); refine box_event ?hg (N := 1) ?hd (cs := #[.int .i64 a0_0, .slice A0_1 l0_1.length c0_1]) (t := 28) ?hr ?_; (case hd => rfl); (case hg => rfl); (case hr => first | (go_simp; done) | (go_simp; rfl)); intro gb362 hg w2 hbox hb; have BK362 := Aside0.mk (hbox); have GW362 := gH HB hg; have GE362 := gH HB hg; replace HB := sH HB hb; clear hb hbox hg) | ((with_reducible refine gate_dst (N := 7) rfl ?_); refine Kd.R_lit k73 _ 73 ?hg (N := 7) ?hd (xs := ([] : List (S73))) (inner := []) (ok := fun _ => True) (okp := fun _ => True) ?hr ?hp (fun _ hk => hk) trivial (Below.refl _ _) (Nat.le_refl _) (by simp) ?_; (case hd => rfl); (case hg => rfl); (case hr => first | (go_simp; done) | (go_simp; rfl)); (case hp => exact (Reps.none _ _)); intro v364 w3 ho4 hb hg_ hnew_; clear hg_ hnew_; (first | rw [← Ny363.out] at ho4 | (simp only [Int.reduceToNat] at ho4; rw [← Ny363.out] at ho4)); have HO365 := Aside0.mk (Kd.R_lower ho4 (below_size (pH HB))); replace BK362 := sB BK362 hb; replace HB := sH HB hb; clear hb ho4))
 go_loopg [3, 4] k (fun kq v3 v4 w' => ∃ (x3_1 : List (S73)) (x4_1 : Int), v4 = .int .i64 x4_1 ∧ Aside0 (spec_l02All.l0 kq x3_1 x4_1 a0_0 l0_1 = some r) ∧ Aside0 (kq ≤ k) ∧ Aside0 (Kd.R k73 73 w' w.heap.size (fun _ => True) v3 x3_1) ∧ Aside0 (w'.heap[gb362]? = some (.cells #[.int .i64 a0_0, (.slice A0_1 l0_1.length c0_1)] 28 (0, 0))) ∧ Aside0 (Below w.heap.size w w'))
 case atStart => exact ⟨(y363), (0), (by first | rfl | (simp; done) | (simp [*]; done)), H', ⟨Nat.le_refl _⟩, ⟨by (with_reducible repeat (first | apply Kd.R_alloc | apply Kd.R_drewN | apply Kd.R_drew)); exact HO365.out⟩, ⟨pB BK362⟩, ⟨pH HB⟩⟩
 case round =>
  clear H'
  try clear c1
  try clear p2
  obtain ⟨x3_1, x4_1, rfl, HA, HK1, HO_3, BK362, HB⟩ := hrel
  cases gk with
  | zero => exact absurd HA.out (by simp [spec_l02All.l0])
  | succ k1 =>
   have H := HA.out
   clear HA
   simp only [spec_l02All.l0] at H
   by_cases c5 : x4_1 < (l0_1.length : Int)
   ·rw [if_pos c5] at H
    have c5b0 : decide (x4_1 < (l0_1.length : Int)) = true := decide_eq_true c5
    clear c5
    by_cases c6 : 0 ≤ x4_1
    ·rw [if_pos c6] at H
     have c6b0 : decide (0 ≤ x4_1) = true := decide_eq_true c6
     clear c6
     replace H := Option.bind_eq_some_iff.mp H
     obtain ⟨t367, A70, H⟩ := H
     try dsimp only at H
     have A7 := Aside0.mk A70
     clear A70
     have H' := Aside0.mk H
     clear H
     have hcz8_0 : wr.cell? ⟨gb362, 0, none⟩ = some (.int .i64 a0_0) := cB BK362 0
     have hcz8_1 : wr.cell? ⟨gb362, 1, none⟩ = some (.slice A0_1 l0_1.length c0_1) := cB BK362 1
     have hfz8_0 := zB BK362 0
     have hfz8_1 := zB BK362 1
     try go_wp2
     replace HO_3 := Aside0.mk (Kd.R_drew HO_3.out)
     replace BK362 := dB BK362
     replace HB := dH HB
     have p366 : 0 ≤ (x4_1 : Int) := of_decide_eq_true (by first | (with_reducible assumption) | assumption)
     have q366 : x4_1 < (l0_1.length : Int) := of_decide_eq_true (by first | (with_reducible assumption) | assumption)
     obtain ⟨ad366, e366, hx366_0⟩ := Kd.at_int HR0_1.out x4_1 p366 q366
     have hw366_0 := hx366_0
     cases e366
     replace hx366_0 := cH HB hx366_0
     replace p366 := eq_true p366
     replace q366 := eq_true q366
     refine st_ 8 (S := fun w' => w'.cell? ⟨gb362, 0, none⟩ = some (.int .i64 a0_0) ∧ w'.cell? ⟨gb362, 1, none⟩ = some (.slice (some ad366) l0_1.length c0_1) ∧ w'.cell? (ad366.add (x4_1).toNat) = some (.int .i64 (rd l0_1 x4_1))) (ds := []) ⟨cB BK362 0, cB BK362 1, (cH HB hw366_0 :)⟩ (fun hHeld => ?_); refine with_tabW spec_l02All.tab5 spec_l02All.bits5 (fun HT_ HW_ => ?_)
     generalize wr.drew = w9 at HO_3 BK362 HB hx366_0 hHeld ⊢
     refine pu_ 1 16 2 HT_ ?_
     refine pu_ 3 18 10 HT_ ?_
     refine tk_ 0 15 11 HT_ HW_ hHeld ?_
     refine tk_ 2 17 15 HT_ HW_ hHeld ?_
     refine pu_ 4 19 31 HT_ ?_
     refine tk_ 5 20 63 HT_ HW_ hHeld ?_
     refine on_ 6 (some 21) 127 HT_ (fun K hK => ?_)
     refine ca_ Try.func130 #[.agg #[.int .i64 a0_0, .slice (some ad366) l0_1.length c0_1], .int .i64 (rd l0_1 x4_1)] ?_
     with_reducible refine (spec_l01Above.calls k1 a0_0 _ _ l0_1 (rd l0_1 x4_1) t367 _ ?side1 ?side2 A7.out).mono ?_
     (case side1 => exact pC ((Kd.C_below HR0_1.out HB.out)))
     (case side2 => exact HC0_1.out)
     rintro e w10 ⟨v368, rfl, ho0, hb⟩
     refine ⟨_, rfl, ?_⟩
     replace HO_3 := sR HO_3 hb
     have HO369 := Aside0.mk (Kd.R_lower ho0 (below_size (pH HB)))
     replace BK362 := sB BK362 hb
     replace HB := sH HB hb
     (try clear hb)
     (try clear hb2)
     (try clear hk)
     (try clear hi)
     (try clear ho0)
     refine hK.out _ _ ⟨cB BK362 0, cB BK362 1, (cH HB hw366_0 :)⟩ (fun hHeld => ?_)
     clear hK K
     refine nm_ ?_
     refine pu_ 7 5 255 HT_ ?_
     refine dn_ HT_ ?_
     try go_wp2
     go_loopg [3, 6] k1 (fun kq v3 v6 w' => ∃ (x3_2 : List (S73)) (x6_2 : Int), v6 = .int .i64 x6_2 ∧ Aside0 (spec_l02All.l1 kq x3_2 x4_1 t367 x6_2 a0_0 l0_1 = some r) ∧ Aside0 (kq ≤ k1) ∧ Aside0 (Kd.R k73 73 w' w.heap.size (fun _ => True) v3 x3_2) ∧ Aside0 (Kd.R (Kd.int .i64) 2 w' w.heap.size (fun _ => True) v368 t367) ∧ Aside0 (w'.heap[gb362]? = some (.cells #[.int .i64 a0_0, (.slice (some ad366) l0_1.length c0_1)] 28 (0, 0))) ∧ Aside0 (Below w.heap.size w w'))
     case atStart => exact ⟨(x3_1), (0), (by first | rfl | (simp; done) | (simp [*]; done)), H', ⟨Nat.le_refl _⟩, ⟨by (with_reducible repeat (first | apply Kd.R_alloc | apply Kd.R_drewN | apply Kd.R_drew)); exact HO_3.out⟩, ⟨by (with_reducible repeat (first | apply Kd.R_alloc | apply Kd.R_drewN | apply Kd.R_drew)); exact HO369.out⟩, ⟨pB BK362⟩, ⟨pH HB⟩⟩
     case round =>
      clear H'
      try clear c1
      try clear p2
      try clear p3
      try clear q3
      try clear hx3
      try clear c5
      try clear c5b0
      try clear c6
      try clear c6b0
      try clear hcz8_0
      try clear hcz8_1
      try clear hfz8_0
      try clear hfz8_1
      try clear hx366_0
      try clear p2
      try clear p366
      try clear q366
      obtain ⟨x3_2, x6_2, rfl, HA, HK2, HO_3, HO_5, BK362, HB⟩ := hrel
      cases gk with
      | zero => exact absurd HA.out (by simp [spec_l02All.l1])
      | succ k2 =>
       have H := HA.out
       clear HA
       simp only [spec_l02All.l1] at H
       by_cases c11 : x6_2 < (t367.length : Int)
       ·rw [if_pos c11] at H
        have c11b0 : decide (x6_2 < (t367.length : Int)) = true := decide_eq_true c11
        clear c11
        by_cases c12 : 0 ≤ x4_1
        ·rw [if_pos c12] at H
         have c12b0 : decide (0 ≤ x4_1) = true := decide_eq_true c12
         clear c12
         by_cases c13 : x4_1 < (l0_1.length : Int)
         ·rw [if_pos c13] at H
          have c13b0 : decide (x4_1 < (l0_1.length : Int)) = true := decide_eq_true c13
          clear c13
          by_cases c14 : 0 ≤ x6_2
          ·rw [if_pos c14] at H
           have c14b0 : decide (0 ≤ x6_2) = true := decide_eq_true c14
           clear c14
           replace H := Option.bind_eq_some_iff.mp H
           obtain ⟨⟨t372, t375⟩, A150, H⟩ := H
           try dsimp only at H
           have A15 := Aside0.mk A150
           clear A150
           have H' := Aside0.mk H
           clear H
           obtain ⟨Ao16, co16, eo16⟩ := Kd.R_slice HO_5.out
           subst eo16
           try go_wp2
           replace HO_3 := Aside0.mk (Kd.R_drew HO_3.out)
           replace HO_5 := Aside0.mk (Kd.R_drew HO_5.out)
           replace BK362 := dB BK362
           replace HB := dH HB
           have p370 : 0 ≤ (x4_1 : Int) := of_decide_eq_true (by first | (with_reducible assumption) | assumption)
           have q370 : x4_1 < (l0_1.length : Int) := of_decide_eq_true (by first | (with_reducible assumption) | assumption)
           obtain ⟨ad370, e370, hx370_0⟩ := Kd.at_int HR0_1.out x4_1 p370 q370
           have hw370_0 := hx370_0
           obtain rfl : ad366 = ad370 := (by injection e370)
           replace hx370_0 := cH HB hx370_0
           replace p370 := eq_true p370
           replace q370 := eq_true q370
           have p371 : 0 ≤ (x6_2 : Int) := of_decide_eq_true (by first | (with_reducible assumption) | assumption)
           have q371 : x6_2 < (t367.length : Int) := of_decide_eq_true (by first | (with_reducible assumption) | assumption)
           obtain ⟨ad371, e371, hx371_0⟩ := Kd.at_int (Kd.R_reads' HO_5.out).2.2 x6_2 p371 q371
           cases e371
           replace p371 := eq_true p371
           replace q371 := eq_true q371
           obtain ⟨Ao18, co18, eo18⟩ := Kd.R_slice HO_3.out
           (first | subst eo18 | (injection eo18 with f1_ f2_ f3_; have f4_ := f1_.symm; have f5_ := f3_.symm; clear f1_ f2_ f3_; subst f4_; subst f5_))
           refine st_ 17 (S := fun w' => w'.cell? ⟨gb362, 0, none⟩ = some (.int .i64 a0_0) ∧ w'.cell? ⟨gb362, 1, none⟩ = some (.slice (some ad366) l0_1.length c0_1) ∧ w'.cell? (ad366.add (x4_1).toNat) = some (.int .i64 (rd l0_1 x4_1)) ∧ w'.cell? (ad371.add (x6_2).toNat) = some (.int .i64 (rd t367 x6_2))) (ds := []) ⟨cB BK362 0, cB BK362 1, (cH HB hw370_0 :), hx371_0⟩ (fun hHeld => ?_); refine with_tabW spec_l02All.tab9 spec_l02All.bits9 (fun HT_ HW_ => ?_)
           generalize wr.drew = w17 at HO_3 HO_5 BK362 HB hx370_0 hx371_0 hHeld ⊢
           refine pu_ 1 30 2 HT_ ?_
           refine pu_ 2 31 6 HT_ ?_
           refine pu_ 4 33 22 HT_ ?_
           refine pu_ 7 36 150 HT_ ?_
           refine pu_ 8 37 406 HT_ ?_
           refine pu_ 9 38 918 HT_ ?_
           refine tk_ 0 29 919 HT_ HW_ hHeld ?_
           refine tk_ 3 32 927 HT_ HW_ hHeld ?_
           refine pu_ 5 34 959 HT_ ?_
           refine tk_ 6 35 1023 HT_ HW_ hHeld ?_
           refine tk_ 10 39 2047 HT_ HW_ hHeld ?_
           refine pu_ 11 40 4095 HT_ ?_
           refine on_ 12 (some 41) 8191 HT_ (fun K hK => ?_)
           refine ca_ Try.func111 #[.agg #[.int .i64 a0_0, .slice (some ad366) l0_1.length c0_1], .slice Ao18 x3_2.length co18, .agg #[.int .i64 (rd l0_1 x4_1), .int .i64 (rd t367 x6_2)]] ?_
           with_reducible refine (spec_l02With.calls k2 a0_0 _ _ l0_1 _ _ x3_2 (rd l0_1 x4_1) (rd t367 x6_2) t372 t375 _ ?side1 ?side2 ?side3 ?side4 A15.out).mono ?_
           (case side1 => exact pC ((Kd.C_below HR0_1.out HB.out)))
           (case side2 => exact HC0_1.out)
           (case side3 => exact pC ((Kd.R_reads' HO_3.out).2.2))
           (case side4 => exact (Kd.R_reads' HO_3.out).2.1)
           rintro e w19 ⟨v373, rfl, ho0, hb⟩
           have HS3_ := (hb.cell (World.block_lt_of_cell? _ _ (hHeld.2.2.2))).trans (hHeld.2.2.2)
           refine ⟨_, rfl, ?_⟩
           replace HO_5 := sR HO_5 hb
           have HO374 := Aside0.mk (Kd.R_lower (Kd.R_new' ho0 (Kd.R_lt (pR HO_3))) (below_size (pH HB)))
           replace HO_3 := Aside0.mk (Kd.R_elder' (pR HO_3) (Kd.R_base ho0) hb)
           replace BK362 := sB BK362 hb
           replace HB := sH HB hb
           (try clear hb)
           (try clear hb2)
           (try clear hk)
           (try clear hi)
           (try clear ho0)
           refine hK.out _ _ ⟨cB BK362 0, cB BK362 1, (cH HB hw370_0 :), HS3_⟩ (fun hHeld => ?_)
           clear hK K
           refine nm_ ?_
           refine pu_ 13 28 16383 HT_ ?_
           refine pu_ 14 42 32767 HT_ ?_
           refine pu_ 15 43 65535 HT_ ?_
           refine pu_ 16 3 131071 HT_ ?_
           refine dn_ HT_ ?_
           try go_wp2
           go_roundg k2
           case measure => have := HK1.out; have := HK2.out; omega
           case rel => exact ⟨(t372), (wrap64 (x6_2 + 1)), (by first | rfl | (simp; done) | (simp [*]; done)), H', ⟨by have := HK1.out; have := HK2.out; omega⟩, ⟨by (with_reducible repeat (first | apply Kd.R_alloc | apply Kd.R_drewN | apply Kd.R_drew)); exact Kd.R_mono HO374.out (fun _ hk => trivial)⟩, ⟨by (with_reducible repeat (first | apply Kd.R_alloc | apply Kd.R_drewN | apply Kd.R_drew)); exact HO_5.out⟩, ⟨pB BK362⟩, ⟨pH HB⟩⟩
          ·rw [if_neg c14] at H
           exact absurd H (by simp)
         ·rw [if_neg c13] at H
          exact absurd H (by simp)
        ·rw [if_neg c12] at H
         exact absurd H (by simp)
       ·rw [if_neg c11] at H
        have c11b0 : decide (x6_2 < (t367.length : Int)) = false := decide_eq_false c11
        clear c11
        have H' := Aside0.mk H
        clear H
        obtain ⟨Ao20, co20, eo20⟩ := Kd.R_slice HO_5.out
        subst eo20
        go_wp2
        go_roundg k2
        case measure => have := HK1.out; have := HK2.out; omega
        case rel => exact ⟨(x3_2), (wrap64 (x4_1 + 1)), (by first | rfl | (simp; done) | (simp [*]; done)), H', ⟨by have := HK1.out; have := HK2.out; omega⟩, ⟨by (with_reducible repeat (first | apply Kd.R_alloc | apply Kd.R_drewN | apply Kd.R_drew)); exact HO_3.out⟩, ⟨pB BK362⟩, ⟨pH HB⟩⟩
    ·rw [if_neg c6] at H
     exact absurd H (by simp)
   ·rw [if_neg c5] at H
    have c5b0 : decide (x4_1 < (l0_1.length : Int)) = false := decide_eq_false c5
    clear c5
    obtain rfl := Option.some.inj H
    have hcz21_0 : wr.cell? ⟨gb362, 0, none⟩ = some (.int .i64 a0_0) := cB BK362 0
    have hcz21_1 : wr.cell? ⟨gb362, 1, none⟩ = some (.slice A0_1 l0_1.length c0_1) := cB BK362 1
    have hfz21_0 := zB BK362 0
    have hfz21_1 := zB BK362 1
    go_wp2
    go_ret
    exact ⟨_, by first | rfl | (simp [errW_none, errW_some] <;> rfl) | (simp [*, errW_none, errW_some] <;> rfl) | (exfalso; simp_all), by (with_reducible repeat (first | apply Kd.R_alloc | apply Kd.R_drewN | apply Kd.R_drew)); exact HO_3.out, pH HB⟩
end Go.Proofs.Ytomdfjohnmikdaa.QS
namespace Go.Proofs.Ytomdfjohnmikdaa.QS
open Go.Proofs.Ytomdfjohnmikdaa.Cw Go.Proofs.Ytomdfjohnmikdaa.Kp Go.Proofs.Ytomdfjohnmikdaa.Ext Go.RowKit Go.Proofs.YtomdfjohnmikdaaW.PrintWords Go.Proofs.YtomdfjohnmikdaaW.PrintLast Go.Proofs.YtomdfjohnmikdaaW.PrintMore
attribute [local go_sem] max2_int min2_int max_two min_two max_three min_three max_four min_four   -- for this text's walks alone
set_option linter.unusedVariables false
set_option linter.unusedSimpArgs false
def spec_l02Fill.l0 : Nat → List (S73) → List (S73) → Int → Int → List Int → Option ((List (S73)))
 | 0, _, _, _, _, _ => none
 | k + 1, x1, x5, x6, x377000, x377001 => if x6 < (x5.length : Int) then (if 0 ≤ x6 then ((spec_l02With.f k x377000 x377001 x1 ((rd_T73 x5 x6).f0) ((rd_T73 x5 x6).f1)).bind fun bt381 => (if bt381.2 = true then ((spec_l02Acyclic.f k bt381.1).bind fun t385 => (if t385 = true then (spec_l02Fill.l0 k bt381.1 x5 (wrap64 (x6 + 1)) x377000 x377001) else (spec_l02Fill.l0 k x1 x5 (wrap64 (x6 + 1)) x377000 x377001))) else (spec_l02Fill.l0 k x1 x5 (wrap64 (x6 + 1)) x377000 x377001))) else (none)) else (some x1)
def spec_l02Fill.f (k : Nat) (a0_0 : Int) (l0_1 : List Int) (l1 : List (S73)) : Option ((List (S73))) := (spec_l02All.f k a0_0 l0_1).bind fun t377 => (spec_l02Fill.l0 k l1 t377 0 a0_0 l0_1)
def spec_l02Fill.T5 : Bool × List (List Nat × List Nat) := (true, [([], []), ([], []), ([], []), ([], []), ([2, 3], [2, 3]), ([4], [4]), ([0, 1, 5], [0, 1, 5]), ([6], [6]), ([7], [7]), ([7], [7]), ([8, 6, 0, 1, 2, 3, 4, 5, 6, 7, 8], [8]), ([9, 10, 0, 1, 2, 3, 4, 5, 6, 7, 8, 9, 10], [9])])
def spec_l02Fill.B5 : List Nat := [0, 0, 0, 0, 12, 28, 63, 127, 255, 255, 511, 2047]
theorem spec_l02Fill.tab5 : rtab .any (opsOf Try.f63 5) = spec_l02Fill.T5 := by kernel_rfl
theorem spec_l02Fill.bits5 : waitsOk spec_l02Fill.T5.2 spec_l02Fill.B5 = true := by kernel_rfl
set_option maxHeartbeats 8000000 in
set_option maxRecDepth 100000 in
theorem spec_l02Fill.calls (k : Nat) (a0_0 : Int) (A0_1 : Option Addr) (c0_1 : Nat) (l0_1 : List Int) (P1_ : Nat → Prop) (A1 : Option Addr) (c1 : Nat) (l1 : List (S73)) (r : List (S73)) (w : World) (hr0_1 : Kd.C (Kd.int .i64) w A0_1 l0_1.length l0_1) (hc0_1 : l0_1.length ≤ c0_1) (hs1 : Kd.V k73 73 w w.heap.size (fun k_ => P1_ k_) (.slice A1 l1.length c1) l1) (h : spec_l02Fill.f k a0_0 l0_1 l1 = some r) :
  Calls Try.prog 63 #[.agg #[.int .i64 a0_0, .slice A0_1 l0_1.length c0_1], .slice A1 l1.length c1] w fun e w' => ∃ v0_ : Value, e = .returned (v0_) ∧ Kd.V k73 73 w' w.heap.size (fun k_ => (P1_ k_ ∨ w.heap.size ≤ k_)) v0_ r ∧ Below w.heap.size w w' := by
 have hu28 := Try.underlying28
 have hu73 := Try.underlying73
 have HR0_1 := Aside0.mk hr0_1
 have HC0_1 := Aside0.mk hc0_1
 clear hr0_1 hc0_1
 have HO1 := Aside0.mk (show Kd.V k73 73 w w.heap.size (fun k_ => (P1_ k_ ∨ w.heap.size ≤ k_)) (.slice A1 l1.length c1) l1 from Kd.V_mono hs1 (fun k_ hk => .inl hk))
 have HB := Aside0.mk (Below.refl w.heap.size w)
 have H : ((spec_l02All.f k a0_0 l0_1).bind fun t377 => (spec_l02Fill.l0 k l1 t377 0 a0_0 l0_1)) = some r := h
 clear h
 replace H := Option.bind_eq_some_iff.mp H
 obtain ⟨t377, A30, H⟩ := H
 try dsimp only at H
 have A3 := Aside0.mk A30
 clear A30
 have H' := Aside0.mk H
 clear H
 go_enter Try.func63, Try.ntmps63
 go_wp2_with (first | ((with_reducible refine gate_dst (N := 2) rfl ?_); refine box_event ?hg (N := 2) ?hd (cs := #[.int .i64 a0_0, .slice A0_1 l0_1.length c0_1]) (t := 28) ?hr ?_; (case hd => rfl); (case hg => rfl); (case hr => first | (go_simp; done) | (go_simp; rfl)); intro gb376 hg w4 hbox hb; have n0_ := Aside0.mk (Kd.V_below (Kd.V_elderB (by (with_reducible repeat (first | apply Kd.V_alloc | apply Kd.V_drewN | apply Kd.V_drew)); exact HO1.out) gb376 (Nat.le_of_eq hg.symm)) hb); have n1_ := sH HB hb; have n2_ := Aside0.mk (hbox); have n3_ := gH HB hg; have n4_ := gH HB hg; clear HO1; clear HB; have HO1 := n0_; have HB := n1_; have BK376 := n2_; have GW376 := n3_; have GE376 := n4_; clear n0_ n1_ n2_ n3_ n4_; clear hb hbox hg; have hcz5_0 : w4.cell? ⟨gb376, 0, none⟩ = some (.int .i64 a0_0) := cB BK376 0; have hcz5_1 : w4.cell? ⟨gb376, 1, none⟩ = some (.slice A0_1 l0_1.length c0_1) := cB BK376 1; have hfz5_0 := zB BK376 0; have hfz5_1 := zB BK376 1) | ((with_reducible refine gate_callee (f := 110) rfl ?_); refine cl_ (some 10) Try.func110 #[.agg #[.int .i64 a0_0, .slice A0_1 l0_1.length c0_1]] ?_; (with_reducible refine (spec_l02All.calls k a0_0 _ _ l0_1 t377 _ ?side1 ?side2 A3.out).mono ?_); (case side1 => exact pC ((Kd.C_below HR0_1.out HB.out))); (case side2 => exact HC0_1.out); rintro e w6 ⟨v378, rfl, ho0, hb⟩; refine ⟨_, rfl, ?_⟩; have n0_ := Aside0.mk (Kd.V_elder' (by (with_reducible repeat (first | apply Kd.V_alloc | apply Kd.V_drewN | apply Kd.V_drew)); exact HO1.out) (Kd.R_base ho0) hb); have n1_ := Aside0.mk (Kd.R_lower (Kd.R_newM (M := fun k_ => (w.heap.size ≤ k_)) ho0 (below_size (pH HB)) (fun k_ h_ => h_)) (below_size (pH HB))); have n2_ := sB BK376 hb; have n3_ := sH HB hb; clear HO1; clear BK376; clear HB; have HO1 := n0_; have HO379 := n1_; have BK376 := n2_; have HB := n3_; clear n0_ n1_ n2_ n3_; (try clear hb); (try clear hi); (try clear ho0)))
 go_loopg [1, 6] k (fun kq v1 v6 w' => ∃ (x1_1 : List (S73)) (x6_1 : Int), v6 = .int .i64 x6_1 ∧ Aside0 (spec_l02Fill.l0 kq x1_1 t377 x6_1 a0_0 l0_1 = some r) ∧ Aside0 (kq ≤ k) ∧ Aside0 (Kd.V k73 73 w' w.heap.size (fun k_ => (P1_ k_ ∨ w.heap.size ≤ k_) ∧ some k_ ≠ (v378 : Value).ownBlock ∧ k_ ≠ gb376) v1 x1_1) ∧ Aside0 (Kd.R k73 73 w' w.heap.size (fun k_ => (w.heap.size ≤ k_)) v378 t377) ∧ Aside0 (w'.heap[gb376]? = some (.cells #[.int .i64 a0_0, (.slice A0_1 l0_1.length c0_1)] 28 (0, 0))) ∧ Aside0 (Below w.heap.size w w'))
 case atStart => exact ⟨(l1), (0), (by first | rfl | (simp; done) | (simp [*]; done)), H', ⟨Nat.le_refl _⟩, ⟨by (with_reducible repeat (first | apply Kd.V_alloc | apply Kd.V_drewN | apply Kd.V_drew)); exact Kd.V_mono HO1.out (fun _ hk => ⟨hk.1.1, ⟨hk.2, hk.1.2⟩⟩)⟩, ⟨by (with_reducible repeat (first | apply Kd.R_alloc | apply Kd.R_drewN | apply Kd.R_drew)); exact Kd.R_mono HO379.out (fun _ hk => hk.1)⟩, ⟨pB BK376⟩, ⟨pH HB⟩⟩
 case round =>
  clear H'
  try clear c1
  try clear p2
  try clear c6
  try clear hcz5_0
  try clear hcz5_1
  try clear hfz5_0
  try clear hfz5_1
  obtain ⟨x1_1, x6_1, rfl, HA, HK1, HO_1, HO_5, BK376, HB⟩ := hrel
  cases gk with
  | zero => exact absurd HA.out (by simp [spec_l02Fill.l0])
  | succ k1 =>
   have H := HA.out
   clear HA
   simp only [spec_l02Fill.l0] at H
   by_cases c7 : x6_1 < (t377.length : Int)
   ·rw [if_pos c7] at H
    have c7b0 : decide (x6_1 < (t377.length : Int)) = true := decide_eq_true c7
    clear c7
    by_cases c8 : 0 ≤ x6_1
    ·rw [if_pos c8] at H
     have c8b0 : decide (0 ≤ x6_1) = true := decide_eq_true c8
     clear c8
     replace H := Option.bind_eq_some_iff.mp H
     obtain ⟨⟨t381, t384⟩, A90, H⟩ := H
     try dsimp only at H
     have A9 := Aside0.mk A90
     clear A90
     by_cases c10 : t384 = true
     ·subst c10
      have H1 : ((spec_l02Acyclic.f k1 t381).bind fun t385 => (if t385 = true then (spec_l02Fill.l0 k1 t381 t377 (wrap64 (x6_1 + 1)) a0_0 l0_1) else (spec_l02Fill.l0 k1 x1_1 t377 (wrap64 (x6_1 + 1)) a0_0 l0_1))) = some r := by rw [if_pos rfl] at H; exact H
      clear H
      have H := H1
      clear H1
      replace H := Option.bind_eq_some_iff.mp H
      obtain ⟨t385, A110, H⟩ := H
      try dsimp only at H
      have A11 := Aside0.mk A110
      clear A110
      by_cases c12 : t385 = true
      ·subst c12
       have H1 : (spec_l02Fill.l0 k1 t381 t377 (wrap64 (x6_1 + 1)) a0_0 l0_1) = some r := by rw [if_pos rfl] at H; exact H
       clear H
       have H := H1
       clear H1
       have H' := Aside0.mk H
       clear H
       obtain ⟨Ao13, co13, eo13⟩ := Kd.R_slice HO_5.out
       subst eo13
       try go_wp2
       replace HO_1 := Aside0.mk (Kd.V_drew HO_1.out)
       replace HO_5 := Aside0.mk (Kd.R_drew HO_5.out)
       replace BK376 := dB BK376
       replace HB := dH HB
       have p380 : 0 ≤ (x6_1 : Int) := of_decide_eq_true (by first | (with_reducible assumption) | assumption)
       have q380 : x6_1 < (t377.length : Int) := of_decide_eq_true (by first | (with_reducible assumption) | assumption)
       obtain ⟨ad380, e380, hx380_0, hx380_1⟩ := at_T73 (Kd.R_reads' HO_5.out).2.2 x6_1 p380 q380
       cases e380
       replace p380 := eq_true p380
       replace q380 := eq_true q380
       obtain ⟨Ao15, co15, eo15⟩ := Kd.V_slice HO_1.out
       (first | subst eo15 | (injection eo15 with f1_ f2_ f3_; have f4_ := f1_.symm; have f5_ := f3_.symm; clear f1_ f2_ f3_; subst f4_; subst f5_))
       refine st_ 12 (S := fun w' => w'.cell? ⟨gb376, 0, none⟩ = some (.int .i64 a0_0) ∧ w'.cell? ⟨gb376, 1, none⟩ = some (.slice A0_1 l0_1.length c0_1) ∧ w'.cell? (ad380.add ((x6_1).toNat * 2)) = some (.int .i64 ((rd_T73 t377 x6_1).f0)) ∧ w'.cell? ⟨(ad380.add ((x6_1).toNat * 2)).block, (ad380.add ((x6_1).toNat * 2)).off + 1, none⟩ = some (.int .i64 ((rd_T73 t377 x6_1).f1))) (ds := []) ⟨cB BK376 0, cB BK376 1, hx380_0, hx380_1⟩ (fun hHeld => ?_); refine with_tabW spec_l02Fill.tab5 spec_l02Fill.bits5 (fun HT_ HW_ => ?_)
       generalize wr.drew = w14 at HO_1 HO_5 BK376 HB hx380_0 hx380_1 hHeld ⊢
       refine pu_ 1 19 2 HT_ ?_
       refine pu_ 2 20 6 HT_ ?_
       refine pu_ 3 21 14 HT_ ?_
       refine pu_ 4 22 30 HT_ ?_
       refine tk_ 0 18 31 HT_ HW_ hHeld ?_
       refine tk_ 5 23 63 HT_ HW_ hHeld ?_
       refine on_ 6 (some 24) 127 HT_ (fun K hK => ?_)
       refine ca_ Try.func111 #[.agg #[.int .i64 a0_0, .slice A0_1 l0_1.length c0_1], .slice Ao15 x1_1.length co15, .agg #[.int .i64 ((rd_T73 t377 x6_1).f0), .int .i64 ((rd_T73 t377 x6_1).f1)]] ?_
       with_reducible refine (spec_l02With.calls k1 a0_0 _ _ l0_1 _ _ x1_1 ((rd_T73 t377 x6_1).f0) ((rd_T73 t377 x6_1).f1) t381 true _ ?side1 ?side2 ?side3 ?side4 A9.out).mono ?_
       (case side1 => exact pC ((Kd.C_below HR0_1.out HB.out)))
       (case side2 => exact HC0_1.out)
       (case side3 => exact pC ((Kd.V_reads' HO_1.out).2.2))
       (case side4 => exact (Kd.V_reads' HO_1.out).2.1)
       rintro e w16 ⟨v382, rfl, ho0, hb⟩
       have HS2_ := (hb.cell (World.block_lt_of_cell? _ _ (hHeld.2.2.1))).trans (hHeld.2.2.1)
       have HS3_ := (hb.cell (World.block_lt_of_cell? _ _ (hHeld.2.2.2))).trans (hHeld.2.2.2)
       refine ⟨_, rfl, ?_⟩
       replace HO_1 := Aside0.mk (Kd.V_elder' (by (with_reducible repeat (first | apply Kd.V_alloc | apply Kd.V_drewN | apply Kd.V_drew)); exact HO_1.out) (Kd.R_base ho0) hb)
       have HO383 := Aside0.mk (Kd.R_lower (Kd.R_new' (Kd.R_newM (M := fun k_ => (w.heap.size ≤ k_)) ho0 (below_size (pH HB)) (fun k_ h_ => h_)) (Kd.R_lt (pR HO_5))) (below_size (pH HB)))
       replace HO_5 := Aside0.mk (Kd.R_elder' (pR HO_5) (Kd.R_base ho0) hb)
       replace BK376 := sB BK376 hb
       replace HB := sH HB hb
       (try clear hb)
       (try clear hb2)
       (try clear hk)
       (try clear hi)
       (try clear ho0)
       refine hK.out _ _ ⟨cB BK376 0, cB BK376 1, HS2_, HS3_⟩ (fun hHeld => ?_)
       clear hK K
       refine nm_ ?_
       refine pu_ 7 17 255 HT_ ?_
       refine pu_ 8 25 511 HT_ ?_
       refine pu_ 9 26 1023 HT_ ?_
       refine pu_ 10 7 2047 HT_ ?_
       refine pu_ 11 8 4095 HT_ ?_
       refine dn_ HT_ ?_
       obtain ⟨Ao17, co17, eo17⟩ := Kd.R_slice HO383.out
       subst eo17
       try go_wp2_with (first | (go_at_call 97; (with_reducible refine (spec_l02Acyclic.calls k1 _ _ t381 true _ ?side1 ?side2 A11.out).mono ?_); (case side1 => exact pC ((Kd.R_reads' HO383.out).2.2)); (case side2 => exact (Kd.R_reads' HO383.out).2.1); rintro e w18 ⟨rfl, hb⟩; have n0_ := Aside0.mk (Kd.V_below (by (with_reducible repeat (first | apply Kd.V_alloc | apply Kd.V_drewN | apply Kd.V_drew)); exact HO_1.out) hb); have n1_ := sR HO_5 hb; have n2_ := sR HO383 hb; have n3_ := sB BK376 hb; have n4_ := sH HB hb; clear HO_1; clear HO_5; clear HO383; clear BK376; clear HB; have HO_1 := n0_; have HO_5 := n1_; have HO383 := n2_; have BK376 := n3_; have HB := n4_; clear n0_ n1_ n2_ n3_ n4_; (try clear hb); (try clear hi)))
       go_roundg k1
       case measure => have := HK1.out; omega
       case rel => exact ⟨(t381), (wrap64 (x6_1 + 1)), (by first | rfl | (simp; done) | (simp [*]; done)), H', ⟨by have := HK1.out; omega⟩, ⟨(by refine Kd.V_mono (ok := ?ok0_) (Kd.R_V (base := ?base0_) ?hR0_) ?hM0_; (case hR0_ => (with_reducible repeat (first | apply Kd.R_alloc | apply Kd.R_drewN | apply Kd.R_drew)); exact Kd.R_types HO383.out BK376.out (by decide)); (case hM0_ => exact fun k_ hk => ⟨.inr hk.1.1.1, ⟨hk.1.2, hk.2⟩⟩))⟩, ⟨by (with_reducible repeat (first | apply Kd.R_alloc | apply Kd.R_drewN | apply Kd.R_drew)); exact Kd.R_mono HO_5.out (fun _ hk => hk.1)⟩, ⟨pB BK376⟩, ⟨pH HB⟩⟩
      ·replace c12 := Bool.eq_false_iff.mpr c12
       subst c12
       have H1 : (spec_l02Fill.l0 k1 x1_1 t377 (wrap64 (x6_1 + 1)) a0_0 l0_1) = some r := by rw [if_neg (show ¬ (false = true) by decide)] at H; exact H
       clear H
       have H := H1
       clear H1
       have H' := Aside0.mk H
       clear H
       obtain ⟨Ao19, co19, eo19⟩ := Kd.R_slice HO_5.out
       subst eo19
       try go_wp2
       replace HO_1 := Aside0.mk (Kd.V_drew HO_1.out)
       replace HO_5 := Aside0.mk (Kd.R_drew HO_5.out)
       replace BK376 := dB BK376
       replace HB := dH HB
       have p380 : 0 ≤ (x6_1 : Int) := of_decide_eq_true (by first | (with_reducible assumption) | assumption)
       have q380 : x6_1 < (t377.length : Int) := of_decide_eq_true (by first | (with_reducible assumption) | assumption)
       obtain ⟨ad380, e380, hx380_0, hx380_1⟩ := at_T73 (Kd.R_reads' HO_5.out).2.2 x6_1 p380 q380
       cases e380
       replace p380 := eq_true p380
       replace q380 := eq_true q380
       obtain ⟨Ao21, co21, eo21⟩ := Kd.V_slice HO_1.out
       (first | subst eo21 | (injection eo21 with f1_ f2_ f3_; have f4_ := f1_.symm; have f5_ := f3_.symm; clear f1_ f2_ f3_; subst f4_; subst f5_))
       refine st_ 12 (S := fun w' => w'.cell? ⟨gb376, 0, none⟩ = some (.int .i64 a0_0) ∧ w'.cell? ⟨gb376, 1, none⟩ = some (.slice A0_1 l0_1.length c0_1) ∧ w'.cell? (ad380.add ((x6_1).toNat * 2)) = some (.int .i64 ((rd_T73 t377 x6_1).f0)) ∧ w'.cell? ⟨(ad380.add ((x6_1).toNat * 2)).block, (ad380.add ((x6_1).toNat * 2)).off + 1, none⟩ = some (.int .i64 ((rd_T73 t377 x6_1).f1))) (ds := []) ⟨cB BK376 0, cB BK376 1, hx380_0, hx380_1⟩ (fun hHeld => ?_); refine with_tabW spec_l02Fill.tab5 spec_l02Fill.bits5 (fun HT_ HW_ => ?_)
       generalize wr.drew = w20 at HO_1 HO_5 BK376 HB hx380_0 hx380_1 hHeld ⊢
       refine pu_ 1 19 2 HT_ ?_
       refine pu_ 2 20 6 HT_ ?_
       refine pu_ 3 21 14 HT_ ?_
       refine pu_ 4 22 30 HT_ ?_
       refine tk_ 0 18 31 HT_ HW_ hHeld ?_
       refine tk_ 5 23 63 HT_ HW_ hHeld ?_
       refine on_ 6 (some 24) 127 HT_ (fun K hK => ?_)
       refine ca_ Try.func111 #[.agg #[.int .i64 a0_0, .slice A0_1 l0_1.length c0_1], .slice Ao21 x1_1.length co21, .agg #[.int .i64 ((rd_T73 t377 x6_1).f0), .int .i64 ((rd_T73 t377 x6_1).f1)]] ?_
       with_reducible refine (spec_l02With.calls k1 a0_0 _ _ l0_1 _ _ x1_1 ((rd_T73 t377 x6_1).f0) ((rd_T73 t377 x6_1).f1) t381 true _ ?side1 ?side2 ?side3 ?side4 A9.out).mono ?_
       (case side1 => exact pC ((Kd.C_below HR0_1.out HB.out)))
       (case side2 => exact HC0_1.out)
       (case side3 => exact pC ((Kd.V_reads' HO_1.out).2.2))
       (case side4 => exact (Kd.V_reads' HO_1.out).2.1)
       rintro e w22 ⟨v382, rfl, ho0, hb⟩
       have HS2_ := (hb.cell (World.block_lt_of_cell? _ _ (hHeld.2.2.1))).trans (hHeld.2.2.1)
       have HS3_ := (hb.cell (World.block_lt_of_cell? _ _ (hHeld.2.2.2))).trans (hHeld.2.2.2)
       refine ⟨_, rfl, ?_⟩
       replace HO_1 := Aside0.mk (Kd.V_elder' (by (with_reducible repeat (first | apply Kd.V_alloc | apply Kd.V_drewN | apply Kd.V_drew)); exact HO_1.out) (Kd.R_base ho0) hb)
       have HO383 := Aside0.mk (Kd.R_lower (Kd.R_new' (Kd.R_newM (M := fun k_ => (w.heap.size ≤ k_)) ho0 (below_size (pH HB)) (fun k_ h_ => h_)) (Kd.R_lt (pR HO_5))) (below_size (pH HB)))
       replace HO_5 := Aside0.mk (Kd.R_elder' (pR HO_5) (Kd.R_base ho0) hb)
       replace BK376 := sB BK376 hb
       replace HB := sH HB hb
       (try clear hb)
       (try clear hb2)
       (try clear hk)
       (try clear hi)
       (try clear ho0)
       refine hK.out _ _ ⟨cB BK376 0, cB BK376 1, HS2_, HS3_⟩ (fun hHeld => ?_)
       clear hK K
       refine nm_ ?_
       refine pu_ 7 17 255 HT_ ?_
       refine pu_ 8 25 511 HT_ ?_
       refine pu_ 9 26 1023 HT_ ?_
       refine pu_ 10 7 2047 HT_ ?_
       refine pu_ 11 8 4095 HT_ ?_
       refine dn_ HT_ ?_
       obtain ⟨Ao23, co23, eo23⟩ := Kd.R_slice HO383.out
       subst eo23
       try go_wp2_with (first | (go_at_call 97; (with_reducible refine (spec_l02Acyclic.calls k1 _ _ t381 false _ ?side1 ?side2 A11.out).mono ?_); (case side1 => exact pC ((Kd.R_reads' HO383.out).2.2)); (case side2 => exact (Kd.R_reads' HO383.out).2.1); rintro e w24 ⟨rfl, hb⟩; have n0_ := Aside0.mk (Kd.V_below (by (with_reducible repeat (first | apply Kd.V_alloc | apply Kd.V_drewN | apply Kd.V_drew)); exact HO_1.out) hb); have n1_ := sR HO_5 hb; have n2_ := sR HO383 hb; have n3_ := sB BK376 hb; have n4_ := sH HB hb; clear HO_1; clear HO_5; clear HO383; clear BK376; clear HB; have HO_1 := n0_; have HO_5 := n1_; have HO383 := n2_; have BK376 := n3_; have HB := n4_; clear n0_ n1_ n2_ n3_ n4_; (try clear hb); (try clear hi)))
       go_roundg k1
       case measure => have := HK1.out; omega
       case rel => exact ⟨(x1_1), (wrap64 (x6_1 + 1)), (by first | rfl | (simp; done) | (simp [*]; done)), H', ⟨by have := HK1.out; omega⟩, ⟨by (with_reducible repeat (first | apply Kd.V_alloc | apply Kd.V_drewN | apply Kd.V_drew)); exact Kd.V_mono HO_1.out (fun _ hk => ⟨hk.1.1, ⟨hk.1.2.1, hk.1.2.2⟩⟩)⟩, ⟨by (with_reducible repeat (first | apply Kd.R_alloc | apply Kd.R_drewN | apply Kd.R_drew)); exact Kd.R_mono HO_5.out (fun _ hk => hk.1)⟩, ⟨pB BK376⟩, ⟨pH HB⟩⟩
     ·replace c10 := Bool.eq_false_iff.mpr c10
      subst c10
      have H1 : (spec_l02Fill.l0 k1 x1_1 t377 (wrap64 (x6_1 + 1)) a0_0 l0_1) = some r := by rw [if_neg (show ¬ (false = true) by decide)] at H; exact H
      clear H
      have H := H1
      clear H1
      have H' := Aside0.mk H
      clear H
      obtain ⟨Ao25, co25, eo25⟩ := Kd.R_slice HO_5.out
      subst eo25
      try go_wp2
      replace HO_1 := Aside0.mk (Kd.V_drew HO_1.out)
      replace HO_5 := Aside0.mk (Kd.R_drew HO_5.out)
      replace BK376 := dB BK376
      replace HB := dH HB
      have p380 : 0 ≤ (x6_1 : Int) := of_decide_eq_true (by first | (with_reducible assumption) | assumption)
      have q380 : x6_1 < (t377.length : Int) := of_decide_eq_true (by first | (with_reducible assumption) | assumption)
      obtain ⟨ad380, e380, hx380_0, hx380_1⟩ := at_T73 (Kd.R_reads' HO_5.out).2.2 x6_1 p380 q380
      cases e380
      replace p380 := eq_true p380
      replace q380 := eq_true q380
      obtain ⟨Ao27, co27, eo27⟩ := Kd.V_slice HO_1.out
      (first | subst eo27 | (injection eo27 with f1_ f2_ f3_; have f4_ := f1_.symm; have f5_ := f3_.symm; clear f1_ f2_ f3_; subst f4_; subst f5_))
      refine st_ 12 (S := fun w' => w'.cell? ⟨gb376, 0, none⟩ = some (.int .i64 a0_0) ∧ w'.cell? ⟨gb376, 1, none⟩ = some (.slice A0_1 l0_1.length c0_1) ∧ w'.cell? (ad380.add ((x6_1).toNat * 2)) = some (.int .i64 ((rd_T73 t377 x6_1).f0)) ∧ w'.cell? ⟨(ad380.add ((x6_1).toNat * 2)).block, (ad380.add ((x6_1).toNat * 2)).off + 1, none⟩ = some (.int .i64 ((rd_T73 t377 x6_1).f1))) (ds := []) ⟨cB BK376 0, cB BK376 1, hx380_0, hx380_1⟩ (fun hHeld => ?_); refine with_tabW spec_l02Fill.tab5 spec_l02Fill.bits5 (fun HT_ HW_ => ?_)
      generalize wr.drew = w26 at HO_1 HO_5 BK376 HB hx380_0 hx380_1 hHeld ⊢
      refine pu_ 1 19 2 HT_ ?_
      refine pu_ 2 20 6 HT_ ?_
      refine pu_ 3 21 14 HT_ ?_
      refine pu_ 4 22 30 HT_ ?_
      refine tk_ 0 18 31 HT_ HW_ hHeld ?_
      refine tk_ 5 23 63 HT_ HW_ hHeld ?_
      refine on_ 6 (some 24) 127 HT_ (fun K hK => ?_)
      refine ca_ Try.func111 #[.agg #[.int .i64 a0_0, .slice A0_1 l0_1.length c0_1], .slice Ao27 x1_1.length co27, .agg #[.int .i64 ((rd_T73 t377 x6_1).f0), .int .i64 ((rd_T73 t377 x6_1).f1)]] ?_
      with_reducible refine (spec_l02With.calls k1 a0_0 _ _ l0_1 _ _ x1_1 ((rd_T73 t377 x6_1).f0) ((rd_T73 t377 x6_1).f1) t381 false _ ?side1 ?side2 ?side3 ?side4 A9.out).mono ?_
      (case side1 => exact pC ((Kd.C_below HR0_1.out HB.out)))
      (case side2 => exact HC0_1.out)
      (case side3 => exact pC ((Kd.V_reads' HO_1.out).2.2))
      (case side4 => exact (Kd.V_reads' HO_1.out).2.1)
      rintro e w28 ⟨v382, rfl, ho0, hb⟩
      have HS2_ := (hb.cell (World.block_lt_of_cell? _ _ (hHeld.2.2.1))).trans (hHeld.2.2.1)
      have HS3_ := (hb.cell (World.block_lt_of_cell? _ _ (hHeld.2.2.2))).trans (hHeld.2.2.2)
      refine ⟨_, rfl, ?_⟩
      replace HO_1 := Aside0.mk (Kd.V_elder' (by (with_reducible repeat (first | apply Kd.V_alloc | apply Kd.V_drewN | apply Kd.V_drew)); exact HO_1.out) (Kd.R_base ho0) hb)
      have HO383 := Aside0.mk (Kd.R_lower (Kd.R_new' (Kd.R_newM (M := fun k_ => (w.heap.size ≤ k_)) ho0 (below_size (pH HB)) (fun k_ h_ => h_)) (Kd.R_lt (pR HO_5))) (below_size (pH HB)))
      replace HO_5 := Aside0.mk (Kd.R_elder' (pR HO_5) (Kd.R_base ho0) hb)
      replace BK376 := sB BK376 hb
      replace HB := sH HB hb
      (try clear hb)
      (try clear hb2)
      (try clear hk)
      (try clear hi)
      (try clear ho0)
      refine hK.out _ _ ⟨cB BK376 0, cB BK376 1, HS2_, HS3_⟩ (fun hHeld => ?_)
      clear hK K
      refine nm_ ?_
      refine pu_ 7 17 255 HT_ ?_
      refine pu_ 8 25 511 HT_ ?_
      refine pu_ 9 26 1023 HT_ ?_
      refine pu_ 10 7 2047 HT_ ?_
      refine pu_ 11 8 4095 HT_ ?_
      refine dn_ HT_ ?_
      try go_wp2
      go_roundg k1
      case measure => have := HK1.out; omega
      case rel => exact ⟨(x1_1), (wrap64 (x6_1 + 1)), (by first | rfl | (simp; done) | (simp [*]; done)), H', ⟨by have := HK1.out; omega⟩, ⟨by (with_reducible repeat (first | apply Kd.V_alloc | apply Kd.V_drewN | apply Kd.V_drew)); exact Kd.V_mono HO_1.out (fun _ hk => ⟨hk.1.1, ⟨hk.1.2.1, hk.1.2.2⟩⟩)⟩, ⟨by (with_reducible repeat (first | apply Kd.R_alloc | apply Kd.R_drewN | apply Kd.R_drew)); exact Kd.R_mono HO_5.out (fun _ hk => hk.1)⟩, ⟨pB BK376⟩, ⟨pH HB⟩⟩
    ·rw [if_neg c8] at H
     exact absurd H (by simp)
   ·rw [if_neg c7] at H
    have c7b0 : decide (x6_1 < (t377.length : Int)) = false := decide_eq_false c7
    clear c7
    obtain rfl := Option.some.inj H
    obtain ⟨Ao29, co29, eo29⟩ := Kd.R_slice HO_5.out
    subst eo29
    go_wp2
    go_ret
    exact ⟨_, by first | rfl | (simp [errW_none, errW_some] <;> rfl) | (simp [*, errW_none, errW_some] <;> rfl) | (exfalso; simp_all), by (with_reducible repeat (first | apply Kd.V_alloc | apply Kd.V_drewN | apply Kd.V_drew)); exact Kd.V_mono HO_1.out (fun _ hk => hk.1), pH HB⟩
end Go.Proofs.Ytomdfjohnmikdaa.QS
namespace Go.Proofs.Ytomdfjohnmikdaa.QS
open Go.Proofs.Ytomdfjohnmikdaa.Cw Go.Proofs.Ytomdfjohnmikdaa.Kp Go.Proofs.Ytomdfjohnmikdaa.Ext Go.RowKit Go.Proofs.YtomdfjohnmikdaaW.PrintWords Go.Proofs.YtomdfjohnmikdaaW.PrintLast Go.Proofs.YtomdfjohnmikdaaW.PrintMore
attribute [local go_sem] max2_int min2_int max_two min_two max_three min_three max_four min_four   -- for this text's walks alone
set_option linter.unusedVariables false
set_option linter.unusedSimpArgs false
def spec_l01All.f (a0 : Int) : Option (Int) := if 0 ≤ (IntKind.u64.wrap (a0)) then (some (wrap64 ((shl .i64 1 (IntKind.u64.wrap (a0))) - 1))) else (none)
set_option maxHeartbeats 8000000 in
set_option maxRecDepth 100000 in
theorem spec_l01All.calls (a0 : Int) (r : Int) (w : World) (h : spec_l01All.f a0 = some r) :
  Calls Try.prog 100 #[.int .i64 a0] w fun e w' => e = .returned (.int .i64 r) ∧ Drawn0 w w' := by
 have H : (if 0 ≤ (IntKind.u64.wrap (a0)) then (some (wrap64 ((shl .i64 1 (IntKind.u64.wrap (a0))) - 1))) else (none)) = some r := h
 clear h
 obtain ⟨ji2, hji2⟩ : ∃ j_ : Int, (IntKind.u64.wrap (a0)) = j_ := ⟨_, rfl⟩
 replace H : (if 0 ≤ (ji2) then (some (wrap64 ((shl .i64 1 (ji2)) - 1))) else (none)) = some r := by first | (rw [hji2] at H; exact H) | (simp only [hji2] at H ⊢; exact H)
 by_cases c3 : 0 ≤ (ji2)
 ·rw [if_pos c3] at H
  have c3b0 := eq_true c3
  have c3b1 : decide (0 ≤ (ji2)) = true := decide_eq_true c3
  clear c3
  obtain ⟨ji4, hji4⟩ : ∃ j_ : Int, (shl .i64 1 (ji2)) = j_ := ⟨_, rfl⟩
  replace H : (some (wrap64 ((ji4) - 1))) = some r := by first | (rw [hji4] at H; exact H) | (simp only [hji4] at H ⊢; exact H)
  have hji4_ : (IntKind.i64.wrap (1 * 2 ^ min (ji2).toNat 64)) = ji4 := hji4
  have hji4z : (ji2) ≤ 64 → (IntKind.i64.wrap (1 * 2 ^ (ji2).toNat)) = ji4 := shl_small hji4
  have hji4u : (IntKind.i64.wrap (2 ^ min (ji2).toNat 64)) = ji4 := by have h_ := hji4_; rw [Int.one_mul] at h_; exact h_
  have hji4v : (ji2) ≤ 64 → (IntKind.i64.wrap (2 ^ (ji2).toNat)) = ji4 := fun hle_ => by have h_ := hji4z hle_; rw [Int.one_mul] at h_; exact h_
  have hji4y : (wrap64 (1 * 2 ^ min (ji2).toNat 64)) = ji4 := (i64_w _).symm.trans hji4_
  have hji4x : (ji2) ≤ 64 → (wrap64 (1 * 2 ^ (ji2).toNat)) = ji4 := fun h_ => (i64_w _).symm.trans (hji4z h_)
  obtain rfl := Option.some.inj H
  go_enter Try.func100, Try.ntmps100
  go_wp2
  go_ret
  exact ⟨by first | rfl | (simp; done) | (simp only [← hji2, ← hji4] <;> (first | rfl | simp)) | (simp [*]; done), by repeat (first | exact Drawn0.refl _ | apply Drawn0.step)⟩
 ·rw [if_neg c3] at H
  exact absurd H (by simp)
end Go.Proofs.Ytomdfjohnmikdaa.QS
namespace Go.Proofs.Ytomdfjohnmikdaa.QS
open Go.Proofs.Ytomdfjohnmikdaa.Cw Go.Proofs.Ytomdfjohnmikdaa.Kp Go.Proofs.Ytomdfjohnmikdaa.Ext Go.RowKit Go.Proofs.YtomdfjohnmikdaaW.PrintWords Go.Proofs.YtomdfjohnmikdaaW.PrintLast Go.Proofs.YtomdfjohnmikdaaW.PrintMore
attribute [local go_sem] max2_int min2_int max_two min_two max_three min_three max_four min_four   -- for this text's walks alone
set_option linter.unusedVariables false
set_option linter.unusedSimpArgs false
def spec_l01In.f (a0 : Int) (a1 : Int) (a2 : Int) : Option (Bool) := if a0 ≥ a1 then (some (decide (a0 ≤ a2))) else (some false)
set_option maxHeartbeats 8000000 in
set_option maxRecDepth 100000 in
theorem spec_l01In.calls (a0 : Int) (a1 : Int) (a2 : Int) (r : Bool) (w : World) (h : spec_l01In.f a0 a1 a2 = some r) :
  Calls Try.prog 52 #[.int .i64 a0, .int .i64 a1, .int .i64 a2] w fun e w' => e = .returned (.bool r) ∧ Drawn0 w w' := by
 have H : (if a0 ≥ a1 then (some (decide (a0 ≤ a2))) else (some false)) = some r := h
 clear h
 by_cases c4 : a0 ≥ a1
 ·rw [if_pos c4] at H
  have c4b0 : decide (a1 ≤ a0) = true := decide_eq_true c4
  clear c4
  obtain rfl := Option.some.inj H
  go_enter Try.func52, Try.ntmps52
  go_wp2
  go_ret
  exact ⟨by first | rfl | (simp; done) | (simp [*]; done), by repeat (first | exact Drawn0.refl _ | apply Drawn0.step)⟩
 ·rw [if_neg c4] at H
  have c4b0 : decide (a1 ≤ a0) = false := decide_eq_false c4
  clear c4
  obtain rfl := Option.some.inj H
  go_enter Try.func52, Try.ntmps52
  go_wp2
  go_ret
  exact ⟨by first | rfl | (simp; done) | (simp [*]; done), by repeat (first | exact Drawn0.refl _ | apply Drawn0.step)⟩
end Go.Proofs.Ytomdfjohnmikdaa.QS
namespace Go.Proofs.Ytomdfjohnmikdaa.QS
open Go.Proofs.Ytomdfjohnmikdaa.Cw Go.Proofs.Ytomdfjohnmikdaa.Kp Go.Proofs.Ytomdfjohnmikdaa.Ext Go.RowKit Go.Proofs.YtomdfjohnmikdaaW.PrintWords Go.Proofs.YtomdfjohnmikdaaW.PrintLast Go.Proofs.YtomdfjohnmikdaaW.PrintMore
attribute [local go_sem] max2_int min2_int max_two min_two max_three min_three max_four min_four   -- for this text's walks alone
set_option linter.unusedVariables false
set_option linter.unusedSimpArgs false
mutual
def spec_l01Is.l0 : Nat → Int → Int → List Int → Option (Bool)
 | 0, _, _, _ => none
 | k + 1, x3, x149000, x149001 => if x3 < (x149001.length : Int) then (if 0 ≤ x3 then ((spec_l01All.f x149000).bind fun t151 => ((spec_l01In.f (rd x149001 x3) 1 t151).bind fun t152 => (if t152 = true then (if x3 > 0 then (if 0 ≤ (wrap64 (x3 - 1)) then (if (wrap64 (x3 - 1)) < (x149001.length : Int) then (if (rd x149001 x3) ≤ (rd x149001 (wrap64 (x3 - 1))) then (some false) else (spec_l01Is.l0 k (wrap64 (x3 + 1)) x149000 x149001)) else (none)) else (none)) else (spec_l01Is.l0 k (wrap64 (x3 + 1)) x149000 x149001)) else (some false)))) else (none)) else (spec_l01Is.l1 k 0 x149000 x149001)
def spec_l01Is.l1 : Nat → Int → Int → List Int → Option (Bool)
 | 0, _, _, _ => none
 | k + 1, x4, x149000, x149001 => if x4 < (x149001.length : Int) then (if 0 ≤ x4 then ((spec_l01Below.f k (rd x149001 x4)).bind fun t156 => (spec_l01Is.l2 k x4 t156 0 x149000 x149001)) else (none)) else (some true)
def spec_l01Is.l2 : Nat → Int → List Int → Int → Int → List Int → Option (Bool)
 | 0, _, _, _, _, _ => none
 | k + 1, x4, x5, x6, x149000, x149001 => if x6 < (x5.length : Int) then (if 0 ≤ x6 then ((spec_l01Has.f k x149000 x149001 (rd x5 x6)).bind fun t160 => (if t160 = true then (spec_l01Is.l2 k x4 x5 (wrap64 (x6 + 1)) x149000 x149001) else (some false))) else (none)) else (spec_l01Is.l1 k (wrap64 (x4 + 1)) x149000 x149001)
end
def spec_l01Is.f (k : Nat) (a0_0 : Int) (l0_1 : List Int) : Option (Bool) := (spec_l01In.f a0_0 1 6).bind fun t149 => (if t149 = true then (spec_l01Is.l0 k 0 a0_0 l0_1) else (some false))
def spec_l01Is.T6 : Bool × List (List Nat × List Nat) := (true, [([], []), ([0], [0]), ([], []), ([1, 2], [1, 2]), ([3], [3]), ([], []), ([5], [5]), ([6], [6]), ([4, 7, 7], [4, 7]), ([8], [8]), ([9, 8], [9]), ([10], [10]), ([11, 10], [10, 11]), ([12, 10, 10], [10, 12]), ([13], [13]), ([14, 13], [13, 14]), ([13], [13]), ([15, 16, 13], [13, 15, 16]), ([17, 13], [13, 17]), ([13], [13]), ([19, 13], [13, 19]), ([13], [13]), ([21, 13], [13, 21]), ([20, 22, 13], [13, 20, 22]), ([23, 13], [13, 23]), ([18, 24, 13], [13, 18, 24]), ([13, 25, 10], [10, 13, 25]), ([10, 26], [10, 26])])
def spec_l01Is.B6 : List Nat := [0, 1, 0, 7, 15, 0, 32, 96, 255, 511, 1023, 2047, 4095, 8191, 16383, 32767, 16383, 131071, 262143, 16383, 540671, 16383, 2113535, 7880703, 16269311, 33554431, 67108863, 134217727]
theorem spec_l01Is.tab6 : rtab .any (opsOf Try.f50 6) = spec_l01Is.T6 := by kernel_rfl
theorem spec_l01Is.bits6 : waitsOk spec_l01Is.T6.2 spec_l01Is.B6 = true := by kernel_rfl
set_option maxHeartbeats 8000000 in
set_option maxRecDepth 100000 in
theorem spec_l01Is.calls (k : Nat) (a0_0 : Int) (A0_1 : Option Addr) (c0_1 : Nat) (l0_1 : List Int) (r : Bool) (w : World) (hr0_1 : Kd.C (Kd.int .i64) w A0_1 l0_1.length l0_1) (hc0_1 : l0_1.length ≤ c0_1) (h : spec_l01Is.f k a0_0 l0_1 = some r) :
  Calls Try.prog 50 #[.agg #[.int .i64 a0_0, .slice A0_1 l0_1.length c0_1]] w fun e w' => e = .returned (.bool r) ∧ Below w.heap.size w w' := by
 have hu28 := Try.underlying28
 have HR0_1 := Aside0.mk hr0_1
 have HC0_1 := Aside0.mk hc0_1
 clear hr0_1 hc0_1
 have HB := Aside0.mk (Below.refl w.heap.size w)
 have H : ((spec_l01In.f a0_0 1 6).bind fun t149 => (if t149 = true then (spec_l01Is.l0 k 0 a0_0 l0_1) else (some false))) = some r := h
 clear h
 replace H := Option.bind_eq_some_iff.mp H
 obtain ⟨t149, A20, H⟩ := H
 try dsimp only at H
 have A2 := Aside0.mk A20
 clear A20
 by_cases c3 : t149 = true
 ·subst c3
  have H1 : (spec_l01Is.l0 k 0 a0_0 l0_1) = some r := by rw [if_pos rfl] at H; exact H
  clear H
  have H := H1
  clear H1
  have H' := Aside0.mk H
  clear H
  go_enter Try.func50, Try.ntmps50
  go_wp2_with (first | ((with_reducible refine gate_dst (N := 1) rfl ?_); refine box_event ?hg (N := 1) ?hd (cs := #[.int .i64 a0_0, .slice A0_1 l0_1.length c0_1]) (t := 28) ?hr ?_; (case hd => rfl); (case hg => rfl); (case hr => first | (go_simp; done) | (go_simp; rfl)); intro gb148 hg w4 hbox hb; have BK148 := Aside0.mk (hbox); have GW148 := gH HB hg; have GE148 := gH HB hg; replace HB := sH HB hb; clear hb hbox hg; have hcz5_0 : w4.cell? ⟨gb148, 0, none⟩ = some (.int .i64 a0_0) := cB BK148 0; have hcz5_1 : w4.cell? ⟨gb148, 1, none⟩ = some (.slice A0_1 l0_1.length c0_1) := cB BK148 1; have hfz5_0 := zB BK148 0; have hfz5_1 := zB BK148 1) | ((with_reducible refine gate_callee (f := 52) rfl ?_); refine cl_ (some 9) Try.func52 #[.int .i64 a0_0, .int .i64 1, .int .i64 6] ?_; (with_reducible refine (spec_l01In.calls a0_0 1 6 true _ A2.out).mono ?_); rintro e w' ⟨rfl, ⟨nd, rfl⟩⟩; refine ⟨_, rfl, ?_⟩))
  go_loopg [3] k (fun kq v3 w' => ∃ (x3_1 : Int), v3 = .int .i64 x3_1 ∧ Aside0 (spec_l01Is.l0 kq x3_1 a0_0 l0_1 = some r) ∧ Aside0 (kq ≤ k) ∧ Aside0 (w'.heap[gb148]? = some (.cells #[.int .i64 a0_0, (.slice A0_1 l0_1.length c0_1)] 28 (0, 0))) ∧ Aside0 (Below w.heap.size w w'))
  case atStart => exact ⟨(0), (by first | rfl | (simp; done) | (simp [*]; done)), H', ⟨Nat.le_refl _⟩, ⟨pB BK148⟩, ⟨pH HB⟩⟩
  case round =>
   clear H'
   try clear p2
   try clear c3
   try clear c5
   try clear hcz5_0
   try clear hcz5_1
   try clear hfz5_0
   try clear hfz5_1
   obtain ⟨x3_1, rfl, HA, HK1, BK148, HB⟩ := hrel
   cases gk with
   | zero => exact absurd HA.out (by simp [spec_l01Is.l0])
   | succ k1 =>
    have H := HA.out
    clear HA
    simp only [spec_l01Is.l0] at H
    by_cases c6 : x3_1 < (l0_1.length : Int)
    ·rw [if_pos c6] at H
     have c6b0 : decide (x3_1 < (l0_1.length : Int)) = true := decide_eq_true c6
     clear c6
     by_cases c7 : 0 ≤ x3_1
     ·rw [if_pos c7] at H
      have c7b0 : decide (0 ≤ x3_1) = true := decide_eq_true c7
      clear c7
      replace H := Option.bind_eq_some_iff.mp H
      obtain ⟨t151, A80, H⟩ := H
      try dsimp only at H
      have A8 := Aside0.mk A80
      clear A80
      replace H := Option.bind_eq_some_iff.mp H
      obtain ⟨t152, A90, H⟩ := H
      try dsimp only at H
      have A9 := Aside0.mk A90
      clear A90
      by_cases c10 : t152 = true
      ·subst c10
       have H1 : (if x3_1 > 0 then (if 0 ≤ (wrap64 (x3_1 - 1)) then (if (wrap64 (x3_1 - 1)) < (l0_1.length : Int) then (if (rd l0_1 x3_1) ≤ (rd l0_1 (wrap64 (x3_1 - 1))) then (some false) else (spec_l01Is.l0 k1 (wrap64 (x3_1 + 1)) a0_0 l0_1)) else (none)) else (none)) else (spec_l01Is.l0 k1 (wrap64 (x3_1 + 1)) a0_0 l0_1)) = some r := by rw [if_pos rfl] at H; exact H
       clear H
       have H := H1
       clear H1
       by_cases c11 : x3_1 > 0
       ·rw [if_pos c11] at H
        have c11b0 : decide (0 < x3_1) = true := decide_eq_true c11
        clear c11
        obtain ⟨ji12, hji12⟩ : ∃ j_ : Int, (wrap64 (x3_1 - 1)) = j_ := ⟨_, rfl⟩
        replace H : (if 0 ≤ (ji12) then (if (ji12) < (l0_1.length : Int) then (if (rd l0_1 x3_1) ≤ (rd l0_1 (ji12)) then (some false) else (spec_l01Is.l0 k1 (wrap64 (x3_1 + 1)) a0_0 l0_1)) else (none)) else (none)) = some r := by first | (rw [hji12] at H; exact H) | (simp only [hji12] at H ⊢; exact H)
        (try rw [hji12] at A8)
        (try rw [hji12] at A9)
        have hji12w : (IntKind.i64.wrap (x3_1 - 1)) = ji12 := (i64_w _).trans hji12
        by_cases c13 : 0 ≤ (ji12)
        ·rw [if_pos c13] at H
         have c13b0 : decide (0 ≤ (ji12)) = true := decide_eq_true c13
         clear c13
         by_cases c14 : (ji12) < (l0_1.length : Int)
         ·rw [if_pos c14] at H
          have c14b0 : decide ((ji12) < (l0_1.length : Int)) = true := decide_eq_true c14
          clear c14
          by_cases c15 : (rd l0_1 x3_1) ≤ (rd l0_1 (ji12))
          ·rw [if_pos c15] at H
           have c15b0 : decide ((rd l0_1 x3_1) ≤ (rd l0_1 (ji12))) = true := decide_eq_true c15
           clear c15
           obtain rfl := Option.some.inj H
           have hcz16_0 : wr.cell? ⟨gb148, 0, none⟩ = some (.int .i64 a0_0) := cB BK148 0
           have hcz16_1 : wr.cell? ⟨gb148, 1, none⟩ = some (.slice A0_1 l0_1.length c0_1) := cB BK148 1
           have hfz16_0 := zB BK148 0
           have hfz16_1 := zB BK148 1
           try go_wp2
           replace BK148 := dB BK148
           replace HB := dH HB
           have p150 : 0 ≤ (x3_1 : Int) := of_decide_eq_true (by first | (with_reducible assumption) | assumption)
           have q150 : x3_1 < (l0_1.length : Int) := of_decide_eq_true (by first | (with_reducible assumption) | assumption)
           obtain ⟨ad150, e150, hx150_0⟩ := Kd.at_int HR0_1.out x3_1 p150 q150
           have hw150_0 := hx150_0
           cases e150
           replace hx150_0 := cH HB hx150_0
           replace p150 := eq_true p150
           replace q150 := eq_true q150
           have p153 : 0 ≤ (x3_1 : Int) := of_decide_eq_true (by first | (with_reducible assumption) | assumption)
           have q153 : x3_1 < (l0_1.length : Int) := of_decide_eq_true (by first | (with_reducible assumption) | assumption)
           obtain ⟨ad153, e153, hx153_0⟩ := Kd.at_int HR0_1.out x3_1 p153 q153
           have hw153_0 := hx153_0
           obtain rfl : ad150 = ad153 := (by injection e153)
           replace hx153_0 := cH HB hx153_0
           replace p153 := eq_true p153
           replace q153 := eq_true q153
           have p154 : 0 ≤ ((ji12) : Int) := of_decide_eq_true (by first | (with_reducible assumption) | assumption)
           have q154 : (ji12) < (l0_1.length : Int) := of_decide_eq_true (by first | (with_reducible assumption) | assumption)
           obtain ⟨ad154, e154, hx154_0⟩ := Kd.at_int HR0_1.out (ji12) p154 q154
           have hw154_0 := hx154_0
           obtain rfl : ad150 = ad154 := (by injection e154)
           replace hx154_0 := cH HB hx154_0
           replace p154 := eq_true p154
           replace q154 := eq_true q154
           refine st_ 28 (S := fun w' => w'.cell? ⟨gb148, 0, none⟩ = some (.int .i64 a0_0) ∧ w'.cell? ⟨gb148, 1, none⟩ = some (.slice (some ad150) l0_1.length c0_1) ∧ w'.cell? (ad150.add (x3_1).toNat) = some (.int .i64 (rd l0_1 x3_1)) ∧ w'.cell? (ad150.add (x3_1).toNat) = some (.int .i64 (rd l0_1 x3_1)) ∧ w'.cell? (ad150.add ((ji12)).toNat) = some (.int .i64 (rd l0_1 (ji12)))) (ds := []) ⟨cB BK148 0, cB BK148 1, (cH HB hw150_0 :), (cH HB hw153_0 :), (cH HB hw154_0 :)⟩ (fun hHeld => ?_); refine with_tabW spec_l01Is.tab6 spec_l01Is.bits6 (fun HT_ HW_ => ?_)
           generalize wr.drew = w17 at BK148 HB hx150_0 hx153_0 hx154_0 hHeld ⊢
           refine pu_ 0 18 1 HT_ ?_
           refine pu_ 2 20 5 HT_ ?_
           refine pu_ 5 23 37 HT_ ?_
           refine tk_ 1 19 39 HT_ HW_ hHeld ?_
           refine pu_ 3 21 47 HT_ ?_
           refine tk_ 4 22 63 HT_ HW_ hHeld ?_
           refine tk_ 6 24 127 HT_ HW_ hHeld ?_
           refine on_ 7 (some 25) 255 HT_ (fun K hK => ?_)
           refine ca_ Try.func100 #[.int .i64 a0_0] ?_
           with_reducible refine (spec_l01All.calls a0_0 t151 _ A8.out).mono ?_
           rintro e w' ⟨rfl, ⟨nd, rfl⟩⟩
           refine ⟨_, rfl, ?_⟩
           refine hK.out _ _ ⟨cB BK148 0, cB BK148 1, (cH HB hw150_0 :), (cH HB hw153_0 :), (cH HB hw154_0 :)⟩ (fun hHeld => ?_)
           clear hK K
           refine nm_ ?_
           refine on_ 8 (some 26) 511 HT_ (fun K hK => ?_)
           refine ca_ Try.func52 #[.int .i64 (rd l0_1 x3_1), .int .i64 1, .int .i64 t151] ?_
           with_reducible refine (spec_l01In.calls (rd l0_1 x3_1) 1 t151 true _ A9.out).mono ?_
           rintro e w' ⟨rfl, ⟨nd, rfl⟩⟩
           refine ⟨_, rfl, ?_⟩
           refine hK.out _ _ ⟨cB BK148 0, cB BK148 1, (cH HB hw150_0 :), (cH HB hw153_0 :), (cH HB hw154_0 :)⟩ (fun hHeld => ?_)
           clear hK K
           refine nm_ ?_
           refine pu_ 9 27 1023 HT_ ?_
           refine pu_ 10 28 2047 HT_ ?_
           refine pu_ 11 29 4095 HT_ ?_
           refine pu_ 12 30 8191 HT_ ?_
           refine pu_ 13 31 16383 HT_ ?_
           refine pu_ 14 32 32767 HT_ ?_
           refine pu_ 16 34 98303 HT_ ?_
           refine pu_ 19 37 622591 HT_ ?_
           refine pu_ 21 39 2719743 HT_ ?_
           refine pu_ 22 40 6914047 HT_ ?_
           refine tk_ 15 33 6946815 HT_ HW_ hHeld ?_
           refine pu_ 17 35 7077887 HT_ ?_
           refine tk_ 18 36 7340031 HT_ HW_ hHeld ?_
           refine tk_ 20 38 8388607 HT_ HW_ hHeld ?_
           refine pu_ 23 41 16777215 HT_ ?_
           refine tk_ 24 42 33554431 HT_ HW_ hHeld ?_
           refine pu_ 25 43 67108863 HT_ ?_
           refine pu_ 26 44 134217727 HT_ ?_
           refine pu_ 27 45 268435455 HT_ ?_
           refine dn_ HT_ ?_
           try go_wp2
           go_ret
           exact ⟨by first | rfl | (simp [errW_none, errW_some] <;> rfl) | (simp only [← hji12]; first | rfl | (simp [errW_none, errW_some] <;> rfl)) | (simp [*, errW_none, errW_some] <;> rfl) | (exfalso; simp_all), pH HB⟩
          ·rw [if_neg c15] at H
           have c15b0 : decide ((rd l0_1 x3_1) ≤ (rd l0_1 (ji12))) = false := decide_eq_false c15
           clear c15
           have H' := Aside0.mk H
           clear H
           have hcz18_0 : wr.cell? ⟨gb148, 0, none⟩ = some (.int .i64 a0_0) := cB BK148 0
           have hcz18_1 : wr.cell? ⟨gb148, 1, none⟩ = some (.slice A0_1 l0_1.length c0_1) := cB BK148 1
           have hfz18_0 := zB BK148 0
           have hfz18_1 := zB BK148 1
           try go_wp2
           replace BK148 := dB BK148
           replace HB := dH HB
           have p150 : 0 ≤ (x3_1 : Int) := of_decide_eq_true (by first | (with_reducible assumption) | assumption)
           have q150 : x3_1 < (l0_1.length : Int) := of_decide_eq_true (by first | (with_reducible assumption) | assumption)
           obtain ⟨ad150, e150, hx150_0⟩ := Kd.at_int HR0_1.out x3_1 p150 q150
           have hw150_0 := hx150_0
           cases e150
           replace hx150_0 := cH HB hx150_0
           replace p150 := eq_true p150
           replace q150 := eq_true q150
           have p153 : 0 ≤ (x3_1 : Int) := of_decide_eq_true (by first | (with_reducible assumption) | assumption)
           have q153 : x3_1 < (l0_1.length : Int) := of_decide_eq_true (by first | (with_reducible assumption) | assumption)
           obtain ⟨ad153, e153, hx153_0⟩ := Kd.at_int HR0_1.out x3_1 p153 q153
           have hw153_0 := hx153_0
           obtain rfl : ad150 = ad153 := (by injection e153)
           replace hx153_0 := cH HB hx153_0
           replace p153 := eq_true p153
           replace q153 := eq_true q153
           have p154 : 0 ≤ ((ji12) : Int) := of_decide_eq_true (by first | (with_reducible assumption) | assumption)
           have q154 : (ji12) < (l0_1.length : Int) := of_decide_eq_true (by first | (with_reducible assumption) | assumption)
           obtain ⟨ad154, e154, hx154_0⟩ := Kd.at_int HR0_1.out (ji12) p154 q154
           have hw154_0 := hx154_0
           obtain rfl : ad150 = ad154 := (by injection e154)
           replace hx154_0 := cH HB hx154_0
           replace p154 := eq_true p154
           replace q154 := eq_true q154
           refine st_ 28 (S := fun w' => w'.cell? ⟨gb148, 0, none⟩ = some (.int .i64 a0_0) ∧ w'.cell? ⟨gb148, 1, none⟩ = some (.slice (some ad150) l0_1.length c0_1) ∧ w'.cell? (ad150.add (x3_1).toNat) = some (.int .i64 (rd l0_1 x3_1)) ∧ w'.cell? (ad150.add (x3_1).toNat) = some (.int .i64 (rd l0_1 x3_1)) ∧ w'.cell? (ad150.add ((ji12)).toNat) = some (.int .i64 (rd l0_1 (ji12)))) (ds := []) ⟨cB BK148 0, cB BK148 1, (cH HB hw150_0 :), (cH HB hw153_0 :), (cH HB hw154_0 :)⟩ (fun hHeld => ?_); refine with_tabW spec_l01Is.tab6 spec_l01Is.bits6 (fun HT_ HW_ => ?_)
           generalize wr.drew = w19 at BK148 HB hx150_0 hx153_0 hx154_0 hHeld ⊢
           refine pu_ 0 18 1 HT_ ?_
           refine pu_ 2 20 5 HT_ ?_
           refine pu_ 5 23 37 HT_ ?_
           refine tk_ 1 19 39 HT_ HW_ hHeld ?_
           refine pu_ 3 21 47 HT_ ?_
           refine tk_ 4 22 63 HT_ HW_ hHeld ?_
           refine tk_ 6 24 127 HT_ HW_ hHeld ?_
           refine on_ 7 (some 25) 255 HT_ (fun K hK => ?_)
           refine ca_ Try.func100 #[.int .i64 a0_0] ?_
           with_reducible refine (spec_l01All.calls a0_0 t151 _ A8.out).mono ?_
           rintro e w' ⟨rfl, ⟨nd, rfl⟩⟩
           refine ⟨_, rfl, ?_⟩
           refine hK.out _ _ ⟨cB BK148 0, cB BK148 1, (cH HB hw150_0 :), (cH HB hw153_0 :), (cH HB hw154_0 :)⟩ (fun hHeld => ?_)
           clear hK K
           refine nm_ ?_
           refine on_ 8 (some 26) 511 HT_ (fun K hK => ?_)
           refine ca_ Try.func52 #[.int .i64 (rd l0_1 x3_1), .int .i64 1, .int .i64 t151] ?_
           with_reducible refine (spec_l01In.calls (rd l0_1 x3_1) 1 t151 true _ A9.out).mono ?_
           rintro e w' ⟨rfl, ⟨nd, rfl⟩⟩
           refine ⟨_, rfl, ?_⟩
           refine hK.out _ _ ⟨cB BK148 0, cB BK148 1, (cH HB hw150_0 :), (cH HB hw153_0 :), (cH HB hw154_0 :)⟩ (fun hHeld => ?_)
           clear hK K
           refine nm_ ?_
           refine pu_ 9 27 1023 HT_ ?_
           refine pu_ 10 28 2047 HT_ ?_
           refine pu_ 11 29 4095 HT_ ?_
           refine pu_ 12 30 8191 HT_ ?_
           refine pu_ 13 31 16383 HT_ ?_
           refine pu_ 14 32 32767 HT_ ?_
           refine pu_ 16 34 98303 HT_ ?_
           refine pu_ 19 37 622591 HT_ ?_
           refine pu_ 21 39 2719743 HT_ ?_
           refine pu_ 22 40 6914047 HT_ ?_
           refine tk_ 15 33 6946815 HT_ HW_ hHeld ?_
           refine pu_ 17 35 7077887 HT_ ?_
           refine tk_ 18 36 7340031 HT_ HW_ hHeld ?_
           refine tk_ 20 38 8388607 HT_ HW_ hHeld ?_
           refine pu_ 23 41 16777215 HT_ ?_
           refine tk_ 24 42 33554431 HT_ HW_ hHeld ?_
           refine pu_ 25 43 67108863 HT_ ?_
           refine pu_ 26 44 134217727 HT_ ?_
           refine pu_ 27 45 268435455 HT_ ?_
           refine dn_ HT_ ?_
           try go_wp2
           go_roundg k1
           case measure => have := HK1.out; omega
           case rel => exact ⟨(wrap64 (x3_1 + 1)), (by first | rfl | (simp; done) | (simp [*]; done)), H', ⟨by have := HK1.out; omega⟩, ⟨pB BK148⟩, ⟨pH HB⟩⟩
         ·rw [if_neg c14] at H
          exact absurd H (by simp)
        ·rw [if_neg c13] at H
         exact absurd H (by simp)
       ·rw [if_neg c11] at H
        have c11b0 : decide (0 < x3_1) = false := decide_eq_false c11
        clear c11
        have H' := Aside0.mk H
        clear H
        have hcz20_0 : wr.cell? ⟨gb148, 0, none⟩ = some (.int .i64 a0_0) := cB BK148 0
        have hcz20_1 : wr.cell? ⟨gb148, 1, none⟩ = some (.slice A0_1 l0_1.length c0_1) := cB BK148 1
        have hfz20_0 := zB BK148 0
        have hfz20_1 := zB BK148 1
        try go_wp2
        replace BK148 := dB BK148
        replace HB := dH HB
        have p150 : 0 ≤ (x3_1 : Int) := of_decide_eq_true (by first | (with_reducible assumption) | assumption)
        have q150 : x3_1 < (l0_1.length : Int) := of_decide_eq_true (by first | (with_reducible assumption) | assumption)
        obtain ⟨ad150, e150, hx150_0⟩ := Kd.at_int HR0_1.out x3_1 p150 q150
        have hw150_0 := hx150_0
        cases e150
        replace hx150_0 := cH HB hx150_0
        replace p150 := eq_true p150
        replace q150 := eq_true q150
        refine st_ 28 (S := fun w' => w'.cell? ⟨gb148, 0, none⟩ = some (.int .i64 a0_0) ∧ w'.cell? ⟨gb148, 1, none⟩ = some (.slice (some ad150) l0_1.length c0_1) ∧ w'.cell? (ad150.add (x3_1).toNat) = some (.int .i64 (rd l0_1 x3_1))) (ds := []) ⟨cB BK148 0, cB BK148 1, (cH HB hw150_0 :)⟩ (fun hHeld => ?_); refine with_tabW spec_l01Is.tab6 spec_l01Is.bits6 (fun HT_ HW_ => ?_)
        generalize wr.drew = w21 at BK148 HB hx150_0 hHeld ⊢
        refine pu_ 0 18 1 HT_ ?_
        refine pu_ 2 20 5 HT_ ?_
        refine pu_ 5 23 37 HT_ ?_
        refine tk_ 1 19 39 HT_ HW_ hHeld ?_
        refine pu_ 3 21 47 HT_ ?_
        refine tk_ 4 22 63 HT_ HW_ hHeld ?_
        refine tk_ 6 24 127 HT_ HW_ hHeld ?_
        refine on_ 7 (some 25) 255 HT_ (fun K hK => ?_)
        refine ca_ Try.func100 #[.int .i64 a0_0] ?_
        with_reducible refine (spec_l01All.calls a0_0 t151 _ A8.out).mono ?_
        rintro e w' ⟨rfl, ⟨nd, rfl⟩⟩
        refine ⟨_, rfl, ?_⟩
        refine hK.out _ _ ⟨cB BK148 0, cB BK148 1, (cH HB hw150_0 :)⟩ (fun hHeld => ?_)
        clear hK K
        refine nm_ ?_
        refine on_ 8 (some 26) 511 HT_ (fun K hK => ?_)
        refine ca_ Try.func52 #[.int .i64 (rd l0_1 x3_1), .int .i64 1, .int .i64 t151] ?_
        with_reducible refine (spec_l01In.calls (rd l0_1 x3_1) 1 t151 true _ A9.out).mono ?_
        rintro e w' ⟨rfl, ⟨nd, rfl⟩⟩
        refine ⟨_, rfl, ?_⟩
        refine hK.out _ _ ⟨cB BK148 0, cB BK148 1, (cH HB hw150_0 :)⟩ (fun hHeld => ?_)
        clear hK K
        refine nm_ ?_
        refine pu_ 9 27 1023 HT_ ?_
        refine pu_ 10 28 2047 HT_ ?_
        refine pu_ 11 29 4095 HT_ ?_
        refine pu_ 12 30 8191 HT_ ?_
        refine pu_ 13 31 16383 HT_ ?_
        refine pn_ 14 32 32767 HT_ ?_
        refine pn_ 15 33 65535 HT_ ?_
        refine pn_ 16 34 131071 HT_ ?_
        refine pn_ 17 35 262143 HT_ ?_
        refine pn_ 18 36 524287 HT_ ?_
        refine pn_ 19 37 1048575 HT_ ?_
        refine pn_ 20 38 2097151 HT_ ?_
        refine pn_ 21 39 4194303 HT_ ?_
        refine pn_ 22 40 8388607 HT_ ?_
        refine pn_ 23 41 16777215 HT_ ?_
        refine pn_ 24 42 33554431 HT_ ?_
        refine pn_ 25 43 67108863 HT_ ?_
        refine pu_ 26 44 134217727 HT_ ?_
        refine pu_ 27 45 268435455 HT_ ?_
        refine dn_ HT_ ?_
        try go_wp2
        go_roundg k1
        case measure => have := HK1.out; omega
        case rel => exact ⟨(wrap64 (x3_1 + 1)), (by first | rfl | (simp; done) | (simp [*]; done)), H', ⟨by have := HK1.out; omega⟩, ⟨pB BK148⟩, ⟨pH HB⟩⟩
      ·replace c10 := Bool.eq_false_iff.mpr c10
       subst c10
       have H1 : (some false) = some r := by rw [if_neg (show ¬ (false = true) by decide)] at H; exact H
       clear H
       have H := H1
       clear H1
       obtain rfl := Option.some.inj H
       have hcz22_0 : wr.cell? ⟨gb148, 0, none⟩ = some (.int .i64 a0_0) := cB BK148 0
       have hcz22_1 : wr.cell? ⟨gb148, 1, none⟩ = some (.slice A0_1 l0_1.length c0_1) := cB BK148 1
       have hfz22_0 := zB BK148 0
       have hfz22_1 := zB BK148 1
       try go_wp2
       replace BK148 := dB BK148
       replace HB := dH HB
       have p150 : 0 ≤ (x3_1 : Int) := of_decide_eq_true (by first | (with_reducible assumption) | assumption)
       have q150 : x3_1 < (l0_1.length : Int) := of_decide_eq_true (by first | (with_reducible assumption) | assumption)
       obtain ⟨ad150, e150, hx150_0⟩ := Kd.at_int HR0_1.out x3_1 p150 q150
       have hw150_0 := hx150_0
       cases e150
       replace hx150_0 := cH HB hx150_0
       replace p150 := eq_true p150
       replace q150 := eq_true q150
       refine st_ 28 (S := fun w' => w'.cell? ⟨gb148, 0, none⟩ = some (.int .i64 a0_0) ∧ w'.cell? ⟨gb148, 1, none⟩ = some (.slice (some ad150) l0_1.length c0_1) ∧ w'.cell? (ad150.add (x3_1).toNat) = some (.int .i64 (rd l0_1 x3_1))) (ds := []) ⟨cB BK148 0, cB BK148 1, (cH HB hw150_0 :)⟩ (fun hHeld => ?_); refine with_tabW spec_l01Is.tab6 spec_l01Is.bits6 (fun HT_ HW_ => ?_)
       generalize wr.drew = w23 at BK148 HB hx150_0 hHeld ⊢
       refine pu_ 0 18 1 HT_ ?_
       refine pu_ 2 20 5 HT_ ?_
       refine pu_ 5 23 37 HT_ ?_
       refine tk_ 1 19 39 HT_ HW_ hHeld ?_
       refine pu_ 3 21 47 HT_ ?_
       refine tk_ 4 22 63 HT_ HW_ hHeld ?_
       refine tk_ 6 24 127 HT_ HW_ hHeld ?_
       refine on_ 7 (some 25) 255 HT_ (fun K hK => ?_)
       refine ca_ Try.func100 #[.int .i64 a0_0] ?_
       with_reducible refine (spec_l01All.calls a0_0 t151 _ A8.out).mono ?_
       rintro e w' ⟨rfl, ⟨nd, rfl⟩⟩
       refine ⟨_, rfl, ?_⟩
       refine hK.out _ _ ⟨cB BK148 0, cB BK148 1, (cH HB hw150_0 :)⟩ (fun hHeld => ?_)
       clear hK K
       refine nm_ ?_
       refine on_ 8 (some 26) 511 HT_ (fun K hK => ?_)
       refine ca_ Try.func52 #[.int .i64 (rd l0_1 x3_1), .int .i64 1, .int .i64 t151] ?_
       with_reducible refine (spec_l01In.calls (rd l0_1 x3_1) 1 t151 false _ A9.out).mono ?_
       rintro e w' ⟨rfl, ⟨nd, rfl⟩⟩
       refine ⟨_, rfl, ?_⟩
       refine hK.out _ _ ⟨cB BK148 0, cB BK148 1, (cH HB hw150_0 :)⟩ (fun hHeld => ?_)
       clear hK K
       refine nm_ ?_
       refine pu_ 9 27 1023 HT_ ?_
       refine pu_ 10 28 2047 HT_ ?_
       refine pn_ 11 29 4095 HT_ ?_
       refine pn_ 12 30 8191 HT_ ?_
       refine pn_ 13 31 16383 HT_ ?_
       refine pn_ 14 32 32767 HT_ ?_
       refine pn_ 15 33 65535 HT_ ?_
       refine pn_ 16 34 131071 HT_ ?_
       refine pn_ 17 35 262143 HT_ ?_
       refine pn_ 18 36 524287 HT_ ?_
       refine pn_ 19 37 1048575 HT_ ?_
       refine pn_ 20 38 2097151 HT_ ?_
       refine pn_ 21 39 4194303 HT_ ?_
       refine pn_ 22 40 8388607 HT_ ?_
       refine pn_ 23 41 16777215 HT_ ?_
       refine pn_ 24 42 33554431 HT_ ?_
       refine pn_ 25 43 67108863 HT_ ?_
       refine pn_ 26 44 134217727 HT_ ?_
       refine pu_ 27 45 268435455 HT_ ?_
       refine dn_ HT_ ?_
       try go_wp2
       go_ret
       exact ⟨by first | rfl | (simp [errW_none, errW_some] <;> rfl) | (simp [*, errW_none, errW_some] <;> rfl) | (exfalso; simp_all), pH HB⟩
     ·rw [if_neg c7] at H
      exact absurd H (by simp)
    ·rw [if_neg c6] at H
     have c6b0 : decide (x3_1 < (l0_1.length : Int)) = false := decide_eq_false c6
     clear c6
     have H' := Aside0.mk H
     clear H
     have hcz24_0 : wr.cell? ⟨gb148, 0, none⟩ = some (.int .i64 a0_0) := cB BK148 0
     have hcz24_1 : wr.cell? ⟨gb148, 1, none⟩ = some (.slice A0_1 l0_1.length c0_1) := cB BK148 1
     have hfz24_0 := zB BK148 0
     have hfz24_1 := zB BK148 1
     go_wp2
     go_loopg [4] k1 (fun kq v4 w' => ∃ (x4_2 : Int), v4 = .int .i64 x4_2 ∧ Aside0 (spec_l01Is.l1 kq x4_2 a0_0 l0_1 = some r) ∧ Aside0 (kq ≤ k1) ∧ Aside0 (w'.heap[gb148]? = some (.cells #[.int .i64 a0_0, (.slice A0_1 l0_1.length c0_1)] 28 (0, 0))) ∧ Aside0 (Below w.heap.size w w'))
     case atStart => exact ⟨(0), (by first | rfl | (simp; done) | (simp [*]; done)), H', ⟨Nat.le_refl _⟩, ⟨pB BK148⟩, ⟨pH HB⟩⟩
     case round =>
      clear H'
      try clear c1
      try clear p1
      try clear q1
      try clear hx1
      try clear p2
      try clear c5
      try clear c6
      try clear c6b0
      try clear p6
      try clear c7
      try clear c10
      try clear c11
      try clear c11b0
      try clear c13
      try clear c14
      try clear p15
      try clear q15
      try clear hx15
      try clear hcz20_0
      try clear hcz20_1
      try clear hcz22_0
      try clear hcz22_1
      try clear hcz24_0
      try clear hcz24_1
      try clear hfz20_0
      try clear hfz20_1
      try clear hfz22_0
      try clear hfz22_1
      try clear hfz24_0
      try clear hfz24_1
      try clear hx150_0
      try clear p150
      try clear q150
      obtain ⟨x4_2, rfl, HA, HK2, BK148, HB⟩ := hrel
      cases gk with
      | zero => exact absurd HA.out (by simp [spec_l01Is.l1])
      | succ k2 =>
       have H := HA.out
       clear HA
       simp only [spec_l01Is.l1] at H
       by_cases c25 : x4_2 < (l0_1.length : Int)
       ·rw [if_pos c25] at H
        have c25b0 : decide (x4_2 < (l0_1.length : Int)) = true := decide_eq_true c25
        clear c25
        by_cases c26 : 0 ≤ x4_2
        ·rw [if_pos c26] at H
         have c26b0 : decide (0 ≤ x4_2) = true := decide_eq_true c26
         clear c26
         replace H := Option.bind_eq_some_iff.mp H
         obtain ⟨t156, A270, H⟩ := H
         try dsimp only at H
         have A27 := Aside0.mk A270
         clear A270
         have H' := Aside0.mk H
         clear H
         have hcz28_0 : wr.cell? ⟨gb148, 0, none⟩ = some (.int .i64 a0_0) := cB BK148 0
         have hcz28_1 : wr.cell? ⟨gb148, 1, none⟩ = some (.slice A0_1 l0_1.length c0_1) := cB BK148 1
         have hfz28_0 := zB BK148 0
         have hfz28_1 := zB BK148 1
         have p155 : 0 ≤ (x4_2 : Int) := of_decide_eq_true (by first | (with_reducible assumption) | assumption)
         have q155 : x4_2 < (l0_1.length : Int) := of_decide_eq_true (by first | (with_reducible assumption) | assumption)
         obtain ⟨ad155, e155, hx155_0⟩ := Kd.at_int HR0_1.out x4_2 p155 q155
         cases e155
         replace hx155_0 := cH HB hx155_0
         replace p155 := eq_true p155
         replace q155 := eq_true q155
         go_wp2_with (first | ((with_reducible refine gate_callee (f := 101) rfl ?_); refine cl_ (some 58) Try.func101 #[.int .i64 (rd l0_1 x4_2)] ?_; (with_reducible refine (spec_l01Below.calls k2 (rd l0_1 x4_2) t156 _ A27.out).mono ?_); rintro e w29 ⟨v157, rfl, ho0, hb⟩; refine ⟨_, rfl, ?_⟩; have HO158 := Aside0.mk (Kd.R_lower ho0 (below_size (pH HB))); replace BK148 := sB BK148 hb; replace HB := sH HB hb; (try clear hb); (try clear hi); (try clear ho0)))
         go_loopg [6] k2 (fun kq v6 w' => ∃ (x6_3 : Int), v6 = .int .i64 x6_3 ∧ Aside0 (spec_l01Is.l2 kq x4_2 t156 x6_3 a0_0 l0_1 = some r) ∧ Aside0 (kq ≤ k2) ∧ Aside0 (Kd.R (Kd.int .i64) 2 w' w.heap.size (fun _ => True) v157 t156) ∧ Aside0 (w'.heap[gb148]? = some (.cells #[.int .i64 a0_0, (.slice (some ad155) l0_1.length c0_1)] 28 (0, 0))) ∧ Aside0 (Below w.heap.size w w'))
         case atStart => exact ⟨(0), (by first | rfl | (simp; done) | (simp [*]; done)), H', ⟨Nat.le_refl _⟩, ⟨by (with_reducible repeat (first | apply Kd.R_alloc | apply Kd.R_drewN | apply Kd.R_drew)); exact HO158.out⟩, ⟨pB BK148⟩, ⟨pH HB⟩⟩
         case round =>
          clear H'
          try clear c1
          try clear p1
          try clear q1
          try clear hx1
          try clear c2
          try clear p2
          try clear c5
          try clear c6
          try clear c6b0
          try clear p6
          try clear c7
          try clear c10
          try clear c11
          try clear c11b0
          try clear c13
          try clear c14
          try clear p15
          try clear q15
          try clear hx15
          try clear c25
          try clear c25b0
          try clear c26
          try clear c26b0
          try clear hcz20_0
          try clear hcz20_1
          try clear hcz22_0
          try clear hcz22_1
          try clear hcz24_0
          try clear hcz24_1
          try clear hcz28_0
          try clear hcz28_1
          try clear hfz20_0
          try clear hfz20_1
          try clear hfz22_0
          try clear hfz22_1
          try clear hfz24_0
          try clear hfz24_1
          try clear hfz28_0
          try clear hfz28_1
          try clear hx150_0
          try clear hx155_0
          try clear p1
          try clear p15
          try clear p150
          try clear p155
          try clear p2
          try clear p6
          try clear q1
          try clear q15
          try clear q150
          try clear q155
          obtain ⟨x6_3, rfl, HA, HK3, HO_5, BK148, HB⟩ := hrel
          cases gk with
          | zero => exact absurd HA.out (by simp [spec_l01Is.l2])
          | succ k3 =>
           have H := HA.out
           clear HA
           simp only [spec_l01Is.l2] at H
           by_cases c30 : x6_3 < (t156.length : Int)
           ·rw [if_pos c30] at H
            have c30b0 : decide (x6_3 < (t156.length : Int)) = true := decide_eq_true c30
            clear c30
            by_cases c31 : 0 ≤ x6_3
            ·rw [if_pos c31] at H
             have c31b0 : decide (0 ≤ x6_3) = true := decide_eq_true c31
             clear c31
             replace H := Option.bind_eq_some_iff.mp H
             obtain ⟨t160, A320, H⟩ := H
             try dsimp only at H
             have A32 := Aside0.mk A320
             clear A320
             by_cases c33 : t160 = true
             ·subst c33
              have H1 : (spec_l01Is.l2 k3 x4_2 t156 (wrap64 (x6_3 + 1)) a0_0 l0_1) = some r := by rw [if_pos rfl] at H; exact H
              clear H
              have H := H1
              clear H1
              have H' := Aside0.mk H
              clear H
              obtain ⟨Ao34, co34, eo34⟩ := Kd.R_slice HO_5.out
              subst eo34
              try go_wp2
              replace HO_5 := Aside0.mk (Kd.R_drew HO_5.out)
              replace BK148 := dB BK148
              replace HB := dH HB
              have p159 : 0 ≤ (x6_3 : Int) := of_decide_eq_true (by first | (with_reducible assumption) | assumption)
              have q159 : x6_3 < (t156.length : Int) := of_decide_eq_true (by first | (with_reducible assumption) | assumption)
              obtain ⟨ad159, e159, hx159_0⟩ := Kd.at_int (Kd.R_reads' HO_5.out).2.2 x6_3 p159 q159
              cases e159
              replace p159 := eq_true p159
              replace q159 := eq_true q159
              refine st_ 7 (S := fun w' => w'.cell? ⟨gb148, 0, none⟩ = some (.int .i64 a0_0) ∧ w'.cell? ⟨gb148, 1, none⟩ = some (.slice (some ad155) l0_1.length c0_1) ∧ w'.cell? (ad159.add (x6_3).toNat) = some (.int .i64 (rd t156 x6_3))) (ds := []) ⟨cB BK148 0, cB BK148 1, hx159_0⟩ (fun hHeld => ?_)
              generalize wr.drew = w35 at HO_5 BK148 HB hx159_0 hHeld ⊢
              refine pure_ (i := 1) (N := some 66) (v := ?_) (a' := ?_) (mB 7 2) rfl rfl (by kernel_rfl) (fun _ _ _ h => h) (Or.inl ⟨by rfl, ?_⟩) ?_ ?_
              rotate_left
              ·intro w'
               go_simp
               with_reducible rfl
              rotate_left
              ·simp only [Act.put, List.setIfInBounds_toArray, List.set_cons_zero, List.set_cons_succ, i64_w, i32_w]
               rfl
              refine pure_ (i := 2) (N := some 67) (v := ?_) (a' := ?_) (mB 7 6) rfl rfl (by kernel_rfl) (fun _ _ _ h => h) (Or.inl ⟨by rfl, ?_⟩) ?_ ?_
              rotate_left
              ·intro w'
               go_simp
               with_reducible rfl
              rotate_left
              ·simp only [Act.put, List.setIfInBounds_toArray, List.set_cons_zero, List.set_cons_succ, i64_w, i32_w]
               rfl
              refine pure_ (i := 3) (N := some 68) (v := ?_) (a' := ?_) (mB 7 14) rfl rfl (by kernel_rfl) (fun _ _ _ h => h) (Or.inl ⟨by rfl, ?_⟩) ?_ ?_
              rotate_left
              ·intro w'
               go_simp
               with_reducible rfl
              rotate_left
              ·simp only [Act.put, List.setIfInBounds_toArray, List.set_cons_zero, List.set_cons_succ, i64_w, i32_w]
               rfl
              refine take_ (i := 0) (N := some 65) (v := ?_) (a' := ?_) (mB 7 15) rfl rfl (by kernel_rfl) (fun _ _ _ h => h) (Or.inl ⟨by rfl, ?_⟩) hHeld ?_ ?_
              rotate_left
              ·rintro w' ⟨s0, s1, s2⟩
               go_simp
               with_reducible rfl
              rotate_left
              ·simp only [Act.put, List.setIfInBounds_toArray, List.set_cons_zero, List.set_cons_succ, i64_w, i32_w]
               rfl
              refine take_ (i := 4) (N := some 69) (v := ?_) (a' := ?_) (mB 7 31) rfl rfl (by kernel_rfl) (fun _ _ _ h => h) (Or.inl ⟨by rfl, ?_⟩) hHeld ?_ ?_
              rotate_left
              ·rintro w' ⟨s0, s1, s2⟩
               go_simp
               with_reducible rfl
              rotate_left
              ·simp only [Act.put, List.setIfInBounds_toArray, List.set_cons_zero, List.set_cons_succ, i64_w, i32_w]
               rfl
              refine one_ (i := 5) (N := some 70) (mB 7 63) rfl rfl (by kernel_rfl) (by decide) (fun K hK => ?_)
              refine ca_ Try.func102 #[.agg #[.int .i64 a0_0, .slice (some ad155) l0_1.length c0_1], .int .i64 (rd t156 x6_3)] ?_
              with_reducible refine (spec_l01Has.calls k3 a0_0 _ _ l0_1 (rd t156 x6_3) true _ ?side1 ?side2 A32.out).mono ?_
              (case side1 => exact pC ((Kd.C_below HR0_1.out HB.out)))
              (case side2 => exact HC0_1.out)
              rintro e w36 ⟨rfl, hb⟩
              have HS2_ := (hb.cell (World.block_lt_of_cell? _ _ (hHeld.2.2))).trans (hHeld.2.2)
              refine ⟨_, rfl, ?_⟩
              replace HO_5 := sR HO_5 hb
              replace BK148 := sB BK148 hb
              replace HB := sH HB hb
              (try clear hb)
              (try clear hb2)
              (try clear hk)
              (try clear hi)
              refine hK.out _ _ ⟨cB BK148 0, cB BK148 1, HS2_⟩ (fun hHeld => ?_)
              clear hK K
              refine nm_ ?_
              refine pure_ (i := 6) (N := some 71) (v := ?_) (a' := ?_) (mB 7 127) rfl rfl (by kernel_rfl) (fun _ _ _ h => h) (Or.inl ⟨by rfl, ?_⟩) ?_ ?_
              rotate_left
              ·intro w'
               go_simp
               with_reducible rfl
              rotate_left
              ·simp only [Act.put, List.setIfInBounds_toArray, List.set_cons_zero, List.set_cons_succ, i64_w, i32_w]
               rfl
              refine done_ (by kernel_rfl) ?_
              try go_wp2
              go_roundg k3
              case measure => have := HK1.out; have := HK2.out; have := HK3.out; omega
              case rel => exact ⟨(wrap64 (x6_3 + 1)), (by first | rfl | (simp; done) | (simp [*]; done)), H', ⟨by have := HK1.out; have := HK2.out; have := HK3.out; omega⟩, ⟨by (with_reducible repeat (first | apply Kd.R_alloc | apply Kd.R_drewN | apply Kd.R_drew)); exact HO_5.out⟩, ⟨pB BK148⟩, ⟨pH HB⟩⟩
             ·replace c33 := Bool.eq_false_iff.mpr c33
              subst c33
              have H1 : (some false) = some r := by rw [if_neg (show ¬ (false = true) by decide)] at H; exact H
              clear H
              have H := H1
              clear H1
              obtain rfl := Option.some.inj H
              obtain ⟨Ao37, co37, eo37⟩ := Kd.R_slice HO_5.out
              subst eo37
              try go_wp2
              replace HO_5 := Aside0.mk (Kd.R_drew HO_5.out)
              replace BK148 := dB BK148
              replace HB := dH HB
              have p159 : 0 ≤ (x6_3 : Int) := of_decide_eq_true (by first | (with_reducible assumption) | assumption)
              have q159 : x6_3 < (t156.length : Int) := of_decide_eq_true (by first | (with_reducible assumption) | assumption)
              obtain ⟨ad159, e159, hx159_0⟩ := Kd.at_int (Kd.R_reads' HO_5.out).2.2 x6_3 p159 q159
              cases e159
              replace p159 := eq_true p159
              replace q159 := eq_true q159
              refine st_ 7 (S := fun w' => w'.cell? ⟨gb148, 0, none⟩ = some (.int .i64 a0_0) ∧ w'.cell? ⟨gb148, 1, none⟩ = some (.slice (some ad155) l0_1.length c0_1) ∧ w'.cell? (ad159.add (x6_3).toNat) = some (.int .i64 (rd t156 x6_3))) (ds := []) ⟨cB BK148 0, cB BK148 1, hx159_0⟩ (fun hHeld => ?_)
              generalize wr.drew = w38 at HO_5 BK148 HB hx159_0 hHeld ⊢
              refine pure_ (i := 1) (N := some 66) (v := ?_) (a' := ?_) (mB 7 2) rfl rfl (by kernel_rfl) (fun _ _ _ h => h) (Or.inl ⟨by rfl, ?_⟩) ?_ ?_
              rotate_left
              ·intro w'
               go_simp
               with_reducible rfl
              rotate_left
              ·simp only [Act.put, List.setIfInBounds_toArray, List.set_cons_zero, List.set_cons_succ, i64_w, i32_w]
               rfl
              refine pure_ (i := 2) (N := some 67) (v := ?_) (a' := ?_) (mB 7 6) rfl rfl (by kernel_rfl) (fun _ _ _ h => h) (Or.inl ⟨by rfl, ?_⟩) ?_ ?_
              rotate_left
              ·intro w'
               go_simp
               with_reducible rfl
              rotate_left
              ·simp only [Act.put, List.setIfInBounds_toArray, List.set_cons_zero, List.set_cons_succ, i64_w, i32_w]
               rfl
              refine pure_ (i := 3) (N := some 68) (v := ?_) (a' := ?_) (mB 7 14) rfl rfl (by kernel_rfl) (fun _ _ _ h => h) (Or.inl ⟨by rfl, ?_⟩) ?_ ?_
              rotate_left
              ·intro w'
               go_simp
               with_reducible rfl
              rotate_left
              ·simp only [Act.put, List.setIfInBounds_toArray, List.set_cons_zero, List.set_cons_succ, i64_w, i32_w]
               rfl
              refine take_ (i := 0) (N := some 65) (v := ?_) (a' := ?_) (mB 7 15) rfl rfl (by kernel_rfl) (fun _ _ _ h => h) (Or.inl ⟨by rfl, ?_⟩) hHeld ?_ ?_
              rotate_left
              ·rintro w' ⟨s0, s1, s2⟩
               go_simp
               with_reducible rfl
              rotate_left
              ·simp only [Act.put, List.setIfInBounds_toArray, List.set_cons_zero, List.set_cons_succ, i64_w, i32_w]
               rfl
              refine take_ (i := 4) (N := some 69) (v := ?_) (a' := ?_) (mB 7 31) rfl rfl (by kernel_rfl) (fun _ _ _ h => h) (Or.inl ⟨by rfl, ?_⟩) hHeld ?_ ?_
              rotate_left
              ·rintro w' ⟨s0, s1, s2⟩
               go_simp
               with_reducible rfl
              rotate_left
              ·simp only [Act.put, List.setIfInBounds_toArray, List.set_cons_zero, List.set_cons_succ, i64_w, i32_w]
               rfl
              refine one_ (i := 5) (N := some 70) (mB 7 63) rfl rfl (by kernel_rfl) (by decide) (fun K hK => ?_)
              refine ca_ Try.func102 #[.agg #[.int .i64 a0_0, .slice (some ad155) l0_1.length c0_1], .int .i64 (rd t156 x6_3)] ?_
              with_reducible refine (spec_l01Has.calls k3 a0_0 _ _ l0_1 (rd t156 x6_3) false _ ?side1 ?side2 A32.out).mono ?_
              (case side1 => exact pC ((Kd.C_below HR0_1.out HB.out)))
              (case side2 => exact HC0_1.out)
              rintro e w39 ⟨rfl, hb⟩
              have HS2_ := (hb.cell (World.block_lt_of_cell? _ _ (hHeld.2.2))).trans (hHeld.2.2)
              refine ⟨_, rfl, ?_⟩
              replace HO_5 := sR HO_5 hb
              replace BK148 := sB BK148 hb
              replace HB := sH HB hb
              (try clear hb)
              (try clear hb2)
              (try clear hk)
              (try clear hi)
              refine hK.out _ _ ⟨cB BK148 0, cB BK148 1, HS2_⟩ (fun hHeld => ?_)
              clear hK K
              refine nm_ ?_
              refine pure_ (i := 6) (N := some 71) (v := ?_) (a' := ?_) (mB 7 127) rfl rfl (by kernel_rfl) (fun _ _ _ h => h) (Or.inl ⟨by rfl, ?_⟩) ?_ ?_
              rotate_left
              ·intro w'
               go_simp
               with_reducible rfl
              rotate_left
              ·simp only [Act.put, List.setIfInBounds_toArray, List.set_cons_zero, List.set_cons_succ, i64_w, i32_w]
               rfl
              refine done_ (by kernel_rfl) ?_
              try go_wp2
              go_ret
              exact ⟨by first | rfl | (simp [errW_none, errW_some] <;> rfl) | (simp [*, errW_none, errW_some] <;> rfl) | (exfalso; simp_all), pH HB⟩
            ·rw [if_neg c31] at H
             exact absurd H (by simp)
           ·rw [if_neg c30] at H
            have c30b0 : decide (x6_3 < (t156.length : Int)) = false := decide_eq_false c30
            clear c30
            have H' := Aside0.mk H
            clear H
            obtain ⟨Ao40, co40, eo40⟩ := Kd.R_slice HO_5.out
            subst eo40
            go_wp2
            go_roundg k3
            case measure => have := HK1.out; have := HK2.out; have := HK3.out; omega
            case rel => exact ⟨(wrap64 (x4_2 + 1)), (by first | rfl | (simp; done) | (simp [*]; done)), H', ⟨by have := HK1.out; have := HK2.out; have := HK3.out; omega⟩, ⟨pB BK148⟩, ⟨pH HB⟩⟩
        ·rw [if_neg c26] at H
         exact absurd H (by simp)
       ·rw [if_neg c25] at H
        have c25b0 : decide (x4_2 < (l0_1.length : Int)) = false := decide_eq_false c25
        clear c25
        obtain rfl := Option.some.inj H
        have hcz41_0 : wr.cell? ⟨gb148, 0, none⟩ = some (.int .i64 a0_0) := cB BK148 0
        have hcz41_1 : wr.cell? ⟨gb148, 1, none⟩ = some (.slice A0_1 l0_1.length c0_1) := cB BK148 1
        have hfz41_0 := zB BK148 0
        have hfz41_1 := zB BK148 1
        go_wp2
        go_ret
        exact ⟨by first | rfl | (simp [errW_none, errW_some] <;> rfl) | (simp [*, errW_none, errW_some] <;> rfl) | (exfalso; simp_all), pH HB⟩
 ·replace c3 := Bool.eq_false_iff.mpr c3
  subst c3
  have H1 : (some false) = some r := by rw [if_neg (show ¬ (false = true) by decide)] at H; exact H
  clear H
  have H := H1
  clear H1
  obtain rfl := Option.some.inj H
  go_enter Try.func50, Try.ntmps50
  go_wp2_with (first | ((with_reducible refine gate_dst (N := 1) rfl ?_); refine box_event ?hg (N := 1) ?hd (cs := #[.int .i64 a0_0, .slice A0_1 l0_1.length c0_1]) (t := 28) ?hr ?_; (case hd => rfl); (case hg => rfl); (case hr => first | (go_simp; done) | (go_simp; rfl)); intro gb148 hg w42 hbox hb; have BK148 := Aside0.mk (hbox); have GW148 := gH HB hg; have GE148 := gH HB hg; replace HB := sH HB hb; clear hb hbox hg; have hcz43_0 : w42.cell? ⟨gb148, 0, none⟩ = some (.int .i64 a0_0) := cB BK148 0; have hcz43_1 : w42.cell? ⟨gb148, 1, none⟩ = some (.slice A0_1 l0_1.length c0_1) := cB BK148 1; have hfz43_0 := zB BK148 0; have hfz43_1 := zB BK148 1) | ((with_reducible refine gate_callee (f := 52) rfl ?_); refine cl_ (some 9) Try.func52 #[.int .i64 a0_0, .int .i64 1, .int .i64 6] ?_; (with_reducible refine (spec_l01In.calls a0_0 1 6 false _ A2.out).mono ?_); rintro e w' ⟨rfl, ⟨nd, rfl⟩⟩; refine ⟨_, rfl, ?_⟩))
  go_ret
  exact ⟨by first | rfl | (simp [errW_none, errW_some] <;> rfl) | (simp [*, errW_none, errW_some] <;> rfl) | (exfalso; simp_all), pH HB⟩
end Go.Proofs.Ytomdfjohnmikdaa.QS
namespace Go.Proofs.Ytomdfjohnmikdaa.QS
open Go.Proofs.Ytomdfjohnmikdaa.Cw Go.Proofs.Ytomdfjohnmikdaa.Kp Go.Proofs.Ytomdfjohnmikdaa.Ext Go.RowKit Go.Proofs.YtomdfjohnmikdaaW.PrintWords Go.Proofs.YtomdfjohnmikdaaW.PrintLast Go.Proofs.YtomdfjohnmikdaaW.PrintMore
attribute [local go_sem] max2_int min2_int max_two min_two max_three min_three max_four min_four   -- for this text's walks alone
set_option linter.unusedVariables false
set_option linter.unusedSimpArgs false
def spec_l02Code.l0 : Nat → List Int → Int → Int → List Int → Option (Int)
 | 0, _, _, _, _ => none
 | k + 1, x2, x7, x253000, x253001 => if x7 < (x2.length : Int) then (if 0 ≤ x7 then ((spec_l01Has.f k x253000 x253001 (rd x2 x7)).bind fun t256 => (if t256 = true then (spec_l02Code.l0 k x2 (wrap64 (x7 + 1)) x253000 x253001) else (some 2))) else (none)) else (some 0)
def spec_l02Code.f (k : Nat) (a0_0 : Int) (l0_1 : List Int) (l1 : List (S73)) (l2 : List Int) : Option (Int) := (spec_l01Is.f k a0_0 l0_1).bind fun t253 => (if t253 = true then ((spec_l02Is.f k a0_0 l0_1 l1).bind fun t254 => (if t254 = true then (spec_l02Code.l0 k l2 0 a0_0 l0_1) else (some 2))) else (some 1))
set_option maxHeartbeats 8000000 in
set_option maxRecDepth 100000 in
theorem spec_l02Code.calls (k : Nat) (a0_0 : Int) (A0_1 : Option Addr) (c0_1 : Nat) (l0_1 : List Int) (A1 : Option Addr) (c1 : Nat) (l1 : List (S73)) (A2 : Option Addr) (c2 : Nat) (l2 : List Int) (r : Int) (w : World) (hr0_1 : Kd.C (Kd.int .i64) w A0_1 l0_1.length l0_1) (hc0_1 : l0_1.length ≤ c0_1) (hr1 : Kd.C k73 w A1 l1.length l1) (hc1 : l1.length ≤ c1) (hr2 : Kd.C (Kd.int .i64) w A2 l2.length l2) (hc2 : l2.length ≤ c2) (h : spec_l02Code.f k a0_0 l0_1 l1 l2 = some r) :
  Calls Try.prog 96 #[.agg #[.int .i64 a0_0, .slice A0_1 l0_1.length c0_1], .slice A1 l1.length c1, .slice A2 l2.length c2] w fun e w' => e = .returned (.int .i64 r) ∧ Below w.heap.size w w' := by
 have hu28 := Try.underlying28
 have HR0_1 := Aside0.mk hr0_1
 have HC0_1 := Aside0.mk hc0_1
 clear hr0_1 hc0_1
 have HR1 := Aside0.mk hr1
 have HC1 := Aside0.mk hc1
 clear hr1 hc1
 have HR2 := Aside0.mk hr2
 have HC2 := Aside0.mk hc2
 clear hr2 hc2
 have HB := Aside0.mk (Below.refl w.heap.size w)
 have H : ((spec_l01Is.f k a0_0 l0_1).bind fun t253 => (if t253 = true then ((spec_l02Is.f k a0_0 l0_1 l1).bind fun t254 => (if t254 = true then (spec_l02Code.l0 k l2 0 a0_0 l0_1) else (some 2))) else (some 1))) = some r := h
 clear h
 replace H := Option.bind_eq_some_iff.mp H
 obtain ⟨t253, A40, H⟩ := H
 try dsimp only at H
 have A4 := Aside0.mk A40
 clear A40
 by_cases c5 : t253 = true
 ·subst c5
  have H1 : ((spec_l02Is.f k a0_0 l0_1 l1).bind fun t254 => (if t254 = true then (spec_l02Code.l0 k l2 0 a0_0 l0_1) else (some 2))) = some r := by rw [if_pos rfl] at H; exact H
  clear H
  have H := H1
  clear H1
  replace H := Option.bind_eq_some_iff.mp H
  obtain ⟨t254, A60, H⟩ := H
  try dsimp only at H
  have A6 := Aside0.mk A60
  clear A60
  by_cases c7 : t254 = true
  ·subst c7
   have H1 : (spec_l02Code.l0 k l2 0 a0_0 l0_1) = some r := by rw [if_pos rfl] at H; exact H
   clear H
   have H := H1
   clear H1
   have H' := Aside0.mk H
   clear H
   go_enter Try.func96, Try.ntmps96
   go_wp2_with (first | ((with_reducible refine gate_dst (N := 3) rfl ?_); refine box_event ?hg (N := 3) ?hd (cs := #[.int .i64 a0_0, .slice A0_1 l0_1.length c0_1]) (t := 28) ?hr ?_; (case hd => rfl); (case hg => rfl); (case hr => first | (go_simp; done) | (go_simp; rfl)); intro gb252 hg w8 hbox hb; have BK252 := Aside0.mk (hbox); have GW252 := gH HB hg; have GE252 := gH HB hg; replace HB := sH HB hb; clear hb hbox hg; have hcz9_0 : w8.cell? ⟨gb252, 0, none⟩ = some (.int .i64 a0_0) := cB BK252 0; have hcz9_1 : w8.cell? ⟨gb252, 1, none⟩ = some (.slice A0_1 l0_1.length c0_1) := cB BK252 1; have hfz9_0 := zB BK252 0; have hfz9_1 := zB BK252 1) | ((with_reducible refine gate_callee (f := 50) rfl ?_); refine cl_ (some 9) Try.func50 #[.agg #[.int .i64 a0_0, .slice A0_1 l0_1.length c0_1]] ?_; (with_reducible refine (spec_l01Is.calls k a0_0 _ _ l0_1 true _ ?side1 ?side2 A4.out).mono ?_); (case side1 => exact pC ((Kd.C_below HR0_1.out HB.out))); (case side2 => exact HC0_1.out); rintro e w10 ⟨rfl, hb⟩; refine ⟨_, rfl, ?_⟩; replace BK252 := sB BK252 hb; replace HB := sH HB hb; (try clear hb); (try clear hi); have hcz11_0 : w10.cell? ⟨gb252, 0, none⟩ = some (.int .i64 a0_0) := cB BK252 0; have hcz11_1 : w10.cell? ⟨gb252, 1, none⟩ = some (.slice A0_1 l0_1.length c0_1) := cB BK252 1; have hfz11_0 := zB BK252 0; have hfz11_1 := zB BK252 1) | ((with_reducible refine gate_callee (f := 144) rfl ?_); refine cl_ (some 13) Try.func144 #[.agg #[.int .i64 a0_0, .slice A0_1 l0_1.length c0_1], .slice A1 l1.length c1] ?_; (with_reducible refine (spec_l02Is.calls k a0_0 _ _ l0_1 _ _ l1 true _ ?side1 ?side2 ?side3 ?side4 A6.out).mono ?_); (case side1 => exact pC ((Kd.C_below HR0_1.out HB.out))); (case side2 => exact HC0_1.out); (case side3 => exact pC ((Kd.C_below HR1.out HB.out))); (case side4 => exact HC1.out); rintro e w12 ⟨rfl, hb⟩; refine ⟨_, rfl, ?_⟩; replace BK252 := sB BK252 hb; replace HB := sH HB hb; (try clear hb); (try clear hi)))
   go_loopg [7] k (fun kq v7 w' => ∃ (x7_1 : Int), v7 = .int .i64 x7_1 ∧ Aside0 (spec_l02Code.l0 kq l2 x7_1 a0_0 l0_1 = some r) ∧ Aside0 (kq ≤ k) ∧ Aside0 (w'.heap[gb252]? = some (.cells #[.int .i64 a0_0, (.slice A0_1 l0_1.length c0_1)] 28 (0, 0))) ∧ Aside0 (Below w.heap.size w w'))
   case atStart => exact ⟨(0), (by first | rfl | (simp; done) | (simp [*]; done)), H', ⟨Nat.le_refl _⟩, ⟨pB BK252⟩, ⟨pH HB⟩⟩
   case round =>
    clear H'
    try clear c1
    try clear c2
    try clear p2
    try clear c5
    try clear c7
    try clear c9
    try clear hcz11_0
    try clear hcz11_1
    try clear hcz9_0
    try clear hcz9_1
    try clear hfz11_0
    try clear hfz11_1
    try clear hfz9_0
    try clear hfz9_1
    obtain ⟨x7_1, rfl, HA, HK1, BK252, HB⟩ := hrel
    cases gk with
    | zero => exact absurd HA.out (by simp [spec_l02Code.l0])
    | succ k1 =>
     have H := HA.out
     clear HA
     simp only [spec_l02Code.l0] at H
     by_cases c13 : x7_1 < (l2.length : Int)
     ·rw [if_pos c13] at H
      have c13b0 : decide (x7_1 < (l2.length : Int)) = true := decide_eq_true c13
      clear c13
      by_cases c14 : 0 ≤ x7_1
      ·rw [if_pos c14] at H
       have c14b0 : decide (0 ≤ x7_1) = true := decide_eq_true c14
       clear c14
       replace H := Option.bind_eq_some_iff.mp H
       obtain ⟨t256, A150, H⟩ := H
       try dsimp only at H
       have A15 := Aside0.mk A150
       clear A150
       by_cases c16 : t256 = true
       ·subst c16
        have H1 : (spec_l02Code.l0 k1 l2 (wrap64 (x7_1 + 1)) a0_0 l0_1) = some r := by rw [if_pos rfl] at H; exact H
        clear H
        have H := H1
        clear H1
        have H' := Aside0.mk H
        clear H
        try go_wp2
        replace BK252 := dB BK252
        replace HB := dH HB
        have p255 : 0 ≤ (x7_1 : Int) := of_decide_eq_true (by first | (with_reducible assumption) | assumption)
        have q255 : x7_1 < (l2.length : Int) := of_decide_eq_true (by first | (with_reducible assumption) | assumption)
        obtain ⟨ad255, e255, hx255_0⟩ := Kd.at_int HR2.out x7_1 p255 q255
        have hw255_0 := hx255_0
        cases e255
        replace hx255_0 := cH HB hx255_0
        replace p255 := eq_true p255
        replace q255 := eq_true q255
        refine st_ 7 (S := fun w' => w'.cell? ⟨gb252, 0, none⟩ = some (.int .i64 a0_0) ∧ w'.cell? ⟨gb252, 1, none⟩ = some (.slice A0_1 l0_1.length c0_1) ∧ w'.cell? (ad255.add (x7_1).toNat) = some (.int .i64 (rd l2 x7_1))) (ds := []) ⟨cB BK252 0, cB BK252 1, (cH HB hw255_0 :)⟩ (fun hHeld => ?_)
        generalize wr.drew = w17 at BK252 HB hx255_0 hHeld ⊢
        refine pure_ (i := 1) (N := some 22) (v := ?_) (a' := ?_) (mB 7 2) rfl rfl (by kernel_rfl) (fun _ _ _ h => h) (Or.inl ⟨by rfl, ?_⟩) ?_ ?_
        rotate_left
        ·intro w'
         go_simp
         with_reducible rfl
        rotate_left
        ·simp only [Act.put, List.setIfInBounds_toArray, List.set_cons_zero, List.set_cons_succ, i64_w, i32_w]
         rfl
        refine pure_ (i := 2) (N := some 23) (v := ?_) (a' := ?_) (mB 7 6) rfl rfl (by kernel_rfl) (fun _ _ _ h => h) (Or.inl ⟨by rfl, ?_⟩) ?_ ?_
        rotate_left
        ·intro w'
         go_simp
         with_reducible rfl
        rotate_left
        ·simp only [Act.put, List.setIfInBounds_toArray, List.set_cons_zero, List.set_cons_succ, i64_w, i32_w]
         rfl
        refine pure_ (i := 3) (N := some 24) (v := ?_) (a' := ?_) (mB 7 14) rfl rfl (by kernel_rfl) (fun _ _ _ h => h) (Or.inl ⟨by rfl, ?_⟩) ?_ ?_
        rotate_left
        ·intro w'
         go_simp
         with_reducible rfl
        rotate_left
        ·simp only [Act.put, List.setIfInBounds_toArray, List.set_cons_zero, List.set_cons_succ, i64_w, i32_w]
         rfl
        refine take_ (i := 0) (N := some 21) (v := ?_) (a' := ?_) (mB 7 15) rfl rfl (by kernel_rfl) (fun _ _ _ h => h) (Or.inl ⟨by rfl, ?_⟩) hHeld ?_ ?_
        rotate_left
        ·rintro w' ⟨s0, s1, s2⟩
         go_simp
         with_reducible rfl
        rotate_left
        ·simp only [Act.put, List.setIfInBounds_toArray, List.set_cons_zero, List.set_cons_succ, i64_w, i32_w]
         rfl
        refine take_ (i := 4) (N := some 25) (v := ?_) (a' := ?_) (mB 7 31) rfl rfl (by kernel_rfl) (fun _ _ _ h => h) (Or.inl ⟨by rfl, ?_⟩) hHeld ?_ ?_
        rotate_left
        ·rintro w' ⟨s0, s1, s2⟩
         go_simp
         with_reducible rfl
        rotate_left
        ·simp only [Act.put, List.setIfInBounds_toArray, List.set_cons_zero, List.set_cons_succ, i64_w, i32_w]
         rfl
        refine one_ (i := 5) (N := some 26) (mB 7 63) rfl rfl (by kernel_rfl) (by decide) (fun K hK => ?_)
        refine ca_ Try.func102 #[.agg #[.int .i64 a0_0, .slice A0_1 l0_1.length c0_1], .int .i64 (rd l2 x7_1)] ?_
        with_reducible refine (spec_l01Has.calls k1 a0_0 _ _ l0_1 (rd l2 x7_1) true _ ?side1 ?side2 A15.out).mono ?_
        (case side1 => exact pC ((Kd.C_below HR0_1.out HB.out)))
        (case side2 => exact HC0_1.out)
        rintro e w18 ⟨rfl, hb⟩
        refine ⟨_, rfl, ?_⟩
        replace BK252 := sB BK252 hb
        replace HB := sH HB hb
        (try clear hb)
        (try clear hb2)
        (try clear hk)
        (try clear hi)
        refine hK.out _ _ ⟨cB BK252 0, cB BK252 1, (cH HB hw255_0 :)⟩ (fun hHeld => ?_)
        clear hK K
        refine nm_ ?_
        refine pure_ (i := 6) (N := some 27) (v := ?_) (a' := ?_) (mB 7 127) rfl rfl (by kernel_rfl) (fun _ _ _ h => h) (Or.inl ⟨by rfl, ?_⟩) ?_ ?_
        rotate_left
        ·intro w'
         go_simp
         with_reducible rfl
        rotate_left
        ·simp only [Act.put, List.setIfInBounds_toArray, List.set_cons_zero, List.set_cons_succ, i64_w, i32_w]
         rfl
        refine done_ (by kernel_rfl) ?_
        try go_wp2
        go_roundg k1
        case measure => have := HK1.out; omega
        case rel => exact ⟨(wrap64 (x7_1 + 1)), (by first | rfl | (simp; done) | (simp [*]; done)), H', ⟨by have := HK1.out; omega⟩, ⟨pB BK252⟩, ⟨pH HB⟩⟩
       ·replace c16 := Bool.eq_false_iff.mpr c16
        subst c16
        have H1 : (some 2) = some r := by rw [if_neg (show ¬ (false = true) by decide)] at H; exact H
        clear H
        have H := H1
        clear H1
        obtain rfl := Option.some.inj H
        try go_wp2
        replace BK252 := dB BK252
        replace HB := dH HB
        have p255 : 0 ≤ (x7_1 : Int) := of_decide_eq_true (by first | (with_reducible assumption) | assumption)
        have q255 : x7_1 < (l2.length : Int) := of_decide_eq_true (by first | (with_reducible assumption) | assumption)
        obtain ⟨ad255, e255, hx255_0⟩ := Kd.at_int HR2.out x7_1 p255 q255
        have hw255_0 := hx255_0
        cases e255
        replace hx255_0 := cH HB hx255_0
        replace p255 := eq_true p255
        replace q255 := eq_true q255
        refine st_ 7 (S := fun w' => w'.cell? ⟨gb252, 0, none⟩ = some (.int .i64 a0_0) ∧ w'.cell? ⟨gb252, 1, none⟩ = some (.slice A0_1 l0_1.length c0_1) ∧ w'.cell? (ad255.add (x7_1).toNat) = some (.int .i64 (rd l2 x7_1))) (ds := []) ⟨cB BK252 0, cB BK252 1, (cH HB hw255_0 :)⟩ (fun hHeld => ?_)
        generalize wr.drew = w19 at BK252 HB hx255_0 hHeld ⊢
        refine pure_ (i := 1) (N := some 22) (v := ?_) (a' := ?_) (mB 7 2) rfl rfl (by kernel_rfl) (fun _ _ _ h => h) (Or.inl ⟨by rfl, ?_⟩) ?_ ?_
        rotate_left
        ·intro w'
         go_simp
         with_reducible rfl
        rotate_left
        ·simp only [Act.put, List.setIfInBounds_toArray, List.set_cons_zero, List.set_cons_succ, i64_w, i32_w]
         rfl
        refine pure_ (i := 2) (N := some 23) (v := ?_) (a' := ?_) (mB 7 6) rfl rfl (by kernel_rfl) (fun _ _ _ h => h) (Or.inl ⟨by rfl, ?_⟩) ?_ ?_
        rotate_left
        ·intro w'
         go_simp
         with_reducible rfl
        rotate_left
        ·simp only [Act.put, List.setIfInBounds_toArray, List.set_cons_zero, List.set_cons_succ, i64_w, i32_w]
         rfl
        refine pure_ (i := 3) (N := some 24) (v := ?_) (a' := ?_) (mB 7 14) rfl rfl (by kernel_rfl) (fun _ _ _ h => h) (Or.inl ⟨by rfl, ?_⟩) ?_ ?_
        rotate_left
        ·intro w'
         go_simp
         with_reducible rfl
        rotate_left
        ·simp only [Act.put, List.setIfInBounds_toArray, List.set_cons_zero, List.set_cons_succ, i64_w, i32_w]
         rfl
        refine take_ (i := 0) (N := some 21) (v := ?_) (a' := ?_) (mB 7 15) rfl rfl (by kernel_rfl) (fun _ _ _ h => h) (Or.inl ⟨by rfl, ?_⟩) hHeld ?_ ?_
        rotate_left
        ·rintro w' ⟨s0, s1, s2⟩
         go_simp
         with_reducible rfl
        rotate_left
        ·simp only [Act.put, List.setIfInBounds_toArray, List.set_cons_zero, List.set_cons_succ, i64_w, i32_w]
         rfl
        refine take_ (i := 4) (N := some 25) (v := ?_) (a' := ?_) (mB 7 31) rfl rfl (by kernel_rfl) (fun _ _ _ h => h) (Or.inl ⟨by rfl, ?_⟩) hHeld ?_ ?_
        rotate_left
        ·rintro w' ⟨s0, s1, s2⟩
         go_simp
         with_reducible rfl
        rotate_left
        ·simp only [Act.put, List.setIfInBounds_toArray, List.set_cons_zero, List.set_cons_succ, i64_w, i32_w]
         rfl
        refine one_ (i := 5) (N := some 26) (mB 7 63) rfl rfl (by kernel_rfl) (by decide) (fun K hK => ?_)
        refine ca_ Try.func102 #[.agg #[.int .i64 a0_0, .slice A0_1 l0_1.length c0_1], .int .i64 (rd l2 x7_1)] ?_
        with_reducible refine (spec_l01Has.calls k1 a0_0 _ _ l0_1 (rd l2 x7_1) false _ ?side1 ?side2 A15.out).mono ?_
        (case side1 => exact pC ((Kd.C_below HR0_1.out HB.out)))
        (case side2 => exact HC0_1.out)
        rintro e w20 ⟨rfl, hb⟩
        refine ⟨_, rfl, ?_⟩
        replace BK252 := sB BK252 hb
        replace HB := sH HB hb
        (try clear hb)
        (try clear hb2)
        (try clear hk)
        (try clear hi)
        refine hK.out _ _ ⟨cB BK252 0, cB BK252 1, (cH HB hw255_0 :)⟩ (fun hHeld => ?_)
        clear hK K
        refine nm_ ?_
        refine pure_ (i := 6) (N := some 27) (v := ?_) (a' := ?_) (mB 7 127) rfl rfl (by kernel_rfl) (fun _ _ _ h => h) (Or.inl ⟨by rfl, ?_⟩) ?_ ?_
        rotate_left
        ·intro w'
         go_simp
         with_reducible rfl
        rotate_left
        ·simp only [Act.put, List.setIfInBounds_toArray, List.set_cons_zero, List.set_cons_succ, i64_w, i32_w]
         rfl
        refine done_ (by kernel_rfl) ?_
        try go_wp2
        go_ret
        exact ⟨by first | rfl | (simp [errW_none, errW_some] <;> rfl) | (simp [*, errW_none, errW_some] <;> rfl) | (exfalso; simp_all), pH HB⟩
      ·rw [if_neg c14] at H
       exact absurd H (by simp)
     ·rw [if_neg c13] at H
      have c13b0 : decide (x7_1 < (l2.length : Int)) = false := decide_eq_false c13
      clear c13
      obtain rfl := Option.some.inj H
      go_wp2
      go_ret
      exact ⟨by first | rfl | (simp [errW_none, errW_some] <;> rfl) | (simp [*, errW_none, errW_some] <;> rfl) | (exfalso; simp_all), pH HB⟩
  ·replace c7 := Bool.eq_false_iff.mpr c7
   subst c7
   have H1 : (some 2) = some r := by rw [if_neg (show ¬ (false = true) by decide)] at H; exact H
   clear H
   have H := H1
   clear H1
   obtain rfl := Option.some.inj H
   go_enter Try.func96, Try.ntmps96
   go_wp2_with (first | ((with_reducible refine gate_dst (N := 3) rfl ?_); refine box_event ?hg (N := 3) ?hd (cs := #[.int .i64 a0_0, .slice A0_1 l0_1.length c0_1]) (t := 28) ?hr ?_; (case hd => rfl); (case hg => rfl); (case hr => first | (go_simp; done) | (go_simp; rfl)); intro gb252 hg w21 hbox hb; have BK252 := Aside0.mk (hbox); have GW252 := gH HB hg; have GE252 := gH HB hg; replace HB := sH HB hb; clear hb hbox hg; have hcz22_0 : w21.cell? ⟨gb252, 0, none⟩ = some (.int .i64 a0_0) := cB BK252 0; have hcz22_1 : w21.cell? ⟨gb252, 1, none⟩ = some (.slice A0_1 l0_1.length c0_1) := cB BK252 1; have hfz22_0 := zB BK252 0; have hfz22_1 := zB BK252 1) | ((with_reducible refine gate_callee (f := 50) rfl ?_); refine cl_ (some 9) Try.func50 #[.agg #[.int .i64 a0_0, .slice A0_1 l0_1.length c0_1]] ?_; (with_reducible refine (spec_l01Is.calls k a0_0 _ _ l0_1 true _ ?side1 ?side2 A4.out).mono ?_); (case side1 => exact pC ((Kd.C_below HR0_1.out HB.out))); (case side2 => exact HC0_1.out); rintro e w23 ⟨rfl, hb⟩; refine ⟨_, rfl, ?_⟩; replace BK252 := sB BK252 hb; replace HB := sH HB hb; (try clear hb); (try clear hi); have hcz24_0 : w23.cell? ⟨gb252, 0, none⟩ = some (.int .i64 a0_0) := cB BK252 0; have hcz24_1 : w23.cell? ⟨gb252, 1, none⟩ = some (.slice A0_1 l0_1.length c0_1) := cB BK252 1; have hfz24_0 := zB BK252 0; have hfz24_1 := zB BK252 1) | ((with_reducible refine gate_callee (f := 144) rfl ?_); refine cl_ (some 13) Try.func144 #[.agg #[.int .i64 a0_0, .slice A0_1 l0_1.length c0_1], .slice A1 l1.length c1] ?_; (with_reducible refine (spec_l02Is.calls k a0_0 _ _ l0_1 _ _ l1 false _ ?side1 ?side2 ?side3 ?side4 A6.out).mono ?_); (case side1 => exact pC ((Kd.C_below HR0_1.out HB.out))); (case side2 => exact HC0_1.out); (case side3 => exact pC ((Kd.C_below HR1.out HB.out))); (case side4 => exact HC1.out); rintro e w25 ⟨rfl, hb⟩; refine ⟨_, rfl, ?_⟩; replace BK252 := sB BK252 hb; replace HB := sH HB hb; (try clear hb); (try clear hi)))
   go_ret
   exact ⟨by first | rfl | (simp [errW_none, errW_some] <;> rfl) | (simp [*, errW_none, errW_some] <;> rfl) | (exfalso; simp_all), pH HB⟩
 ·replace c5 := Bool.eq_false_iff.mpr c5
  subst c5
  have H1 : (some 1) = some r := by rw [if_neg (show ¬ (false = true) by decide)] at H; exact H
  clear H
  have H := H1
  clear H1
  obtain rfl := Option.some.inj H
  go_enter Try.func96, Try.ntmps96
  go_wp2_with (first | ((with_reducible refine gate_dst (N := 3) rfl ?_); refine box_event ?hg (N := 3) ?hd (cs := #[.int .i64 a0_0, .slice A0_1 l0_1.length c0_1]) (t := 28) ?hr ?_; (case hd => rfl); (case hg => rfl); (case hr => first | (go_simp; done) | (go_simp; rfl)); intro gb252 hg w26 hbox hb; have BK252 := Aside0.mk (hbox); have GW252 := gH HB hg; have GE252 := gH HB hg; replace HB := sH HB hb; clear hb hbox hg; have hcz27_0 : w26.cell? ⟨gb252, 0, none⟩ = some (.int .i64 a0_0) := cB BK252 0; have hcz27_1 : w26.cell? ⟨gb252, 1, none⟩ = some (.slice A0_1 l0_1.length c0_1) := cB BK252 1; have hfz27_0 := zB BK252 0; have hfz27_1 := zB BK252 1) | ((with_reducible refine gate_callee (f := 50) rfl ?_); refine cl_ (some 9) Try.func50 #[.agg #[.int .i64 a0_0, .slice A0_1 l0_1.length c0_1]] ?_; (with_reducible refine (spec_l01Is.calls k a0_0 _ _ l0_1 false _ ?side1 ?side2 A4.out).mono ?_); (case side1 => exact pC ((Kd.C_below HR0_1.out HB.out))); (case side2 => exact HC0_1.out); rintro e w28 ⟨rfl, hb⟩; refine ⟨_, rfl, ?_⟩; replace BK252 := sB BK252 hb; replace HB := sH HB hb; (try clear hb); (try clear hi)))
  go_ret
  exact ⟨by first | rfl | (simp [errW_none, errW_some] <;> rfl) | (simp [*, errW_none, errW_some] <;> rfl) | (exfalso; simp_all), pH HB⟩
end Go.Proofs.Ytomdfjohnmikdaa.QS
namespace Go.Proofs.Ytomdfjohnmikdaa.QS
open Go.Proofs.Ytomdfjohnmikdaa.Cw Go.Proofs.Ytomdfjohnmikdaa.Kp Go.Proofs.Ytomdfjohnmikdaa.Ext Go.RowKit Go.Proofs.YtomdfjohnmikdaaW.PrintWords Go.Proofs.YtomdfjohnmikdaaW.PrintLast Go.Proofs.YtomdfjohnmikdaaW.PrintMore
attribute [local go_sem] max2_int min2_int max_two min_two max_three min_three max_four min_four   -- for this text's walks alone
set_option linter.unusedVariables false
set_option linter.unusedSimpArgs false
def spec_l08Code.f (k : Nat) (a0_0 : Int) (l0_1 : List Int) (l1 : List (S73)) : Option (Int) := (spec_l02Code.f k a0_0 l0_1 l1 ([] : List Int)).bind fun t296 => (if t296 = 0 then ((spec_l02Acyclic.f k l1).bind fun t297 => (if t297 = true then (some t296) else (some 5))) else (some t296))
set_option maxHeartbeats 8000000 in
set_option maxRecDepth 100000 in
theorem spec_l08Code.calls (k : Nat) (a0_0 : Int) (A0_1 : Option Addr) (c0_1 : Nat) (l0_1 : List Int) (A1 : Option Addr) (c1 : Nat) (l1 : List (S73)) (r : Int) (w : World) (hr0_1 : Kd.C (Kd.int .i64) w A0_1 l0_1.length l0_1) (hc0_1 : l0_1.length ≤ c0_1) (hr1 : Kd.C k73 w A1 l1.length l1) (hc1 : l1.length ≤ c1) (h : spec_l08Code.f k a0_0 l0_1 l1 = some r) :
  Calls Try.prog 62 #[.agg #[.int .i64 a0_0, .slice A0_1 l0_1.length c0_1], .slice A1 l1.length c1] w fun e w' => e = .returned (.int .i64 r) ∧ Below w.heap.size w w' := by
 have hu28 := Try.underlying28
 have HR0_1 := Aside0.mk hr0_1
 have HC0_1 := Aside0.mk hc0_1
 clear hr0_1 hc0_1
 have HR1 := Aside0.mk hr1
 have HC1 := Aside0.mk hc1
 clear hr1 hc1
 have HB := Aside0.mk (Below.refl w.heap.size w)
 have H : ((spec_l02Code.f k a0_0 l0_1 l1 ([] : List Int)).bind fun t296 => (if t296 = 0 then ((spec_l02Acyclic.f k l1).bind fun t297 => (if t297 = true then (some t296) else (some 5))) else (some t296))) = some r := h
 clear h
 replace H := Option.bind_eq_some_iff.mp H
 obtain ⟨t296, A30, H⟩ := H
 try dsimp only at H
 have A3 := Aside0.mk A30
 clear A30
 by_cases c4 : t296 = 0
 ·rw [if_pos c4] at H
  have c4b0 : (t296 == 0) = true := beq_iff_eq.mpr c4
  have c4b1 : (t296 != 0) = false := bne_eq_false_iff_eq.mpr c4
  clear c4
  replace H := Option.bind_eq_some_iff.mp H
  obtain ⟨t297, A50, H⟩ := H
  try dsimp only at H
  have A5 := Aside0.mk A50
  clear A50
  by_cases c6 : t297 = true
  ·subst c6
   have H1 : (some t296) = some r := by rw [if_pos rfl] at H; exact H
   clear H
   have H := H1
   clear H1
   obtain rfl := Option.some.inj H
   go_enter Try.func62, Try.ntmps62
   go_wp2_with (first | ((with_reducible refine gate_dst (N := 2) rfl ?_); refine box_event ?hg (N := 2) ?hd (cs := #[.int .i64 a0_0, .slice A0_1 l0_1.length c0_1]) (t := 28) ?hr ?_; (case hd => rfl); (case hg => rfl); (case hr => first | (go_simp; done) | (go_simp; rfl)); intro gb295 hg w7 hbox hb; have BK295 := Aside0.mk (hbox); have GW295 := gH HB hg; have GE295 := gH HB hg; replace HB := sH HB hb; clear hb hbox hg; have hcz8_0 : w7.cell? ⟨gb295, 0, none⟩ = some (.int .i64 a0_0) := cB BK295 0; have hcz8_1 : w7.cell? ⟨gb295, 1, none⟩ = some (.slice A0_1 l0_1.length c0_1) := cB BK295 1; have hfz8_0 := zB BK295 0; have hfz8_1 := zB BK295 1) | ((with_reducible refine gate_callee (f := 96) rfl ?_); refine cl_ (some 8) Try.func96 #[.agg #[.int .i64 a0_0, .slice A0_1 l0_1.length c0_1], .slice A1 l1.length c1, .slice none 0 0] ?_; (refine (spec_l02Code.calls k a0_0 _ _ l0_1 _ _ l1 _ _ ([] : List Int) t296 _ ?side1 ?side2 ?side3 ?side4 ?side5 ?side6 A3.out).mono ?_); (case side1 => exact pC ((Kd.C_below HR0_1.out HB.out))); (case side2 => exact HC0_1.out); (case side3 => exact pC ((Kd.C_below HR1.out HB.out))); (case side4 => exact HC1.out); (case side5 => exact Kd.C_nil _ _); (case side6 => exact Nat.le_refl _); rintro e w9 ⟨rfl, hb⟩; refine ⟨_, rfl, ?_⟩; replace BK295 := sB BK295 hb; replace HB := sH HB hb; (try clear hb); (try clear hi)) | (go_at_call 97; (with_reducible refine (spec_l02Acyclic.calls k _ _ l1 true _ ?side1 ?side2 A5.out).mono ?_); (case side1 => exact pC ((Kd.C_below HR1.out HB.out))); (case side2 => exact HC1.out); rintro e w10 ⟨rfl, hb⟩; replace BK295 := sB BK295 hb; replace HB := sH HB hb; (try clear hb); (try clear hi)))
   go_ret
   exact ⟨by first | rfl | (simp [errW_none, errW_some] <;> rfl) | (simp [*, errW_none, errW_some] <;> rfl) | (exfalso; simp_all), pH HB⟩
  ·replace c6 := Bool.eq_false_iff.mpr c6
   subst c6
   have H1 : (some 5) = some r := by rw [if_neg (show ¬ (false = true) by decide)] at H; exact H
   clear H
   have H := H1
   clear H1
   obtain rfl := Option.some.inj H
   go_enter Try.func62, Try.ntmps62
   go_wp2_with (first | ((with_reducible refine gate_dst (N := 2) rfl ?_); refine box_event ?hg (N := 2) ?hd (cs := #[.int .i64 a0_0, .slice A0_1 l0_1.length c0_1]) (t := 28) ?hr ?_; (case hd => rfl); (case hg => rfl); (case hr => first | (go_simp; done) | (go_simp; rfl)); intro gb295 hg w11 hbox hb; have BK295 := Aside0.mk (hbox); have GW295 := gH HB hg; have GE295 := gH HB hg; replace HB := sH HB hb; clear hb hbox hg; have hcz12_0 : w11.cell? ⟨gb295, 0, none⟩ = some (.int .i64 a0_0) := cB BK295 0; have hcz12_1 : w11.cell? ⟨gb295, 1, none⟩ = some (.slice A0_1 l0_1.length c0_1) := cB BK295 1; have hfz12_0 := zB BK295 0; have hfz12_1 := zB BK295 1) | ((with_reducible refine gate_callee (f := 96) rfl ?_); refine cl_ (some 8) Try.func96 #[.agg #[.int .i64 a0_0, .slice A0_1 l0_1.length c0_1], .slice A1 l1.length c1, .slice none 0 0] ?_; (refine (spec_l02Code.calls k a0_0 _ _ l0_1 _ _ l1 _ _ ([] : List Int) t296 _ ?side1 ?side2 ?side3 ?side4 ?side5 ?side6 A3.out).mono ?_); (case side1 => exact pC ((Kd.C_below HR0_1.out HB.out))); (case side2 => exact HC0_1.out); (case side3 => exact pC ((Kd.C_below HR1.out HB.out))); (case side4 => exact HC1.out); (case side5 => exact Kd.C_nil _ _); (case side6 => exact Nat.le_refl _); rintro e w13 ⟨rfl, hb⟩; refine ⟨_, rfl, ?_⟩; replace BK295 := sB BK295 hb; replace HB := sH HB hb; (try clear hb); (try clear hi)) | (go_at_call 97; (with_reducible refine (spec_l02Acyclic.calls k _ _ l1 false _ ?side1 ?side2 A5.out).mono ?_); (case side1 => exact pC ((Kd.C_below HR1.out HB.out))); (case side2 => exact HC1.out); rintro e w14 ⟨rfl, hb⟩; replace BK295 := sB BK295 hb; replace HB := sH HB hb; (try clear hb); (try clear hi)))
   go_ret
   exact ⟨by first | rfl | (simp [errW_none, errW_some] <;> rfl) | (simp [*, errW_none, errW_some] <;> rfl) | (exfalso; simp_all), pH HB⟩
 ·rw [if_neg c4] at H
  have c4b0 : (t296 == 0) = false := beq_eq_false_iff_ne.mpr c4
  have c4b1 : (t296 != 0) = true := bne_iff_ne.mpr c4
  obtain rfl := Option.some.inj H
  go_enter Try.func62, Try.ntmps62
  go_wp2_with (first | ((with_reducible refine gate_dst (N := 2) rfl ?_); refine box_event ?hg (N := 2) ?hd (cs := #[.int .i64 a0_0, .slice A0_1 l0_1.length c0_1]) (t := 28) ?hr ?_; (case hd => rfl); (case hg => rfl); (case hr => first | (go_simp; done) | (go_simp; rfl)); intro gb295 hg w15 hbox hb; have BK295 := Aside0.mk (hbox); have GW295 := gH HB hg; have GE295 := gH HB hg; replace HB := sH HB hb; clear hb hbox hg; have hcz16_0 : w15.cell? ⟨gb295, 0, none⟩ = some (.int .i64 a0_0) := cB BK295 0; have hcz16_1 : w15.cell? ⟨gb295, 1, none⟩ = some (.slice A0_1 l0_1.length c0_1) := cB BK295 1; have hfz16_0 := zB BK295 0; have hfz16_1 := zB BK295 1) | ((with_reducible refine gate_callee (f := 96) rfl ?_); refine cl_ (some 8) Try.func96 #[.agg #[.int .i64 a0_0, .slice A0_1 l0_1.length c0_1], .slice A1 l1.length c1, .slice none 0 0] ?_; (refine (spec_l02Code.calls k a0_0 _ _ l0_1 _ _ l1 _ _ ([] : List Int) t296 _ ?side1 ?side2 ?side3 ?side4 ?side5 ?side6 A3.out).mono ?_); (case side1 => exact pC ((Kd.C_below HR0_1.out HB.out))); (case side2 => exact HC0_1.out); (case side3 => exact pC ((Kd.C_below HR1.out HB.out))); (case side4 => exact HC1.out); (case side5 => exact Kd.C_nil _ _); (case side6 => exact Nat.le_refl _); rintro e w17 ⟨rfl, hb⟩; refine ⟨_, rfl, ?_⟩; replace BK295 := sB BK295 hb; replace HB := sH HB hb; (try clear hb); (try clear hi)))
  go_ret
  exact ⟨by first | rfl | (simp [errW_none, errW_some] <;> rfl) | (simp [*, errW_none, errW_some] <;> rfl) | (exfalso; simp_all), pH HB⟩
end Go.Proofs.Ytomdfjohnmikdaa.QS
namespace Go.Proofs.Ytomdfjohnmikdaa.QS
open Go.Proofs.Ytomdfjohnmikdaa.Cw Go.Proofs.Ytomdfjohnmikdaa.Kp Go.Proofs.Ytomdfjohnmikdaa.Ext Go.RowKit Go.Proofs.YtomdfjohnmikdaaW.PrintWords Go.Proofs.YtomdfjohnmikdaaW.PrintLast Go.Proofs.YtomdfjohnmikdaaW.PrintMore
attribute [local go_sem] max2_int min2_int max_two min_two max_three min_three max_four min_four   -- for this text's walks alone
set_option linter.unusedVariables false
set_option linter.unusedSimpArgs false
def spec_FillPairing.f (k : Nat) (a0_0 : Int) (l0_1 : List Int) (l1 : List (S73)) : Option ((List (S73)) × Int) := (spec_l08Code.f k a0_0 l0_1 l1).bind fun t387 => (if t387 = 0 then ((some (([] : List (S73)) : List (S73))).bind fun y388 => (if y388.length + l1.length < 8796093022208 then ((spec_l02Fill.f k a0_0 l0_1 (y388 ++ l1)).bind fun t394 => (some (t394, 0))) else (none))) else (some (([] : List (S73)), t387)))
set_option maxHeartbeats 8000000 in
set_option maxRecDepth 100000 in
theorem spec_FillPairing.calls (k : Nat) (a0_0 : Int) (A0_1 : Option Addr) (c0_1 : Nat) (l0_1 : List Int) (A1 : Option Addr) (c1 : Nat) (l1 : List (S73)) (r1 : List (S73)) (r2 : Int) (w : World) (hr0_1 : Kd.C (Kd.int .i64) w A0_1 l0_1.length l0_1) (hc0_1 : l0_1.length ≤ c0_1) (hr1 : Kd.C k73 w A1 l1.length l1) (hc1 : l1.length ≤ c1) (h : spec_FillPairing.f k a0_0 l0_1 l1 = some (r1, r2)) :
  Calls Try.prog 24 #[.agg #[.int .i64 a0_0, .slice A0_1 l0_1.length c0_1], .slice A1 l1.length c1] w fun e w' => ∃ v0_ : Value, e = .returned (.tuple #[v0_, .int .i64 r2]) ∧ Kd.V k73 73 w' w.heap.size (fun k_ => (w.heap.size ≤ k_)) v0_ r1 ∧ Below w.heap.size w w' := by
 have hu28 := Try.underlying28
 have HR0_1 := Aside0.mk hr0_1
 have HC0_1 := Aside0.mk hc0_1
 clear hr0_1 hc0_1
 have HR1 := Aside0.mk hr1
 have HC1 := Aside0.mk hc1
 clear hr1 hc1
 have HB := Aside0.mk (Below.refl w.heap.size w)
 have H : ((spec_l08Code.f k a0_0 l0_1 l1).bind fun t387 => (if t387 = 0 then ((some (([] : List (S73)) : List (S73))).bind fun y388 => (if y388.length + l1.length < 8796093022208 then ((spec_l02Fill.f k a0_0 l0_1 (y388 ++ l1)).bind fun t394 => (some (t394, 0))) else (none))) else (some (([] : List (S73)), t387)))) = some (r1, r2) := h
 clear h
 replace H := Option.bind_eq_some_iff.mp H
 obtain ⟨t387, A30, H⟩ := H
 try dsimp only at H
 have A3 := Aside0.mk A30
 clear A30
 by_cases c4 : t387 = 0
 ·rw [if_pos c4] at H
  have c4b0 : (t387 == 0) = true := beq_iff_eq.mpr c4
  have c4b1 : (t387 != 0) = false := bne_eq_false_iff_eq.mpr c4
  clear c4
  obtain ⟨y388, hy388⟩ : ∃ y_ : List (S73), y_ = (([] : List (S73))) := ⟨_, rfl⟩
  replace H : (if y388.length + l1.length < 8796093022208 then ((spec_l02Fill.f k a0_0 l0_1 (y388 ++ l1)).bind fun t394 => (some (t394, 0))) else (none)) = some (r1, r2) := by first | (rw [hy388]; with_reducible exact H) | (have H2_ := (Option.bind_some _ _).symm.trans H; rw [hy388]; with_reducible exact H2_) | (have H2_ := (Option.bind_some _ _).symm.trans H; with_reducible exact H2_) | with_reducible exact H | (rw [hy388]; exact H) | exact H
  have Ny388 := Aside0.mk hy388
  clear hy388
  by_cases c5 : y388.length + l1.length < 8796093022208
  ·rw [if_pos c5] at H
   have LMc5 := Aside0.mk c5
   clear c5
   obtain ⟨y391, hy391⟩ : ∃ y_ : List (S73), y_ = (y388 ++ l1) := ⟨_, rfl⟩
   replace H : ((spec_l02Fill.f k a0_0 l0_1 y391).bind fun t394 => (some (t394, 0))) = some (r1, r2) := by first | (rw [hy391]; with_reducible exact H) | (have H2_ := (Option.bind_some _ _).symm.trans H; rw [hy391]; with_reducible exact H2_) | (have H2_ := (Option.bind_some _ _).symm.trans H; with_reducible exact H2_) | with_reducible exact H | (rw [hy391]; exact H) | exact H
   have Ny391 := Aside0.mk hy391
   clear hy391
   replace H := Option.bind_eq_some_iff.mp H
   obtain ⟨t394, A60, H⟩ := H
   try dsimp only at H
   have A6 := Aside0.mk A60
   clear A60
   simp only [Option.some.injEq, Prod.mk.injEq] at H
   obtain ⟨rfl, rfl⟩ := H
   go_enter Try.func24, Try.ntmps24
   try go_wp2_with (first | ((with_reducible refine gate_dst (N := 2) rfl ?_); refine box_event ?hg (N := 2) ?hd (cs := #[.int .i64 a0_0, .slice A0_1 l0_1.length c0_1]) (t := 28) ?hr ?_; (case hd => rfl); (case hg => rfl); (case hr => first | (go_simp; done) | (go_simp; rfl)); intro gb386 hg w7 hbox hb; have BK386 := Aside0.mk (hbox); have GW386 := gH HB hg; have GE386 := gH HB hg; replace HB := sH HB hb; clear hb hbox hg; have hcz8_0 : w7.cell? ⟨gb386, 0, none⟩ = some (.int .i64 a0_0) := cB BK386 0; have hcz8_1 : w7.cell? ⟨gb386, 1, none⟩ = some (.slice A0_1 l0_1.length c0_1) := cB BK386 1; have hfz8_0 := zB BK386 0; have hfz8_1 := zB BK386 1) | ((with_reducible refine gate_callee (f := 62) rfl ?_); refine cl_ (some 9) Try.func62 #[.agg #[.int .i64 a0_0, .slice A0_1 l0_1.length c0_1], .slice A1 l1.length c1] ?_; (with_reducible refine (spec_l08Code.calls k a0_0 _ _ l0_1 _ _ l1 t387 _ ?side1 ?side2 ?side3 ?side4 A3.out).mono ?_); (case side1 => exact pC ((Kd.C_below HR0_1.out HB.out))); (case side2 => exact HC0_1.out); (case side3 => exact pC ((Kd.C_below HR1.out HB.out))); (case side4 => exact HC1.out); rintro e w9 ⟨rfl, hb⟩; refine ⟨_, rfl, ?_⟩; replace BK386 := sB BK386 hb; replace HB := sH HB hb; (try clear hb); (try clear hi)))
   replace BK386 := dB BK386
   replace HB := dH HB
   refine st_ 7 (S := fun w' => w'.cell? ⟨gb386, 0, none⟩ = some (.int .i64 a0_0) ∧ w'.cell? ⟨gb386, 1, none⟩ = some (.slice A0_1 l0_1.length c0_1)) (ds := []) ⟨cB BK386 0, cB BK386 1⟩ (fun hHeld => ?_)
   generalize w9.drew = w10 at BK386 HB hHeld ⊢
   refine pure_ (i := 2) (N := some 15) (v := ?_) (a' := ?_) (mB 7 4) rfl rfl (by kernel_rfl) (fun _ _ _ h => h) (Or.inl ⟨by rfl, ?_⟩) ?_ ?_
   rotate_left
   ·intro w'
    go_simp
    with_reducible rfl
   rotate_left
   ·simp only [Act.put, List.setIfInBounds_toArray, List.set_cons_zero, List.set_cons_succ, i64_w, i32_w]
    rfl
   refine take_ (i := 0) (N := some 13) (v := ?_) (a' := ?_) (mB 7 5) rfl rfl (by kernel_rfl) (fun _ _ _ h => h) (Or.inl ⟨by rfl, ?_⟩) hHeld ?_ ?_
   rotate_left
   ·rintro w' ⟨s0, s1⟩
    go_simp
    with_reducible rfl
   rotate_left
   ·simp only [Act.put, List.setIfInBounds_toArray, List.set_cons_zero, List.set_cons_succ, i64_w, i32_w]
    rfl
   refine one_ (i := 1) (N := some 14) (mB 7 7) rfl rfl (by kernel_rfl) (by decide) (fun K hK => ?_)
   refine Kd.R_lit_step k73 _ 73 ?hg (N := 14) ?hd (xs := ([] : List (S73))) (inner := []) (ok := fun _ => True) (okp := fun _ => True) ?hr ?hp (fun _ hk => hk) trivial (Below.refl _ _) (Nat.le_refl _) (by simp) ?_; (case hd => rfl); (case hg => rfl); (case hr => first | (go_simp; done) | (go_simp; rfl)); (case hp => exact (Reps.none _ _))
   intro v389 w11 ho12 hb hg_ hnew_
   clear hg_ hnew_
   (first | rw [← Ny388.out] at ho12 | (simp only [Int.reduceToNat] at ho12; rw [← Ny388.out] at ho12))
   have HO390 := Aside0.mk (Kd.R_lower (Kd.R_newM (M := fun k_ => (w.heap.size ≤ k_)) ho12 (below_size (pH HB)) (fun k_ h_ => h_)) (below_size (pH HB)))
   replace BK386 := sB BK386 hb
   replace HB := sH HB hb
   clear hb ho12
   refine hK.out _ _ ⟨cB BK386 0, cB BK386 1⟩ (fun hHeld => ?_)
   clear hK K
   refine nm_ ?_
   refine one_ (i := 3) (N := some 16) (mB 7 15) rfl rfl (by kernel_rfl) (by decide) (fun K hK => ?_)
   refine Kd.R_append_rows_step k73 (w0 := w) w.heap.size (by rfl) (.tmp 14) (.tmp 15) 38 73 (.agg #[(.int .i64 0), (.int .i64 0)]) 16 rfl Try.underlying38 info73 rfl (by decide) (by omega) v389 y388 l1 _ _ _ (fun k_ => (w.heap.size ≤ k_)) (fun _ => False) rfl rfl ?aO ?aR (fun _ _ h => h) (fun _ h => h.elim) ?aF ?aB ?aS ?aL ?_
   (case aR => exact pC ((Kd.C_below HR1.out HB.out)))
   (case aB => exact (pH HB))
   (case aF => exact (fun k_ hk => (Nat.le_trans (below_size (pH HB)) hk)))
   (case aO => exact (by (with_reducible repeat (first | apply Kd.R_alloc | apply Kd.R_drewN | apply Kd.R_drew)); exact Kd.R_mono HO390.out (fun _ hk => hk.1)))
   (case aS => exact (below_size (pH HB)))
   (case aL => have := LMc5.out; omega)
   intro v392 w13 ho hb hg hat
   rw [← Ny391.out] at ho
   replace BK386 := Aside0.mk (blk_grown (g := gb386) (o := .cells #[.int .i64 a0_0, .slice A0_1 l0_1.length c0_1] 28 (0, 0)) (pB BK386) hg (Kd.R_ne HO390.out BK386.out (by decide)))
   replace HB := Aside0.mk (hb)
   have HO393 := Aside0.mk (ho)
   clear HO390
   clear ho hb hg hat
   obtain ⟨Ao14, co14, eo14⟩ := Kd.R_slice HO393.out
   (first | subst eo14 | (injection eo14 with f1_ f2_ f3_; have f4_ := f1_.symm; have f5_ := f3_.symm; clear f1_ f2_ f3_; subst f4_; subst f5_))
   refine hK.out _ _ ⟨cB BK386 0, cB BK386 1⟩ (fun hHeld => ?_)
   clear hK K
   refine nm_ ?_
   refine one_ (i := 4) (N := some 17) (mB 7 31) rfl rfl (by kernel_rfl) (by decide) (fun K hK => ?_)
   refine ca_ Try.func63 #[.agg #[.int .i64 a0_0, .slice A0_1 l0_1.length c0_1], .slice Ao14 y391.length co14] ?_
   with_reducible refine (spec_l02Fill.calls k a0_0 _ _ l0_1 (fun k_ => some k_ = (.slice Ao14 y391.length co14 : Value).ownBlock) _ _ y391 t394 _ ?side1 ?side2 ?side3 A6.out).mono ?_
   (case side1 => exact pC ((Kd.C_below HR0_1.out HB.out)))
   (case side2 => exact HC0_1.out)
   (case side3 => exact Kd.R_V (Kd.R_tight rfl (Kd.R_types (HO393.out) BK386.out (by decide))))
   rintro e w15 ⟨v395, rfl, ho0, hb⟩
   refine ⟨_, rfl, ?_⟩
   have HO396 := Aside0.mk (Kd.V_lower (Kd.V_mono (ok' := fun k_ => (w.heap.size ≤ k_) ∧ k_ ≠ gb386) ho0 (fun k_ hk_ => ⟨Or.elim hk_ (fun hs_ => ((Kd.R_types (HO393.out) BK386.out (by decide)).1 k_ hs_.symm).1) (fun hn_ => (Nat.le_trans (below_size (pH HB)) hn_)), Or.elim hk_ (fun hs_ => ((Kd.R_types (HO393.out) BK386.out (by decide)).1 k_ hs_.symm).2) (fun hn_ => (Kd.freshB (g := gb386) (o := .cells #[.int .i64 a0_0, .slice A0_1 l0_1.length c0_1] 28 (0, 0)) (pB BK386) k_ hn_))⟩)) (below_size (pH HB)))
   replace HO393 := sR HO393 hb
   replace BK386 := sB BK386 hb
   replace HB := sH HB hb
   (try clear hb)
   (try clear hb2)
   (try clear hk)
   (try clear hi)
   (try clear ho0)
   refine hK.out _ _ ⟨cB BK386 0, cB BK386 1⟩ (fun hHeld => ?_)
   clear hK K
   refine nm_ ?_
   refine pure_ (i := 5) (N := some 4) (v := ?_) (a' := ?_) (mB 7 63) rfl rfl (by kernel_rfl) (fun _ _ _ h => h) (Or.inl ⟨by rfl, ?_⟩) ?_ ?_
   rotate_left
   ·intro w'
    go_simp
    with_reducible rfl
   rotate_left
   ·simp only [Act.put, List.setIfInBounds_toArray, List.set_cons_zero, List.set_cons_succ, i64_w, i32_w]
    rfl
   refine pure_ (i := 6) (N := some 5) (v := ?_) (a' := ?_) (mB 7 127) rfl rfl (by kernel_rfl) (fun _ _ _ h => h) (Or.inl ⟨by rfl, ?_⟩) ?_ ?_
   rotate_left
   ·intro w'
    go_simp
    with_reducible rfl
   rotate_left
   ·simp only [Act.put, List.setIfInBounds_toArray, List.set_cons_zero, List.set_cons_succ, i64_w, i32_w]
    rfl
   refine done_ (by kernel_rfl) ?_
   try go_wp2
   go_ret2
   exact ⟨_, by first | rfl | (simp [errW_none, errW_some] <;> rfl) | (simp [*, errW_none, errW_some] <;> rfl) | (exfalso; simp_all), by (with_reducible repeat (first | apply Kd.V_alloc | apply Kd.V_drewN | apply Kd.V_drew)); exact Kd.V_mono HO396.out (fun _ hk => hk.1), pH HB⟩
  ·rw [if_neg c5] at H
   exact absurd H (by simp)
 ·rw [if_neg c4] at H
  have c4b0 : (t387 == 0) = false := beq_eq_false_iff_ne.mpr c4
  have c4b1 : (t387 != 0) = true := bne_iff_ne.mpr c4
  simp only [Option.some.injEq, Prod.mk.injEq] at H
  obtain ⟨rfl, rfl⟩ := H
  go_enter Try.func24, Try.ntmps24
  go_wp2_with (first | ((with_reducible refine gate_dst (N := 2) rfl ?_); refine box_event ?hg (N := 2) ?hd (cs := #[.int .i64 a0_0, .slice A0_1 l0_1.length c0_1]) (t := 28) ?hr ?_; (case hd => rfl); (case hg => rfl); (case hr => first | (go_simp; done) | (go_simp; rfl)); intro gb386 hg w16 hbox hb; have BK386 := Aside0.mk (hbox); have GW386 := gH HB hg; have GE386 := gH HB hg; replace HB := sH HB hb; clear hb hbox hg; have hcz17_0 : w16.cell? ⟨gb386, 0, none⟩ = some (.int .i64 a0_0) := cB BK386 0; have hcz17_1 : w16.cell? ⟨gb386, 1, none⟩ = some (.slice A0_1 l0_1.length c0_1) := cB BK386 1; have hfz17_0 := zB BK386 0; have hfz17_1 := zB BK386 1) | ((with_reducible refine gate_callee (f := 62) rfl ?_); refine cl_ (some 9) Try.func62 #[.agg #[.int .i64 a0_0, .slice A0_1 l0_1.length c0_1], .slice A1 l1.length c1] ?_; (with_reducible refine (spec_l08Code.calls k a0_0 _ _ l0_1 _ _ l1 t387 _ ?side1 ?side2 ?side3 ?side4 A3.out).mono ?_); (case side1 => exact pC ((Kd.C_below HR0_1.out HB.out))); (case side2 => exact HC0_1.out); (case side3 => exact pC ((Kd.C_below HR1.out HB.out))); (case side4 => exact HC1.out); rintro e w18 ⟨rfl, hb⟩; refine ⟨_, rfl, ?_⟩; replace BK386 := sB BK386 hb; replace HB := sH HB hb; (try clear hb); (try clear hi)))
  go_ret2
  exact ⟨_, by first | rfl | (simp [errW_none, errW_some] <;> rfl) | (simp [*, errW_none, errW_some] <;> rfl) | (exfalso; simp_all), Kd.R_V (base := 0) (by first | exact Kd.R_nil _ _ _ _ _ | exact Kd.N_nil _ _ _ _ _ | exact Kd.V_nil _ _ _ _ _ | exact Kd.Q_nil _ _ _ _ _ | exact Kd.S_nil _ _ _ _ _), pH HB⟩
end Go.Proofs.Ytomdfjohnmikdaa.QS
namespace Go.Proofs.Ytomdfjohnmikdaa.QS
open Go.Proofs.Ytomdfjohnmikdaa.Cw Go.Proofs.Ytomdfjohnmikdaa.Kp Go.Proofs.Ytomdfjohnmikdaa.Ext Go.RowKit Go.Proofs.YtomdfjohnmikdaaW.PrintWords Go.Proofs.YtomdfjohnmikdaaW.PrintLast Go.Proofs.YtomdfjohnmikdaaW.PrintMore
attribute [local go_sem] max2_int min2_int max_two min_two max_three min_three max_four min_four   -- for this text's walks alone
set_option linter.unusedVariables false
set_option linter.unusedSimpArgs false
def laws_eqInt64S.l0 : Nat → List Int → List Int → Int → Option (Bool)
 | 0, _, _, _ => none
 | k + 1, x0, x1, x5 => if x5 < (x0.length : Int) then (if 0 ≤ x5 then (if x5 < (x1.length : Int) then (if (rd x0 x5) = (rd x1 x5) then (laws_eqInt64S.l0 k x0 x1 (wrap64 (x5 + 1))) else (some false)) else (none)) else (none)) else (some true)
def laws_eqInt64S.f (k : Nat) (l0 : List Int) (l1 : List Int) : Option (Bool) := if (l0.length : Int) = (l1.length : Int) then (laws_eqInt64S.l0 k l0 l1 0) else (some false)
set_option maxHeartbeats 8000000 in
set_option maxRecDepth 100000 in
theorem laws_eqInt64S.calls (k : Nat) (A0 : Option Addr) (c0 : Nat) (l0 : List Int) (A1 : Option Addr) (c1 : Nat) (l1 : List Int) (r : Bool) (w : World) (hr0 : Kd.C (Kd.int .i64) w A0 l0.length l0) (hc0 : l0.length ≤ c0) (hr1 : Kd.C (Kd.int .i64) w A1 l1.length l1) (hc1 : l1.length ≤ c1) (h : laws_eqInt64S.f k l0 l1 = some r) :
  Calls Try.prog 18 #[.slice A0 l0.length c0, .slice A1 l1.length c1] w fun e w' => e = .returned (.bool r) ∧ Drawn0 w w' := by
 have HR0 := Aside0.mk hr0
 have HC0 := Aside0.mk hc0
 clear hr0 hc0
 have HR1 := Aside0.mk hr1
 have HC1 := Aside0.mk hc1
 clear hr1 hc1
 have H : (if (l0.length : Int) = (l1.length : Int) then (laws_eqInt64S.l0 k l0 l1 0) else (some false)) = some r := h
 clear h
 by_cases c3 : (l0.length : Int) = (l1.length : Int)
 ·rw [if_pos c3] at H
  have c3b0 : ((l0.length : Int) == (l1.length : Int)) = true := beq_iff_eq.mpr c3
  have c3b1 : ((l0.length : Int) != (l1.length : Int)) = false := bne_eq_false_iff_eq.mpr c3
  have c3b2 : (l0.length == l1.length) = true := by first | simpa using c3 | (simp at c3 ⊢; omega)
  clear c3
  have H' := Aside0.mk H
  clear H
  go_enter Try.func18, Try.ntmps18
  go_wp2
  repeat (go_quiet (fail); try go_wp2)
  go_loopg [5] k (fun kq v5 w' => ∃ (x5_1 : Int), v5 = .int .i64 x5_1 ∧ Aside0 (laws_eqInt64S.l0 kq l0 l1 x5_1 = some r) ∧ Aside0 (kq ≤ k) ∧ Drawn0 w w')
  case atStart => exact ⟨(0), (by first | rfl | (simp; done) | (simp [*]; done)), H', ⟨Nat.le_refl _⟩, by repeat (first | exact Drawn0.refl _ | apply Drawn0.step)⟩
  case round =>
   clear H'
   try clear c1
   try clear p2
   try clear c3
   try clear c3b0
   try clear c3b1
   try clear c3b2
   obtain ⟨x5_1, rfl, HA, HK1, ⟨m1, rfl⟩⟩ := hrel
   cases gk with
   | zero => exact absurd HA.out (by simp [laws_eqInt64S.l0])
   | succ k1 =>
    have H := HA.out
    clear HA
    simp only [laws_eqInt64S.l0] at H
    by_cases c4 : x5_1 < (l0.length : Int)
    ·rw [if_pos c4] at H
     have c4b0 : decide (x5_1 < (l0.length : Int)) = true := decide_eq_true c4
     clear c4
     by_cases c5 : 0 ≤ x5_1
     ·rw [if_pos c5] at H
      have c5b0 : decide (0 ≤ x5_1) = true := decide_eq_true c5
      clear c5
      by_cases c6 : x5_1 < (l1.length : Int)
      ·rw [if_pos c6] at H
       have c6b0 : decide (x5_1 < (l1.length : Int)) = true := decide_eq_true c6
       clear c6
       by_cases c7 : (rd l0 x5_1) = (rd l1 x5_1)
       ·rw [if_pos c7] at H
        have c7b0 : ((rd l0 x5_1) == (rd l1 x5_1)) = true := beq_iff_eq.mpr c7
        have c7b1 : ((rd l0 x5_1) != (rd l1 x5_1)) = false := bne_eq_false_iff_eq.mpr c7
        clear c7
        have H' := Aside0.mk H
        clear H
        have p114 : 0 ≤ (x5_1 : Int) := of_decide_eq_true (by first | (with_reducible assumption) | assumption)
        have q114 : x5_1 < (l0.length : Int) := of_decide_eq_true (by first | (with_reducible assumption) | assumption)
        obtain ⟨ad114, e114, hx114_0⟩ := Kd.at_int HR0.out x5_1 p114 q114
        cases e114
        replace p114 := eq_true p114
        replace q114 := eq_true q114
        have p115 : 0 ≤ (x5_1 : Int) := of_decide_eq_true (by first | (with_reducible assumption) | assumption)
        have q115 : x5_1 < (l1.length : Int) := of_decide_eq_true (by first | (with_reducible assumption) | assumption)
        obtain ⟨ad115, e115, hx115_0⟩ := Kd.at_int HR1.out x5_1 p115 q115
        cases e115
        replace p115 := eq_true p115
        replace q115 := eq_true q115
        go_wp2
        repeat (go_quiet (fail); try go_wp2)
        go_roundg k1
        case measure => have := HK1.out; omega
        case rel => exact ⟨(wrap64 (x5_1 + 1)), (by first | rfl | (simp; done) | (simp [*]; done)), H', ⟨by have := HK1.out; omega⟩, by repeat (first | exact Drawn0.refl _ | apply Drawn0.step)⟩
       ·rw [if_neg c7] at H
        have c7b0 : ((rd l0 x5_1) == (rd l1 x5_1)) = false := beq_eq_false_iff_ne.mpr c7
        have c7b1 : ((rd l0 x5_1) != (rd l1 x5_1)) = true := bne_iff_ne.mpr c7
        obtain rfl := Option.some.inj H
        have p114 : 0 ≤ (x5_1 : Int) := of_decide_eq_true (by first | (with_reducible assumption) | assumption)
        have q114 : x5_1 < (l0.length : Int) := of_decide_eq_true (by first | (with_reducible assumption) | assumption)
        obtain ⟨ad114, e114, hx114_0⟩ := Kd.at_int HR0.out x5_1 p114 q114
        cases e114
        replace p114 := eq_true p114
        replace q114 := eq_true q114
        have p115 : 0 ≤ (x5_1 : Int) := of_decide_eq_true (by first | (with_reducible assumption) | assumption)
        have q115 : x5_1 < (l1.length : Int) := of_decide_eq_true (by first | (with_reducible assumption) | assumption)
        obtain ⟨ad115, e115, hx115_0⟩ := Kd.at_int HR1.out x5_1 p115 q115
        cases e115
        replace p115 := eq_true p115
        replace q115 := eq_true q115
        go_wp2
        repeat (go_quiet (fail); try go_wp2)
        go_ret
        exact ⟨by first | rfl | (simp; done) | (simp [*]; done), by repeat (first | exact Drawn0.refl _ | apply Drawn0.step)⟩
      ·rw [if_neg c6] at H
       exact absurd H (by simp)
     ·rw [if_neg c5] at H
      exact absurd H (by simp)
    ·rw [if_neg c4] at H
     have c4b0 : decide (x5_1 < (l0.length : Int)) = false := decide_eq_false c4
     clear c4
     obtain rfl := Option.some.inj H
     go_wp2
     repeat (go_quiet (fail); try go_wp2)
     go_ret
     exact ⟨by first | rfl | (simp; done) | (simp [*]; done), by repeat (first | exact Drawn0.refl _ | apply Drawn0.step)⟩
 ·rw [if_neg c3] at H
  have c3b0 : ((l0.length : Int) == (l1.length : Int)) = false := beq_eq_false_iff_ne.mpr c3
  have c3b1 : ((l0.length : Int) != (l1.length : Int)) = true := bne_iff_ne.mpr c3
  have c3b2 : (l0.length == l1.length) = false := by first | simpa using c3 | (simp at c3 ⊢; omega)
  obtain rfl := Option.some.inj H
  go_enter Try.func18, Try.ntmps18
  go_wp2
  repeat (go_quiet (fail); try go_wp2)
  go_ret
  exact ⟨by first | rfl | (simp; done) | (simp [*]; done), by repeat (first | exact Drawn0.refl _ | apply Drawn0.step)⟩
end Go.Proofs.Ytomdfjohnmikdaa.QS
namespace Go.Proofs.Ytomdfjohnmikdaa.QS
open Go.Proofs.Ytomdfjohnmikdaa.Cw Go.Proofs.Ytomdfjohnmikdaa.Kp Go.Proofs.Ytomdfjohnmikdaa.Ext Go.RowKit Go.Proofs.YtomdfjohnmikdaaW.PrintWords Go.Proofs.YtomdfjohnmikdaaW.PrintLast Go.Proofs.YtomdfjohnmikdaaW.PrintMore
attribute [local go_sem] max2_int min2_int max_two min_two max_three min_three max_four min_four   -- for this text's walks alone
set_option linter.unusedVariables false
set_option linter.unusedSimpArgs false
def laws_eqComplex.f (k : Nat) (a0_0 : Int) (l0_1 : List Int) (a1_0 : Int) (l1_1 : List Int) : Option (Bool) := if a0_0 = a1_0 then ((laws_eqInt64S.f k l0_1 l1_1).bind fun t118 => (if t118 = true then (some true) else (some false))) else (some false)
set_option maxHeartbeats 8000000 in
set_option maxRecDepth 100000 in
theorem laws_eqComplex.calls (k : Nat) (a0_0 : Int) (A0_1 : Option Addr) (c0_1 : Nat) (l0_1 : List Int) (a1_0 : Int) (A1_1 : Option Addr) (c1_1 : Nat) (l1_1 : List Int) (r : Bool) (w : World) (hr0_1 : Kd.C (Kd.int .i64) w A0_1 l0_1.length l0_1) (hc0_1 : l0_1.length ≤ c0_1) (hr1_1 : Kd.C (Kd.int .i64) w A1_1 l1_1.length l1_1) (hc1_1 : l1_1.length ≤ c1_1) (h : laws_eqComplex.f k a0_0 l0_1 a1_0 l1_1 = some r) :
  Calls Try.prog 19 #[.agg #[.int .i64 a0_0, .slice A0_1 l0_1.length c0_1], .agg #[.int .i64 a1_0, .slice A1_1 l1_1.length c1_1]] w fun e w' => e = .returned (.bool r) ∧ Below w.heap.size w w' := by
 have hu28 := Try.underlying28
 have HR0_1 := Aside0.mk hr0_1
 have HC0_1 := Aside0.mk hc0_1
 clear hr0_1 hc0_1
 have HR1_1 := Aside0.mk hr1_1
 have HC1_1 := Aside0.mk hc1_1
 clear hr1_1 hc1_1
 have HB := Aside0.mk (Below.refl w.heap.size w)
 have H : (if a0_0 = a1_0 then ((laws_eqInt64S.f k l0_1 l1_1).bind fun t118 => (if t118 = true then (some true) else (some false))) else (some false)) = some r := h
 clear h
 by_cases c3 : a0_0 = a1_0
 ·rw [if_pos c3] at H
  have c3b0 : (a0_0 == a1_0) = true := beq_iff_eq.mpr c3
  have c3b1 : (a0_0 != a1_0) = false := bne_eq_false_iff_eq.mpr c3
  clear c3
  replace H := Option.bind_eq_some_iff.mp H
  obtain ⟨t118, A40, H⟩ := H
  try dsimp only at H
  have A4 := Aside0.mk A40
  clear A40
  by_cases c5 : t118 = true
  ·subst c5
   have H1 : (some true) = some r := by rw [if_pos rfl] at H; exact H
   clear H
   have H := H1
   clear H1
   obtain rfl := Option.some.inj H
   go_enter Try.func19, Try.ntmps19
   go_wp2_with (first | ((with_reducible refine gate_dst (N := 2) rfl ?_); refine box_event ?hg (N := 2) ?hd (cs := #[.int .i64 a0_0, .slice A0_1 l0_1.length c0_1]) (t := 28) ?hr ?_; (case hd => rfl); (case hg => rfl); (case hr => first | (go_simp; done) | (go_simp; rfl)); intro gb116 hg w6 hbox hb; have BK116 := Aside0.mk (hbox); have GW116 := gH HB hg; have GE116 := gH HB hg; replace HB := sH HB hb; clear hb hbox hg) | ((with_reducible refine gate_dst (N := 3) rfl ?_); refine box_event ?hg (N := 3) ?hd (cs := #[.int .i64 a1_0, .slice A1_1 l1_1.length c1_1]) (t := 28) ?hr ?_; (case hd => rfl); (case hg => rfl); (case hr => first | (go_simp; done) | (go_simp; rfl)); intro gb117 hg w7 hbox hb; have BK117 := Aside0.mk (hbox); have GW117 := gH HB hg; have GE117 := gH HB hg; replace HB := sH HB hb; have NB116_117 := nB BK116 hg; have NB117_116 := oB BK116 hg; replace BK116 := sB BK116 hb; clear hb hbox hg; (try have hnb8 := NB116_117.out); (try have hnc8 := NB117_116.out); have hcz9_0 : w7.cell? ⟨gb116, 0, none⟩ = some (.int .i64 a0_0) := cB BK116 0; have hcz9_1 : w7.cell? ⟨gb116, 1, none⟩ = some (.slice A0_1 l0_1.length c0_1) := cB BK116 1; have hfz9_0 := zB BK116 0; have hfz9_1 := zB BK116 1; have hcz10_0 : w7.cell? ⟨gb117, 0, none⟩ = some (.int .i64 a1_0) := cB BK117 0; have hcz10_1 : w7.cell? ⟨gb117, 1, none⟩ = some (.slice A1_1 l1_1.length c1_1) := cB BK117 1; have hfz10_0 := zB BK117 0; have hfz10_1 := zB BK117 1) | ((with_reducible refine gate_callee (f := 18) rfl ?_); refine cl_ (some 14) Try.func18 #[.slice A0_1 l0_1.length c0_1, .slice A1_1 l1_1.length c1_1] ?_; (with_reducible refine (laws_eqInt64S.calls k _ _ l0_1 _ _ l1_1 true _ ?side1 ?side2 ?side3 ?side4 A4.out).mono ?_); (case side1 => exact pC ((Kd.C_below HR0_1.out HB.out))); (case side2 => exact HC0_1.out); (case side3 => exact pC ((Kd.C_below HR1_1.out HB.out))); (case side4 => exact HC1_1.out); rintro e w' ⟨rfl, ⟨nd, rfl⟩⟩; refine ⟨_, rfl, ?_⟩))
   go_ret
   exact ⟨by first | rfl | (simp [errW_none, errW_some] <;> rfl) | (simp [*, errW_none, errW_some] <;> rfl) | (exfalso; simp_all), pH HB⟩
  ·replace c5 := Bool.eq_false_iff.mpr c5
   subst c5
   have H1 : (some false) = some r := by rw [if_neg (show ¬ (false = true) by decide)] at H; exact H
   clear H
   have H := H1
   clear H1
   obtain rfl := Option.some.inj H
   go_enter Try.func19, Try.ntmps19
   go_wp2_with (first | ((with_reducible refine gate_dst (N := 2) rfl ?_); refine box_event ?hg (N := 2) ?hd (cs := #[.int .i64 a0_0, .slice A0_1 l0_1.length c0_1]) (t := 28) ?hr ?_; (case hd => rfl); (case hg => rfl); (case hr => first | (go_simp; done) | (go_simp; rfl)); intro gb116 hg w11 hbox hb; have BK116 := Aside0.mk (hbox); have GW116 := gH HB hg; have GE116 := gH HB hg; replace HB := sH HB hb; clear hb hbox hg) | ((with_reducible refine gate_dst (N := 3) rfl ?_); refine box_event ?hg (N := 3) ?hd (cs := #[.int .i64 a1_0, .slice A1_1 l1_1.length c1_1]) (t := 28) ?hr ?_; (case hd => rfl); (case hg => rfl); (case hr => first | (go_simp; done) | (go_simp; rfl)); intro gb117 hg w12 hbox hb; have BK117 := Aside0.mk (hbox); have GW117 := gH HB hg; have GE117 := gH HB hg; replace HB := sH HB hb; have NB116_117 := nB BK116 hg; have NB117_116 := oB BK116 hg; replace BK116 := sB BK116 hb; clear hb hbox hg; (try have hnb13 := NB116_117.out); (try have hnc13 := NB117_116.out); have hcz14_0 : w12.cell? ⟨gb116, 0, none⟩ = some (.int .i64 a0_0) := cB BK116 0; have hcz14_1 : w12.cell? ⟨gb116, 1, none⟩ = some (.slice A0_1 l0_1.length c0_1) := cB BK116 1; have hfz14_0 := zB BK116 0; have hfz14_1 := zB BK116 1; have hcz15_0 : w12.cell? ⟨gb117, 0, none⟩ = some (.int .i64 a1_0) := cB BK117 0; have hcz15_1 : w12.cell? ⟨gb117, 1, none⟩ = some (.slice A1_1 l1_1.length c1_1) := cB BK117 1; have hfz15_0 := zB BK117 0; have hfz15_1 := zB BK117 1) | ((with_reducible refine gate_callee (f := 18) rfl ?_); refine cl_ (some 14) Try.func18 #[.slice A0_1 l0_1.length c0_1, .slice A1_1 l1_1.length c1_1] ?_; (with_reducible refine (laws_eqInt64S.calls k _ _ l0_1 _ _ l1_1 false _ ?side1 ?side2 ?side3 ?side4 A4.out).mono ?_); (case side1 => exact pC ((Kd.C_below HR0_1.out HB.out))); (case side2 => exact HC0_1.out); (case side3 => exact pC ((Kd.C_below HR1_1.out HB.out))); (case side4 => exact HC1_1.out); rintro e w' ⟨rfl, ⟨nd, rfl⟩⟩; refine ⟨_, rfl, ?_⟩))
   go_ret
   exact ⟨by first | rfl | (simp [errW_none, errW_some] <;> rfl) | (simp [*, errW_none, errW_some] <;> rfl) | (exfalso; simp_all), pH HB⟩
 ·rw [if_neg c3] at H
  have c3b0 : (a0_0 == a1_0) = false := beq_eq_false_iff_ne.mpr c3
  have c3b1 : (a0_0 != a1_0) = true := bne_iff_ne.mpr c3
  obtain rfl := Option.some.inj H
  go_enter Try.func19, Try.ntmps19
  go_wp2_with (first | ((with_reducible refine gate_dst (N := 2) rfl ?_); refine box_event ?hg (N := 2) ?hd (cs := #[.int .i64 a0_0, .slice A0_1 l0_1.length c0_1]) (t := 28) ?hr ?_; (case hd => rfl); (case hg => rfl); (case hr => first | (go_simp; done) | (go_simp; rfl)); intro gb116 hg w16 hbox hb; have BK116 := Aside0.mk (hbox); have GW116 := gH HB hg; have GE116 := gH HB hg; replace HB := sH HB hb; clear hb hbox hg) | ((with_reducible refine gate_dst (N := 3) rfl ?_); refine box_event ?hg (N := 3) ?hd (cs := #[.int .i64 a1_0, .slice A1_1 l1_1.length c1_1]) (t := 28) ?hr ?_; (case hd => rfl); (case hg => rfl); (case hr => first | (go_simp; done) | (go_simp; rfl)); intro gb117 hg w17 hbox hb; have BK117 := Aside0.mk (hbox); have GW117 := gH HB hg; have GE117 := gH HB hg; replace HB := sH HB hb; have NB116_117 := nB BK116 hg; have NB117_116 := oB BK116 hg; replace BK116 := sB BK116 hb; clear hb hbox hg; (try have hnb18 := NB116_117.out); (try have hnc18 := NB117_116.out); have hcz19_0 : w17.cell? ⟨gb116, 0, none⟩ = some (.int .i64 a0_0) := cB BK116 0; have hcz19_1 : w17.cell? ⟨gb116, 1, none⟩ = some (.slice A0_1 l0_1.length c0_1) := cB BK116 1; have hfz19_0 := zB BK116 0; have hfz19_1 := zB BK116 1; have hcz20_0 : w17.cell? ⟨gb117, 0, none⟩ = some (.int .i64 a1_0) := cB BK117 0; have hcz20_1 : w17.cell? ⟨gb117, 1, none⟩ = some (.slice A1_1 l1_1.length c1_1) := cB BK117 1; have hfz20_0 := zB BK117 0; have hfz20_1 := zB BK117 1))
  go_ret
  exact ⟨by first | rfl | (simp [errW_none, errW_some] <;> rfl) | (simp [*, errW_none, errW_some] <;> rfl) | (exfalso; simp_all), pH HB⟩
end Go.Proofs.Ytomdfjohnmikdaa.QS
