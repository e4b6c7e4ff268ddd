/- Words and lemmas for FnExactCountAcyclic, part 4: what the row's text comes to. -/
import Derived.Laws.CopyOwn
import Derived.Lib.AppendZerosOnto
import Derived.Lib.Overlaps
import Derived.Test.YtomdfjohnmikdaaZFnExactCountAcyclicc
namespace Go.Proofs.Ytomdfjohnmikdaa.QS
open Go.Proofs.Ytomdfjohnmikdaa.Cw Go.Proofs.Ytomdfjohnmikdaa.Kp Go.Proofs.Ytomdfjohnmikdaa.Ext Go.RowKit Go.Proofs.YtomdfjohnmikdaaW.PrintWords Go.Proofs.YtomdfjohnmikdaaW.PrintLast Go.Proofs.YtomdfjohnmikdaaW.PrintMore
attribute [local go_sem] max2_int min2_int max_two min_two max_three min_three max_four min_four   -- for this text's walks alone
set_option linter.unusedVariables false
set_option linter.unusedSimpArgs false
def spec_l02Pair.f (k : Nat) (a0_0 : Int) (l0_1 : List Int) (a1_0 : Int) (a1_1 : Int) : Option (Bool) := (spec_l01Has.f k a0_0 l0_1 a1_0).bind fun t234 => (if t234 = true then ((spec_l01Has.f k a0_0 l0_1 a1_1).bind fun t235 => (if t235 = true then (if (Go.bits .and .i64 a1_0 a1_1) = a1_0 then ((spec_l01Ones.f k a1_1).bind fun t236 => ((spec_l01Ones.f k a1_0).bind fun t237 => (some (t236 == (wrap64 (t237 + 1)))))) else (some false)) else (some false))) else (some false))
def spec_l02Pair.T1 : Bool × List (List Nat × List Nat) := (true, [([], []), ([], []), ([1], [1]), ([0, 2], [0, 2]), ([3, 3], [3]), ([4], [4]), ([4], [4]), ([6, 4], [4, 6]), ([5, 7, 4, 4], [4, 5, 7]), ([4, 8], [4, 8]), ([9, 8], [9]), ([10], [10]), ([11, 10], [10, 11]), ([10], [10]), ([13, 10], [10, 13]), ([12, 14, 10], [10, 12, 14]), ([10], [10]), ([16, 10], [10, 16]), ([15, 17, 10], [10, 15, 17]), ([10, 18], [10, 18]), ([19, 10], [19]), ([20], [20]), ([21, 20], [20, 21]), ([22, 20, 20], [20, 22]), ([20], [20]), ([24, 20], [20, 24]), ([25, 23, 20], [20, 25]), ([26, 20], [20, 26]), ([23, 27, 20], [20, 23, 27]), ([20, 28], [20, 28]), ([29, 26, 0, 1, 2, 3, 4, 5, 6, 7, 8, 9, 10, 11, 12, 13, 14, 15, 16, 17, 18, 19, 20, 21, 22, 23, 24, 25, 26, 27, 28, 29], [29])])
def spec_l02Pair.B1 : List Nat := [0, 0, 2, 7, 15, 31, 31, 95, 255, 511, 1023, 2047, 4095, 2047, 10239, 32767, 2047, 67583, 262143, 524287, 1048575, 2097151, 4194303, 8388607, 2097151, 18874367, 67108863, 134217727, 268435455, 536870911, 1073741823]
theorem spec_l02Pair.tab1 : rtab .any (opsOf Try.f179 1) = spec_l02Pair.T1 := by kernel_rfl
theorem spec_l02Pair.bits1 : waitsOk spec_l02Pair.T1.2 spec_l02Pair.B1 = true := by kernel_rfl
set_option maxHeartbeats 8000000 in
set_option maxRecDepth 100000 in
theorem spec_l02Pair.calls (k : Nat) (a0_0 : Int) (A0_1 : Option Addr) (c0_1 : Nat) (l0_1 : List Int) (a1_0 : Int) (a1_1 : Int) (r : Bool) (w : World) (hr0_1 : Kd.C (Kd.int .i64) w A0_1 l0_1.length l0_1) (hc0_1 : l0_1.length ≤ c0_1) (h : spec_l02Pair.f k a0_0 l0_1 a1_0 a1_1 = some r) :
  Calls Try.prog 179 #[.agg #[.int .i64 a0_0, .slice A0_1 l0_1.length c0_1], .agg #[.int .i64 a1_0, .int .i64 a1_1]] w fun e w' => e = .returned (.bool r) ∧ Below w.heap.size w w' := by
 have hu28 := Try.underlying28
 have hu73 := Try.underlying73
 have HR0_1 := Aside0.mk hr0_1
 have HC0_1 := Aside0.mk hc0_1
 clear hr0_1 hc0_1
 have HB := Aside0.mk (Below.refl w.heap.size w)
 have H : ((spec_l01Has.f k a0_0 l0_1 a1_0).bind fun t234 => (if t234 = true then ((spec_l01Has.f k a0_0 l0_1 a1_1).bind fun t235 => (if t235 = true then (if (Go.bits .and .i64 a1_0 a1_1) = a1_0 then ((spec_l01Ones.f k a1_1).bind fun t236 => ((spec_l01Ones.f k a1_0).bind fun t237 => (some (t236 == (wrap64 (t237 + 1)))))) else (some false)) else (some false))) else (some false))) = some r := h
 clear h
 replace H := Option.bind_eq_some_iff.mp H
 obtain ⟨t234, A30, H⟩ := H
 try dsimp only at H
 have A3 := Aside0.mk A30
 clear A30
 by_cases c4 : t234 = true
 ·subst c4
  have H1 : ((spec_l01Has.f k a0_0 l0_1 a1_1).bind fun t235 => (if t235 = true then (if (Go.bits .and .i64 a1_0 a1_1) = a1_0 then ((spec_l01Ones.f k a1_1).bind fun t236 => ((spec_l01Ones.f k a1_0).bind fun t237 => (some (t236 == (wrap64 (t237 + 1)))))) else (some false)) else (some false))) = some r := by rw [if_pos rfl] at H; exact H
  clear H
  have H := H1
  clear H1
  replace H := Option.bind_eq_some_iff.mp H
  obtain ⟨t235, A50, H⟩ := H
  try dsimp only at H
  have A5 := Aside0.mk A50
  clear A50
  by_cases c6 : t235 = true
  ·subst c6
   have H1 : (if (Go.bits .and .i64 a1_0 a1_1) = a1_0 then ((spec_l01Ones.f k a1_1).bind fun t236 => ((spec_l01Ones.f k a1_0).bind fun t237 => (some (t236 == (wrap64 (t237 + 1)))))) else (some false)) = some r := by rw [if_pos rfl] at H; exact H
   clear H
   have H := H1
   clear H1
   by_cases c7 : (Go.bits .and .i64 a1_0 a1_1) = a1_0
   ·rw [if_pos c7] at H
    have c7b0 : ((Go.bits .and .i64 a1_0 a1_1) == a1_0) = true := beq_iff_eq.mpr c7
    have c7b1 : ((Go.bits .and .i64 a1_0 a1_1) != a1_0) = false := bne_eq_false_iff_eq.mpr c7
    clear c7
    replace H := Option.bind_eq_some_iff.mp H
    obtain ⟨t236, A80, H⟩ := H
    try dsimp only at H
    have A8 := Aside0.mk A80
    clear A80
    replace H := Option.bind_eq_some_iff.mp H
    obtain ⟨t237, A90, H⟩ := H
    try dsimp only at H
    have A9 := Aside0.mk A90
    clear A90
    obtain rfl := Option.some.inj H
    go_enter Try.func179, Try.ntmps179
    try go_wp2_with (first | ((with_reducible refine gate_dst (N := 2) rfl ?_); refine box_event ?hg (N := 2) ?hd (cs := #[.int .i64 a0_0, .slice A0_1 l0_1.length c0_1]) (t := 28) ?hr ?_; (case hd => rfl); (case hg => rfl); (case hr => first | (go_simp; done) | (go_simp; rfl)); intro gb232 hg w10 hbox hb; have BK232 := Aside0.mk (hbox); have GW232 := gH HB hg; have GE232 := gH HB hg; replace HB := sH HB hb; clear hb hbox hg) | ((with_reducible refine gate_dst (N := 3) rfl ?_); refine box_event ?hg (N := 3) ?hd (cs := #[.int .i64 a1_0, .int .i64 a1_1]) (t := 73) ?hr ?_; (case hd => rfl); (case hg => rfl); (case hr => first | (go_simp; done) | (go_simp; rfl)); intro gb233 hg w11 hbox hb; have BK233 := Aside0.mk (hbox); have GW233 := gH HB hg; have GE233 := gH HB hg; replace HB := sH HB hb; have NB232_233 := nB BK232 hg; have NB233_232 := oB BK232 hg; replace BK232 := sB BK232 hb; clear hb hbox hg))
    replace BK232 := dB BK232
    replace BK233 := dB BK233
    replace HB := dH HB
    refine st_ 31 (S := fun w' => w'.cell? ⟨gb232, 0, none⟩ = some (.int .i64 a0_0) ∧ w'.cell? ⟨gb232, 1, none⟩ = some (.slice A0_1 l0_1.length c0_1) ∧ w'.cell? ⟨gb233, 0, none⟩ = some (.int .i64 a1_0) ∧ w'.cell? ⟨gb233, 1, none⟩ = some (.int .i64 a1_1)) (ds := []) ⟨cB BK232 0, cB BK232 1, cB BK233 0, cB BK233 1⟩ (fun hHeld => ?_); refine with_tabW spec_l02Pair.tab1 spec_l02Pair.bits1 (fun HT_ HW_ => ?_)
    generalize w11.drew = w12 at BK232 BK233 HB hHeld ⊢
    refine pu_ 1 6 2 HT_ ?_
    refine tk_ 0 5 3 HT_ HW_ hHeld ?_
    refine tk_ 2 7 7 HT_ HW_ hHeld ?_
    refine on_ 3 (some 8) 15 HT_ (fun K hK => ?_)
    refine ca_ Try.func102 #[.agg #[.int .i64 a0_0, .slice A0_1 l0_1.length c0_1], .int .i64 a1_0] ?_
    with_reducible refine (spec_l01Has.calls k a0_0 _ _ l0_1 a1_0 true _ ?side1 ?side2 A3.out).mono ?_
    (case side1 => exact pC ((Kd.C_below HR0_1.out HB.out)))
    (case side2 => exact HC0_1.out)
    rintro e w13 ⟨rfl, hb⟩
    refine ⟨_, rfl, ?_⟩
    replace BK232 := sB BK232 hb
    replace BK233 := sB BK233 hb
    replace HB := sH HB hb
    (try clear hb)
    (try clear hb2)
    (try clear hk)
    (try clear hi)
    refine hK.out _ _ ⟨cB BK232 0, cB BK232 1, cB BK233 0, cB BK233 1⟩ (fun hHeld => ?_)
    clear hK K
    refine nm_ ?_
    refine pu_ 4 9 31 HT_ ?_
    refine pu_ 6 11 95 HT_ ?_
    refine tk_ 5 10 127 HT_ HW_ hHeld ?_
    refine tk_ 7 12 255 HT_ HW_ hHeld ?_
    refine on_ 8 (some 13) 511 HT_ (fun K hK => ?_)
    refine ca_ Try.func102 #[.agg #[.int .i64 a0_0, .slice A0_1 l0_1.length c0_1], .int .i64 a1_1] ?_
    with_reducible refine (spec_l01Has.calls k a0_0 _ _ l0_1 a1_1 true _ ?side1 ?side2 A5.out).mono ?_
    (case side1 => exact pC ((Kd.C_below HR0_1.out HB.out)))
    (case side2 => exact HC0_1.out)
    rintro e w14 ⟨rfl, hb⟩
    refine ⟨_, rfl, ?_⟩
    replace BK232 := sB BK232 hb
    replace BK233 := sB BK233 hb
    replace HB := sH HB hb
    (try clear hb)
    (try clear hb2)
    (try clear hk)
    (try clear hi)
    refine hK.out _ _ ⟨cB BK232 0, cB BK232 1, cB BK233 0, cB BK233 1⟩ (fun hHeld => ?_)
    clear hK K
    refine nm_ ?_
    refine pu_ 9 14 1023 HT_ ?_
    refine pu_ 10 15 2047 HT_ ?_
    refine pu_ 11 16 4095 HT_ ?_
    refine pu_ 13 18 12287 HT_ ?_
    refine pu_ 16 21 77823 HT_ ?_
    refine tk_ 12 17 81919 HT_ HW_ hHeld ?_
    refine tk_ 14 19 98303 HT_ HW_ hHeld ?_
    refine pu_ 15 20 131071 HT_ ?_
    refine tk_ 17 22 262143 HT_ HW_ hHeld ?_
    refine pu_ 18 23 524287 HT_ ?_
    refine pu_ 19 24 1048575 HT_ ?_
    refine pu_ 20 25 2097151 HT_ ?_
    refine pu_ 21 26 4194303 HT_ ?_
    refine pu_ 24 29 20971519 HT_ ?_
    refine tk_ 22 27 25165823 HT_ HW_ hHeld ?_
    refine tk_ 25 30 58720255 HT_ HW_ hHeld ?_
    refine on_ 23 (some 28) 67108863 HT_ (fun K hK => ?_)
    refine ca_ Try.func129 #[.int .i64 a1_1] ?_
    with_reducible refine (spec_l01Ones.calls k a1_1 t236 _ A8.out).mono ?_
    rintro e w' ⟨rfl, ⟨nd, rfl⟩⟩
    refine ⟨_, rfl, ?_⟩
    refine hK.out _ _ ⟨cB BK232 0, cB BK232 1, cB BK233 0, cB BK233 1⟩ (fun hHeld => ?_)
    clear hK K
    refine nm_ ?_
    refine on_ 26 (some 31) 134217727 HT_ (fun K hK => ?_)
    refine ca_ Try.func129 #[.int .i64 a1_0] ?_
    with_reducible refine (spec_l01Ones.calls k a1_0 t237 _ A9.out).mono ?_
    rintro e w' ⟨rfl, ⟨nd, rfl⟩⟩
    refine ⟨_, rfl, ?_⟩
    refine hK.out _ _ ⟨cB BK232 0, cB BK232 1, cB BK233 0, cB BK233 1⟩ (fun hHeld => ?_)
    clear hK K
    refine nm_ ?_
    refine pu_ 27 32 268435455 HT_ ?_
    refine pu_ 28 33 536870911 HT_ ?_
    refine pu_ 29 34 1073741823 HT_ ?_
    refine pu_ 30 4 2147483647 HT_ ?_
    refine dn_ HT_ ?_
    try go_wp2
    go_ret
    exact ⟨by first | rfl | (simp [errW_none, errW_some] <;> rfl) | (simp [*, errW_none, errW_some] <;> rfl) | (exfalso; simp_all), pH HB⟩
   ·rw [if_neg c7] at H
    have c7b0 : ((Go.bits .and .i64 a1_0 a1_1) == a1_0) = false := beq_eq_false_iff_ne.mpr c7
    have c7b1 : ((Go.bits .and .i64 a1_0 a1_1) != a1_0) = true := bne_iff_ne.mpr c7
    obtain rfl := Option.some.inj H
    go_enter Try.func179, Try.ntmps179
    try go_wp2_with (first | ((with_reducible refine gate_dst (N := 2) rfl ?_); refine box_event ?hg (N := 2) ?hd (cs := #[.int .i64 a0_0, .slice A0_1 l0_1.length c0_1]) (t := 28) ?hr ?_; (case hd => rfl); (case hg => rfl); (case hr => first | (go_simp; done) | (go_simp; rfl)); intro gb232 hg w15 hbox hb; have BK232 := Aside0.mk (hbox); have GW232 := gH HB hg; have GE232 := gH HB hg; replace HB := sH HB hb; clear hb hbox hg) | ((with_reducible refine gate_dst (N := 3) rfl ?_); refine box_event ?hg (N := 3) ?hd (cs := #[.int .i64 a1_0, .int .i64 a1_1]) (t := 73) ?hr ?_; (case hd => rfl); (case hg => rfl); (case hr => first | (go_simp; done) | (go_simp; rfl)); intro gb233 hg w16 hbox hb; have BK233 := Aside0.mk (hbox); have GW233 := gH HB hg; have GE233 := gH HB hg; replace HB := sH HB hb; have NB232_233 := nB BK232 hg; have NB233_232 := oB BK232 hg; replace BK232 := sB BK232 hb; clear hb hbox hg))
    replace BK232 := dB BK232
    replace BK233 := dB BK233
    replace HB := dH HB
    refine st_ 31 (S := fun w' => w'.cell? ⟨gb232, 0, none⟩ = some (.int .i64 a0_0) ∧ w'.cell? ⟨gb232, 1, none⟩ = some (.slice A0_1 l0_1.length c0_1) ∧ w'.cell? ⟨gb233, 0, none⟩ = some (.int .i64 a1_0) ∧ w'.cell? ⟨gb233, 1, none⟩ = some (.int .i64 a1_1)) (ds := []) ⟨cB BK232 0, cB BK232 1, cB BK233 0, cB BK233 1⟩ (fun hHeld => ?_); refine with_tabW spec_l02Pair.tab1 spec_l02Pair.bits1 (fun HT_ HW_ => ?_)
    generalize w16.drew = w17 at BK232 BK233 HB hHeld ⊢
    refine pu_ 1 6 2 HT_ ?_
    refine tk_ 0 5 3 HT_ HW_ hHeld ?_
    refine tk_ 2 7 7 HT_ HW_ hHeld ?_
    refine on_ 3 (some 8) 15 HT_ (fun K hK => ?_)
    refine ca_ Try.func102 #[.agg #[.int .i64 a0_0, .slice A0_1 l0_1.length c0_1], .int .i64 a1_0] ?_
    with_reducible refine (spec_l01Has.calls k a0_0 _ _ l0_1 a1_0 true _ ?side1 ?side2 A3.out).mono ?_
    (case side1 => exact pC ((Kd.C_below HR0_1.out HB.out)))
    (case side2 => exact HC0_1.out)
    rintro e w18 ⟨rfl, hb⟩
    refine ⟨_, rfl, ?_⟩
    replace BK232 := sB BK232 hb
    replace BK233 := sB BK233 hb
    replace HB := sH HB hb
    (try clear hb)
    (try clear hb2)
    (try clear hk)
    (try clear hi)
    refine hK.out _ _ ⟨cB BK232 0, cB BK232 1, cB BK233 0, cB BK233 1⟩ (fun hHeld => ?_)
    clear hK K
    refine nm_ ?_
    refine pu_ 4 9 31 HT_ ?_
    refine pu_ 6 11 95 HT_ ?_
    refine tk_ 5 10 127 HT_ HW_ hHeld ?_
    refine tk_ 7 12 255 HT_ HW_ hHeld ?_
    refine on_ 8 (some 13) 511 HT_ (fun K hK => ?_)
    refine ca_ Try.func102 #[.agg #[.int .i64 a0_0, .slice A0_1 l0_1.length c0_1], .int .i64 a1_1] ?_
    with_reducible refine (spec_l01Has.calls k a0_0 _ _ l0_1 a1_1 true _ ?side1 ?side2 A5.out).mono ?_
    (case side1 => exact pC ((Kd.C_below HR0_1.out HB.out)))
    (case side2 => exact HC0_1.out)
    rintro e w19 ⟨rfl, hb⟩
    refine ⟨_, rfl, ?_⟩
    replace BK232 := sB BK232 hb
    replace BK233 := sB BK233 hb
    replace HB := sH HB hb
    (try clear hb)
    (try clear hb2)
    (try clear hk)
    (try clear hi)
    refine hK.out _ _ ⟨cB BK232 0, cB BK232 1, cB BK233 0, cB BK233 1⟩ (fun hHeld => ?_)
    clear hK K
    refine nm_ ?_
    refine pu_ 9 14 1023 HT_ ?_
    refine pu_ 10 15 2047 HT_ ?_
    refine pu_ 11 16 4095 HT_ ?_
    refine pu_ 13 18 12287 HT_ ?_
    refine pu_ 16 21 77823 HT_ ?_
    refine tk_ 12 17 81919 HT_ HW_ hHeld ?_
    refine tk_ 14 19 98303 HT_ HW_ hHeld ?_
    refine pu_ 15 20 131071 HT_ ?_
    refine tk_ 17 22 262143 HT_ HW_ hHeld ?_
    refine pu_ 18 23 524287 HT_ ?_
    refine pu_ 19 24 1048575 HT_ ?_
    refine pu_ 20 25 2097151 HT_ ?_
    refine pn_ 21 26 4194303 HT_ ?_
    refine pn_ 22 27 8388607 HT_ ?_
    refine pn_ 23 28 16777215 HT_ ?_
    refine pn_ 24 29 33554431 HT_ ?_
    refine pn_ 25 30 67108863 HT_ ?_
    refine pn_ 26 31 134217727 HT_ ?_
    refine pn_ 27 32 268435455 HT_ ?_
    refine pn_ 28 33 536870911 HT_ ?_
    refine pu_ 29 34 1073741823 HT_ ?_
    refine pu_ 30 4 2147483647 HT_ ?_
    refine dn_ HT_ ?_
    try go_wp2
    go_ret
    exact ⟨by first | rfl | (simp [errW_none, errW_some] <;> rfl) | (simp [*, errW_none, errW_some] <;> rfl) | (exfalso; simp_all), pH HB⟩
  ·replace c6 := Bool.eq_false_iff.mpr c6
   subst c6
   have H1 : (some false) = some r := by rw [if_neg (show ¬ (false = true) by decide)] at H; exact H
   clear H
   have H := H1
   clear H1
   obtain rfl := Option.some.inj H
   go_enter Try.func179, Try.ntmps179
   try go_wp2_with (first | ((with_reducible refine gate_dst (N := 2) rfl ?_); refine box_event ?hg (N := 2) ?hd (cs := #[.int .i64 a0_0, .slice A0_1 l0_1.length c0_1]) (t := 28) ?hr ?_; (case hd => rfl); (case hg => rfl); (case hr => first | (go_simp; done) | (go_simp; rfl)); intro gb232 hg w20 hbox hb; have BK232 := Aside0.mk (hbox); have GW232 := gH HB hg; have GE232 := gH HB hg; replace HB := sH HB hb; clear hb hbox hg) | ((with_reducible refine gate_dst (N := 3) rfl ?_); refine box_event ?hg (N := 3) ?hd (cs := #[.int .i64 a1_0, .int .i64 a1_1]) (t := 73) ?hr ?_; (case hd => rfl); (case hg => rfl); (case hr => first | (go_simp; done) | (go_simp; rfl)); intro gb233 hg w21 hbox hb; have BK233 := Aside0.mk (hbox); have GW233 := gH HB hg; have GE233 := gH HB hg; replace HB := sH HB hb; have NB232_233 := nB BK232 hg; have NB233_232 := oB BK232 hg; replace BK232 := sB BK232 hb; clear hb hbox hg))
   replace BK232 := dB BK232
   replace BK233 := dB BK233
   replace HB := dH HB
   refine st_ 31 (S := fun w' => w'.cell? ⟨gb232, 0, none⟩ = some (.int .i64 a0_0) ∧ w'.cell? ⟨gb232, 1, none⟩ = some (.slice A0_1 l0_1.length c0_1) ∧ w'.cell? ⟨gb233, 0, none⟩ = some (.int .i64 a1_0) ∧ w'.cell? ⟨gb233, 1, none⟩ = some (.int .i64 a1_1)) (ds := []) ⟨cB BK232 0, cB BK232 1, cB BK233 0, cB BK233 1⟩ (fun hHeld => ?_); refine with_tabW spec_l02Pair.tab1 spec_l02Pair.bits1 (fun HT_ HW_ => ?_)
   generalize w21.drew = w22 at BK232 BK233 HB hHeld ⊢
   refine pu_ 1 6 2 HT_ ?_
   refine tk_ 0 5 3 HT_ HW_ hHeld ?_
   refine tk_ 2 7 7 HT_ HW_ hHeld ?_
   refine on_ 3 (some 8) 15 HT_ (fun K hK => ?_)
   refine ca_ Try.func102 #[.agg #[.int .i64 a0_0, .slice A0_1 l0_1.length c0_1], .int .i64 a1_0] ?_
   with_reducible refine (spec_l01Has.calls k a0_0 _ _ l0_1 a1_0 true _ ?side1 ?side2 A3.out).mono ?_
   (case side1 => exact pC ((Kd.C_below HR0_1.out HB.out)))
   (case side2 => exact HC0_1.out)
   rintro e w23 ⟨rfl, hb⟩
   refine ⟨_, rfl, ?_⟩
   replace BK232 := sB BK232 hb
   replace BK233 := sB BK233 hb
   replace HB := sH HB hb
   (try clear hb)
   (try clear hb2)
   (try clear hk)
   (try clear hi)
   refine hK.out _ _ ⟨cB BK232 0, cB BK232 1, cB BK233 0, cB BK233 1⟩ (fun hHeld => ?_)
   clear hK K
   refine nm_ ?_
   refine pu_ 4 9 31 HT_ ?_
   refine pu_ 6 11 95 HT_ ?_
   refine tk_ 5 10 127 HT_ HW_ hHeld ?_
   refine tk_ 7 12 255 HT_ HW_ hHeld ?_
   refine on_ 8 (some 13) 511 HT_ (fun K hK => ?_)
   refine ca_ Try.func102 #[.agg #[.int .i64 a0_0, .slice A0_1 l0_1.length c0_1], .int .i64 a1_1] ?_
   with_reducible refine (spec_l01Has.calls k a0_0 _ _ l0_1 a1_1 false _ ?side1 ?side2 A5.out).mono ?_
   (case side1 => exact pC ((Kd.C_below HR0_1.out HB.out)))
   (case side2 => exact HC0_1.out)
   rintro e w24 ⟨rfl, hb⟩
   refine ⟨_, rfl, ?_⟩
   replace BK232 := sB BK232 hb
   replace BK233 := sB BK233 hb
   replace HB := sH HB hb
   (try clear hb)
   (try clear hb2)
   (try clear hk)
   (try clear hi)
   refine hK.out _ _ ⟨cB BK232 0, cB BK232 1, cB BK233 0, cB BK233 1⟩ (fun hHeld => ?_)
   clear hK K
   refine nm_ ?_
   refine pu_ 9 14 1023 HT_ ?_
   refine pu_ 10 15 2047 HT_ ?_
   refine pn_ 11 16 4095 HT_ ?_
   refine pn_ 12 17 8191 HT_ ?_
   refine pn_ 13 18 16383 HT_ ?_
   refine pn_ 14 19 32767 HT_ ?_
   refine pn_ 15 20 65535 HT_ ?_
   refine pn_ 16 21 131071 HT_ ?_
   refine pn_ 17 22 262143 HT_ ?_
   refine pn_ 18 23 524287 HT_ ?_
   refine pu_ 19 24 1048575 HT_ ?_
   refine pu_ 20 25 2097151 HT_ ?_
   refine pn_ 21 26 4194303 HT_ ?_
   refine pn_ 22 27 8388607 HT_ ?_
   refine pn_ 23 28 16777215 HT_ ?_
   refine pn_ 24 29 33554431 HT_ ?_
   refine pn_ 25 30 67108863 HT_ ?_
   refine pn_ 26 31 134217727 HT_ ?_
   refine pn_ 27 32 268435455 HT_ ?_
   refine pn_ 28 33 536870911 HT_ ?_
   refine pu_ 29 34 1073741823 HT_ ?_
   refine pu_ 30 4 2147483647 HT_ ?_
   refine dn_ HT_ ?_
   try go_wp2
   go_ret
   exact ⟨by first | rfl | (simp [errW_none, errW_some] <;> rfl) | (simp [*, errW_none, errW_some] <;> rfl) | (exfalso; simp_all), pH HB⟩
 ·replace c4 := Bool.eq_false_iff.mpr c4
  subst c4
  have H1 : (some false) = some r := by rw [if_neg (show ¬ (false = true) by decide)] at H; exact H
  clear H
  have H := H1
  clear H1
  obtain rfl := Option.some.inj H
  go_enter Try.func179, Try.ntmps179
  try go_wp2_with (first | ((with_reducible refine gate_dst (N := 2) rfl ?_); refine box_event ?hg (N := 2) ?hd (cs := #[.int .i64 a0_0, .slice A0_1 l0_1.length c0_1]) (t := 28) ?hr ?_; (case hd => rfl); (case hg => rfl); (case hr => first | (go_simp; done) | (go_simp; rfl)); intro gb232 hg w25 hbox hb; have BK232 := Aside0.mk (hbox); have GW232 := gH HB hg; have GE232 := gH HB hg; replace HB := sH HB hb; clear hb hbox hg) | ((with_reducible refine gate_dst (N := 3) rfl ?_); refine box_event ?hg (N := 3) ?hd (cs := #[.int .i64 a1_0, .int .i64 a1_1]) (t := 73) ?hr ?_; (case hd => rfl); (case hg => rfl); (case hr => first | (go_simp; done) | (go_simp; rfl)); intro gb233 hg w26 hbox hb; have BK233 := Aside0.mk (hbox); have GW233 := gH HB hg; have GE233 := gH HB hg; replace HB := sH HB hb; have NB232_233 := nB BK232 hg; have NB233_232 := oB BK232 hg; replace BK232 := sB BK232 hb; clear hb hbox hg))
  replace BK232 := dB BK232
  replace BK233 := dB BK233
  replace HB := dH HB
  refine st_ 31 (S := fun w' => w'.cell? ⟨gb232, 0, none⟩ = some (.int .i64 a0_0) ∧ w'.cell? ⟨gb232, 1, none⟩ = some (.slice A0_1 l0_1.length c0_1) ∧ w'.cell? ⟨gb233, 0, none⟩ = some (.int .i64 a1_0) ∧ w'.cell? ⟨gb233, 1, none⟩ = some (.int .i64 a1_1)) (ds := []) ⟨cB BK232 0, cB BK232 1, cB BK233 0, cB BK233 1⟩ (fun hHeld => ?_); refine with_tabW spec_l02Pair.tab1 spec_l02Pair.bits1 (fun HT_ HW_ => ?_)
  generalize w26.drew = w27 at BK232 BK233 HB hHeld ⊢
  refine pu_ 1 6 2 HT_ ?_
  refine tk_ 0 5 3 HT_ HW_ hHeld ?_
  refine tk_ 2 7 7 HT_ HW_ hHeld ?_
  refine on_ 3 (some 8) 15 HT_ (fun K hK => ?_)
  refine ca_ Try.func102 #[.agg #[.int .i64 a0_0, .slice A0_1 l0_1.length c0_1], .int .i64 a1_0] ?_
  with_reducible refine (spec_l01Has.calls k a0_0 _ _ l0_1 a1_0 false _ ?side1 ?side2 A3.out).mono ?_
  (case side1 => exact pC ((Kd.C_below HR0_1.out HB.out)))
  (case side2 => exact HC0_1.out)
  rintro e w28 ⟨rfl, hb⟩
  refine ⟨_, rfl, ?_⟩
  replace BK232 := sB BK232 hb
  replace BK233 := sB BK233 hb
  replace HB := sH HB hb
  (try clear hb)
  (try clear hb2)
  (try clear hk)
  (try clear hi)
  refine hK.out _ _ ⟨cB BK232 0, cB BK232 1, cB BK233 0, cB BK233 1⟩ (fun hHeld => ?_)
  clear hK K
  refine nm_ ?_
  refine pu_ 4 9 31 HT_ ?_
  refine pn_ 5 10 63 HT_ ?_
  refine pn_ 6 11 127 HT_ ?_
  refine pn_ 7 12 255 HT_ ?_
  refine pn_ 8 13 511 HT_ ?_
  refine pu_ 9 14 1023 HT_ ?_
  refine pu_ 10 15 2047 HT_ ?_
  refine pn_ 11 16 4095 HT_ ?_
  refine pn_ 12 17 8191 HT_ ?_
  refine pn_ 13 18 16383 HT_ ?_
  refine pn_ 14 19 32767 HT_ ?_
  refine pn_ 15 20 65535 HT_ ?_
  refine pn_ 16 21 131071 HT_ ?_
  refine pn_ 17 22 262143 HT_ ?_
  refine pn_ 18 23 524287 HT_ ?_
  refine pu_ 19 24 1048575 HT_ ?_
  refine pu_ 20 25 2097151 HT_ ?_
  refine pn_ 21 26 4194303 HT_ ?_
  refine pn_ 22 27 8388607 HT_ ?_
  refine pn_ 23 28 16777215 HT_ ?_
  refine pn_ 24 29 33554431 HT_ ?_
  refine pn_ 25 30 67108863 HT_ ?_
  refine pn_ 26 31 134217727 HT_ ?_
  refine pn_ 27 32 268435455 HT_ ?_
  refine pn_ 28 33 536870911 HT_ ?_
  refine pu_ 29 34 1073741823 HT_ ?_
  refine pu_ 30 4 2147483647 HT_ ?_
  refine dn_ HT_ ?_
  try go_wp2
  go_ret
  exact ⟨by first | rfl | (simp [errW_none, errW_some] <;> rfl) | (simp [*, errW_none, errW_some] <;> rfl) | (exfalso; simp_all), pH HB⟩
end Go.Proofs.Ytomdfjohnmikdaa.QS
namespace Go.Proofs.Ytomdfjohnmikdaa.QS
open Go.Proofs.Ytomdfjohnmikdaa.Cw Go.Proofs.Ytomdfjohnmikdaa.Kp Go.Proofs.Ytomdfjohnmikdaa.Ext Go.RowKit Go.Proofs.YtomdfjohnmikdaaW.PrintWords Go.Proofs.YtomdfjohnmikdaaW.PrintLast Go.Proofs.YtomdfjohnmikdaaW.PrintMore
attribute [local go_sem] max2_int min2_int max_two min_two max_three min_three max_four min_four   -- for this text's walks alone
set_option linter.unusedVariables false
set_option linter.unusedSimpArgs false
mutual
def spec_l02Is.l0 : Nat → List (S73) → Int → Int → List Int → Option (Bool)
 | 0, _, _, _, _ => none
 | k + 1, x1, x5, x239000, x239001 => if x5 < (x1.length : Int) then (if 0 ≤ x5 then ((spec_l02Pair.f k x239000 x239001 ((rd_T73 x1 x5).f0) ((rd_T73 x1 x5).f1)).bind fun t240 => (if t240 = true then (if x5 > 0 then (if 0 ≤ (wrap64 (x5 - 1)) then (if (wrap64 (x5 - 1)) < (x1.length : Int) then ((spec_l02Less.f ((rd_T73 x1 (wrap64 (x5 - 1))).f0) ((rd_T73 x1 (wrap64 (x5 - 1))).f1) ((rd_T73 x1 x5).f0) ((rd_T73 x1 x5).f1)).bind fun t243 => (spec_l02Is.j1 k x1 x5 (!t243) x239000 x239001)) else (none)) else (none)) else (spec_l02Is.j1 k x1 x5 false x239000 x239001)) else (spec_l02Is.j1 k x1 x5 true x239000 x239001))) else (none)) else (some true)
def spec_l02Is.j1 : Nat → List (S73) → Int → Bool → Int → List Int → Option (Bool)
 | 0, _, _, _, _, _ => none
 | k + 1, x1, x5, x36, x239000, x239001 => if x36 = true then (some false) else (spec_l02Is.l1 k x1 x5 0 x239000 x239001)
def spec_l02Is.l1 : Nat → List (S73) → Int → Int → Int → List Int → Option (Bool)
 | 0, _, _, _, _, _ => none
 | k + 1, x1, x5, x6, x239000, x239001 => if x6 < x5 then (if 0 ≤ x5 then (if x5 < (x1.length : Int) then (if 0 ≤ x6 then (if x6 < (x1.length : Int) then (if ((rd_T73 x1 x5).f0) = ((rd_T73 x1 x6).f0) then (some false) else (if ((rd_T73 x1 x5).f0) = ((rd_T73 x1 x6).f1) then (some false) else (if ((rd_T73 x1 x5).f1) = ((rd_T73 x1 x6).f0) then (some false) else (if ((rd_T73 x1 x5).f1) = ((rd_T73 x1 x6).f1) then (some false) else (spec_l02Is.l1 k x1 x5 (wrap64 (x6 + 1)) x239000 x239001))))) else (none)) else (none)) else (none)) else (none)) else (spec_l02Is.l0 k x1 (wrap64 (x5 + 1)) x239000 x239001)
end
def spec_l02Is.f (k : Nat) (a0_0 : Int) (l0_1 : List Int) (l1 : List (S73)) : Option (Bool) := spec_l02Is.l0 k l1 0 a0_0 l0_1
def spec_l02Is.T4 : Bool × List (List Nat × List Nat) := (true, [([], []), ([], []), ([], []), ([1, 2], [1, 2]), ([3], [3]), ([0, 4], [0, 4]), ([5], [5]), ([6, 5], [6]), ([7], [7]), ([8, 7], [7, 8]), ([9, 7, 7], [7, 9]), ([10], [10]), ([10], [10]), ([12, 10], [10, 12]), ([11, 13, 10], [10, 11, 13]), ([14, 10], [10, 14]), ([10], [10]), ([10], [10]), ([16, 17, 10], [10, 16, 17]), ([18, 10], [10, 18]), ([15, 19, 10, 10], [10, 15, 19]), ([20, 10], [10, 20]), ([10, 21, 7], [7, 10, 21]), ([7, 22], [7, 22])])
def spec_l02Is.B4 : List Nat := [0, 0, 0, 6, 14, 31, 63, 127, 255, 511, 1023, 2047, 2047, 6143, 16383, 32767, 2047, 2047, 198655, 460799, 1048575, 2097151, 4194303, 8388607]
theorem spec_l02Is.tab4 : rtab .any (opsOf Try.f144 4) = spec_l02Is.T4 := by kernel_rfl
theorem spec_l02Is.bits4 : waitsOk spec_l02Is.T4.2 spec_l02Is.B4 = true := by kernel_rfl
def spec_l02Is.T9 : Bool × List (List Nat × List Nat) := (true, [([], []), ([], []), ([0, 1], [0, 1]), ([2], [2]), ([3], [3]), ([], []), ([], []), ([5, 6], [5, 6]), ([7], [7]), ([8], [8]), ([4, 9], [4, 9]), ([10], [10]), ([11], [11]), ([11], [11]), ([12, 13, 11], [11, 12, 13]), ([14, 11], [11, 14]), ([15, 11], [11, 15]), ([11], [11]), ([11], [11]), ([17, 18, 11], [11, 17, 18]), ([19, 11], [11, 19]), ([20, 11], [11, 20]), ([16, 21, 11], [11, 16, 21]), ([11, 22], [11, 22]), ([23, 11], [23]), ([24], [24]), ([24], [24]), ([25, 26, 24], [24, 25, 26]), ([27, 24], [24, 27]), ([28, 24], [24, 28]), ([24], [24]), ([24], [24]), ([30, 31, 24], [24, 30, 31]), ([32, 24], [24, 32]), ([33, 24], [24, 33]), ([29, 34, 24], [24, 29, 34]), ([24, 35], [24, 35]), ([36, 24], [36]), ([37], [37]), ([37], [37]), ([38, 39, 37], [37, 38, 39]), ([40, 37], [37, 40]), ([41, 37], [37, 41]), ([37], [37]), ([37], [37]), ([43, 44, 37], [37, 43, 44]), ([45, 37], [37, 45]), ([46, 37], [37, 46]), ([42, 47, 37], [37, 42, 47]), ([37, 48], [37, 48])])
def spec_l02Is.B9 : List Nat := [0, 0, 3, 7, 15, 0, 0, 96, 224, 480, 1023, 2047, 4095, 4095, 16383, 32767, 65535, 4095, 4095, 397311, 921599, 1970175, 4194303, 8388607, 16777215, 33554431, 33554431, 134217727, 268435455, 536870911, 33554431, 33554431, 3254779903, 7549747199, 16139681791, 34359738367, 68719476735, 137438953471, 274877906943, 274877906943, 1099511627775, 2199023255551, 4398046511103, 274877906943, 274877906943, 26663156973567, 61847529062399, 132216273240063, 281474976710655, 562949953421311]
theorem spec_l02Is.tab9 : rtab .any (opsOf Try.f144 9) = spec_l02Is.T9 := by kernel_rfl
theorem spec_l02Is.bits9 : waitsOk spec_l02Is.T9.2 spec_l02Is.B9 = true := by kernel_rfl
set_option maxHeartbeats 8000000 in
set_option maxRecDepth 100000 in
theorem spec_l02Is.calls (k : Nat) (a0_0 : Int) (A0_1 : Option Addr) (c0_1 : Nat) (l0_1 : List Int) (A1 : Option Addr) (c1 : Nat) (l1 : List (S73)) (r : Bool) (w : World) (hr0_1 : Kd.C (Kd.int .i64) w A0_1 l0_1.length l0_1) (hc0_1 : l0_1.length ≤ c0_1) (hr1 : Kd.C k73 w A1 l1.length l1) (hc1 : l1.length ≤ c1) (h : spec_l02Is.f k a0_0 l0_1 l1 = some r) :
  Calls Try.prog 144 #[.agg #[.int .i64 a0_0, .slice A0_1 l0_1.length c0_1], .slice A1 l1.length c1] w fun e w' => e = .returned (.bool r) ∧ Below w.heap.size w w' := by
 have hu28 := Try.underlying28
 have hu73 := Try.underlying73
 have HR0_1 := Aside0.mk hr0_1
 have HC0_1 := Aside0.mk hc0_1
 clear hr0_1 hc0_1
 have HR1 := Aside0.mk hr1
 have HC1 := Aside0.mk hc1
 clear hr1 hc1
 have HB := Aside0.mk (Below.refl w.heap.size w)
 have H : (spec_l02Is.l0 k l1 0 a0_0 l0_1) = some r := h
 clear h
 have H' := Aside0.mk H
 clear H
 go_enter Try.func144, Try.ntmps144
 go_wp2_with (first | ((with_reducible refine gate_dst (N := 2) rfl ?_); refine box_event ?hg (N := 2) ?hd (cs := #[.int .i64 a0_0, .slice A0_1 l0_1.length c0_1]) (t := 28) ?hr ?_; (case hd => rfl); (case hg => rfl); (case hr => first | (go_simp; done) | (go_simp; rfl)); intro gb238 hg w3 hbox hb; have BK238 := Aside0.mk (hbox); have GW238 := gH HB hg; have GE238 := gH HB hg; replace HB := sH HB hb; clear hb hbox hg))
 go_loopg [5] k (fun kq v5 w' => ∃ (x5_1 : Int), v5 = .int .i64 x5_1 ∧ Aside0 (spec_l02Is.l0 kq l1 x5_1 a0_0 l0_1 = some r) ∧ Aside0 (kq ≤ k) ∧ Aside0 (w'.heap[gb238]? = some (.cells #[.int .i64 a0_0, (.slice A0_1 l0_1.length c0_1)] 28 (0, 0))) ∧ Aside0 (Below w.heap.size w w'))
 case atStart => exact ⟨(0), (by first | rfl | (simp; done) | (simp [*]; done)), H', ⟨Nat.le_refl _⟩, ⟨pB BK238⟩, ⟨pH HB⟩⟩
 case round =>
  clear H'
  try clear c1
  try clear p2
  obtain ⟨x5_1, rfl, HA, HK1, BK238, HB⟩ := hrel
  cases gk with
  | zero => exact absurd HA.out (by simp [spec_l02Is.l0])
  | succ k1 =>
   have H := HA.out
   clear HA
   simp only [spec_l02Is.l0] at H
   by_cases c4 : x5_1 < (l1.length : Int)
   ·rw [if_pos c4] at H
    have c4b0 : decide (x5_1 < (l1.length : Int)) = true := decide_eq_true c4
    clear c4
    have HC5 := Aside0.mk H
    clear H
    go_upto_region 4 with (fail)
    go_cut [36] (fun v36 wc => ∃ (kq : Nat) (x36_4 : Bool), v36 = .bool x36_4 ∧ Aside0 (spec_l02Is.j1 kq l1 x5_1 x36_4 a0_0 l0_1 = some r) ∧ Aside0 (kq ≤ k1) ∧ Aside0 (wc.heap[gb238]? = some (.cells #[.int .i64 a0_0, (.slice A0_1 l0_1.length c0_1)] 28 (0, 0))) ∧ Aside0 (Below w.heap.size w wc))
    case first =>
     have H := HC5.out
     clear HC5
     by_cases c6 : 0 ≤ x5_1
     ·rw [if_pos c6] at H
      have c6b0 : decide (0 ≤ x5_1) = true := decide_eq_true c6
      clear c6
      (first | rw [c6b0] | (simp only [i64_w, i32_w]; rw [c6b0]) | skip)
      replace H := Option.bind_eq_some_iff.mp H
      obtain ⟨t240, A70, H⟩ := H
      try dsimp only at H
      have A7 := Aside0.mk A70
      clear A70
      by_cases c8 : t240 = true
      ·subst c8
       have H1 : (if x5_1 > 0 then (if 0 ≤ (wrap64 (x5_1 - 1)) then (if (wrap64 (x5_1 - 1)) < (l1.length : Int) then ((spec_l02Less.f ((rd_T73 l1 (wrap64 (x5_1 - 1))).f0) ((rd_T73 l1 (wrap64 (x5_1 - 1))).f1) ((rd_T73 l1 x5_1).f0) ((rd_T73 l1 x5_1).f1)).bind fun t243 => (spec_l02Is.j1 k1 l1 x5_1 (!t243) a0_0 l0_1)) else (none)) else (none)) else (spec_l02Is.j1 k1 l1 x5_1 false a0_0 l0_1)) = some r := by rw [if_pos rfl] at H; exact H
       clear H
       have H := H1
       clear H1
       by_cases c9 : x5_1 > 0
       ·rw [if_pos c9] at H
        have c9b0 : decide (0 < x5_1) = true := decide_eq_true c9
        clear c9
        obtain ⟨ji10, hji10⟩ : ∃ j_ : Int, (wrap64 (x5_1 - 1)) = j_ := ⟨_, rfl⟩
        replace H : (if 0 ≤ (ji10) then (if (ji10) < (l1.length : Int) then ((spec_l02Less.f ((rd_T73 l1 (ji10)).f0) ((rd_T73 l1 (ji10)).f1) ((rd_T73 l1 x5_1).f0) ((rd_T73 l1 x5_1).f1)).bind fun t243 => (spec_l02Is.j1 k1 l1 x5_1 (!t243) a0_0 l0_1)) else (none)) else (none)) = some r := by first | (rw [hji10] at H; exact H) | (simp only [hji10] at H ⊢; exact H)
        (try rw [hji10] at A7)
        have hji10w : (IntKind.i64.wrap (x5_1 - 1)) = ji10 := (i64_w _).trans hji10
        by_cases c11 : 0 ≤ (ji10)
        ·rw [if_pos c11] at H
         have c11b0 : decide (0 ≤ (ji10)) = true := decide_eq_true c11
         clear c11
         by_cases c12 : (ji10) < (l1.length : Int)
         ·rw [if_pos c12] at H
          have c12b0 : decide ((ji10) < (l1.length : Int)) = true := decide_eq_true c12
          clear c12
          replace H := Option.bind_eq_some_iff.mp H
          obtain ⟨t243, A130, H⟩ := H
          try dsimp only at H
          have A13 := Aside0.mk A130
          clear A130
          have H' := Aside0.mk H
          clear H
          try go_wp2
          replace BK238 := dB BK238
          replace HB := dH HB
          have p239 : 0 ≤ (x5_1 : Int) := of_decide_eq_true (by first | (with_reducible assumption) | assumption)
          have q239 : x5_1 < (l1.length : Int) := of_decide_eq_true (by first | (with_reducible assumption) | assumption)
          obtain ⟨ad239, e239, hx239_0, hx239_1⟩ := at_T73 HR1.out x5_1 p239 q239
          have hw239_1 := hx239_1
          have hw239_0 := hx239_0
          cases e239
          replace hx239_0 := cH HB hx239_0
          replace hx239_1 := cH HB hx239_1
          replace p239 := eq_true p239
          replace q239 := eq_true q239
          have p241 : 0 ≤ ((ji10) : Int) := of_decide_eq_true (by first | (with_reducible assumption) | assumption)
          have q241 : (ji10) < (l1.length : Int) := of_decide_eq_true (by first | (with_reducible assumption) | assumption)
          obtain ⟨ad241, e241, hx241_0, hx241_1⟩ := at_T73 HR1.out (ji10) p241 q241
          have hw241_1 := hx241_1
          have hw241_0 := hx241_0
          obtain rfl : ad239 = ad241 := (by injection e241)
          replace hx241_0 := cH HB hx241_0
          replace hx241_1 := cH HB hx241_1
          replace p241 := eq_true p241
          replace q241 := eq_true q241
          have p242 : 0 ≤ (x5_1 : Int) := of_decide_eq_true (by first | (with_reducible assumption) | assumption)
          have q242 : x5_1 < (l1.length : Int) := of_decide_eq_true (by first | (with_reducible assumption) | assumption)
          obtain ⟨ad242, e242, hx242_0, hx242_1⟩ := at_T73 HR1.out x5_1 p242 q242
          have hw242_1 := hx242_1
          have hw242_0 := hx242_0
          obtain rfl : ad239 = ad242 := (by injection e242)
          replace hx242_0 := cH HB hx242_0
          replace hx242_1 := cH HB hx242_1
          replace p242 := eq_true p242
          replace q242 := eq_true q242
          refine st_ 24 (S := fun w' => w'.cell? ⟨gb238, 0, none⟩ = some (.int .i64 a0_0) ∧ w'.cell? ⟨gb238, 1, none⟩ = some (.slice A0_1 l0_1.length c0_1) ∧ w'.cell? (ad239.add ((x5_1).toNat * 2)) = some (.int .i64 ((rd_T73 l1 x5_1).f0)) ∧ w'.cell? ⟨(ad239.add ((x5_1).toNat * 2)).block, (ad239.add ((x5_1).toNat * 2)).off + 1, none⟩ = some (.int .i64 ((rd_T73 l1 x5_1).f1)) ∧ w'.cell? (ad239.add (((ji10)).toNat * 2)) = some (.int .i64 ((rd_T73 l1 (ji10)).f0)) ∧ w'.cell? ⟨(ad239.add (((ji10)).toNat * 2)).block, (ad239.add (((ji10)).toNat * 2)).off + 1, none⟩ = some (.int .i64 ((rd_T73 l1 (ji10)).f1)) ∧ w'.cell? (ad239.add ((x5_1).toNat * 2)) = some (.int .i64 ((rd_T73 l1 x5_1).f0)) ∧ w'.cell? ⟨(ad239.add ((x5_1).toNat * 2)).block, (ad239.add ((x5_1).toNat * 2)).off + 1, none⟩ = some (.int .i64 ((rd_T73 l1 x5_1).f1))) (ds := []) ⟨cB BK238 0, cB BK238 1, (cH HB hw239_0 :), (cH HB hw239_1 :), (cH HB hw241_0 :), (cH HB hw241_1 :), (cH HB hw242_0 :), (cH HB hw242_1 :)⟩ (fun hHeld => ?_); refine with_tabW spec_l02Is.tab4 spec_l02Is.bits4 (fun HT_ HW_ => ?_)
          generalize wr.drew = w14 at BK238 HB hx239_0 hx239_1 hx241_0 hx241_1 hx242_0 hx242_1 hHeld ⊢
          refine pu_ 1 14 2 HT_ ?_
          refine pu_ 2 15 6 HT_ ?_
          refine pu_ 3 16 14 HT_ ?_
          refine tk_ 0 13 15 HT_ HW_ hHeld ?_
          refine tk_ 4 17 31 HT_ HW_ hHeld ?_
          refine on_ 5 (some 18) 63 HT_ (fun K hK => ?_)
          refine ca_ Try.func179 #[.agg #[.int .i64 a0_0, .slice A0_1 l0_1.length c0_1], .agg #[.int .i64 ((rd_T73 l1 x5_1).f0), .int .i64 ((rd_T73 l1 x5_1).f1)]] ?_
          with_reducible refine (spec_l02Pair.calls k1 a0_0 _ _ l0_1 ((rd_T73 l1 x5_1).f0) ((rd_T73 l1 x5_1).f1) true _ ?side1 ?side2 A7.out).mono ?_
          (case side1 => exact pC ((Kd.C_below HR0_1.out HB.out)))
          (case side2 => exact HC0_1.out)
          rintro e w15 ⟨rfl, hb⟩
          refine ⟨_, rfl, ?_⟩
          replace BK238 := sB BK238 hb
          replace HB := sH HB hb
          (try clear hb)
          (try clear hb2)
          (try clear hk)
          (try clear hi)
          refine hK.out _ _ ⟨cB BK238 0, cB BK238 1, (cH HB hw239_0 :), (cH HB hw239_1 :), (cH HB hw241_0 :), (cH HB hw241_1 :), (cH HB hw242_0 :), (cH HB hw242_1 :)⟩ (fun hHeld => ?_)
          clear hK K
          refine nm_ ?_
          refine pu_ 6 19 127 HT_ ?_
          refine pu_ 7 20 255 HT_ ?_
          refine pu_ 8 21 511 HT_ ?_
          refine pu_ 9 22 1023 HT_ ?_
          refine pu_ 10 23 2047 HT_ ?_
          refine pu_ 11 24 4095 HT_ ?_
          refine pu_ 12 25 8191 HT_ ?_
          refine pu_ 13 26 16383 HT_ ?_
          refine pu_ 14 27 32767 HT_ ?_
          refine pu_ 16 29 98303 HT_ ?_
          refine pu_ 17 30 229375 HT_ ?_
          refine pu_ 18 31 491519 HT_ ?_
          refine tk_ 15 28 524287 HT_ HW_ hHeld ?_
          refine tk_ 19 32 1048575 HT_ HW_ hHeld ?_
          refine on_ 20 (some 33) 2097151 HT_ (fun K hK => ?_)
          refine ca_ Try.func162 #[.agg #[.int .i64 ((rd_T73 l1 (ji10)).f0), .int .i64 ((rd_T73 l1 (ji10)).f1)], .agg #[.int .i64 ((rd_T73 l1 x5_1).f0), .int .i64 ((rd_T73 l1 x5_1).f1)]] (hargs := by (try simp only [List.map_toArray, List.map_cons, List.map_nil]); first | done | (simp only [hji10]; rfl) | rfl | (simp only [List.length_drop, List.length_take]; rfl)) ?_
          with_reducible refine (spec_l02Less.calls ((rd_T73 l1 (ji10)).f0) ((rd_T73 l1 (ji10)).f1) ((rd_T73 l1 x5_1).f0) ((rd_T73 l1 x5_1).f1) t243 _ A13.out).mono ?_
          rintro e w16 ⟨rfl, hb⟩
          refine ⟨_, rfl, ?_⟩
          replace BK238 := sB BK238 hb
          replace HB := sH HB hb
          (try clear hb)
          (try clear hb2)
          (try clear hk)
          (try clear hi)
          refine hK.out _ _ ⟨cB BK238 0, cB BK238 1, (cH HB hw239_0 :), (cH HB hw239_1 :), (cH HB hw241_0 :), (cH HB hw241_1 :), (cH HB hw242_0 :), (cH HB hw242_1 :)⟩ (fun hHeld => ?_)
          clear hK K
          refine nm_ ?_
          refine pu_ 21 34 4194303 HT_ ?_
          refine pu_ 22 35 8388607 HT_ ?_
          refine pu_ 23 36 16777215 HT_ ?_
          refine dn_ HT_ ?_
          try go_wp2
          go_meet
          case rel => exact ⟨_, (!t243), (by first | rfl | (simp; done) | (simp [*]; done)), H', ⟨by have := HK1.out; first | omega | exact Nat.le_refl _⟩, ⟨pB BK238⟩, ⟨pH HB⟩⟩
         ·rw [if_neg c12] at H
          exact absurd H (by simp)
        ·rw [if_neg c11] at H
         exact absurd H (by simp)
       ·rw [if_neg c9] at H
        have c9b0 : decide (0 < x5_1) = false := decide_eq_false c9
        clear c9
        have H' := Aside0.mk H
        clear H
        try go_wp2
        replace BK238 := dB BK238
        replace HB := dH HB
        have p239 : 0 ≤ (x5_1 : Int) := of_decide_eq_true (by first | (with_reducible assumption) | assumption)
        have q239 : x5_1 < (l1.length : Int) := of_decide_eq_true (by first | (with_reducible assumption) | assumption)
        obtain ⟨ad239, e239, hx239_0, hx239_1⟩ := at_T73 HR1.out x5_1 p239 q239
        have hw239_1 := hx239_1
        have hw239_0 := hx239_0
        cases e239
        replace hx239_0 := cH HB hx239_0
        replace hx239_1 := cH HB hx239_1
        replace p239 := eq_true p239
        replace q239 := eq_true q239
        refine st_ 24 (S := fun w' => w'.cell? ⟨gb238, 0, none⟩ = some (.int .i64 a0_0) ∧ w'.cell? ⟨gb238, 1, none⟩ = some (.slice A0_1 l0_1.length c0_1) ∧ w'.cell? (ad239.add ((x5_1).toNat * 2)) = some (.int .i64 ((rd_T73 l1 x5_1).f0)) ∧ w'.cell? ⟨(ad239.add ((x5_1).toNat * 2)).block, (ad239.add ((x5_1).toNat * 2)).off + 1, none⟩ = some (.int .i64 ((rd_T73 l1 x5_1).f1))) (ds := []) ⟨cB BK238 0, cB BK238 1, (cH HB hw239_0 :), (cH HB hw239_1 :)⟩ (fun hHeld => ?_); refine with_tabW spec_l02Is.tab4 spec_l02Is.bits4 (fun HT_ HW_ => ?_)
        generalize wr.drew = w17 at BK238 HB hx239_0 hx239_1 hHeld ⊢
        refine pu_ 1 14 2 HT_ ?_
        refine pu_ 2 15 6 HT_ ?_
        refine pu_ 3 16 14 HT_ ?_
        refine tk_ 0 13 15 HT_ HW_ hHeld ?_
        refine tk_ 4 17 31 HT_ HW_ hHeld ?_
        refine on_ 5 (some 18) 63 HT_ (fun K hK => ?_)
        refine ca_ Try.func179 #[.agg #[.int .i64 a0_0, .slice A0_1 l0_1.length c0_1], .agg #[.int .i64 ((rd_T73 l1 x5_1).f0), .int .i64 ((rd_T73 l1 x5_1).f1)]] ?_
        with_reducible refine (spec_l02Pair.calls k1 a0_0 _ _ l0_1 ((rd_T73 l1 x5_1).f0) ((rd_T73 l1 x5_1).f1) true _ ?side1 ?side2 A7.out).mono ?_
        (case side1 => exact pC ((Kd.C_below HR0_1.out HB.out)))
        (case side2 => exact HC0_1.out)
        rintro e w18 ⟨rfl, hb⟩
        refine ⟨_, rfl, ?_⟩
        replace BK238 := sB BK238 hb
        replace HB := sH HB hb
        (try clear hb)
        (try clear hb2)
        (try clear hk)
        (try clear hi)
        refine hK.out _ _ ⟨cB BK238 0, cB BK238 1, (cH HB hw239_0 :), (cH HB hw239_1 :)⟩ (fun hHeld => ?_)
        clear hK K
        refine nm_ ?_
        refine pu_ 6 19 127 HT_ ?_
        refine pu_ 7 20 255 HT_ ?_
        refine pu_ 8 21 511 HT_ ?_
        refine pu_ 9 22 1023 HT_ ?_
        refine pu_ 10 23 2047 HT_ ?_
        refine pn_ 11 24 4095 HT_ ?_
        refine pn_ 12 25 8191 HT_ ?_
        refine pn_ 13 26 16383 HT_ ?_
        refine pn_ 14 27 32767 HT_ ?_
        refine pn_ 15 28 65535 HT_ ?_
        refine pn_ 16 29 131071 HT_ ?_
        refine pn_ 17 30 262143 HT_ ?_
        refine pn_ 18 31 524287 HT_ ?_
        refine pn_ 19 32 1048575 HT_ ?_
        refine pn_ 20 33 2097151 HT_ ?_
        refine pn_ 21 34 4194303 HT_ ?_
        refine pu_ 22 35 8388607 HT_ ?_
        refine pu_ 23 36 16777215 HT_ ?_
        refine dn_ HT_ ?_
        try go_wp2
        go_meet
        case rel => exact ⟨_, (false), (by first | rfl | (simp; done) | (simp [*]; done)), H', ⟨by have := HK1.out; first | omega | exact Nat.le_refl _⟩, ⟨pB BK238⟩, ⟨pH HB⟩⟩
      ·replace c8 := Bool.eq_false_iff.mpr c8
       subst c8
       have H1 : (spec_l02Is.j1 k1 l1 x5_1 true a0_0 l0_1) = some r := by rw [if_neg (show ¬ (false = true) by decide)] at H; exact H
       clear H
       have H := H1
       clear H1
       have H' := Aside0.mk H
       clear H
       try go_wp2
       replace BK238 := dB BK238
       replace HB := dH HB
       have p239 : 0 ≤ (x5_1 : Int) := of_decide_eq_true (by first | (with_reducible assumption) | assumption)
       have q239 : x5_1 < (l1.length : Int) := of_decide_eq_true (by first | (with_reducible assumption) | assumption)
       obtain ⟨ad239, e239, hx239_0, hx239_1⟩ := at_T73 HR1.out x5_1 p239 q239
       have hw239_1 := hx239_1
       have hw239_0 := hx239_0
       cases e239
       replace hx239_0 := cH HB hx239_0
       replace hx239_1 := cH HB hx239_1
       replace p239 := eq_true p239
       replace q239 := eq_true q239
       refine st_ 24 (S := fun w' => w'.cell? ⟨gb238, 0, none⟩ = some (.int .i64 a0_0) ∧ w'.cell? ⟨gb238, 1, none⟩ = some (.slice A0_1 l0_1.length c0_1) ∧ w'.cell? (ad239.add ((x5_1).toNat * 2)) = some (.int .i64 ((rd_T73 l1 x5_1).f0)) ∧ w'.cell? ⟨(ad239.add ((x5_1).toNat * 2)).block, (ad239.add ((x5_1).toNat * 2)).off + 1, none⟩ = some (.int .i64 ((rd_T73 l1 x5_1).f1))) (ds := []) ⟨cB BK238 0, cB BK238 1, (cH HB hw239_0 :), (cH HB hw239_1 :)⟩ (fun hHeld => ?_); refine with_tabW spec_l02Is.tab4 spec_l02Is.bits4 (fun HT_ HW_ => ?_)
       generalize wr.drew = w19 at BK238 HB hx239_0 hx239_1 hHeld ⊢
       refine pu_ 1 14 2 HT_ ?_
       refine pu_ 2 15 6 HT_ ?_
       refine pu_ 3 16 14 HT_ ?_
       refine tk_ 0 13 15 HT_ HW_ hHeld ?_
       refine tk_ 4 17 31 HT_ HW_ hHeld ?_
       refine on_ 5 (some 18) 63 HT_ (fun K hK => ?_)
       refine ca_ Try.func179 #[.agg #[.int .i64 a0_0, .slice A0_1 l0_1.length c0_1], .agg #[.int .i64 ((rd_T73 l1 x5_1).f0), .int .i64 ((rd_T73 l1 x5_1).f1)]] ?_
       with_reducible refine (spec_l02Pair.calls k1 a0_0 _ _ l0_1 ((rd_T73 l1 x5_1).f0) ((rd_T73 l1 x5_1).f1) false _ ?side1 ?side2 A7.out).mono ?_
       (case side1 => exact pC ((Kd.C_below HR0_1.out HB.out)))
       (case side2 => exact HC0_1.out)
       rintro e w20 ⟨rfl, hb⟩
       refine ⟨_, rfl, ?_⟩
       replace BK238 := sB BK238 hb
       replace HB := sH HB hb
       (try clear hb)
       (try clear hb2)
       (try clear hk)
       (try clear hi)
       refine hK.out _ _ ⟨cB BK238 0, cB BK238 1, (cH HB hw239_0 :), (cH HB hw239_1 :)⟩ (fun hHeld => ?_)
       clear hK K
       refine nm_ ?_
       refine pu_ 6 19 127 HT_ ?_
       refine pu_ 7 20 255 HT_ ?_
       refine pn_ 8 21 511 HT_ ?_
       refine pn_ 9 22 1023 HT_ ?_
       refine pn_ 10 23 2047 HT_ ?_
       refine pn_ 11 24 4095 HT_ ?_
       refine pn_ 12 25 8191 HT_ ?_
       refine pn_ 13 26 16383 HT_ ?_
       refine pn_ 14 27 32767 HT_ ?_
       refine pn_ 15 28 65535 HT_ ?_
       refine pn_ 16 29 131071 HT_ ?_
       refine pn_ 17 30 262143 HT_ ?_
       refine pn_ 18 31 524287 HT_ ?_
       refine pn_ 19 32 1048575 HT_ ?_
       refine pn_ 20 33 2097151 HT_ ?_
       refine pn_ 21 34 4194303 HT_ ?_
       refine pn_ 22 35 8388607 HT_ ?_
       refine pu_ 23 36 16777215 HT_ ?_
       refine dn_ HT_ ?_
       try go_wp2
       go_meet
       case rel => exact ⟨_, (true), (by first | rfl | (simp; done) | (simp [*]; done)), H', ⟨by have := HK1.out; first | omega | exact Nat.le_refl _⟩, ⟨pB BK238⟩, ⟨pH HB⟩⟩
     ·rw [if_neg c6] at H
      exact absurd H (by simp)
    case rest =>
     clear HC5
     try clear c1
     try clear p2
     try clear q2
     try clear hx2
     try clear c6
     try clear c8
     try clear c9
     try clear c9b0
     try clear c11
     try clear c12
     try clear c16
     try clear c17
     try clear hx239_0
     try clear hx239_1
     try clear p239
     try clear q239
     obtain ⟨kq, x36_4, rfl, HA, HJ4, BK238, HB⟩ := hcut
     cases kq with
     | zero => exact absurd HA.out (by simp [spec_l02Is.j1])
     | succ kj4 =>
      have H := HA.out
      clear HA
      simp only [spec_l02Is.j1] at H
      by_cases c21 : x36_4 = true
      ·subst c21
       have H1 : (some false) = some r := by rw [if_pos rfl] at H; exact H
       clear H
       have H := H1
       clear H1
       obtain rfl := Option.some.inj H
       go_wp2
       go_ret
       exact ⟨by first | rfl | (simp [errW_none, errW_some] <;> rfl) | (simp [*, errW_none, errW_some] <;> rfl) | (exfalso; simp_all), pH HB⟩
      ·replace c21 := Bool.eq_false_iff.mpr c21
       subst c21
       have H1 : (spec_l02Is.l1 kj4 l1 x5_1 0 a0_0 l0_1) = some r := by rw [if_neg (show ¬ (false = true) by decide)] at H; exact H
       clear H
       have H := H1
       clear H1
       have H' := Aside0.mk H
       clear H
       go_wp2
       go_loopg [6] kj4 (fun kq v6 w' => ∃ (x6_3 : Int), v6 = .int .i64 x6_3 ∧ Aside0 (spec_l02Is.l1 kq l1 x5_1 x6_3 a0_0 l0_1 = some r) ∧ Aside0 (kq ≤ kj4) ∧ Aside0 (w'.heap[gb238]? = some (.cells #[.int .i64 a0_0, (.slice A0_1 l0_1.length c0_1)] 28 (0, 0))) ∧ Aside0 (Below w.heap.size w w'))
       case atStart => exact ⟨(0), (by first | rfl | (simp; done) | (simp [*]; done)), H', ⟨Nat.le_refl _⟩, ⟨pB BK238⟩, ⟨pH HB⟩⟩
       case round =>
        clear H'
        try clear c1
        try clear c2
        try clear p2
        try clear q2
        try clear hx2
        try clear c6
        try clear c8
        try clear c9
        try clear c9b0
        try clear c11
        try clear c12
        try clear c16
        try clear c17
        try clear c21
        try clear hx239_0
        try clear hx239_1
        try clear p2
        try clear p239
        try clear q2
        try clear q239
        obtain ⟨x6_3, rfl, HA, HK3, BK238, HB⟩ := hrel
        cases gk with
        | zero => exact absurd HA.out (by simp [spec_l02Is.l1])
        | succ k3 =>
         have H := HA.out
         clear HA
         simp only [spec_l02Is.l1] at H
         by_cases c22 : x6_3 < x5_1
         ·rw [if_pos c22] at H
          have c22b0 : decide (x6_3 < x5_1) = true := decide_eq_true c22
          clear c22
          by_cases c23 : 0 ≤ x5_1
          ·rw [if_pos c23] at H
           have c23b0 : decide (0 ≤ x5_1) = true := decide_eq_true c23
           clear c23
           by_cases c24 : x5_1 < (l1.length : Int)
           ·rw [if_pos c24] at H
            have c24b0 : decide (x5_1 < (l1.length : Int)) = true := decide_eq_true c24
            clear c24
            by_cases c25 : 0 ≤ x6_3
            ·rw [if_pos c25] at H
             have c25b0 : decide (0 ≤ x6_3) = true := decide_eq_true c25
             clear c25
             by_cases c26 : x6_3 < (l1.length : Int)
             ·rw [if_pos c26] at H
              have c26b0 : decide (x6_3 < (l1.length : Int)) = true := decide_eq_true c26
              clear c26
              by_cases c27 : ((rd_T73 l1 x5_1).f0) = ((rd_T73 l1 x6_3).f0)
              ·rw [if_pos c27] at H
               have c27b0 : (((rd_T73 l1 x5_1).f0) == ((rd_T73 l1 x6_3).f0)) = true := beq_iff_eq.mpr c27
               have c27b1 : (((rd_T73 l1 x5_1).f0) != ((rd_T73 l1 x6_3).f0)) = false := bne_eq_false_iff_eq.mpr c27
               clear c27
               obtain rfl := Option.some.inj H
               try go_wp2
               replace BK238 := dB BK238
               replace HB := dH HB
               have p244 : 0 ≤ (x5_1 : Int) := of_decide_eq_true (by first | (with_reducible assumption) | assumption)
               have q244 : x5_1 < (l1.length : Int) := of_decide_eq_true (by first | (with_reducible assumption) | assumption)
               obtain ⟨ad244, e244, hx244_0, hx244_1⟩ := at_T73 HR1.out x5_1 p244 q244
               have hw244_1 := hx244_1
               have hw244_0 := hx244_0
               cases e244
               replace hx244_0 := cH HB hx244_0
               replace hx244_1 := cH HB hx244_1
               replace p244 := eq_true p244
               replace q244 := eq_true q244
               have p245 : 0 ≤ (x6_3 : Int) := of_decide_eq_true (by first | (with_reducible assumption) | assumption)
               have q245 : x6_3 < (l1.length : Int) := of_decide_eq_true (by first | (with_reducible assumption) | assumption)
               obtain ⟨ad245, e245, hx245_0, hx245_1⟩ := at_T73 HR1.out x6_3 p245 q245
               have hw245_1 := hx245_1
               have hw245_0 := hx245_0
               obtain rfl : ad244 = ad245 := (by injection e245)
               replace hx245_0 := cH HB hx245_0
               replace hx245_1 := cH HB hx245_1
               replace p245 := eq_true p245
               replace q245 := eq_true q245
               refine st_ 50 (S := fun w' => w'.cell? (ad244.add ((x5_1).toNat * 2)) = some (.int .i64 ((rd_T73 l1 x5_1).f0)) ∧ w'.cell? ⟨(ad244.add ((x5_1).toNat * 2)).block, (ad244.add ((x5_1).toNat * 2)).off + 1, none⟩ = some (.int .i64 ((rd_T73 l1 x5_1).f1)) ∧ w'.cell? (ad244.add ((x6_3).toNat * 2)) = some (.int .i64 ((rd_T73 l1 x6_3).f0)) ∧ w'.cell? ⟨(ad244.add ((x6_3).toNat * 2)).block, (ad244.add ((x6_3).toNat * 2)).off + 1, none⟩ = some (.int .i64 ((rd_T73 l1 x6_3).f1))) (ds := []) ⟨(cH HB hw244_0 :), (cH HB hw244_1 :), (cH HB hw245_0 :), (cH HB hw245_1 :)⟩ (fun hHeld => ?_); refine with_tabW spec_l02Is.tab9 spec_l02Is.bits9 (fun HT_ HW_ => ?_)
               generalize wr.drew = w28 at BK238 HB hx244_0 hx244_1 hx245_0 hx245_1 hHeld ⊢
               refine pu_ 0 42 1 HT_ ?_
               refine pu_ 1 43 3 HT_ ?_
               refine pu_ 2 44 7 HT_ ?_
               refine pu_ 3 45 15 HT_ ?_
               refine pu_ 5 47 47 HT_ ?_
               refine pu_ 6 48 111 HT_ ?_
               refine pu_ 7 49 239 HT_ ?_
               refine pu_ 8 50 495 HT_ ?_
               refine tk_ 4 46 511 HT_ HW_ hHeld ?_
               refine tk_ 9 51 1023 HT_ HW_ hHeld ?_
               refine pu_ 10 52 2047 HT_ ?_
               refine pu_ 11 53 4095 HT_ ?_
               refine pn_ 12 54 8191 HT_ ?_
               refine pn_ 13 55 16383 HT_ ?_
               refine pn_ 14 56 32767 HT_ ?_
               refine pn_ 15 57 65535 HT_ ?_
               refine pn_ 16 58 131071 HT_ ?_
               refine pn_ 17 59 262143 HT_ ?_
               refine pn_ 18 60 524287 HT_ ?_
               refine pn_ 19 61 1048575 HT_ ?_
               refine pn_ 20 62 2097151 HT_ ?_
               refine pn_ 21 63 4194303 HT_ ?_
               refine pn_ 22 64 8388607 HT_ ?_
               refine pu_ 23 65 16777215 HT_ ?_
               refine pu_ 24 66 33554431 HT_ ?_
               refine pn_ 25 67 67108863 HT_ ?_
               refine pn_ 26 68 134217727 HT_ ?_
               refine pn_ 27 69 268435455 HT_ ?_
               refine pn_ 28 70 536870911 HT_ ?_
               refine pn_ 29 71 1073741823 HT_ ?_
               refine pn_ 30 72 2147483647 HT_ ?_
               refine pn_ 31 73 4294967295 HT_ ?_
               refine pn_ 32 74 8589934591 HT_ ?_
               refine pn_ 33 75 17179869183 HT_ ?_
               refine pn_ 34 76 34359738367 HT_ ?_
               refine pn_ 35 77 68719476735 HT_ ?_
               refine pu_ 36 78 137438953471 HT_ ?_
               refine pu_ 37 79 274877906943 HT_ ?_
               refine pn_ 38 80 549755813887 HT_ ?_
               refine pn_ 39 81 1099511627775 HT_ ?_
               refine pn_ 40 82 2199023255551 HT_ ?_
               refine pn_ 41 83 4398046511103 HT_ ?_
               refine pn_ 42 84 8796093022207 HT_ ?_
               refine pn_ 43 85 17592186044415 HT_ ?_
               refine pn_ 44 86 35184372088831 HT_ ?_
               refine pn_ 45 87 70368744177663 HT_ ?_
               refine pn_ 46 88 140737488355327 HT_ ?_
               refine pn_ 47 89 281474976710655 HT_ ?_
               refine pn_ 48 90 562949953421311 HT_ ?_
               refine pu_ 49 91 1125899906842623 HT_ ?_
               refine dn_ HT_ ?_
               try go_wp2
               go_ret
               exact ⟨by first | rfl | (simp [errW_none, errW_some] <;> rfl) | (simp [*, errW_none, errW_some] <;> rfl) | (exfalso; simp_all), pH HB⟩
              ·rw [if_neg c27] at H
               have c27b0 : (((rd_T73 l1 x5_1).f0) == ((rd_T73 l1 x6_3).f0)) = false := beq_eq_false_iff_ne.mpr c27
               have c27b1 : (((rd_T73 l1 x5_1).f0) != ((rd_T73 l1 x6_3).f0)) = true := bne_iff_ne.mpr c27
               by_cases c29 : ((rd_T73 l1 x5_1).f0) = ((rd_T73 l1 x6_3).f1)
               ·rw [if_pos c29] at H
                have c29b0 : (((rd_T73 l1 x5_1).f0) == ((rd_T73 l1 x6_3).f1)) = true := beq_iff_eq.mpr c29
                have c29b1 : (((rd_T73 l1 x5_1).f0) != ((rd_T73 l1 x6_3).f1)) = false := bne_eq_false_iff_eq.mpr c29
                clear c29
                obtain rfl := Option.some.inj H
                try go_wp2
                replace BK238 := dB BK238
                replace HB := dH HB
                have p244 : 0 ≤ (x5_1 : Int) := of_decide_eq_true (by first | (with_reducible assumption) | assumption)
                have q244 : x5_1 < (l1.length : Int) := of_decide_eq_true (by first | (with_reducible assumption) | assumption)
                obtain ⟨ad244, e244, hx244_0, hx244_1⟩ := at_T73 HR1.out x5_1 p244 q244
                have hw244_1 := hx244_1
                have hw244_0 := hx244_0
                cases e244
                replace hx244_0 := cH HB hx244_0
                replace hx244_1 := cH HB hx244_1
                replace p244 := eq_true p244
                replace q244 := eq_true q244
                have p245 : 0 ≤ (x6_3 : Int) := of_decide_eq_true (by first | (with_reducible assumption) | assumption)
                have q245 : x6_3 < (l1.length : Int) := of_decide_eq_true (by first | (with_reducible assumption) | assumption)
                obtain ⟨ad245, e245, hx245_0, hx245_1⟩ := at_T73 HR1.out x6_3 p245 q245
                have hw245_1 := hx245_1
                have hw245_0 := hx245_0
                obtain rfl : ad244 = ad245 := (by injection e245)
                replace hx245_0 := cH HB hx245_0
                replace hx245_1 := cH HB hx245_1
                replace p245 := eq_true p245
                replace q245 := eq_true q245
                have p246 : 0 ≤ (x5_1 : Int) := of_decide_eq_true (by first | (with_reducible assumption) | assumption)
                have q246 : x5_1 < (l1.length : Int) := of_decide_eq_true (by first | (with_reducible assumption) | assumption)
                obtain ⟨ad246, e246, hx246_0, hx246_1⟩ := at_T73 HR1.out x5_1 p246 q246
                have hw246_1 := hx246_1
                have hw246_0 := hx246_0
                obtain rfl : ad244 = ad246 := (by injection e246)
                replace hx246_0 := cH HB hx246_0
                replace hx246_1 := cH HB hx246_1
                replace p246 := eq_true p246
                replace q246 := eq_true q246
                have p247 : 0 ≤ (x6_3 : Int) := of_decide_eq_true (by first | (with_reducible assumption) | assumption)
                have q247 : x6_3 < (l1.length : Int) := of_decide_eq_true (by first | (with_reducible assumption) | assumption)
                obtain ⟨ad247, e247, hx247_0, hx247_1⟩ := at_T73 HR1.out x6_3 p247 q247
                have hw247_1 := hx247_1
                have hw247_0 := hx247_0
                obtain rfl : ad244 = ad247 := (by injection e247)
                replace hx247_0 := cH HB hx247_0
                replace hx247_1 := cH HB hx247_1
                replace p247 := eq_true p247
                replace q247 := eq_true q247
                refine st_ 50 (S := fun w' => w'.cell? (ad244.add ((x5_1).toNat * 2)) = some (.int .i64 ((rd_T73 l1 x5_1).f0)) ∧ w'.cell? ⟨(ad244.add ((x5_1).toNat * 2)).block, (ad244.add ((x5_1).toNat * 2)).off + 1, none⟩ = some (.int .i64 ((rd_T73 l1 x5_1).f1)) ∧ w'.cell? (ad244.add ((x6_3).toNat * 2)) = some (.int .i64 ((rd_T73 l1 x6_3).f0)) ∧ w'.cell? ⟨(ad244.add ((x6_3).toNat * 2)).block, (ad244.add ((x6_3).toNat * 2)).off + 1, none⟩ = some (.int .i64 ((rd_T73 l1 x6_3).f1)) ∧ w'.cell? (ad244.add ((x5_1).toNat * 2)) = some (.int .i64 ((rd_T73 l1 x5_1).f0)) ∧ w'.cell? ⟨(ad244.add ((x5_1).toNat * 2)).block, (ad244.add ((x5_1).toNat * 2)).off + 1, none⟩ = some (.int .i64 ((rd_T73 l1 x5_1).f1)) ∧ w'.cell? (ad244.add ((x6_3).toNat * 2)) = some (.int .i64 ((rd_T73 l1 x6_3).f0)) ∧ w'.cell? ⟨(ad244.add ((x6_3).toNat * 2)).block, (ad244.add ((x6_3).toNat * 2)).off + 1, none⟩ = some (.int .i64 ((rd_T73 l1 x6_3).f1))) (ds := []) ⟨(cH HB hw244_0 :), (cH HB hw244_1 :), (cH HB hw245_0 :), (cH HB hw245_1 :), (cH HB hw246_0 :), (cH HB hw246_1 :), (cH HB hw247_0 :), (cH HB hw247_1 :)⟩ (fun hHeld => ?_); refine with_tabW spec_l02Is.tab9 spec_l02Is.bits9 (fun HT_ HW_ => ?_)
                generalize wr.drew = w30 at BK238 HB hx244_0 hx244_1 hx245_0 hx245_1 hx246_0 hx246_1 hx247_0 hx247_1 hHeld ⊢
                refine pu_ 0 42 1 HT_ ?_
                refine pu_ 1 43 3 HT_ ?_
                refine pu_ 2 44 7 HT_ ?_
                refine pu_ 3 45 15 HT_ ?_
                refine pu_ 5 47 47 HT_ ?_
                refine pu_ 6 48 111 HT_ ?_
                refine pu_ 7 49 239 HT_ ?_
                refine pu_ 8 50 495 HT_ ?_
                refine tk_ 4 46 511 HT_ HW_ hHeld ?_
                refine tk_ 9 51 1023 HT_ HW_ hHeld ?_
                refine pu_ 10 52 2047 HT_ ?_
                refine pu_ 11 53 4095 HT_ ?_
                refine pu_ 12 54 8191 HT_ ?_
                refine pu_ 13 55 16383 HT_ ?_
                refine pu_ 14 56 32767 HT_ ?_
                refine pu_ 15 57 65535 HT_ ?_
                refine pu_ 17 59 196607 HT_ ?_
                refine pu_ 18 60 458751 HT_ ?_
                refine pu_ 19 61 983039 HT_ ?_
                refine pu_ 20 62 2031615 HT_ ?_
                refine tk_ 16 58 2097151 HT_ HW_ hHeld ?_
                refine tk_ 21 63 4194303 HT_ HW_ hHeld ?_
                refine pu_ 22 64 8388607 HT_ ?_
                refine pu_ 23 65 16777215 HT_ ?_
                refine pu_ 24 66 33554431 HT_ ?_
                refine pn_ 25 67 67108863 HT_ ?_
                refine pn_ 26 68 134217727 HT_ ?_
                refine pn_ 27 69 268435455 HT_ ?_
                refine pn_ 28 70 536870911 HT_ ?_
                refine pn_ 29 71 1073741823 HT_ ?_
                refine pn_ 30 72 2147483647 HT_ ?_
                refine pn_ 31 73 4294967295 HT_ ?_
                refine pn_ 32 74 8589934591 HT_ ?_
                refine pn_ 33 75 17179869183 HT_ ?_
                refine pn_ 34 76 34359738367 HT_ ?_
                refine pn_ 35 77 68719476735 HT_ ?_
                refine pu_ 36 78 137438953471 HT_ ?_
                refine pu_ 37 79 274877906943 HT_ ?_
                refine pn_ 38 80 549755813887 HT_ ?_
                refine pn_ 39 81 1099511627775 HT_ ?_
                refine pn_ 40 82 2199023255551 HT_ ?_
                refine pn_ 41 83 4398046511103 HT_ ?_
                refine pn_ 42 84 8796093022207 HT_ ?_
                refine pn_ 43 85 17592186044415 HT_ ?_
                refine pn_ 44 86 35184372088831 HT_ ?_
                refine pn_ 45 87 70368744177663 HT_ ?_
                refine pn_ 46 88 140737488355327 HT_ ?_
                refine pn_ 47 89 281474976710655 HT_ ?_
                refine pn_ 48 90 562949953421311 HT_ ?_
                refine pu_ 49 91 1125899906842623 HT_ ?_
                refine dn_ HT_ ?_
                try go_wp2
                go_ret
                exact ⟨by first | rfl | (simp [errW_none, errW_some] <;> rfl) | (simp [*, errW_none, errW_some] <;> rfl) | (exfalso; simp_all), pH HB⟩
               ·rw [if_neg c29] at H
                have c29b0 : (((rd_T73 l1 x5_1).f0) == ((rd_T73 l1 x6_3).f1)) = false := beq_eq_false_iff_ne.mpr c29
                have c29b1 : (((rd_T73 l1 x5_1).f0) != ((rd_T73 l1 x6_3).f1)) = true := bne_iff_ne.mpr c29
                by_cases c31 : ((rd_T73 l1 x5_1).f1) = ((rd_T73 l1 x6_3).f0)
                ·rw [if_pos c31] at H
                 have c31b0 : (((rd_T73 l1 x5_1).f1) == ((rd_T73 l1 x6_3).f0)) = true := beq_iff_eq.mpr c31
                 have c31b1 : (((rd_T73 l1 x5_1).f1) != ((rd_T73 l1 x6_3).f0)) = false := bne_eq_false_iff_eq.mpr c31
                 clear c31
                 obtain rfl := Option.some.inj H
                 try go_wp2
                 replace BK238 := dB BK238
                 replace HB := dH HB
                 have p244 : 0 ≤ (x5_1 : Int) := of_decide_eq_true (by first | (with_reducible assumption) | assumption)
                 have q244 : x5_1 < (l1.length : Int) := of_decide_eq_true (by first | (with_reducible assumption) | assumption)
                 obtain ⟨ad244, e244, hx244_0, hx244_1⟩ := at_T73 HR1.out x5_1 p244 q244
                 have hw244_1 := hx244_1
                 have hw244_0 := hx244_0
                 cases e244
                 replace hx244_0 := cH HB hx244_0
                 replace hx244_1 := cH HB hx244_1
                 replace p244 := eq_true p244
                 replace q244 := eq_true q244
                 have p245 : 0 ≤ (x6_3 : Int) := of_decide_eq_true (by first | (with_reducible assumption) | assumption)
                 have q245 : x6_3 < (l1.length : Int) := of_decide_eq_true (by first | (with_reducible assumption) | assumption)
                 obtain ⟨ad245, e245, hx245_0, hx245_1⟩ := at_T73 HR1.out x6_3 p245 q245
                 have hw245_1 := hx245_1
                 have hw245_0 := hx245_0
                 obtain rfl : ad244 = ad245 := (by injection e245)
                 replace hx245_0 := cH HB hx245_0
                 replace hx245_1 := cH HB hx245_1
                 replace p245 := eq_true p245
                 replace q245 := eq_true q245
                 have p246 : 0 ≤ (x5_1 : Int) := of_decide_eq_true (by first | (with_reducible assumption) | assumption)
                 have q246 : x5_1 < (l1.length : Int) := of_decide_eq_true (by first | (with_reducible assumption) | assumption)
                 obtain ⟨ad246, e246, hx246_0, hx246_1⟩ := at_T73 HR1.out x5_1 p246 q246
                 have hw246_1 := hx246_1
                 have hw246_0 := hx246_0
                 obtain rfl : ad244 = ad246 := (by injection e246)
                 replace hx246_0 := cH HB hx246_0
                 replace hx246_1 := cH HB hx246_1
                 replace p246 := eq_true p246
                 replace q246 := eq_true q246
                 have p247 : 0 ≤ (x6_3 : Int) := of_decide_eq_true (by first | (with_reducible assumption) | assumption)
                 have q247 : x6_3 < (l1.length : Int) := of_decide_eq_true (by first | (with_reducible assumption) | assumption)
                 obtain ⟨ad247, e247, hx247_0, hx247_1⟩ := at_T73 HR1.out x6_3 p247 q247
                 have hw247_1 := hx247_1
                 have hw247_0 := hx247_0
                 obtain rfl : ad244 = ad247 := (by injection e247)
                 replace hx247_0 := cH HB hx247_0
                 replace hx247_1 := cH HB hx247_1
                 replace p247 := eq_true p247
                 replace q247 := eq_true q247
                 have p248 : 0 ≤ (x5_1 : Int) := of_decide_eq_true (by first | (with_reducible assumption) | assumption)
                 have q248 : x5_1 < (l1.length : Int) := of_decide_eq_true (by first | (with_reducible assumption) | assumption)
                 obtain ⟨ad248, e248, hx248_0, hx248_1⟩ := at_T73 HR1.out x5_1 p248 q248
                 have hw248_1 := hx248_1
                 have hw248_0 := hx248_0
                 obtain rfl : ad244 = ad248 := (by injection e248)
                 replace hx248_0 := cH HB hx248_0
                 replace hx248_1 := cH HB hx248_1
                 replace p248 := eq_true p248
                 replace q248 := eq_true q248
                 have p249 : 0 ≤ (x6_3 : Int) := of_decide_eq_true (by first | (with_reducible assumption) | assumption)
                 have q249 : x6_3 < (l1.length : Int) := of_decide_eq_true (by first | (with_reducible assumption) | assumption)
                 obtain ⟨ad249, e249, hx249_0, hx249_1⟩ := at_T73 HR1.out x6_3 p249 q249
                 have hw249_1 := hx249_1
                 have hw249_0 := hx249_0
                 obtain rfl : ad244 = ad249 := (by injection e249)
                 replace hx249_0 := cH HB hx249_0
                 replace hx249_1 := cH HB hx249_1
                 replace p249 := eq_true p249
                 replace q249 := eq_true q249
                 refine st_ 50 (S := fun w' => w'.cell? (ad244.add ((x5_1).toNat * 2)) = some (.int .i64 ((rd_T73 l1 x5_1).f0)) ∧ w'.cell? ⟨(ad244.add ((x5_1).toNat * 2)).block, (ad244.add ((x5_1).toNat * 2)).off + 1, none⟩ = some (.int .i64 ((rd_T73 l1 x5_1).f1)) ∧ w'.cell? (ad244.add ((x6_3).toNat * 2)) = some (.int .i64 ((rd_T73 l1 x6_3).f0)) ∧ w'.cell? ⟨(ad244.add ((x6_3).toNat * 2)).block, (ad244.add ((x6_3).toNat * 2)).off + 1, none⟩ = some (.int .i64 ((rd_T73 l1 x6_3).f1)) ∧ w'.cell? (ad244.add ((x5_1).toNat * 2)) = some (.int .i64 ((rd_T73 l1 x5_1).f0)) ∧ w'.cell? ⟨(ad244.add ((x5_1).toNat * 2)).block, (ad244.add ((x5_1).toNat * 2)).off + 1, none⟩ = some (.int .i64 ((rd_T73 l1 x5_1).f1)) ∧ w'.cell? (ad244.add ((x6_3).toNat * 2)) = some (.int .i64 ((rd_T73 l1 x6_3).f0)) ∧ w'.cell? ⟨(ad244.add ((x6_3).toNat * 2)).block, (ad244.add ((x6_3).toNat * 2)).off + 1, none⟩ = some (.int .i64 ((rd_T73 l1 x6_3).f1)) ∧ w'.cell? (ad244.add ((x5_1).toNat * 2)) = some (.int .i64 ((rd_T73 l1 x5_1).f0)) ∧ w'.cell? ⟨(ad244.add ((x5_1).toNat * 2)).block, (ad244.add ((x5_1).toNat * 2)).off + 1, none⟩ = some (.int .i64 ((rd_T73 l1 x5_1).f1)) ∧ w'.cell? (ad244.add ((x6_3).toNat * 2)) = some (.int .i64 ((rd_T73 l1 x6_3).f0)) ∧ w'.cell? ⟨(ad244.add ((x6_3).toNat * 2)).block, (ad244.add ((x6_3).toNat * 2)).off + 1, none⟩ = some (.int .i64 ((rd_T73 l1 x6_3).f1))) (ds := []) ⟨(cH HB hw244_0 :), (cH HB hw244_1 :), (cH HB hw245_0 :), (cH HB hw245_1 :), (cH HB hw246_0 :), (cH HB hw246_1 :), (cH HB hw247_0 :), (cH HB hw247_1 :), (cH HB hw248_0 :), (cH HB hw248_1 :), (cH HB hw249_0 :), (cH HB hw249_1 :)⟩ (fun hHeld => ?_); refine with_tabW spec_l02Is.tab9 spec_l02Is.bits9 (fun HT_ HW_ => ?_)
                 generalize wr.drew = w32 at BK238 HB hx244_0 hx244_1 hx245_0 hx245_1 hx246_0 hx246_1 hx247_0 hx247_1 hx248_0 hx248_1 hx249_0 hx249_1 hHeld ⊢
                 refine pu_ 0 42 1 HT_ ?_
                 refine pu_ 1 43 3 HT_ ?_
                 refine pu_ 2 44 7 HT_ ?_
                 refine pu_ 3 45 15 HT_ ?_
                 refine pu_ 5 47 47 HT_ ?_
                 refine pu_ 6 48 111 HT_ ?_
                 refine pu_ 7 49 239 HT_ ?_
                 refine pu_ 8 50 495 HT_ ?_
                 refine tk_ 4 46 511 HT_ HW_ hHeld ?_
                 refine tk_ 9 51 1023 HT_ HW_ hHeld ?_
                 refine pu_ 10 52 2047 HT_ ?_
                 refine pu_ 11 53 4095 HT_ ?_
                 refine pu_ 12 54 8191 HT_ ?_
                 refine pu_ 13 55 16383 HT_ ?_
                 refine pu_ 14 56 32767 HT_ ?_
                 refine pu_ 15 57 65535 HT_ ?_
                 refine pu_ 17 59 196607 HT_ ?_
                 refine pu_ 18 60 458751 HT_ ?_
                 refine pu_ 19 61 983039 HT_ ?_
                 refine pu_ 20 62 2031615 HT_ ?_
                 refine tk_ 16 58 2097151 HT_ HW_ hHeld ?_
                 refine tk_ 21 63 4194303 HT_ HW_ hHeld ?_
                 refine pu_ 22 64 8388607 HT_ ?_
                 refine pu_ 23 65 16777215 HT_ ?_
                 refine pu_ 24 66 33554431 HT_ ?_
                 refine pu_ 25 67 67108863 HT_ ?_
                 refine pu_ 26 68 134217727 HT_ ?_
                 refine pu_ 27 69 268435455 HT_ ?_
                 refine pu_ 28 70 536870911 HT_ ?_
                 refine pu_ 30 72 1610612735 HT_ ?_
                 refine pu_ 31 73 3758096383 HT_ ?_
                 refine pu_ 32 74 8053063679 HT_ ?_
                 refine pu_ 33 75 16642998271 HT_ ?_
                 refine tk_ 29 71 17179869183 HT_ HW_ hHeld ?_
                 refine tk_ 34 76 34359738367 HT_ HW_ hHeld ?_
                 refine pu_ 35 77 68719476735 HT_ ?_
                 refine pu_ 36 78 137438953471 HT_ ?_
                 refine pu_ 37 79 274877906943 HT_ ?_
                 refine pn_ 38 80 549755813887 HT_ ?_
                 refine pn_ 39 81 1099511627775 HT_ ?_
                 refine pn_ 40 82 2199023255551 HT_ ?_
                 refine pn_ 41 83 4398046511103 HT_ ?_
                 refine pn_ 42 84 8796093022207 HT_ ?_
                 refine pn_ 43 85 17592186044415 HT_ ?_
                 refine pn_ 44 86 35184372088831 HT_ ?_
                 refine pn_ 45 87 70368744177663 HT_ ?_
                 refine pn_ 46 88 140737488355327 HT_ ?_
                 refine pn_ 47 89 281474976710655 HT_ ?_
                 refine pn_ 48 90 562949953421311 HT_ ?_
                 refine pu_ 49 91 1125899906842623 HT_ ?_
                 refine dn_ HT_ ?_
                 try go_wp2
                 go_ret
                 exact ⟨by first | rfl | (simp [errW_none, errW_some] <;> rfl) | (simp [*, errW_none, errW_some] <;> rfl) | (exfalso; simp_all), pH HB⟩
                ·rw [if_neg c31] at H
                 have c31b0 : (((rd_T73 l1 x5_1).f1) == ((rd_T73 l1 x6_3).f0)) = false := beq_eq_false_iff_ne.mpr c31
                 have c31b1 : (((rd_T73 l1 x5_1).f1) != ((rd_T73 l1 x6_3).f0)) = true := bne_iff_ne.mpr c31
                 by_cases c33 : ((rd_T73 l1 x5_1).f1) = ((rd_T73 l1 x6_3).f1)
                 ·rw [if_pos c33] at H
                  have c33b0 : (((rd_T73 l1 x5_1).f1) == ((rd_T73 l1 x6_3).f1)) = true := beq_iff_eq.mpr c33
                  have c33b1 : (((rd_T73 l1 x5_1).f1) != ((rd_T73 l1 x6_3).f1)) = false := bne_eq_false_iff_eq.mpr c33
                  clear c33
                  obtain rfl := Option.some.inj H
                  try go_wp2
                  replace BK238 := dB BK238
                  replace HB := dH HB
                  have p244 : 0 ≤ (x5_1 : Int) := of_decide_eq_true (by first | (with_reducible assumption) | assumption)
                  have q244 : x5_1 < (l1.length : Int) := of_decide_eq_true (by first | (with_reducible assumption) | assumption)
                  obtain ⟨ad244, e244, hx244_0, hx244_1⟩ := at_T73 HR1.out x5_1 p244 q244
                  have hw244_1 := hx244_1
                  have hw244_0 := hx244_0
                  cases e244
                  replace hx244_0 := cH HB hx244_0
                  replace hx244_1 := cH HB hx244_1
                  replace p244 := eq_true p244
                  replace q244 := eq_true q244
                  have p245 : 0 ≤ (x6_3 : Int) := of_decide_eq_true (by first | (with_reducible assumption) | assumption)
                  have q245 : x6_3 < (l1.length : Int) := of_decide_eq_true (by first | (with_reducible assumption) | assumption)
                  obtain ⟨ad245, e245, hx245_0, hx245_1⟩ := at_T73 HR1.out x6_3 p245 q245
                  have hw245_1 := hx245_1
                  have hw245_0 := hx245_0
                  obtain rfl : ad244 = ad245 := (by injection e245)
                  replace hx245_0 := cH HB hx245_0
                  replace hx245_1 := cH HB hx245_1
                  replace p245 := eq_true p245
                  replace q245 := eq_true q245
                  have p246 : 0 ≤ (x5_1 : Int) := of_decide_eq_true (by first | (with_reducible assumption) | assumption)
                  have q246 : x5_1 < (l1.length : Int) := of_decide_eq_true (by first | (with_reducible assumption) | assumption)
                  obtain ⟨ad246, e246, hx246_0, hx246_1⟩ := at_T73 HR1.out x5_1 p246 q246
                  have hw246_1 := hx246_1
                  have hw246_0 := hx246_0
                  obtain rfl : ad244 = ad246 := (by injection e246)
                  replace hx246_0 := cH HB hx246_0
                  replace hx246_1 := cH HB hx246_1
                  replace p246 := eq_true p246
                  replace q246 := eq_true q246
                  have p247 : 0 ≤ (x6_3 : Int) := of_decide_eq_true (by first | (with_reducible assumption) | assumption)
                  have q247 : x6_3 < (l1.length : Int) := of_decide_eq_true (by first | (with_reducible assumption) | assumption)
                  obtain ⟨ad247, e247, hx247_0, hx247_1⟩ := at_T73 HR1.out x6_3 p247 q247
                  have hw247_1 := hx247_1
                  have hw247_0 := hx247_0
                  obtain rfl : ad244 = ad247 := (by injection e247)
                  replace hx247_0 := cH HB hx247_0
                  replace hx247_1 := cH HB hx247_1
                  replace p247 := eq_true p247
                  replace q247 := eq_true q247
                  have p248 : 0 ≤ (x5_1 : Int) := of_decide_eq_true (by first | (with_reducible assumption) | assumption)
                  have q248 : x5_1 < (l1.length : Int) := of_decide_eq_true (by first | (with_reducible assumption) | assumption)
                  obtain ⟨ad248, e248, hx248_0, hx248_1⟩ := at_T73 HR1.out x5_1 p248 q248
                  have hw248_1 := hx248_1
                  have hw248_0 := hx248_0
                  obtain rfl : ad244 = ad248 := (by injection e248)
                  replace hx248_0 := cH HB hx248_0
                  replace hx248_1 := cH HB hx248_1
                  replace p248 := eq_true p248
                  replace q248 := eq_true q248
                  have p249 : 0 ≤ (x6_3 : Int) := of_decide_eq_true (by first | (with_reducible assumption) | assumption)
                  have q249 : x6_3 < (l1.length : Int) := of_decide_eq_true (by first | (with_reducible assumption) | assumption)
                  obtain ⟨ad249, e249, hx249_0, hx249_1⟩ := at_T73 HR1.out x6_3 p249 q249
                  have hw249_1 := hx249_1
                  have hw249_0 := hx249_0
                  obtain rfl : ad244 = ad249 := (by injection e249)
                  replace hx249_0 := cH HB hx249_0
                  replace hx249_1 := cH HB hx249_1
                  replace p249 := eq_true p249
                  replace q249 := eq_true q249
                  have p250 : 0 ≤ (x5_1 : Int) := of_decide_eq_true (by first | (with_reducible assumption) | assumption)
                  have q250 : x5_1 < (l1.length : Int) := of_decide_eq_true (by first | (with_reducible assumption) | assumption)
                  obtain ⟨ad250, e250, hx250_0, hx250_1⟩ := at_T73 HR1.out x5_1 p250 q250
                  have hw250_1 := hx250_1
                  have hw250_0 := hx250_0
                  obtain rfl : ad244 = ad250 := (by injection e250)
                  replace hx250_0 := cH HB hx250_0
                  replace hx250_1 := cH HB hx250_1
                  replace p250 := eq_true p250
                  replace q250 := eq_true q250
                  have p251 : 0 ≤ (x6_3 : Int) := of_decide_eq_true (by first | (with_reducible assumption) | assumption)
                  have q251 : x6_3 < (l1.length : Int) := of_decide_eq_true (by first | (with_reducible assumption) | assumption)
                  obtain ⟨ad251, e251, hx251_0, hx251_1⟩ := at_T73 HR1.out x6_3 p251 q251
                  have hw251_1 := hx251_1
                  have hw251_0 := hx251_0
                  obtain rfl : ad244 = ad251 := (by injection e251)
                  replace hx251_0 := cH HB hx251_0
                  replace hx251_1 := cH HB hx251_1
                  replace p251 := eq_true p251
                  replace q251 := eq_true q251
                  refine st_ 50 (S := fun w' => w'.cell? (ad244.add ((x5_1).toNat * 2)) = some (.int .i64 ((rd_T73 l1 x5_1).f0)) ∧ w'.cell? ⟨(ad244.add ((x5_1).toNat * 2)).block, (ad244.add ((x5_1).toNat * 2)).off + 1, none⟩ = some (.int .i64 ((rd_T73 l1 x5_1).f1)) ∧ w'.cell? (ad244.add ((x6_3).toNat * 2)) = some (.int .i64 ((rd_T73 l1 x6_3).f0)) ∧ w'.cell? ⟨(ad244.add ((x6_3).toNat * 2)).block, (ad244.add ((x6_3).toNat * 2)).off + 1, none⟩ = some (.int .i64 ((rd_T73 l1 x6_3).f1)) ∧ w'.cell? (ad244.add ((x5_1).toNat * 2)) = some (.int .i64 ((rd_T73 l1 x5_1).f0)) ∧ w'.cell? ⟨(ad244.add ((x5_1).toNat * 2)).block, (ad244.add ((x5_1).toNat * 2)).off + 1, none⟩ = some (.int .i64 ((rd_T73 l1 x5_1).f1)) ∧ w'.cell? (ad244.add ((x6_3).toNat * 2)) = some (.int .i64 ((rd_T73 l1 x6_3).f0)) ∧ w'.cell? ⟨(ad244.add ((x6_3).toNat * 2)).block, (ad244.add ((x6_3).toNat * 2)).off + 1, none⟩ = some (.int .i64 ((rd_T73 l1 x6_3).f1)) ∧ w'.cell? (ad244.add ((x5_1).toNat * 2)) = some (.int .i64 ((rd_T73 l1 x5_1).f0)) ∧ w'.cell? ⟨(ad244.add ((x5_1).toNat * 2)).block, (ad244.add ((x5_1).toNat * 2)).off + 1, none⟩ = some (.int .i64 ((rd_T73 l1 x5_1).f1)) ∧ w'.cell? (ad244.add ((x6_3).toNat * 2)) = some (.int .i64 ((rd_T73 l1 x6_3).f0)) ∧ w'.cell? ⟨(ad244.add ((x6_3).toNat * 2)).block, (ad244.add ((x6_3).toNat * 2)).off + 1, none⟩ = some (.int .i64 ((rd_T73 l1 x6_3).f1)) ∧ w'.cell? (ad244.add ((x5_1).toNat * 2)) = some (.int .i64 ((rd_T73 l1 x5_1).f0)) ∧ w'.cell? ⟨(ad244.add ((x5_1).toNat * 2)).block, (ad244.add ((x5_1).toNat * 2)).off + 1, none⟩ = some (.int .i64 ((rd_T73 l1 x5_1).f1)) ∧ w'.cell? (ad244.add ((x6_3).toNat * 2)) = some (.int .i64 ((rd_T73 l1 x6_3).f0)) ∧ w'.cell? ⟨(ad244.add ((x6_3).toNat * 2)).block, (ad244.add ((x6_3).toNat * 2)).off + 1, none⟩ = some (.int .i64 ((rd_T73 l1 x6_3).f1))) (ds := []) ⟨(cH HB hw244_0 :), (cH HB hw244_1 :), (cH HB hw245_0 :), (cH HB hw245_1 :), (cH HB hw246_0 :), (cH HB hw246_1 :), (cH HB hw247_0 :), (cH HB hw247_1 :), (cH HB hw248_0 :), (cH HB hw248_1 :), (cH HB hw249_0 :), (cH HB hw249_1 :), (cH HB hw250_0 :), (cH HB hw250_1 :), (cH HB hw251_0 :), (cH HB hw251_1 :)⟩ (fun hHeld => ?_); refine with_tabW spec_l02Is.tab9 spec_l02Is.bits9 (fun HT_ HW_ => ?_)
                  generalize wr.drew = w34 at BK238 HB hx244_0 hx244_1 hx245_0 hx245_1 hx246_0 hx246_1 hx247_0 hx247_1 hx248_0 hx248_1 hx249_0 hx249_1 hx250_0 hx250_1 hx251_0 hx251_1 hHeld ⊢
                  refine pu_ 0 42 1 HT_ ?_
                  refine pu_ 1 43 3 HT_ ?_
                  refine pu_ 2 44 7 HT_ ?_
                  refine pu_ 3 45 15 HT_ ?_
                  refine pu_ 5 47 47 HT_ ?_
                  refine pu_ 6 48 111 HT_ ?_
                  refine pu_ 7 49 239 HT_ ?_
                  refine pu_ 8 50 495 HT_ ?_
                  refine tk_ 4 46 511 HT_ HW_ hHeld ?_
                  refine tk_ 9 51 1023 HT_ HW_ hHeld ?_
                  refine pu_ 10 52 2047 HT_ ?_
                  refine pu_ 11 53 4095 HT_ ?_
                  refine pu_ 12 54 8191 HT_ ?_
                  refine pu_ 13 55 16383 HT_ ?_
                  refine pu_ 14 56 32767 HT_ ?_
                  refine pu_ 15 57 65535 HT_ ?_
                  refine pu_ 17 59 196607 HT_ ?_
                  refine pu_ 18 60 458751 HT_ ?_
                  refine pu_ 19 61 983039 HT_ ?_
                  refine pu_ 20 62 2031615 HT_ ?_
                  refine tk_ 16 58 2097151 HT_ HW_ hHeld ?_
                  refine tk_ 21 63 4194303 HT_ HW_ hHeld ?_
                  refine pu_ 22 64 8388607 HT_ ?_
                  refine pu_ 23 65 16777215 HT_ ?_
                  refine pu_ 24 66 33554431 HT_ ?_
                  refine pu_ 25 67 67108863 HT_ ?_
                  refine pu_ 26 68 134217727 HT_ ?_
                  refine pu_ 27 69 268435455 HT_ ?_
                  refine pu_ 28 70 536870911 HT_ ?_
                  refine pu_ 30 72 1610612735 HT_ ?_
                  refine pu_ 31 73 3758096383 HT_ ?_
                  refine pu_ 32 74 8053063679 HT_ ?_
                  refine pu_ 33 75 16642998271 HT_ ?_
                  refine tk_ 29 71 17179869183 HT_ HW_ hHeld ?_
                  refine tk_ 34 76 34359738367 HT_ HW_ hHeld ?_
                  refine pu_ 35 77 68719476735 HT_ ?_
                  refine pu_ 36 78 137438953471 HT_ ?_
                  refine pu_ 37 79 274877906943 HT_ ?_
                  refine pu_ 38 80 549755813887 HT_ ?_
                  refine pu_ 39 81 1099511627775 HT_ ?_
                  refine pu_ 40 82 2199023255551 HT_ ?_
                  refine pu_ 41 83 4398046511103 HT_ ?_
                  refine pu_ 43 85 13194139533311 HT_ ?_
                  refine pu_ 44 86 30786325577727 HT_ ?_
                  refine pu_ 45 87 65970697666559 HT_ ?_
                  refine pu_ 46 88 136339441844223 HT_ ?_
                  refine tk_ 42 84 140737488355327 HT_ HW_ hHeld ?_
                  refine tk_ 47 89 281474976710655 HT_ HW_ hHeld ?_
                  refine pu_ 48 90 562949953421311 HT_ ?_
                  refine pu_ 49 91 1125899906842623 HT_ ?_
                  refine dn_ HT_ ?_
                  try go_wp2
                  go_ret
                  exact ⟨by first | rfl | (simp [errW_none, errW_some] <;> rfl) | (simp [*, errW_none, errW_some] <;> rfl) | (exfalso; simp_all), pH HB⟩
                 ·rw [if_neg c33] at H
                  have c33b0 : (((rd_T73 l1 x5_1).f1) == ((rd_T73 l1 x6_3).f1)) = false := beq_eq_false_iff_ne.mpr c33
                  have c33b1 : (((rd_T73 l1 x5_1).f1) != ((rd_T73 l1 x6_3).f1)) = true := bne_iff_ne.mpr c33
                  have H' := Aside0.mk H
                  clear H
                  try go_wp2
                  replace BK238 := dB BK238
                  replace HB := dH HB
                  have p244 : 0 ≤ (x5_1 : Int) := of_decide_eq_true (by first | (with_reducible assumption) | assumption)
                  have q244 : x5_1 < (l1.length : Int) := of_decide_eq_true (by first | (with_reducible assumption) | assumption)
                  obtain ⟨ad244, e244, hx244_0, hx244_1⟩ := at_T73 HR1.out x5_1 p244 q244
                  have hw244_1 := hx244_1
                  have hw244_0 := hx244_0
                  cases e244
                  replace hx244_0 := cH HB hx244_0
                  replace hx244_1 := cH HB hx244_1
                  replace p244 := eq_true p244
                  replace q244 := eq_true q244
                  have p245 : 0 ≤ (x6_3 : Int) := of_decide_eq_true (by first | (with_reducible assumption) | assumption)
                  have q245 : x6_3 < (l1.length : Int) := of_decide_eq_true (by first | (with_reducible assumption) | assumption)
                  obtain ⟨ad245, e245, hx245_0, hx245_1⟩ := at_T73 HR1.out x6_3 p245 q245
                  have hw245_1 := hx245_1
                  have hw245_0 := hx245_0
                  obtain rfl : ad244 = ad245 := (by injection e245)
                  replace hx245_0 := cH HB hx245_0
                  replace hx245_1 := cH HB hx245_1
                  replace p245 := eq_true p245
                  replace q245 := eq_true q245
                  have p246 : 0 ≤ (x5_1 : Int) := of_decide_eq_true (by first | (with_reducible assumption) | assumption)
                  have q246 : x5_1 < (l1.length : Int) := of_decide_eq_true (by first | (with_reducible assumption) | assumption)
                  obtain ⟨ad246, e246, hx246_0, hx246_1⟩ := at_T73 HR1.out x5_1 p246 q246
                  have hw246_1 := hx246_1
                  have hw246_0 := hx246_0
                  obtain rfl : ad244 = ad246 := (by injection e246)
                  replace hx246_0 := cH HB hx246_0
                  replace hx246_1 := cH HB hx246_1
                  replace p246 := eq_true p246
                  replace q246 := eq_true q246
                  have p247 : 0 ≤ (x6_3 : Int) := of_decide_eq_true (by first | (with_reducible assumption) | assumption)
                  have q247 : x6_3 < (l1.length : Int) := of_decide_eq_true (by first | (with_reducible assumption) | assumption)
                  obtain ⟨ad247, e247, hx247_0, hx247_1⟩ := at_T73 HR1.out x6_3 p247 q247
                  have hw247_1 := hx247_1
                  have hw247_0 := hx247_0
                  obtain rfl : ad244 = ad247 := (by injection e247)
                  replace hx247_0 := cH HB hx247_0
                  replace hx247_1 := cH HB hx247_1
                  replace p247 := eq_true p247
                  replace q247 := eq_true q247
                  have p248 : 0 ≤ (x5_1 : Int) := of_decide_eq_true (by first | (with_reducible assumption) | assumption)
                  have q248 : x5_1 < (l1.length : Int) := of_decide_eq_true (by first | (with_reducible assumption) | assumption)
                  obtain ⟨ad248, e248, hx248_0, hx248_1⟩ := at_T73 HR1.out x5_1 p248 q248
                  have hw248_1 := hx248_1
                  have hw248_0 := hx248_0
                  obtain rfl : ad244 = ad248 := (by injection e248)
                  replace hx248_0 := cH HB hx248_0
                  replace hx248_1 := cH HB hx248_1
                  replace p248 := eq_true p248
                  replace q248 := eq_true q248
                  have p249 : 0 ≤ (x6_3 : Int) := of_decide_eq_true (by first | (with_reducible assumption) | assumption)
                  have q249 : x6_3 < (l1.length : Int) := of_decide_eq_true (by first | (with_reducible assumption) | assumption)
                  obtain ⟨ad249, e249, hx249_0, hx249_1⟩ := at_T73 HR1.out x6_3 p249 q249
                  have hw249_1 := hx249_1
                  have hw249_0 := hx249_0
                  obtain rfl : ad244 = ad249 := (by injection e249)
                  replace hx249_0 := cH HB hx249_0
                  replace hx249_1 := cH HB hx249_1
                  replace p249 := eq_true p249
                  replace q249 := eq_true q249
                  have p250 : 0 ≤ (x5_1 : Int) := of_decide_eq_true (by first | (with_reducible assumption) | assumption)
                  have q250 : x5_1 < (l1.length : Int) := of_decide_eq_true (by first | (with_reducible assumption) | assumption)
                  obtain ⟨ad250, e250, hx250_0, hx250_1⟩ := at_T73 HR1.out x5_1 p250 q250
                  have hw250_1 := hx250_1
                  have hw250_0 := hx250_0
                  obtain rfl : ad244 = ad250 := (by injection e250)
                  replace hx250_0 := cH HB hx250_0
                  replace hx250_1 := cH HB hx250_1
                  replace p250 := eq_true p250
                  replace q250 := eq_true q250
                  have p251 : 0 ≤ (x6_3 : Int) := of_decide_eq_true (by first | (with_reducible assumption) | assumption)
                  have q251 : x6_3 < (l1.length : Int) := of_decide_eq_true (by first | (with_reducible assumption) | assumption)
                  obtain ⟨ad251, e251, hx251_0, hx251_1⟩ := at_T73 HR1.out x6_3 p251 q251
                  have hw251_1 := hx251_1
                  have hw251_0 := hx251_0
                  obtain rfl : ad244 = ad251 := (by injection e251)
                  replace hx251_0 := cH HB hx251_0
                  replace hx251_1 := cH HB hx251_1
                  replace p251 := eq_true p251
                  replace q251 := eq_true q251
                  refine st_ 50 (S := fun w' => w'.cell? (ad244.add ((x5_1).toNat * 2)) = some (.int .i64 ((rd_T73 l1 x5_1).f0)) ∧ w'.cell? ⟨(ad244.add ((x5_1).toNat * 2)).block, (ad244.add ((x5_1).toNat * 2)).off + 1, none⟩ = some (.int .i64 ((rd_T73 l1 x5_1).f1)) ∧ w'.cell? (ad244.add ((x6_3).toNat * 2)) = some (.int .i64 ((rd_T73 l1 x6_3).f0)) ∧ w'.cell? ⟨(ad244.add ((x6_3).toNat * 2)).block, (ad244.add ((x6_3).toNat * 2)).off + 1, none⟩ = some (.int .i64 ((rd_T73 l1 x6_3).f1)) ∧ w'.cell? (ad244.add ((x5_1).toNat * 2)) = some (.int .i64 ((rd_T73 l1 x5_1).f0)) ∧ w'.cell? ⟨(ad244.add ((x5_1).toNat * 2)).block, (ad244.add ((x5_1).toNat * 2)).off + 1, none⟩ = some (.int .i64 ((rd_T73 l1 x5_1).f1)) ∧ w'.cell? (ad244.add ((x6_3).toNat * 2)) = some (.int .i64 ((rd_T73 l1 x6_3).f0)) ∧ w'.cell? ⟨(ad244.add ((x6_3).toNat * 2)).block, (ad244.add ((x6_3).toNat * 2)).off + 1, none⟩ = some (.int .i64 ((rd_T73 l1 x6_3).f1)) ∧ w'.cell? (ad244.add ((x5_1).toNat * 2)) = some (.int .i64 ((rd_T73 l1 x5_1).f0)) ∧ w'.cell? ⟨(ad244.add ((x5_1).toNat * 2)).block, (ad244.add ((x5_1).toNat * 2)).off + 1, none⟩ = some (.int .i64 ((rd_T73 l1 x5_1).f1)) ∧ w'.cell? (ad244.add ((x6_3).toNat * 2)) = some (.int .i64 ((rd_T73 l1 x6_3).f0)) ∧ w'.cell? ⟨(ad244.add ((x6_3).toNat * 2)).block, (ad244.add ((x6_3).toNat * 2)).off + 1, none⟩ = some (.int .i64 ((rd_T73 l1 x6_3).f1)) ∧ w'.cell? (ad244.add ((x5_1).toNat * 2)) = some (.int .i64 ((rd_T73 l1 x5_1).f0)) ∧ w'.cell? ⟨(ad244.add ((x5_1).toNat * 2)).block, (ad244.add ((x5_1).toNat * 2)).off + 1, none⟩ = some (.int .i64 ((rd_T73 l1 x5_1).f1)) ∧ w'.cell? (ad244.add ((x6_3).toNat * 2)) = some (.int .i64 ((rd_T73 l1 x6_3).f0)) ∧ w'.cell? ⟨(ad244.add ((x6_3).toNat * 2)).block, (ad244.add ((x6_3).toNat * 2)).off + 1, none⟩ = some (.int .i64 ((rd_T73 l1 x6_3).f1))) (ds := []) ⟨(cH HB hw244_0 :), (cH HB hw244_1 :), (cH HB hw245_0 :), (cH HB hw245_1 :), (cH HB hw246_0 :), (cH HB hw246_1 :), (cH HB hw247_0 :), (cH HB hw247_1 :), (cH HB hw248_0 :), (cH HB hw248_1 :), (cH HB hw249_0 :), (cH HB hw249_1 :), (cH HB hw250_0 :), (cH HB hw250_1 :), (cH HB hw251_0 :), (cH HB hw251_1 :)⟩ (fun hHeld => ?_); refine with_tabW spec_l02Is.tab9 spec_l02Is.bits9 (fun HT_ HW_ => ?_)
                  generalize wr.drew = w35 at BK238 HB hx244_0 hx244_1 hx245_0 hx245_1 hx246_0 hx246_1 hx247_0 hx247_1 hx248_0 hx248_1 hx249_0 hx249_1 hx250_0 hx250_1 hx251_0 hx251_1 hHeld ⊢
                  refine pu_ 0 42 1 HT_ ?_
                  refine pu_ 1 43 3 HT_ ?_
                  refine pu_ 2 44 7 HT_ ?_
                  refine pu_ 3 45 15 HT_ ?_
                  refine pu_ 5 47 47 HT_ ?_
                  refine pu_ 6 48 111 HT_ ?_
                  refine pu_ 7 49 239 HT_ ?_
                  refine pu_ 8 50 495 HT_ ?_
                  refine tk_ 4 46 511 HT_ HW_ hHeld ?_
                  refine tk_ 9 51 1023 HT_ HW_ hHeld ?_
                  refine pu_ 10 52 2047 HT_ ?_
                  refine pu_ 11 53 4095 HT_ ?_
                  refine pu_ 12 54 8191 HT_ ?_
                  refine pu_ 13 55 16383 HT_ ?_
                  refine pu_ 14 56 32767 HT_ ?_
                  refine pu_ 15 57 65535 HT_ ?_
                  refine pu_ 17 59 196607 HT_ ?_
                  refine pu_ 18 60 458751 HT_ ?_
                  refine pu_ 19 61 983039 HT_ ?_
                  refine pu_ 20 62 2031615 HT_ ?_
                  refine tk_ 16 58 2097151 HT_ HW_ hHeld ?_
                  refine tk_ 21 63 4194303 HT_ HW_ hHeld ?_
                  refine pu_ 22 64 8388607 HT_ ?_
                  refine pu_ 23 65 16777215 HT_ ?_
                  refine pu_ 24 66 33554431 HT_ ?_
                  refine pu_ 25 67 67108863 HT_ ?_
                  refine pu_ 26 68 134217727 HT_ ?_
                  refine pu_ 27 69 268435455 HT_ ?_
                  refine pu_ 28 70 536870911 HT_ ?_
                  refine pu_ 30 72 1610612735 HT_ ?_
                  refine pu_ 31 73 3758096383 HT_ ?_
                  refine pu_ 32 74 8053063679 HT_ ?_
                  refine pu_ 33 75 16642998271 HT_ ?_
                  refine tk_ 29 71 17179869183 HT_ HW_ hHeld ?_
                  refine tk_ 34 76 34359738367 HT_ HW_ hHeld ?_
                  refine pu_ 35 77 68719476735 HT_ ?_
                  refine pu_ 36 78 137438953471 HT_ ?_
                  refine pu_ 37 79 274877906943 HT_ ?_
                  refine pu_ 38 80 549755813887 HT_ ?_
                  refine pu_ 39 81 1099511627775 HT_ ?_
                  refine pu_ 40 82 2199023255551 HT_ ?_
                  refine pu_ 41 83 4398046511103 HT_ ?_
                  refine pu_ 43 85 13194139533311 HT_ ?_
                  refine pu_ 44 86 30786325577727 HT_ ?_
                  refine pu_ 45 87 65970697666559 HT_ ?_
                  refine pu_ 46 88 136339441844223 HT_ ?_
                  refine tk_ 42 84 140737488355327 HT_ HW_ hHeld ?_
                  refine tk_ 47 89 281474976710655 HT_ HW_ hHeld ?_
                  refine pu_ 48 90 562949953421311 HT_ ?_
                  refine pu_ 49 91 1125899906842623 HT_ ?_
                  refine dn_ HT_ ?_
                  try go_wp2
                  go_roundg k3
                  case measure => have := HK1.out; have := HJ4.out; have := HK3.out; omega
                  case rel => exact ⟨(wrap64 (x6_3 + 1)), (by first | rfl | (simp; done) | (simp [*]; done)), H', ⟨by have := HK1.out; have := HJ4.out; have := HK3.out; omega⟩, ⟨pB BK238⟩, ⟨pH HB⟩⟩
             ·rw [if_neg c26] at H
              exact absurd H (by simp)
            ·rw [if_neg c25] at H
             exact absurd H (by simp)
           ·rw [if_neg c24] at H
            exact absurd H (by simp)
          ·rw [if_neg c23] at H
           exact absurd H (by simp)
         ·rw [if_neg c22] at H
          have c22b0 : decide (x6_3 < x5_1) = false := decide_eq_false c22
          clear c22
          have H' := Aside0.mk H
          clear H
          go_wp2
          go_roundg k3
          case measure => have := HK1.out; have := HJ4.out; have := HK3.out; omega
          case rel => exact ⟨(wrap64 (x5_1 + 1)), (by first | rfl | (simp; done) | (simp [*]; done)), H', ⟨by have := HK1.out; have := HJ4.out; have := HK3.out; omega⟩, ⟨pB BK238⟩, ⟨pH HB⟩⟩
   ·rw [if_neg c4] at H
    have c4b0 : decide (x5_1 < (l1.length : Int)) = false := decide_eq_false c4
    clear c4
    obtain rfl := Option.some.inj H
    go_wp2
    go_ret
    exact ⟨by first | rfl | (simp [errW_none, errW_some] <;> rfl) | (simp [*, errW_none, errW_some] <;> rfl) | (exfalso; simp_all), pH HB⟩
end Go.Proofs.Ytomdfjohnmikdaa.QS
namespace Go.Proofs.Ytomdfjohnmikdaa.QS
open Go.Proofs.Ytomdfjohnmikdaa.Cw Go.Proofs.Ytomdfjohnmikdaa.Kp Go.Proofs.Ytomdfjohnmikdaa.Ext Go.RowKit Go.Proofs.YtomdfjohnmikdaaW.PrintWords Go.Proofs.YtomdfjohnmikdaaW.PrintLast Go.Proofs.YtomdfjohnmikdaaW.PrintMore
attribute [local go_sem] max2_int min2_int max_two min_two max_three min_three max_four min_four   -- for this text's walks alone
set_option linter.unusedVariables false
set_option linter.unusedSimpArgs false
end Go.Proofs.Ytomdfjohnmikdaa.QS
namespace Go.Proofs.Ytomdfjohnmikdaa.QS
open Go.Proofs.Ytomdfjohnmikdaa.Cw Go.Proofs.Ytomdfjohnmikdaa.Kp Go.Proofs.Ytomdfjohnmikdaa.Ext Go.RowKit Go.Proofs.YtomdfjohnmikdaaW.PrintWords Go.Proofs.YtomdfjohnmikdaaW.PrintLast Go.Proofs.YtomdfjohnmikdaaW.PrintMore
attribute [local go_sem] max2_int min2_int max_two min_two max_three min_three max_four min_four   -- for this text's walks alone
set_option linter.unusedVariables false
set_option linter.unusedSimpArgs false
mutual
def spec_l02Critical.l0 : Nat → List (S73) → List Int → Int → Int → List Int → Option (List Int)
 | 0, _, _, _, _, _ => none
 | k + 1, x1, x5, x6, x401000, x401001 => if x6 < (x401001.length : Int) then (spec_l02Critical.l1 k x1 x5 x6 true 0 x401000 x401001) else (some x5)
def spec_l02Critical.l1 : Nat → List (S73) → List Int → Int → Bool → Int → Int → List Int → Option (List Int)
 | 0, _, _, _, _, _, _, _ => none
 | k + 1, x1, x5, x6, x7, x8, x401000, x401001 => if x8 < (x1.length : Int) then (if x7 = true then (if 0 ≤ x8 then (if 0 ≤ x6 then (if x6 < (x401001.length : Int) then (if ((rd_T73 x1 x8).f0) = (rd x401001 x6) then (spec_l02Critical.l1 k x1 x5 x6 false (wrap64 (x8 + 1)) x401000 x401001) else (spec_l02Critical.l1 k x1 x5 x6 (((rd_T73 x1 x8).f1) != (rd x401001 x6)) (wrap64 (x8 + 1)) x401000 x401001)) else (none)) else (none)) else (none)) else (spec_l02Critical.l1 k x1 x5 x6 false (wrap64 (x8 + 1)) x401000 x401001)) else (if x7 = true then (if 0 ≤ x6 then (if x6 < (x401001.length : Int) then (if x5.length < 17592186044416 then (spec_l02Critical.l0 k x1 (x5 ++ [rd x401001 x6]) (wrap64 (x6 + 1)) x401000 x401001) else (none)) else (none)) else (none)) else (spec_l02Critical.l0 k x1 x5 (wrap64 (x6 + 1)) x401000 x401001))
end
def spec_l02Critical.f (k : Nat) (a0_0 : Int) (l0_1 : List Int) (l1 : List (S73)) : Option (List Int) := spec_l02Critical.l0 k l1 (([] : List Int)) 0 a0_0 l0_1
set_option maxHeartbeats 8000000 in
set_option maxRecDepth 100000 in
theorem spec_l02Critical.calls (k : Nat) (a0_0 : Int) (A0_1 : Option Addr) (c0_1 : Nat) (l0_1 : List Int) (A1 : Option Addr) (c1 : Nat) (l1 : List (S73)) (r : List Int) (w : World) (hr0_1 : Kd.C (Kd.int .i64) w A0_1 l0_1.length l0_1) (hc0_1 : l0_1.length ≤ c0_1) (hr1 : Kd.C k73 w A1 l1.length l1) (hc1 : l1.length ≤ c1) (h : spec_l02Critical.f k a0_0 l0_1 l1 = some r) :
  Calls Try.prog 120 #[.agg #[.int .i64 a0_0, .slice A0_1 l0_1.length c0_1], .slice A1 l1.length c1] w fun e w' => ∃ v0_ : Value, e = .returned (v0_) ∧ Kd.R (Kd.int .i64) 2 w' w.heap.size (fun _ => True) v0_ r ∧ Below w.heap.size w w' := by
 have hu28 := Try.underlying28
 have HR0_1 := Aside0.mk hr0_1
 have HC0_1 := Aside0.mk hc0_1
 clear hr0_1 hc0_1
 have HR1 := Aside0.mk hr1
 have HC1 := Aside0.mk hc1
 clear hr1 hc1
 have HB := Aside0.mk (Below.refl w.heap.size w)
 have H : (spec_l02Critical.l0 k l1 (([] : List Int)) 0 a0_0 l0_1) = some r := h
 clear h
 obtain ⟨y401, hy401⟩ : ∃ y_ : List Int, y_ = (([] : List Int)) := ⟨_, rfl⟩
 replace H : (spec_l02Critical.l0 k l1 y401 0 a0_0 l0_1) = some r := by first | (rw [hy401]; with_reducible exact H) | (have H2_ := (Option.bind_some _ _).symm.trans H; rw [hy401]; with_reducible exact H2_) | (have H2_ := (Option.bind_some _ _).symm.trans H; with_reducible exact H2_) | with_reducible exact H | (rw [hy401]; exact H) | exact H
 have Ny401 := Aside0.mk hy401
 clear hy401
 have H' := Aside0.mk H
 clear H
 go_enter Try.func120, Try.ntmps120
 go_wp2_with (first | ((with_reducible refine gate_dst (N := 2) rfl ?_); refine box_event ?hg (N := 2) ?hd (cs := #[.int .i64 a0_0, .slice A0_1 l0_1.length c0_1]) (t := 28) ?hr ?_; (case hd => rfl); (case hg => rfl); (case hr => first | (go_simp; done) | (go_simp; rfl)); intro gb400 hg w3 hbox hb; have BK400 := Aside0.mk (hbox); have GW400 := gH HB hg; have GE400 := gH HB hg; replace HB := sH HB hb; clear hb hbox hg) | ((with_reducible refine gate_dst (N := 9) rfl ?_); refine Kd.R_lit (Kd.int .i64) _ 2 ?hg (N := 9) ?hd (xs := ([] : List Int)) (inner := []) (ok := fun _ => True) (okp := fun _ => True) ?hr ?hp (fun _ hk => hk) trivial (Below.refl _ _) (Nat.le_refl _) (by simp) ?_; (case hd => rfl); (case hg => rfl); (case hr => first | (go_simp; done) | (go_simp; rfl)); (case hp => exact (Reps.none _ _)); intro v402 w4 ho5 hb hg_ hnew_; clear hg_ hnew_; (first | rw [← Ny401.out] at ho5 | (simp only [Int.reduceToNat] at ho5; rw [← Ny401.out] at ho5)); have HO403 := Aside0.mk (Kd.R_lower ho5 (below_size (pH HB))); replace BK400 := sB BK400 hb; replace HB := sH HB hb; clear hb ho5))
 repeat (go_quiet (first | ((with_reducible refine gate_dst (N := 2) rfl ?_); refine box_event ?hg (N := 2) ?hd (cs := #[.int .i64 a0_0, .slice A0_1 l0_1.length c0_1]) (t := 28) ?hr ?_; (case hd => rfl); (case hg => rfl); (case hr => first | (go_simp; done) | (go_simp; rfl)); intro gb400 hg w3 hbox hb; have BK400 := Aside0.mk (hbox); have GW400 := gH HB hg; have GE400 := gH HB hg; replace HB := sH HB hb; clear hb hbox hg) | ((with_reducible refine gate_dst (N := 9) rfl ?_); refine Kd.R_lit (Kd.int .i64) _ 2 ?hg (N := 9) ?hd (xs := ([] : List Int)) (inner := []) (ok := fun _ => True) (okp := fun _ => True) ?hr ?hp (fun _ hk => hk) trivial (Below.refl _ _) (Nat.le_refl _) (by simp) ?_; (case hd => rfl); (case hg => rfl); (case hr => first | (go_simp; done) | (go_simp; rfl)); (case hp => exact (Reps.none _ _)); intro v402 w4 ho5 hb hg_ hnew_; clear hg_ hnew_; (first | rw [← Ny401.out] at ho5 | (simp only [Int.reduceToNat] at ho5; rw [← Ny401.out] at ho5)); have HO403 := Aside0.mk (Kd.R_lower ho5 (below_size (pH HB))); replace BK400 := sB BK400 hb; replace HB := sH HB hb; clear hb ho5)); try go_wp2_with (first | ((with_reducible refine gate_dst (N := 2) rfl ?_); refine box_event ?hg (N := 2) ?hd (cs := #[.int .i64 a0_0, .slice A0_1 l0_1.length c0_1]) (t := 28) ?hr ?_; (case hd => rfl); (case hg => rfl); (case hr => first | (go_simp; done) | (go_simp; rfl)); intro gb400 hg w3 hbox hb; have BK400 := Aside0.mk (hbox); have GW400 := gH HB hg; have GE400 := gH HB hg; replace HB := sH HB hb; clear hb hbox hg) | ((with_reducible refine gate_dst (N := 9) rfl ?_); refine Kd.R_lit (Kd.int .i64) _ 2 ?hg (N := 9) ?hd (xs := ([] : List Int)) (inner := []) (ok := fun _ => True) (okp := fun _ => True) ?hr ?hp (fun _ hk => hk) trivial (Below.refl _ _) (Nat.le_refl _) (by simp) ?_; (case hd => rfl); (case hg => rfl); (case hr => first | (go_simp; done) | (go_simp; rfl)); (case hp => exact (Reps.none _ _)); intro v402 w4 ho5 hb hg_ hnew_; clear hg_ hnew_; (first | rw [← Ny401.out] at ho5 | (simp only [Int.reduceToNat] at ho5; rw [← Ny401.out] at ho5)); have HO403 := Aside0.mk (Kd.R_lower ho5 (below_size (pH HB))); replace BK400 := sB BK400 hb; replace HB := sH HB hb; clear hb ho5)))
 go_loopg [5, 6] k (fun kq v5 v6 w' => ∃ (x5_1 : List Int) (x6_1 : Int), v6 = .int .i64 x6_1 ∧ Aside0 (spec_l02Critical.l0 kq l1 x5_1 x6_1 a0_0 l0_1 = some r) ∧ Aside0 (kq ≤ k) ∧ Aside0 (Kd.R (Kd.int .i64) 2 w' w.heap.size (fun _ => True) v5 x5_1) ∧ Aside0 (w'.heap[gb400]? = some (.cells #[.int .i64 a0_0, (.slice A0_1 l0_1.length c0_1)] 28 (0, 0))) ∧ Aside0 (Below w.heap.size w w'))
 case atStart => exact ⟨(y401), (0), (by first | rfl | (simp; done) | (simp [*]; done)), H', ⟨Nat.le_refl _⟩, ⟨by (with_reducible repeat (first | apply Kd.R_alloc | apply Kd.R_drewN | apply Kd.R_drew)); exact HO403.out⟩, ⟨pB BK400⟩, ⟨pH HB⟩⟩
 case round =>
  clear H'
  try clear c1
  try clear p2
  obtain ⟨x5_1, x6_1, rfl, HA, HK1, HO_5, BK400, HB⟩ := hrel
  cases gk with
  | zero => exact absurd HA.out (by simp [spec_l02Critical.l0])
  | succ k1 =>
   have H := HA.out
   clear HA
   simp only [spec_l02Critical.l0] at H
   by_cases c6 : x6_1 < (l0_1.length : Int)
   ·rw [if_pos c6] at H
    have c6b0 : decide (x6_1 < (l0_1.length : Int)) = true := decide_eq_true c6
    clear c6
    have H' := Aside0.mk H
    clear H
    have hcz7_0 : wr.cell? ⟨gb400, 0, none⟩ = some (.int .i64 a0_0) := cB BK400 0
    have hcz7_1 : wr.cell? ⟨gb400, 1, none⟩ = some (.slice A0_1 l0_1.length c0_1) := cB BK400 1
    have hfz7_0 := zB BK400 0
    have hfz7_1 := zB BK400 1
    go_wp2
    repeat (go_quiet (fail); try go_wp2)
    go_loopg [7, 8] k1 (fun kq v7 v8 w' => ∃ (x7_2 : Bool) (x8_2 : Int), v7 = .bool x7_2 ∧ v8 = .int .i64 x8_2 ∧ Aside0 (spec_l02Critical.l1 kq l1 x5_1 x6_1 x7_2 x8_2 a0_0 l0_1 = some r) ∧ Aside0 (kq ≤ k1) ∧ Aside0 (Kd.R (Kd.int .i64) 2 w' w.heap.size (fun _ => True) u5 x5_1) ∧ Aside0 (w'.heap[gb400]? = some (.cells #[.int .i64 a0_0, (.slice A0_1 l0_1.length c0_1)] 28 (0, 0))) ∧ Aside0 (Below w.heap.size w w'))
    case atStart => exact ⟨(true), (0), (by first | rfl | (simp; done) | (simp [*]; done)), (by first | rfl | (simp; done) | (simp [*]; done)), H', ⟨Nat.le_refl _⟩, ⟨by (with_reducible repeat (first | apply Kd.R_alloc | apply Kd.R_drewN | apply Kd.R_drew)); exact HO_5.out⟩, ⟨pB BK400⟩, ⟨pH HB⟩⟩
    case round =>
     clear H'
     try clear c1
     try clear p2
     try clear c6
     try clear c6b0
     try clear hcz7_0
     try clear hcz7_1
     try clear hfz7_0
     try clear hfz7_1
     try clear p2
     obtain ⟨x7_2, x8_2, rfl, rfl, HA, HK2, HO_5, BK400, HB⟩ := hrel
     cases gk with
     | zero => exact absurd HA.out (by simp [spec_l02Critical.l1])
     | succ k2 =>
      have H := HA.out
      clear HA
      simp only [spec_l02Critical.l1] at H
      by_cases c8 : x8_2 < (l1.length : Int)
      ·rw [if_pos c8] at H
       have c8b0 : decide (x8_2 < (l1.length : Int)) = true := decide_eq_true c8
       clear c8
       by_cases c9 : x7_2 = true
       ·subst c9
        have H1 : (if 0 ≤ x8_2 then (if 0 ≤ x6_1 then (if x6_1 < (l0_1.length : Int) then (if ((rd_T73 l1 x8_2).f0) = (rd l0_1 x6_1) then (spec_l02Critical.l1 k2 l1 x5_1 x6_1 false (wrap64 (x8_2 + 1)) a0_0 l0_1) else (spec_l02Critical.l1 k2 l1 x5_1 x6_1 (((rd_T73 l1 x8_2).f1) != (rd l0_1 x6_1)) (wrap64 (x8_2 + 1)) a0_0 l0_1)) else (none)) else (none)) else (none)) = some r := by rw [if_pos rfl] at H; exact H
        clear H
        have H := H1
        clear H1
        by_cases c10 : 0 ≤ x8_2
        ·rw [if_pos c10] at H
         have c10b0 : decide (0 ≤ x8_2) = true := decide_eq_true c10
         clear c10
         by_cases c11 : 0 ≤ x6_1
         ·rw [if_pos c11] at H
          have c11b0 : decide (0 ≤ x6_1) = true := decide_eq_true c11
          clear c11
          by_cases c12 : x6_1 < (l0_1.length : Int)
          ·rw [if_pos c12] at H
           have c12b0 : decide (x6_1 < (l0_1.length : Int)) = true := decide_eq_true c12
           clear c12
           by_cases c13 : ((rd_T73 l1 x8_2).f0) = (rd l0_1 x6_1)
           ·rw [if_pos c13] at H
            have c13b0 : (((rd_T73 l1 x8_2).f0) == (rd l0_1 x6_1)) = true := beq_iff_eq.mpr c13
            have c13b1 : (((rd_T73 l1 x8_2).f0) != (rd l0_1 x6_1)) = false := bne_eq_false_iff_eq.mpr c13
            clear c13
            have H' := Aside0.mk H
            clear H
            have p404 : 0 ≤ (x8_2 : Int) := of_decide_eq_true (by first | (with_reducible assumption) | assumption)
            have q404 : x8_2 < (l1.length : Int) := of_decide_eq_true (by first | (with_reducible assumption) | assumption)
            obtain ⟨ad404, e404, hx404_0, hx404_1⟩ := at_T73 HR1.out x8_2 p404 q404
            cases e404
            replace hx404_0 := cH HB hx404_0
            replace hx404_1 := cH HB hx404_1
            replace p404 := eq_true p404
            replace q404 := eq_true q404
            have hcz14_0 : wr.cell? ⟨gb400, 0, none⟩ = some (.int .i64 a0_0) := cB BK400 0
            have hcz14_1 : wr.cell? ⟨gb400, 1, none⟩ = some (.slice A0_1 l0_1.length c0_1) := cB BK400 1
            have hfz14_0 := zB BK400 0
            have hfz14_1 := zB BK400 1
            have p405 : 0 ≤ (x6_1 : Int) := of_decide_eq_true (by first | (with_reducible assumption) | assumption)
            have q405 : x6_1 < (l0_1.length : Int) := of_decide_eq_true (by first | (with_reducible assumption) | assumption)
            obtain ⟨ad405, e405, hx405_0⟩ := Kd.at_int HR0_1.out x6_1 p405 q405
            cases e405
            replace hx405_0 := cH HB hx405_0
            replace p405 := eq_true p405
            replace q405 := eq_true q405
            go_wp2
            repeat (go_quiet (fail); try go_wp2)
            go_roundg k2
            case measure => have := HK1.out; have := HK2.out; omega
            case rel => exact ⟨(false), (wrap64 (x8_2 + 1)), (by first | rfl | (simp; done) | (simp [*]; done)), (by first | rfl | (simp; done) | (simp [*]; done)), H', ⟨by have := HK1.out; have := HK2.out; omega⟩, ⟨by (with_reducible repeat (first | apply Kd.R_alloc | apply Kd.R_drewN | apply Kd.R_drew)); exact HO_5.out⟩, ⟨pB BK400⟩, ⟨pH HB⟩⟩
           ·rw [if_neg c13] at H
            have c13b0 : (((rd_T73 l1 x8_2).f0) == (rd l0_1 x6_1)) = false := beq_eq_false_iff_ne.mpr c13
            have c13b1 : (((rd_T73 l1 x8_2).f0) != (rd l0_1 x6_1)) = true := bne_iff_ne.mpr c13
            have H' := Aside0.mk H
            clear H
            have p404 : 0 ≤ (x8_2 : Int) := of_decide_eq_true (by first | (with_reducible assumption) | assumption)
            have q404 : x8_2 < (l1.length : Int) := of_decide_eq_true (by first | (with_reducible assumption) | assumption)
            obtain ⟨ad404, e404, hx404_0, hx404_1⟩ := at_T73 HR1.out x8_2 p404 q404
            cases e404
            replace hx404_0 := cH HB hx404_0
            replace hx404_1 := cH HB hx404_1
            replace p404 := eq_true p404
            replace q404 := eq_true q404
            have hcz15_0 : wr.cell? ⟨gb400, 0, none⟩ = some (.int .i64 a0_0) := cB BK400 0
            have hcz15_1 : wr.cell? ⟨gb400, 1, none⟩ = some (.slice A0_1 l0_1.length c0_1) := cB BK400 1
            have hfz15_0 := zB BK400 0
            have hfz15_1 := zB BK400 1
            have p405 : 0 ≤ (x6_1 : Int) := of_decide_eq_true (by first | (with_reducible assumption) | assumption)
            have q405 : x6_1 < (l0_1.length : Int) := of_decide_eq_true (by first | (with_reducible assumption) | assumption)
            obtain ⟨ad405, e405, hx405_0⟩ := Kd.at_int HR0_1.out x6_1 p405 q405
            cases e405
            replace hx405_0 := cH HB hx405_0
            replace p405 := eq_true p405
            replace q405 := eq_true q405
            have p406 : 0 ≤ (x8_2 : Int) := of_decide_eq_true (by first | (with_reducible assumption) | assumption)
            have q406 : x8_2 < (l1.length : Int) := of_decide_eq_true (by first | (with_reducible assumption) | assumption)
            obtain ⟨ad406, e406, hx406_0, hx406_1⟩ := at_T73 HR1.out x8_2 p406 q406
            obtain rfl : ad404 = ad406 := (by injection e406)
            replace hx406_0 := cH HB hx406_0
            replace hx406_1 := cH HB hx406_1
            replace p406 := eq_true p406
            replace q406 := eq_true q406
            have p407 : 0 ≤ (x6_1 : Int) := of_decide_eq_true (by first | (with_reducible assumption) | assumption)
            have q407 : x6_1 < (l0_1.length : Int) := of_decide_eq_true (by first | (with_reducible assumption) | assumption)
            obtain ⟨ad407, e407, hx407_0⟩ := Kd.at_int HR0_1.out x6_1 p407 q407
            obtain rfl : ad405 = ad407 := (by injection e407)
            replace hx407_0 := cH HB hx407_0
            replace p407 := eq_true p407
            replace q407 := eq_true q407
            go_wp2
            repeat (go_quiet (fail); try go_wp2)
            go_roundg k2
            case measure => have := HK1.out; have := HK2.out; omega
            case rel => exact ⟨((((rd_T73 l1 x8_2).f1) != (rd l0_1 x6_1))), (wrap64 (x8_2 + 1)), (by first | rfl | (simp; done) | (simp [*]; done)), (by first | rfl | (simp; done) | (simp [*]; done)), H', ⟨by have := HK1.out; have := HK2.out; omega⟩, ⟨by (with_reducible repeat (first | apply Kd.R_alloc | apply Kd.R_drewN | apply Kd.R_drew)); exact HO_5.out⟩, ⟨pB BK400⟩, ⟨pH HB⟩⟩
          ·rw [if_neg c12] at H
           exact absurd H (by simp)
         ·rw [if_neg c11] at H
          exact absurd H (by simp)
        ·rw [if_neg c10] at H
         exact absurd H (by simp)
       ·replace c9 := Bool.eq_false_iff.mpr c9
        subst c9
        have H1 : (spec_l02Critical.l1 k2 l1 x5_1 x6_1 false (wrap64 (x8_2 + 1)) a0_0 l0_1) = some r := by rw [if_neg (show ¬ (false = true) by decide)] at H; exact H
        clear H
        have H := H1
        clear H1
        have H' := Aside0.mk H
        clear H
        go_wp2
        repeat (go_quiet (fail); try go_wp2)
        go_roundg k2
        case measure => have := HK1.out; have := HK2.out; omega
        case rel => exact ⟨(false), (wrap64 (x8_2 + 1)), (by first | rfl | (simp; done) | (simp [*]; done)), (by first | rfl | (simp; done) | (simp [*]; done)), H', ⟨by have := HK1.out; have := HK2.out; omega⟩, ⟨by (with_reducible repeat (first | apply Kd.R_alloc | apply Kd.R_drewN | apply Kd.R_drew)); exact HO_5.out⟩, ⟨pB BK400⟩, ⟨pH HB⟩⟩
      ·rw [if_neg c8] at H
       have c8b0 : decide (x8_2 < (l1.length : Int)) = false := decide_eq_false c8
       clear c8
       by_cases c16 : x7_2 = true
       ·subst c16
        have H1 : (if 0 ≤ x6_1 then (if x6_1 < (l0_1.length : Int) then (if x5_1.length < 17592186044416 then (spec_l02Critical.l0 k2 l1 (x5_1 ++ [rd l0_1 x6_1]) (wrap64 (x6_1 + 1)) a0_0 l0_1) else (none)) else (none)) else (none)) = some r := by rw [if_pos rfl] at H; exact H
        clear H
        have H := H1
        clear H1
        by_cases c17 : 0 ≤ x6_1
        ·rw [if_pos c17] at H
         have c17b0 : decide (0 ≤ x6_1) = true := decide_eq_true c17
         clear c17
         by_cases c18 : x6_1 < (l0_1.length : Int)
         ·rw [if_pos c18] at H
          have c18b0 : decide (x6_1 < (l0_1.length : Int)) = true := decide_eq_true c18
          clear c18
          by_cases c19 : x5_1.length < 17592186044416
          ·rw [if_pos c19] at H
           have LMc19 := Aside0.mk c19
           clear c19
           obtain ⟨y409, hy409⟩ : ∃ y_ : List Int, y_ = (x5_1 ++ [rd l0_1 x6_1]) := ⟨_, rfl⟩
           replace H : (spec_l02Critical.l0 k2 l1 y409 (wrap64 (x6_1 + 1)) a0_0 l0_1) = some r := by first | (rw [hy409]; with_reducible exact H) | (have H2_ := (Option.bind_some _ _).symm.trans H; rw [hy409]; with_reducible exact H2_) | (have H2_ := (Option.bind_some _ _).symm.trans H; with_reducible exact H2_) | with_reducible exact H | (rw [hy409]; exact H) | exact H
           have Ny409 := Aside0.mk hy409
           clear hy409
           have H' := Aside0.mk H
           clear H
           have hcz20_0 : wr.cell? ⟨gb400, 0, none⟩ = some (.int .i64 a0_0) := cB BK400 0
           have hcz20_1 : wr.cell? ⟨gb400, 1, none⟩ = some (.slice A0_1 l0_1.length c0_1) := cB BK400 1
           have hfz20_0 := zB BK400 0
           have hfz20_1 := zB BK400 1
           have p408 : 0 ≤ (x6_1 : Int) := of_decide_eq_true (by first | (with_reducible assumption) | assumption)
           have q408 : x6_1 < (l0_1.length : Int) := of_decide_eq_true (by first | (with_reducible assumption) | assumption)
           obtain ⟨ad408, e408, hx408_0⟩ := Kd.at_int HR0_1.out x6_1 p408 q408
           cases e408
           replace hx408_0 := cH HB hx408_0
           replace p408 := eq_true p408
           replace q408 := eq_true q408
           go_wp2_with (first | ((with_reducible refine gate_builtin (b := .append) (xs := #[.tmp 51, .tmp 57]) rfl ?_); at_builtin; refine Kd.R_append (Kd.int .i64) (w0 := w) w.heap.size rfl (.tmp 51) (.tmp 57) 22 2 (.int .i64 0) 8 rfl Try.underlying22 info2 rfl (by decide) (by omega) u5 x5_1 (rd l0_1 x6_1) [.int .i64 (rd l0_1 x6_1)] (fun _ => True) (fun _ => False) rfl rfl ?aP (fun _ hk => hk.elim) ?aF ?aO ?aB ?aS ?aL ?_; (case aP => exact rfl); (case aB => exact (pH HB)); (case aF => exact (fun _ _ => trivial)); (case aO => exact (pR HO_5)); (case aS => exact (below_size (pH HB))); (case aL => have := LMc19.out; omega); intro v410 w21 ho hb hg hat; rw [← Ny409.out] at ho; replace BK400 := Aside0.mk (blk_grown (g := gb400) (o := .cells #[.int .i64 a0_0, .slice (some ad408) l0_1.length c0_1] 28 (0, 0)) (pB BK400) hg (Kd.R_ne HO_5.out BK400.out (by decide))); replace HB := Aside0.mk (hb); have HO411 := Aside0.mk (ho); clear HO_5; clear ho hb hg hat))
           repeat (go_quiet (first | ((with_reducible refine gate_builtin (b := .append) (xs := #[.tmp 51, .tmp 57]) rfl ?_); at_builtin; refine Kd.R_append (Kd.int .i64) (w0 := w) w.heap.size rfl (.tmp 51) (.tmp 57) 22 2 (.int .i64 0) 8 rfl Try.underlying22 info2 rfl (by decide) (by omega) u5 x5_1 (rd l0_1 x6_1) [.int .i64 (rd l0_1 x6_1)] (fun _ => True) (fun _ => False) rfl rfl ?aP (fun _ hk => hk.elim) ?aF ?aO ?aB ?aS ?aL ?_; (case aP => exact rfl); (case aB => exact (pH HB)); (case aF => exact (fun _ _ => trivial)); (case aO => exact (pR HO_5)); (case aS => exact (below_size (pH HB))); (case aL => have := LMc19.out; omega); intro v410 w21 ho hb hg hat; rw [← Ny409.out] at ho; replace BK400 := Aside0.mk (blk_grown (g := gb400) (o := .cells #[.int .i64 a0_0, .slice (some ad408) l0_1.length c0_1] 28 (0, 0)) (pB BK400) hg (Kd.R_ne HO_5.out BK400.out (by decide))); replace HB := Aside0.mk (hb); have HO411 := Aside0.mk (ho); clear HO_5; clear ho hb hg hat)); try go_wp2_with (first | ((with_reducible refine gate_builtin (b := .append) (xs := #[.tmp 51, .tmp 57]) rfl ?_); at_builtin; refine Kd.R_append (Kd.int .i64) (w0 := w) w.heap.size rfl (.tmp 51) (.tmp 57) 22 2 (.int .i64 0) 8 rfl Try.underlying22 info2 rfl (by decide) (by omega) u5 x5_1 (rd l0_1 x6_1) [.int .i64 (rd l0_1 x6_1)] (fun _ => True) (fun _ => False) rfl rfl ?aP (fun _ hk => hk.elim) ?aF ?aO ?aB ?aS ?aL ?_; (case aP => exact rfl); (case aB => exact (pH HB)); (case aF => exact (fun _ _ => trivial)); (case aO => exact (pR HO_5)); (case aS => exact (below_size (pH HB))); (case aL => have := LMc19.out; omega); intro v410 w21 ho hb hg hat; rw [← Ny409.out] at ho; replace BK400 := Aside0.mk (blk_grown (g := gb400) (o := .cells #[.int .i64 a0_0, .slice (some ad408) l0_1.length c0_1] 28 (0, 0)) (pB BK400) hg (Kd.R_ne HO_5.out BK400.out (by decide))); replace HB := Aside0.mk (hb); have HO411 := Aside0.mk (ho); clear HO_5; clear ho hb hg hat)))
           go_roundg k2
           case measure => have := HK1.out; have := HK2.out; omega
           case rel => exact ⟨(y409), (wrap64 (x6_1 + 1)), (by first | rfl | (simp; done) | (simp [*]; done)), H', ⟨by have := HK1.out; have := HK2.out; omega⟩, ⟨by (with_reducible repeat (first | apply Kd.R_alloc | apply Kd.R_drewN | apply Kd.R_drew)); exact HO411.out⟩, ⟨pB BK400⟩, ⟨pH HB⟩⟩
          ·rw [if_neg c19] at H
           exact absurd H (by simp)
         ·rw [if_neg c18] at H
          exact absurd H (by simp)
        ·rw [if_neg c17] at H
         exact absurd H (by simp)
       ·replace c16 := Bool.eq_false_iff.mpr c16
        subst c16
        have H1 : (spec_l02Critical.l0 k2 l1 x5_1 (wrap64 (x6_1 + 1)) a0_0 l0_1) = some r := by rw [if_neg (show ¬ (false = true) by decide)] at H; exact H
        clear H
        have H := H1
        clear H1
        have H' := Aside0.mk H
        clear H
        go_wp2
        repeat (go_quiet (fail); try go_wp2)
        go_roundg k2
        case measure => have := HK1.out; have := HK2.out; omega
        case rel => exact ⟨(x5_1), (wrap64 (x6_1 + 1)), (by first | rfl | (simp; done) | (simp [*]; done)), H', ⟨by have := HK1.out; have := HK2.out; omega⟩, ⟨by (with_reducible repeat (first | apply Kd.R_alloc | apply Kd.R_drewN | apply Kd.R_drew)); exact HO_5.out⟩, ⟨pB BK400⟩, ⟨pH HB⟩⟩
   ·rw [if_neg c6] at H
    have c6b0 : decide (x6_1 < (l0_1.length : Int)) = false := decide_eq_false c6
    clear c6
    obtain rfl := Option.some.inj H
    have hcz22_0 : wr.cell? ⟨gb400, 0, none⟩ = some (.int .i64 a0_0) := cB BK400 0
    have hcz22_1 : wr.cell? ⟨gb400, 1, none⟩ = some (.slice A0_1 l0_1.length c0_1) := cB BK400 1
    have hfz22_0 := zB BK400 0
    have hfz22_1 := zB BK400 1
    go_wp2
    repeat (go_quiet (fail); try go_wp2)
    go_ret
    exact ⟨_, by first | rfl | (simp [errW_none, errW_some] <;> rfl) | (simp [*, errW_none, errW_some] <;> rfl) | (exfalso; simp_all), by (with_reducible repeat (first | apply Kd.R_alloc | apply Kd.R_drewN | apply Kd.R_drew)); exact HO_5.out, pH HB⟩
end Go.Proofs.Ytomdfjohnmikdaa.QS
namespace Go.Proofs.Ytomdfjohnmikdaa.Pu
set_option linter.unusedVariables false
set_option linter.unusedSimpArgs false
open Go.RowKit Go.Proofs.Ytomdfjohnmikdaa.Kp Go.Proofs.Ytomdfjohnmikdaa.Ext Go.Proofs.Ytomdfjohnmikdaa.QS Go.Proofs.Ytomdfjohnmikdaa.Im Go.Proofs.YtomdfjohnmikdaaW.PrintWords Go.Proofs.YtomdfjohnmikdaaW.PrintLast Go.Proofs.YtomdfjohnmikdaaW.PrintMore
theorem inAnd_all : ((List.range 64).all fun f => (List.range 64).all fun g => (Go.bits .andNot .i64 (f : Int) (g : Int) == 0) == decide (Go.bits .and .i64 (f : Int) (g : Int) = (f : Int))) = true := by decide +kernel
theorem inAnd {f g : Int} (h0 : 0 ≤ f) (h1 : f ≤ 63) (g0 : 0 ≤ g) (g1 : g ≤ 63) : (Go.bits .andNot .i64 f g == 0) = decide (Go.bits .and .i64 f g = f) := by
  obtain ⟨m, rfl⟩ := Int.eq_ofNat_of_zero_le h0
  obtain ⟨k, rfl⟩ := Int.eq_ofNat_of_zero_le g0
  exact eq_of_beq (List.all_eq_true.1 (List.all_eq_true.1 inAnd_all m (List.mem_range.2 (by omega))) k (List.mem_range.2 (by omega)))
theorem ev_pair {n : Int} {xs : List Int} (hi : isC n xs = true) (p : Pr) : Ev (fun k => spec_l02Pair.f k n xs p.f0 p.f1) (pairB xs p) := by
  have hs := isC_small hi
  have r := isC_63 hi
  have hm : xs.length ≤ maxLen := by unfold maxLen; omega
  unfold spec_l02Pair.f pairB
  refine Ev.bind (ev_has hm n p.f0) ?_
  by_cases h0 : p.f0 ∈ xs
  · simp only [h0, decide_true, if_true, Bool.true_and]
    refine Ev.bind (ev_has hm n p.f1) ?_
    by_cases h1 : p.f1 ∈ xs
    · have a0 := r _ h0
      have a1 := r _ h1
      simp only [h1, decide_true, if_true, Bool.true_and]
      rw [inAnd (by omega) (by omega) (by omega) (by omega)]
      by_cases h2 : Go.bits .and .i64 p.f0 p.f1 = p.f0
      · simp only [h2, if_true, decide_true, Bool.true_and]
        refine Ev.bind (ev_ones (by omega) (by omega)) ?_
        refine Ev.bind (ev_ones (by omega) (by omega)) ?_
        have hv := verts_len p.f0
        rw [w64 (x := onesZ p.f0 + 1) (by unfold onesZ; omega) (by unfold onesZ; omega)]
        exact Ev.now _
      · simp only [h2, if_false, decide_false, Bool.false_and]
        exact Ev.now _
    · simp only [h1, decide_false, Bool.false_eq_true, if_false, Bool.false_and]
      exact Ev.now _
  · simp only [h0, decide_false, Bool.false_eq_true, if_false, Bool.false_and]
    exact Ev.now _
theorem less_f (p q : Pr) : spec_l02Less.f p.f0 p.f1 q.f0 q.f1 = some (decide (cmpP p q < 0)) := by
  unfold spec_l02Less.f cmpP cmpI
  by_cases h1 : p.f0 < q.f0
  · rw [if_pos h1]; simp [h1]
  · rw [if_neg h1]
    by_cases h2 : p.f0 = q.f0
    · rw [if_pos h2]
      by_cases h3 : p.f1 < q.f1
      · simp [h2, h3]
      · by_cases h4 : p.f1 > q.f1
        · simp [h2, h3, h4]
        · simp [h2, h3, h4]
    · rw [if_neg h2]
      have : p.f0 > q.f0 := by omega
      simp [h1, this]
theorem is2_l1 (n : Int) (xs : List Int) (l : List Pr) (hl : l.length ≤ 1048576) {i : Nat} (hi : i < l.length) (R : Bool) (hR : Ev (fun k => spec_l02Is.l0 k l ((i + 1 : Nat) : Int) n xs) R) :
    ∀ d (j : Nat), i - j = d → j ≤ i → Ev (fun k => spec_l02Is.l1 k l i j n xs) (!(((l.take i).drop j).any fun q => hasF l[i].f0 q || hasF l[i].f1 q) && R) := by
  intro d
  induction d with
  | zero =>
    intro j hd hj
    rw [List.drop_eq_nil_of_le (by rw [List.length_take]; omega)]
    refine Ev.step (f := fun k => spec_l02Is.l0 k l ((i + 1 : Nat) : Int) n xs) (fun k => ?_) (by simpa using hR)
    simp only [spec_l02Is.l1]; rw [if_neg (by omega), succ64 (by omega)]
  | succ d ih =>
    intro j hd hj
    have hj' : j < l.length := by omega
    have hjt : j < (l.take i).length := by rw [List.length_take]; omega
    rw [List.drop_eq_getElem_cons hjt, List.any_cons, List.getElem_take]
    cases hq : (hasF l[i].f0 l[j] || hasF l[i].f1 l[j]) with
    | true =>
      refine Ev.step (f := fun k => some false) (fun k => ?_) (by simpa using Ev.now false)
      simp only [spec_l02Is.l1]
      rw [if_pos (by omega), if_pos (by omega), if_pos (by omega), if_pos (by omega), if_pos (by omega), rdP_at hi, rdP_at hj']
      simp only [hasF, Bool.or_eq_true, beq_iff_eq] at hq
      by_cases h1 : l[i].f0 = l[j].f0
      · rw [if_pos h1]
      · rw [if_neg h1]
        by_cases h2 : l[i].f0 = l[j].f1
        · rw [if_pos h2]
        · rw [if_neg h2]
          by_cases h3 : l[i].f1 = l[j].f0
          · rw [if_pos h3]
          · rw [if_neg h3, if_pos (by simpa [h1, h2, h3] using hq)]
    | false =>
      refine Ev.step (f := fun k => spec_l02Is.l1 k l i ((j + 1 : Nat) : Int) n xs) (fun k => ?_) (by have := ih (j + 1) (by omega) (by omega); simpa using this)
      simp only [spec_l02Is.l1]
      rw [if_pos (by omega), if_pos (by omega), if_pos (by omega), if_pos (by omega), if_pos (by omega), rdP_at hi, rdP_at hj', succ64 (by omega)]
      simp only [hasF, Bool.or_eq_false_iff, beq_eq_false_iff_ne] at hq
      rw [if_neg hq.1.1, if_neg hq.1.2, if_neg hq.2.1, if_neg hq.2.2]
theorem any_or {α : Type} (p q : α → Bool) (l : List α) : (l.any fun x => p x || q x) = (l.any p || l.any q) := by
  induction l with
  | nil => rfl
  | cons a l ih => simp only [List.any_cons, ih]; cases p a <;> cases q a <;> cases l.any p <;> rfl
theorem is2_loop {n : Int} {xs : List Int} (hi : isC n xs = true) {l : List Pr} (hl : l.length ≤ 1048576) : ∀ d (i : Nat), l.length - i = d → i ≤ l.length → Ev (fun k => spec_l02Is.l0 k l i n xs) ((List.range' i d).all (okPairAt xs l)) := by
  intro d
  induction d with
  | zero =>
    intro i hd hi'
    refine Ev.step (f := fun k => some true) (fun k => ?_) (Ev.now _)
    simp only [spec_l02Is.l0]; rw [if_neg (by omega)]
  | succ d ih =>
    intro i hd hi'
    have hlt : i < l.length := by omega
    have hR := ih (i + 1) (by omega) (by omega)
    have hgd : l.getD i z73 = l[i] := by rw [List.getD_eq_getElem?_getD, List.getElem?_eq_getElem hlt]; rfl
    rw [List.range'_succ, List.all_cons]
    have hj0 := is2_l1 n xs l hl hlt _ hR _ 0 rfl (Nat.zero_le _)
    rw [List.drop_zero, any_or] at hj0
    have hno : Ev (fun k => spec_l02Is.j1 k l i true n xs) false := Ev.step (f := fun k => some false) (fun k => by simp only [spec_l02Is.j1, if_true]) (Ev.now _)
    have hyes : Ev (fun k => spec_l02Is.j1 k l i false n xs) (!((l.take i).any (hasF l[i].f0) || (l.take i).any (hasF l[i].f1)) && (List.range' (i + 1) d).all (okPairAt xs l)) := Ev.step (f := fun k => spec_l02Is.l1 k l i ((0 : Nat) : Int) n xs) (fun k => by simp only [spec_l02Is.j1, Bool.false_eq_true, if_false]; rfl) hj0
    have hrd : rd_T73 l (i : Int) = l[i] := rdP_at hlt
    refine Ev.step (f := fun k => (spec_l02Pair.f k n xs l[i].f0 l[i].f1).bind fun t => (if t = true then (if (i : Int) > 0 then (if 0 ≤ (wrap64 ((i : Int) - 1)) then (if (wrap64 ((i : Int) - 1)) < (l.length : Int) then ((spec_l02Less.f ((rd_T73 l (wrap64 ((i : Int) - 1))).f0) ((rd_T73 l (wrap64 ((i : Int) - 1))).f1) l[i].f0 l[i].f1).bind fun t577 => (spec_l02Is.j1 k l i (!t577) n xs)) else (none)) else (none)) else (spec_l02Is.j1 k l i false n xs)) else (spec_l02Is.j1 k l i true n xs))) (fun k => ?_) (Ev.bind (ev_pair hi l[i]) ?_)
    · simp only [spec_l02Is.l0]
      rw [if_pos (by omega), if_pos (by omega), hrd]
    · clear hj0 hR ih
      generalize (List.range' (i + 1) d).all (okPairAt xs l) = G at hyes ⊢
      unfold okPairAt
      rw [hgd]
      cases hp : pairB xs l[i] with
      | false => simp only [Bool.false_eq_true, if_false, Bool.false_and]; exact hno
      | true =>
        simp only [if_true, Bool.true_and]
        rcases i with _ | m
        · simp only [show ¬ (((0 : Nat) : Int) > 0) by omega, if_false]
          simpa using hyes
        · have hm : m < l.length := by omega
          have hw : wrap64 (((m + 1 : Nat) : Int) - 1) = (m : Int) := by rw [w64 (by omega) (by omega)]; omega
          have hgm : l.getD m z73 = l[m] := by rw [List.getD_eq_getElem?_getD, List.getElem?_eq_getElem hm]; rfl
          simp only [show (((m + 1 : Nat) : Int) > 0) by omega, if_true, hw, show (0 : Int) ≤ (m : Int) by omega, show (m : Int) < (l.length : Int) by omega, rdP_at hm, less_f, Option.bind_some, Nat.add_sub_cancel, hgm]
          by_cases hc : cmpP l[m] l[m + 1] < 0
          · simp only [hc, decide_true, Bool.not_true]
            simpa [Bool.and_assoc] using hyes
          · simp only [hc, decide_false, Bool.not_false]
            simpa using hno
theorem ev_is2 {n : Int} {xs : List Int} (hi : isC n xs = true) {l : List Pr} (hl : l.length ≤ 1048576) : Ev (fun k => spec_l02Is.f k n xs l) (pairingB xs l) := by
  unfold spec_l02Is.f pairingB
  rw [List.range_eq_range']
  exact is2_loop hi hl _ 0 rfl (Nat.zero_le _)
theorem cmpP_mem {n : Int} {xs : List Int} {l : List Pr} (h : pairingB xs l = true) : ∀ q ∈ l, q.f0 ∈ xs ∧ q.f1 ∈ xs := by
  intro q hq
  obtain ⟨i, hi, rfl⟩ := List.mem_iff_getElem.1 hq
  have h1 := List.all_eq_true.1 h i (List.mem_range.2 hi)
  unfold okPairAt at h1
  rw [show l.getD i z73 = l[i] by rw [List.getD_eq_getElem?_getD, List.getElem?_eq_getElem hi]; rfl] at h1
  have h2 := (Bool.and_eq_true _ _ ▸ h1).1
  unfold pairB at h2
  simp only [Bool.and_eq_true, decide_eq_true_eq] at h2
  exact ⟨h2.1, h2.2.1⟩
theorem facesP_of {n : Int} {xs : List Int} (hi : isC n xs = true) {l : List Pr} (h : pairingB xs l = true) : FacesP l := fun q hq => by
  have h1 := cmpP_mem (n := n) h q hq
  have r := isC_63 hi
  exact ⟨r _ h1.1, r _ h1.2⟩
def critP (l : List Pr) (f : Int) : Bool := !l.any fun p => p.f0 == f || p.f1 == f
def critL (xs : List Int) (l : List Pr) : List Int := xs.filter (critP l)
theorem crit_l1 (n : Int) (xs : List Int) (l : List Pr) (hl : l.length ≤ 1048576) (hx : xs.length ≤ 1048576) {i : Nat} (hi : i < xs.length) (acc : List Int) (ha : acc.length ≤ i) (R : List Int)
    (h1 : Ev (fun k => spec_l02Critical.l0 k l (acc ++ [xs[i]]) ((i + 1 : Nat) : Int) n xs) R ∧ critP l xs[i] = true ∨ Ev (fun k => spec_l02Critical.l0 k l acc ((i + 1 : Nat) : Int) n xs) R ∧ critP l xs[i] = false) :
    ∀ d (j : Nat) (b : Bool), l.length - j = d → j ≤ l.length → (b && critP (l.drop j) xs[i]) = critP l xs[i] → Ev (fun k => spec_l02Critical.l1 k l acc i b j n xs) R := by
  intro d
  induction d with
  | zero =>
    intro j b hd hj hb
    rw [List.drop_eq_nil_of_le (by omega)] at hb
    simp only [critP, List.any_nil, Bool.not_false, Bool.and_true] at hb
    rcases h1 with ⟨h1, h2⟩ | ⟨h1, h2⟩
    · have hbt : b = true := by rw [hb]; exact h2
      subst hbt
      refine Ev.step (fun k => ?_) h1
      simp only [spec_l02Critical.l1]
      rw [if_neg (by omega), if_pos trivial, if_pos (by omega), if_pos (by omega), if_pos (by omega), rd_at hi, succ64 (by omega)]
    · have hbf : b = false := by rw [hb]; exact h2
      subst hbf
      refine Ev.step (fun k => ?_) h1
      simp only [spec_l02Critical.l1]
      rw [if_neg (by omega), if_neg (by simp), succ64 (by omega)]
  | succ d ih =>
    intro j b hd hj hb
    have hj' : j < l.length := by omega
    rw [List.drop_eq_getElem_cons hj'] at hb
    simp only [critP, List.any_cons, Bool.not_or] at hb
    cases b with
    | false =>
      refine Ev.step (fun k => ?_) (ih (j + 1) false (by omega) (by omega) (by simpa [critP] using hb))
      simp only [spec_l02Critical.l1]
      rw [if_pos (by omega), if_neg (by simp), succ64 (by omega)]
    | true =>
      by_cases h : l[j].f0 = xs[i]
      · refine Ev.step (fun k => ?_) (ih (j + 1) false (by omega) (by omega) (by simpa [critP, h] using hb))
        simp only [spec_l02Critical.l1]
        rw [if_pos (by omega), if_pos trivial, if_pos (by omega), if_pos (by omega), if_pos (by omega), rdP_at hj', rd_at hi, if_pos h, succ64 (by omega)]
      · refine Ev.step (fun k => ?_) (ih (j + 1) (l[j].f1 != xs[i]) (by omega) (by omega) (by simpa [critP, beq_eq_false_iff_ne.2 h, bne] using hb))
        simp only [spec_l02Critical.l1]
        rw [if_pos (by omega), if_pos trivial, if_pos (by omega), if_pos (by omega), if_pos (by omega), rdP_at hj', rd_at hi, if_neg h, succ64 (by omega)]
theorem crit_l0 (n : Int) (xs : List Int) (l : List Pr) (hl : l.length ≤ 1048576) (hx : xs.length ≤ 1048576) : ∀ d (i : Nat) (acc : List Int), xs.length - i = d → i ≤ xs.length → acc.length ≤ i → Ev (fun k => spec_l02Critical.l0 k l acc i n xs) (acc ++ (xs.drop i).filter (critP l)) := by
  intro d
  induction d with
  | zero =>
    intro i acc hd hi ha
    rw [List.drop_eq_nil_of_le (by omega)]
    refine Ev.step (f := fun _ => some acc) (fun k => ?_) (by simpa using Ev.now acc)
    simp only [spec_l02Critical.l0]; rw [if_neg (by omega)]
  | succ d ih =>
    intro i acc hd hi ha
    have hi' : i < xs.length := by omega
    rw [List.drop_eq_getElem_cons hi', List.filter_cons]
    refine Ev.step (f := fun k => spec_l02Critical.l1 k l acc i true ((0 : Nat) : Int) n xs) (fun k => ?_) (crit_l1 n xs l hl hx hi' acc ha _ ?_ _ 0 true rfl (Nat.zero_le _) (by simp))
    · simp only [spec_l02Critical.l0]; rw [if_pos (by omega)]; rfl
    · cases hc : critP l xs[i] with
      | true => exact .inl ⟨by have := ih (i + 1) (acc ++ [xs[i]]) (by omega) (by omega) (by simp; omega); simpa using this, rfl⟩
      | false => exact .inr ⟨by have := ih (i + 1) acc (by omega) (by omega) (by omega); simpa using this, rfl⟩
theorem ev_crit (n : Int) {xs : List Int} (hx : xs.length ≤ 1048576) {l : List Pr} (hl : l.length ≤ 1048576) : Ev (fun k => spec_l02Critical.f k n xs l) (critL xs l) := by
  unfold spec_l02Critical.f critL
  have := crit_l0 n xs l hl hx _ 0 [] rfl (Nat.zero_le _) (by simp)
  simpa using this
end Go.Proofs.Ytomdfjohnmikdaa.Pu
namespace Go.Proofs.Ytomdfjohnmikdaa.Im
set_option linter.unusedVariables false
set_option linter.unusedSimpArgs false
open Go.RowKit Go.Shelf Go.Proofs.Ytomdfjohnmikdaa.Kp Go.Proofs.Ytomdfjohnmikdaa.Ext Go.Proofs.Ytomdfjohnmikdaa.Cw Go.Proofs.YtomdfjohnmikdaaW.PrintWords Go.Proofs.YtomdfjohnmikdaaW.PrintLast Go.Proofs.YtomdfjohnmikdaaW.PrintMore
section
variable {P : Program} {ops : Array Oper} {Q : Exit → Act → World → Prop} {a : Act} {w : World} {oi : Oper}
/-- A call of a function value that is a constant, in a region that draws. -/
theorem caV_ {N : Option Tmp} {K : Act → World → Prop} {f : FuncId} {fn : Func} {k : Operand} {az : Array Operand} {ts : Array TypeId} (hf : P.funcs[f]? = some fn) (args : Array Value)
    (h : Calls P f args w fun e w' => ∃ v, e = .returned v ∧ K (a.put N v) w') (hname : (fn.name == "runtime.NumGoroutine") = false := by kernel_rfl) (hb : fn.body.isSome = true := by rfl)
    (hw : Region.wanted oi (yielded ops a.tmps) = true := by rfl) (hN : oi.dst = N := by rfl) (hop : oi.op = .call { callee := .value k, args := az, argTypes := ts } := by rfl)
    (hev : a.eval k = .func (.func f) #[] #[] := by rfl)
    (hargs : az.map a.eval = args := by ((try simp only [List.map_toArray, List.map_cons, List.map_nil]); first | done | rfl | (simp only [List.length_drop, List.length_take]; rfl))) : if Region.wanted oi (yielded ops a.tmps) = true then Oper.wp P oi a w K Q else K (a.put N undef) w := by
  refine call_ f args hw hN ?_ h
  have he := enters_ hf hname hb args w
  unfold execOp
  simp [hop, resolve, Deferred.ofValue, invoke, hev, hargs, he]
end
section
variable {P : Program} {ops : Array Oper} {Q : Exit → Act → World → Prop} {S : World → Prop} {ds : List Nat} {md : Region.Mode} {T : Bool × List (List Nat × List Nat)} {n m fuel : Nat} {a : Act} {w : World} {oi oj : Oper}
/-- Two that may come up, in either order. -/
theorem tw_ (i j : Nat) (Ni Nj : Option Tmp) (mi mj : Nat) (hT : Aside0 (rtab md ops = T))
    (h1 : ∀ K : Act → World → Prop, Shut (∀ a' w', S w' → (S w' → wpAnyLast P md ops Q S ds fuel (mB n mi) a' w') → K a' w') → if Region.wanted oi (yielded ops a.tmps) = true then Oper.wp P oi a w K Q else K (a.put Ni undef) w)
    (h2 : ∀ K : Act → World → Prop, Shut (∀ a' w', S w' → (S w' → wpAnyLast P md ops Q S ds fuel (mB n mj) a' w') → K a' w') → if Region.wanted oj (yielded ops a.tmps) = true then Oper.wp P oj a w K Q else K (a.put Nj undef) w)
    (hi : ops[i]? = some oi := by rfl) (hj : ops[j]? = some oj := by rfl) (hNi : oi.dst = Ni := by rfl) (hNj : oj.dst = Nj := by rfl)
    (hc : (readyT T.2 (mB n m).toList == [i, j] && (mB n m).toList.set i true == (mB n mi).toList && (mB n m).toList.set j true == (mB n mj).toList) = true := by kernel_rfl) (hdi : i ∉ ds := by decide) (hdj : j ∉ ds := by decide) :
    wpAnyLast P md ops Q S ds (fuel + 1) (mB n m) a w := two_ (mB n mi) (mB n mj) hi hj hNi hNj (two_of hT.out hc) hdi hdj h1 h2
end
def CellsQ (w : World) (ad : Addr) (m : Nat) (q : Pr) : Prop := w.cell? (ad.add (m * 2)) = some (.int .i64 q.f0) ∧ w.cell? ⟨(ad.add (m * 2)).block, (ad.add (m * 2)).off + 1, none⟩ = some (.int .i64 q.f1)
theorem cellsQ_below {w w1 : World} {ad : Addr} {m : Nat} {q : Pr} (h : CellsQ w ad m q) (hb : Below w.heap.size w w1) : CellsQ w1 ad m q := ⟨pw_cell_below hb h.1, pw_cell_below hb h.2⟩
/-- A list in which those ahead of a pair come first, up to the place 'm'. -/
def CutAt (xs : List Pr) (p : Pr) (m : Nat) : Prop := m ≤ xs.length ∧ ∀ j, j < xs.length → (cmpP (xs.getD j z73) p < 0 ↔ j < m)
def SrPost (m : Nat) (w : World) (e : Ending) (w' : World) : Prop := ∃ b : Bool, e = .returned (.tuple #[.int .i64 m, .bool b]) ∧ Below w.heap.size w w'
set_option maxRecDepth 100000 in
set_option maxHeartbeats 1000000 in
theorem searchP_c (A : Option Addr) (c : Nat) (xs : List Pr) (p : Pr) (m : Nat) (w : World) (hr : Kd.C k73 w A xs.length xs) (hl : xs.length ≤ 1099511627776) (hm : CutAt xs p m) :
    Calls Try.prog 115 #[.slice A xs.length c, .agg #[.int .i64 p.f0, .int .i64 p.f1], .func (.func 116) #[] #[]] w (SrPost m w) := by
  have HP := Aside0.mk (PrAt.new w p.f0 p.f1)
  have HB0 := Aside0.mk (below_alloc (Below.refl w.heap.size w) (.cells #[.int .i64 p.f0, .int .i64 p.f1] 73))
  have HR := Aside0.mk hr
  have HM := Aside0.mk hm
  clear hr hm
  go_enter Try.func115, Try.ntmps115
  go_wp2
  go_loopw [9, 10] (fun s9 s10 wr => ∃ i j : Nat, i ≤ m ∧ m ≤ j ∧ j ≤ xs.length ∧ s9 = .int .i64 i ∧ s10 = .int .i64 j ∧ Aside0 (Below w.heap.size w wr) ∧ Aside0 (PrAt wr w.heap.size p.f0 p.f1)) (fun s9 s10 _ => (intOf s10 - intOf s9).toNat)
  case atStart => exact ⟨0, xs.length, by omega, HM.out.1, by omega, rfl, rfl, HB0, HP⟩
  case round =>
    clear HP HB0
    obtain ⟨i, j, him, hmj, hjn, rfl, rfl, HB, HP⟩ := hrel
    by_cases hlt : i < j
    · have hltz : (i : Int) < (j : Int) := by omega
      obtain ⟨h, hh⟩ : ∃ h : Nat, (i + j) / 2 = h := ⟨_, rfl⟩
      have hhn : h < xs.length := by omega
      have hd : ((i : Int) + (j : Int)) / 2 = (h : Int) := by omega
      obtain ⟨ad, rfl, hp0, hp1⟩ := pair_at (Kd.C_below HR.out HB.out) h hhn
      have hcut := HM.out.2 h hhn
      generalize xs.getD h z73 = q at hp0 hp1 hcut
      have HW : Aside0 (CellsQ wr ad h q) := ⟨⟨hp0, hp1⟩⟩
      have HCUT := Aside0.mk hcut
      have HH := Aside0.mk hh
      clear hcut hh hp0 hp1
      go_wp2
      have HPd := Aside0.mk HP.out.drew; have HBd := Aside0.mk HB.out.drew; have HWd : Aside0 (CellsQ wr.drew ad h q) := ⟨HW.out⟩; clear HP HB HW; have HP := HPd; have HB := HBd; have HW := HWd; clear HPd HBd HWd
      refine st_ 8 (S := fun w' => w'.cell? ⟨w.heap.size, 0, none⟩ = some (.int .i64 p.f0) ∧ w'.cell? ⟨w.heap.size, 1, none⟩ = some (.int .i64 p.f1) ∧ w'.cell? (ad.add (h * 2)) = some (.int .i64 q.f0) ∧ w'.cell? ⟨(ad.add (h * 2)).block, (ad.add (h * 2)).off + 1, none⟩ = some (.int .i64 q.f1)) (ds := []) ⟨HP.out.c0, HP.out.c1, HW.out.1, HW.out.2⟩ (fun hHeld => ?_)
      refine with_tabW (T := (true, [([], []), ([], []), ([], []), ([1, 2], [1, 2]), ([3], [3]), ([], []), ([0, 4, 5], [0, 4, 5]), ([6], [6])])) (B := [0, 0, 0, 6, 14, 0, 63, 127]) (by kernel_rfl) (by kernel_rfl) (fun HT_ HW_ => ?_)
      refine pd_ 0 24 1 HT_ ?_
      refine pd_ 1 25 3 HT_ ?_
      refine pd_ 2 26 7 HT_ ?_
      refine pd_ 3 27 15 HT_ ?_
      refine tk_ 4 28 31 HT_ HW_ hHeld ?_
      refine tk_ 5 29 63 HT_ HW_ hHeld ?_
      refine on_ 6 (some 30) 127 HT_ (fun K hK => ?_)
      refine caV_ Try.func116 #[.agg #[.int .i64 q.f0, .int .i64 q.f1], .agg #[.int .i64 p.f0, .int .i64 p.f1]] ?_
      refine (comparePairs_c q p _).mono ?_; rintro e w1 ⟨rfl, hb⟩; have HP1 := Aside0.mk (HP.out.below hb); have HB1 := Aside0.mk (below_in HB.out hb); have HW1 := Aside0.mk (cellsQ_below HW.out hb); clear HP HB HW; have HP := HP1; have HB := HB1; have HW := HW1; clear HP1 HB1 HW1; generalize cmpP q p = cp at HCUT
      refine ⟨_, rfl, ?_⟩
      refine hK.out _ _ ⟨HP.out.c0, HP.out.c1, HW.out.1, HW.out.2⟩ (fun hHeld => ?_)
      clear hK K
      refine nm_ ?_
      refine pd_ 7 31 255 HT_ ?_
      refine dn_ HT_ ?_
      by_cases hcp : cp < 0
      · go_wp2
        go_roundw
        case measure => simp [intOf]; omega
        case rel => exact ⟨h + 1, j, by have := HCUT.out.1 hcp; omega, hmj, hjn, by go_num, rfl, HB, HP⟩
      · go_wp2
        go_roundw
        case measure => have := HH.out; simp [intOf]; omega
        case rel => exact ⟨i, h, him, by have := mt HCUT.out.2 hcp; omega, by omega, rfl, rfl, HB, HP⟩
    · obtain rfl : i = m := by omega
      obtain rfl : i = j := by omega
      have hltz : ¬ (i : Int) < (i : Int) := by omega
      by_cases hin : i < xs.length
      · have hinz : (i : Int) < (xs.length : Int) := by omega
        obtain ⟨ad, rfl, hp0, hp1⟩ := pair_at (Kd.C_below HR.out HB.out) i hin
        generalize xs.getD i z73 = q at hp0 hp1
        have HW : Aside0 (CellsQ wr ad i q) := ⟨⟨hp0, hp1⟩⟩
        clear hp0 hp1
        go_wp2
        have HPd := Aside0.mk HP.out.drew; have HBd := Aside0.mk HB.out.drew; have HWd : Aside0 (CellsQ wr.drew ad i q) := ⟨HW.out⟩; clear HP HB HW; have HP := HPd; have HB := HBd; have HW := HWd; clear HPd HBd HWd
        refine st_ 16 (S := fun w' => w'.cell? ⟨w.heap.size, 0, none⟩ = some (.int .i64 p.f0) ∧ w'.cell? ⟨w.heap.size, 1, none⟩ = some (.int .i64 p.f1) ∧ w'.cell? (ad.add (i * 2)) = some (.int .i64 q.f0) ∧ w'.cell? ⟨(ad.add (i * 2)).block, (ad.add (i * 2)).off + 1, none⟩ = some (.int .i64 q.f1)) (ds := []) ⟨HP.out.c0, HP.out.c1, HW.out.1, HW.out.2⟩ (fun hHeld => ?_)
        refine with_tabW (T := (true, [([], []), ([], []), ([], []), ([1, 2], [1, 2]), ([3], [3]), ([4], [4]), ([4], [4]), ([4], [4]), ([6, 7, 4], [4, 6, 7]), ([8, 4], [4, 8]), ([4], [4]), ([5, 9, 10, 4, 4], [4, 5, 9, 10]), ([11, 4], [4, 11]), ([4, 12], [4, 12]), ([0, 11, 0], [0]), ([13, 14, 0, 1, 2, 3, 4, 5, 6, 7, 8, 9, 10, 11, 12, 13, 14], [13])])) (B := [0, 0, 0, 6, 14, 30, 30, 30, 222, 478, 30, 2046, 4094, 8190, 4095, 32767]) (by kernel_rfl) (by kernel_rfl) (fun HT_ HW_ => ?_)
        refine pd_ 0 35 1 HT_ ?_
        refine pd_ 1 36 3 HT_ ?_
        refine pd_ 2 37 7 HT_ ?_
        refine pd_ 3 38 15 HT_ ?_
        refine pd_ 4 39 31 HT_ ?_
        refine pd_ 5 40 63 HT_ ?_
        refine pd_ 6 41 127 HT_ ?_
        refine pd_ 7 42 255 HT_ ?_
        refine pd_ 8 43 511 HT_ ?_
        refine tk_ 9 44 1023 HT_ HW_ hHeld ?_
        refine tk_ 10 45 2047 HT_ HW_ hHeld ?_
        refine on_ 11 (some 46) 4095 HT_ (fun K hK => ?_)
        refine caV_ Try.func116 #[.agg #[.int .i64 q.f0, .int .i64 q.f1], .agg #[.int .i64 p.f0, .int .i64 p.f1]] ?_
        refine (comparePairs_c q p _).mono ?_; rintro e w1 ⟨rfl, hb⟩; have HP1 := Aside0.mk (HP.out.below hb); have HB1 := Aside0.mk (below_in HB.out hb); have HW1 := Aside0.mk (cellsQ_below HW.out hb); clear HP HB HW; have HP := HP1; have HB := HB1; have HW := HW1; clear HP1 HB1 HW1; generalize cmpP q p = cp
        refine ⟨_, rfl, ?_⟩
        refine hK.out _ _ ⟨HP.out.c0, HP.out.c1, HW.out.1, HW.out.2⟩ (fun hHeld => ?_)
        clear hK K
        refine nm_ ?_
        refine pd_ 12 47 8191 HT_ ?_
        refine pd_ 13 48 16383 HT_ ?_
        refine pd_ 14 6 32767 HT_ ?_
        refine pd_ 15 7 65535 HT_ ?_
        refine dn_ HT_ ?_
        go_wp2
        go_ret2
        exact ⟨_, rfl, HB.out⟩
      · have hinz : ¬ (i : Int) < (xs.length : Int) := by omega
        go_wp2
        refine st_ 16 (S := fun w' => True) (ds := []) trivial (fun hHeld => ?_)
        refine with_tabW (T := (true, [([], []), ([], []), ([], []), ([1, 2], [1, 2]), ([3], [3]), ([4], [4]), ([4], [4]), ([4], [4]), ([6, 7, 4], [4, 6, 7]), ([8, 4], [4, 8]), ([4], [4]), ([5, 9, 10, 4, 4], [4, 5, 9, 10]), ([11, 4], [4, 11]), ([4, 12], [4, 12]), ([0, 11, 0], [0]), ([13, 14, 0, 1, 2, 3, 4, 5, 6, 7, 8, 9, 10, 11, 12, 13, 14], [13])])) (B := [0, 0, 0, 6, 14, 30, 30, 30, 222, 478, 30, 2046, 4094, 8190, 4095, 32767]) (by kernel_rfl) (by kernel_rfl) (fun HT_ HW_ => ?_)
        refine pd_ 0 35 1 HT_ ?_
        refine pd_ 1 36 3 HT_ ?_
        refine pd_ 2 37 7 HT_ ?_
        refine pd_ 3 38 15 HT_ ?_
        refine pd_ 4 39 31 HT_ ?_
        refine pn_ 5 40 63 HT_ ?_
        refine pn_ 6 41 127 HT_ ?_
        refine pn_ 7 42 255 HT_ ?_
        refine pn_ 8 43 511 HT_ ?_
        refine pn_ 9 44 1023 HT_ ?_
        refine pn_ 10 45 2047 HT_ ?_
        refine pn_ 11 46 4095 HT_ ?_
        refine pn_ 12 47 8191 HT_ ?_
        refine pd_ 13 48 16383 HT_ ?_
        refine pd_ 14 6 32767 HT_ ?_
        refine pd_ 15 7 65535 HT_ ?_
        refine dn_ HT_ ?_
        go_wp2
        go_ret2
        exact ⟨_, rfl, HB.out.drew⟩
end Go.Proofs.Ytomdfjohnmikdaa.Im
namespace Go.Proofs.Ytomdfjohnmikdaa.Im
set_option linter.unusedVariables false
set_option linter.unusedSimpArgs false
open Go.RowKit Go.Shelf Go.Proofs.Ytomdfjohnmikdaa.Kp Go.Proofs.Ytomdfjohnmikdaa.Ext Go.Proofs.Ytomdfjohnmikdaa.Cw Go.Proofs.YtomdfjohnmikdaaW.PrintWords Go.Proofs.YtomdfjohnmikdaaW.PrintLast Go.Proofs.YtomdfjohnmikdaaW.PrintMore
section
variable {P : Program}
theorem run_copy_n (w : World) (dT sT ty elem : TypeId) (sz g o dLen dCap : Nat) (a : Addr) (sLen sCap : Nat) (cur : List Value) (t : TypeId) (cs : List Value)
    (hu : P.underlying dT = some (.slice elem)) (hs : (P.info? elem).map (·.size) = some sz)
    (hg : w.heap[g]? = some (.cells cur.toArray t (0, 0))) (hn : cs.length = Nat.min sLen dLen * sz)
    (hsrc : ∀ j v, cs[j]? = some v → w.cell? (a.add j) = some v) (hfit : o + cs.length ≤ cur.length) (h1 : ∀ v ∈ cs, v.oneCell' = true) :
    (Builtin.copy_ #[dT, sT] ty #[.slice (some ⟨g, o, none⟩) dLen dCap, .slice (some a) sLen sCap]).run P w =
      .ok (goInt (Nat.min sLen dLen)) (w.setRow g (splice cur o cs).toArray) := by
  have hl := run_loadCells_list (P := P) w a cs hsrc
  have hst := run_storeCells_at P g o t cs 0 cur.toArray w hg (by simpa using hfit) h1
  cases hq : P.info? elem with
  | none => simp [hq] at hs
  | some i =>
    have hi : i.size = sz := by simpa [hq] using hs
    simp [Builtin.copy_, run_underlying hu, Builtin.lenOf, Builtin.firstCells, sizeOf, typeInfo, hq, hi, ← hn, hl, hst, splice]
variable {ops : Array Oper} {rest : List Oper} {o : Oper} {a : Act} {w : World} {Q : Exit → Act → World → Prop} {K : Act → World → Prop} {E : Prop}
/-- As an operation of a plain region; behind 'at_builtin'. -/
theorem copyL (hgd : o.guard = none) (d s : Operand) (dT sT : TypeId) (ho : o.op = .call { callee := .builtin .copy, args := #[d, s], argTypes := #[dT, sT] })
    (elem : TypeId) (sz : Nat) (hu : P.underlying dT = some (.slice elem)) (hsz : (P.info? elem).map (·.size) = some sz)
    (g off dLen dCap : Nat) (ad : Addr) (sLen sCap : Nat) (hd : a.eval d = .slice (some ⟨g, off, none⟩) dLen dCap) (hs : a.eval s = .slice (some ad) sLen sCap)
    (cur : List Value) (t : TypeId) (hg : w.heap[g]? = some (.cells cur.toArray t (0, 0))) (cs : List Value) (hn : cs.length = Nat.min sLen dLen * sz)
    (hsrc : ∀ j v, cs[j]? = some v → w.cell? (ad.add j) = some v) (hfit : off + cs.length ≤ cur.length) (h1 : ∀ v ∈ cs, v.oneCell' = true)
    (h : wpList P ops Q rest (a.put o.dst (goInt (Nat.min sLen dLen))) (w.setRow g (splice cur off cs).toArray)) : wpList P ops Q (o :: rest) a w := by
  refine wpList_plain hgd fun K hK => ?_
  have hrun := run_copy_n (P := P) w dT sT o.type elem sz g off dLen dCap ad sLen sCap cur t cs hu hsz hg hn hsrc hfit h1
  unfold Oper.wp
  simp [execOp, ho, resolve, invoke, builtin, hd, hs, hrun, Result.andThen]
  exact hK _ _ h
/-- .. and in a region that draws. -/
theorem copyR (d s : Operand) (dT sT : TypeId) (elem : TypeId) (sz : Nat) (hu : P.underlying dT = some (.slice elem)) (hsz : (P.info? elem).map (·.size) = some sz)
    (g off dLen dCap : Nat) (ad : Addr) (sLen sCap : Nat) (hd : a.eval d = .slice (some ⟨g, off, none⟩) dLen dCap) (hs : a.eval s = .slice (some ad) sLen sCap)
    (cur : List Value) (t : TypeId) (hg : w.heap[g]? = some (.cells cur.toArray t (0, 0))) (cs : List Value) (hn : cs.length = Nat.min sLen dLen * sz)
    (hsrc : ∀ j v, cs[j]? = some v → w.cell? (ad.add j) = some v) (hfit : off + cs.length ≤ cur.length) (h1 : ∀ v ∈ cs, v.oneCell' = true)
    (h : K (a.put o.dst (goInt (Nat.min sLen dLen))) (w.setRow g (splice cur off cs).toArray))
    (hgd : o.guard = none := by rfl) (ho : o.op = .call { callee := .builtin .copy, args := #[d, s], argTypes := #[dT, sT] } := by rfl) :
    if Region.wanted o (yielded ops a.tmps) = true then Oper.wp P o a w K Q else E := by
  have hw : Region.wanted o (yielded ops a.tmps) = true := by simp [Region.wanted, hgd]
  rw [if_pos hw]
  have hrun := run_copy_n (P := P) w dT sT o.type elem sz g off dLen dCap ad sLen sCap cur t cs hu hsz hg hn hsrc hfit h1
  unfold Oper.wp
  simp [execOp, ho, resolve, invoke, builtin, hd, hs, hrun, Result.andThen]
  exact h
end
def fl : List Pr → List Value
  | [] => []
  | x :: l => .int .i64 x.f0 :: .int .i64 x.f1 :: fl l
theorem fl_len : ∀ l : List Pr, (fl l).length = l.length * 2
  | [] => rfl
  | x :: l => by simp [fl, fl_len l]; omega
theorem fl_append : ∀ l m : List Pr, fl (l ++ m) = fl l ++ fl m
  | [], m => rfl
  | x :: l, m => by simp [fl, fl_append l m]
theorem fl_one : ∀ (l : List Pr), ∀ v ∈ fl l, v.oneCell' = true
  | [], v, h => by cases h
  | x :: l, v, h => by
    simp only [fl, List.mem_cons] at h
    rcases h with rfl | rfl | h
    · rfl
    · rfl
    · exact fl_one l v h
theorem fl_take : ∀ (l : List Pr) (i : Nat), (fl l).take (i * 2) = fl (l.take i)
  | [], i => by simp [fl]
  | x :: l, 0 => by simp [fl]
  | x :: l, i + 1 => by rw [Nat.succ_mul]; simp only [fl, List.take_succ_cons, fl_take l i]
theorem fl_drop : ∀ (l : List Pr) (i : Nat), (fl l).drop (i * 2) = fl (l.drop i)
  | [], i => by simp [fl]
  | x :: l, 0 => by simp [fl]
  | x :: l, i + 1 => by rw [Nat.succ_mul]; simp only [fl, List.drop_succ_cons, fl_drop l i]
theorem reps_fl {w : World} {base : Nat} {ok : Nat → Prop} : ∀ (l : List Pr) (cs : List Value), Reps (k73.M w base ok) 2 l cs → cs = fl l
  | [], cs, h => List.eq_nil_of_length_eq_zero (by simpa using h.1)
  | x :: l, cs, h => by
    obtain ⟨hl, hr⟩ := h
    match cs, hl, hr with
    | [], hl, hr => simp at hl
    | [a], hl, hr => simp at hl; omega
    | a :: b :: cs, hl, hr =>
      have h0 := k73_openM (hr 0 x rfl)
      simp only [Nat.zero_mul, List.drop_zero, List.take_succ_cons, List.take_zero, List.cons.injEq, and_true] at h0
      obtain ⟨rfl, rfl⟩ := h0
      rw [reps_fl l cs ⟨by simp at hl ⊢; omega, fun j p hj => by
        have := hr (j + 1) p (by simpa using hj)
        rwa [Nat.succ_mul, show (Value.int .i64 x.f0 :: Value.int .i64 x.f1 :: cs).drop (j * 2 + 2) = cs.drop (j * 2) from by simp] at this⟩]
      rfl
theorem fl_reps (w : World) (base : Nat) (ok : Nat → Prop) : ∀ l : List Pr, Reps (k73.M w base ok) 2 l (fl l)
  | [] => Reps.none _ _
  | x :: l => by
    obtain ⟨hl, hr⟩ := fl_reps w base ok l
    refine ⟨by simp [fl, hl]; omega, fun j p hj => ?_⟩
    rcases j with _ | j
    · obtain rfl : x = p := by simpa using hj
      exact k73_mkM w base ok x
    · have := hr j p (by simpa using hj)
      rw [Nat.succ_mul, show (fl (x :: l)).drop (j * 2 + 2) = (fl l).drop (j * 2) from by simp [fl]]
      exact this
/-- A row of pairs of one's own. -/
abbrev PO (w : World) (base : Nat) (v : Value) (xs : List Pr) : Prop := Kd.R k73 73 w base (fun _ => True) v xs
theorem PO.open {w : World} {base : Nat} {v : Value} {xs : List Pr} (h : PO w base v xs) : (v = .slice none 0 0 ∧ xs = []) ∨ ∃ g cap cur, v = .slice (some ⟨g, 0, none⟩) xs.length cap ∧ base ≤ g ∧ w.heap[g]? = some (.cells (List.toArray cur) 73 (0, 0)) ∧ xs.length ≤ cap ∧ cap ≤ maxLen ∧ cur.length = cap * 2 ∧ cur.take (xs.length * 2) = fl xs := by
  obtain ⟨_, inner, ⟨hl, ho⟩, hr⟩ := h
  have he := reps_fl xs inner hr
  subst he
  rcases ho with ⟨rfl, h0⟩ | ⟨g, cap, cur, rfl, hb, hg, hn, hc, hs, ht⟩
  · exact .inl ⟨rfl, List.eq_nil_of_length_eq_zero h0⟩
  · exact .inr ⟨g, cap, cur.toList, rfl, hb, by simpa using hg, hn, hc, hs, ht⟩
theorem PO.mk {w : World} {base g cap : Nat} {cur : List Value} {xs : List Pr} (hb : base ≤ g) (hg : w.heap[g]? = some (.cells cur.toArray 73 (0, 0))) (hn : xs.length ≤ cap) (hc : cap ≤ maxLen) (hs : cur.length = cap * 2) (ht : cur.take (xs.length * 2) = fl xs) :
    PO w base (.slice (some ⟨g, 0, none⟩) xs.length cap) xs :=
  ⟨fun _ _ => trivial, fl xs, ⟨fl_len xs, .inr ⟨g, cap, cur.toArray, rfl, hb, hg, hn, hc, hs, ht⟩⟩, fl_reps _ _ _ xs⟩
theorem infoP : (Try.prog.info? 73).map (fun i => (i.zero, i.size, i.bytes)) = some (some (.agg #[.int .i64 0, .int .i64 0]), 2, 16) := by kernel_rfl
theorem sizeP : (Try.prog.info? 73).map (·.size) = some 2 := by kernel_rfl
section
variable {ops : Array Oper} {rest : List Oper} {o : Oper} {a : Act} {Q : Exit → Act → World → Prop}
/-- append(v, ys...) to a row of pairs of the call's own; behind 'at_builtin'. -/
theorem apPs {w0 W : World} (base : Nat) (hgd : o.guard = none) (s x : Operand)
    (ho : o.op = .call { callee := .builtin .append, args := #[s, x], argTypes := #[38, 38] })
    (v : Value) (xs ys : List Pr) (A : Option Addr) (m c : Nat)
    (hs : a.eval s = v) (hx : a.eval x = .slice A m c) (HO : PO W base v xs) (HR : Kd.C k73 W A m ys) (HB : Below base w0 W) (hbase : base ≤ W.heap.size) (hl : xs.length + m ≤ 8796093022208)
    (h : ∀ v1 w1, PO w1 base v1 (xs ++ ys) → Below base w0 w1 → W.grownBy w1 v.ownBlock → (v1.ownBlock = v.ownBlock ∨ ∃ b, v1.ownBlock = some b ∧ W.heap.size ≤ b) → wpList Try.prog ops Q rest (a.put o.dst v1) w1) :
    wpList Try.prog ops Q (o :: rest) a W :=
  Kd.R_append_rows k73 base hgd s x 38 73 (.agg #[.int .i64 0, .int .i64 0]) 16 ho Try.underlying38 infoP rfl (by decide) (by decide) v xs ys A m c (fun _ => True) (fun _ => False) hs hx HO HR
    (fun x cs h => by rw [k73_open h]; exact k73_mkM _ _ _ _) (fun _ h => h.elim) (fun _ _ => trivial) HB hbase (by omega) h
end
theorem PO.made (w : World) (base cap : Nat) (cur : Array Value) (hb : base ≤ w.heap.size) (hm : cap ≤ maxLen) (hs : cur.size = cap * 2) : PO (w.alloc (.cells cur 73)) base (.slice (some ⟨w.heap.size, 0, none⟩) 0 cap) [] :=
  ⟨fun _ _ => trivial, [], World.ownsRow_made w cur cap hb hm hs, Reps.none _ _⟩
/-- What a call that hands back a row of pairs of its own leaves behind. -/
def POnly (base : Nat) (w : World) (r : List Pr) (e : Ending) (w' : World) : Prop := ∃ v : Value, e = .returned v ∧ PO w' base v r ∧ Below base w w'
set_option maxRecDepth 100000 in
set_option maxHeartbeats 1000000 in
theorem cloneP_c (A : Option Addr) (c : Nat) (xs : List Pr) (w : World) (hr : Kd.C k73 w A xs.length xs) (hn : xs.length ≤ 1048576) :
    Calls Try.prog 66 #[.slice A xs.length c] w (POnly w.heap.size w xs) := by
  have qnil : ∀ (w : World) (a : Option Addr) (n c n' c' : Nat), (binOp .eql 38 (.slice a n c) (.slice none n' c')).run Try.prog w = .ok (.bool a.isNone) w := fun w a n c n' c' => Lib.run_eql_slice_nil w _ _ a n c n' c' Try.underlying38
  cases A with
  | none =>
    have h0 : xs.length = 0 := by
      rcases Nat.eq_zero_or_pos xs.length with h | h
      · exact h
      · obtain ⟨ad, e, _⟩ := hr.2.2 h; cases e
    have hx : xs = [] := List.eq_nil_of_length_eq_zero h0
    subst hx
    clear hr
    go_enter Try.func66, Try.ntmps66
    go_wp2
    go_ret
    exact ⟨_, rfl, Kd.R_nil _ _ _ _ _, Below.refl _ _⟩
  | some ad =>
    have hb1 : Below w.heap.size w (w.alloc (.cells #[] 73)) := (Below.refl _ w).alloc (Nat.le_refl _) _
    have HR := Aside0.mk (Kd.C_below hr hb1)
    have HB := Aside0.mk hb1
    have HO := Aside0.mk (PO.made w w.heap.size 0 #[] (Nat.le_refl _) (Nat.zero_le _) rfl)
    clear hr hb1
    go_enter Try.func66, Try.ntmps66
    go_wp2_with (at_builtin; refine apPs w.heap.size rfl (.tmp 5) (.tmp 6) rfl _ _ _ _ _ _ rfl rfl HO.out HR.out HB.out HB.out.size (by simp; omega) ?_; intro v1 w1 ho hb hg hat; clear hat hg; have H1 := Aside0.mk ho; have HB1 := Aside0.mk hb; clear ho hb)
    go_ret
    exact ⟨_, rfl, H1.out, HB1.out⟩
theorem take_splice {L D : List Value} {a : Nat} (h : a ≤ L.length) : (splice L a D).take (a + D.length) = L.take a ++ D := by
  unfold splice
  rw [← List.append_assoc, List.take_append_of_le_length (by simp; omega), List.take_of_length_le (by simp; omega)]
theorem take_splice_lo {L D : List Value} {a b : Nat} (h : a ≤ L.length) (hb : b ≤ a) : (splice L a D).take b = L.take b := by
  unfold splice
  rw [List.take_append_of_le_length (by simp; omega), List.take_take, Nat.min_eq_left hb]
theorem drop_splice {L D : List Value} {a : Nat} (h : a ≤ L.length) : (splice L a D).drop a = D ++ L.drop (a + D.length) := by
  unfold splice
  rw [List.drop_append, List.length_take, Nat.min_eq_left h, Nat.sub_self, List.drop_zero, List.drop_of_length_le (by simp; omega)]
  simp
/-- The new row's cells, laid from the front. -/
theorem grown_cells {L P M D : List Value} {a : Nat} (hP : L.take a = P) (ha : a ≤ L.length) (hl : a + M.length + D.length ≤ L.length) :
    (splice (splice L a M) (a + M.length) D).take (a + M.length + D.length) = P ++ (M ++ D) := by
  rw [take_splice (by rw [length_splice _ _ _ (by omega)]; omega), take_splice ha, hP, List.append_assoc]
/-- The row's cells, shifted up, then the new ones laid down. -/
theorem shifted_cells {L P M D : List Value} {a : Nat} (hP : L.take a = P) (hl : a + M.length + D.length ≤ L.length) :
    (splice (splice L (a + M.length) D) a M).take (a + M.length + D.length) = P ++ (M ++ D) := by
  have h1 : a ≤ (splice L (a + M.length) D).length := by rw [length_splice _ _ _ hl]; omega
  have h2 : (splice L (a + M.length) D).drop (a + M.length) = D ++ L.drop (a + M.length + D.length) := drop_splice (by omega)
  have h3 : (splice L (a + M.length) D).take a = P := by rw [take_splice_lo (by omega) (by omega), hP]
  rw [show splice (splice L (a + M.length) D) a M = (splice L (a + M.length) D).take a ++ (M ++ (splice L (a + M.length) D).drop (a + M.length)) from rfl, h2, h3]
  have hp : P.length = a := by rw [← hP, List.length_take]; omega
  rw [← List.append_assoc, ← List.append_assoc, ← List.append_assoc, List.take_append_of_le_length (by simp; omega), List.take_of_length_le (by simp; omega)]
theorem cells_src {w : World} {g a : Nat} {L D : List Value} {t : TypeId} (hg : w.heap[g]? = some (.cells L.toArray t (0, 0))) (hD : (L.drop a).take D.length = D) : ∀ j v, D[j]? = some v → w.cell? ((⟨g, a, none⟩ : Addr).add j) = some v := by
  intro j v hj
  have hadd : (⟨g, a, none⟩ : Addr).add j = ⟨g, a + j, none⟩ := by unfold Addr.add; split <;> simp_all
  rw [hadd]
  refine (cell_of_row w g (a + j) _ _ _ hg).trans ?_
  rw [← hD, List.getElem?_take] at hj
  split at hj
  · rw [List.getElem?_drop] at hj
    simpa using hj
  · cases hj
theorem sizeOfP : ∀ w : World, (sizeOf 73).run Try.prog w = .ok 2 w := fun w => by
  obtain ⟨i0, hi0, hz0, hzs, hzb⟩ := info_parts infoP
  simp [sizeOf, typeInfo, hi0, hzs]
set_option maxRecDepth 100000 in
set_option maxHeartbeats 4000000 in
theorem insertP_c (v : Value) (xs : List Pr) (i base vb : Nat) (x y : Int) (w : World) (ho : PO w base v xs) (hi : i ≤ xs.length) (hvb : PrAt w vb x y) (hne : some vb ≠ v.ownBlock) (hb : base ≤ w.heap.size) (hn : xs.length ≤ 1048576) :
    Calls Try.prog 117 #[v, .int .i64 i, .slice (some ⟨vb, 0, none⟩) 1 1] w (POnly base w (xs.take i ++ ⟨x, y⟩ :: xs.drop i)) := by
  have hsrc1 : ∀ (w1 : World), PrAt w1 vb x y → ∀ j u, ([.int .i64 x, .int .i64 y] : List Value)[j]? = some u → w1.cell? ((⟨vb, 0, none⟩ : Addr).add j) = some u := fun w1 h1 => cells_src (w := w1) (L := [.int .i64 x, .int .i64 y]) (a := 0) h1 rfl
  by_cases hin : i = xs.length
  · subst hin
    have hr1 : Kd.C k73 w (some ⟨vb, 0, none⟩) 1 [⟨x, y⟩] := by
      refine ⟨rfl, by omega, fun _ => ⟨⟨vb, 0, none⟩, rfl, fun j p hj => ⟨fl [p], rfl, k73_mk w p, fun k u hu => ?_⟩⟩⟩
      have hj0 : j = 0 := by
        rcases j with _ | j
        · rfl
        · simp at hj
      subst hj0
      obtain rfl : (⟨x, y⟩ : Pr) = p := by simpa using hj
      simpa using hsrc1 w hvb k u hu
    have HR := Aside0.mk hr1
    have HO := Aside0.mk ho
    clear hr1 hvb hsrc1
    rw [List.take_length, List.drop_length]
    obtain ⟨A, c, rfl⟩ := Kd.R_slice ho
    clear ho
    go_enter Try.func117, Try.ntmps117
    go_wp2_with (at_builtin; refine apPs base rfl _ _ rfl _ _ _ _ _ _ rfl rfl HO.out HR.out (Below.mono (Below.refl _ _) hb) hb (by omega) ?_; intro v1 w1 ho hb hg hat; clear hat hg; have H1 := Aside0.mk ho; have HB1 := Aside0.mk hb; clear ho hb)
    all_goals (go_ret; exact ⟨_, rfl, H1.out, HB1.out⟩)
  · have hlt : i < xs.length := by omega
    rcases PO.open ho with ⟨rfl, rfl⟩ | ⟨g, cap, L, rfl, hbg, hg, hnc, hcm, hL, ht⟩
    · simp at hlt
    have hgv : g ≠ vb := fun e => hne (by rw [e]; rfl)
    have hglt : g < w.heap.size := (Array.getElem?_eq_some_iff.1 hg).1
    have hz2 : ¬ ((i : Int) = (xs.length : Int)) := by omega
    have hiz : (i : Int) < (xs.length : Int) := by omega
    have hci : ¬ (cap = i) := by omega
    have hxd : (xs.drop i).length = xs.length - i := List.length_drop
    have hD : (fl (xs.drop i)).length = (xs.length - i) * 2 := by rw [fl_len, hxd]
    have hLi : L.take (i * 2) = fl (xs.take i) := by
      rw [← fl_take, ← ht, List.take_take, Nat.min_eq_left (by omega)]
    have hLd : (L.drop (i * 2)).take (fl (xs.drop i)).length = fl (xs.drop i) := by
      rw [hD, ← fl_drop, ← ht, List.drop_take, show xs.length * 2 - i * 2 = (xs.length - i) * 2 by omega]
    have hres : (xs.take i ++ (⟨x, y⟩ : Pr) :: xs.drop i).length = xs.length + 1 := by simp; omega
    have hfl : fl (xs.take i ++ (⟨x, y⟩ : Pr) :: xs.drop i) = fl (xs.take i) ++ ([.int .i64 x, .int .i64 y] ++ fl (xs.drop i)) := by rw [fl_append]; rfl
    have hmax : xs.length + 1 ≤ maxLen := by unfold maxLen; omega
    clear ho hne
    by_cases hroom : xs.length + 1 ≤ cap
    · -- there is room: shifted up
      obtain ⟨L1, hL1⟩ : ∃ L1, L1 = splice L ((i + 1) * 2) (fl (xs.drop i)) := ⟨_, rfl⟩
      obtain ⟨L2, hL2⟩ : ∃ L2, L2 = splice L1 (i * 2) [.int .i64 x, .int .i64 y] := ⟨_, rfl⟩
      have hl1 : L1.length = cap * 2 := by rw [hL1, length_splice _ _ _ (by rw [hD]; omega), hL]
      have hl2 : L2.length = cap * 2 := by rw [hL2, length_splice _ _ _ (by simp; omega), hl1]
      have hrow : L2.take ((xs.take i ++ (⟨x, y⟩ : Pr) :: xs.drop i).length * 2) = fl (xs.take i ++ (⟨x, y⟩ : Pr) :: xs.drop i) := by
        rw [hres, hfl, hL2, hL1]
        have := shifted_cells (L := L) (M := [.int .i64 x, .int .i64 y]) (D := fl (xs.drop i)) hLi (by rw [hD]; simp; omega)
        rw [hD] at this
        rw [show (xs.length + 1) * 2 = i * 2 + [Value.int .i64 x, .int .i64 y].length + (xs.length - i) * 2 by simp; omega, show (i + 1) * 2 = i * 2 + [Value.int .i64 x, .int .i64 y].length by simp; omega]
        exact this
      have hov : ∀ lb cb, (callFunc 168 #[.slice (some ⟨vb, 0, none⟩) 1 1, .slice (some ⟨g, (i + 1) * 2, none⟩) lb cb]).run Try.prog w = .ok (.value (.bool false)) w := fun lb cb => by
        rw [run_callFunc_extern Try.func168 (by kernel_rfl) (by kernel_rfl) (by kernel_rfl) (e := Extern.SlicesOverlaps.overlaps #[38, 38] #[4]) (by kernel_rfl),
          Lib.run_overlaps_apart w 38 4 73 Try.underlying38 2 sizeOfP ⟨vb, 0, none⟩ ⟨g, (i + 1) * 2, none⟩ 1 1 lb cb (fun e => hgv e.symm) 73 73 2 (cap * 2)
            (by simp only [World.shape?]; rw [show w.heap[vb]? = _ from hvb]; rfl) (by simp only [World.shape?]; rw [hg]; simp [hL]) (by omega) (blk_frozen hvb _) (blk_frozen hvb _)]
        rfl
      have HG1 : Aside0 (w.drew.heap[g]? = some (.cells L.toArray 73 (0, 0))) := ⟨hg⟩
      have HS1 : Aside0 (∀ j u, (fl (xs.drop i))[j]? = some u → w.drew.cell? ((⟨g, i * 2, none⟩ : Addr).add j) = some u) := ⟨cells_src (w := w.drew) hg hLd⟩
      have HG2 : Aside0 ((w.drew.setRow g L1.toArray).heap[g]? = some (.cells L1.toArray 73 (0, 0))) := ⟨setRow_heap _ _ _ _ _ _ hg⟩
      have HS2 : Aside0 (∀ j u, ([.int .i64 x, .int .i64 y] : List Value)[j]? = some u → (w.drew.setRow g L1.toArray).cell? ((⟨vb, 0, none⟩ : Addr).add j) = some u) := ⟨hsrc1 _ ((setRow_other _ _ _ _ (fun e => hgv e.symm)).trans hvb)⟩
      have HG3 : Aside0 (((w.drew.setRow g L1.toArray).setRow g L2.toArray).heap[g]? = some (.cells L2.toArray 73 (0, 0))) := ⟨setRow_heap _ _ _ _ _ _ HG2.out⟩
      have HB3 : Aside0 (Below base w ((w.drew.setRow g L1.toArray).setRow g L2.toArray)) := ⟨below_setRow (below_setRow (below_drew (Below.mono (Below.refl _ _) hb)) hbg _) hbg _⟩
      have HROW := Aside0.mk hrow
      have HFIT1 : Aside0 ((i + 1) * 2 + (fl (xs.drop i)).length ≤ L.length) := ⟨by rw [hD]; omega⟩
      have HLEN1 : Aside0 ((fl (xs.drop i)).length = (xs.length - i) * 2) := ⟨hD⟩
      have HFIT2 : Aside0 (i * 2 + ([.int .i64 x, .int .i64 y] : List Value).length ≤ L1.length) := ⟨by simp; omega⟩
      have HL1 := Aside0.mk hL1
      have HL2 := Aside0.mk hL2
      have HLEN2 := Aside0.mk hl2
      have hroomz : ¬ ((cap : Int) < (xs.length : Int) + 1) := by omega
      have hw1 : IntKind.i64.wrap ((xs.length : Int) + 1) = (xs.length : Int) + 1 := by rw [IntKind.wrap_i64]; omega
      have hw2 : IntKind.i64.wrap ((i : Int) + 1) = (i : Int) + 1 := by rw [IntKind.wrap_i64]; omega
      have htn1 : ((xs.length : Int) + 1).toNat = xs.length + 1 := by omega
      have htn2 : ((i : Int) + 1).toNat = i + 1 := by omega
      have hci2 : ¬ (cap = i + 1) := by omega
      have hb3 : (i : Int) ≤ (xs.length : Int) + 1 := by omega
      clear hrow hsrc1 hl1 hl2 hL1 hL2 hLd hLi ht hL hD hfl hvb hg
      go_enter Try.func117, Try.ntmps117
      go_wp2_with (simp only [hov])
      refine st_ 9 (S := fun w' => True) (ds := []) trivial (fun hHeld => ?_)
      refine with_tabW (T := (true, [([], []), ([], []), ([], []), ([1, 2], [1, 2]), ([0, 3], [0, 3]), ([], []), ([], []), ([5, 6], [5, 6]), ([4, 7], [4, 7])])) (B := [0, 0, 0, 6, 15, 0, 0, 96, 255]) (by kernel_rfl) (by kernel_rfl) (fun HT_ HW_ => ?_)
      refine pd_ 0 69 1 HT_ ?_
      refine pd_ 1 70 3 HT_ ?_
      refine pd_ 2 71 7 HT_ ?_
      refine pd_ 3 72 15 HT_ ?_
      refine pd_ 4 73 31 HT_ ?_
      refine pd_ 5 74 63 HT_ ?_
      refine pd_ 6 75 127 HT_ ?_
      refine pd_ 7 76 255 HT_ ?_
      refine on_ 8 (some 77) 511 HT_ (fun K hK => ?_)
      (refine copyR (.tmp 73) (.tmp 76) 38 38 73 2 Try.underlying38 sizeP g ((i + 1) * 2) _ _ ⟨g, i * 2, none⟩ _ _ rfl rfl L 73 HG1.out (fl (xs.drop i)) (by rw [HLEN1.out]; simp only [Nat.min_def]; split <;> omega) HS1.out HFIT1.out (fl_one _) ?_; rw [← HL1.out])
      refine hK.out _ _ trivial (fun hHeld => ?_)
      clear hK K
      refine nm_ ?_
      refine dn_ HT_ ?_
      go_wp2_with (refine copyL rfl (.tmp 80) (.tmp 81) 38 38 rfl 73 2 Try.underlying38 sizeP g (i * 2) _ _ ⟨vb, 0, none⟩ 1 1 rfl rfl L1 73 HG2.out [.int .i64 x, .int .i64 y] (by simp only [Nat.min_def]; split <;> first | rfl | omega) HS2.out HFIT2.out (fun v hv => by simp only [List.mem_cons, List.not_mem_nil, or_false] at hv; rcases hv with rfl | rfl <;> rfl) ?_; rw [← HL2.out])
      go_ret
      exact ⟨_, rfl, by have := PO.mk hbg HG3.out (xs := xs.take i ++ (⟨x, y⟩ : Pr) :: xs.drop i) (cap := cap) (by rw [hres]; exact hroom) hcm HLEN2.out HROW.out; rwa [hres] at this, HB3.out⟩
    · -- no room: a new row
      obtain ⟨G, hG⟩ : ∃ G, G = grownCap w (xs.length + 1) cap 73 := ⟨_, rfl⟩
      have hGn : xs.length + 1 ≤ G := by rw [hG]; exact grownCap_ge w _ _ _
      have hGm : G ≤ maxLen := by rw [hG]; exact grownCap_le_maxLen w _ _ _ hmax
      obtain ⟨i0, hi0, hz0, hzs, hzb⟩ := info_parts infoP
      have hik : i + (xs.length + 1 - i) = xs.length + 1 := by omega
      have hold : (Builtin.firstCells i0.size i (.slice (some ⟨g, 0, none⟩) i cap)).run Try.prog w.drew = .ok (fl (xs.take i)).toArray w.drew := by
        rw [hzs]
        exact run_firstCells_some w.drew 2 i ⟨g, 0, none⟩ i cap (fl (xs.take i)) (by rw [fl_len]; simp; omega) (cells_src (w := w.drew) hg (by rw [fl_len, List.drop_zero, List.length_take, Nat.min_eq_left (by omega), hLi]))
      obtain ⟨L0, hL0⟩ : ∃ L0 : List Value, L0 = fl (xs.take i) ++ ((Builtin.zeroCells (Value.agg #[.int .i64 0, .int .i64 0]).cells (xs.length + 1 - i)).toList ++ (Builtin.zeroCells (Value.agg #[.int .i64 0, .int .i64 0]).cells (G - (xs.length + 1))).toList) := ⟨_, rfl⟩
      have hrz : ∀ ty, (Builtin.append_ #[38, 3] ty #[.slice (some ⟨g, 0, none⟩) i cap, .int .i64 ((xs.length : Int) + 1 - (i : Int))]).run Try.prog w =
          .ok (.slice (some ⟨w.heap.size, 0, none⟩) (xs.length + 1) G) (w.drew.alloc (.cells L0.toArray 73)) := fun ty => by
        have h := Lib.run_append_grow_zeros w 38 3 ty 73 i0 _ .i64 .i64 Try.underlying38 Try.underlying3 hi0 hz0 (some ⟨g, 0, none⟩) i cap (fl (xs.take i)) hold (xs.length + 1 - i) (by omega) (by omega) (by omega) (by omega) (by rw [hzb]; omega) (by rw [hzb, hik]; exact growslice_fits (by omega) (by omega))
        rw [hik, ← hG] at h
        have harr : (fl (xs.take i)).toArray ++ Builtin.zeroCells (Value.agg #[.int .i64 0, .int .i64 0]).cells (xs.length + 1 - i) ++ Builtin.zeroCells (Value.agg #[.int .i64 0, .int .i64 0]).cells (G - (xs.length + 1)) = L0.toArray := by
          rw [hL0]; apply Array.ext'; simp
        rw [show (xs.length : Int) + 1 - (i : Int) = ((xs.length + 1 - i : Nat) : Int) by omega, h, harr]
      have hl0 : L0.length = G * 2 := by
        rw [hL0]
        simp [Builtin.zeroCells, fl_len, Value.cells]
        omega
      have hP0 : L0.take (i * 2) = fl (xs.take i) := by
        rw [hL0, List.take_append_of_le_length (by rw [fl_len]; simp; omega), List.take_of_length_le (by rw [fl_len]; simp; omega)]
      obtain ⟨L1, hL1⟩ : ∃ L1, L1 = splice L0 (i * 2) [.int .i64 x, .int .i64 y] := ⟨_, rfl⟩
      obtain ⟨L2, hL2⟩ : ∃ L2, L2 = splice L1 ((i + 1) * 2) (fl (xs.drop i)) := ⟨_, rfl⟩
      have hl1 : L1.length = G * 2 := by rw [hL1, length_splice _ _ _ (by simp; omega), hl0]
      have hl2 : L2.length = G * 2 := by rw [hL2, length_splice _ _ _ (by rw [hD]; omega), hl1]
      have hrow : L2.take ((xs.take i ++ (⟨x, y⟩ : Pr) :: xs.drop i).length * 2) = fl (xs.take i ++ (⟨x, y⟩ : Pr) :: xs.drop i) := by
        rw [hres, hfl, hL2, hL1]
        have := grown_cells (L := L0) (M := [.int .i64 x, .int .i64 y]) (D := fl (xs.drop i)) hP0 (by omega) (by rw [hD]; simp; omega)
        rw [hD] at this
        rw [show (xs.length + 1) * 2 = i * 2 + [Value.int .i64 x, .int .i64 y].length + (xs.length - i) * 2 by simp; omega, show (i + 1) * 2 = i * 2 + [Value.int .i64 x, .int .i64 y].length by simp; omega]
        exact this
      obtain ⟨W1, hW1⟩ : ∃ W1, W1 = w.drew.alloc (.cells L0.toArray 73) := ⟨_, rfl⟩
      rw [← hW1] at hrz
      have hN1 : W1.heap[w.heap.size]? = some (.cells L0.toArray 73 (0, 0)) := by rw [hW1]; exact heap_alloc_new w.drew _
      have hO1 : ∀ k, k < w.heap.size → W1.heap[k]? = w.heap[k]? := fun k hk => by rw [hW1]; exact (below_alloc (Below.refl w.drew.heap.size w.drew) (.cells L0.toArray 73)).block k hk
      have hBW : Below base w W1 := by rw [hW1]; exact Below.alloc (below_drew ((Below.refl w.heap.size w).mono hb)) hb _
      have HGA : Aside0 (W1.heap[w.heap.size]? = some (.cells L0.toArray 73 (0, 0))) := ⟨hN1⟩
      have HSA : Aside0 (∀ j u, ([.int .i64 x, .int .i64 y] : List Value)[j]? = some u → W1.cell? ((⟨vb, 0, none⟩ : Addr).add j) = some u) := ⟨hsrc1 _ ((hO1 vb hvb.lt).trans hvb)⟩
      have HFA : Aside0 (i * 2 + ([.int .i64 x, .int .i64 y] : List Value).length ≤ L0.length) := ⟨by simp; omega⟩
      have HGB : Aside0 ((W1.setRow w.heap.size L1.toArray).drew.heap[w.heap.size]? = some (.cells L1.toArray 73 (0, 0))) := ⟨setRow_heap _ _ _ _ _ _ hN1⟩
      have HSB : Aside0 (∀ j u, (fl (xs.drop i))[j]? = some u → (W1.setRow w.heap.size L1.toArray).drew.cell? ((⟨g, i * 2, none⟩ : Addr).add j) = some u) := ⟨cells_src (w := (W1.setRow w.heap.size L1.toArray).drew) (((setRow_other _ _ _ _ (by omega)).trans (hO1 g hglt)).trans hg) hLd⟩
      have HFB : Aside0 ((i + 1) * 2 + (fl (xs.drop i)).length ≤ L1.length) := ⟨by rw [hD]; omega⟩
      have HLEN1 : Aside0 ((fl (xs.drop i)).length = (xs.length - i) * 2) := ⟨hD⟩
      have HGC : Aside0 (((W1.setRow w.heap.size L1.toArray).drew.setRow w.heap.size L2.toArray).heap[w.heap.size]? = some (.cells L2.toArray 73 (0, 0))) := ⟨setRow_heap _ _ _ _ _ _ HGB.out⟩
      have HBC : Aside0 (Below base w ((W1.setRow w.heap.size L1.toArray).drew.setRow w.heap.size L2.toArray)) := ⟨below_setRow (below_drew (below_setRow hBW hb _)) hb _⟩
      have HROW := Aside0.mk hrow
      have HL1 := Aside0.mk hL1
      have HL2 := Aside0.mk hL2
      have HLEN2 := Aside0.mk hl2
      have hroomz : (cap : Int) < (xs.length : Int) + 1 := by omega
      have hw1 : IntKind.i64.wrap ((xs.length : Int) + 1) = (xs.length : Int) + 1 := by rw [IntKind.wrap_i64]; omega
      have hw2 : IntKind.i64.wrap ((i : Int) + 1) = (i : Int) + 1 := by rw [IntKind.wrap_i64]; omega
      have htn1 : ((xs.length : Int) + 1).toNat = xs.length + 1 := by omega
      have htn2 : ((i : Int) + 1).toNat = i + 1 := by omega
      have hGi : ¬ (G = i) := by omega
      have hGi2 : ¬ (G = i + 1) := by omega
      have hb3 : (i : Int) ≤ (xs.length : Int) + 1 := by omega
      have hic : (i : Int) ≤ (cap : Int) := by omega
      clear hrow hsrc1 hl1 hl2 hL1 hL2 hLd hLi ht hL hD hfl hvb hg hP0 hl0 hL0 hN1 hO1 hBW hW1 hold hik hi0 hz0 hzs hzb hG
      go_enter Try.func117, Try.ntmps117
      go_wp2_with (first
        | (at_builtin; refine Lib.wpList_append_run _ rfl _ _ _ _ rfl _ _ rfl rfl _ _ (hrz _) ?_)
        | (refine copyL rfl (.tmp 43) (.tmp 44) 38 38 rfl 73 2 Try.underlying38 sizeP w.heap.size (i * 2) _ _ ⟨vb, 0, none⟩ 1 1 rfl rfl L0 73 HGA.out [.int .i64 x, .int .i64 y] (by simp only [Nat.min_def]; split <;> first | rfl | omega) HSA.out HFA.out (fun v hv => by simp only [List.mem_cons, List.not_mem_nil, or_false] at hv; rcases hv with rfl | rfl <;> rfl) ?_; rw [← HL1.out]))
      refine st_ 9 (S := fun w' => True) (ds := []) trivial (fun hHeld => ?_)
      refine with_tabW (T := (true, [([], []), ([], []), ([], []), ([1, 2], [1, 2]), ([0, 3], [0, 3]), ([], []), ([], []), ([5, 6], [5, 6]), ([4, 7], [4, 7])])) (B := [0, 0, 0, 6, 15, 0, 0, 96, 255]) (by kernel_rfl) (by kernel_rfl) (fun HT_ HW_ => ?_)
      refine pd_ 0 46 1 HT_ ?_
      refine pd_ 1 47 3 HT_ ?_
      refine pd_ 2 48 7 HT_ ?_
      refine pd_ 3 49 15 HT_ ?_
      refine pd_ 4 50 31 HT_ ?_
      refine pd_ 5 51 63 HT_ ?_
      refine pd_ 6 52 127 HT_ ?_
      refine pd_ 7 53 255 HT_ ?_
      refine on_ 8 (some 54) 511 HT_ (fun K hK => ?_)
      (refine copyR (.tmp 50) (.tmp 53) 38 38 73 2 Try.underlying38 sizeP w.heap.size ((i + 1) * 2) _ _ ⟨g, i * 2, none⟩ _ _ rfl rfl L1 73 HGB.out (fl (xs.drop i)) (by rw [HLEN1.out]; simp only [Nat.min_def]; split <;> omega) HSB.out HFB.out (fl_one _) ?_; rw [← HL2.out])
      refine hK.out _ _ trivial (fun hHeld => ?_)
      clear hK K
      refine nm_ ?_
      refine dn_ HT_ ?_
      go_wp2
      go_ret
      exact ⟨_, rfl, by have := PO.mk hb HGC.out (xs := xs.take i ++ (⟨x, y⟩ : Pr) :: xs.drop i) (cap := G) (by rw [hres]; exact hGn) hGm HLEN2.out HROW.out; rwa [hres] at this, HBC.out⟩
end Go.Proofs.Ytomdfjohnmikdaa.Im
namespace Go.Proofs.Ytomdfjohnmikdaa.Im
set_option linter.unusedVariables false
set_option linter.unusedSimpArgs false
open Go.RowKit Go.Shelf Go.Proofs.Ytomdfjohnmikdaa.Kp Go.Proofs.Ytomdfjohnmikdaa.Ext Go.Proofs.Ytomdfjohnmikdaa.Cw Go.Proofs.YtomdfjohnmikdaaW.PrintWords Go.Proofs.YtomdfjohnmikdaaW.PrintLast Go.Proofs.YtomdfjohnmikdaaW.PrintMore
def placeP (l : List Pr) (p : Pr) : Nat := (l.takeWhile fun q => decide (cmpP q p < 0)).length
def withP (l : List Pr) (p : Pr) : List Pr := l.take (placeP l p) ++ p :: l.drop (placeP l p)
def cutB (l : List Pr) (p : Pr) : Bool := (List.range l.length).all fun j => decide (cmpP (l.getD j z73) p < 0) == decide (j < placeP l p)
theorem placeP_le (l : List Pr) (p : Pr) : placeP l p ≤ l.length := by
  unfold placeP
  exact (List.takeWhile_sublist _).length_le
theorem cutB_cut {l : List Pr} {p : Pr} (h : cutB l p = true) : CutAt l p (placeP l p) := by
  refine ⟨placeP_le l p, fun j hj => ?_⟩
  have := List.all_eq_true.1 h j (List.mem_range.2 hj)
  rw [beq_iff_eq, decide_eq_decide] at this
  exact this
theorem withP_len (l : List Pr) (p : Pr) : (withP l p).length = l.length + 1 := by
  have := placeP_le l p
  unfold withP
  simp; omega
def okWith (n : Int) (xs : List Int) (l : List Pr) (p : Pr) : Bool := isC n xs && (decide (l.length ≤ 1000000) && (cutB l p && (!pairingB xs (withP l p) || okBfs (withP l p))))
def WithPost (w : World) (r : List Pr) (b : Bool) (e : Ending) (w' : World) : Prop := ∃ v : Value, e = .returned (.tuple #[v, .bool b]) ∧ PO w' w.heap.size v r ∧ Below w.heap.size w w'
set_option maxRecDepth 100000 in
set_option maxHeartbeats 1000000 in
theorem with_c (n : Int) (A : Option Addr) (c : Nat) (xs : List Int) (A1 : Option Addr) (c1 : Nat) (l : List Pr) (p : Pr) (w : World) (hr : RC w A xs.length xs) (hc : xs.length ≤ c) (hr1 : Kd.C k73 w A1 l.length l) (hc1 : l.length ≤ c1) (ho : okWith n xs l p = true) :
    Calls Try.prog 68 #[.agg #[.int .i64 n, .slice A xs.length c], .slice A1 l.length c1, .agg #[.int .i64 p.f0, .int .i64 p.f1]] w (WithPost w (withP l p) (pairingB xs (withP l p) && acycB (withP l p))) := by
  unfold okWith at ho
  simp only [Bool.and_eq_true, Bool.or_eq_true, Bool.not_eq_true', decide_eq_true_eq] at ho
  obtain ⟨hi, hl, hcut, hbf⟩ := ho
  obtain ⟨m, hm⟩ : ∃ m, placeP l p = m := ⟨_, rfl⟩
  have hcm := cutB_cut hcut
  rw [hm] at hcm
  have hwl := withP_len l p
  have hwm : withP l p = l.take m ++ p :: l.drop m := by unfold withP; rw [hm]
  obtain ⟨r, hr0⟩ : ∃ r, withP l p = r := ⟨_, rfl⟩
  rw [hr0] at hbf hwl hwm ⊢
  have hml := hcm.1
  have hx0 := Aside0.mk ((CxAt.new w n A xs.length c).below (below_alloc (Below.refl _ _) (.cells #[.int .i64 p.f0, .int .i64 p.f1] 73)))
  have hp0 : Aside0 (PrAt ((w.alloc (.cells #[.int .i64 n, .slice A xs.length c] 28)).alloc (.cells #[.int .i64 p.f0, .int .i64 p.f1] 73)) (w.heap.size + 1) p.f0 p.f1) := ⟨by simpa using PrAt.new (w.alloc (.cells #[.int .i64 n, .slice A xs.length c] 28)) p.f0 p.f1⟩
  have hb0 := Aside0.mk (below_alloc (below_alloc (Below.refl w.heap.size w) (.cells #[.int .i64 n, .slice A xs.length c] 28)) (.cells #[.int .i64 p.f0, .int .i64 p.f1] 73))
  have HR := Aside0.mk hr
  have HR1 := Aside0.mk hr1
  have HI := Aside0.mk hi
  have HC := Aside0.mk hc
  have HC1 := Aside0.mk hc1
  have HCM := Aside0.mk hcm
  have HBF := Aside0.mk hbf
  have HWL := Aside0.mk hwl
  have HWM := Aside0.mk hwm
  clear hr hr1 hi hc hc1 hcm hbf hwl hwm hr0 hm hcut
  go_enter Try.func68, Try.ntmps68
  go_wp2_with (go_at_call 115; refine (searchP_c A1 c1 l p m _ (Kd.C_below HR1.out hb0.out) (by omega) HCM.out).mono ?_; rintro e w1 ⟨b, rfl, hb⟩; have HX := Aside0.mk (hx0.out.below hb).drew'; have HP := Aside0.mk (hp0.out.below hb).drew; have HB := Aside0.mk (below_in hb0.out hb).drew; clear hx0 hp0 hb0 hb)
  have HLT := Aside0.mk HP.out.lt
  have HLE := Aside0.mk HB.out.size
  refine st_ 7 (S := fun w' => w'.cell? ⟨w.heap.size + 1, 0, none⟩ = some (.int .i64 p.f0) ∧ w'.cell? ⟨w.heap.size + 1, 1, none⟩ = some (.int .i64 p.f1)) (ds := []) ⟨HP.out.c0, HP.out.c1⟩ (fun hHeld => ?_)
  refine with_tabW (T := (true, [([], []), ([0], [0]), ([], []), ([], []), ([3], [3]), ([1, 2, 4, 1], [1, 2, 4]), ([5, 5, 0, 1, 2, 3, 4, 5], [5])])) (B := [0, 1, 0, 0, 8, 31, 63]) (by kernel_rfl) (by kernel_rfl) (fun HT_ HW_ => ?_)
  refine pd_ 0 17 1 HT_ ?_
  refine pd_ 2 19 5 HT_ ?_
  refine tk_ 3 20 13 HT_ HW_ hHeld ?_
  refine tw_ 1 4 (some 18) (some 21) 15 29 HT_ (fun K hK => ?_) (fun K hK => ?_)
  refine ca_ Try.func66 #[.slice A1 l.length c1] ?_
  refine (cloneP_c A1 c1 l _ (Kd.C_below HR1.out HB.out) (by omega)).mono ?_; rintro e w2 ⟨v, rfl, hv, hb⟩; have HV := Aside0.mk hv; have HB2 := Aside0.mk (below_in HB.out hb); have HX2 := Aside0.mk (HX.out.below hb); have HP2 := Aside0.mk (HP.out.below hb); have HS2 := Aside0.mk hb.size; clear hv hb HX HP
  refine ⟨_, rfl, ?_⟩
  refine hK.out _ _ ⟨HP2.out.c0, HP2.out.c1⟩ (fun hHeld => ?_)
  clear hK K
  refine nm_ ?_
  refine on_ 4 (some 21) 31 HT_ (fun K hK => ?_)
  (refine value_ (by rfl) rfl (v := .slice (some ⟨w2.heap.size, 0, none⟩) 1 1) (w1 := w2.alloc (.cells #[.int .i64 p.f0, .int .i64 p.f1] 73)) (by go_simp) ?_; have HX3 := Aside0.mk (HX2.out.below (below_alloc (Below.refl _ _) (.cells #[.int .i64 p.f0, .int .i64 p.f1] 73))); have HP3 := Aside0.mk (HP2.out.alloc (.cells #[.int .i64 p.f0, .int .i64 p.f1] 73)); have HL3 := Aside0.mk (PrAt.new w2 p.f0 p.f1); have HV3 := Aside0.mk (Kd.R_alloc HV.out (.cells #[.int .i64 p.f0, .int .i64 p.f1] 73)); have HB3 := Aside0.mk (HB2.out.alloc HB2.out.size (.cells #[.int .i64 p.f0, .int .i64 p.f1] 73)); have HS3 : Aside0 (w1.heap.size ≤ (w2.alloc (.cells #[.int .i64 p.f0, .int .i64 p.f1] 73)).heap.size) := ⟨Nat.le_trans HS2.out (by simp)⟩; have HNE := Aside0.mk (Kd.R_lt HV.out); clear HX2 HP2 HV HB2 HS2)
  refine hK.out _ _ ⟨HP3.out.c0, HP3.out.c1⟩ (fun hHeld => ?_)
  clear hK K
  refine nm_ ?_
  refine on_ 5 (some 22) 63 HT_ (fun K hK => ?_)
  refine ca_ Try.func117 #[v, .int .i64 m, .slice (some ⟨w2.heap.size, 0, none⟩) 1 1] ?_
  refine (insertP_c v l m w1.heap.size w2.heap.size p.f0 p.f1 _ HV3.out hml HL3.out (fun e => absurd (HNE.out _ e.symm) (Nat.lt_irrefl _)) HS3.out (by omega)).mono ?_; rintro e w5 ⟨v5, rfl, hv, hb⟩; rw [← HWM.out] at hv; have HV5 := Aside0.mk (Kd.R_lower hv HLE.out); have HP5 : Aside0 (PrAt w5 (w.heap.size + 1) p.f0 p.f1) := ⟨(hb.block _ HLT.out).trans HP3.out⟩; have HX5 : Aside0 (CxAt w5 w.heap.size n A xs.length c) := ⟨(hb.block _ (Nat.lt_of_succ_lt HLT.out)).trans HX3.out⟩; have HB5 := Aside0.mk (HB3.out.trans (hb.mono HLE.out)); clear hv hb HV3 HP3 HX3 HB3 HL3 HNE
  refine ⟨_, rfl, ?_⟩
  refine hK.out _ _ ⟨HP5.out.c0, HP5.out.c1⟩ (fun hHeld => ?_)
  clear hK K
  refine nm_ ?_
  refine pd_ 6 10 127 HT_ ?_
  refine dn_ HT_ ?_
  rotate_left
  (refine value_ (by rfl) rfl (v := .slice (some ⟨w1.heap.size, 0, none⟩) 1 1) (w1 := w1.drew.alloc (.cells #[.int .i64 p.f0, .int .i64 p.f1] 73)) (by go_simp) ?_; have HX2 := Aside0.mk (HX.out.below (below_alloc (Below.refl _ _) (.cells #[.int .i64 p.f0, .int .i64 p.f1] 73))); have HP2 := Aside0.mk (HP.out.alloc (.cells #[.int .i64 p.f0, .int .i64 p.f1] 73)); have HL2 := Aside0.mk (PrAt.new w1.drew p.f0 p.f1); have HB2 := Aside0.mk (HB.out.alloc HB.out.size (.cells #[.int .i64 p.f0, .int .i64 p.f1] 73)); clear HX HP HB)
  refine hK.out _ _ ⟨HP2.out.c0, HP2.out.c1⟩ (fun hHeld => ?_)
  clear hK K
  refine nm_ ?_
  refine on_ 1 (some 18) 31 HT_ (fun K hK => ?_)
  refine ca_ Try.func66 #[.slice A1 l.length c1] ?_
  refine (cloneP_c A1 c1 l _ (Kd.C_below HR1.out HB2.out) (by omega)).mono ?_; rintro e w3 ⟨v, rfl, hv, hb⟩; have HV3 := Aside0.mk (Kd.R_lower hv (base' := w1.heap.size) (by simp)); have HB3 := Aside0.mk (below_in HB2.out hb); have HX3 := Aside0.mk (HX2.out.below hb); have HP3 := Aside0.mk (HP2.out.below hb); have HL3 := Aside0.mk (HL2.out.below hb); have HS3 : Aside0 (w1.heap.size ≤ w3.heap.size) := ⟨Nat.le_trans (by simp) hb.size⟩; have HNE := Aside0.mk (Kd.R_base hv); clear hv hb HX2 HP2 HB2 HL2
  refine ⟨_, rfl, ?_⟩
  refine hK.out _ _ ⟨HP3.out.c0, HP3.out.c1⟩ (fun hHeld => ?_)
  clear hK K
  refine nm_ ?_
  refine on_ 5 (some 22) 63 HT_ (fun K hK => ?_)
  refine ca_ Try.func117 #[v, .int .i64 m, .slice (some ⟨w1.heap.size, 0, none⟩) 1 1] ?_
  refine (insertP_c v l m w1.heap.size w1.heap.size p.f0 p.f1 _ HV3.out hml HL3.out (fun e => absurd (HNE.out _ e.symm) (by simp)) HS3.out (by omega)).mono ?_; rintro e w5 ⟨v5, rfl, hv, hb⟩; rw [← HWM.out] at hv; have HV5 := Aside0.mk (Kd.R_lower hv HLE.out); have HP5 : Aside0 (PrAt w5 (w.heap.size + 1) p.f0 p.f1) := ⟨(hb.block _ HLT.out).trans HP3.out⟩; have HX5 : Aside0 (CxAt w5 w.heap.size n A xs.length c) := ⟨(hb.block _ (Nat.lt_of_succ_lt HLT.out)).trans HX3.out⟩; have HB5 := Aside0.mk (HB3.out.trans (hb.mono HLE.out)); clear hv hb HV3 HP3 HX3 HB3 HL3 HNE
  refine ⟨_, rfl, ?_⟩
  refine hK.out _ _ ⟨HP5.out.c0, HP5.out.c1⟩ (fun hHeld => ?_)
  clear hK K
  refine nm_ ?_
  refine pd_ 6 10 127 HT_ ?_
  refine dn_ HT_ ?_
  rotate_left
  all_goals
    obtain ⟨A5, c5, rfl⟩ := Kd.R_slice HV5.out
    have hx0 := HX5.out.c0
    have hx1 := HX5.out.c1
    have hrd := (Kd.R_reads' HV5.out)
    have HRD := Aside0.mk hrd
    clear hrd
    by_cases hpb : pairingB xs r = true
    · have hok : okBfs r = true := by
        rcases HBF.out with h | h
        · rw [hpb] at h; cases h
        · exact h
      have HOK := Aside0.mk hok
      have HPB := Aside0.mk hpb
      clear hok hpb HBF
      generalize hpg : pairingB xs r = pb at HPB
      generalize hag : acycB r = ab
      have HPG := Aside0.mk hpg
      have HAG := Aside0.mk hag
      clear hpg hag
      obtain rfl := HPB.out
      go_wp2_with (first
        | (go_at_call 118; refine (isPairing_c n A c xs A5 c5 r _ (Kd.C_below HR.out HB5.out) HC.out HI.out HRD.out.2.2 (by rw [HWL.out]; omega)).mono ?_; rw [HPG.out]; rintro e w6 ⟨rfl, hb⟩; have HB6 := Aside0.mk hb; have HX6 := Aside0.mk (HX5.out.below hb); have hx6 := HX6.out.c0; have hy6 := HX6.out.c1; clear hb hx0 hx1)
        | (go_at_call 113; refine (isAcyclic_c n A c xs A5 c5 r _ (Kd.C_below HRD.out.2.2 HB6.out) HRD.out.2.1 HOK.out).mono ?_; rw [HAG.out]; rintro e w7 ⟨rfl, hb⟩; have HB7 := Aside0.mk hb; clear hb))
      go_ret2
      exact ⟨_, (by rw [HPG.out, HAG.out]; rfl), Kd.R_below HV5.out (below_in HB6.out HB7.out), (below_in HB5.out (below_in HB6.out HB7.out))⟩
    · have hpf : pairingB xs r = false := by simpa using hpb
      have HPF := Aside0.mk hpf
      clear hpb hpf
      go_wp2_with (first
        | (go_at_call 118; refine (isPairing_c n A c xs A5 c5 r _ (Kd.C_below HR.out HB5.out) HC.out HI.out HRD.out.2.2 (by rw [HWL.out]; omega)).mono ?_; rw [HPF.out]; rintro e w6 ⟨rfl, hb⟩; have HB6 := Aside0.mk hb; clear hb))
      go_ret2
      exact ⟨_, (by rw [HPF.out]; rfl), Kd.R_below HV5.out HB6.out, (below_in HB5.out HB6.out)⟩
end Go.Proofs.Ytomdfjohnmikdaa.Im
namespace Go.Proofs.Ytomdfjohnmikdaa.Im
set_option linter.unusedVariables false
set_option linter.unusedSimpArgs false
open Go.RowKit Go.Shelf Go.Proofs.Ytomdfjohnmikdaa.Kp Go.Proofs.Ytomdfjohnmikdaa.Ext Go.Proofs.Ytomdfjohnmikdaa.Cw Go.Proofs.YtomdfjohnmikdaaW.PrintWords Go.Proofs.YtomdfjohnmikdaaW.PrintLast Go.Proofs.YtomdfjohnmikdaaW.PrintMore
theorem lessS_f (p q : Pr) : QS.spec_l02Less.f p.f0 p.f1 q.f0 q.f1 = some (decide (cmpP p q < 0)) := by
  unfold QS.spec_l02Less.f cmpP cmpI
  by_cases h1 : p.f0 < q.f0
  · rw [if_pos h1]; simp [h1]
  · rw [if_neg h1]
    by_cases h2 : p.f0 = q.f0
    · rw [if_pos h2]
      by_cases h3 : p.f1 < q.f1
      · simp [h2, h3]
      · by_cases h4 : p.f1 > q.f1
        · simp [h2, h3, h4]
        · simp [h2, h3, h4]
    · rw [if_neg h2]
      by_cases h3 : p.f0 > q.f0
      · simp [h1, h2, h3]
      · omega
/-- The place of a pair, looked for from the end. -/
def backP (l : List Pr) (p : Pr) : Nat → Nat
  | 0 => 0
  | a + 1 => if cmpP p (l.getD a z73) < 0 then backP l p a else a + 1
def putP (l : List Pr) (p : Pr) : List Pr := l.take (backP l p l.length) ++ p :: l.drop (backP l p l.length)
section
variable {ops : Array Oper} {o : Oper} {a : Act} {Q : Exit → Act → World → Prop} {K : Act → World → Prop}
/-- append(v, ys...) in a region that draws. -/
theorem apPsR {w0 W : World} (base : Nat) (s x : Operand) (v : Value) (xs ys : List Pr) (A : Option Addr) (m c : Nat)
    (hs : a.eval s = v) (hx : a.eval x = .slice A m c) (HO : PO W base v xs) (HR : Kd.C k73 W A m ys) (HB : Below base w0 W) (hbase : base ≤ W.heap.size) (hl : xs.length + m ≤ 8796093022208)
    (h : ∀ v1 w1, PO w1 base v1 (xs ++ ys) → Below base w0 w1 → W.grownBy w1 v.ownBlock → (v1.ownBlock = v.ownBlock ∨ ∃ b, v1.ownBlock = some b ∧ W.heap.size ≤ b) → K (a.put o.dst v1) w1)
    (hw : Region.wanted o (yielded ops a.tmps) = true := by rfl) (ho : o.op = .call { callee := .builtin .append, args := #[s, x], argTypes := #[38, 38] } := by rfl) :
    if Region.wanted o (yielded ops a.tmps) = true then Oper.wp Try.prog o a W K Q else K (a.put o.dst undef) W :=
  Kd.R_append_rows_step k73 base hw s x 38 73 (.agg #[.int .i64 0, .int .i64 0]) 16 ho Try.underlying38 infoP rfl (by decide) (by decide) v xs ys A m c (fun _ => True) (fun _ => False) hs hx HO HR
    (fun x cs h => by rw [k73_open h]; exact k73_mkM _ _ _ _) (fun _ h => h.elim) (fun _ _ => trivial) HB hbase (by omega) h
end
theorem PO.one (w : World) (base : Nat) (p : Pr) (hb : base ≤ w.heap.size) : PO (w.alloc (.cells #[.int .i64 p.f0, .int .i64 p.f1] 73)) base (.slice (some ⟨w.heap.size, 0, none⟩) 1 1) [p] :=
  PO.mk (xs := [p]) (cap := 1) (cur := [.int .i64 p.f0, .int .i64 p.f1]) hb (heap_alloc_new w _) (Nat.le_refl _) (by simp [maxLen]) rfl rfl
theorem prAt_grown1 {w w1 : World} {b g : Nat} {x y : Int} {v : Value} (h : PrAt w g x y) (hv : v.ownBlock = some b) (hne : g ≠ b) (hg : w.grownBy w1 v.ownBlock) : PrAt w1 g x y := (hg.block g h.lt (fun e => hne (by rw [hv] at e; injection e))).trans h
theorem cxAt_grown1 {w w1 : World} {b g : Nat} {n : Int} {A : Option Addr} {len c : Nat} {v : Value} (h : CxAt w g n A len c) (hl : g < w.heap.size) (hv : v.ownBlock = some b) (hne : g ≠ b) (hg : w.grownBy w1 v.ownBlock) : CxAt w1 g n A len c := (hg.block g hl (fun e => hne (by rw [hv] at e; injection e))).trans h
def With2Post (w : World) (r : List Pr) (b : Bool) (e : Ending) (w' : World) : Prop := ∃ v : Value, e = .returned (.tuple #[v, .bool b]) ∧ PO w' w.heap.size v r ∧ Below w.heap.size w w'
set_option maxRecDepth 100000 in
set_option maxHeartbeats 1000000 in
theorem with2_c (k : Nat) (n : Int) (A : Option Addr) (c : Nat) (xs : List Int) (A1 : Option Addr) (c1 : Nat) (l : List Pr) (p : Pr) (b : Bool) (w : World) (hr : RC w A xs.length xs) (hc : xs.length ≤ c) (hr1 : Kd.C k73 w A1 l.length l) (hc1 : l.length ≤ c1) (hl : l.length ≤ 1000000)
    (hk : QS.spec_l02Is.f k n xs (putP l p) = some b) :
    Calls Try.prog 111 #[.agg #[.int .i64 n, .slice A xs.length c], .slice A1 l.length c1, .agg #[.int .i64 p.f0, .int .i64 p.f1]] w (With2Post w (putP l p) b) := by
  have hx0 := Aside0.mk ((CxAt.new w n A xs.length c).below (below_alloc (Below.refl _ _) (.cells #[.int .i64 p.f0, .int .i64 p.f1] 73)))
  have hp0 : Aside0 (PrAt ((w.alloc (.cells #[.int .i64 n, .slice A xs.length c] 28)).alloc (.cells #[.int .i64 p.f0, .int .i64 p.f1] 73)) (w.heap.size + 1) p.f0 p.f1) := ⟨by simpa using PrAt.new (w.alloc (.cells #[.int .i64 n, .slice A xs.length c] 28)) p.f0 p.f1⟩
  have hb0 := Aside0.mk (below_alloc (below_alloc (Below.refl w.heap.size w) (.cells #[.int .i64 n, .slice A xs.length c] 28)) (.cells #[.int .i64 p.f0, .int .i64 p.f1] 73))
  have HR := Aside0.mk hr
  have HR1 := Aside0.mk hr1
  have HC := Aside0.mk hc
  have HC1 := Aside0.mk hc1
  have HK := Aside0.mk hk
  clear hr hr1 hc hc1 hk
  go_enter Try.func111, Try.ntmps111
  go_wp2
  go_loopw [8] (fun s8 wr => ∃ m : Nat, m ≤ l.length ∧ s8 = .int .i64 m ∧ Aside0 (backP l p l.length = backP l p m) ∧ Aside0 (Below w.heap.size w wr) ∧ Aside0 (CxAt wr w.heap.size n A xs.length c) ∧ Aside0 (PrAt wr (w.heap.size + 1) p.f0 p.f1)) (fun s8 _ => (intOf s8).toNat)
  case atStart => exact ⟨l.length, by omega, rfl, ⟨rfl⟩, hb0, hx0, hp0⟩
  case round =>
    clear hx0 hp0 hb0
    obtain ⟨m, hm, rfl, hback, HB, HX, HP⟩ := hrel
    by_cases h0 : m = 0
    · have hgz : ¬ ((0 : Int) < (m : Int)) := by omega
      have hgn : ¬ (0 < m) := by omega
      have HM : Aside0 (backP l p l.length = m) := ⟨by rw [hback.out, h0]; rfl⟩
      clear h0 hback
      go_wp2
      have HPd := Aside0.mk HP.out.drew; have HBd := Aside0.mk HB.out.drew; have HXd := Aside0.mk HX.out.drew'; clear HP HB HX; have HP := HPd; have HB := HBd; have HX := HXd; clear HPd HBd HXd
      refine st_ 11 (S := fun w' => True) (ds := []) trivial (fun hHeld => ?_)
      refine with_tabW (T := (true, [([], []), ([0], [0]), ([1], [1]), ([2], [2]), ([2], [2]), ([2], [2]), ([5, 2], [2, 5]), ([4, 6, 2], [2, 4, 6]), ([7, 2], [2, 7]), ([3, 8, 2, 2], [2, 3, 8]), ([2, 9], [2, 9])])) (B := [0, 1, 3, 7, 7, 7, 39, 119, 247, 511, 1023]) (by kernel_rfl) (by kernel_rfl) (fun HT_ HW_ => ?_)
      refine pd_ 0 13 1 HT_ ?_
      refine pd_ 1 14 3 HT_ ?_
      refine pd_ 2 15 7 HT_ ?_
      refine pn_ 3 16 15 HT_ ?_
      refine pn_ 4 17 31 HT_ ?_
      refine pn_ 5 18 63 HT_ ?_
      refine pn_ 6 19 127 HT_ ?_
      refine pn_ 7 20 255 HT_ ?_
      refine pn_ 8 21 511 HT_ ?_
      refine pn_ 9 22 1023 HT_ ?_
      refine pd_ 10 23 2047 HT_ ?_
      refine dn_ HT_ ?_
      have HPUT : Aside0 (putP l p = l.take m ++ ([p] ++ l.drop m)) := ⟨by unfold putP; rw [HM.out]; rfl⟩
      have hml := Aside0.mk hm
      obtain ⟨D, hD⟩ : ∃ D, D = (if c1 = m then A1 else A1.map (·.add (m * 2))) := ⟨_, rfl⟩
      have hcutF : ∀ W : World, (Instr.slice 38 (.slice A1 l.length c1) (some (.int .i64 (m : Int))) none none).run Try.prog W = .ok (.slice D (l.length - m) (c1 - m)) W := by
        intro W
        obtain ⟨i0, hi0, hz0, hzs, hzb⟩ := info_parts infoP
        have := cut_from 38 73 .i64 Try.underlying38 hi0 2 hzs A1 l.length c1 (m : Int) (by omega) (by omega) W
        rw [Int.toNat_natCast, ← hD] at this
        exact this
      have hcutT : ∀ W : World, (Instr.slice 38 (.slice A1 l.length c1) none (some (.int .i64 (m : Int))) none).run Try.prog W = .ok (.slice A1 m c1) W := by
        intro W
        obtain ⟨i0, hi0, hz0, hzs, hzb⟩ := info_parts infoP
        have := cut_to 38 73 .i64 Try.underlying38 hi0 A1 l.length c1 (m : Int) (by omega) (by omega) HC1.out W
        rw [Int.toNat_natCast] at this
        exact this
      have HRD : Aside0 (∀ W, Below w.heap.size w W → Kd.C k73 W D (l.length - m) (l.drop m)) := ⟨fun W hW => by
        have := Kd.C_drop (Kd.C_below HR1.out hW) hm HC1.out
        rw [List.length_drop] at this
        rw [hD]
        exact this⟩
      have HRT : Aside0 (∀ W, Below w.heap.size w W → Kd.C k73 W A1 m (l.take m)) := ⟨fun W hW => by
        have := Kd.C_take (Kd.C_below HR1.out hW) hm
        rw [List.length_take, Nat.min_eq_left hm] at this
        exact this⟩
      clear hD
      go_wp2
      refine st_ 7 (S := fun w' => w'.cell? ⟨w.heap.size + 1, 0, none⟩ = some (.int .i64 p.f0) ∧ w'.cell? ⟨w.heap.size + 1, 1, none⟩ = some (.int .i64 p.f1)) (ds := []) ⟨HP.out.c0, HP.out.c1⟩ (fun hHeld => ?_)
      refine with_tabW (T := (true, [([], []), ([0], [0]), ([], []), ([], []), ([2, 3], [2, 3]), ([1, 4], [1, 4]), ([5, 5, 0, 1, 2, 3, 4, 5], [5])])) (B := [0, 1, 0, 0, 12, 31, 63]) (by kernel_rfl) (by kernel_rfl) (fun HT_ HW_ => ?_)
      refine pd_ 2 28 4 HT_ ?_
      refine pd_ 3 29 12 HT_ ?_
      refine pd_ 4 30 28 HT_ ?_
      refine tk_ 0 26 29 HT_ HW_ hHeld ?_
      refine on_ 1 (some 27) 31 HT_ (fun K hK => ?_)
      (refine value_ (by rfl) rfl (v := .slice (some ⟨wr.drew.heap.size, 0, none⟩) 1 1) (w1 := wr.drew.drew.alloc (.cells #[.int .i64 p.f0, .int .i64 p.f1] 73)) (by go_simp) ?_; have HX1 := Aside0.mk (HX.out.below (below_alloc (Below.refl _ _) (.cells #[.int .i64 p.f0, .int .i64 p.f1] 73))).drew'; have HP1 := Aside0.mk (HP.out.alloc (.cells #[.int .i64 p.f0, .int .i64 p.f1] 73)).drew; have HB1 := Aside0.mk (HB.out.drew.alloc HB.out.drew.size (.cells #[.int .i64 p.f0, .int .i64 p.f1] 73)); have HLT := Aside0.mk HP.out.lt; have HO1 := Aside0.mk (PO.one wr.drew.drew w.heap.size p HB.out.drew.size); clear HX HP HB)
      refine hK.out _ _ ⟨HP1.out.c0, HP1.out.c1⟩ (fun hHeld => ?_)
      clear hK K
      refine nm_ ?_
      refine on_ 5 (some 31) 63 HT_ (fun K hK => ?_)
      (refine apPsR w.heap.size (.tmp 27) (.tmp 30) _ [p] (l.drop m) D (l.length - m) (c1 - m) rfl rfl HO1.out (HRD.out _ HB1.out) HB1.out HB1.out.size (by simp; omega) ?_; intro v1 w5 ho hb hg hat; have HV1 := Aside0.mk ho; have HB5 := Aside0.mk hb; have HX5 := Aside0.mk (cxAt_grown1 (b := wr.drew.drew.heap.size) HX1.out (Nat.lt_of_succ_lt HP1.out.lt) rfl (Nat.ne_of_lt (Nat.lt_of_succ_lt HLT.out)) hg); have HP5 := Aside0.mk (prAt_grown1 (b := wr.drew.drew.heap.size) HP1.out rfl (Nat.ne_of_lt HLT.out) hg); clear ho hb hg hat HX1 HP1 HB1 HO1)
      refine hK.out _ _ ⟨HP5.out.c0, HP5.out.c1⟩ (fun hHeld => ?_)
      clear hK K
      refine nm_ ?_
      refine pd_ 6 9 127 HT_ ?_
      refine dn_ HT_ ?_
      obtain ⟨A7, c7, rfl⟩ := Kd.R_slice HV1.out
      have hd7 : ([p] ++ l.drop m).length = l.length - m + 1 := by simp <;> omega
      have HRV : Aside0 (∀ W, Below w5.heap.size w5 W → Kd.C k73 W A7 (l.length - m + 1) ([p] ++ l.drop m)) := ⟨fun W hW => by
        have := (Kd.R_reads' HV1.out).2.2
        rw [hd7] at this
        exact Kd.C_below this hW⟩
      have HO6 := Aside0.mk (PO.made w5 w5.heap.size 0 #[] (Nat.le_refl _) (Nat.zero_le _) rfl)
      have HB6 : Aside0 (Below w5.heap.size w5 (w5.alloc (.cells #[] 73))) := ⟨below_alloc (Below.refl _ _) _⟩
      rw [hd7]
      go_wp2_with (first
        | (at_builtin; refine apPs w5.heap.size rfl (.tmp 32) (.tmp 35) rfl _ _ (l.take m) A1 m c1 rfl rfl HO6.out (HRT.out _ (below_in HB5.out HB6.out)) HB6.out HB6.out.size (by simp; omega) ?_; intro v8 w8 ho hb hg hat; clear hat hg; have HO8 := Aside0.mk ho; have HB8 := Aside0.mk hb; clear ho hb)
        | (at_builtin; refine apPs w5.heap.size rfl (.tmp 36) (.tmp 37) rfl _ _ ([p] ++ l.drop m) A7 _ _ rfl rfl HO8.out (HRV.out _ HB8.out) HB8.out HB8.out.size (by simp; omega) ?_; intro v9 w9 ho hb hg hat; clear hat hg; rw [List.nil_append, ← HPUT.out] at ho; have HO9 := Aside0.mk ho; have HB9 := Aside0.mk hb; clear ho hb; obtain ⟨A9, c9, rfl⟩ := Kd.R_slice HO9.out; have HX9 := Aside0.mk (HX5.out.below HB9.out); have hx9 := HX9.out.c0; have hy9 := HX9.out.c1)
        | (go_at_call 144; refine (QS.spec_l02Is.calls k n A c xs A9 c9 (putP l p) b _ (Kd.C_below HR.out (below_in HB5.out HB9.out)) HC.out (Kd.R_reads' HO9.out).2.2 (Kd.R_reads' HO9.out).2.1 HK.out).mono ?_; rintro e w10 ⟨rfl, hb⟩; have HB10 := Aside0.mk hb; clear hb))
      go_ret2
      exact ⟨_, rfl, Kd.R_lower (Kd.R_below HO9.out HB10.out) HB5.out.size, below_in HB5.out (below_in HB9.out HB10.out)⟩
    · have hgz : (0 : Int) < (m : Int) := by omega
      have hgn : 0 < m := by omega
      obtain ⟨m', hm'⟩ : ∃ m', m = m' + 1 := ⟨m - 1, by omega⟩
      obtain ⟨ad, rfl, hp0, hp1⟩ := pair_at (Kd.C_below HR1.out HB.out) m' (by omega)
      have hback' := hback.out
      rw [hm', show backP l p (m' + 1) = if cmpP p (l.getD m' z73) < 0 then backP l p m' else m' + 1 from rfl, ← hm'] at hback'
      generalize l.getD m' z73 = q at hp0 hp1 hback'
      have HW : Aside0 (CellsQ wr ad m' q) := ⟨⟨hp0, hp1⟩⟩
      have HBK := Aside0.mk hback'
      clear hp0 hp1 hback hback'
      have hmlt : (m' : Int) < (l.length : Int) := by omega
      have hwm : wrap64 ((m : Int) - 1) = (m' : Int) := by unfold wrap64; omega
      have HM' := Aside0.mk hm'
      clear hm' h0
      go_wp2
      have HPd := Aside0.mk HP.out.drew; have HBd := Aside0.mk HB.out.drew; have HXd := Aside0.mk HX.out.drew'; have HWd : Aside0 (CellsQ wr.drew ad m' q) := ⟨HW.out⟩; clear HP HB HW HX; have HP := HPd; have HB := HBd; have HW := HWd; have HX := HXd; clear HPd HBd HWd HXd
      refine st_ 11 (S := fun w' => w'.cell? ⟨w.heap.size + 1, 0, none⟩ = some (.int .i64 p.f0) ∧ w'.cell? ⟨w.heap.size + 1, 1, none⟩ = some (.int .i64 p.f1) ∧ w'.cell? (ad.add (m' * 2)) = some (.int .i64 q.f0) ∧ w'.cell? ⟨(ad.add (m' * 2)).block, (ad.add (m' * 2)).off + 1, none⟩ = some (.int .i64 q.f1)) (ds := []) ⟨HP.out.c0, HP.out.c1, HW.out.1, HW.out.2⟩ (fun hHeld => ?_)
      refine with_tabW (T := (true, [([], []), ([0], [0]), ([1], [1]), ([2], [2]), ([2], [2]), ([2], [2]), ([5, 2], [2, 5]), ([4, 6, 2], [2, 4, 6]), ([7, 2], [2, 7]), ([3, 8, 2, 2], [2, 3, 8]), ([2, 9], [2, 9])])) (B := [0, 1, 3, 7, 7, 7, 39, 119, 247, 511, 1023]) (by kernel_rfl) (by kernel_rfl) (fun HT_ HW_ => ?_)
      refine pd_ 0 13 1 HT_ ?_
      refine pd_ 1 14 3 HT_ ?_
      refine pd_ 2 15 7 HT_ ?_
      refine pd_ 4 17 23 HT_ ?_
      refine pd_ 5 18 55 HT_ ?_
      refine pd_ 6 19 119 HT_ ?_
      refine pd_ 7 20 247 HT_ ?_
      refine tk_ 3 16 255 HT_ HW_ hHeld ?_
      refine tk_ 8 21 511 HT_ HW_ hHeld ?_
      refine on_ 9 (some 22) 1023 HT_ (fun K hK => ?_)
      refine ca_ Try.func162 #[.agg #[.int .i64 p.f0, .int .i64 p.f1], .agg #[.int .i64 q.f0, .int .i64 q.f1]] ?_
      refine (QS.spec_l02Less.calls _ _ _ _ _ _ (lessS_f p q)).mono ?_; rintro e w1 ⟨rfl, hb⟩; have HP1 := Aside0.mk (HP.out.below hb); have HX1 := Aside0.mk (HX.out.below hb); have HB1 := Aside0.mk (below_in HB.out hb); have HW1 := Aside0.mk (cellsQ_below HW.out hb); clear HP HX HB HW; have HP := HP1; have HX := HX1; have HB := HB1; have HW := HW1; clear HP1 HX1 HB1 HW1; generalize cmpP p q = cp at HBK
      refine ⟨_, rfl, ?_⟩
      refine hK.out _ _ ⟨HP.out.c0, HP.out.c1, HW.out.1, HW.out.2⟩ (fun hHeld => ?_)
      clear hK K
      refine nm_ ?_
      refine pd_ 10 23 2047 HT_ ?_
      refine dn_ HT_ ?_
      by_cases hcp : cp < 0
      · rw [if_pos hcp] at HBK
        go_wp2
        go_roundw
        case measure => have := HM'.out; have hwm2 : wrap64 ((m : Int) - 1) = (m' : Int) := by unfold wrap64; omega
                        simp only [intOf, hwm2]; omega
        case rel => exact ⟨m', by have := HM'.out; omega, by rw [show ((m : Int) - 1) = (m' : Int) by have := HM'.out; omega], HBK, HB, HX, HP⟩
      · have HM : Aside0 (backP l p l.length = m) := by rw [if_neg hcp] at HBK; exact HBK
        clear HBK hwm hmlt hgz HW
        have HPUT : Aside0 (putP l p = l.take m ++ ([p] ++ l.drop m)) := ⟨by unfold putP; rw [HM.out]; rfl⟩
        have hml := Aside0.mk hm
        obtain ⟨D, hD⟩ : ∃ D, D = (if c1 = m then (some ad) else (some ad : Option Addr).map (·.add (m * 2))) := ⟨_, rfl⟩
        have hcutF : ∀ W : World, (Instr.slice 38 (.slice (some ad) l.length c1) (some (.int .i64 (m : Int))) none none).run Try.prog W = .ok (.slice D (l.length - m) (c1 - m)) W := by
          intro W
          obtain ⟨i0, hi0, hz0, hzs, hzb⟩ := info_parts infoP
          have := cut_from 38 73 .i64 Try.underlying38 hi0 2 hzs (some ad) l.length c1 (m : Int) (by omega) (by omega) W
          rw [Int.toNat_natCast, ← hD] at this
          exact this
        have hcutT : ∀ W : World, (Instr.slice 38 (.slice (some ad) l.length c1) none (some (.int .i64 (m : Int))) none).run Try.prog W = .ok (.slice (some ad) m c1) W := by
          intro W
          obtain ⟨i0, hi0, hz0, hzs, hzb⟩ := info_parts infoP
          have := cut_to 38 73 .i64 Try.underlying38 hi0 (some ad) l.length c1 (m : Int) (by omega) (by omega) HC1.out W
          rw [Int.toNat_natCast] at this
          exact this
        have HRD : Aside0 (∀ W, Below w.heap.size w W → Kd.C k73 W D (l.length - m) (l.drop m)) := ⟨fun W hW => by
          have := Kd.C_drop (Kd.C_below HR1.out hW) hm HC1.out
          rw [List.length_drop] at this
          rw [hD]
          exact this⟩
        have HRT : Aside0 (∀ W, Below w.heap.size w W → Kd.C k73 W (some ad) m (l.take m)) := ⟨fun W hW => by
          have := Kd.C_take (Kd.C_below HR1.out hW) hm
          rw [List.length_take, Nat.min_eq_left hm] at this
          exact this⟩
        clear hD
        go_wp2
        refine st_ 7 (S := fun w' => w'.cell? ⟨w.heap.size + 1, 0, none⟩ = some (.int .i64 p.f0) ∧ w'.cell? ⟨w.heap.size + 1, 1, none⟩ = some (.int .i64 p.f1)) (ds := []) ⟨HP.out.c0, HP.out.c1⟩ (fun hHeld => ?_)
        refine with_tabW (T := (true, [([], []), ([0], [0]), ([], []), ([], []), ([2, 3], [2, 3]), ([1, 4], [1, 4]), ([5, 5, 0, 1, 2, 3, 4, 5], [5])])) (B := [0, 1, 0, 0, 12, 31, 63]) (by kernel_rfl) (by kernel_rfl) (fun HT_ HW_ => ?_)
        refine pd_ 2 28 4 HT_ ?_
        refine pd_ 3 29 12 HT_ ?_
        refine pd_ 4 30 28 HT_ ?_
        refine tk_ 0 26 29 HT_ HW_ hHeld ?_
        refine on_ 1 (some 27) 31 HT_ (fun K hK => ?_)
        (refine value_ (by rfl) rfl (v := .slice (some ⟨w1.heap.size, 0, none⟩) 1 1) (w1 := w1.drew.alloc (.cells #[.int .i64 p.f0, .int .i64 p.f1] 73)) (by go_simp) ?_; have HX1 := Aside0.mk (HX.out.below (below_alloc (Below.refl _ _) (.cells #[.int .i64 p.f0, .int .i64 p.f1] 73))).drew'; have HP1 := Aside0.mk (HP.out.alloc (.cells #[.int .i64 p.f0, .int .i64 p.f1] 73)).drew; have HB1 := Aside0.mk (HB.out.drew.alloc HB.out.drew.size (.cells #[.int .i64 p.f0, .int .i64 p.f1] 73)); have HLT := Aside0.mk HP.out.lt; have HO1 := Aside0.mk (PO.one w1.drew w.heap.size p HB.out.drew.size); clear HX HP HB)
        refine hK.out _ _ ⟨HP1.out.c0, HP1.out.c1⟩ (fun hHeld => ?_)
        clear hK K
        refine nm_ ?_
        refine on_ 5 (some 31) 63 HT_ (fun K hK => ?_)
        (refine apPsR w.heap.size (.tmp 27) (.tmp 30) _ [p] (l.drop m) D (l.length - m) (c1 - m) rfl rfl HO1.out (HRD.out _ HB1.out) HB1.out HB1.out.size (by simp; omega) ?_; intro v1 w5 ho hb hg hat; have HV1 := Aside0.mk ho; have HB5 := Aside0.mk hb; have HX5 := Aside0.mk (cxAt_grown1 (b := w1.drew.heap.size) HX1.out (Nat.lt_of_succ_lt HP1.out.lt) rfl (Nat.ne_of_lt (Nat.lt_of_succ_lt HLT.out)) hg); have HP5 := Aside0.mk (prAt_grown1 (b := w1.drew.heap.size) HP1.out rfl (Nat.ne_of_lt HLT.out) hg); clear ho hb hg hat HX1 HP1 HB1 HO1)
        refine hK.out _ _ ⟨HP5.out.c0, HP5.out.c1⟩ (fun hHeld => ?_)
        clear hK K
        refine nm_ ?_
        refine pd_ 6 9 127 HT_ ?_
        refine dn_ HT_ ?_
        obtain ⟨A7, c7, rfl⟩ := Kd.R_slice HV1.out
        have hd7 : ([p] ++ l.drop m).length = l.length - m + 1 := by simp <;> omega
        have HRV : Aside0 (∀ W, Below w5.heap.size w5 W → Kd.C k73 W A7 (l.length - m + 1) ([p] ++ l.drop m)) := ⟨fun W hW => by
          have := (Kd.R_reads' HV1.out).2.2
          rw [hd7] at this
          exact Kd.C_below this hW⟩
        have HO6 := Aside0.mk (PO.made w5 w5.heap.size 0 #[] (Nat.le_refl _) (Nat.zero_le _) rfl)
        have HB6 : Aside0 (Below w5.heap.size w5 (w5.alloc (.cells #[] 73))) := ⟨below_alloc (Below.refl _ _) _⟩
        rw [hd7]
        go_wp2_with (first
          | (at_builtin; refine apPs w5.heap.size rfl (.tmp 32) (.tmp 35) rfl _ _ (l.take m) (some ad) m c1 rfl rfl HO6.out (HRT.out _ (below_in HB5.out HB6.out)) HB6.out HB6.out.size (by simp; omega) ?_; intro v8 w8 ho hb hg hat; clear hat hg; have HO8 := Aside0.mk ho; have HB8 := Aside0.mk hb; clear ho hb)
          | (at_builtin; refine apPs w5.heap.size rfl (.tmp 36) (.tmp 37) rfl _ _ ([p] ++ l.drop m) A7 _ _ rfl rfl HO8.out (HRV.out _ HB8.out) HB8.out HB8.out.size (by simp; omega) ?_; intro v9 w9 ho hb hg hat; clear hat hg; rw [List.nil_append, ← HPUT.out] at ho; have HO9 := Aside0.mk ho; have HB9 := Aside0.mk hb; clear ho hb; obtain ⟨A9, c9, rfl⟩ := Kd.R_slice HO9.out; have HX9 := Aside0.mk (HX5.out.below HB9.out); have hx9 := HX9.out.c0; have hy9 := HX9.out.c1)
          | (go_at_call 144; refine (QS.spec_l02Is.calls k n A c xs A9 c9 (putP l p) b _ (Kd.C_below HR.out (below_in HB5.out HB9.out)) HC.out (Kd.R_reads' HO9.out).2.2 (Kd.R_reads' HO9.out).2.1 HK.out).mono ?_; rintro e w10 ⟨rfl, hb⟩; have HB10 := Aside0.mk hb; clear hb))
        go_ret2
        exact ⟨_, rfl, Kd.R_lower (Kd.R_below HO9.out HB10.out) HB5.out.size, below_in HB5.out (below_in HB9.out HB10.out)⟩
end Go.Proofs.Ytomdfjohnmikdaa.Im
namespace Go.Proofs.Ytomdfjohnmikdaa.QS
set_option linter.unusedVariables false
set_option linter.unusedSimpArgs false
open Go.RowKit Go.Proofs.Ytomdfjohnmikdaa.Kp Go.Proofs.Ytomdfjohnmikdaa.Ext Go.Proofs.YtomdfjohnmikdaaW.PrintWords Go.Proofs.YtomdfjohnmikdaaW.PrintLast Go.Proofs.YtomdfjohnmikdaaW.PrintMore
def spec_l02With.f (k : Nat) (a0_0 : Int) (l0_1 : List Int) (l1 : List (S73)) (a2_0 : Int) (a2_1 : Int) : Option ((List (S73)) × Bool) :=
  if l1.length ≤ 1000000 then (spec_l02Is.f k a0_0 l0_1 (Im.putP l1 ⟨a2_0, a2_1⟩)).bind fun b => some (Im.putP l1 ⟨a2_0, a2_1⟩, b) else none
theorem spec_l02With.calls (k : Nat) (a0_0 : Int) (A0_1 : Option Addr) (c0_1 : Nat) (l0_1 : List Int) (A1 : Option Addr) (c1 : Nat) (l1 : List (S73)) (a2_0 : Int) (a2_1 : Int) (r1 : List (S73)) (r2 : Bool) (w : World) (hr0_1 : Kd.C (Kd.int .i64) w A0_1 l0_1.length l0_1) (hc0_1 : l0_1.length ≤ c0_1) (hr1 : Kd.C k73 w A1 l1.length l1) (hc1 : l1.length ≤ c1) (h : spec_l02With.f k a0_0 l0_1 l1 a2_0 a2_1 = some (r1, r2)) :
    Calls Try.prog 111 #[.agg #[.int .i64 a0_0, .slice A0_1 l0_1.length c0_1], .slice A1 l1.length c1, .agg #[.int .i64 a2_0, .int .i64 a2_1]] w fun e w' => ∃ v0_ : Value, e = .returned (.tuple #[v0_, .bool r2]) ∧ Kd.R k73 73 w' w.heap.size (fun _ => True) v0_ r1 ∧ Below w.heap.size w w' := by
  unfold spec_l02With.f at h
  by_cases hl : l1.length ≤ 1000000
  · rw [if_pos hl] at h
    obtain ⟨b, hk, hb⟩ := Option.bind_eq_some_iff.1 h
    obtain ⟨h1, h2⟩ := Prod.mk.inj (Option.some.inj hb)
    subst h1
    subst h2
    exact Im.with2_c k a0_0 A0_1 c0_1 l0_1 A1 c1 l1 ⟨a2_0, a2_1⟩ b w hr0_1 hc0_1 hr1 hc1 hl hk
  · rw [if_neg hl] at h; cases h
end Go.Proofs.Ytomdfjohnmikdaa.QS
namespace Go.Proofs.Ytomdfjohnmikdaa.QS
open Go.Proofs.Ytomdfjohnmikdaa.Cw Go.Proofs.Ytomdfjohnmikdaa.Kp Go.Proofs.Ytomdfjohnmikdaa.Ext Go.RowKit Go.Proofs.YtomdfjohnmikdaaW.PrintWords Go.Proofs.YtomdfjohnmikdaaW.PrintLast Go.Proofs.YtomdfjohnmikdaaW.PrintMore
attribute [local go_sem] max2_int min2_int max_two min_two max_three min_three max_four min_four   -- for this text's walks alone
set_option linter.unusedVariables false
set_option linter.unusedSimpArgs false
mutual
def spec_l02All.l0 : Nat → List (S73) → Int → Int → List Int → Option ((List (S73)))
 | 0, _, _, _, _ => none
 | k + 1, x3, x4, x363000, x363001 => if x4 < (x363001.length : Int) then (if 0 ≤ x4 then ((spec_l01Above.f k x363000 x363001 (rd x363001 x4)).bind fun t367 => (spec_l02All.l1 k x3 x4 t367 0 x363000 x363001)) else (none)) else (some x3)
def spec_l02All.l1 : Nat → List (S73) → Int → List Int → Int → Int → List Int → Option ((List (S73)))
 | 0, _, _, _, _, _, _ => none
 | k + 1, x3, x4, x5, x6, x363000, x363001 => if x6 < (x5.length : Int) then (if 0 ≤ x4 then (if x4 < (x363001.length : Int) then (if 0 ≤ x6 then ((spec_l02With.f k x363000 x363001 x3 (rd x363001 x4) (rd x5 x6)).bind fun bt372 => (spec_l02All.l1 k bt372.1 x4 x5 (wrap64 (x6 + 1)) x363000 x363001)) else (none)) else (none)) else (none)) else (spec_l02All.l0 k x3 (wrap64 (x4 + 1)) x363000 x363001)
end
def spec_l02All.f (k : Nat) (a0_0 : Int) (l0_1 : List Int) : Option ((List (S73))) := spec_l02All.l0 k (([] : List (S73))) 0 a0_0 l0_1
def spec_l02All.T5 : Bool × List (List Nat × List Nat) := (true, [([], []), ([], []), ([1], [1]), ([], []), ([2, 3], [2, 3]), ([4], [4]), ([0, 5], [0, 5]), ([6, 6, 0, 1, 2, 3, 4, 5, 6], [6])])
def spec_l02All.B5 : List Nat := [0, 0, 2, 0, 14, 30, 63, 127]
theorem spec_l02All.tab5 : rtab .any (opsOf Try.f110 5) = spec_l02All.T5 := by kernel_rfl
theorem spec_l02All.bits5 : waitsOk spec_l02All.T5.2 spec_l02All.B5 = true := by kernel_rfl
def spec_l02All.T9 : Bool × List (List Nat × List Nat) := (true, [([], []), ([], []), ([], []), ([2], [2]), ([], []), ([3, 4], [3, 4]), ([5], [5]), ([], []), ([], []), ([7, 8], [7, 8]), ([9], [9]), ([6, 10], [6, 10]), ([0, 1, 11], [0, 1, 11]), ([12], [12]), ([13], [13]), ([13], [13]), ([14, 12, 0, 1, 2, 3, 4, 5, 6, 7, 8, 9, 10, 11, 12, 13, 14], [1, 14])])
def spec_l02All.B9 : List Nat := [0, 0, 0, 4, 0, 28, 60, 0, 0, 384, 896, 2044, 4095, 8191, 16383, 16383, 32767]
theorem spec_l02All.tab9 : rtab .any (opsOf Try.f110 9) = spec_l02All.T9 := by kernel_rfl
theorem spec_l02All.bits9 : waitsOk spec_l02All.T9.2 spec_l02All.B9 = true := by kernel_rfl
set_option maxHeartbeats 8000000 in
set_option maxRecDepth 100000 in
theorem spec_l02All.calls (k : Nat) (a0_0 : Int) (A0_1 : Option Addr) (c0_1 : Nat) (l0_1 : List Int) (r : List (S73)) (w : World) (hr0_1 : Kd.C (Kd.int .i64) w A0_1 l0_1.length l0_1) (hc0_1 : l0_1.length ≤ c0_1) (h : spec_l02All.f k a0_0 l0_1 = some r) :
  Calls Try.prog 110 #[.agg #[.int .i64 a0_0, .slice A0_1 l0_1.length c0_1]] w fun e w' => ∃ v0_ : Value, e = .returned (v0_) ∧ Kd.R k73 73 w' w.heap.size (fun _ => True) v0_ r ∧ Below w.heap.size w w' := by
 have hu28 := Try.underlying28
 have hu73 := Try.underlying73
 have HR0_1 := Aside0.mk hr0_1
 have HC0_1 := Aside0.mk hc0_1
 clear hr0_1 hc0_1
 have HB := Aside0.mk (Below.refl w.heap.size w)
 have H : (spec_l02All.l0 k (([] : List (S73))) 0 a0_0 l0_1) = some r := h
 clear h
 obtain ⟨y363, hy363⟩ : ∃ y_ : List (S73), y_ = (([] : List (S73))) := ⟨_, rfl⟩
 replace H : (spec_l02All.l0 k y363 0 a0_0 l0_1) = some r := by first | (rw [hy363]; with_reducible exact H) | (have H2_ := (Option.bind_some _ _).symm.trans H; rw [hy363]; with_reducible exact H2_) | (have H2_ := (Option.bind_some _ _).symm.trans H; with_reducible exact H2_) | with_reducible exact H | (rw [hy363]; exact H) | exact H
 have Ny363 := Aside0.mk hy363
 clear hy363
 have H' := Aside0.mk H
 clear H
 go_enter Try.func110, Try.ntmps110
 go_wp2_with (first | ((with_reducible refine gate_dst (N := 1) rfl ?_); refine box_event ?hg (N := 1) ?hd (cs := #[.int .i64 a0_0, .slice A0_1 l0_1.length c0_1]) (t := 28) ?hr ?_; (case hd => rfl); (case hg => rfl); (case hr => first | (go_simp; done) | (go_simp; rfl)); intro gb362 hg w2 hbox hb; have BK362 := Aside0.mk (hbox); have GW362 := gH HB hg; have GE362 := gH HB hg; replace HB := sH HB hb; clear hb hbox hg) | ((with_reducible refine gate_dst (N := 7) rfl ?_); refine Kd.R_lit k73 _ 73 ?hg (N := 7) ?hd (xs := ([] : List (S73))) (inner := []) (ok := fun _ => True) (okp := fun _ => True) ?hr ?hp (fun _ hk => hk) trivial (Below.refl _ _) (Nat.le_refl _) (by simp) ?_; (case hd => rfl); (case hg => rfl); (case hr => first | (go_simp; done) | (go_simp; rfl)); (case hp => exact (Reps.none _ _)); intro v364 w3 ho4 hb hg_ hnew_; clear hg_ hnew_; (first | rw [← Ny363.out] at ho4 | (simp only [Int.reduceToNat] at ho4; rw [← Ny363.out] at ho4)); have HO365 := Aside0.mk (Kd.R_lower ho4 (below_size (pH HB))); replace BK362 := sB BK362 hb; replace HB := sH HB hb; clear hb ho4))
 go_loopg [3, 4] k (fun kq v3 v4 w' => ∃ (x3_1 : List (S73)) (x4_1 : Int), v4 = .int .i64 x4_1 ∧ Aside0 (spec_l02All.l0 kq x3_1 x4_1 a0_0 l0_1 = some r) ∧ Aside0 (kq ≤ k) ∧ Aside0 (Kd.R k73 73 w' w.heap.size (fun _ => True) v3 x3_1) ∧ Aside0 (w'.heap[gb362]? = some (.cells #[.int .i64 a0_0, (.slice A0_1 l0_1.length c0_1)] 28 (0, 0))) ∧ Aside0 (Below w.heap.size w w'))
 case atStart => exact ⟨(y363), (0), (by first | rfl | (simp; done) | (simp [*]; done)), H', ⟨Nat.le_refl _⟩, ⟨by (with_reducible repeat (first | apply Kd.R_alloc | apply Kd.R_drewN | apply Kd.R_drew)); exact HO365.out⟩, ⟨pB BK362⟩, ⟨pH HB⟩⟩
 case round =>
  clear H'
  try clear c1
  try clear p2
  obtain ⟨x3_1, x4_1, rfl, HA, HK1, HO_3, BK362, HB⟩ := hrel
  cases gk with
  | zero => exact absurd HA.out (by simp [spec_l02All.l0])
  | succ k1 =>
   have H := HA.out
   clear HA
   simp only [spec_l02All.l0] at H
   by_cases c5 : x4_1 < (l0_1.length : Int)
   ·rw [if_pos c5] at H
    have c5b0 : decide (x4_1 < (l0_1.length : Int)) = true := decide_eq_true c5
    clear c5
    by_cases c6 : 0 ≤ x4_1
    ·rw [if_pos c6] at H
     have c6b0 : decide (0 ≤ x4_1) = true := decide_eq_true c6
     clear c6
     replace H := Option.bind_eq_some_iff.mp H
     obtain ⟨t367, A70, H⟩ := H
     try dsimp only at H
     have A7 := Aside0.mk A70
     clear A70
     have H' := Aside0.mk H
     clear H
     have hcz8_0 : wr.cell? ⟨gb362, 0, none⟩ = some (.int .i64 a0_0) := cB BK362 0
     have hcz8_1 : wr.cell? ⟨gb362, 1, none⟩ = some (.slice A0_1 l0_1.length c0_1) := cB BK362 1
     have hfz8_0 := zB BK362 0
     have hfz8_1 := zB BK362 1
     try go_wp2
     replace HO_3 := Aside0.mk (Kd.R_drew HO_3.out)
     replace BK362 := dB BK362
     replace HB := dH HB
     have p366 : 0 ≤ (x4_1 : Int) := of_decide_eq_true (by first | (with_reducible assumption) | assumption)
     have q366 : x4_1 < (l0_1.length : Int) := of_decide_eq_true (by first | (with_reducible assumption) | assumption)
     obtain ⟨ad366, e366, hx366_0⟩ := Kd.at_int HR0_1.out x4_1 p366 q366
     have hw366_0 := hx366_0
     cases e366
     replace hx366_0 := cH HB hx366_0
     replace p366 := eq_true p366
     replace q366 := eq_true q366
     refine st_ 8 (S := fun w' => w'.cell? ⟨gb362, 0, none⟩ = some (.int .i64 a0_0) ∧ w'.cell? ⟨gb362, 1, none⟩ = some (.slice (some ad366) l0_1.length c0_1) ∧ w'.cell? (ad366.add (x4_1).toNat) = some (.int .i64 (rd l0_1 x4_1))) (ds := []) ⟨cB BK362 0, cB BK362 1, (cH HB hw366_0 :)⟩ (fun hHeld => ?_); refine with_tabW spec_l02All.tab5 spec_l02All.bits5 (fun HT_ HW_ => ?_)
     generalize wr.drew = w9 at HO_3 BK362 HB hx366_0 hHeld ⊢
     refine pu_ 1 16 2 HT_ ?_
     refine pu_ 3 18 10 HT_ ?_
     refine tk_ 0 15 11 HT_ HW_ hHeld ?_
     refine tk_ 2 17 15 HT_ HW_ hHeld ?_
     refine pu_ 4 19 31 HT_ ?_
     refine tk_ 5 20 63 HT_ HW_ hHeld ?_
     refine on_ 6 (some 21) 127 HT_ (fun K hK => ?_)
     refine ca_ Try.func130 #[.agg #[.int .i64 a0_0, .slice (some ad366) l0_1.length c0_1], .int .i64 (rd l0_1 x4_1)] ?_
     with_reducible refine (spec_l01Above.calls k1 a0_0 _ _ l0_1 (rd l0_1 x4_1) t367 _ ?side1 ?side2 A7.out).mono ?_
     (case side1 => exact pC ((Kd.C_below HR0_1.out HB.out)))
     (case side2 => exact HC0_1.out)
     rintro e w10 ⟨v368, rfl, ho0, hb⟩
     refine ⟨_, rfl, ?_⟩
     replace HO_3 := sR HO_3 hb
     have HO369 := Aside0.mk (Kd.R_lower ho0 (below_size (pH HB)))
     replace BK362 := sB BK362 hb
     replace HB := sH HB hb
     (try clear hb)
     (try clear hb2)
     (try clear hk)
     (try clear hi)
     (try clear ho0)
     refine hK.out _ _ ⟨cB BK362 0, cB BK362 1, (cH HB hw366_0 :)⟩ (fun hHeld => ?_)
     clear hK K
     refine nm_ ?_
     refine pu_ 7 5 255 HT_ ?_
     refine dn_ HT_ ?_
     try go_wp2
     go_loopg [3, 6] k1 (fun kq v3 v6 w' => ∃ (x3_2 : List (S73)) (x6_2 : Int), v6 = .int .i64 x6_2 ∧ Aside0 (spec_l02All.l1 kq x3_2 x4_1 t367 x6_2 a0_0 l0_1 = some r) ∧ Aside0 (kq ≤ k1) ∧ Aside0 (Kd.R k73 73 w' w.heap.size (fun _ => True) v3 x3_2) ∧ Aside0 (Kd.R (Kd.int .i64) 2 w' w.heap.size (fun _ => True) v368 t367) ∧ Aside0 (w'.heap[gb362]? = some (.cells #[.int .i64 a0_0, (.slice (some ad366) l0_1.length c0_1)] 28 (0, 0))) ∧ Aside0 (Below w.heap.size w w'))
     case atStart => exact ⟨(x3_1), (0), (by first | rfl | (simp; done) | (simp [*]; done)), H', ⟨Nat.le_refl _⟩, ⟨by (with_reducible repeat (first | apply Kd.R_alloc | apply Kd.R_drewN | apply Kd.R_drew)); exact HO_3.out⟩, ⟨by (with_reducible repeat (first | apply Kd.R_alloc | apply Kd.R_drewN | apply Kd.R_drew)); exact HO369.out⟩, ⟨pB BK362⟩, ⟨pH HB⟩⟩
     case round =>
      clear H'
      try clear c1
      try clear p2
      try clear p3
      try clear q3
      try clear hx3
      try clear c5
      try clear c5b0
      try clear c6
      try clear c6b0
      try clear hcz8_0
      try clear hcz8_1
      try clear hfz8_0
      try clear hfz8_1
      try clear hx366_0
      try clear p2
      try clear p366
      try clear q366
      obtain ⟨x3_2, x6_2, rfl, HA, HK2, HO_3, HO_5, BK362, HB⟩ := hrel
      cases gk with
      | zero => exact absurd HA.out (by simp [spec_l02All.l1])
      | succ k2 =>
       have H := HA.out
       clear HA
       simp only [spec_l02All.l1] at H
       by_cases c11 : x6_2 < (t367.length : Int)
       ·rw [if_pos c11] at H
        have c11b0 : decide (x6_2 < (t367.length : Int)) = true := decide_eq_true c11
        clear c11
        by_cases c12 : 0 ≤ x4_1
        ·rw [if_pos c12] at H
         have c12b0 : decide (0 ≤ x4_1) = true := decide_eq_true c12
         clear c12
         by_cases c13 : x4_1 < (l0_1.length : Int)
         ·rw [if_pos c13] at H
          have c13b0 : decide (x4_1 < (l0_1.length : Int)) = true := decide_eq_true c13
          clear c13
          by_cases c14 : 0 ≤ x6_2
          ·rw [if_pos c14] at H
           have c14b0 : decide (0 ≤ x6_2) = true := decide_eq_true c14
           clear c14
           replace H := Option.bind_eq_some_iff.mp H
           obtain ⟨⟨t372, t375⟩, A150, H⟩ := H
           try dsimp only at H
           have A15 := Aside0.mk A150
           clear A150
           have H' := Aside0.mk H
           clear H
           obtain ⟨Ao16, co16, eo16⟩ := Kd.R_slice HO_5.out
           subst eo16
           try go_wp2
           replace HO_3 := Aside0.mk (Kd.R_drew HO_3.out)
           replace HO_5 := Aside0.mk (Kd.R_drew HO_5.out)
           replace BK362 := dB BK362
           replace HB := dH HB
           have p370 : 0 ≤ (x4_1 : Int) := of_decide_eq_true (by first | (with_reducible assumption) | assumption)
           have q370 : x4_1 < (l0_1.length : Int) := of_decide_eq_true (by first | (with_reducible assumption) | assumption)
           obtain ⟨ad370, e370, hx370_0⟩ := Kd.at_int HR0_1.out x4_1 p370 q370
           have hw370_0 := hx370_0
           obtain rfl : ad366 = ad370 := (by injection e370)
           replace hx370_0 := cH HB hx370_0
           replace p370 := eq_true p370
           replace q370 := eq_true q370
           have p371 : 0 ≤ (x6_2 : Int) := of_decide_eq_true (by first | (with_reducible assumption) | assumption)
           have q371 : x6_2 < (t367.length : Int) := of_decide_eq_true (by first | (with_reducible assumption) | assumption)
           obtain ⟨ad371, e371, hx371_0⟩ := Kd.at_int (Kd.R_reads' HO_5.out).2.2 x6_2 p371 q371
           cases e371
           replace p371 := eq_true p371
           replace q371 := eq_true q371
           obtain ⟨Ao18, co18, eo18⟩ := Kd.R_slice HO_3.out
           (first | subst eo18 | (injection eo18 with f1_ f2_ f3_; have f4_ := f1_.symm; have f5_ := f3_.symm; clear f1_ f2_ f3_; subst f4_; subst f5_))
           refine st_ 17 (S := fun w' => w'.cell? ⟨gb362, 0, none⟩ = some (.int .i64 a0_0) ∧ w'.cell? ⟨gb362, 1, none⟩ = some (.slice (some ad366) l0_1.length c0_1) ∧ w'.cell? (ad366.add (x4_1).toNat) = some (.int .i64 (rd l0_1 x4_1)) ∧ w'.cell? (ad371.add (x6_2).toNat) = some (.int .i64 (rd t367 x6_2))) (ds := []) ⟨cB BK362 0, cB BK362 1, (cH HB hw370_0 :), hx371_0⟩ (fun hHeld => ?_); refine with_tabW spec_l02All.tab9 spec_l02All.bits9 (fun HT_ HW_ => ?_)
           generalize wr.drew = w17 at HO_3 HO_5 BK362 HB hx370_0 hx371_0 hHeld ⊢
           refine pu_ 1 30 2 HT_ ?_
           refine pu_ 2 31 6 HT_ ?_
           refine pu_ 4 33 22 HT_ ?_
           refine pu_ 7 36 150 HT_ ?_
           refine pu_ 8 37 406 HT_ ?_
           refine pu_ 9 38 918 HT_ ?_
           refine tk_ 0 29 919 HT_ HW_ hHeld ?_
           refine tk_ 3 32 927 HT_ HW_ hHeld ?_
           refine pu_ 5 34 959 HT_ ?_
           refine tk_ 6 35 1023 HT_ HW_ hHeld ?_
           refine tk_ 10 39 2047 HT_ HW_ hHeld ?_
           refine pu_ 11 40 4095 HT_ ?_
           refine on_ 12 (some 41) 8191 HT_ (fun K hK => ?_)
           refine ca_ Try.func111 #[.agg #[.int .i64 a0_0, .slice (some ad366) l0_1.length c0_1], .slice Ao18 x3_2.length co18, .agg #[.int .i64 (rd l0_1 x4_1), .int .i64 (rd t367 x6_2)]] ?_
           with_reducible refine (spec_l02With.calls k2 a0_0 _ _ l0_1 _ _ x3_2 (rd l0_1 x4_1) (rd t367 x6_2) t372 t375 _ ?side1 ?side2 ?side3 ?side4 A15.out).mono ?_
           (case side1 => exact pC ((Kd.C_below HR0_1.out HB.out)))
           (case side2 => exact HC0_1.out)
           (case side3 => exact pC ((Kd.R_reads' HO_3.out).2.2))
           (case side4 => exact (Kd.R_reads' HO_3.out).2.1)
           rintro e w19 ⟨v373, rfl, ho0, hb⟩
           have HS3_ := (hb.cell (World.block_lt_of_cell? _ _ (hHeld.2.2.2))).trans (hHeld.2.2.2)
           refine ⟨_, rfl, ?_⟩
           replace HO_5 := sR HO_5 hb
           have HO374 := Aside0.mk (Kd.R_lower (Kd.R_new' ho0 (Kd.R_lt (pR HO_3))) (below_size (pH HB)))
           replace HO_3 := Aside0.mk (Kd.R_elder' (pR HO_3) (Kd.R_base ho0) hb)
           replace BK362 := sB BK362 hb
           replace HB := sH HB hb
           (try clear hb)
           (try clear hb2)
           (try clear hk)
           (try clear hi)
           (try clear ho0)
           refine hK.out _ _ ⟨cB BK362 0, cB BK362 1, (cH HB hw370_0 :), HS3_⟩ (fun hHeld => ?_)
           clear hK K
           refine nm_ ?_
           refine pu_ 13 28 16383 HT_ ?_
           refine pu_ 14 42 32767 HT_ ?_
           refine pu_ 15 43 65535 HT_ ?_
           refine pu_ 16 3 131071 HT_ ?_
           refine dn_ HT_ ?_
           try go_wp2
           go_roundg k2
           case measure => have := HK1.out; have := HK2.out; omega
           case rel => exact ⟨(t372), (wrap64 (x6_2 + 1)), (by first | rfl | (simp; done) | (simp [*]; done)), H', ⟨by have := HK1.out; have := HK2.out; omega⟩, ⟨by (with_reducible repeat (first | apply Kd.R_alloc | apply Kd.R_drewN | apply Kd.R_drew)); exact Kd.R_mono HO374.out (fun _ hk => trivial)⟩, ⟨by (with_reducible repeat (first | apply Kd.R_alloc | apply Kd.R_drewN | apply Kd.R_drew)); exact HO_5.out⟩, ⟨pB BK362⟩, ⟨pH HB⟩⟩
          ·rw [if_neg c14] at H
           exact absurd H (by simp)
         ·rw [if_neg c13] at H
          exact absurd H (by simp)
        ·rw [if_neg c12] at H
         exact absurd H (by simp)
       ·rw [if_neg c11] at H
        have c11b0 : decide (x6_2 < (t367.length : Int)) = false := decide_eq_false c11
        clear c11
        have H' := Aside0.mk H
        clear H
        obtain ⟨Ao20, co20, eo20⟩ := Kd.R_slice HO_5.out
        subst eo20
        go_wp2
        go_roundg k2
        case measure => have := HK1.out; have := HK2.out; omega
        case rel => exact ⟨(x3_2), (wrap64 (x4_1 + 1)), (by first | rfl | (simp; done) | (simp [*]; done)), H', ⟨by have := HK1.out; have := HK2.out; omega⟩, ⟨by (with_reducible repeat (first | apply Kd.R_alloc | apply Kd.R_drewN | apply Kd.R_drew)); exact HO_3.out⟩, ⟨pB BK362⟩, ⟨pH HB⟩⟩
    ·rw [if_neg c6] at H
     exact absurd H (by simp)
   ·rw [if_neg c5] at H
    have c5b0 : decide (x4_1 < (l0_1.length : Int)) = false := decide_eq_false c5
    clear c5
    obtain rfl := Option.some.inj H
    have hcz21_0 : wr.cell? ⟨gb362, 0, none⟩ = some (.int .i64 a0_0) := cB BK362 0
    have hcz21_1 : wr.cell? ⟨gb362, 1, none⟩ = some (.slice A0_1 l0_1.length c0_1) := cB BK362 1
    have hfz21_0 := zB BK362 0
    have hfz21_1 := zB BK362 1
    go_wp2
    go_ret
    exact ⟨_, by first | rfl | (simp [errW_none, errW_some] <;> rfl) | (simp [*, errW_none, errW_some] <;> rfl) | (exfalso; simp_all), by (with_reducible repeat (first | apply Kd.R_alloc | apply Kd.R_drewN | apply Kd.R_drew)); exact HO_3.out, pH HB⟩
end Go.Proofs.Ytomdfjohnmikdaa.QS
namespace Go.Proofs.Ytomdfjohnmikdaa.QS
open Go.Proofs.Ytomdfjohnmikdaa.Cw Go.Proofs.Ytomdfjohnmikdaa.Kp Go.Proofs.Ytomdfjohnmikdaa.Ext Go.RowKit Go.Proofs.YtomdfjohnmikdaaW.PrintWords Go.Proofs.YtomdfjohnmikdaaW.PrintLast Go.Proofs.YtomdfjohnmikdaaW.PrintMore
attribute [local go_sem] max2_int min2_int max_two min_two max_three min_three max_four min_four   -- for this text's walks alone
set_option linter.unusedVariables false
set_option linter.unusedSimpArgs false
end Go.Proofs.Ytomdfjohnmikdaa.QS
namespace Go.Proofs.Ytomdfjohnmikdaa.QS
open Go.Proofs.Ytomdfjohnmikdaa.Cw Go.Proofs.Ytomdfjohnmikdaa.Kp Go.Proofs.Ytomdfjohnmikdaa.Ext Go.RowKit Go.Proofs.YtomdfjohnmikdaaW.PrintWords Go.Proofs.YtomdfjohnmikdaaW.PrintLast Go.Proofs.YtomdfjohnmikdaaW.PrintMore
attribute [local go_sem] max2_int min2_int max_two min_two max_three min_three max_four min_four   -- for this text's walks alone
set_option linter.unusedVariables false
set_option linter.unusedSimpArgs false
end Go.Proofs.Ytomdfjohnmikdaa.QS
namespace Go.Proofs.Ytomdfjohnmikdaa.Pu
set_option linter.unusedVariables false
set_option linter.unusedSimpArgs false
open Go.RowKit Go.Proofs.Ytomdfjohnmikdaa.Kp Go.Proofs.Ytomdfjohnmikdaa.Ext Go.Proofs.Ytomdfjohnmikdaa.QS Go.Proofs.Ytomdfjohnmikdaa.Im Go.Proofs.YtomdfjohnmikdaaW.PrintWords Go.Proofs.YtomdfjohnmikdaaW.PrintLast Go.Proofs.YtomdfjohnmikdaaW.PrintMore
theorem cmp_lt (p q : Pr) : cmpP p q < 0 ↔ p.f0 < q.f0 ∨ (p.f0 = q.f0 ∧ p.f1 < q.f1) := by
  unfold cmpP cmpI
  by_cases h1 : p.f0 < q.f0
  · simp [h1]
  · by_cases h2 : p.f0 > q.f0
    · simp [h1, h2]; omega
    · have h3 : p.f0 = q.f0 := by omega
      by_cases h4 : p.f1 < q.f1
      · simp [h3, h4]
      · by_cases h5 : p.f1 > q.f1
        · simp [h3, h4, h5]
        · simp [h3, h4, h5]
theorem cmp_trans {p q r : Pr} (h1 : cmpP p q < 0) (h2 : cmpP q r < 0) : cmpP p r < 0 := by
  rw [cmp_lt] at *
  omega
theorem cmp_irr (p : Pr) : ¬ cmpP p p < 0 := by rw [cmp_lt]; omega
theorem cmp_asym {p q : Pr} (h1 : cmpP p q < 0) : ¬ cmpP q p < 0 := by rw [cmp_lt] at *; omega
theorem cmp_eq {p q : Pr} (h1 : ¬ cmpP p q < 0) (h2 : ¬ cmpP q p < 0) : p = q := by
  obtain ⟨a, b⟩ := p
  obtain ⟨c, d⟩ := q
  rw [cmp_lt] at *
  simp only at h1 h2
  simp; omega
abbrev SortedP (l : List Pr) : Prop := l.Pairwise (fun p q => cmpP p q < 0)
theorem getP {l : List Pr} {i : Nat} (hi : i < l.length) : l.getD i z73 = l[i] := by rw [List.getD_eq_getElem?_getD, List.getElem?_eq_getElem hi]; rfl
theorem pairing_at {xs : List Int} {l : List Pr} (h : pairingB xs l = true) {i : Nat} (hi : i < l.length) : pairB xs l[i] = true ∧ (∀ q ∈ l.take i, hasF l[i].f0 q = false ∧ hasF l[i].f1 q = false) ∧ (∀ (h0 : 0 < i), cmpP (l[i - 1]'(by omega)) l[i] < 0) := by
  have h1 := List.all_eq_true.1 h i (List.mem_range.2 hi)
  unfold okPairAt at h1
  rw [getP hi] at h1
  simp only [Bool.and_eq_true, Bool.not_eq_true', List.any_eq_false, Bool.or_eq_true, beq_iff_eq, decide_eq_true_eq] at h1
  refine ⟨h1.1, fun q hq => ⟨by simpa using h1.2.1 q hq, by simpa using h1.2.2.1 q hq⟩, fun h0 => ?_⟩
  have h2 := h1.2.2.2.resolve_left (by omega)
  rwa [getP (show i - 1 < l.length by omega)] at h2
theorem sorted_of {xs : List Int} {l : List Pr} (h : pairingB xs l = true) : SortedP l := by
  refine List.pairwise_iff_getElem.2 fun i j hi hj hij => ?_
  induction j with
  | zero => omega
  | succ j ih =>
    have h1 := (pairing_at h hj).2.2 (by omega)
    simp only [Nat.add_sub_cancel] at h1
    rcases Nat.lt_or_ge i j with h2 | h2
    · exact cmp_trans (ih (by omega) h2) h1
    · obtain rfl : i = j := by omega
      exact h1
theorem pairing_len {n : Int} {xs : List Int} (hi : isC n xs = true) {l : List Pr} (h : pairingB xs l = true) : l.length ≤ 63 := by
  have h1 := nodup_len 63 (l.map (·.f0)) (by
    unfold List.Nodup
    rw [List.pairwise_map]
    refine List.pairwise_iff_getElem.2 fun i j hi hj hij => ?_
    have h2 := ((pairing_at h hj).2.1 l[i] (by rw [List.mem_take_iff_getElem]; exact ⟨i, by omega, rfl⟩)).1
    intro e
    unfold hasF at h2
    rw [e] at h2
    simp at h2) (fun x hx => by
    obtain ⟨q, hq, rfl⟩ := List.mem_map.1 hx
    have := facesP_of hi h q hq
    omega)
  simpa using h1
theorem place_cut {p : Pr} : ∀ {l : List Pr}, SortedP l → ∀ j (hj : j < l.length), cmpP l[j] p < 0 ↔ j < placeP l p
  | [], _, j, hj => by simp at hj
  | q :: l, hs, j, hj => by
    obtain ⟨h1, h2⟩ := List.pairwise_cons.1 hs
    by_cases hq : cmpP q p < 0
    · have hp : placeP (q :: l) p = placeP l p + 1 := by unfold placeP; rw [List.takeWhile_cons_of_pos (by simpa using hq), List.length_cons]
      rw [hp]
      rcases j with _ | j
      · simpa using hq
      · have := place_cut (p := p) h2 j (by simpa using hj)
        rw [List.getElem_cons_succ, this]; omega
    · have hp : placeP (q :: l) p = 0 := by unfold placeP; rw [List.takeWhile_cons_of_neg (by simpa using hq)]; rfl
      rw [hp]
      refine ⟨fun h => ?_, fun h => absurd h (Nat.not_lt_zero _)⟩
      rcases j with _ | j
      · exact absurd h hq
      · exact absurd (cmp_trans (h1 _ (List.getElem_mem _)) h) hq
theorem cut_of {l : List Pr} (hs : SortedP l) (p : Pr) : cutB l p = true := by
  refine List.all_eq_true.2 fun j hj => ?_
  have hj' := List.mem_range.1 hj
  rw [getP hj', beq_iff_eq, decide_eq_decide]
  exact place_cut hs j hj'
theorem back_is {l : List Pr} {p : Pr} {b : Nat} : ∀ m, b ≤ m → m ≤ l.length → (∀ j (hj : j < l.length), b ≤ j → j < m → cmpP p l[j] < 0) → (∀ (h0 : 0 < b) (hl : b - 1 < l.length), ¬ cmpP p l[b - 1] < 0) → backP l p m = b
  | 0, hb, _, _, _ => by unfold backP; omega
  | m + 1, hb, hm, h1, h2 => by
    unfold backP
    rw [getP (show m < l.length by omega)]
    rcases Nat.lt_or_ge m b with h3 | h3
    · obtain rfl : b = m + 1 := by omega
      have := h2 (by omega) (by omega)
      simp only [Nat.add_sub_cancel] at this
      rw [if_neg this]
    · rw [if_pos (h1 m (by omega) h3 (by omega))]
      exact back_is m h3 (by omega) (fun j hj a b => h1 j hj a (by omega)) h2
theorem put_with {l : List Pr} (hs : SortedP l) (p : Pr) : putP l p = withP l p := by
  have hle := placeP_le l p
  by_cases hp : ∃ h : placeP l p < l.length, l[placeP l p] = p
  · obtain ⟨h, hp⟩ := hp
    have hb : backP l p l.length = placeP l p + 1 := back_is _ (by omega) (Nat.le_refl _) (fun j hj h1 _ => by
        have := List.pairwise_iff_getElem.1 hs (placeP l p) j h hj (by omega)
        rwa [hp] at this) (fun _ hl => by
        simp only [Nat.add_sub_cancel]
        rw [hp]; exact cmp_irr p)
    unfold putP withP
    rw [hb, List.take_succ_eq_append_getElem h, hp, List.append_assoc]
    congr 1
    rw [List.drop_eq_getElem_cons h, hp]
    rfl
  · have hb : backP l p l.length = placeP l p := back_is _ hle (Nat.le_refl _) (fun j hj h1 _ => by
        have h2 : ¬ cmpP l[j] p < 0 := fun h => by have := (place_cut hs j hj).1 h; omega
        refine Classical.byContradiction fun h3 => ?_
        have h4 := cmp_eq h3 h2
        rcases Nat.lt_or_ge (placeP l p) j with h5 | h5
        · have h6 := List.pairwise_iff_getElem.1 hs (placeP l p) j (by omega) hj h5
          rw [← h4] at h6
          have := (place_cut hs (placeP l p) (by omega)).1 h6
          omega
        · have h6 : j = placeP l p := by omega
          subst h6
          exact hp ⟨hj, h4.symm⟩) (fun h0 hl => by
        have := (place_cut (p := p) hs (placeP l p - 1) hl).2 (by omega)
        exact cmp_asym this)
    unfold putP withP
    rw [hb]
theorem with_end {l : List Pr} {p : Pr} (h : ∀ q ∈ l, cmpP q p < 0) : withP l p = l ++ [p] := by
  have hp : placeP l p = l.length := by
    unfold placeP
    refine congrArg List.length ?_
    induction l with
    | nil => rfl
    | cons a l ih => rw [List.takeWhile_cons_of_pos (by simpa using h a (by simp)), ih (fun q hq => h q (by simp [hq]))]
  unfold withP
  rw [hp, List.take_length, List.drop_length]
theorem ok_with {n : Int} {xs : List Int} (hi : isC n xs = true) {l : List Pr} (h : pairingB xs l = true) (p : Pr) : okWith n xs l p = true := by
  have hl := pairing_len hi h
  unfold okWith
  rw [hi, decide_eq_true (show l.length ≤ 1000000 by omega), cut_of (sorted_of h) p]
  cases hw : pairingB xs (withP l p) with
  | false => rfl
  | true => simp only [Bool.true_and, Bool.not_true, Bool.false_or]; exact okBfs_of (by rw [withP_len]; omega) (facesP_of hi hw)
theorem ev_with {n : Int} {xs : List Int} (hi : isC n xs = true) {l : List Pr} (hs : SortedP l) (hl : l.length ≤ 1000000) (p : Pr) : Ev (fun k => spec_l02With.f k n xs l p.f0 p.f1) (withP l p, pairingB xs (withP l p)) := by
  unfold spec_l02With.f
  simp only [if_pos hl]
  rw [show (⟨p.f0, p.f1⟩ : Pr) = p from rfl, put_with hs p]
  exact Ev.bind (ev_is2 hi (by rw [withP_len]; omega)) (Ev.now _)
theorem pair_over_all : ((List.range 64).all fun f => (List.range 64).all fun g => ((Go.bits .andNot .i64 (f : Int) (g : Int) == 0) && (onesZ (g : Int) == onesZ (f : Int) + 1)) == overP (f : Int) (g : Int)) = true := by decide +kernel
theorem pair_over {n : Int} {xs : List Int} (hi : isC n xs = true) {f g : Int} (hf : f ∈ xs) (hg : g ∈ xs) : pairB xs ⟨f, g⟩ = overP f g := by
  have r := isC_63 hi
  obtain ⟨a, rfl⟩ := Int.eq_ofNat_of_zero_le (show 0 ≤ f by have := r f hf; omega)
  obtain ⟨b, rfl⟩ := Int.eq_ofNat_of_zero_le (show 0 ≤ g by have := r g hg; omega)
  have h := List.all_eq_true.1 (List.all_eq_true.1 pair_over_all a (List.mem_range.2 (by have := r _ hf; omega))) b (List.mem_range.2 (by have := r _ hg; omega))
  unfold pairB
  simp only [hf, hg, decide_true, Bool.true_and]
  exact eq_of_beq h
def rowP (xs : List Int) (f : Int) : List Pr := (xs.filter (overP f)).map fun g => ⟨f, g⟩
def pairsL (xs : List Int) : List Pr := xs.flatMap (rowP xs)
theorem rowP_len (xs : List Int) (f : Int) : (rowP xs f).length ≤ xs.length := by
  unfold rowP
  rw [List.length_map]
  exact List.length_filter_le _ _
theorem flat_len {xs : List Int} : ∀ (l : List Int), (l.flatMap (rowP xs)).length ≤ l.length * xs.length
  | [] => by simp
  | a :: l => by
    have h1 := rowP_len xs a
    have h2 := flat_len (xs := xs) l
    rw [List.flatMap_cons, List.length_append, List.length_cons, Nat.succ_mul]
    omega
theorem pairs_sorted {n : Int} {xs : List Int} (hi : isC n xs = true) : SortedP (pairsL xs) := by
  have ha := ascB_asc (isC_of hi).2.1
  refine List.pairwise_flatMap.2 ⟨fun f hf => ?_, ?_⟩
  · unfold rowP
    rw [List.pairwise_map]
    refine List.Pairwise.filter _ (List.Pairwise.imp ?_ ha)
    intro a b hab
    rw [cmp_lt]
    exact .inr ⟨rfl, hab⟩
  · refine List.Pairwise.imp ?_ ha
    intro a b hab x hx y hy
    unfold rowP at hx hy
    obtain ⟨g, _, rfl⟩ := List.mem_map.1 hx
    obtain ⟨g', _, rfl⟩ := List.mem_map.1 hy
    rw [cmp_lt]
    exact .inl hab
/-- The reference's list of all pairs, the inner loop. -/
theorem all_l1 {n : Int} {xs : List Int} (hi : isC n xs = true) {i : Nat} (hil : i < xs.length) (R : List Pr)
    (hR : Ev (fun k => spec_l02All.l0 k ((xs.take (i + 1)).flatMap (rowP xs)) ((i + 1 : Nat) : Int) n xs) R) :
    ∀ d (j : Nat), (xs.filter (overP xs[i])).length - j = d → j ≤ (xs.filter (overP xs[i])).length →
      Ev (fun k => spec_l02All.l1 k ((xs.take i).flatMap (rowP xs) ++ ((xs.filter (overP xs[i])).take j).map fun g => (⟨xs[i], g⟩ : Pr)) i (xs.filter (overP xs[i])) j n xs) R := by
  have hx := isC_small hi
  have hfl : (xs.filter (overP xs[i])).length ≤ xs.length := List.length_filter_le _ _
  intro d
  induction d with
  | zero =>
    intro j hd hj
    refine Ev.step (fun k => ?_) hR
    simp only [spec_l02All.l1]
    rw [if_neg (by omega), succ64 (by omega), List.take_of_length_le (by omega : (xs.filter (overP xs[i])).length ≤ j), List.take_succ_eq_append_getElem hil, List.flatMap_append, List.flatMap_singleton]
    rfl
  | succ d ih =>
    intro j hd hj
    have hj' : j < (xs.filter (overP xs[i])).length := by omega
    have hlt : ∀ q ∈ (xs.take i).flatMap (rowP xs) ++ ((xs.filter (overP xs[i])).take j).map (fun g => (⟨xs[i], g⟩ : Pr)), cmpP q ⟨xs[i], (xs.filter (overP xs[i]))[j]⟩ < 0 := by
      have ha := ascB_asc (isC_of hi).2.1
      intro q hq
      rw [cmp_lt]
      rcases List.mem_append.1 hq with hq | hq
      · obtain ⟨f, hf, hq⟩ := List.mem_flatMap.1 hq
        obtain ⟨g, hg, rfl⟩ := List.mem_map.1 (show q ∈ (xs.filter (overP f)).map _ from hq)
        obtain ⟨m, hm, rfl⟩ := List.mem_take_iff_getElem.1 hf
        exact .inl (List.pairwise_iff_getElem.1 ha m i (by omega) hil (by omega))
      · obtain ⟨g, hg, rfl⟩ := List.mem_map.1 hq
        obtain ⟨m, hm, rfl⟩ := List.mem_take_iff_getElem.1 hg
        exact .inr ⟨rfl, List.pairwise_iff_getElem.1 (ha.filter _) m j (by omega) hj' (by omega)⟩
    have hsort : SortedP ((xs.take i).flatMap (rowP xs) ++ ((xs.filter (overP xs[i])).take j).map (fun g => (⟨xs[i], g⟩ : Pr))) := by
      refine (pairs_sorted hi).sublist ?_
      have hcut : pairsL xs = (xs.take i).flatMap (rowP xs) ++ (rowP xs xs[i] ++ (xs.drop (i + 1)).flatMap (rowP xs)) := by
        have h := List.take_append_drop i xs
        rw [List.drop_eq_getElem_cons hil] at h
        refine (congrArg (fun z => z.flatMap (rowP xs)) h.symm).trans ?_
        simp only [List.flatMap_append, List.flatMap_cons]
      rw [hcut]
      refine List.Sublist.append (List.Sublist.refl _) ?_
      refine List.Sublist.trans ?_ (List.sublist_append_left _ _)
      unfold rowP
      exact (List.take_sublist _ _).map _
    have hlen : ((xs.take i).flatMap (rowP xs) ++ ((xs.filter (overP xs[i])).take j).map (fun g => (⟨xs[i], g⟩ : Pr))).length ≤ 1000000 := by
      have h1 := flat_len (xs := xs) (xs.take i)
      have h2 : (xs.take i).length * xs.length ≤ 63 * 63 := Nat.mul_le_mul (by rw [List.length_take]; omega) hx
      rw [List.length_append, List.length_map, List.length_take]
      omega
    have hw := ev_with hi hsort hlen ⟨xs[i], (xs.filter (overP xs[i]))[j]⟩
    rw [with_end hlt] at hw
    refine Ev.step (f := fun k => (spec_l02With.f k n xs ((xs.take i).flatMap (rowP xs) ++ ((xs.filter (overP xs[i])).take j).map (fun g => (⟨xs[i], g⟩ : Pr))) xs[i] (xs.filter (overP xs[i]))[j]).bind fun bt => spec_l02All.l1 k bt.1 i (xs.filter (overP xs[i])) ((j + 1 : Nat) : Int) n xs) (fun k => ?_) (Ev.bind hw ?_)
    · simp only [spec_l02All.l1]
      rw [if_pos (by omega), if_pos (by omega), if_pos (by omega), if_pos (by omega), rd_at hil, rd_at hj', succ64 (by omega)]
    · have := ih (j + 1) (by omega) (by omega)
      rw [List.take_succ_eq_append_getElem hj', List.map_append, ← List.append_assoc] at this
      exact this
theorem all_l0 {n : Int} {xs : List Int} (hi : isC n xs = true) : ∀ d (i : Nat), xs.length - i = d → i ≤ xs.length → Ev (fun k => spec_l02All.l0 k ((xs.take i).flatMap (rowP xs)) (i : Int) n xs) (pairsL xs) := by
  have hx := isC_small hi
  intro d
  induction d with
  | zero =>
    intro i hd hil
    refine Ev.step (f := fun k => some (pairsL xs)) (fun k => ?_) (Ev.now _)
    simp only [spec_l02All.l0]
    rw [if_neg (by omega), List.take_of_length_le (by omega)]
    rfl
  | succ d ih =>
    intro i hd hil
    have hil' : i < xs.length := by omega
    refine Ev.step (f := fun k => (spec_l01Above.f k n xs xs[i]).bind fun t => spec_l02All.l1 k ((xs.take i).flatMap (rowP xs)) i t 0 n xs) (fun k => ?_) (Ev.bind (ev_above n xs[i] (by have := isC_63 hi xs[i] (List.getElem_mem hil'); omega) (by omega) (isC_63 hi)) ?_)
    · simp only [spec_l02All.l0]
      rw [if_pos (by omega), if_pos (by omega), rd_at hil']
    · have := all_l1 hi hil' (pairsL xs) (ih (i + 1) (by omega) (by omega)) _ 0 rfl (Nat.zero_le _)
      simpa using this
theorem ev_all {n : Int} {xs : List Int} (hi : isC n xs = true) : Ev (fun k => spec_l02All.f k n xs) (pairsL xs) := by
  unfold spec_l02All.f
  have := all_l0 hi _ 0 rfl (Nat.zero_le _)
  simpa using this
def okP (xs : List Int) (l : List Pr) (p : Pr) : Bool := pairingB xs (withP l p) && acycB (withP l p)
theorem pairs_len {n : Int} {xs : List Int} (hi : isC n xs = true) : (pairsL xs).length ≤ 4000 := by
  have hx := isC_small hi
  have h1 := flat_len (xs := xs) xs
  have h2 : xs.length * xs.length ≤ 63 * 63 := Nat.mul_le_mul hx hx
  unfold pairsL
  omega
end Go.Proofs.Ytomdfjohnmikdaa.Pu
namespace Go.Proofs.Ytomdfjohnmikdaa.Pu
set_option linter.unusedVariables false
set_option linter.unusedSimpArgs false
open Go.RowKit Go.Proofs.Ytomdfjohnmikdaa.Kp Go.Proofs.Ytomdfjohnmikdaa.Ext Go.Proofs.Ytomdfjohnmikdaa.QS Go.Proofs.Ytomdfjohnmikdaa.Im Go.Proofs.YtomdfjohnmikdaaW.PrintWords Go.Proofs.YtomdfjohnmikdaaW.PrintLast Go.Proofs.YtomdfjohnmikdaaW.PrintMore
/-- The lists behind a list, with pairs out of the rest put in. -/
def subsL (xs : List Int) : List Pr → List Pr → List (List Pr)
  | [], _ => []
  | p :: rest, l => (if okP xs l p = true then withP l p :: subsL xs rest (withP l p) else []) ++ subsL xs rest l
def enumL (xs : List Int) (rest l : List Pr) : List (List Pr) := l :: subsL xs rest l
section
variable {σ : Type} {upd : σ → List Pr → σ} {xs : List Int} {all l : List Pr} {i : Nat} {s : σ}
theorem subs_end (hi : all.length ≤ i) : (subsL xs (all.drop i) l).foldl upd s = s := by
  rw [List.drop_eq_nil_of_le hi]; rfl
theorem subs_no (hi : i < all.length) (ho : okP xs l all[i] = false) : (subsL xs (all.drop i) l).foldl upd s = (subsL xs (all.drop (i + 1)) l).foldl upd s := by
  rw [List.drop_eq_getElem_cons hi, subsL, if_neg (by rw [ho]; exact Bool.false_ne_true), List.nil_append]
theorem subs_yes (hi : i < all.length) (ho : okP xs l all[i] = true) : (subsL xs (all.drop i) l).foldl upd s = (subsL xs (all.drop (i + 1)) l).foldl upd ((enumL xs (all.drop (i + 1)) (withP l all[i])).foldl upd s) := by
  rw [List.drop_eq_getElem_cons hi, subsL, if_pos ho, List.foldl_append]; rfl
end
theorem okP_pairing {xs : List Int} {l : List Pr} {p : Pr} (h : okP xs l p = true) : pairingB xs (withP l p) = true := by
  unfold okP at h
  rw [Bool.and_eq_true] at h
  exact h.1
end Go.Proofs.Ytomdfjohnmikdaa.Pu
namespace Go.Proofs.Ytomdfjohnmikdaa.Im
set_option linter.unusedVariables false
set_option linter.unusedSimpArgs false
open Go.RowKit Go.Shelf Go.Proofs.Ytomdfjohnmikdaa.Kp Go.Proofs.Ytomdfjohnmikdaa.Ext Go.Proofs.Ytomdfjohnmikdaa.Cw Go.Proofs.YtomdfjohnmikdaaW.PrintWords Go.Proofs.YtomdfjohnmikdaaW.PrintLast Go.Proofs.YtomdfjohnmikdaaW.PrintMore
/-- Blocks of the types that a way through the pairings reads are as they were. -/
def KeepT (w w' : World) : Prop := w.heap.size ≤ w'.heap.size ∧ ∀ (k : Nat) (cells : Array Value) (t : TypeId), t ∈ [73, 38, 28, 89, 123] → w.heap[k]? = some (.cells cells t (0, 0)) → w'.heap[k]? = some (.cells cells t (0, 0))
theorem KeepT.refl (w : World) : KeepT w w := ⟨Nat.le_refl _, fun _ _ _ _ h => h⟩
theorem KeepT.trans {w w1 w2 : World} (h : KeepT w w1) (h1 : KeepT w1 w2) : KeepT w w2 := ⟨Nat.le_trans h.1 h1.1, fun k c t ht hk => h1.2 k c t ht (h.2 k c t ht hk)⟩
theorem KeepT.below {w w1 : World} (h : Below w.heap.size w w1) : KeepT w w1 := ⟨h.size, fun k c t _ hk => (h.block k (blk_lt hk)).trans hk⟩
theorem PO.keep {w w1 : World} {base : Nat} {v : Value} {xs : List Pr} (h : PO w base v xs) (hk : KeepT w w1) : PO w1 base v xs :=
  Kd.R_mono (Kd.R_step (Kd.R_bound h) (fun k ho _ => by
    obtain ⟨_, _, _, q, hq, cells, hc⟩ := ho
    have hq' : q = 73 := by simpa [k73, Kd.iso, Kd.pair, Kd.int, Kd.scalar] using hq
    subst hq'
    exact (hk.2 k cells _ (by decide) hc).trans hc.symm)) (fun _ _ => trivial)
theorem CxAt.keepT {w w1 : World} {b : Nat} {n : Int} {A : Option Addr} {len c : Nat} (h : CxAt w b n A len c) (hk : KeepT w w1) : CxAt w1 b n A len c := hk.2 _ _ _ (by decide) h
theorem KeepT.set' {w : World} {g t : Nat} {cells : Array Value} (hb : w.heap[g]? = some (.cells cells t (0, 0))) (ht : t ∉ [73, 38, 28, 89, 123]) (j : Nat) (u : Value) : KeepT w (w.setCell ⟨g, j, none⟩ u) :=
  ⟨by simp, fun k cells' t' ht' hk => (Below.heap_setCell w ⟨g, j, none⟩ u k (blk_ne hk hb (fun e => ht (e ▸ ht')))).trans hk⟩
end Go.Proofs.Ytomdfjohnmikdaa.Im
namespace Go.Proofs.Ytomdfjohnmikdaa.Im
set_option linter.unusedVariables false
set_option linter.unusedSimpArgs false
open Go.RowKit Go.Shelf Go.Proofs.Ytomdfjohnmikdaa.Cw Go.Proofs.YtomdfjohnmikdaaW.PrintWords Go.Proofs.YtomdfjohnmikdaaW.PrintLast Go.Proofs.YtomdfjohnmikdaaW.PrintMore
section
variable {P : Program} {ops : Array Oper} {Q : Exit → Act → World → Prop} {S : World → Prop} {ds : List Nat} {md : Region.Mode} {T : Bool × List (List Nat × List Nat)} {n m fuel : Nat} {a : Act} {w : World} {oi : Oper}
/-- The only one that may come up, the last that reads or writes what is held. -/
theorem la_ (i : Nat) (N : Option Tmp) (m' : Nat) (hT : Aside0 (rtab md ops = T))
    (h : ∀ K : Act → World → Prop, Shut (∀ a' w', wpAnyLast P md ops Q S ds fuel (mB n m') a' w' → K a' w') → if Region.wanted oi (yielded ops a.tmps) = true then Oper.wp P oi a w K Q else K (a.put N undef) w)
    (hi : ops[i]? = some oi := by rfl) (hN : oi.dst = N := by rfl) (hc : (readyT T.2 (mB n m).toList == [i] && (mB n m).toList.set i true == (mB n m').toList) = true := by kernel_rfl) (hd : i ∈ ds := by decide) :
    wpAnyLast P md ops Q S ds (fuel + 1) (mB n m) a w := last_ (mB n m') hi hN (one_of hT.out hc) hd h
end
theorem nd_inj {α : Type} {l : List α} (h : l.Nodup) {x y : Nat} (hx : x < l.length) (hy : y < l.length) (e : l[x] = l[y]) : x = y := by
  have hp := List.pairwise_iff_getElem.1 (List.nodup_iff_pairwise_ne.1 h)
  rcases Nat.lt_trichotomy x y with h1 | h1 | h1
  · exact absurd e (hp x y hx hy h1)
  · exact h1
  · exact absurd e.symm (hp y x hy hx h1)
/-- A row of m numbers that is a block of its own. -/
def rowV (m x : Nat) : Value := .slice (some ⟨x, 0, none⟩) m m
def numV (l : List Int) : List Value := l.map fun v => Value.int .i64 v
/-- The outer row. -/
def MxO (w : World) (base b cap : Nat) (bs : List Nat) (m : Nat) : Prop :=
  base ≤ b ∧ bs.length ≤ cap ∧ cap ≤ maxLen ∧ ∃ rest : List Value, rest.length = cap - bs.length ∧ w.heap[b]? = some (.cells (bs.map (rowV m) ++ rest).toArray 22 (0, 0))
/-- The inner rows. -/
def MxI (w : World) (base : Nat) (bs : List Nat) (m : Nat) (M : List (List Int)) : Prop :=
  bs.length = M.length ∧ bs.Nodup ∧ ∀ i (h1 : i < bs.length) (h2 : i < M.length), base ≤ bs[i] ∧ M[i].length = m ∧ w.heap[bs[i]]? = some (.cells (numV M[i]).toArray 2 (0, 0))
section
variable {w w1 : World} {base b cap m : Nat} {bs : List Nat} {M : List (List Int)}
theorem MxO.below (h : MxO w base b cap bs m) (hb : Below w.heap.size w w1) : MxO w1 base b cap bs m := by
  obtain ⟨h1, h2, h3, rest, h4, h5⟩ := h
  exact ⟨h1, h2, h3, rest, h4, (hb.block b (blk_lt h5)).trans h5⟩
theorem MxO.drew (h : MxO w base b cap bs m) : MxO w.drew base b cap bs m := h
theorem MxI.below (h : MxI w base bs m M) (hb : Below w.heap.size w w1) : MxI w1 base bs m M := by
  refine ⟨h.1, h.2.1, fun i h1 h2 => ?_⟩
  obtain ⟨a1, a2, a3⟩ := h.2.2 i h1 h2
  exact ⟨a1, a2, (hb.block _ (blk_lt a3)).trans a3⟩
theorem MxI.drew (h : MxI w base bs m M) : MxI w.drew base bs m M := h
theorem MxO.cell (h : MxO w base b cap bs m) {i : Nat} (hi : i < bs.length) : w.cell? ⟨b, i, none⟩ = some (rowV m bs[i]) ∧ w.frozen? ⟨b, i, none⟩ = false := by
  obtain ⟨h1, h2, h3, rest, h4, h5⟩ := h
  refine ⟨(cell_of_row w b i _ _ _ h5).trans ?_, blk_frozen h5 i⟩
  simp [List.getElem?_append_left, hi]
theorem MxO.far (h : MxO w base b cap bs m) {x j : Nat} (hne : b ≠ x) (u : Value) : MxO (w.setCell ⟨x, j, none⟩ u) base b cap bs m := by
  obtain ⟨h1, h2, h3, rest, h4, h5⟩ := h
  exact ⟨h1, h2, h3, rest, h4, (Below.heap_setCell w ⟨x, j, none⟩ u b hne).trans h5⟩
theorem MxO.put (h : MxO w base b cap bs m) {i : Nat} (hi : i < bs.length) (y : Nat) : MxO (w.setCell ⟨b, i, none⟩ (rowV m y)) base b cap (bs.set i y) m := by
  obtain ⟨h1, h2, h3, rest, h4, h5⟩ := h
  refine ⟨h1, by simpa using h2, h3, rest, by simpa using h4, ?_⟩
  have := blk_put h5 i (rowV m y) rfl
  rw [this]
  congr 2
  apply Array.ext'
  simp [List.set_append_left, hi]
theorem MxI.len (h : MxI w base bs m M) : bs.length = M.length := h.1
theorem MxI.row (h : MxI w base bs m M) {i : Nat} (hi : i < M.length) : M[i].length = m := (h.2.2 i (by rw [h.1]; exact hi) hi).2.1
theorem MxI.cell (h : MxI w base bs m M) {i j : Nat} (hb : i < bs.length) (hi : i < M.length) (hj : j < m) : w.cell? ⟨bs[i], j, none⟩ = some (.int .i64 (M[i][j]'(by rw [h.row hi]; exact hj))) ∧ w.frozen? ⟨bs[i], j, none⟩ = false := by
  obtain ⟨a1, a2, a3⟩ := h.2.2 i hb hi
  refine ⟨(cell_of_row w _ j _ _ _ a3).trans ?_, blk_frozen a3 j⟩
  have hj' : j < M[i].length := by rw [a2]; exact hj
  simp [numV, hj']
theorem MxI.ne (h : MxI w base bs m M) (ho : MxO w base b cap bs m) {i : Nat} (hi : i < bs.length) : b ≠ bs[i] := by
  obtain ⟨_, _, a3⟩ := h.2.2 i hi (by rw [← h.1]; exact hi)
  obtain ⟨_, _, _, rest, _, h5⟩ := ho
  exact blk_ne h5 a3 (by decide)
theorem MxI.ne' {bs' : List Nat} (h : MxI w base bs m M) (ho : MxO w base b cap bs' m) {i : Nat} (hi : i < bs.length) : b ≠ bs[i] := by
  obtain ⟨_, _, a3⟩ := h.2.2 i hi (by rw [← h.1]; exact hi)
  obtain ⟨_, _, _, rest, _, h5⟩ := ho
  exact blk_ne h5 a3 (by decide)
theorem MxI.outer {bs' : List Nat} (h : MxI w base bs m M) (ho : MxO w base b cap bs' m) (j : Nat) (u : Value) : MxI (w.setCell ⟨b, j, none⟩ u) base bs m M := by
  refine ⟨h.1, h.2.1, fun i h1 h2 => ?_⟩
  obtain ⟨a1, a2, a3⟩ := h.2.2 i h1 h2
  exact ⟨a1, a2, (Below.heap_setCell w ⟨b, j, none⟩ u _ (h.ne' ho h1).symm).trans a3⟩
theorem MxI.put (h : MxI w base bs m M) {i j : Nat} (hb : i < bs.length) (hi : i < M.length) (hj : j < m) (v : Int) : MxI (w.setCell ⟨bs[i], j, none⟩ (.int .i64 v)) base bs m (M.set i (M[i].set j v)) := by
  refine ⟨by simpa using h.1, h.2.1, fun k h1 h2 => ?_⟩
  have h2' : k < M.length := by simpa using h2
  obtain ⟨a1, a2, a3⟩ := h.2.2 k h1 h2'
  by_cases hk : k = i
  · subst hk
    refine ⟨a1, by simpa using a2, ?_⟩
    have := blk_put a3 j (.int .i64 v) rfl
    rw [this]
    congr 2
    apply Array.ext'
    simp [numV, List.map_set]
  · have hne : bs[k] ≠ bs[i] := fun e => hk (nd_inj h.2.1 h1 hb e)
    rw [List.getElem_set_ne (Ne.symm hk)]
    exact ⟨a1, a2, (Below.heap_setCell w ⟨bs[i], j, none⟩ _ _ hne).trans a3⟩
end
end Go.Proofs.Ytomdfjohnmikdaa.Im
namespace Go.Proofs.Ytomdfjohnmikdaa.Im
set_option linter.unusedVariables false
set_option linter.unusedSimpArgs false
open Go.RowKit Go.Shelf Go.Proofs.Ytomdfjohnmikdaa.Kp Go.Proofs.Ytomdfjohnmikdaa.Cw Go.Proofs.Ytomdfjohnmikdaa.Ext Go.Proofs.Ytomdfjohnmikdaa.Pu Go.Proofs.YtomdfjohnmikdaaW.PrintWords Go.Proofs.YtomdfjohnmikdaaW.PrintLast Go.Proofs.YtomdfjohnmikdaaW.PrintMore
theorem run_store_fn {P : Program} {w : World} {a : Addr} {m : Mode} (f : Fn) (fs lb : Array Value) : (store a (.func f fs lb) m).run P w = stored P w a (.func f fs lb) m := run_store P w a _ m rfl
/-- What is called with each pairing. -/
structure DoOk (w0 : World) (xs : List Int) (F : Value) {σ : Type} (upd : σ → List Pr → σ) (Inv : World → σ → Prop) (g : FuncId) (fs lb : Array Value) : Prop where
  eq : F = .func (.func g) fs lb
  en : ∀ args w, (callFunc g args).run Try.prog w = .ok (.enter g args) w
  below : ∀ W W1 s, Inv W s → Below W.heap.size W W1 → Inv W1 s
  call : ∀ W s v l, Inv W s → Below w0.heap.size w0 W → PO W w0.heap.size v l → pairingB xs l = true →
    Calls Try.prog g (fs ++ #[v] ++ lb) W fun e w' => e = .returned (.tuple #[]) ∧ Inv w' (upd s l) ∧ KeepT W w' ∧ Below w0.heap.size w0 w'
/-- The closure. -/
abbrev acV (pd pa pk pg : Nat) : Value := .func (.func 128) #[] #[.pointer (some ⟨pd, 0, none⟩), .pointer (some ⟨pa, 0, none⟩), .pointer (some ⟨pk, 0, none⟩), .pointer (some ⟨pg, 0, none⟩)]
/-- What the closure's variables hold. -/
structure ES (W w0 : World) (pd pa pk pg : Nat) (F : Value) (n : Int) (A : Option Addr) (c len : Nat) (va : Value) (all : List Pr) : Prop where
  bd : W.heap[pd]? = some (.cells #[F] 89 (0, 0))
  ba : W.heap[pa]? = some (.cells #[va] 38 (0, 0))
  bk : CxAt W pk n A len c
  bg : W.heap[pg]? = some (.cells #[acV pd pa pk pg] 123 (0, 0))
  ra : PO W w0.heap.size va all
  hb : Below w0.heap.size w0 W
section
variable {W W1 w0 : World} {pd pa pk pg : Nat} {F : Value} {n : Int} {A : Option Addr} {c len : Nat} {va : Value} {all : List Pr}
theorem ES.keep (h : ES W w0 pd pa pk pg F n A c len va all) (hk : KeepT W W1) (hb : Below w0.heap.size w0 W1) : ES W1 w0 pd pa pk pg F n A c len va all :=
  ⟨hk.2 _ _ _ (by decide) h.bd, hk.2 _ _ _ (by decide) h.ba, h.bk.keepT hk, hk.2 _ _ _ (by decide) h.bg, h.ra.keep hk, hb⟩
theorem ES.below (h : ES W w0 pd pa pk pg F n A c len va all) (hb : Below W.heap.size W W1) : ES W1 w0 pd pa pk pg F n A c len va all := h.keep (KeepT.below hb) (below_in h.hb hb)
theorem ES.drew (h : ES W w0 pd pa pk pg F n A c len va all) : ES W.drew w0 pd pa pk pg F n A c len va all := h.below (below_drew (Below.refl _ _))
theorem ES.cd (h : ES W w0 pd pa pk pg F n A c len va all) : W.cell? ⟨pd, 0, none⟩ = some F := (cell_of_row W pd 0 _ _ _ h.bd).trans rfl
theorem ES.ca (h : ES W w0 pd pa pk pg F n A c len va all) : W.cell? ⟨pa, 0, none⟩ = some va := (cell_of_row W pa 0 _ _ _ h.ba).trans rfl
theorem ES.cg (h : ES W w0 pd pa pk pg F n A c len va all) : W.cell? ⟨pg, 0, none⟩ = some (acV pd pa pk pg) := (cell_of_row W pg 0 _ _ _ h.bg).trans rfl
end
abbrev acA (v : Value) (i : Nat) (pd pa pk pg : Nat) : Array Value := #[v, .int .i64 i, .pointer (some ⟨pd, 0, none⟩), .pointer (some ⟨pa, 0, none⟩), .pointer (some ⟨pk, 0, none⟩), .pointer (some ⟨pg, 0, none⟩)]
def AcPost (W w0 : World) (pd pa pk pg : Nat) (F : Value) (n : Int) (A : Option Addr) (c len : Nat) (va : Value) (all : List Pr) (I : World → Prop) (e : Ending) (w' : World) : Prop :=
  e = .returned (.tuple #[]) ∧ I w' ∧ ES w' w0 pd pa pk pg F n A c len va all ∧ KeepT W w'
/-- The closure, as it stands for a place. -/
def AcOk (w0 : World) (pd pa pk pg : Nat) (F : Value) (n : Int) (A : Option Addr) (c : Nat) (xs : List Int) (va : Value) (all : List Pr) {σ : Type} (upd : σ → List Pr → σ) (Inv : World → σ → Prop) (d : Nat) : Prop :=
  ∀ (l : List Pr) (s : σ) (v : Value) (i : Nat) (W : World), ES W w0 pd pa pk pg F n A c xs.length va all → Inv W s → PO W w0.heap.size v l → pairingB xs l = true → i ≤ all.length → all.length - i = d →
    Calls Try.prog 128 (acA v i pd pa pk pg) W (AcPost W w0 pd pa pk pg F n A c xs.length va all (fun w' => Inv w' ((enumL xs (all.drop i) l).foldl upd s)))
set_option maxRecDepth 100000 in
set_option maxHeartbeats 8000000 in
theorem ac_step (w0 : World) (pd pa pk pg : Nat) (F : Value) (n : Int) (A : Option Addr) (c : Nat) (xs : List Int) (va : Value) (all : List Pr) {σ : Type} (upd : σ → List Pr → σ) (Inv : World → σ → Prop) (g : FuncId) (fs lb : Array Value)
    (hdo : DoOk w0 xs F upd Inv g fs lb) (hr : RC w0 A xs.length xs) (hc : xs.length ≤ c) (hi : isC n xs = true) (hal : all.length ≤ 1048576) (d : Nat) (ih : ∀ d' < d, AcOk w0 pd pa pk pg F n A c xs va all upd Inv d') : AcOk w0 pd pa pk pg F n A c xs va all upd Inv d := by
  intro l s v i W hes hin hl hpl hil hd
  have HES := Aside0.mk hes
  have HIN := Aside0.mk hin
  have HL := Aside0.mk hl
  have HPL := Aside0.mk hpl
  have HIH := Aside0.mk ih
  have HDO := Aside0.mk hdo
  have HR := Aside0.mk hr
  have HC := Aside0.mk hc
  have HI := Aside0.mk hi
  have HD := Aside0.mk hd
  have hcd := hes.cd
  have eg := hdo.en
  have hF := hdo.eq
  subst hF
  obtain ⟨Al, cl, rfl⟩ := Kd.R_slice hl
  have hca0 := hes.ca
  obtain ⟨Aa, ca, rfl⟩ := Kd.R_slice hes.ra
  obtain ⟨R, hR⟩ : ∃ R, (enumL xs (all.drop i) l).foldl upd s = R := ⟨_, rfl⟩
  have HR0 : Aside0 (R = (subsL xs (all.drop i) l).foldl upd (upd s l)) := ⟨hR.symm⟩
  rw [hR]
  clear hes hin hl hpl ih hdo hr hc hi hd hR
  go_enter Try.func128, Try.ntmps128
  go_wp2_with (go_at_fn g; refine (HDO.out.call _ s _ l HIN.out HES.out.hb HL.out HPL.out).mono ?_; rintro e w1 ⟨rfl, hin, hk, hb⟩; have HIN1 := Aside0.mk hin; have HES1 := Aside0.mk (HES.out.keep hk hb); have HL1 := Aside0.mk (PO.keep HL.out hk); have HK1 := Aside0.mk hk; clear hin hk hb hca0 hcd)
  go_loopw [8] (fun s8 wr => ∃ (j : Nat) (s : σ), j ≤ all.length ∧ i ≤ j ∧ s8 = .int .i64 j ∧ Aside0 (R = (subsL xs (all.drop j) l).foldl upd s) ∧ Aside0 (ES wr w0 pd pa pk pg (.func (.func g) fs lb) n A c xs.length (.slice Aa all.length ca) all) ∧ Aside0 (Inv wr s) ∧ Aside0 (PO wr w0.heap.size (.slice Al l.length cl) l) ∧ Aside0 (KeepT W wr)) (fun s8 _ => all.length - (intOf s8).toNat)
  case atStart => exact ⟨i, _, hil, Nat.le_refl _, rfl, HR0, HES1, HIN1, HL1, HK1⟩
  case round =>
    clear HR0 HES1 HIN1 HL1 HK1 HES HIN HL
    obtain ⟨j, s, hj, hij, rfl, HR0, HES, HIN, HL, HK⟩ := hrel
    by_cases hlt : j < all.length
    · have hltz : (j : Int) < (all.length : Int) := by omega
      have hca := HES.out.ca
      obtain ⟨ad, rfl, hp0, hp1⟩ := at_T73 (Kd.R_reads' HES.out.ra).2.2 (j : Int) (by omega) (by omega)
      obtain ⟨p, hp⟩ : ∃ p, rd_T73 all (j : Int) = p := ⟨_, rfl⟩
      have hpj : all[j] = p := by rw [← rdP_at hlt, hp]
      rw [hp, show ((j : Int)).toNat = j by omega] at hp0 hp1
      have hk0 := HES.out.bk.c0
      have hk1 := HES.out.bk.c1
      obtain ⟨j1, hj1⟩ : ∃ j1 : Nat, j1 = j + 1 := ⟨_, rfl⟩
      have hw1 : IntKind.i64.wrap ((j : Int) + 1) = (j1 : Int) := by rw [IntKind.wrap_i64]; omega
      have HJ1 := Aside0.mk hj1
      have HWI := Aside0.mk (show Calls Try.prog 68 _ wr.drew (WithPost wr.drew (withP l p) (okP xs l p)) from with_c n A c xs Al cl l p wr.drew (Kd.C_below HR.out HES.out.drew.hb) HC.out (Kd.R_reads' (Kd.R_drew HL.out)).2.2 (Kd.R_reads' HL.out).2.1 (ok_with HI.out HPL.out p))
      cases ho : okP xs l p with
      | true =>
        rw [ho] at HWI
        have HRN := Aside0.mk (HR0.out.trans (by rw [subs_yes hlt (by rw [hpj]; exact ho), hpj, ← hj1]))
        clear hj1
        have HOP := Aside0.mk (okP_pairing ho)
        clear ho hp hpj HR0
        go_upto_region 4 with fail
        refine st_ 12 (S := fun w' => w'.cell? ⟨pk, 0, none⟩ = some (.int .i64 n) ∧ w'.cell? ⟨pk, 1, none⟩ = some (.slice A xs.length c) ∧ w'.cell? ⟨pa, 0, none⟩ = some (.slice (some ad) all.length ca) ∧ w'.cell? (ad.add (j * 2)) = some (.int .i64 p.f0) ∧ w'.cell? ⟨(ad.add (j * 2)).block, (ad.add (j * 2)).off + 1, none⟩ = some (.int .i64 p.f1)) (ds := [6]) ⟨hk0, hk1, hca, hp0, hp1⟩ (fun hHeld => ?_)
        refine with_tabW (T := (true, [([], []), ([], []), ([], []), ([], []), ([2, 3], [2, 3]), ([4], [4]), ([0, 1, 5], [0, 1, 5]), ([6], [6]), ([7], [7]), ([7], [7]), ([8, 6, 0, 1, 2, 3, 4, 5, 6, 7, 8], [8]), ([9, 10, 0, 1, 2, 3, 4, 5, 6, 7, 8, 9, 10], [9])])) (B := [0, 0, 0, 0, 12, 28, 63, 127, 255, 255, 511, 2047]) (by kernel_rfl) (by kernel_rfl) (fun HT_ HW_ => ?_)
        refine pd_ 1 23 2 HT_ ?_
        refine pd_ 3 25 10 HT_ ?_
        refine tk_ 0 22 11 HT_ HW_ hHeld ?_
        refine tk_ 2 24 15 HT_ HW_ hHeld ?_
        refine pd_ 4 26 31 HT_ ?_
        refine tk_ 5 27 63 HT_ HW_ hHeld ?_
        refine la_ 6 (some 28) 127 HT_ (fun K hK => ?_)
        refine ca_ Try.func68 #[.agg #[.int .i64 n, .slice A xs.length c], .slice Al l.length cl, .agg #[.int .i64 p.f0, .int .i64 p.f1]] ?_
        refine HWI.out.mono ?_; rintro e w5 ⟨v5, rfl, hv, hb⟩; have hb0 : Below wr.heap.size wr w5 := (below_drew (Below.refl _ _)).trans hb; have HV5 := Aside0.mk (Kd.R_lower hv HES.out.drew.hb.size); have HES5 := Aside0.mk (HES.out.below hb0); have HIN5 := Aside0.mk (HDO.out.below _ _ _ HIN.out hb0); have HL5 := Aside0.mk (Kd.R_below HL.out hb0); have HK5 := Aside0.mk (HK.out.trans (KeepT.below hb0)); clear hv hb hb0 HWI HES HIN HL HK hp0 hp1 hk0 hk1 hca
        refine ⟨_, rfl, ?_⟩
        refine hK.out _ _ ?_
        clear hK K
        refine nm_ ?_
        refine pd_ 7 21 255 HT_ ?_
        refine pd_ 8 29 511 HT_ ?_
        refine pd_ 9 30 1023 HT_ ?_
        refine pd_ 10 9 2047 HT_ ?_
        refine pd_ 11 10 4095 HT_ ?_
        refine dn_ HT_ ?_
        obtain ⟨A5, c5, rfl⟩ := Kd.R_slice HV5.out
        have hcg5 := HES5.out.cg
        have HCALL := Aside0.mk (HIH.out (all.length - j1) (by have := HD.out; have := HJ1.out; omega) (withP l p) s _ j1 w5 HES5.out HIN5.out HV5.out HOP.out (by have := HJ1.out; omega) rfl)
        clear HES5
        go_wp2_with (go_at_call 128; refine HCALL.out.mono ?_; rintro e w6 ⟨rfl, hin, hes, hk⟩; have HES6 := Aside0.mk hes; have HIN6 := Aside0.mk hin; have HL6 := Aside0.mk (PO.keep HL5.out hk); have HK6 := Aside0.mk (HK5.out.trans hk); clear hin hes hk HCALL hcg5 HIN5 HL5 HK5)
        have hj1 := HJ1.out
        exact ⟨⟨j1, _, by omega, by omega, by go_num, HRN, HES6, HIN6, HL6, HK6⟩, by simp [intOf]; omega⟩
      | false =>
        rw [ho] at HWI
        have HRN := Aside0.mk (HR0.out.trans (by rw [subs_no hlt (by rw [hpj]; exact ho), ← hj1]))
        clear hj1
        clear ho hp hpj HR0
        go_upto_region 4 with fail
        refine st_ 12 (S := fun w' => w'.cell? ⟨pk, 0, none⟩ = some (.int .i64 n) ∧ w'.cell? ⟨pk, 1, none⟩ = some (.slice A xs.length c) ∧ w'.cell? ⟨pa, 0, none⟩ = some (.slice (some ad) all.length ca) ∧ w'.cell? (ad.add (j * 2)) = some (.int .i64 p.f0) ∧ w'.cell? ⟨(ad.add (j * 2)).block, (ad.add (j * 2)).off + 1, none⟩ = some (.int .i64 p.f1)) (ds := [6]) ⟨hk0, hk1, hca, hp0, hp1⟩ (fun hHeld => ?_)
        refine with_tabW (T := (true, [([], []), ([], []), ([], []), ([], []), ([2, 3], [2, 3]), ([4], [4]), ([0, 1, 5], [0, 1, 5]), ([6], [6]), ([7], [7]), ([7], [7]), ([8, 6, 0, 1, 2, 3, 4, 5, 6, 7, 8], [8]), ([9, 10, 0, 1, 2, 3, 4, 5, 6, 7, 8, 9, 10], [9])])) (B := [0, 0, 0, 0, 12, 28, 63, 127, 255, 255, 511, 2047]) (by kernel_rfl) (by kernel_rfl) (fun HT_ HW_ => ?_)
        refine pd_ 1 23 2 HT_ ?_
        refine pd_ 3 25 10 HT_ ?_
        refine tk_ 0 22 11 HT_ HW_ hHeld ?_
        refine tk_ 2 24 15 HT_ HW_ hHeld ?_
        refine pd_ 4 26 31 HT_ ?_
        refine tk_ 5 27 63 HT_ HW_ hHeld ?_
        refine la_ 6 (some 28) 127 HT_ (fun K hK => ?_)
        refine ca_ Try.func68 #[.agg #[.int .i64 n, .slice A xs.length c], .slice Al l.length cl, .agg #[.int .i64 p.f0, .int .i64 p.f1]] ?_
        refine HWI.out.mono ?_; rintro e w5 ⟨v5, rfl, hv, hb⟩; have hb0 : Below wr.heap.size wr w5 := (below_drew (Below.refl _ _)).trans hb; have HES5 := Aside0.mk (HES.out.below hb0); have HIN5 := Aside0.mk (HDO.out.below _ _ _ HIN.out hb0); have HL5 := Aside0.mk (Kd.R_below HL.out hb0); have HK5 := Aside0.mk (HK.out.trans (KeepT.below hb0)); clear hv hb hb0 HWI HES HIN HL HK hp0 hp1 hk0 hk1 hca
        refine ⟨_, rfl, ?_⟩
        refine hK.out _ _ ?_
        clear hK K
        refine nm_ ?_
        refine pd_ 7 21 255 HT_ ?_
        refine pd_ 8 29 511 HT_ ?_
        refine pd_ 9 30 1023 HT_ ?_
        refine pd_ 10 9 2047 HT_ ?_
        refine pd_ 11 10 4095 HT_ ?_
        refine dn_ HT_ ?_
        go_wp2
        have hj1 := HJ1.out
        exact ⟨⟨j1, _, by omega, by omega, by go_num, HRN, HES5, HIN5, HL5, HK5⟩, by simp [intOf]; omega⟩
    · obtain rfl : j = all.length := by omega
      have hltz : ¬ (all.length : Int) < (all.length : Int) := by omega
      have hR := HR0.out
      rw [subs_end (Nat.le_refl _)] at hR
      subst hR
      have hca := HES.out.ca
      clear HR0
      go_wp2
      exact bodyPost_end (results_none rfl _ _ _) rfl ⟨rfl, HIN.out, HES.out, HK.out⟩
end Go.Proofs.Ytomdfjohnmikdaa.Im
namespace Go.Proofs.Ytomdfjohnmikdaa.QS
open Go.Proofs.Ytomdfjohnmikdaa.Cw Go.Proofs.Ytomdfjohnmikdaa.Kp Go.Proofs.Ytomdfjohnmikdaa.Ext Go.RowKit Go.Proofs.YtomdfjohnmikdaaW.PrintWords Go.Proofs.YtomdfjohnmikdaaW.PrintLast Go.Proofs.YtomdfjohnmikdaaW.PrintMore
attribute [local go_sem] max2_int min2_int max_two min_two max_three min_three max_four min_four   -- for this text's walks alone
set_option linter.unusedVariables false
set_option linter.unusedSimpArgs false
end Go.Proofs.Ytomdfjohnmikdaa.QS
namespace Go.Proofs.Ytomdfjohnmikdaa.Pu
set_option linter.unusedVariables false
set_option linter.unusedSimpArgs false
open Go.RowKit Go.Proofs.Ytomdfjohnmikdaa.Kp Go.Proofs.Ytomdfjohnmikdaa.Ext Go.Proofs.Ytomdfjohnmikdaa.QS Go.Proofs.YtomdfjohnmikdaaW.PrintWords Go.Proofs.YtomdfjohnmikdaaW.PrintLast Go.Proofs.YtomdfjohnmikdaaW.PrintMore
end Go.Proofs.Ytomdfjohnmikdaa.Pu
namespace Go.Proofs.Ytomdfjohnmikdaa.QS
open Go.Proofs.Ytomdfjohnmikdaa.Cw Go.Proofs.Ytomdfjohnmikdaa.Kp Go.Proofs.Ytomdfjohnmikdaa.Ext Go.RowKit Go.Proofs.YtomdfjohnmikdaaW.PrintWords Go.Proofs.YtomdfjohnmikdaaW.PrintLast Go.Proofs.YtomdfjohnmikdaaW.PrintMore
attribute [local go_sem] max2_int min2_int max_two min_two max_three min_three max_four min_four   -- for this text's walks alone
set_option linter.unusedVariables false
set_option linter.unusedSimpArgs false
end Go.Proofs.Ytomdfjohnmikdaa.QS
