/- Words and lemmas for FnExactCancelFaces, part 4: what the row's text comes to. -/
import Derived.Shelf.SlSortCmp.WholeK
import Derived.Sort.OwnSortedInts
import Derived.Test.YtdnbmobdiidfmaaGreatProg
import Derived.Test.YtdnbmobdiidfmaaGreatZFnExactCancelFacesc
set_option linter.unusedVariables false
set_option linter.unusedSimpArgs false
namespace Go.Proofs.YtdnbmobdiidfmaaGreat.QS
open Cw Kp Ext Go.RowKit YtdnbmobdiidfmaaGreatW.PrintWords YtdnbmobdiidfmaaGreatW.PrintLast YtdnbmobdiidfmaaGreatW.PrintMore
attribute [local go_sem] max2_int min2_int max_two min_two max_three min_three max_four min_four   -- for this text's walks alone
def spec_l02Pair.f (k : Nat) (a0_0 : Int) (l0_1 : List Int) (a1_0 : Int) (a1_1 : Int) : Option (Bool) := (spec_l01Has.f k a0_0 l0_1 a1_0).bind fun t139 => (if t139 = true then ((spec_l01Has.f k a0_0 l0_1 a1_1).bind fun t140 => (if t140 = true then (if (Go.bits .and .i64 a1_0 a1_1) = a1_0 then ((spec_l01Ones.f k a1_1).bind fun t141 => ((spec_l01Ones.f k a1_0).bind fun t142 => (some (t141 == (wrap64 (t142 + 1)))))) else (some false)) else (some false))) else (some false))
def spec_l02Pair.T1 : Bool × List (List Nat × List Nat) := (true, [([], []), ([], []), ([1], [1]), ([0, 2], [0, 2]), ([3, 3], [3]), ([4], [4]), ([4], [4]), ([6, 4], [4, 6]), ([5, 7, 4, 4], [4, 5, 7]), ([4, 8], [4, 8]), ([9, 8], [9]), ([10], [10]), ([11, 10], [10, 11]), ([10], [10]), ([13, 10], [10, 13]), ([12, 14, 10], [10, 12, 14]), ([10], [10]), ([16, 10], [10, 16]), ([15, 17, 10], [10, 15, 17]), ([10, 18], [10, 18]), ([19, 10], [19]), ([20], [20]), ([21, 20], [20, 21]), ([22, 20, 20], [20, 22]), ([20], [20]), ([24, 20], [20, 24]), ([25, 23, 20], [20, 25]), ([26, 20], [20, 26]), ([23, 27, 20], [20, 23, 27]), ([20, 28], [20, 28]), ([29, 26, 0, 1, 2, 3, 4, 5, 6, 7, 8, 9, 10, 11, 12, 13, 14, 15, 16, 17, 18, 19, 20, 21, 22, 23, 24, 25, 26, 27, 28, 29], [29])])
def spec_l02Pair.B1 : List Nat := [0, 0, 2, 7, 15, 31, 31, 95, 255, 511, 1023, 2047, 4095, 2047, 10239, 32767, 2047, 67583, 262143, 524287, 1048575, 2097151, 4194303, 8388607, 2097151, 18874367, 67108863, 134217727, 268435455, 536870911, 1073741823]
theorem spec_l02Pair.tab1 : rtab .any (opsOf Tryz.f60 1) = spec_l02Pair.T1 := by kernel_rfl
theorem spec_l02Pair.bits1 : waitsOk spec_l02Pair.T1.2 spec_l02Pair.B1 = true := by kernel_rfl
set_option maxHeartbeats 8000000 in
set_option maxRecDepth 100000 in
theorem spec_l02Pair.calls (k : Nat) (a0_0 : Int) (A0_1 : Option Addr) (c0_1 : Nat) (l0_1 : List Int) (a1_0 : Int) (a1_1 : Int) (r : Bool) (w : World) (hr0_1 : Kd.C (Kd.int .i64) w A0_1 l0_1.length l0_1) (hc0_1 : l0_1.length ≤ c0_1) (h : spec_l02Pair.f k a0_0 l0_1 a1_0 a1_1 = some r) :
  Calls Tryz.prog 60 #[.agg #[.int .i64 a0_0, .slice A0_1 l0_1.length c0_1], .agg #[.int .i64 a1_0, .int .i64 a1_1]] w fun e w' => e = .returned (.bool r) ∧ Below w.heap.size w w' := by
 have hu31 := Tryz.underlying31
 have hu45 := Tryz.underlying45
 have HR0_1 := Aside0.mk hr0_1
 have HC0_1 := Aside0.mk hc0_1
 clear hr0_1 hc0_1
 have HB := Aside0.mk (Below.refl w.heap.size w)
 have H : ((spec_l01Has.f k a0_0 l0_1 a1_0).bind fun t139 => (if t139 = true then ((spec_l01Has.f k a0_0 l0_1 a1_1).bind fun t140 => (if t140 = true then (if (Go.bits .and .i64 a1_0 a1_1) = a1_0 then ((spec_l01Ones.f k a1_1).bind fun t141 => ((spec_l01Ones.f k a1_0).bind fun t142 => (some (t141 == (wrap64 (t142 + 1)))))) else (some false)) else (some false))) else (some false))) = some r := h
 clear h
 replace H := Option.bind_eq_some_iff.mp H
 obtain ⟨t139, A30, H⟩ := H
 try dsimp only at H
 have A3 := Aside0.mk A30
 clear A30
 by_cases c4 : t139 = true
 ·subst c4
  have H1 : ((spec_l01Has.f k a0_0 l0_1 a1_1).bind fun t140 => (if t140 = true then (if (Go.bits .and .i64 a1_0 a1_1) = a1_0 then ((spec_l01Ones.f k a1_1).bind fun t141 => ((spec_l01Ones.f k a1_0).bind fun t142 => (some (t141 == (wrap64 (t142 + 1)))))) else (some false)) else (some false))) = some r := by rw [if_pos rfl] at H; exact H
  clear H
  have H := H1
  clear H1
  replace H := Option.bind_eq_some_iff.mp H
  obtain ⟨t140, A50, H⟩ := H
  try dsimp only at H
  have A5 := Aside0.mk A50
  clear A50
  by_cases c6 : t140 = true
  ·subst c6
   have H1 : (if (Go.bits .and .i64 a1_0 a1_1) = a1_0 then ((spec_l01Ones.f k a1_1).bind fun t141 => ((spec_l01Ones.f k a1_0).bind fun t142 => (some (t141 == (wrap64 (t142 + 1)))))) else (some false)) = some r := by rw [if_pos rfl] at H; exact H
   clear H
   have H := H1
   clear H1
   by_cases c7 : (Go.bits .and .i64 a1_0 a1_1) = a1_0
   ·rw [if_pos c7] at H
    have c7b0 : ((Go.bits .and .i64 a1_0 a1_1) == a1_0) = true := beq_iff_eq.mpr c7
    have c7b1 : ((Go.bits .and .i64 a1_0 a1_1) != a1_0) = false := bne_eq_false_iff_eq.mpr c7
    clear c7
    replace H := Option.bind_eq_some_iff.mp H
    obtain ⟨t141, A80, H⟩ := H
    try dsimp only at H
    have A8 := Aside0.mk A80
    clear A80
    replace H := Option.bind_eq_some_iff.mp H
    obtain ⟨t142, A90, H⟩ := H
    try dsimp only at H
    have A9 := Aside0.mk A90
    clear A90
    obtain rfl := Option.some.inj H
    go_enter Tryz.func60, Tryz.ntmps60
    try go_wp2_with (first | ((with_reducible refine gate_dst (N := 2) rfl ?_); refine box_event ?hg (N := 2) ?hd (cs := #[.int .i64 a0_0, .slice A0_1 l0_1.length c0_1]) (t := 31) ?hr ?_; (case hd => rfl); (case hg => rfl); (case hr => first | (go_simp; done) | (go_simp; rfl)); intro gb137 hg w10 hbox hb; have BK137 := Aside0.mk (hbox); have GW137 := gH HB hg; have GE137 := gH HB hg; replace HB := sH HB hb; clear hb hbox hg) | ((with_reducible refine gate_dst (N := 3) rfl ?_); refine box_event ?hg (N := 3) ?hd (cs := #[.int .i64 a1_0, .int .i64 a1_1]) (t := 45) ?hr ?_; (case hd => rfl); (case hg => rfl); (case hr => first | (go_simp; done) | (go_simp; rfl)); intro gb138 hg w11 hbox hb; have BK138 := Aside0.mk (hbox); have GW138 := gH HB hg; have GE138 := gH HB hg; replace HB := sH HB hb; have NB137_138 := nB BK137 hg; have NB138_137 := oB BK137 hg; replace BK137 := sB BK137 hb; clear hb hbox hg))
    replace BK137 := dB BK137
    replace BK138 := dB BK138
    replace HB := dH HB
    refine st_ 31 (S := fun w' => w'.cell? ⟨gb137, 0, none⟩ = some (.int .i64 a0_0) ∧ w'.cell? ⟨gb137, 1, none⟩ = some (.slice A0_1 l0_1.length c0_1) ∧ w'.cell? ⟨gb138, 0, none⟩ = some (.int .i64 a1_0) ∧ w'.cell? ⟨gb138, 1, none⟩ = some (.int .i64 a1_1)) (ds := []) ⟨cB BK137 0, cB BK137 1, cB BK138 0, cB BK138 1⟩ (fun hHeld => ?_); refine with_tabW spec_l02Pair.tab1 spec_l02Pair.bits1 (fun HT_ HW_ => ?_)
    generalize w11.drew = w12 at BK137 BK138 HB hHeld ⊢
    refine pu_ 1 6 2 HT_ ?_
    refine tk_ 0 5 3 HT_ HW_ hHeld ?_
    refine tk_ 2 7 7 HT_ HW_ hHeld ?_
    refine on_ 3 (some 8) 15 HT_ (fun K hK => ?_)
    refine ca_ Tryz.func57 #[.agg #[.int .i64 a0_0, .slice A0_1 l0_1.length c0_1], .int .i64 a1_0] ?_
    with_reducible refine (spec_l01Has.calls k a0_0 _ _ l0_1 a1_0 true _ ?side1 ?side2 A3.out).mono ?_
    (case side1 => exact pC ((Kd.C_below HR0_1.out HB.out)))
    (case side2 => exact HC0_1.out)
    rintro e w13 ⟨rfl, hb⟩
    refine ⟨_, rfl, ?_⟩
    replace BK137 := sB BK137 hb
    replace BK138 := sB BK138 hb
    replace HB := sH HB hb
    (try clear hb)
    (try clear hb2)
    (try clear hk)
    (try clear hi)
    refine hK.out _ _ ⟨cB BK137 0, cB BK137 1, cB BK138 0, cB BK138 1⟩ (fun hHeld => ?_)
    clear hK K
    refine nm_ ?_
    refine pu_ 4 9 31 HT_ ?_
    refine pu_ 6 11 95 HT_ ?_
    refine tk_ 5 10 127 HT_ HW_ hHeld ?_
    refine tk_ 7 12 255 HT_ HW_ hHeld ?_
    refine on_ 8 (some 13) 511 HT_ (fun K hK => ?_)
    refine ca_ Tryz.func57 #[.agg #[.int .i64 a0_0, .slice A0_1 l0_1.length c0_1], .int .i64 a1_1] ?_
    with_reducible refine (spec_l01Has.calls k a0_0 _ _ l0_1 a1_1 true _ ?side1 ?side2 A5.out).mono ?_
    (case side1 => exact pC ((Kd.C_below HR0_1.out HB.out)))
    (case side2 => exact HC0_1.out)
    rintro e w14 ⟨rfl, hb⟩
    refine ⟨_, rfl, ?_⟩
    replace BK137 := sB BK137 hb
    replace BK138 := sB BK138 hb
    replace HB := sH HB hb
    (try clear hb)
    (try clear hb2)
    (try clear hk)
    (try clear hi)
    refine hK.out _ _ ⟨cB BK137 0, cB BK137 1, cB BK138 0, cB BK138 1⟩ (fun hHeld => ?_)
    clear hK K
    refine nm_ ?_
    refine pu_ 9 14 1023 HT_ ?_
    refine pu_ 10 15 2047 HT_ ?_
    refine pu_ 11 16 4095 HT_ ?_
    refine pu_ 13 18 12287 HT_ ?_
    refine pu_ 16 21 77823 HT_ ?_
    refine tk_ 12 17 81919 HT_ HW_ hHeld ?_
    refine tk_ 14 19 98303 HT_ HW_ hHeld ?_
    refine pu_ 15 20 131071 HT_ ?_
    refine tk_ 17 22 262143 HT_ HW_ hHeld ?_
    refine pu_ 18 23 524287 HT_ ?_
    refine pu_ 19 24 1048575 HT_ ?_
    refine pu_ 20 25 2097151 HT_ ?_
    refine pu_ 21 26 4194303 HT_ ?_
    refine pu_ 24 29 20971519 HT_ ?_
    refine tk_ 22 27 25165823 HT_ HW_ hHeld ?_
    refine tk_ 25 30 58720255 HT_ HW_ hHeld ?_
    refine on_ 23 (some 28) 67108863 HT_ (fun K hK => ?_)
    refine ca_ Tryz.func41 #[.int .i64 a1_1] ?_
    with_reducible refine (spec_l01Ones.calls k a1_1 t141 _ A8.out).mono ?_
    rintro e w' ⟨rfl, ⟨nd, rfl⟩⟩
    refine ⟨_, rfl, ?_⟩
    refine hK.out _ _ ⟨cB BK137 0, cB BK137 1, cB BK138 0, cB BK138 1⟩ (fun hHeld => ?_)
    clear hK K
    refine nm_ ?_
    refine on_ 26 (some 31) 134217727 HT_ (fun K hK => ?_)
    refine ca_ Tryz.func41 #[.int .i64 a1_0] ?_
    with_reducible refine (spec_l01Ones.calls k a1_0 t142 _ A9.out).mono ?_
    rintro e w' ⟨rfl, ⟨nd, rfl⟩⟩
    refine ⟨_, rfl, ?_⟩
    refine hK.out _ _ ⟨cB BK137 0, cB BK137 1, cB BK138 0, cB BK138 1⟩ (fun hHeld => ?_)
    clear hK K
    refine nm_ ?_
    refine pu_ 27 32 268435455 HT_ ?_
    refine pu_ 28 33 536870911 HT_ ?_
    refine pu_ 29 34 1073741823 HT_ ?_
    refine pu_ 30 4 2147483647 HT_ ?_
    refine dn_ HT_ ?_
    try go_wp2
    go_ret
    exact ⟨by first | rfl | (simp [errW_none, errW_some] <;> rfl) | (simp [*, errW_none, errW_some] <;> rfl) | (exfalso; simp_all), pH HB⟩
   ·rw [if_neg c7] at H
    have c7b0 : ((Go.bits .and .i64 a1_0 a1_1) == a1_0) = false := beq_eq_false_iff_ne.mpr c7
    have c7b1 : ((Go.bits .and .i64 a1_0 a1_1) != a1_0) = true := bne_iff_ne.mpr c7
    obtain rfl := Option.some.inj H
    go_enter Tryz.func60, Tryz.ntmps60
    try go_wp2_with (first | ((with_reducible refine gate_dst (N := 2) rfl ?_); refine box_event ?hg (N := 2) ?hd (cs := #[.int .i64 a0_0, .slice A0_1 l0_1.length c0_1]) (t := 31) ?hr ?_; (case hd => rfl); (case hg => rfl); (case hr => first | (go_simp; done) | (go_simp; rfl)); intro gb137 hg w15 hbox hb; have BK137 := Aside0.mk (hbox); have GW137 := gH HB hg; have GE137 := gH HB hg; replace HB := sH HB hb; clear hb hbox hg) | ((with_reducible refine gate_dst (N := 3) rfl ?_); refine box_event ?hg (N := 3) ?hd (cs := #[.int .i64 a1_0, .int .i64 a1_1]) (t := 45) ?hr ?_; (case hd => rfl); (case hg => rfl); (case hr => first | (go_simp; done) | (go_simp; rfl)); intro gb138 hg w16 hbox hb; have BK138 := Aside0.mk (hbox); have GW138 := gH HB hg; have GE138 := gH HB hg; replace HB := sH HB hb; have NB137_138 := nB BK137 hg; have NB138_137 := oB BK137 hg; replace BK137 := sB BK137 hb; clear hb hbox hg))
    replace BK137 := dB BK137
    replace BK138 := dB BK138
    replace HB := dH HB
    refine st_ 31 (S := fun w' => w'.cell? ⟨gb137, 0, none⟩ = some (.int .i64 a0_0) ∧ w'.cell? ⟨gb137, 1, none⟩ = some (.slice A0_1 l0_1.length c0_1) ∧ w'.cell? ⟨gb138, 0, none⟩ = some (.int .i64 a1_0) ∧ w'.cell? ⟨gb138, 1, none⟩ = some (.int .i64 a1_1)) (ds := []) ⟨cB BK137 0, cB BK137 1, cB BK138 0, cB BK138 1⟩ (fun hHeld => ?_); refine with_tabW spec_l02Pair.tab1 spec_l02Pair.bits1 (fun HT_ HW_ => ?_)
    generalize w16.drew = w17 at BK137 BK138 HB hHeld ⊢
    refine pu_ 1 6 2 HT_ ?_
    refine tk_ 0 5 3 HT_ HW_ hHeld ?_
    refine tk_ 2 7 7 HT_ HW_ hHeld ?_
    refine on_ 3 (some 8) 15 HT_ (fun K hK => ?_)
    refine ca_ Tryz.func57 #[.agg #[.int .i64 a0_0, .slice A0_1 l0_1.length c0_1], .int .i64 a1_0] ?_
    with_reducible refine (spec_l01Has.calls k a0_0 _ _ l0_1 a1_0 true _ ?side1 ?side2 A3.out).mono ?_
    (case side1 => exact pC ((Kd.C_below HR0_1.out HB.out)))
    (case side2 => exact HC0_1.out)
    rintro e w18 ⟨rfl, hb⟩
    refine ⟨_, rfl, ?_⟩
    replace BK137 := sB BK137 hb
    replace BK138 := sB BK138 hb
    replace HB := sH HB hb
    (try clear hb)
    (try clear hb2)
    (try clear hk)
    (try clear hi)
    refine hK.out _ _ ⟨cB BK137 0, cB BK137 1, cB BK138 0, cB BK138 1⟩ (fun hHeld => ?_)
    clear hK K
    refine nm_ ?_
    refine pu_ 4 9 31 HT_ ?_
    refine pu_ 6 11 95 HT_ ?_
    refine tk_ 5 10 127 HT_ HW_ hHeld ?_
    refine tk_ 7 12 255 HT_ HW_ hHeld ?_
    refine on_ 8 (some 13) 511 HT_ (fun K hK => ?_)
    refine ca_ Tryz.func57 #[.agg #[.int .i64 a0_0, .slice A0_1 l0_1.length c0_1], .int .i64 a1_1] ?_
    with_reducible refine (spec_l01Has.calls k a0_0 _ _ l0_1 a1_1 true _ ?side1 ?side2 A5.out).mono ?_
    (case side1 => exact pC ((Kd.C_below HR0_1.out HB.out)))
    (case side2 => exact HC0_1.out)
    rintro e w19 ⟨rfl, hb⟩
    refine ⟨_, rfl, ?_⟩
    replace BK137 := sB BK137 hb
    replace BK138 := sB BK138 hb
    replace HB := sH HB hb
    (try clear hb)
    (try clear hb2)
    (try clear hk)
    (try clear hi)
    refine hK.out _ _ ⟨cB BK137 0, cB BK137 1, cB BK138 0, cB BK138 1⟩ (fun hHeld => ?_)
    clear hK K
    refine nm_ ?_
    refine pu_ 9 14 1023 HT_ ?_
    refine pu_ 10 15 2047 HT_ ?_
    refine pu_ 11 16 4095 HT_ ?_
    refine pu_ 13 18 12287 HT_ ?_
    refine pu_ 16 21 77823 HT_ ?_
    refine tk_ 12 17 81919 HT_ HW_ hHeld ?_
    refine tk_ 14 19 98303 HT_ HW_ hHeld ?_
    refine pu_ 15 20 131071 HT_ ?_
    refine tk_ 17 22 262143 HT_ HW_ hHeld ?_
    refine pu_ 18 23 524287 HT_ ?_
    refine pu_ 19 24 1048575 HT_ ?_
    refine pu_ 20 25 2097151 HT_ ?_
    refine pn_ 21 26 4194303 HT_ ?_
    refine pn_ 22 27 8388607 HT_ ?_
    refine pn_ 23 28 16777215 HT_ ?_
    refine pn_ 24 29 33554431 HT_ ?_
    refine pn_ 25 30 67108863 HT_ ?_
    refine pn_ 26 31 134217727 HT_ ?_
    refine pn_ 27 32 268435455 HT_ ?_
    refine pn_ 28 33 536870911 HT_ ?_
    refine pu_ 29 34 1073741823 HT_ ?_
    refine pu_ 30 4 2147483647 HT_ ?_
    refine dn_ HT_ ?_
    try go_wp2
    go_ret
    exact ⟨by first | rfl | (simp [errW_none, errW_some] <;> rfl) | (simp [*, errW_none, errW_some] <;> rfl) | (exfalso; simp_all), pH HB⟩
  ·replace c6 := Bool.eq_false_iff.mpr c6
   subst c6
   have H1 : (some false) = some r := by rw [if_neg (show ¬ (false = true) by decide)] at H; exact H
   clear H
   have H := H1
   clear H1
   obtain rfl := Option.some.inj H
   go_enter Tryz.func60, Tryz.ntmps60
   try go_wp2_with (first | ((with_reducible refine gate_dst (N := 2) rfl ?_); refine box_event ?hg (N := 2) ?hd (cs := #[.int .i64 a0_0, .slice A0_1 l0_1.length c0_1]) (t := 31) ?hr ?_; (case hd => rfl); (case hg => rfl); (case hr => first | (go_simp; done) | (go_simp; rfl)); intro gb137 hg w20 hbox hb; have BK137 := Aside0.mk (hbox); have GW137 := gH HB hg; have GE137 := gH HB hg; replace HB := sH HB hb; clear hb hbox hg) | ((with_reducible refine gate_dst (N := 3) rfl ?_); refine box_event ?hg (N := 3) ?hd (cs := #[.int .i64 a1_0, .int .i64 a1_1]) (t := 45) ?hr ?_; (case hd => rfl); (case hg => rfl); (case hr => first | (go_simp; done) | (go_simp; rfl)); intro gb138 hg w21 hbox hb; have BK138 := Aside0.mk (hbox); have GW138 := gH HB hg; have GE138 := gH HB hg; replace HB := sH HB hb; have NB137_138 := nB BK137 hg; have NB138_137 := oB BK137 hg; replace BK137 := sB BK137 hb; clear hb hbox hg))
   replace BK137 := dB BK137
   replace BK138 := dB BK138
   replace HB := dH HB
   refine st_ 31 (S := fun w' => w'.cell? ⟨gb137, 0, none⟩ = some (.int .i64 a0_0) ∧ w'.cell? ⟨gb137, 1, none⟩ = some (.slice A0_1 l0_1.length c0_1) ∧ w'.cell? ⟨gb138, 0, none⟩ = some (.int .i64 a1_0) ∧ w'.cell? ⟨gb138, 1, none⟩ = some (.int .i64 a1_1)) (ds := []) ⟨cB BK137 0, cB BK137 1, cB BK138 0, cB BK138 1⟩ (fun hHeld => ?_); refine with_tabW spec_l02Pair.tab1 spec_l02Pair.bits1 (fun HT_ HW_ => ?_)
   generalize w21.drew = w22 at BK137 BK138 HB hHeld ⊢
   refine pu_ 1 6 2 HT_ ?_
   refine tk_ 0 5 3 HT_ HW_ hHeld ?_
   refine tk_ 2 7 7 HT_ HW_ hHeld ?_
   refine on_ 3 (some 8) 15 HT_ (fun K hK => ?_)
   refine ca_ Tryz.func57 #[.agg #[.int .i64 a0_0, .slice A0_1 l0_1.length c0_1], .int .i64 a1_0] ?_
   with_reducible refine (spec_l01Has.calls k a0_0 _ _ l0_1 a1_0 true _ ?side1 ?side2 A3.out).mono ?_
   (case side1 => exact pC ((Kd.C_below HR0_1.out HB.out)))
   (case side2 => exact HC0_1.out)
   rintro e w23 ⟨rfl, hb⟩
   refine ⟨_, rfl, ?_⟩
   replace BK137 := sB BK137 hb
   replace BK138 := sB BK138 hb
   replace HB := sH HB hb
   (try clear hb)
   (try clear hb2)
   (try clear hk)
   (try clear hi)
   refine hK.out _ _ ⟨cB BK137 0, cB BK137 1, cB BK138 0, cB BK138 1⟩ (fun hHeld => ?_)
   clear hK K
   refine nm_ ?_
   refine pu_ 4 9 31 HT_ ?_
   refine pu_ 6 11 95 HT_ ?_
   refine tk_ 5 10 127 HT_ HW_ hHeld ?_
   refine tk_ 7 12 255 HT_ HW_ hHeld ?_
   refine on_ 8 (some 13) 511 HT_ (fun K hK => ?_)
   refine ca_ Tryz.func57 #[.agg #[.int .i64 a0_0, .slice A0_1 l0_1.length c0_1], .int .i64 a1_1] ?_
   with_reducible refine (spec_l01Has.calls k a0_0 _ _ l0_1 a1_1 false _ ?side1 ?side2 A5.out).mono ?_
   (case side1 => exact pC ((Kd.C_below HR0_1.out HB.out)))
   (case side2 => exact HC0_1.out)
   rintro e w24 ⟨rfl, hb⟩
   refine ⟨_, rfl, ?_⟩
   replace BK137 := sB BK137 hb
   replace BK138 := sB BK138 hb
   replace HB := sH HB hb
   (try clear hb)
   (try clear hb2)
   (try clear hk)
   (try clear hi)
   refine hK.out _ _ ⟨cB BK137 0, cB BK137 1, cB BK138 0, cB BK138 1⟩ (fun hHeld => ?_)
   clear hK K
   refine nm_ ?_
   refine pu_ 9 14 1023 HT_ ?_
   refine pu_ 10 15 2047 HT_ ?_
   refine pn_ 11 16 4095 HT_ ?_
   refine pn_ 12 17 8191 HT_ ?_
   refine pn_ 13 18 16383 HT_ ?_
   refine pn_ 14 19 32767 HT_ ?_
   refine pn_ 15 20 65535 HT_ ?_
   refine pn_ 16 21 131071 HT_ ?_
   refine pn_ 17 22 262143 HT_ ?_
   refine pn_ 18 23 524287 HT_ ?_
   refine pu_ 19 24 1048575 HT_ ?_
   refine pu_ 20 25 2097151 HT_ ?_
   refine pn_ 21 26 4194303 HT_ ?_
   refine pn_ 22 27 8388607 HT_ ?_
   refine pn_ 23 28 16777215 HT_ ?_
   refine pn_ 24 29 33554431 HT_ ?_
   refine pn_ 25 30 67108863 HT_ ?_
   refine pn_ 26 31 134217727 HT_ ?_
   refine pn_ 27 32 268435455 HT_ ?_
   refine pn_ 28 33 536870911 HT_ ?_
   refine pu_ 29 34 1073741823 HT_ ?_
   refine pu_ 30 4 2147483647 HT_ ?_
   refine dn_ HT_ ?_
   try go_wp2
   go_ret
   exact ⟨by first | rfl | (simp [errW_none, errW_some] <;> rfl) | (simp [*, errW_none, errW_some] <;> rfl) | (exfalso; simp_all), pH HB⟩
 ·replace c4 := Bool.eq_false_iff.mpr c4
  subst c4
  have H1 : (some false) = some r := by rw [if_neg (show ¬ (false = true) by decide)] at H; exact H
  clear H
  have H := H1
  clear H1
  obtain rfl := Option.some.inj H
  go_enter Tryz.func60, Tryz.ntmps60
  try go_wp2_with (first | ((with_reducible refine gate_dst (N := 2) rfl ?_); refine box_event ?hg (N := 2) ?hd (cs := #[.int .i64 a0_0, .slice A0_1 l0_1.length c0_1]) (t := 31) ?hr ?_; (case hd => rfl); (case hg => rfl); (case hr => first | (go_simp; done) | (go_simp; rfl)); intro gb137 hg w25 hbox hb; have BK137 := Aside0.mk (hbox); have GW137 := gH HB hg; have GE137 := gH HB hg; replace HB := sH HB hb; clear hb hbox hg) | ((with_reducible refine gate_dst (N := 3) rfl ?_); refine box_event ?hg (N := 3) ?hd (cs := #[.int .i64 a1_0, .int .i64 a1_1]) (t := 45) ?hr ?_; (case hd => rfl); (case hg => rfl); (case hr => first | (go_simp; done) | (go_simp; rfl)); intro gb138 hg w26 hbox hb; have BK138 := Aside0.mk (hbox); have GW138 := gH HB hg; have GE138 := gH HB hg; replace HB := sH HB hb; have NB137_138 := nB BK137 hg; have NB138_137 := oB BK137 hg; replace BK137 := sB BK137 hb; clear hb hbox hg))
  replace BK137 := dB BK137
  replace BK138 := dB BK138
  replace HB := dH HB
  refine st_ 31 (S := fun w' => w'.cell? ⟨gb137, 0, none⟩ = some (.int .i64 a0_0) ∧ w'.cell? ⟨gb137, 1, none⟩ = some (.slice A0_1 l0_1.length c0_1) ∧ w'.cell? ⟨gb138, 0, none⟩ = some (.int .i64 a1_0) ∧ w'.cell? ⟨gb138, 1, none⟩ = some (.int .i64 a1_1)) (ds := []) ⟨cB BK137 0, cB BK137 1, cB BK138 0, cB BK138 1⟩ (fun hHeld => ?_); refine with_tabW spec_l02Pair.tab1 spec_l02Pair.bits1 (fun HT_ HW_ => ?_)
  generalize w26.drew = w27 at BK137 BK138 HB hHeld ⊢
  refine pu_ 1 6 2 HT_ ?_
  refine tk_ 0 5 3 HT_ HW_ hHeld ?_
  refine tk_ 2 7 7 HT_ HW_ hHeld ?_
  refine on_ 3 (some 8) 15 HT_ (fun K hK => ?_)
  refine ca_ Tryz.func57 #[.agg #[.int .i64 a0_0, .slice A0_1 l0_1.length c0_1], .int .i64 a1_0] ?_
  with_reducible refine (spec_l01Has.calls k a0_0 _ _ l0_1 a1_0 false _ ?side1 ?side2 A3.out).mono ?_
  (case side1 => exact pC ((Kd.C_below HR0_1.out HB.out)))
  (case side2 => exact HC0_1.out)
  rintro e w28 ⟨rfl, hb⟩
  refine ⟨_, rfl, ?_⟩
  replace BK137 := sB BK137 hb
  replace BK138 := sB BK138 hb
  replace HB := sH HB hb
  (try clear hb)
  (try clear hb2)
  (try clear hk)
  (try clear hi)
  refine hK.out _ _ ⟨cB BK137 0, cB BK137 1, cB BK138 0, cB BK138 1⟩ (fun hHeld => ?_)
  clear hK K
  refine nm_ ?_
  refine pu_ 4 9 31 HT_ ?_
  refine pn_ 5 10 63 HT_ ?_
  refine pn_ 6 11 127 HT_ ?_
  refine pn_ 7 12 255 HT_ ?_
  refine pn_ 8 13 511 HT_ ?_
  refine pu_ 9 14 1023 HT_ ?_
  refine pu_ 10 15 2047 HT_ ?_
  refine pn_ 11 16 4095 HT_ ?_
  refine pn_ 12 17 8191 HT_ ?_
  refine pn_ 13 18 16383 HT_ ?_
  refine pn_ 14 19 32767 HT_ ?_
  refine pn_ 15 20 65535 HT_ ?_
  refine pn_ 16 21 131071 HT_ ?_
  refine pn_ 17 22 262143 HT_ ?_
  refine pn_ 18 23 524287 HT_ ?_
  refine pu_ 19 24 1048575 HT_ ?_
  refine pu_ 20 25 2097151 HT_ ?_
  refine pn_ 21 26 4194303 HT_ ?_
  refine pn_ 22 27 8388607 HT_ ?_
  refine pn_ 23 28 16777215 HT_ ?_
  refine pn_ 24 29 33554431 HT_ ?_
  refine pn_ 25 30 67108863 HT_ ?_
  refine pn_ 26 31 134217727 HT_ ?_
  refine pn_ 27 32 268435455 HT_ ?_
  refine pn_ 28 33 536870911 HT_ ?_
  refine pu_ 29 34 1073741823 HT_ ?_
  refine pu_ 30 4 2147483647 HT_ ?_
  refine dn_ HT_ ?_
  try go_wp2
  go_ret
  exact ⟨by first | rfl | (simp [errW_none, errW_some] <;> rfl) | (simp [*, errW_none, errW_some] <;> rfl) | (exfalso; simp_all), pH HB⟩
mutual
def spec_l02Is.l0 : Nat → List (S45) → Int → Int → List Int → Option (Bool)
 | 0, _, _, _, _ => none
 | k + 1, x1, x5, x144000, x144001 => if x5 < (x1.length : Int) then (if 0 ≤ x5 then ((spec_l02Pair.f k x144000 x144001 ((rd_T45 x1 x5).f0) ((rd_T45 x1 x5).f1)).bind fun t145 => (if t145 = true then (if x5 > 0 then (if 0 ≤ (wrap64 (x5 - 1)) then (if (wrap64 (x5 - 1)) < (x1.length : Int) then ((spec_l02Less.f ((rd_T45 x1 (wrap64 (x5 - 1))).f0) ((rd_T45 x1 (wrap64 (x5 - 1))).f1) ((rd_T45 x1 x5).f0) ((rd_T45 x1 x5).f1)).bind fun t148 => (spec_l02Is.j1 k x1 x5 (!t148) x144000 x144001)) else (none)) else (none)) else (spec_l02Is.j1 k x1 x5 false x144000 x144001)) else (spec_l02Is.j1 k x1 x5 true x144000 x144001))) else (none)) else (some true)
def spec_l02Is.j1 : Nat → List (S45) → Int → Bool → Int → List Int → Option (Bool)
 | 0, _, _, _, _, _ => none
 | k + 1, x1, x5, x36, x144000, x144001 => if x36 = true then (some false) else (spec_l02Is.l1 k x1 x5 0 x144000 x144001)
def spec_l02Is.l1 : Nat → List (S45) → Int → Int → Int → List Int → Option (Bool)
 | 0, _, _, _, _, _ => none
 | k + 1, x1, x5, x6, x144000, x144001 => if x6 < x5 then (if 0 ≤ x5 then (if x5 < (x1.length : Int) then (if 0 ≤ x6 then (if x6 < (x1.length : Int) then (if ((rd_T45 x1 x5).f0) = ((rd_T45 x1 x6).f0) then (some false) else (if ((rd_T45 x1 x5).f0) = ((rd_T45 x1 x6).f1) then (some false) else (if ((rd_T45 x1 x5).f1) = ((rd_T45 x1 x6).f0) then (some false) else (if ((rd_T45 x1 x5).f1) = ((rd_T45 x1 x6).f1) then (some false) else (spec_l02Is.l1 k x1 x5 (wrap64 (x6 + 1)) x144000 x144001))))) else (none)) else (none)) else (none)) else (none)) else (spec_l02Is.l0 k x1 (wrap64 (x5 + 1)) x144000 x144001)
end
def spec_l02Is.f (k : Nat) (a0_0 : Int) (l0_1 : List Int) (l1 : List (S45)) : Option (Bool) := spec_l02Is.l0 k l1 0 a0_0 l0_1
def spec_l02Is.T4 : Bool × List (List Nat × List Nat) := (true, [([], []), ([], []), ([], []), ([1, 2], [1, 2]), ([3], [3]), ([0, 4], [0, 4]), ([5], [5]), ([6, 5], [6]), ([7], [7]), ([8, 7], [7, 8]), ([9, 7, 7], [7, 9]), ([10], [10]), ([10], [10]), ([12, 10], [10, 12]), ([11, 13, 10], [10, 11, 13]), ([14, 10], [10, 14]), ([10], [10]), ([10], [10]), ([16, 17, 10], [10, 16, 17]), ([18, 10], [10, 18]), ([15, 19, 10, 10], [10, 15, 19]), ([20, 10], [10, 20]), ([10, 21, 7], [7, 10, 21]), ([7, 22], [7, 22])])
def spec_l02Is.B4 : List Nat := [0, 0, 0, 6, 14, 31, 63, 127, 255, 511, 1023, 2047, 2047, 6143, 16383, 32767, 2047, 2047, 198655, 460799, 1048575, 2097151, 4194303, 8388607]
theorem spec_l02Is.tab4 : rtab .any (opsOf Tryz.f45 4) = spec_l02Is.T4 := by kernel_rfl
theorem spec_l02Is.bits4 : waitsOk spec_l02Is.T4.2 spec_l02Is.B4 = true := by kernel_rfl
def spec_l02Is.T9 : Bool × List (List Nat × List Nat) := (true, [([], []), ([], []), ([0, 1], [0, 1]), ([2], [2]), ([3], [3]), ([], []), ([], []), ([5, 6], [5, 6]), ([7], [7]), ([8], [8]), ([4, 9], [4, 9]), ([10], [10]), ([11], [11]), ([11], [11]), ([12, 13, 11], [11, 12, 13]), ([14, 11], [11, 14]), ([15, 11], [11, 15]), ([11], [11]), ([11], [11]), ([17, 18, 11], [11, 17, 18]), ([19, 11], [11, 19]), ([20, 11], [11, 20]), ([16, 21, 11], [11, 16, 21]), ([11, 22], [11, 22]), ([23, 11], [23]), ([24], [24]), ([24], [24]), ([25, 26, 24], [24, 25, 26]), ([27, 24], [24, 27]), ([28, 24], [24, 28]), ([24], [24]), ([24], [24]), ([30, 31, 24], [24, 30, 31]), ([32, 24], [24, 32]), ([33, 24], [24, 33]), ([29, 34, 24], [24, 29, 34]), ([24, 35], [24, 35]), ([36, 24], [36]), ([37], [37]), ([37], [37]), ([38, 39, 37], [37, 38, 39]), ([40, 37], [37, 40]), ([41, 37], [37, 41]), ([37], [37]), ([37], [37]), ([43, 44, 37], [37, 43, 44]), ([45, 37], [37, 45]), ([46, 37], [37, 46]), ([42, 47, 37], [37, 42, 47]), ([37, 48], [37, 48])])
def spec_l02Is.B9 : List Nat := [0, 0, 3, 7, 15, 0, 0, 96, 224, 480, 1023, 2047, 4095, 4095, 16383, 32767, 65535, 4095, 4095, 397311, 921599, 1970175, 4194303, 8388607, 16777215, 33554431, 33554431, 134217727, 268435455, 536870911, 33554431, 33554431, 3254779903, 7549747199, 16139681791, 34359738367, 68719476735, 137438953471, 274877906943, 274877906943, 1099511627775, 2199023255551, 4398046511103, 274877906943, 274877906943, 26663156973567, 61847529062399, 132216273240063, 281474976710655, 562949953421311]
theorem spec_l02Is.tab9 : rtab .any (opsOf Tryz.f45 9) = spec_l02Is.T9 := by kernel_rfl
theorem spec_l02Is.bits9 : waitsOk spec_l02Is.T9.2 spec_l02Is.B9 = true := by kernel_rfl
set_option maxHeartbeats 8000000 in
set_option maxRecDepth 100000 in
theorem spec_l02Is.calls (k : Nat) (a0_0 : Int) (A0_1 : Option Addr) (c0_1 : Nat) (l0_1 : List Int) (A1 : Option Addr) (c1 : Nat) (l1 : List (S45)) (r : Bool) (w : World) (hr0_1 : Kd.C (Kd.int .i64) w A0_1 l0_1.length l0_1) (hc0_1 : l0_1.length ≤ c0_1) (hr1 : Kd.C k45 w A1 l1.length l1) (hc1 : l1.length ≤ c1) (h : spec_l02Is.f k a0_0 l0_1 l1 = some r) :
  Calls Tryz.prog 45 #[.agg #[.int .i64 a0_0, .slice A0_1 l0_1.length c0_1], .slice A1 l1.length c1] w fun e w' => e = .returned (.bool r) ∧ Below w.heap.size w w' := by
 have hu31 := Tryz.underlying31
 have hu45 := Tryz.underlying45
 have HR0_1 := Aside0.mk hr0_1
 have HC0_1 := Aside0.mk hc0_1
 clear hr0_1 hc0_1
 have HR1 := Aside0.mk hr1
 have HC1 := Aside0.mk hc1
 clear hr1 hc1
 have HB := Aside0.mk (Below.refl w.heap.size w)
 have H : (spec_l02Is.l0 k l1 0 a0_0 l0_1) = some r := h
 clear h
 have H' := Aside0.mk H
 clear H
 go_enter Tryz.func45, Tryz.ntmps45
 go_wp2_with (first | ((with_reducible refine gate_dst (N := 2) rfl ?_); refine box_event ?hg (N := 2) ?hd (cs := #[.int .i64 a0_0, .slice A0_1 l0_1.length c0_1]) (t := 31) ?hr ?_; (case hd => rfl); (case hg => rfl); (case hr => first | (go_simp; done) | (go_simp; rfl)); intro gb143 hg w3 hbox hb; have BK143 := Aside0.mk (hbox); have GW143 := gH HB hg; have GE143 := gH HB hg; replace HB := sH HB hb; clear hb hbox hg))
 go_loopg [5] k (fun kq v5 w' => ∃ (x5_1 : Int), v5 = .int .i64 x5_1 ∧ Aside0 (spec_l02Is.l0 kq l1 x5_1 a0_0 l0_1 = some r) ∧ Aside0 (kq ≤ k) ∧ Aside0 (w'.heap[gb143]? = some (.cells #[.int .i64 a0_0, (.slice A0_1 l0_1.length c0_1)] 31 (0, 0))) ∧ Aside0 (Below w.heap.size w w'))
 case atStart => exact ⟨(0), (by first | rfl | (simp; done) | (simp [*]; done)), H', ⟨Nat.le_refl _⟩, ⟨pB BK143⟩, ⟨pH HB⟩⟩
 case round =>
  clear H'
  try clear c1
  try clear p2
  obtain ⟨x5_1, rfl, HA, HK1, BK143, HB⟩ := hrel
  cases gk with
  | zero => exact absurd HA.out (by simp [spec_l02Is.l0])
  | succ k1 =>
   have H := HA.out
   clear HA
   simp only [spec_l02Is.l0] at H
   by_cases c4 : x5_1 < (l1.length : Int)
   ·rw [if_pos c4] at H
    have c4b0 : decide (x5_1 < (l1.length : Int)) = true := decide_eq_true c4
    clear c4
    have HC5 := Aside0.mk H
    clear H
    go_upto_region 4 with (fail)
    go_cut [36] (fun v36 wc => ∃ (kq : Nat) (x36_4 : Bool), v36 = .bool x36_4 ∧ Aside0 (spec_l02Is.j1 kq l1 x5_1 x36_4 a0_0 l0_1 = some r) ∧ Aside0 (kq ≤ k1) ∧ Aside0 (wc.heap[gb143]? = some (.cells #[.int .i64 a0_0, (.slice A0_1 l0_1.length c0_1)] 31 (0, 0))) ∧ Aside0 (Below w.heap.size w wc))
    case first =>
     have H := HC5.out
     clear HC5
     by_cases c6 : 0 ≤ x5_1
     ·rw [if_pos c6] at H
      have c6b0 : decide (0 ≤ x5_1) = true := decide_eq_true c6
      clear c6
      (first | rw [c6b0] | (simp only [i64_w, i32_w]; rw [c6b0]) | skip)
      replace H := Option.bind_eq_some_iff.mp H
      obtain ⟨t145, A70, H⟩ := H
      try dsimp only at H
      have A7 := Aside0.mk A70
      clear A70
      by_cases c8 : t145 = true
      ·subst c8
       have H1 : (if x5_1 > 0 then (if 0 ≤ (wrap64 (x5_1 - 1)) then (if (wrap64 (x5_1 - 1)) < (l1.length : Int) then ((spec_l02Less.f ((rd_T45 l1 (wrap64 (x5_1 - 1))).f0) ((rd_T45 l1 (wrap64 (x5_1 - 1))).f1) ((rd_T45 l1 x5_1).f0) ((rd_T45 l1 x5_1).f1)).bind fun t148 => (spec_l02Is.j1 k1 l1 x5_1 (!t148) a0_0 l0_1)) else (none)) else (none)) else (spec_l02Is.j1 k1 l1 x5_1 false a0_0 l0_1)) = some r := by rw [if_pos rfl] at H; exact H
       clear H
       have H := H1
       clear H1
       by_cases c9 : x5_1 > 0
       ·rw [if_pos c9] at H
        have c9b0 : decide (0 < x5_1) = true := decide_eq_true c9
        clear c9
        obtain ⟨ji10, hji10⟩ : ∃ j_ : Int, (wrap64 (x5_1 - 1)) = j_ := ⟨_, rfl⟩
        replace H : (if 0 ≤ (ji10) then (if (ji10) < (l1.length : Int) then ((spec_l02Less.f ((rd_T45 l1 (ji10)).f0) ((rd_T45 l1 (ji10)).f1) ((rd_T45 l1 x5_1).f0) ((rd_T45 l1 x5_1).f1)).bind fun t148 => (spec_l02Is.j1 k1 l1 x5_1 (!t148) a0_0 l0_1)) else (none)) else (none)) = some r := by first | (rw [hji10] at H; exact H) | (simp only [hji10] at H ⊢; exact H)
        (try rw [hji10] at A7)
        have hji10w : (IntKind.i64.wrap (x5_1 - 1)) = ji10 := (i64_w _).trans hji10
        by_cases c11 : 0 ≤ (ji10)
        ·rw [if_pos c11] at H
         have c11b0 : decide (0 ≤ (ji10)) = true := decide_eq_true c11
         clear c11
         by_cases c12 : (ji10) < (l1.length : Int)
         ·rw [if_pos c12] at H
          have c12b0 : decide ((ji10) < (l1.length : Int)) = true := decide_eq_true c12
          clear c12
          replace H := Option.bind_eq_some_iff.mp H
          obtain ⟨t148, A130, H⟩ := H
          try dsimp only at H
          have A13 := Aside0.mk A130
          clear A130
          have H' := Aside0.mk H
          clear H
          try go_wp2
          replace BK143 := dB BK143
          replace HB := dH HB
          have p144 : 0 ≤ (x5_1 : Int) := of_decide_eq_true (by first | (with_reducible assumption) | assumption)
          have q144 : x5_1 < (l1.length : Int) := of_decide_eq_true (by first | (with_reducible assumption) | assumption)
          obtain ⟨ad144, e144, hx144_0, hx144_1⟩ := at_T45 HR1.out x5_1 p144 q144
          have hw144_1 := hx144_1
          have hw144_0 := hx144_0
          cases e144
          replace hx144_0 := cH HB hx144_0
          replace hx144_1 := cH HB hx144_1
          replace p144 := eq_true p144
          replace q144 := eq_true q144
          have p146 : 0 ≤ ((ji10) : Int) := of_decide_eq_true (by first | (with_reducible assumption) | assumption)
          have q146 : (ji10) < (l1.length : Int) := of_decide_eq_true (by first | (with_reducible assumption) | assumption)
          obtain ⟨ad146, e146, hx146_0, hx146_1⟩ := at_T45 HR1.out (ji10) p146 q146
          have hw146_1 := hx146_1
          have hw146_0 := hx146_0
          obtain rfl : ad144 = ad146 := (by injection e146)
          replace hx146_0 := cH HB hx146_0
          replace hx146_1 := cH HB hx146_1
          replace p146 := eq_true p146
          replace q146 := eq_true q146
          have p147 : 0 ≤ (x5_1 : Int) := of_decide_eq_true (by first | (with_reducible assumption) | assumption)
          have q147 : x5_1 < (l1.length : Int) := of_decide_eq_true (by first | (with_reducible assumption) | assumption)
          obtain ⟨ad147, e147, hx147_0, hx147_1⟩ := at_T45 HR1.out x5_1 p147 q147
          have hw147_1 := hx147_1
          have hw147_0 := hx147_0
          obtain rfl : ad144 = ad147 := (by injection e147)
          replace hx147_0 := cH HB hx147_0
          replace hx147_1 := cH HB hx147_1
          replace p147 := eq_true p147
          replace q147 := eq_true q147
          refine st_ 24 (S := fun w' => w'.cell? ⟨gb143, 0, none⟩ = some (.int .i64 a0_0) ∧ w'.cell? ⟨gb143, 1, none⟩ = some (.slice A0_1 l0_1.length c0_1) ∧ w'.cell? (ad144.add ((x5_1).toNat * 2)) = some (.int .i64 ((rd_T45 l1 x5_1).f0)) ∧ w'.cell? ⟨(ad144.add ((x5_1).toNat * 2)).block, (ad144.add ((x5_1).toNat * 2)).off + 1, none⟩ = some (.int .i64 ((rd_T45 l1 x5_1).f1)) ∧ w'.cell? (ad144.add (((ji10)).toNat * 2)) = some (.int .i64 ((rd_T45 l1 (ji10)).f0)) ∧ w'.cell? ⟨(ad144.add (((ji10)).toNat * 2)).block, (ad144.add (((ji10)).toNat * 2)).off + 1, none⟩ = some (.int .i64 ((rd_T45 l1 (ji10)).f1)) ∧ w'.cell? (ad144.add ((x5_1).toNat * 2)) = some (.int .i64 ((rd_T45 l1 x5_1).f0)) ∧ w'.cell? ⟨(ad144.add ((x5_1).toNat * 2)).block, (ad144.add ((x5_1).toNat * 2)).off + 1, none⟩ = some (.int .i64 ((rd_T45 l1 x5_1).f1))) (ds := []) ⟨cB BK143 0, cB BK143 1, (cH HB hw144_0 :), (cH HB hw144_1 :), (cH HB hw146_0 :), (cH HB hw146_1 :), (cH HB hw147_0 :), (cH HB hw147_1 :)⟩ (fun hHeld => ?_); refine with_tabW spec_l02Is.tab4 spec_l02Is.bits4 (fun HT_ HW_ => ?_)
          generalize wr.drew = w14 at BK143 HB hx144_0 hx144_1 hx146_0 hx146_1 hx147_0 hx147_1 hHeld ⊢
          refine pu_ 1 14 2 HT_ ?_
          refine pu_ 2 15 6 HT_ ?_
          refine pu_ 3 16 14 HT_ ?_
          refine tk_ 0 13 15 HT_ HW_ hHeld ?_
          refine tk_ 4 17 31 HT_ HW_ hHeld ?_
          refine on_ 5 (some 18) 63 HT_ (fun K hK => ?_)
          refine ca_ Tryz.func60 #[.agg #[.int .i64 a0_0, .slice A0_1 l0_1.length c0_1], .agg #[.int .i64 ((rd_T45 l1 x5_1).f0), .int .i64 ((rd_T45 l1 x5_1).f1)]] ?_
          with_reducible refine (spec_l02Pair.calls k1 a0_0 _ _ l0_1 ((rd_T45 l1 x5_1).f0) ((rd_T45 l1 x5_1).f1) true _ ?side1 ?side2 A7.out).mono ?_
          (case side1 => exact pC ((Kd.C_below HR0_1.out HB.out)))
          (case side2 => exact HC0_1.out)
          rintro e w15 ⟨rfl, hb⟩
          refine ⟨_, rfl, ?_⟩
          replace BK143 := sB BK143 hb
          replace HB := sH HB hb
          (try clear hb)
          (try clear hb2)
          (try clear hk)
          (try clear hi)
          refine hK.out _ _ ⟨cB BK143 0, cB BK143 1, (cH HB hw144_0 :), (cH HB hw144_1 :), (cH HB hw146_0 :), (cH HB hw146_1 :), (cH HB hw147_0 :), (cH HB hw147_1 :)⟩ (fun hHeld => ?_)
          clear hK K
          refine nm_ ?_
          refine pu_ 6 19 127 HT_ ?_
          refine pu_ 7 20 255 HT_ ?_
          refine pu_ 8 21 511 HT_ ?_
          refine pu_ 9 22 1023 HT_ ?_
          refine pu_ 10 23 2047 HT_ ?_
          refine pu_ 11 24 4095 HT_ ?_
          refine pu_ 12 25 8191 HT_ ?_
          refine pu_ 13 26 16383 HT_ ?_
          refine pu_ 14 27 32767 HT_ ?_
          refine pu_ 16 29 98303 HT_ ?_
          refine pu_ 17 30 229375 HT_ ?_
          refine pu_ 18 31 491519 HT_ ?_
          refine tk_ 15 28 524287 HT_ HW_ hHeld ?_
          refine tk_ 19 32 1048575 HT_ HW_ hHeld ?_
          refine on_ 20 (some 33) 2097151 HT_ (fun K hK => ?_)
          refine ca_ Tryz.func44 #[.agg #[.int .i64 ((rd_T45 l1 (ji10)).f0), .int .i64 ((rd_T45 l1 (ji10)).f1)], .agg #[.int .i64 ((rd_T45 l1 x5_1).f0), .int .i64 ((rd_T45 l1 x5_1).f1)]] (hargs := by (try simp only [List.map_toArray, List.map_cons, List.map_nil]); first | done | (simp only [hji10]; rfl) | rfl | (simp only [List.length_drop, List.length_take]; rfl)) ?_
          with_reducible refine (spec_l02Less.calls ((rd_T45 l1 (ji10)).f0) ((rd_T45 l1 (ji10)).f1) ((rd_T45 l1 x5_1).f0) ((rd_T45 l1 x5_1).f1) t148 _ A13.out).mono ?_
          rintro e w16 ⟨rfl, hb⟩
          refine ⟨_, rfl, ?_⟩
          replace BK143 := sB BK143 hb
          replace HB := sH HB hb
          (try clear hb)
          (try clear hb2)
          (try clear hk)
          (try clear hi)
          refine hK.out _ _ ⟨cB BK143 0, cB BK143 1, (cH HB hw144_0 :), (cH HB hw144_1 :), (cH HB hw146_0 :), (cH HB hw146_1 :), (cH HB hw147_0 :), (cH HB hw147_1 :)⟩ (fun hHeld => ?_)
          clear hK K
          refine nm_ ?_
          refine pu_ 21 34 4194303 HT_ ?_
          refine pu_ 22 35 8388607 HT_ ?_
          refine pu_ 23 36 16777215 HT_ ?_
          refine dn_ HT_ ?_
          try go_wp2
          go_meet
          case rel => exact ⟨_, (!t148), (by first | rfl | (simp; done) | (simp [*]; done)), H', ⟨by have := HK1.out; first | omega | exact Nat.le_refl _⟩, ⟨pB BK143⟩, ⟨pH HB⟩⟩
         ·rw [if_neg c12] at H
          exact absurd H (by simp)
        ·rw [if_neg c11] at H
         exact absurd H (by simp)
       ·rw [if_neg c9] at H
        have c9b0 : decide (0 < x5_1) = false := decide_eq_false c9
        clear c9
        have H' := Aside0.mk H
        clear H
        try go_wp2
        replace BK143 := dB BK143
        replace HB := dH HB
        have p144 : 0 ≤ (x5_1 : Int) := of_decide_eq_true (by first | (with_reducible assumption) | assumption)
        have q144 : x5_1 < (l1.length : Int) := of_decide_eq_true (by first | (with_reducible assumption) | assumption)
        obtain ⟨ad144, e144, hx144_0, hx144_1⟩ := at_T45 HR1.out x5_1 p144 q144
        have hw144_1 := hx144_1
        have hw144_0 := hx144_0
        cases e144
        replace hx144_0 := cH HB hx144_0
        replace hx144_1 := cH HB hx144_1
        replace p144 := eq_true p144
        replace q144 := eq_true q144
        refine st_ 24 (S := fun w' => w'.cell? ⟨gb143, 0, none⟩ = some (.int .i64 a0_0) ∧ w'.cell? ⟨gb143, 1, none⟩ = some (.slice A0_1 l0_1.length c0_1) ∧ w'.cell? (ad144.add ((x5_1).toNat * 2)) = some (.int .i64 ((rd_T45 l1 x5_1).f0)) ∧ w'.cell? ⟨(ad144.add ((x5_1).toNat * 2)).block, (ad144.add ((x5_1).toNat * 2)).off + 1, none⟩ = some (.int .i64 ((rd_T45 l1 x5_1).f1))) (ds := []) ⟨cB BK143 0, cB BK143 1, (cH HB hw144_0 :), (cH HB hw144_1 :)⟩ (fun hHeld => ?_); refine with_tabW spec_l02Is.tab4 spec_l02Is.bits4 (fun HT_ HW_ => ?_)
        generalize wr.drew = w17 at BK143 HB hx144_0 hx144_1 hHeld ⊢
        refine pu_ 1 14 2 HT_ ?_
        refine pu_ 2 15 6 HT_ ?_
        refine pu_ 3 16 14 HT_ ?_
        refine tk_ 0 13 15 HT_ HW_ hHeld ?_
        refine tk_ 4 17 31 HT_ HW_ hHeld ?_
        refine on_ 5 (some 18) 63 HT_ (fun K hK => ?_)
        refine ca_ Tryz.func60 #[.agg #[.int .i64 a0_0, .slice A0_1 l0_1.length c0_1], .agg #[.int .i64 ((rd_T45 l1 x5_1).f0), .int .i64 ((rd_T45 l1 x5_1).f1)]] ?_
        with_reducible refine (spec_l02Pair.calls k1 a0_0 _ _ l0_1 ((rd_T45 l1 x5_1).f0) ((rd_T45 l1 x5_1).f1) true _ ?side1 ?side2 A7.out).mono ?_
        (case side1 => exact pC ((Kd.C_below HR0_1.out HB.out)))
        (case side2 => exact HC0_1.out)
        rintro e w18 ⟨rfl, hb⟩
        refine ⟨_, rfl, ?_⟩
        replace BK143 := sB BK143 hb
        replace HB := sH HB hb
        (try clear hb)
        (try clear hb2)
        (try clear hk)
        (try clear hi)
        refine hK.out _ _ ⟨cB BK143 0, cB BK143 1, (cH HB hw144_0 :), (cH HB hw144_1 :)⟩ (fun hHeld => ?_)
        clear hK K
        refine nm_ ?_
        refine pu_ 6 19 127 HT_ ?_
        refine pu_ 7 20 255 HT_ ?_
        refine pu_ 8 21 511 HT_ ?_
        refine pu_ 9 22 1023 HT_ ?_
        refine pu_ 10 23 2047 HT_ ?_
        refine pn_ 11 24 4095 HT_ ?_
        refine pn_ 12 25 8191 HT_ ?_
        refine pn_ 13 26 16383 HT_ ?_
        refine pn_ 14 27 32767 HT_ ?_
        refine pn_ 15 28 65535 HT_ ?_
        refine pn_ 16 29 131071 HT_ ?_
        refine pn_ 17 30 262143 HT_ ?_
        refine pn_ 18 31 524287 HT_ ?_
        refine pn_ 19 32 1048575 HT_ ?_
        refine pn_ 20 33 2097151 HT_ ?_
        refine pn_ 21 34 4194303 HT_ ?_
        refine pu_ 22 35 8388607 HT_ ?_
        refine pu_ 23 36 16777215 HT_ ?_
        refine dn_ HT_ ?_
        try go_wp2
        go_meet
        case rel => exact ⟨_, (false), (by first | rfl | (simp; done) | (simp [*]; done)), H', ⟨by have := HK1.out; first | omega | exact Nat.le_refl _⟩, ⟨pB BK143⟩, ⟨pH HB⟩⟩
      ·replace c8 := Bool.eq_false_iff.mpr c8
       subst c8
       have H1 : (spec_l02Is.j1 k1 l1 x5_1 true a0_0 l0_1) = some r := by rw [if_neg (show ¬ (false = true) by decide)] at H; exact H
       clear H
       have H := H1
       clear H1
       have H' := Aside0.mk H
       clear H
       try go_wp2
       replace BK143 := dB BK143
       replace HB := dH HB
       have p144 : 0 ≤ (x5_1 : Int) := of_decide_eq_true (by first | (with_reducible assumption) | assumption)
       have q144 : x5_1 < (l1.length : Int) := of_decide_eq_true (by first | (with_reducible assumption) | assumption)
       obtain ⟨ad144, e144, hx144_0, hx144_1⟩ := at_T45 HR1.out x5_1 p144 q144
       have hw144_1 := hx144_1
       have hw144_0 := hx144_0
       cases e144
       replace hx144_0 := cH HB hx144_0
       replace hx144_1 := cH HB hx144_1
       replace p144 := eq_true p144
       replace q144 := eq_true q144
       refine st_ 24 (S := fun w' => w'.cell? ⟨gb143, 0, none⟩ = some (.int .i64 a0_0) ∧ w'.cell? ⟨gb143, 1, none⟩ = some (.slice A0_1 l0_1.length c0_1) ∧ w'.cell? (ad144.add ((x5_1).toNat * 2)) = some (.int .i64 ((rd_T45 l1 x5_1).f0)) ∧ w'.cell? ⟨(ad144.add ((x5_1).toNat * 2)).block, (ad144.add ((x5_1).toNat * 2)).off + 1, none⟩ = some (.int .i64 ((rd_T45 l1 x5_1).f1))) (ds := []) ⟨cB BK143 0, cB BK143 1, (cH HB hw144_0 :), (cH HB hw144_1 :)⟩ (fun hHeld => ?_); refine with_tabW spec_l02Is.tab4 spec_l02Is.bits4 (fun HT_ HW_ => ?_)
       generalize wr.drew = w19 at BK143 HB hx144_0 hx144_1 hHeld ⊢
       refine pu_ 1 14 2 HT_ ?_
       refine pu_ 2 15 6 HT_ ?_
       refine pu_ 3 16 14 HT_ ?_
       refine tk_ 0 13 15 HT_ HW_ hHeld ?_
       refine tk_ 4 17 31 HT_ HW_ hHeld ?_
       refine on_ 5 (some 18) 63 HT_ (fun K hK => ?_)
       refine ca_ Tryz.func60 #[.agg #[.int .i64 a0_0, .slice A0_1 l0_1.length c0_1], .agg #[.int .i64 ((rd_T45 l1 x5_1).f0), .int .i64 ((rd_T45 l1 x5_1).f1)]] ?_
       with_reducible refine (spec_l02Pair.calls k1 a0_0 _ _ l0_1 ((rd_T45 l1 x5_1).f0) ((rd_T45 l1 x5_1).f1) false _ ?side1 ?side2 A7.out).mono ?_
       (case side1 => exact pC ((Kd.C_below HR0_1.out HB.out)))
       (case side2 => exact HC0_1.out)
       rintro e w20 ⟨rfl, hb⟩
       refine ⟨_, rfl, ?_⟩
       replace BK143 := sB BK143 hb
       replace HB := sH HB hb
       (try clear hb)
       (try clear hb2)
       (try clear hk)
       (try clear hi)
       refine hK.out _ _ ⟨cB BK143 0, cB BK143 1, (cH HB hw144_0 :), (cH HB hw144_1 :)⟩ (fun hHeld => ?_)
       clear hK K
       refine nm_ ?_
       refine pu_ 6 19 127 HT_ ?_
       refine pu_ 7 20 255 HT_ ?_
       refine pn_ 8 21 511 HT_ ?_
       refine pn_ 9 22 1023 HT_ ?_
       refine pn_ 10 23 2047 HT_ ?_
       refine pn_ 11 24 4095 HT_ ?_
       refine pn_ 12 25 8191 HT_ ?_
       refine pn_ 13 26 16383 HT_ ?_
       refine pn_ 14 27 32767 HT_ ?_
       refine pn_ 15 28 65535 HT_ ?_
       refine pn_ 16 29 131071 HT_ ?_
       refine pn_ 17 30 262143 HT_ ?_
       refine pn_ 18 31 524287 HT_ ?_
       refine pn_ 19 32 1048575 HT_ ?_
       refine pn_ 20 33 2097151 HT_ ?_
       refine pn_ 21 34 4194303 HT_ ?_
       refine pn_ 22 35 8388607 HT_ ?_
       refine pu_ 23 36 16777215 HT_ ?_
       refine dn_ HT_ ?_
       try go_wp2
       go_meet
       case rel => exact ⟨_, (true), (by first | rfl | (simp; done) | (simp [*]; done)), H', ⟨by have := HK1.out; first | omega | exact Nat.le_refl _⟩, ⟨pB BK143⟩, ⟨pH HB⟩⟩
     ·rw [if_neg c6] at H
      exact absurd H (by simp)
    case rest =>
     clear HC5
     try clear c1
     try clear p1
     try clear q1
     try clear hx1
     try clear p2
     try clear c4
     try clear c6
     try clear c8
     try clear c9
     try clear c9b0
     try clear c11
     try clear c12
     try clear p14
     try clear q14
     try clear hx14
     try clear hx144_0
     try clear hx144_1
     try clear p144
     try clear q144
     obtain ⟨kq, x36_4, rfl, HA, HJ4, BK143, HB⟩ := hcut
     cases kq with
     | zero => exact absurd HA.out (by simp [spec_l02Is.j1])
     | succ kj4 =>
      have H := HA.out
      clear HA
      simp only [spec_l02Is.j1] at H
      by_cases c21 : x36_4 = true
      ·subst c21
       have H1 : (some false) = some r := by rw [if_pos rfl] at H; exact H
       clear H
       have H := H1
       clear H1
       obtain rfl := Option.some.inj H
       go_wp2
       go_ret
       exact ⟨by first | rfl | (simp [errW_none, errW_some] <;> rfl) | (simp [*, errW_none, errW_some] <;> rfl) | (exfalso; simp_all), pH HB⟩
      ·replace c21 := Bool.eq_false_iff.mpr c21
       subst c21
       have H1 : (spec_l02Is.l1 kj4 l1 x5_1 0 a0_0 l0_1) = some r := by rw [if_neg (show ¬ (false = true) by decide)] at H; exact H
       clear H
       have H := H1
       clear H1
       have H' := Aside0.mk H
       clear H
       go_wp2
       go_loopg [6] kj4 (fun kq v6 w' => ∃ (x6_3 : Int), v6 = .int .i64 x6_3 ∧ Aside0 (spec_l02Is.l1 kq l1 x5_1 x6_3 a0_0 l0_1 = some r) ∧ Aside0 (kq ≤ kj4) ∧ Aside0 (w'.heap[gb143]? = some (.cells #[.int .i64 a0_0, (.slice A0_1 l0_1.length c0_1)] 31 (0, 0))) ∧ Aside0 (Below w.heap.size w w'))
       case atStart => exact ⟨(0), (by first | rfl | (simp; done) | (simp [*]; done)), H', ⟨Nat.le_refl _⟩, ⟨pB BK143⟩, ⟨pH HB⟩⟩
       case round =>
        clear H'
        try clear c1
        try clear p1
        try clear q1
        try clear hx1
        try clear c2
        try clear p2
        try clear c4
        try clear c6
        try clear c8
        try clear c9
        try clear c9b0
        try clear c11
        try clear c12
        try clear p14
        try clear q14
        try clear hx14
        try clear c21
        try clear hx144_0
        try clear hx144_1
        try clear p1
        try clear p14
        try clear p144
        try clear p2
        try clear q1
        try clear q14
        try clear q144
        obtain ⟨x6_3, rfl, HA, HK3, BK143, HB⟩ := hrel
        cases gk with
        | zero => exact absurd HA.out (by simp [spec_l02Is.l1])
        | succ k3 =>
         have H := HA.out
         clear HA
         simp only [spec_l02Is.l1] at H
         by_cases c22 : x6_3 < x5_1
         ·rw [if_pos c22] at H
          have c22b0 : decide (x6_3 < x5_1) = true := decide_eq_true c22
          clear c22
          by_cases c23 : 0 ≤ x5_1
          ·rw [if_pos c23] at H
           have c23b0 : decide (0 ≤ x5_1) = true := decide_eq_true c23
           clear c23
           by_cases c24 : x5_1 < (l1.length : Int)
           ·rw [if_pos c24] at H
            have c24b0 : decide (x5_1 < (l1.length : Int)) = true := decide_eq_true c24
            clear c24
            by_cases c25 : 0 ≤ x6_3
            ·rw [if_pos c25] at H
             have c25b0 : decide (0 ≤ x6_3) = true := decide_eq_true c25
             clear c25
             by_cases c26 : x6_3 < (l1.length : Int)
             ·rw [if_pos c26] at H
              have c26b0 : decide (x6_3 < (l1.length : Int)) = true := decide_eq_true c26
              clear c26
              by_cases c27 : ((rd_T45 l1 x5_1).f0) = ((rd_T45 l1 x6_3).f0)
              ·rw [if_pos c27] at H
               have c27b0 : (((rd_T45 l1 x5_1).f0) == ((rd_T45 l1 x6_3).f0)) = true := beq_iff_eq.mpr c27
               have c27b1 : (((rd_T45 l1 x5_1).f0) != ((rd_T45 l1 x6_3).f0)) = false := bne_eq_false_iff_eq.mpr c27
               clear c27
               obtain rfl := Option.some.inj H
               try go_wp2
               replace BK143 := dB BK143
               replace HB := dH HB
               have p149 : 0 ≤ (x5_1 : Int) := of_decide_eq_true (by first | (with_reducible assumption) | assumption)
               have q149 : x5_1 < (l1.length : Int) := of_decide_eq_true (by first | (with_reducible assumption) | assumption)
               obtain ⟨ad149, e149, hx149_0, hx149_1⟩ := at_T45 HR1.out x5_1 p149 q149
               have hw149_1 := hx149_1
               have hw149_0 := hx149_0
               cases e149
               replace hx149_0 := cH HB hx149_0
               replace hx149_1 := cH HB hx149_1
               replace p149 := eq_true p149
               replace q149 := eq_true q149
               have p150 : 0 ≤ (x6_3 : Int) := of_decide_eq_true (by first | (with_reducible assumption) | assumption)
               have q150 : x6_3 < (l1.length : Int) := of_decide_eq_true (by first | (with_reducible assumption) | assumption)
               obtain ⟨ad150, e150, hx150_0, hx150_1⟩ := at_T45 HR1.out x6_3 p150 q150
               have hw150_1 := hx150_1
               have hw150_0 := hx150_0
               obtain rfl : ad149 = ad150 := (by injection e150)
               replace hx150_0 := cH HB hx150_0
               replace hx150_1 := cH HB hx150_1
               replace p150 := eq_true p150
               replace q150 := eq_true q150
               refine st_ 50 (S := fun w' => w'.cell? (ad149.add ((x5_1).toNat * 2)) = some (.int .i64 ((rd_T45 l1 x5_1).f0)) ∧ w'.cell? ⟨(ad149.add ((x5_1).toNat * 2)).block, (ad149.add ((x5_1).toNat * 2)).off + 1, none⟩ = some (.int .i64 ((rd_T45 l1 x5_1).f1)) ∧ w'.cell? (ad149.add ((x6_3).toNat * 2)) = some (.int .i64 ((rd_T45 l1 x6_3).f0)) ∧ w'.cell? ⟨(ad149.add ((x6_3).toNat * 2)).block, (ad149.add ((x6_3).toNat * 2)).off + 1, none⟩ = some (.int .i64 ((rd_T45 l1 x6_3).f1))) (ds := []) ⟨(cH HB hw149_0 :), (cH HB hw149_1 :), (cH HB hw150_0 :), (cH HB hw150_1 :)⟩ (fun hHeld => ?_); refine with_tabW spec_l02Is.tab9 spec_l02Is.bits9 (fun HT_ HW_ => ?_)
               generalize wr.drew = w28 at BK143 HB hx149_0 hx149_1 hx150_0 hx150_1 hHeld ⊢
               refine pu_ 0 42 1 HT_ ?_
               refine pu_ 1 43 3 HT_ ?_
               refine pu_ 2 44 7 HT_ ?_
               refine pu_ 3 45 15 HT_ ?_
               refine pu_ 5 47 47 HT_ ?_
               refine pu_ 6 48 111 HT_ ?_
               refine pu_ 7 49 239 HT_ ?_
               refine pu_ 8 50 495 HT_ ?_
               refine tk_ 4 46 511 HT_ HW_ hHeld ?_
               refine tk_ 9 51 1023 HT_ HW_ hHeld ?_
               refine pu_ 10 52 2047 HT_ ?_
               refine pu_ 11 53 4095 HT_ ?_
               refine pn_ 12 54 8191 HT_ ?_
               refine pn_ 13 55 16383 HT_ ?_
               refine pn_ 14 56 32767 HT_ ?_
               refine pn_ 15 57 65535 HT_ ?_
               refine pn_ 16 58 131071 HT_ ?_
               refine pn_ 17 59 262143 HT_ ?_
               refine pn_ 18 60 524287 HT_ ?_
               refine pn_ 19 61 1048575 HT_ ?_
               refine pn_ 20 62 2097151 HT_ ?_
               refine pn_ 21 63 4194303 HT_ ?_
               refine pn_ 22 64 8388607 HT_ ?_
               refine pu_ 23 65 16777215 HT_ ?_
               refine pu_ 24 66 33554431 HT_ ?_
               refine pn_ 25 67 67108863 HT_ ?_
               refine pn_ 26 68 134217727 HT_ ?_
               refine pn_ 27 69 268435455 HT_ ?_
               refine pn_ 28 70 536870911 HT_ ?_
               refine pn_ 29 71 1073741823 HT_ ?_
               refine pn_ 30 72 2147483647 HT_ ?_
               refine pn_ 31 73 4294967295 HT_ ?_
               refine pn_ 32 74 8589934591 HT_ ?_
               refine pn_ 33 75 17179869183 HT_ ?_
               refine pn_ 34 76 34359738367 HT_ ?_
               refine pn_ 35 77 68719476735 HT_ ?_
               refine pu_ 36 78 137438953471 HT_ ?_
               refine pu_ 37 79 274877906943 HT_ ?_
               refine pn_ 38 80 549755813887 HT_ ?_
               refine pn_ 39 81 1099511627775 HT_ ?_
               refine pn_ 40 82 2199023255551 HT_ ?_
               refine pn_ 41 83 4398046511103 HT_ ?_
               refine pn_ 42 84 8796093022207 HT_ ?_
               refine pn_ 43 85 17592186044415 HT_ ?_
               refine pn_ 44 86 35184372088831 HT_ ?_
               refine pn_ 45 87 70368744177663 HT_ ?_
               refine pn_ 46 88 140737488355327 HT_ ?_
               refine pn_ 47 89 281474976710655 HT_ ?_
               refine pn_ 48 90 562949953421311 HT_ ?_
               refine pu_ 49 91 1125899906842623 HT_ ?_
               refine dn_ HT_ ?_
               try go_wp2
               go_ret
               exact ⟨by first | rfl | (simp [errW_none, errW_some] <;> rfl) | (simp [*, errW_none, errW_some] <;> rfl) | (exfalso; simp_all), pH HB⟩
              ·rw [if_neg c27] at H
               have c27b0 : (((rd_T45 l1 x5_1).f0) == ((rd_T45 l1 x6_3).f0)) = false := beq_eq_false_iff_ne.mpr c27
               have c27b1 : (((rd_T45 l1 x5_1).f0) != ((rd_T45 l1 x6_3).f0)) = true := bne_iff_ne.mpr c27
               by_cases c29 : ((rd_T45 l1 x5_1).f0) = ((rd_T45 l1 x6_3).f1)
               ·rw [if_pos c29] at H
                have c29b0 : (((rd_T45 l1 x5_1).f0) == ((rd_T45 l1 x6_3).f1)) = true := beq_iff_eq.mpr c29
                have c29b1 : (((rd_T45 l1 x5_1).f0) != ((rd_T45 l1 x6_3).f1)) = false := bne_eq_false_iff_eq.mpr c29
                clear c29
                obtain rfl := Option.some.inj H
                try go_wp2
                replace BK143 := dB BK143
                replace HB := dH HB
                have p149 : 0 ≤ (x5_1 : Int) := of_decide_eq_true (by first | (with_reducible assumption) | assumption)
                have q149 : x5_1 < (l1.length : Int) := of_decide_eq_true (by first | (with_reducible assumption) | assumption)
                obtain ⟨ad149, e149, hx149_0, hx149_1⟩ := at_T45 HR1.out x5_1 p149 q149
                have hw149_1 := hx149_1
                have hw149_0 := hx149_0
                cases e149
                replace hx149_0 := cH HB hx149_0
                replace hx149_1 := cH HB hx149_1
                replace p149 := eq_true p149
                replace q149 := eq_true q149
                have p150 : 0 ≤ (x6_3 : Int) := of_decide_eq_true (by first | (with_reducible assumption) | assumption)
                have q150 : x6_3 < (l1.length : Int) := of_decide_eq_true (by first | (with_reducible assumption) | assumption)
                obtain ⟨ad150, e150, hx150_0, hx150_1⟩ := at_T45 HR1.out x6_3 p150 q150
                have hw150_1 := hx150_1
                have hw150_0 := hx150_0
                obtain rfl : ad149 = ad150 := (by injection e150)
                replace hx150_0 := cH HB hx150_0
                replace hx150_1 := cH HB hx150_1
                replace p150 := eq_true p150
                replace q150 := eq_true q150
                have p151 : 0 ≤ (x5_1 : Int) := of_decide_eq_true (by first | (with_reducible assumption) | assumption)
                have q151 : x5_1 < (l1.length : Int) := of_decide_eq_true (by first | (with_reducible assumption) | assumption)
                obtain ⟨ad151, e151, hx151_0, hx151_1⟩ := at_T45 HR1.out x5_1 p151 q151
                have hw151_1 := hx151_1
                have hw151_0 := hx151_0
                obtain rfl : ad149 = ad151 := (by injection e151)
                replace hx151_0 := cH HB hx151_0
                replace hx151_1 := cH HB hx151_1
                replace p151 := eq_true p151
                replace q151 := eq_true q151
                have p152 : 0 ≤ (x6_3 : Int) := of_decide_eq_true (by first | (with_reducible assumption) | assumption)
                have q152 : x6_3 < (l1.length : Int) := of_decide_eq_true (by first | (with_reducible assumption) | assumption)
                obtain ⟨ad152, e152, hx152_0, hx152_1⟩ := at_T45 HR1.out x6_3 p152 q152
                have hw152_1 := hx152_1
                have hw152_0 := hx152_0
                obtain rfl : ad149 = ad152 := (by injection e152)
                replace hx152_0 := cH HB hx152_0
                replace hx152_1 := cH HB hx152_1
                replace p152 := eq_true p152
                replace q152 := eq_true q152
                refine st_ 50 (S := fun w' => w'.cell? (ad149.add ((x5_1).toNat * 2)) = some (.int .i64 ((rd_T45 l1 x5_1).f0)) ∧ w'.cell? ⟨(ad149.add ((x5_1).toNat * 2)).block, (ad149.add ((x5_1).toNat * 2)).off + 1, none⟩ = some (.int .i64 ((rd_T45 l1 x5_1).f1)) ∧ w'.cell? (ad149.add ((x6_3).toNat * 2)) = some (.int .i64 ((rd_T45 l1 x6_3).f0)) ∧ w'.cell? ⟨(ad149.add ((x6_3).toNat * 2)).block, (ad149.add ((x6_3).toNat * 2)).off + 1, none⟩ = some (.int .i64 ((rd_T45 l1 x6_3).f1)) ∧ w'.cell? (ad149.add ((x5_1).toNat * 2)) = some (.int .i64 ((rd_T45 l1 x5_1).f0)) ∧ w'.cell? ⟨(ad149.add ((x5_1).toNat * 2)).block, (ad149.add ((x5_1).toNat * 2)).off + 1, none⟩ = some (.int .i64 ((rd_T45 l1 x5_1).f1)) ∧ w'.cell? (ad149.add ((x6_3).toNat * 2)) = some (.int .i64 ((rd_T45 l1 x6_3).f0)) ∧ w'.cell? ⟨(ad149.add ((x6_3).toNat * 2)).block, (ad149.add ((x6_3).toNat * 2)).off + 1, none⟩ = some (.int .i64 ((rd_T45 l1 x6_3).f1))) (ds := []) ⟨(cH HB hw149_0 :), (cH HB hw149_1 :), (cH HB hw150_0 :), (cH HB hw150_1 :), (cH HB hw151_0 :), (cH HB hw151_1 :), (cH HB hw152_0 :), (cH HB hw152_1 :)⟩ (fun hHeld => ?_); refine with_tabW spec_l02Is.tab9 spec_l02Is.bits9 (fun HT_ HW_ => ?_)
                generalize wr.drew = w30 at BK143 HB hx149_0 hx149_1 hx150_0 hx150_1 hx151_0 hx151_1 hx152_0 hx152_1 hHeld ⊢
                refine pu_ 0 42 1 HT_ ?_
                refine pu_ 1 43 3 HT_ ?_
                refine pu_ 2 44 7 HT_ ?_
                refine pu_ 3 45 15 HT_ ?_
                refine pu_ 5 47 47 HT_ ?_
                refine pu_ 6 48 111 HT_ ?_
                refine pu_ 7 49 239 HT_ ?_
                refine pu_ 8 50 495 HT_ ?_
                refine tk_ 4 46 511 HT_ HW_ hHeld ?_
                refine tk_ 9 51 1023 HT_ HW_ hHeld ?_
                refine pu_ 10 52 2047 HT_ ?_
                refine pu_ 11 53 4095 HT_ ?_
                refine pu_ 12 54 8191 HT_ ?_
                refine pu_ 13 55 16383 HT_ ?_
                refine pu_ 14 56 32767 HT_ ?_
                refine pu_ 15 57 65535 HT_ ?_
                refine pu_ 17 59 196607 HT_ ?_
                refine pu_ 18 60 458751 HT_ ?_
                refine pu_ 19 61 983039 HT_ ?_
                refine pu_ 20 62 2031615 HT_ ?_
                refine tk_ 16 58 2097151 HT_ HW_ hHeld ?_
                refine tk_ 21 63 4194303 HT_ HW_ hHeld ?_
                refine pu_ 22 64 8388607 HT_ ?_
                refine pu_ 23 65 16777215 HT_ ?_
                refine pu_ 24 66 33554431 HT_ ?_
                refine pn_ 25 67 67108863 HT_ ?_
                refine pn_ 26 68 134217727 HT_ ?_
                refine pn_ 27 69 268435455 HT_ ?_
                refine pn_ 28 70 536870911 HT_ ?_
                refine pn_ 29 71 1073741823 HT_ ?_
                refine pn_ 30 72 2147483647 HT_ ?_
                refine pn_ 31 73 4294967295 HT_ ?_
                refine pn_ 32 74 8589934591 HT_ ?_
                refine pn_ 33 75 17179869183 HT_ ?_
                refine pn_ 34 76 34359738367 HT_ ?_
                refine pn_ 35 77 68719476735 HT_ ?_
                refine pu_ 36 78 137438953471 HT_ ?_
                refine pu_ 37 79 274877906943 HT_ ?_
                refine pn_ 38 80 549755813887 HT_ ?_
                refine pn_ 39 81 1099511627775 HT_ ?_
                refine pn_ 40 82 2199023255551 HT_ ?_
                refine pn_ 41 83 4398046511103 HT_ ?_
                refine pn_ 42 84 8796093022207 HT_ ?_
                refine pn_ 43 85 17592186044415 HT_ ?_
                refine pn_ 44 86 35184372088831 HT_ ?_
                refine pn_ 45 87 70368744177663 HT_ ?_
                refine pn_ 46 88 140737488355327 HT_ ?_
                refine pn_ 47 89 281474976710655 HT_ ?_
                refine pn_ 48 90 562949953421311 HT_ ?_
                refine pu_ 49 91 1125899906842623 HT_ ?_
                refine dn_ HT_ ?_
                try go_wp2
                go_ret
                exact ⟨by first | rfl | (simp [errW_none, errW_some] <;> rfl) | (simp [*, errW_none, errW_some] <;> rfl) | (exfalso; simp_all), pH HB⟩
               ·rw [if_neg c29] at H
                have c29b0 : (((rd_T45 l1 x5_1).f0) == ((rd_T45 l1 x6_3).f1)) = false := beq_eq_false_iff_ne.mpr c29
                have c29b1 : (((rd_T45 l1 x5_1).f0) != ((rd_T45 l1 x6_3).f1)) = true := bne_iff_ne.mpr c29
                by_cases c31 : ((rd_T45 l1 x5_1).f1) = ((rd_T45 l1 x6_3).f0)
                ·rw [if_pos c31] at H
                 have c31b0 : (((rd_T45 l1 x5_1).f1) == ((rd_T45 l1 x6_3).f0)) = true := beq_iff_eq.mpr c31
                 have c31b1 : (((rd_T45 l1 x5_1).f1) != ((rd_T45 l1 x6_3).f0)) = false := bne_eq_false_iff_eq.mpr c31
                 clear c31
                 obtain rfl := Option.some.inj H
                 try go_wp2
                 replace BK143 := dB BK143
                 replace HB := dH HB
                 have p149 : 0 ≤ (x5_1 : Int) := of_decide_eq_true (by first | (with_reducible assumption) | assumption)
                 have q149 : x5_1 < (l1.length : Int) := of_decide_eq_true (by first | (with_reducible assumption) | assumption)
                 obtain ⟨ad149, e149, hx149_0, hx149_1⟩ := at_T45 HR1.out x5_1 p149 q149
                 have hw149_1 := hx149_1
                 have hw149_0 := hx149_0
                 cases e149
                 replace hx149_0 := cH HB hx149_0
                 replace hx149_1 := cH HB hx149_1
                 replace p149 := eq_true p149
                 replace q149 := eq_true q149
                 have p150 : 0 ≤ (x6_3 : Int) := of_decide_eq_true (by first | (with_reducible assumption) | assumption)
                 have q150 : x6_3 < (l1.length : Int) := of_decide_eq_true (by first | (with_reducible assumption) | assumption)
                 obtain ⟨ad150, e150, hx150_0, hx150_1⟩ := at_T45 HR1.out x6_3 p150 q150
                 have hw150_1 := hx150_1
                 have hw150_0 := hx150_0
                 obtain rfl : ad149 = ad150 := (by injection e150)
                 replace hx150_0 := cH HB hx150_0
                 replace hx150_1 := cH HB hx150_1
                 replace p150 := eq_true p150
                 replace q150 := eq_true q150
                 have p151 : 0 ≤ (x5_1 : Int) := of_decide_eq_true (by first | (with_reducible assumption) | assumption)
                 have q151 : x5_1 < (l1.length : Int) := of_decide_eq_true (by first | (with_reducible assumption) | assumption)
                 obtain ⟨ad151, e151, hx151_0, hx151_1⟩ := at_T45 HR1.out x5_1 p151 q151
                 have hw151_1 := hx151_1
                 have hw151_0 := hx151_0
                 obtain rfl : ad149 = ad151 := (by injection e151)
                 replace hx151_0 := cH HB hx151_0
                 replace hx151_1 := cH HB hx151_1
                 replace p151 := eq_true p151
                 replace q151 := eq_true q151
                 have p152 : 0 ≤ (x6_3 : Int) := of_decide_eq_true (by first | (with_reducible assumption) | assumption)
                 have q152 : x6_3 < (l1.length : Int) := of_decide_eq_true (by first | (with_reducible assumption) | assumption)
                 obtain ⟨ad152, e152, hx152_0, hx152_1⟩ := at_T45 HR1.out x6_3 p152 q152
                 have hw152_1 := hx152_1
                 have hw152_0 := hx152_0
                 obtain rfl : ad149 = ad152 := (by injection e152)
                 replace hx152_0 := cH HB hx152_0
                 replace hx152_1 := cH HB hx152_1
                 replace p152 := eq_true p152
                 replace q152 := eq_true q152
                 have p153 : 0 ≤ (x5_1 : Int) := of_decide_eq_true (by first | (with_reducible assumption) | assumption)
                 have q153 : x5_1 < (l1.length : Int) := of_decide_eq_true (by first | (with_reducible assumption) | assumption)
                 obtain ⟨ad153, e153, hx153_0, hx153_1⟩ := at_T45 HR1.out x5_1 p153 q153
                 have hw153_1 := hx153_1
                 have hw153_0 := hx153_0
                 obtain rfl : ad149 = ad153 := (by injection e153)
                 replace hx153_0 := cH HB hx153_0
                 replace hx153_1 := cH HB hx153_1
                 replace p153 := eq_true p153
                 replace q153 := eq_true q153
                 have p154 : 0 ≤ (x6_3 : Int) := of_decide_eq_true (by first | (with_reducible assumption) | assumption)
                 have q154 : x6_3 < (l1.length : Int) := of_decide_eq_true (by first | (with_reducible assumption) | assumption)
                 obtain ⟨ad154, e154, hx154_0, hx154_1⟩ := at_T45 HR1.out x6_3 p154 q154
                 have hw154_1 := hx154_1
                 have hw154_0 := hx154_0
                 obtain rfl : ad149 = ad154 := (by injection e154)
                 replace hx154_0 := cH HB hx154_0
                 replace hx154_1 := cH HB hx154_1
                 replace p154 := eq_true p154
                 replace q154 := eq_true q154
                 refine st_ 50 (S := fun w' => w'.cell? (ad149.add ((x5_1).toNat * 2)) = some (.int .i64 ((rd_T45 l1 x5_1).f0)) ∧ w'.cell? ⟨(ad149.add ((x5_1).toNat * 2)).block, (ad149.add ((x5_1).toNat * 2)).off + 1, none⟩ = some (.int .i64 ((rd_T45 l1 x5_1).f1)) ∧ w'.cell? (ad149.add ((x6_3).toNat * 2)) = some (.int .i64 ((rd_T45 l1 x6_3).f0)) ∧ w'.cell? ⟨(ad149.add ((x6_3).toNat * 2)).block, (ad149.add ((x6_3).toNat * 2)).off + 1, none⟩ = some (.int .i64 ((rd_T45 l1 x6_3).f1)) ∧ w'.cell? (ad149.add ((x5_1).toNat * 2)) = some (.int .i64 ((rd_T45 l1 x5_1).f0)) ∧ w'.cell? ⟨(ad149.add ((x5_1).toNat * 2)).block, (ad149.add ((x5_1).toNat * 2)).off + 1, none⟩ = some (.int .i64 ((rd_T45 l1 x5_1).f1)) ∧ w'.cell? (ad149.add ((x6_3).toNat * 2)) = some (.int .i64 ((rd_T45 l1 x6_3).f0)) ∧ w'.cell? ⟨(ad149.add ((x6_3).toNat * 2)).block, (ad149.add ((x6_3).toNat * 2)).off + 1, none⟩ = some (.int .i64 ((rd_T45 l1 x6_3).f1)) ∧ w'.cell? (ad149.add ((x5_1).toNat * 2)) = some (.int .i64 ((rd_T45 l1 x5_1).f0)) ∧ w'.cell? ⟨(ad149.add ((x5_1).toNat * 2)).block, (ad149.add ((x5_1).toNat * 2)).off + 1, none⟩ = some (.int .i64 ((rd_T45 l1 x5_1).f1)) ∧ w'.cell? (ad149.add ((x6_3).toNat * 2)) = some (.int .i64 ((rd_T45 l1 x6_3).f0)) ∧ w'.cell? ⟨(ad149.add ((x6_3).toNat * 2)).block, (ad149.add ((x6_3).toNat * 2)).off + 1, none⟩ = some (.int .i64 ((rd_T45 l1 x6_3).f1))) (ds := []) ⟨(cH HB hw149_0 :), (cH HB hw149_1 :), (cH HB hw150_0 :), (cH HB hw150_1 :), (cH HB hw151_0 :), (cH HB hw151_1 :), (cH HB hw152_0 :), (cH HB hw152_1 :), (cH HB hw153_0 :), (cH HB hw153_1 :), (cH HB hw154_0 :), (cH HB hw154_1 :)⟩ (fun hHeld => ?_); refine with_tabW spec_l02Is.tab9 spec_l02Is.bits9 (fun HT_ HW_ => ?_)
                 generalize wr.drew = w32 at BK143 HB hx149_0 hx149_1 hx150_0 hx150_1 hx151_0 hx151_1 hx152_0 hx152_1 hx153_0 hx153_1 hx154_0 hx154_1 hHeld ⊢
                 refine pu_ 0 42 1 HT_ ?_
                 refine pu_ 1 43 3 HT_ ?_
                 refine pu_ 2 44 7 HT_ ?_
                 refine pu_ 3 45 15 HT_ ?_
                 refine pu_ 5 47 47 HT_ ?_
                 refine pu_ 6 48 111 HT_ ?_
                 refine pu_ 7 49 239 HT_ ?_
                 refine pu_ 8 50 495 HT_ ?_
                 refine tk_ 4 46 511 HT_ HW_ hHeld ?_
                 refine tk_ 9 51 1023 HT_ HW_ hHeld ?_
                 refine pu_ 10 52 2047 HT_ ?_
                 refine pu_ 11 53 4095 HT_ ?_
                 refine pu_ 12 54 8191 HT_ ?_
                 refine pu_ 13 55 16383 HT_ ?_
                 refine pu_ 14 56 32767 HT_ ?_
                 refine pu_ 15 57 65535 HT_ ?_
                 refine pu_ 17 59 196607 HT_ ?_
                 refine pu_ 18 60 458751 HT_ ?_
                 refine pu_ 19 61 983039 HT_ ?_
                 refine pu_ 20 62 2031615 HT_ ?_
                 refine tk_ 16 58 2097151 HT_ HW_ hHeld ?_
                 refine tk_ 21 63 4194303 HT_ HW_ hHeld ?_
                 refine pu_ 22 64 8388607 HT_ ?_
                 refine pu_ 23 65 16777215 HT_ ?_
                 refine pu_ 24 66 33554431 HT_ ?_
                 refine pu_ 25 67 67108863 HT_ ?_
                 refine pu_ 26 68 134217727 HT_ ?_
                 refine pu_ 27 69 268435455 HT_ ?_
                 refine pu_ 28 70 536870911 HT_ ?_
                 refine pu_ 30 72 1610612735 HT_ ?_
                 refine pu_ 31 73 3758096383 HT_ ?_
                 refine pu_ 32 74 8053063679 HT_ ?_
                 refine pu_ 33 75 16642998271 HT_ ?_
                 refine tk_ 29 71 17179869183 HT_ HW_ hHeld ?_
                 refine tk_ 34 76 34359738367 HT_ HW_ hHeld ?_
                 refine pu_ 35 77 68719476735 HT_ ?_
                 refine pu_ 36 78 137438953471 HT_ ?_
                 refine pu_ 37 79 274877906943 HT_ ?_
                 refine pn_ 38 80 549755813887 HT_ ?_
                 refine pn_ 39 81 1099511627775 HT_ ?_
                 refine pn_ 40 82 2199023255551 HT_ ?_
                 refine pn_ 41 83 4398046511103 HT_ ?_
                 refine pn_ 42 84 8796093022207 HT_ ?_
                 refine pn_ 43 85 17592186044415 HT_ ?_
                 refine pn_ 44 86 35184372088831 HT_ ?_
                 refine pn_ 45 87 70368744177663 HT_ ?_
                 refine pn_ 46 88 140737488355327 HT_ ?_
                 refine pn_ 47 89 281474976710655 HT_ ?_
                 refine pn_ 48 90 562949953421311 HT_ ?_
                 refine pu_ 49 91 1125899906842623 HT_ ?_
                 refine dn_ HT_ ?_
                 try go_wp2
                 go_ret
                 exact ⟨by first | rfl | (simp [errW_none, errW_some] <;> rfl) | (simp [*, errW_none, errW_some] <;> rfl) | (exfalso; simp_all), pH HB⟩
                ·rw [if_neg c31] at H
                 have c31b0 : (((rd_T45 l1 x5_1).f1) == ((rd_T45 l1 x6_3).f0)) = false := beq_eq_false_iff_ne.mpr c31
                 have c31b1 : (((rd_T45 l1 x5_1).f1) != ((rd_T45 l1 x6_3).f0)) = true := bne_iff_ne.mpr c31
                 by_cases c33 : ((rd_T45 l1 x5_1).f1) = ((rd_T45 l1 x6_3).f1)
                 ·rw [if_pos c33] at H
                  have c33b0 : (((rd_T45 l1 x5_1).f1) == ((rd_T45 l1 x6_3).f1)) = true := beq_iff_eq.mpr c33
                  have c33b1 : (((rd_T45 l1 x5_1).f1) != ((rd_T45 l1 x6_3).f1)) = false := bne_eq_false_iff_eq.mpr c33
                  clear c33
                  obtain rfl := Option.some.inj H
                  try go_wp2
                  replace BK143 := dB BK143
                  replace HB := dH HB
                  have p149 : 0 ≤ (x5_1 : Int) := of_decide_eq_true (by first | (with_reducible assumption) | assumption)
                  have q149 : x5_1 < (l1.length : Int) := of_decide_eq_true (by first | (with_reducible assumption) | assumption)
                  obtain ⟨ad149, e149, hx149_0, hx149_1⟩ := at_T45 HR1.out x5_1 p149 q149
                  have hw149_1 := hx149_1
                  have hw149_0 := hx149_0
                  cases e149
                  replace hx149_0 := cH HB hx149_0
                  replace hx149_1 := cH HB hx149_1
                  replace p149 := eq_true p149
                  replace q149 := eq_true q149
                  have p150 : 0 ≤ (x6_3 : Int) := of_decide_eq_true (by first | (with_reducible assumption) | assumption)
                  have q150 : x6_3 < (l1.length : Int) := of_decide_eq_true (by first | (with_reducible assumption) | assumption)
                  obtain ⟨ad150, e150, hx150_0, hx150_1⟩ := at_T45 HR1.out x6_3 p150 q150
                  have hw150_1 := hx150_1
                  have hw150_0 := hx150_0
                  obtain rfl : ad149 = ad150 := (by injection e150)
                  replace hx150_0 := cH HB hx150_0
                  replace hx150_1 := cH HB hx150_1
                  replace p150 := eq_true p150
                  replace q150 := eq_true q150
                  have p151 : 0 ≤ (x5_1 : Int) := of_decide_eq_true (by first | (with_reducible assumption) | assumption)
                  have q151 : x5_1 < (l1.length : Int) := of_decide_eq_true (by first | (with_reducible assumption) | assumption)
                  obtain ⟨ad151, e151, hx151_0, hx151_1⟩ := at_T45 HR1.out x5_1 p151 q151
                  have hw151_1 := hx151_1
                  have hw151_0 := hx151_0
                  obtain rfl : ad149 = ad151 := (by injection e151)
                  replace hx151_0 := cH HB hx151_0
                  replace hx151_1 := cH HB hx151_1
                  replace p151 := eq_true p151
                  replace q151 := eq_true q151
                  have p152 : 0 ≤ (x6_3 : Int) := of_decide_eq_true (by first | (with_reducible assumption) | assumption)
                  have q152 : x6_3 < (l1.length : Int) := of_decide_eq_true (by first | (with_reducible assumption) | assumption)
                  obtain ⟨ad152, e152, hx152_0, hx152_1⟩ := at_T45 HR1.out x6_3 p152 q152
                  have hw152_1 := hx152_1
                  have hw152_0 := hx152_0
                  obtain rfl : ad149 = ad152 := (by injection e152)
                  replace hx152_0 := cH HB hx152_0
                  replace hx152_1 := cH HB hx152_1
                  replace p152 := eq_true p152
                  replace q152 := eq_true q152
                  have p153 : 0 ≤ (x5_1 : Int) := of_decide_eq_true (by first | (with_reducible assumption) | assumption)
                  have q153 : x5_1 < (l1.length : Int) := of_decide_eq_true (by first | (with_reducible assumption) | assumption)
                  obtain ⟨ad153, e153, hx153_0, hx153_1⟩ := at_T45 HR1.out x5_1 p153 q153
                  have hw153_1 := hx153_1
                  have hw153_0 := hx153_0
                  obtain rfl : ad149 = ad153 := (by injection e153)
                  replace hx153_0 := cH HB hx153_0
                  replace hx153_1 := cH HB hx153_1
                  replace p153 := eq_true p153
                  replace q153 := eq_true q153
                  have p154 : 0 ≤ (x6_3 : Int) := of_decide_eq_true (by first | (with_reducible assumption) | assumption)
                  have q154 : x6_3 < (l1.length : Int) := of_decide_eq_true (by first | (with_reducible assumption) | assumption)
                  obtain ⟨ad154, e154, hx154_0, hx154_1⟩ := at_T45 HR1.out x6_3 p154 q154
                  have hw154_1 := hx154_1
                  have hw154_0 := hx154_0
                  obtain rfl : ad149 = ad154 := (by injection e154)
                  replace hx154_0 := cH HB hx154_0
                  replace hx154_1 := cH HB hx154_1
                  replace p154 := eq_true p154
                  replace q154 := eq_true q154
                  have p155 : 0 ≤ (x5_1 : Int) := of_decide_eq_true (by first | (with_reducible assumption) | assumption)
                  have q155 : x5_1 < (l1.length : Int) := of_decide_eq_true (by first | (with_reducible assumption) | assumption)
                  obtain ⟨ad155, e155, hx155_0, hx155_1⟩ := at_T45 HR1.out x5_1 p155 q155
                  have hw155_1 := hx155_1
                  have hw155_0 := hx155_0
                  obtain rfl : ad149 = ad155 := (by injection e155)
                  replace hx155_0 := cH HB hx155_0
                  replace hx155_1 := cH HB hx155_1
                  replace p155 := eq_true p155
                  replace q155 := eq_true q155
                  have p156 : 0 ≤ (x6_3 : Int) := of_decide_eq_true (by first | (with_reducible assumption) | assumption)
                  have q156 : x6_3 < (l1.length : Int) := of_decide_eq_true (by first | (with_reducible assumption) | assumption)
                  obtain ⟨ad156, e156, hx156_0, hx156_1⟩ := at_T45 HR1.out x6_3 p156 q156
                  have hw156_1 := hx156_1
                  have hw156_0 := hx156_0
                  obtain rfl : ad149 = ad156 := (by injection e156)
                  replace hx156_0 := cH HB hx156_0
                  replace hx156_1 := cH HB hx156_1
                  replace p156 := eq_true p156
                  replace q156 := eq_true q156
                  refine st_ 50 (S := fun w' => w'.cell? (ad149.add ((x5_1).toNat * 2)) = some (.int .i64 ((rd_T45 l1 x5_1).f0)) ∧ w'.cell? ⟨(ad149.add ((x5_1).toNat * 2)).block, (ad149.add ((x5_1).toNat * 2)).off + 1, none⟩ = some (.int .i64 ((rd_T45 l1 x5_1).f1)) ∧ w'.cell? (ad149.add ((x6_3).toNat * 2)) = some (.int .i64 ((rd_T45 l1 x6_3).f0)) ∧ w'.cell? ⟨(ad149.add ((x6_3).toNat * 2)).block, (ad149.add ((x6_3).toNat * 2)).off + 1, none⟩ = some (.int .i64 ((rd_T45 l1 x6_3).f1)) ∧ w'.cell? (ad149.add ((x5_1).toNat * 2)) = some (.int .i64 ((rd_T45 l1 x5_1).f0)) ∧ w'.cell? ⟨(ad149.add ((x5_1).toNat * 2)).block, (ad149.add ((x5_1).toNat * 2)).off + 1, none⟩ = some (.int .i64 ((rd_T45 l1 x5_1).f1)) ∧ w'.cell? (ad149.add ((x6_3).toNat * 2)) = some (.int .i64 ((rd_T45 l1 x6_3).f0)) ∧ w'.cell? ⟨(ad149.add ((x6_3).toNat * 2)).block, (ad149.add ((x6_3).toNat * 2)).off + 1, none⟩ = some (.int .i64 ((rd_T45 l1 x6_3).f1)) ∧ w'.cell? (ad149.add ((x5_1).toNat * 2)) = some (.int .i64 ((rd_T45 l1 x5_1).f0)) ∧ w'.cell? ⟨(ad149.add ((x5_1).toNat * 2)).block, (ad149.add ((x5_1).toNat * 2)).off + 1, none⟩ = some (.int .i64 ((rd_T45 l1 x5_1).f1)) ∧ w'.cell? (ad149.add ((x6_3).toNat * 2)) = some (.int .i64 ((rd_T45 l1 x6_3).f0)) ∧ w'.cell? ⟨(ad149.add ((x6_3).toNat * 2)).block, (ad149.add ((x6_3).toNat * 2)).off + 1, none⟩ = some (.int .i64 ((rd_T45 l1 x6_3).f1)) ∧ w'.cell? (ad149.add ((x5_1).toNat * 2)) = some (.int .i64 ((rd_T45 l1 x5_1).f0)) ∧ w'.cell? ⟨(ad149.add ((x5_1).toNat * 2)).block, (ad149.add ((x5_1).toNat * 2)).off + 1, none⟩ = some (.int .i64 ((rd_T45 l1 x5_1).f1)) ∧ w'.cell? (ad149.add ((x6_3).toNat * 2)) = some (.int .i64 ((rd_T45 l1 x6_3).f0)) ∧ w'.cell? ⟨(ad149.add ((x6_3).toNat * 2)).block, (ad149.add ((x6_3).toNat * 2)).off + 1, none⟩ = some (.int .i64 ((rd_T45 l1 x6_3).f1))) (ds := []) ⟨(cH HB hw149_0 :), (cH HB hw149_1 :), (cH HB hw150_0 :), (cH HB hw150_1 :), (cH HB hw151_0 :), (cH HB hw151_1 :), (cH HB hw152_0 :), (cH HB hw152_1 :), (cH HB hw153_0 :), (cH HB hw153_1 :), (cH HB hw154_0 :), (cH HB hw154_1 :), (cH HB hw155_0 :), (cH HB hw155_1 :), (cH HB hw156_0 :), (cH HB hw156_1 :)⟩ (fun hHeld => ?_); refine with_tabW spec_l02Is.tab9 spec_l02Is.bits9 (fun HT_ HW_ => ?_)
                  generalize wr.drew = w34 at BK143 HB hx149_0 hx149_1 hx150_0 hx150_1 hx151_0 hx151_1 hx152_0 hx152_1 hx153_0 hx153_1 hx154_0 hx154_1 hx155_0 hx155_1 hx156_0 hx156_1 hHeld ⊢
                  refine pu_ 0 42 1 HT_ ?_
                  refine pu_ 1 43 3 HT_ ?_
                  refine pu_ 2 44 7 HT_ ?_
                  refine pu_ 3 45 15 HT_ ?_
                  refine pu_ 5 47 47 HT_ ?_
                  refine pu_ 6 48 111 HT_ ?_
                  refine pu_ 7 49 239 HT_ ?_
                  refine pu_ 8 50 495 HT_ ?_
                  refine tk_ 4 46 511 HT_ HW_ hHeld ?_
                  refine tk_ 9 51 1023 HT_ HW_ hHeld ?_
                  refine pu_ 10 52 2047 HT_ ?_
                  refine pu_ 11 53 4095 HT_ ?_
                  refine pu_ 12 54 8191 HT_ ?_
                  refine pu_ 13 55 16383 HT_ ?_
                  refine pu_ 14 56 32767 HT_ ?_
                  refine pu_ 15 57 65535 HT_ ?_
                  refine pu_ 17 59 196607 HT_ ?_
                  refine pu_ 18 60 458751 HT_ ?_
                  refine pu_ 19 61 983039 HT_ ?_
                  refine pu_ 20 62 2031615 HT_ ?_
                  refine tk_ 16 58 2097151 HT_ HW_ hHeld ?_
                  refine tk_ 21 63 4194303 HT_ HW_ hHeld ?_
                  refine pu_ 22 64 8388607 HT_ ?_
                  refine pu_ 23 65 16777215 HT_ ?_
                  refine pu_ 24 66 33554431 HT_ ?_
                  refine pu_ 25 67 67108863 HT_ ?_
                  refine pu_ 26 68 134217727 HT_ ?_
                  refine pu_ 27 69 268435455 HT_ ?_
                  refine pu_ 28 70 536870911 HT_ ?_
                  refine pu_ 30 72 1610612735 HT_ ?_
                  refine pu_ 31 73 3758096383 HT_ ?_
                  refine pu_ 32 74 8053063679 HT_ ?_
                  refine pu_ 33 75 16642998271 HT_ ?_
                  refine tk_ 29 71 17179869183 HT_ HW_ hHeld ?_
                  refine tk_ 34 76 34359738367 HT_ HW_ hHeld ?_
                  refine pu_ 35 77 68719476735 HT_ ?_
                  refine pu_ 36 78 137438953471 HT_ ?_
                  refine pu_ 37 79 274877906943 HT_ ?_
                  refine pu_ 38 80 549755813887 HT_ ?_
                  refine pu_ 39 81 1099511627775 HT_ ?_
                  refine pu_ 40 82 2199023255551 HT_ ?_
                  refine pu_ 41 83 4398046511103 HT_ ?_
                  refine pu_ 43 85 13194139533311 HT_ ?_
                  refine pu_ 44 86 30786325577727 HT_ ?_
                  refine pu_ 45 87 65970697666559 HT_ ?_
                  refine pu_ 46 88 136339441844223 HT_ ?_
                  refine tk_ 42 84 140737488355327 HT_ HW_ hHeld ?_
                  refine tk_ 47 89 281474976710655 HT_ HW_ hHeld ?_
                  refine pu_ 48 90 562949953421311 HT_ ?_
                  refine pu_ 49 91 1125899906842623 HT_ ?_
                  refine dn_ HT_ ?_
                  try go_wp2
                  go_ret
                  exact ⟨by first | rfl | (simp [errW_none, errW_some] <;> rfl) | (simp [*, errW_none, errW_some] <;> rfl) | (exfalso; simp_all), pH HB⟩
                 ·rw [if_neg c33] at H
                  have c33b0 : (((rd_T45 l1 x5_1).f1) == ((rd_T45 l1 x6_3).f1)) = false := beq_eq_false_iff_ne.mpr c33
                  have c33b1 : (((rd_T45 l1 x5_1).f1) != ((rd_T45 l1 x6_3).f1)) = true := bne_iff_ne.mpr c33
                  have H' := Aside0.mk H
                  clear H
                  try go_wp2
                  replace BK143 := dB BK143
                  replace HB := dH HB
                  have p149 : 0 ≤ (x5_1 : Int) := of_decide_eq_true (by first | (with_reducible assumption) | assumption)
                  have q149 : x5_1 < (l1.length : Int) := of_decide_eq_true (by first | (with_reducible assumption) | assumption)
                  obtain ⟨ad149, e149, hx149_0, hx149_1⟩ := at_T45 HR1.out x5_1 p149 q149
                  have hw149_1 := hx149_1
                  have hw149_0 := hx149_0
                  cases e149
                  replace hx149_0 := cH HB hx149_0
                  replace hx149_1 := cH HB hx149_1
                  replace p149 := eq_true p149
                  replace q149 := eq_true q149
                  have p150 : 0 ≤ (x6_3 : Int) := of_decide_eq_true (by first | (with_reducible assumption) | assumption)
                  have q150 : x6_3 < (l1.length : Int) := of_decide_eq_true (by first | (with_reducible assumption) | assumption)
                  obtain ⟨ad150, e150, hx150_0, hx150_1⟩ := at_T45 HR1.out x6_3 p150 q150
                  have hw150_1 := hx150_1
                  have hw150_0 := hx150_0
                  obtain rfl : ad149 = ad150 := (by injection e150)
                  replace hx150_0 := cH HB hx150_0
                  replace hx150_1 := cH HB hx150_1
                  replace p150 := eq_true p150
                  replace q150 := eq_true q150
                  have p151 : 0 ≤ (x5_1 : Int) := of_decide_eq_true (by first | (with_reducible assumption) | assumption)
                  have q151 : x5_1 < (l1.length : Int) := of_decide_eq_true (by first | (with_reducible assumption) | assumption)
                  obtain ⟨ad151, e151, hx151_0, hx151_1⟩ := at_T45 HR1.out x5_1 p151 q151
                  have hw151_1 := hx151_1
                  have hw151_0 := hx151_0
                  obtain rfl : ad149 = ad151 := (by injection e151)
                  replace hx151_0 := cH HB hx151_0
                  replace hx151_1 := cH HB hx151_1
                  replace p151 := eq_true p151
                  replace q151 := eq_true q151
                  have p152 : 0 ≤ (x6_3 : Int) := of_decide_eq_true (by first | (with_reducible assumption) | assumption)
                  have q152 : x6_3 < (l1.length : Int) := of_decide_eq_true (by first | (with_reducible assumption) | assumption)
                  obtain ⟨ad152, e152, hx152_0, hx152_1⟩ := at_T45 HR1.out x6_3 p152 q152
                  have hw152_1 := hx152_1
                  have hw152_0 := hx152_0
                  obtain rfl : ad149 = ad152 := (by injection e152)
                  replace hx152_0 := cH HB hx152_0
                  replace hx152_1 := cH HB hx152_1
                  replace p152 := eq_true p152
                  replace q152 := eq_true q152
                  have p153 : 0 ≤ (x5_1 : Int) := of_decide_eq_true (by first | (with_reducible assumption) | assumption)
                  have q153 : x5_1 < (l1.length : Int) := of_decide_eq_true (by first | (with_reducible assumption) | assumption)
                  obtain ⟨ad153, e153, hx153_0, hx153_1⟩ := at_T45 HR1.out x5_1 p153 q153
                  have hw153_1 := hx153_1
                  have hw153_0 := hx153_0
                  obtain rfl : ad149 = ad153 := (by injection e153)
                  replace hx153_0 := cH HB hx153_0
                  replace hx153_1 := cH HB hx153_1
                  replace p153 := eq_true p153
                  replace q153 := eq_true q153
                  have p154 : 0 ≤ (x6_3 : Int) := of_decide_eq_true (by first | (with_reducible assumption) | assumption)
                  have q154 : x6_3 < (l1.length : Int) := of_decide_eq_true (by first | (with_reducible assumption) | assumption)
                  obtain ⟨ad154, e154, hx154_0, hx154_1⟩ := at_T45 HR1.out x6_3 p154 q154
                  have hw154_1 := hx154_1
                  have hw154_0 := hx154_0
                  obtain rfl : ad149 = ad154 := (by injection e154)
                  replace hx154_0 := cH HB hx154_0
                  replace hx154_1 := cH HB hx154_1
                  replace p154 := eq_true p154
                  replace q154 := eq_true q154
                  have p155 : 0 ≤ (x5_1 : Int) := of_decide_eq_true (by first | (with_reducible assumption) | assumption)
                  have q155 : x5_1 < (l1.length : Int) := of_decide_eq_true (by first | (with_reducible assumption) | assumption)
                  obtain ⟨ad155, e155, hx155_0, hx155_1⟩ := at_T45 HR1.out x5_1 p155 q155
                  have hw155_1 := hx155_1
                  have hw155_0 := hx155_0
                  obtain rfl : ad149 = ad155 := (by injection e155)
                  replace hx155_0 := cH HB hx155_0
                  replace hx155_1 := cH HB hx155_1
                  replace p155 := eq_true p155
                  replace q155 := eq_true q155
                  have p156 : 0 ≤ (x6_3 : Int) := of_decide_eq_true (by first | (with_reducible assumption) | assumption)
                  have q156 : x6_3 < (l1.length : Int) := of_decide_eq_true (by first | (with_reducible assumption) | assumption)
                  obtain ⟨ad156, e156, hx156_0, hx156_1⟩ := at_T45 HR1.out x6_3 p156 q156
                  have hw156_1 := hx156_1
                  have hw156_0 := hx156_0
                  obtain rfl : ad149 = ad156 := (by injection e156)
                  replace hx156_0 := cH HB hx156_0
                  replace hx156_1 := cH HB hx156_1
                  replace p156 := eq_true p156
                  replace q156 := eq_true q156
                  refine st_ 50 (S := fun w' => w'.cell? (ad149.add ((x5_1).toNat * 2)) = some (.int .i64 ((rd_T45 l1 x5_1).f0)) ∧ w'.cell? ⟨(ad149.add ((x5_1).toNat * 2)).block, (ad149.add ((x5_1).toNat * 2)).off + 1, none⟩ = some (.int .i64 ((rd_T45 l1 x5_1).f1)) ∧ w'.cell? (ad149.add ((x6_3).toNat * 2)) = some (.int .i64 ((rd_T45 l1 x6_3).f0)) ∧ w'.cell? ⟨(ad149.add ((x6_3).toNat * 2)).block, (ad149.add ((x6_3).toNat * 2)).off + 1, none⟩ = some (.int .i64 ((rd_T45 l1 x6_3).f1)) ∧ w'.cell? (ad149.add ((x5_1).toNat * 2)) = some (.int .i64 ((rd_T45 l1 x5_1).f0)) ∧ w'.cell? ⟨(ad149.add ((x5_1).toNat * 2)).block, (ad149.add ((x5_1).toNat * 2)).off + 1, none⟩ = some (.int .i64 ((rd_T45 l1 x5_1).f1)) ∧ w'.cell? (ad149.add ((x6_3).toNat * 2)) = some (.int .i64 ((rd_T45 l1 x6_3).f0)) ∧ w'.cell? ⟨(ad149.add ((x6_3).toNat * 2)).block, (ad149.add ((x6_3).toNat * 2)).off + 1, none⟩ = some (.int .i64 ((rd_T45 l1 x6_3).f1)) ∧ w'.cell? (ad149.add ((x5_1).toNat * 2)) = some (.int .i64 ((rd_T45 l1 x5_1).f0)) ∧ w'.cell? ⟨(ad149.add ((x5_1).toNat * 2)).block, (ad149.add ((x5_1).toNat * 2)).off + 1, none⟩ = some (.int .i64 ((rd_T45 l1 x5_1).f1)) ∧ w'.cell? (ad149.add ((x6_3).toNat * 2)) = some (.int .i64 ((rd_T45 l1 x6_3).f0)) ∧ w'.cell? ⟨(ad149.add ((x6_3).toNat * 2)).block, (ad149.add ((x6_3).toNat * 2)).off + 1, none⟩ = some (.int .i64 ((rd_T45 l1 x6_3).f1)) ∧ w'.cell? (ad149.add ((x5_1).toNat * 2)) = some (.int .i64 ((rd_T45 l1 x5_1).f0)) ∧ w'.cell? ⟨(ad149.add ((x5_1).toNat * 2)).block, (ad149.add ((x5_1).toNat * 2)).off + 1, none⟩ = some (.int .i64 ((rd_T45 l1 x5_1).f1)) ∧ w'.cell? (ad149.add ((x6_3).toNat * 2)) = some (.int .i64 ((rd_T45 l1 x6_3).f0)) ∧ w'.cell? ⟨(ad149.add ((x6_3).toNat * 2)).block, (ad149.add ((x6_3).toNat * 2)).off + 1, none⟩ = some (.int .i64 ((rd_T45 l1 x6_3).f1))) (ds := []) ⟨(cH HB hw149_0 :), (cH HB hw149_1 :), (cH HB hw150_0 :), (cH HB hw150_1 :), (cH HB hw151_0 :), (cH HB hw151_1 :), (cH HB hw152_0 :), (cH HB hw152_1 :), (cH HB hw153_0 :), (cH HB hw153_1 :), (cH HB hw154_0 :), (cH HB hw154_1 :), (cH HB hw155_0 :), (cH HB hw155_1 :), (cH HB hw156_0 :), (cH HB hw156_1 :)⟩ (fun hHeld => ?_); refine with_tabW spec_l02Is.tab9 spec_l02Is.bits9 (fun HT_ HW_ => ?_)
                  generalize wr.drew = w35 at BK143 HB hx149_0 hx149_1 hx150_0 hx150_1 hx151_0 hx151_1 hx152_0 hx152_1 hx153_0 hx153_1 hx154_0 hx154_1 hx155_0 hx155_1 hx156_0 hx156_1 hHeld ⊢
                  refine pu_ 0 42 1 HT_ ?_
                  refine pu_ 1 43 3 HT_ ?_
                  refine pu_ 2 44 7 HT_ ?_
                  refine pu_ 3 45 15 HT_ ?_
                  refine pu_ 5 47 47 HT_ ?_
                  refine pu_ 6 48 111 HT_ ?_
                  refine pu_ 7 49 239 HT_ ?_
                  refine pu_ 8 50 495 HT_ ?_
                  refine tk_ 4 46 511 HT_ HW_ hHeld ?_
                  refine tk_ 9 51 1023 HT_ HW_ hHeld ?_
                  refine pu_ 10 52 2047 HT_ ?_
                  refine pu_ 11 53 4095 HT_ ?_
                  refine pu_ 12 54 8191 HT_ ?_
                  refine pu_ 13 55 16383 HT_ ?_
                  refine pu_ 14 56 32767 HT_ ?_
                  refine pu_ 15 57 65535 HT_ ?_
                  refine pu_ 17 59 196607 HT_ ?_
                  refine pu_ 18 60 458751 HT_ ?_
                  refine pu_ 19 61 983039 HT_ ?_
                  refine pu_ 20 62 2031615 HT_ ?_
                  refine tk_ 16 58 2097151 HT_ HW_ hHeld ?_
                  refine tk_ 21 63 4194303 HT_ HW_ hHeld ?_
                  refine pu_ 22 64 8388607 HT_ ?_
                  refine pu_ 23 65 16777215 HT_ ?_
                  refine pu_ 24 66 33554431 HT_ ?_
                  refine pu_ 25 67 67108863 HT_ ?_
                  refine pu_ 26 68 134217727 HT_ ?_
                  refine pu_ 27 69 268435455 HT_ ?_
                  refine pu_ 28 70 536870911 HT_ ?_
                  refine pu_ 30 72 1610612735 HT_ ?_
                  refine pu_ 31 73 3758096383 HT_ ?_
                  refine pu_ 32 74 8053063679 HT_ ?_
                  refine pu_ 33 75 16642998271 HT_ ?_
                  refine tk_ 29 71 17179869183 HT_ HW_ hHeld ?_
                  refine tk_ 34 76 34359738367 HT_ HW_ hHeld ?_
                  refine pu_ 35 77 68719476735 HT_ ?_
                  refine pu_ 36 78 137438953471 HT_ ?_
                  refine pu_ 37 79 274877906943 HT_ ?_
                  refine pu_ 38 80 549755813887 HT_ ?_
                  refine pu_ 39 81 1099511627775 HT_ ?_
                  refine pu_ 40 82 2199023255551 HT_ ?_
                  refine pu_ 41 83 4398046511103 HT_ ?_
                  refine pu_ 43 85 13194139533311 HT_ ?_
                  refine pu_ 44 86 30786325577727 HT_ ?_
                  refine pu_ 45 87 65970697666559 HT_ ?_
                  refine pu_ 46 88 136339441844223 HT_ ?_
                  refine tk_ 42 84 140737488355327 HT_ HW_ hHeld ?_
                  refine tk_ 47 89 281474976710655 HT_ HW_ hHeld ?_
                  refine pu_ 48 90 562949953421311 HT_ ?_
                  refine pu_ 49 91 1125899906842623 HT_ ?_
                  refine dn_ HT_ ?_
                  try go_wp2
                  go_roundg k3
                  case measure => have := HK1.out; have := HJ4.out; have := HK3.out; omega
                  case rel => exact ⟨(wrap64 (x6_3 + 1)), (by first | rfl | (simp; done) | (simp [*]; done)), H', ⟨by have := HK1.out; have := HJ4.out; have := HK3.out; omega⟩, ⟨pB BK143⟩, ⟨pH HB⟩⟩
             ·rw [if_neg c26] at H
              exact absurd H (by simp)
            ·rw [if_neg c25] at H
             exact absurd H (by simp)
           ·rw [if_neg c24] at H
            exact absurd H (by simp)
          ·rw [if_neg c23] at H
           exact absurd H (by simp)
         ·rw [if_neg c22] at H
          have c22b0 : decide (x6_3 < x5_1) = false := decide_eq_false c22
          clear c22
          have H' := Aside0.mk H
          clear H
          go_wp2
          go_roundg k3
          case measure => have := HK1.out; have := HJ4.out; have := HK3.out; omega
          case rel => exact ⟨(wrap64 (x5_1 + 1)), (by first | rfl | (simp; done) | (simp [*]; done)), H', ⟨by have := HK1.out; have := HJ4.out; have := HK3.out; omega⟩, ⟨pB BK143⟩, ⟨pH HB⟩⟩
   ·rw [if_neg c4] at H
    have c4b0 : decide (x5_1 < (l1.length : Int)) = false := decide_eq_false c4
    clear c4
    obtain rfl := Option.some.inj H
    go_wp2
    go_ret
    exact ⟨by first | rfl | (simp [errW_none, errW_some] <;> rfl) | (simp [*, errW_none, errW_some] <;> rfl) | (exfalso; simp_all), pH HB⟩
def spec_l02Code.l0 : Nat → List Int → Int → Int → List Int → Option (Int)
 | 0, _, _, _, _ => none
 | k + 1, x2, x7, x177000, x177001 => if x7 < (x2.length : Int) then (if 0 ≤ x7 then ((spec_l01Has.f k x177000 x177001 (rd x2 x7)).bind fun t180 => (if t180 = true then (spec_l02Code.l0 k x2 (wrap64 (x7 + 1)) x177000 x177001) else (some 2))) else (none)) else (some 0)
def spec_l02Code.f (k : Nat) (a0_0 : Int) (l0_1 : List Int) (l1 : List (S45)) (l2 : List Int) : Option (Int) := (spec_l01Is.f k a0_0 l0_1).bind fun t177 => (if t177 = true then ((spec_l02Is.f k a0_0 l0_1 l1).bind fun t178 => (if t178 = true then (spec_l02Code.l0 k l2 0 a0_0 l0_1) else (some 2))) else (some 1))
set_option maxHeartbeats 8000000 in
set_option maxRecDepth 100000 in
theorem spec_l02Code.calls (k : Nat) (a0_0 : Int) (A0_1 : Option Addr) (c0_1 : Nat) (l0_1 : List Int) (A1 : Option Addr) (c1 : Nat) (l1 : List (S45)) (A2 : Option Addr) (c2 : Nat) (l2 : List Int) (r : Int) (w : World) (hr0_1 : Kd.C (Kd.int .i64) w A0_1 l0_1.length l0_1) (hc0_1 : l0_1.length ≤ c0_1) (hr1 : Kd.C k45 w A1 l1.length l1) (hc1 : l1.length ≤ c1) (hr2 : Kd.C (Kd.int .i64) w A2 l2.length l2) (hc2 : l2.length ≤ c2) (h : spec_l02Code.f k a0_0 l0_1 l1 l2 = some r) :
  Calls Tryz.prog 39 #[.agg #[.int .i64 a0_0, .slice A0_1 l0_1.length c0_1], .slice A1 l1.length c1, .slice A2 l2.length c2] w fun e w' => e = .returned (.int .i64 r) ∧ Below w.heap.size w w' := by
 have hu31 := Tryz.underlying31
 have HR0_1 := Aside0.mk hr0_1
 have HC0_1 := Aside0.mk hc0_1
 clear hr0_1 hc0_1
 have HR1 := Aside0.mk hr1
 have HC1 := Aside0.mk hc1
 clear hr1 hc1
 have HR2 := Aside0.mk hr2
 have HC2 := Aside0.mk hc2
 clear hr2 hc2
 have HB := Aside0.mk (Below.refl w.heap.size w)
 have H : ((spec_l01Is.f k a0_0 l0_1).bind fun t177 => (if t177 = true then ((spec_l02Is.f k a0_0 l0_1 l1).bind fun t178 => (if t178 = true then (spec_l02Code.l0 k l2 0 a0_0 l0_1) else (some 2))) else (some 1))) = some r := h
 clear h
 replace H := Option.bind_eq_some_iff.mp H
 obtain ⟨t177, A40, H⟩ := H
 try dsimp only at H
 have A4 := Aside0.mk A40
 clear A40
 by_cases c5 : t177 = true
 ·subst c5
  have H1 : ((spec_l02Is.f k a0_0 l0_1 l1).bind fun t178 => (if t178 = true then (spec_l02Code.l0 k l2 0 a0_0 l0_1) else (some 2))) = some r := by rw [if_pos rfl] at H; exact H
  clear H
  have H := H1
  clear H1
  replace H := Option.bind_eq_some_iff.mp H
  obtain ⟨t178, A60, H⟩ := H
  try dsimp only at H
  have A6 := Aside0.mk A60
  clear A60
  by_cases c7 : t178 = true
  ·subst c7
   have H1 : (spec_l02Code.l0 k l2 0 a0_0 l0_1) = some r := by rw [if_pos rfl] at H; exact H
   clear H
   have H := H1
   clear H1
   have H' := Aside0.mk H
   clear H
   go_enter Tryz.func39, Tryz.ntmps39
   go_wp2_with (first | ((with_reducible refine gate_dst (N := 3) rfl ?_); refine box_event ?hg (N := 3) ?hd (cs := #[.int .i64 a0_0, .slice A0_1 l0_1.length c0_1]) (t := 31) ?hr ?_; (case hd => rfl); (case hg => rfl); (case hr => first | (go_simp; done) | (go_simp; rfl)); intro gb176 hg w8 hbox hb; have BK176 := Aside0.mk (hbox); have GW176 := gH HB hg; have GE176 := gH HB hg; replace HB := sH HB hb; clear hb hbox hg; have hcz9_0 : w8.cell? ⟨gb176, 0, none⟩ = some (.int .i64 a0_0) := cB BK176 0; have hcz9_1 : w8.cell? ⟨gb176, 1, none⟩ = some (.slice A0_1 l0_1.length c0_1) := cB BK176 1; have hfz9_0 := zB BK176 0; have hfz9_1 := zB BK176 1) | ((with_reducible refine gate_callee (f := 56) rfl ?_); refine cl_ (some 9) Tryz.func56 #[.agg #[.int .i64 a0_0, .slice A0_1 l0_1.length c0_1]] ?_; (with_reducible refine (spec_l01Is.calls k a0_0 _ _ l0_1 true _ ?side1 ?side2 A4.out).mono ?_); (case side1 => exact pC ((Kd.C_below HR0_1.out HB.out))); (case side2 => exact HC0_1.out); rintro e w10 ⟨rfl, hb⟩; refine ⟨_, rfl, ?_⟩; replace BK176 := sB BK176 hb; replace HB := sH HB hb; (try clear hb); (try clear hi); have hcz11_0 : w10.cell? ⟨gb176, 0, none⟩ = some (.int .i64 a0_0) := cB BK176 0; have hcz11_1 : w10.cell? ⟨gb176, 1, none⟩ = some (.slice A0_1 l0_1.length c0_1) := cB BK176 1; have hfz11_0 := zB BK176 0; have hfz11_1 := zB BK176 1) | ((with_reducible refine gate_callee (f := 45) rfl ?_); refine cl_ (some 13) Tryz.func45 #[.agg #[.int .i64 a0_0, .slice A0_1 l0_1.length c0_1], .slice A1 l1.length c1] ?_; (with_reducible refine (spec_l02Is.calls k a0_0 _ _ l0_1 _ _ l1 true _ ?side1 ?side2 ?side3 ?side4 A6.out).mono ?_); (case side1 => exact pC ((Kd.C_below HR0_1.out HB.out))); (case side2 => exact HC0_1.out); (case side3 => exact pC ((Kd.C_below HR1.out HB.out))); (case side4 => exact HC1.out); rintro e w12 ⟨rfl, hb⟩; refine ⟨_, rfl, ?_⟩; replace BK176 := sB BK176 hb; replace HB := sH HB hb; (try clear hb); (try clear hi)))
   go_loopg [7] k (fun kq v7 w' => ∃ (x7_1 : Int), v7 = .int .i64 x7_1 ∧ Aside0 (spec_l02Code.l0 kq l2 x7_1 a0_0 l0_1 = some r) ∧ Aside0 (kq ≤ k) ∧ Aside0 (w'.heap[gb176]? = some (.cells #[.int .i64 a0_0, (.slice A0_1 l0_1.length c0_1)] 31 (0, 0))) ∧ Aside0 (Below w.heap.size w w'))
   case atStart => exact ⟨(0), (by first | rfl | (simp; done) | (simp [*]; done)), H', ⟨Nat.le_refl _⟩, ⟨pB BK176⟩, ⟨pH HB⟩⟩
   case round =>
    clear H'
    try clear c1
    try clear c2
    try clear p2
    try clear c3
    try clear c4
    try clear c5
    try clear c7
    try clear hcz11_0
    try clear hcz11_1
    try clear hcz9_0
    try clear hcz9_1
    try clear hfz11_0
    try clear hfz11_1
    try clear hfz9_0
    try clear hfz9_1
    obtain ⟨x7_1, rfl, HA, HK1, BK176, HB⟩ := hrel
    cases gk with
    | zero => exact absurd HA.out (by simp [spec_l02Code.l0])
    | succ k1 =>
     have H := HA.out
     clear HA
     simp only [spec_l02Code.l0] at H
     by_cases c13 : x7_1 < (l2.length : Int)
     ·rw [if_pos c13] at H
      have c13b0 : decide (x7_1 < (l2.length : Int)) = true := decide_eq_true c13
      clear c13
      by_cases c14 : 0 ≤ x7_1
      ·rw [if_pos c14] at H
       have c14b0 : decide (0 ≤ x7_1) = true := decide_eq_true c14
       clear c14
       replace H := Option.bind_eq_some_iff.mp H
       obtain ⟨t180, A150, H⟩ := H
       try dsimp only at H
       have A15 := Aside0.mk A150
       clear A150
       by_cases c16 : t180 = true
       ·subst c16
        have H1 : (spec_l02Code.l0 k1 l2 (wrap64 (x7_1 + 1)) a0_0 l0_1) = some r := by rw [if_pos rfl] at H; exact H
        clear H
        have H := H1
        clear H1
        have H' := Aside0.mk H
        clear H
        try go_wp2
        replace BK176 := dB BK176
        replace HB := dH HB
        have p179 : 0 ≤ (x7_1 : Int) := of_decide_eq_true (by first | (with_reducible assumption) | assumption)
        have q179 : x7_1 < (l2.length : Int) := of_decide_eq_true (by first | (with_reducible assumption) | assumption)
        obtain ⟨ad179, e179, hx179_0⟩ := Kd.at_int HR2.out x7_1 p179 q179
        have hw179_0 := hx179_0
        cases e179
        replace hx179_0 := cH HB hx179_0
        replace p179 := eq_true p179
        replace q179 := eq_true q179
        refine st_ 7 (S := fun w' => w'.cell? ⟨gb176, 0, none⟩ = some (.int .i64 a0_0) ∧ w'.cell? ⟨gb176, 1, none⟩ = some (.slice A0_1 l0_1.length c0_1) ∧ w'.cell? (ad179.add (x7_1).toNat) = some (.int .i64 (rd l2 x7_1))) (ds := []) ⟨cB BK176 0, cB BK176 1, (cH HB hw179_0 :)⟩ (fun hHeld => ?_)
        generalize wr.drew = w17 at BK176 HB hx179_0 hHeld ⊢
        refine pure_ (i := 1) (N := some 22) (v := ?_) (a' := ?_) (mB 7 2) rfl rfl (by kernel_rfl) (fun _ _ _ h => h) (Or.inl ⟨by rfl, ?_⟩) ?_ ?_
        rotate_left
        ·intro w'
         go_simp
         with_reducible rfl
        rotate_left
        ·simp only [Act.put, List.setIfInBounds_toArray, List.set_cons_zero, List.set_cons_succ, i64_w, i32_w]
         rfl
        refine pure_ (i := 2) (N := some 23) (v := ?_) (a' := ?_) (mB 7 6) rfl rfl (by kernel_rfl) (fun _ _ _ h => h) (Or.inl ⟨by rfl, ?_⟩) ?_ ?_
        rotate_left
        ·intro w'
         go_simp
         with_reducible rfl
        rotate_left
        ·simp only [Act.put, List.setIfInBounds_toArray, List.set_cons_zero, List.set_cons_succ, i64_w, i32_w]
         rfl
        refine pure_ (i := 3) (N := some 24) (v := ?_) (a' := ?_) (mB 7 14) rfl rfl (by kernel_rfl) (fun _ _ _ h => h) (Or.inl ⟨by rfl, ?_⟩) ?_ ?_
        rotate_left
        ·intro w'
         go_simp
         with_reducible rfl
        rotate_left
        ·simp only [Act.put, List.setIfInBounds_toArray, List.set_cons_zero, List.set_cons_succ, i64_w, i32_w]
         rfl
        refine take_ (i := 0) (N := some 21) (v := ?_) (a' := ?_) (mB 7 15) rfl rfl (by kernel_rfl) (fun _ _ _ h => h) (Or.inl ⟨by rfl, ?_⟩) hHeld ?_ ?_
        rotate_left
        ·rintro w' ⟨s0, s1, s2⟩
         go_simp
         with_reducible rfl
        rotate_left
        ·simp only [Act.put, List.setIfInBounds_toArray, List.set_cons_zero, List.set_cons_succ, i64_w, i32_w]
         rfl
        refine take_ (i := 4) (N := some 25) (v := ?_) (a' := ?_) (mB 7 31) rfl rfl (by kernel_rfl) (fun _ _ _ h => h) (Or.inl ⟨by rfl, ?_⟩) hHeld ?_ ?_
        rotate_left
        ·rintro w' ⟨s0, s1, s2⟩
         go_simp
         with_reducible rfl
        rotate_left
        ·simp only [Act.put, List.setIfInBounds_toArray, List.set_cons_zero, List.set_cons_succ, i64_w, i32_w]
         rfl
        refine one_ (i := 5) (N := some 26) (mB 7 63) rfl rfl (by kernel_rfl) (by decide) (fun K hK => ?_)
        refine ca_ Tryz.func57 #[.agg #[.int .i64 a0_0, .slice A0_1 l0_1.length c0_1], .int .i64 (rd l2 x7_1)] ?_
        with_reducible refine (spec_l01Has.calls k1 a0_0 _ _ l0_1 (rd l2 x7_1) true _ ?side1 ?side2 A15.out).mono ?_
        (case side1 => exact pC ((Kd.C_below HR0_1.out HB.out)))
        (case side2 => exact HC0_1.out)
        rintro e w18 ⟨rfl, hb⟩
        refine ⟨_, rfl, ?_⟩
        replace BK176 := sB BK176 hb
        replace HB := sH HB hb
        (try clear hb)
        (try clear hb2)
        (try clear hk)
        (try clear hi)
        refine hK.out _ _ ⟨cB BK176 0, cB BK176 1, (cH HB hw179_0 :)⟩ (fun hHeld => ?_)
        clear hK K
        refine nm_ ?_
        refine pure_ (i := 6) (N := some 27) (v := ?_) (a' := ?_) (mB 7 127) rfl rfl (by kernel_rfl) (fun _ _ _ h => h) (Or.inl ⟨by rfl, ?_⟩) ?_ ?_
        rotate_left
        ·intro w'
         go_simp
         with_reducible rfl
        rotate_left
        ·simp only [Act.put, List.setIfInBounds_toArray, List.set_cons_zero, List.set_cons_succ, i64_w, i32_w]
         rfl
        refine done_ (by kernel_rfl) ?_
        try go_wp2
        go_roundg k1
        case measure => have := HK1.out; omega
        case rel => exact ⟨(wrap64 (x7_1 + 1)), (by first | rfl | (simp; done) | (simp [*]; done)), H', ⟨by have := HK1.out; omega⟩, ⟨pB BK176⟩, ⟨pH HB⟩⟩
       ·replace c16 := Bool.eq_false_iff.mpr c16
        subst c16
        have H1 : (some 2) = some r := by rw [if_neg (show ¬ (false = true) by decide)] at H; exact H
        clear H
        have H := H1
        clear H1
        obtain rfl := Option.some.inj H
        try go_wp2
        replace BK176 := dB BK176
        replace HB := dH HB
        have p179 : 0 ≤ (x7_1 : Int) := of_decide_eq_true (by first | (with_reducible assumption) | assumption)
        have q179 : x7_1 < (l2.length : Int) := of_decide_eq_true (by first | (with_reducible assumption) | assumption)
        obtain ⟨ad179, e179, hx179_0⟩ := Kd.at_int HR2.out x7_1 p179 q179
        have hw179_0 := hx179_0
        cases e179
        replace hx179_0 := cH HB hx179_0
        replace p179 := eq_true p179
        replace q179 := eq_true q179
        refine st_ 7 (S := fun w' => w'.cell? ⟨gb176, 0, none⟩ = some (.int .i64 a0_0) ∧ w'.cell? ⟨gb176, 1, none⟩ = some (.slice A0_1 l0_1.length c0_1) ∧ w'.cell? (ad179.add (x7_1).toNat) = some (.int .i64 (rd l2 x7_1))) (ds := []) ⟨cB BK176 0, cB BK176 1, (cH HB hw179_0 :)⟩ (fun hHeld => ?_)
        generalize wr.drew = w19 at BK176 HB hx179_0 hHeld ⊢
        refine pure_ (i := 1) (N := some 22) (v := ?_) (a' := ?_) (mB 7 2) rfl rfl (by kernel_rfl) (fun _ _ _ h => h) (Or.inl ⟨by rfl, ?_⟩) ?_ ?_
        rotate_left
        ·intro w'
         go_simp
         with_reducible rfl
        rotate_left
        ·simp only [Act.put, List.setIfInBounds_toArray, List.set_cons_zero, List.set_cons_succ, i64_w, i32_w]
         rfl
        refine pure_ (i := 2) (N := some 23) (v := ?_) (a' := ?_) (mB 7 6) rfl rfl (by kernel_rfl) (fun _ _ _ h => h) (Or.inl ⟨by rfl, ?_⟩) ?_ ?_
        rotate_left
        ·intro w'
         go_simp
         with_reducible rfl
        rotate_left
        ·simp only [Act.put, List.setIfInBounds_toArray, List.set_cons_zero, List.set_cons_succ, i64_w, i32_w]
         rfl
        refine pure_ (i := 3) (N := some 24) (v := ?_) (a' := ?_) (mB 7 14) rfl rfl (by kernel_rfl) (fun _ _ _ h => h) (Or.inl ⟨by rfl, ?_⟩) ?_ ?_
        rotate_left
        ·intro w'
         go_simp
         with_reducible rfl
        rotate_left
        ·simp only [Act.put, List.setIfInBounds_toArray, List.set_cons_zero, List.set_cons_succ, i64_w, i32_w]
         rfl
        refine take_ (i := 0) (N := some 21) (v := ?_) (a' := ?_) (mB 7 15) rfl rfl (by kernel_rfl) (fun _ _ _ h => h) (Or.inl ⟨by rfl, ?_⟩) hHeld ?_ ?_
        rotate_left
        ·rintro w' ⟨s0, s1, s2⟩
         go_simp
         with_reducible rfl
        rotate_left
        ·simp only [Act.put, List.setIfInBounds_toArray, List.set_cons_zero, List.set_cons_succ, i64_w, i32_w]
         rfl
        refine take_ (i := 4) (N := some 25) (v := ?_) (a' := ?_) (mB 7 31) rfl rfl (by kernel_rfl) (fun _ _ _ h => h) (Or.inl ⟨by rfl, ?_⟩) hHeld ?_ ?_
        rotate_left
        ·rintro w' ⟨s0, s1, s2⟩
         go_simp
         with_reducible rfl
        rotate_left
        ·simp only [Act.put, List.setIfInBounds_toArray, List.set_cons_zero, List.set_cons_succ, i64_w, i32_w]
         rfl
        refine one_ (i := 5) (N := some 26) (mB 7 63) rfl rfl (by kernel_rfl) (by decide) (fun K hK => ?_)
        refine ca_ Tryz.func57 #[.agg #[.int .i64 a0_0, .slice A0_1 l0_1.length c0_1], .int .i64 (rd l2 x7_1)] ?_
        with_reducible refine (spec_l01Has.calls k1 a0_0 _ _ l0_1 (rd l2 x7_1) false _ ?side1 ?side2 A15.out).mono ?_
        (case side1 => exact pC ((Kd.C_below HR0_1.out HB.out)))
        (case side2 => exact HC0_1.out)
        rintro e w20 ⟨rfl, hb⟩
        refine ⟨_, rfl, ?_⟩
        replace BK176 := sB BK176 hb
        replace HB := sH HB hb
        (try clear hb)
        (try clear hb2)
        (try clear hk)
        (try clear hi)
        refine hK.out _ _ ⟨cB BK176 0, cB BK176 1, (cH HB hw179_0 :)⟩ (fun hHeld => ?_)
        clear hK K
        refine nm_ ?_
        refine pure_ (i := 6) (N := some 27) (v := ?_) (a' := ?_) (mB 7 127) rfl rfl (by kernel_rfl) (fun _ _ _ h => h) (Or.inl ⟨by rfl, ?_⟩) ?_ ?_
        rotate_left
        ·intro w'
         go_simp
         with_reducible rfl
        rotate_left
        ·simp only [Act.put, List.setIfInBounds_toArray, List.set_cons_zero, List.set_cons_succ, i64_w, i32_w]
         rfl
        refine done_ (by kernel_rfl) ?_
        try go_wp2
        go_ret
        exact ⟨by first | rfl | (simp [errW_none, errW_some] <;> rfl) | (simp [*, errW_none, errW_some] <;> rfl) | (exfalso; simp_all), pH HB⟩
      ·rw [if_neg c14] at H
       exact absurd H (by simp)
     ·rw [if_neg c13] at H
      have c13b0 : decide (x7_1 < (l2.length : Int)) = false := decide_eq_false c13
      clear c13
      obtain rfl := Option.some.inj H
      go_wp2
      go_ret
      exact ⟨by first | rfl | (simp [errW_none, errW_some] <;> rfl) | (simp [*, errW_none, errW_some] <;> rfl) | (exfalso; simp_all), pH HB⟩
  ·replace c7 := Bool.eq_false_iff.mpr c7
   subst c7
   have H1 : (some 2) = some r := by rw [if_neg (show ¬ (false = true) by decide)] at H; exact H
   clear H
   have H := H1
   clear H1
   obtain rfl := Option.some.inj H
   go_enter Tryz.func39, Tryz.ntmps39
   go_wp2_with (first | ((with_reducible refine gate_dst (N := 3) rfl ?_); refine box_event ?hg (N := 3) ?hd (cs := #[.int .i64 a0_0, .slice A0_1 l0_1.length c0_1]) (t := 31) ?hr ?_; (case hd => rfl); (case hg => rfl); (case hr => first | (go_simp; done) | (go_simp; rfl)); intro gb176 hg w21 hbox hb; have BK176 := Aside0.mk (hbox); have GW176 := gH HB hg; have GE176 := gH HB hg; replace HB := sH HB hb; clear hb hbox hg; have hcz22_0 : w21.cell? ⟨gb176, 0, none⟩ = some (.int .i64 a0_0) := cB BK176 0; have hcz22_1 : w21.cell? ⟨gb176, 1, none⟩ = some (.slice A0_1 l0_1.length c0_1) := cB BK176 1; have hfz22_0 := zB BK176 0; have hfz22_1 := zB BK176 1) | ((with_reducible refine gate_callee (f := 56) rfl ?_); refine cl_ (some 9) Tryz.func56 #[.agg #[.int .i64 a0_0, .slice A0_1 l0_1.length c0_1]] ?_; (with_reducible refine (spec_l01Is.calls k a0_0 _ _ l0_1 true _ ?side1 ?side2 A4.out).mono ?_); (case side1 => exact pC ((Kd.C_below HR0_1.out HB.out))); (case side2 => exact HC0_1.out); rintro e w23 ⟨rfl, hb⟩; refine ⟨_, rfl, ?_⟩; replace BK176 := sB BK176 hb; replace HB := sH HB hb; (try clear hb); (try clear hi); have hcz24_0 : w23.cell? ⟨gb176, 0, none⟩ = some (.int .i64 a0_0) := cB BK176 0; have hcz24_1 : w23.cell? ⟨gb176, 1, none⟩ = some (.slice A0_1 l0_1.length c0_1) := cB BK176 1; have hfz24_0 := zB BK176 0; have hfz24_1 := zB BK176 1) | ((with_reducible refine gate_callee (f := 45) rfl ?_); refine cl_ (some 13) Tryz.func45 #[.agg #[.int .i64 a0_0, .slice A0_1 l0_1.length c0_1], .slice A1 l1.length c1] ?_; (with_reducible refine (spec_l02Is.calls k a0_0 _ _ l0_1 _ _ l1 false _ ?side1 ?side2 ?side3 ?side4 A6.out).mono ?_); (case side1 => exact pC ((Kd.C_below HR0_1.out HB.out))); (case side2 => exact HC0_1.out); (case side3 => exact pC ((Kd.C_below HR1.out HB.out))); (case side4 => exact HC1.out); rintro e w25 ⟨rfl, hb⟩; refine ⟨_, rfl, ?_⟩; replace BK176 := sB BK176 hb; replace HB := sH HB hb; (try clear hb); (try clear hi)))
   go_ret
   exact ⟨by first | rfl | (simp [errW_none, errW_some] <;> rfl) | (simp [*, errW_none, errW_some] <;> rfl) | (exfalso; simp_all), pH HB⟩
 ·replace c5 := Bool.eq_false_iff.mpr c5
  subst c5
  have H1 : (some 1) = some r := by rw [if_neg (show ¬ (false = true) by decide)] at H; exact H
  clear H
  have H := H1
  clear H1
  obtain rfl := Option.some.inj H
  go_enter Tryz.func39, Tryz.ntmps39
  go_wp2_with (first | ((with_reducible refine gate_dst (N := 3) rfl ?_); refine box_event ?hg (N := 3) ?hd (cs := #[.int .i64 a0_0, .slice A0_1 l0_1.length c0_1]) (t := 31) ?hr ?_; (case hd => rfl); (case hg => rfl); (case hr => first | (go_simp; done) | (go_simp; rfl)); intro gb176 hg w26 hbox hb; have BK176 := Aside0.mk (hbox); have GW176 := gH HB hg; have GE176 := gH HB hg; replace HB := sH HB hb; clear hb hbox hg; have hcz27_0 : w26.cell? ⟨gb176, 0, none⟩ = some (.int .i64 a0_0) := cB BK176 0; have hcz27_1 : w26.cell? ⟨gb176, 1, none⟩ = some (.slice A0_1 l0_1.length c0_1) := cB BK176 1; have hfz27_0 := zB BK176 0; have hfz27_1 := zB BK176 1) | ((with_reducible refine gate_callee (f := 56) rfl ?_); refine cl_ (some 9) Tryz.func56 #[.agg #[.int .i64 a0_0, .slice A0_1 l0_1.length c0_1]] ?_; (with_reducible refine (spec_l01Is.calls k a0_0 _ _ l0_1 false _ ?side1 ?side2 A4.out).mono ?_); (case side1 => exact pC ((Kd.C_below HR0_1.out HB.out))); (case side2 => exact HC0_1.out); rintro e w28 ⟨rfl, hb⟩; refine ⟨_, rfl, ?_⟩; replace BK176 := sB BK176 hb; replace HB := sH HB hb; (try clear hb); (try clear hi)))
  go_ret
  exact ⟨by first | rfl | (simp [errW_none, errW_some] <;> rfl) | (simp [*, errW_none, errW_some] <;> rfl) | (exfalso; simp_all), pH HB⟩
mutual
def spec_l02Critical.l0 : Nat → List (S45) → List Int → Int → Int → List Int → Option (List Int)
 | 0, _, _, _, _, _ => none
 | k + 1, x1, x5, x6, x182000, x182001 => if x6 < (x182001.length : Int) then (spec_l02Critical.l1 k x1 x5 x6 true 0 x182000 x182001) else (some x5)
def spec_l02Critical.l1 : Nat → List (S45) → List Int → Int → Bool → Int → Int → List Int → Option (List Int)
 | 0, _, _, _, _, _, _, _ => none
 | k + 1, x1, x5, x6, x7, x8, x182000, x182001 => if x8 < (x1.length : Int) then (if x7 = true then (if 0 ≤ x8 then (if 0 ≤ x6 then (if x6 < (x182001.length : Int) then (if ((rd_T45 x1 x8).f0) = (rd x182001 x6) then (spec_l02Critical.l1 k x1 x5 x6 false (wrap64 (x8 + 1)) x182000 x182001) else (spec_l02Critical.l1 k x1 x5 x6 (((rd_T45 x1 x8).f1) != (rd x182001 x6)) (wrap64 (x8 + 1)) x182000 x182001)) else (none)) else (none)) else (none)) else (spec_l02Critical.l1 k x1 x5 x6 false (wrap64 (x8 + 1)) x182000 x182001)) else (if x7 = true then (if 0 ≤ x6 then (if x6 < (x182001.length : Int) then (if x5.length < 17592186044416 then (spec_l02Critical.l0 k x1 (x5 ++ [rd x182001 x6]) (wrap64 (x6 + 1)) x182000 x182001) else (none)) else (none)) else (none)) else (spec_l02Critical.l0 k x1 x5 (wrap64 (x6 + 1)) x182000 x182001))
end
def spec_l02Critical.f (k : Nat) (a0_0 : Int) (l0_1 : List Int) (l1 : List (S45)) : Option (List Int) := spec_l02Critical.l0 k l1 (([] : List Int)) 0 a0_0 l0_1
set_option maxHeartbeats 8000000 in
set_option maxRecDepth 100000 in
theorem spec_l02Critical.calls (k : Nat) (a0_0 : Int) (A0_1 : Option Addr) (c0_1 : Nat) (l0_1 : List Int) (A1 : Option Addr) (c1 : Nat) (l1 : List (S45)) (r : List Int) (w : World) (hr0_1 : Kd.C (Kd.int .i64) w A0_1 l0_1.length l0_1) (hc0_1 : l0_1.length ≤ c0_1) (hr1 : Kd.C k45 w A1 l1.length l1) (hc1 : l1.length ≤ c1) (h : spec_l02Critical.f k a0_0 l0_1 l1 = some r) :
  Calls Tryz.prog 58 #[.agg #[.int .i64 a0_0, .slice A0_1 l0_1.length c0_1], .slice A1 l1.length c1] w fun e w' => ∃ v0_ : Value, e = .returned (v0_) ∧ Kd.R (Kd.int .i64) 2 w' w.heap.size (fun _ => True) v0_ r ∧ Below w.heap.size w w' := by
 have hu31 := Tryz.underlying31
 have HR0_1 := Aside0.mk hr0_1
 have HC0_1 := Aside0.mk hc0_1
 clear hr0_1 hc0_1
 have HR1 := Aside0.mk hr1
 have HC1 := Aside0.mk hc1
 clear hr1 hc1
 have HB := Aside0.mk (Below.refl w.heap.size w)
 have H : (spec_l02Critical.l0 k l1 (([] : List Int)) 0 a0_0 l0_1) = some r := h
 clear h
 obtain ⟨y182, hy182⟩ : ∃ y_ : List Int, y_ = (([] : List Int)) := ⟨_, rfl⟩
 replace H : (spec_l02Critical.l0 k l1 y182 0 a0_0 l0_1) = some r := by first | (rw [hy182]; with_reducible exact H) | (have H2_ := (Option.bind_some _ _).symm.trans H; rw [hy182]; with_reducible exact H2_) | (have H2_ := (Option.bind_some _ _).symm.trans H; with_reducible exact H2_) | with_reducible exact H | (rw [hy182]; exact H) | exact H
 have Ny182 := Aside0.mk hy182
 clear hy182
 have H' := Aside0.mk H
 clear H
 go_enter Tryz.func58, Tryz.ntmps58
 go_wp2_with (first | ((with_reducible refine gate_dst (N := 2) rfl ?_); refine box_event ?hg (N := 2) ?hd (cs := #[.int .i64 a0_0, .slice A0_1 l0_1.length c0_1]) (t := 31) ?hr ?_; (case hd => rfl); (case hg => rfl); (case hr => first | (go_simp; done) | (go_simp; rfl)); intro gb181 hg w3 hbox hb; have BK181 := Aside0.mk (hbox); have GW181 := gH HB hg; have GE181 := gH HB hg; replace HB := sH HB hb; clear hb hbox hg) | ((with_reducible refine gate_dst (N := 9) rfl ?_); refine Kd.R_lit (Kd.int .i64) _ 2 ?hg (N := 9) ?hd (xs := ([] : List Int)) (inner := []) (ok := fun _ => True) (okp := fun _ => True) ?hr ?hp (fun _ hk => hk) trivial (Below.refl _ _) (Nat.le_refl _) (by simp) ?_; (case hd => rfl); (case hg => rfl); (case hr => first | (go_simp; done) | (go_simp; rfl)); (case hp => exact (Reps.none _ _)); intro v183 w4 ho5 hb hg_ hnew_; clear hg_ hnew_; (first | rw [← Ny182.out] at ho5 | (simp only [Int.reduceToNat] at ho5; rw [← Ny182.out] at ho5)); have HO184 := Aside0.mk (Kd.R_lower ho5 (below_size (pH HB))); replace BK181 := sB BK181 hb; replace HB := sH HB hb; clear hb ho5))
 repeat (go_quiet (first | ((with_reducible refine gate_dst (N := 2) rfl ?_); refine box_event ?hg (N := 2) ?hd (cs := #[.int .i64 a0_0, .slice A0_1 l0_1.length c0_1]) (t := 31) ?hr ?_; (case hd => rfl); (case hg => rfl); (case hr => first | (go_simp; done) | (go_simp; rfl)); intro gb181 hg w3 hbox hb; have BK181 := Aside0.mk (hbox); have GW181 := gH HB hg; have GE181 := gH HB hg; replace HB := sH HB hb; clear hb hbox hg) | ((with_reducible refine gate_dst (N := 9) rfl ?_); refine Kd.R_lit (Kd.int .i64) _ 2 ?hg (N := 9) ?hd (xs := ([] : List Int)) (inner := []) (ok := fun _ => True) (okp := fun _ => True) ?hr ?hp (fun _ hk => hk) trivial (Below.refl _ _) (Nat.le_refl _) (by simp) ?_; (case hd => rfl); (case hg => rfl); (case hr => first | (go_simp; done) | (go_simp; rfl)); (case hp => exact (Reps.none _ _)); intro v183 w4 ho5 hb hg_ hnew_; clear hg_ hnew_; (first | rw [← Ny182.out] at ho5 | (simp only [Int.reduceToNat] at ho5; rw [← Ny182.out] at ho5)); have HO184 := Aside0.mk (Kd.R_lower ho5 (below_size (pH HB))); replace BK181 := sB BK181 hb; replace HB := sH HB hb; clear hb ho5)); try go_wp2_with (first | ((with_reducible refine gate_dst (N := 2) rfl ?_); refine box_event ?hg (N := 2) ?hd (cs := #[.int .i64 a0_0, .slice A0_1 l0_1.length c0_1]) (t := 31) ?hr ?_; (case hd => rfl); (case hg => rfl); (case hr => first | (go_simp; done) | (go_simp; rfl)); intro gb181 hg w3 hbox hb; have BK181 := Aside0.mk (hbox); have GW181 := gH HB hg; have GE181 := gH HB hg; replace HB := sH HB hb; clear hb hbox hg) | ((with_reducible refine gate_dst (N := 9) rfl ?_); refine Kd.R_lit (Kd.int .i64) _ 2 ?hg (N := 9) ?hd (xs := ([] : List Int)) (inner := []) (ok := fun _ => True) (okp := fun _ => True) ?hr ?hp (fun _ hk => hk) trivial (Below.refl _ _) (Nat.le_refl _) (by simp) ?_; (case hd => rfl); (case hg => rfl); (case hr => first | (go_simp; done) | (go_simp; rfl)); (case hp => exact (Reps.none _ _)); intro v183 w4 ho5 hb hg_ hnew_; clear hg_ hnew_; (first | rw [← Ny182.out] at ho5 | (simp only [Int.reduceToNat] at ho5; rw [← Ny182.out] at ho5)); have HO184 := Aside0.mk (Kd.R_lower ho5 (below_size (pH HB))); replace BK181 := sB BK181 hb; replace HB := sH HB hb; clear hb ho5)))
 go_loopg [5, 6] k (fun kq v5 v6 w' => ∃ (x5_1 : List Int) (x6_1 : Int), v6 = .int .i64 x6_1 ∧ Aside0 (spec_l02Critical.l0 kq l1 x5_1 x6_1 a0_0 l0_1 = some r) ∧ Aside0 (kq ≤ k) ∧ Aside0 (Kd.R (Kd.int .i64) 2 w' w.heap.size (fun _ => True) v5 x5_1) ∧ Aside0 (w'.heap[gb181]? = some (.cells #[.int .i64 a0_0, (.slice A0_1 l0_1.length c0_1)] 31 (0, 0))) ∧ Aside0 (Below w.heap.size w w'))
 case atStart => exact ⟨(y182), (0), (by first | rfl | (simp; done) | (simp [*]; done)), H', ⟨Nat.le_refl _⟩, ⟨by (with_reducible repeat (first | apply Kd.R_alloc | apply Kd.R_drewN | apply Kd.R_drew)); exact HO184.out⟩, ⟨pB BK181⟩, ⟨pH HB⟩⟩
 case round =>
  clear H'
  try clear c1
  try clear p2
  try clear c5
  obtain ⟨x5_1, x6_1, rfl, HA, HK1, HO_5, BK181, HB⟩ := hrel
  cases gk with
  | zero => exact absurd HA.out (by simp [spec_l02Critical.l0])
  | succ k1 =>
   have H := HA.out
   clear HA
   simp only [spec_l02Critical.l0] at H
   by_cases c6 : x6_1 < (l0_1.length : Int)
   ·rw [if_pos c6] at H
    have c6b0 : decide (x6_1 < (l0_1.length : Int)) = true := decide_eq_true c6
    clear c6
    have H' := Aside0.mk H
    clear H
    have hcz7_0 : wr.cell? ⟨gb181, 0, none⟩ = some (.int .i64 a0_0) := cB BK181 0
    have hcz7_1 : wr.cell? ⟨gb181, 1, none⟩ = some (.slice A0_1 l0_1.length c0_1) := cB BK181 1
    have hfz7_0 := zB BK181 0
    have hfz7_1 := zB BK181 1
    go_wp2
    repeat (go_quiet (fail); try go_wp2)
    go_loopg [7, 8] k1 (fun kq v7 v8 w' => ∃ (x7_2 : Bool) (x8_2 : Int), v7 = .bool x7_2 ∧ v8 = .int .i64 x8_2 ∧ Aside0 (spec_l02Critical.l1 kq l1 x5_1 x6_1 x7_2 x8_2 a0_0 l0_1 = some r) ∧ Aside0 (kq ≤ k1) ∧ Aside0 (Kd.R (Kd.int .i64) 2 w' w.heap.size (fun _ => True) u5 x5_1) ∧ Aside0 (w'.heap[gb181]? = some (.cells #[.int .i64 a0_0, (.slice A0_1 l0_1.length c0_1)] 31 (0, 0))) ∧ Aside0 (Below w.heap.size w w'))
    case atStart => exact ⟨(true), (0), (by first | rfl | (simp; done) | (simp [*]; done)), (by first | rfl | (simp; done) | (simp [*]; done)), H', ⟨Nat.le_refl _⟩, ⟨by (with_reducible repeat (first | apply Kd.R_alloc | apply Kd.R_drewN | apply Kd.R_drew)); exact HO_5.out⟩, ⟨pB BK181⟩, ⟨pH HB⟩⟩
    case round =>
     clear H'
     try clear c1
     try clear p2
     try clear c5
     try clear c6
     try clear c6b0
     try clear hcz7_0
     try clear hcz7_1
     try clear hfz7_0
     try clear hfz7_1
     try clear p2
     obtain ⟨x7_2, x8_2, rfl, rfl, HA, HK2, HO_5, BK181, HB⟩ := hrel
     cases gk with
     | zero => exact absurd HA.out (by simp [spec_l02Critical.l1])
     | succ k2 =>
      have H := HA.out
      clear HA
      simp only [spec_l02Critical.l1] at H
      by_cases c8 : x8_2 < (l1.length : Int)
      ·rw [if_pos c8] at H
       have c8b0 : decide (x8_2 < (l1.length : Int)) = true := decide_eq_true c8
       clear c8
       by_cases c9 : x7_2 = true
       ·subst c9
        have H1 : (if 0 ≤ x8_2 then (if 0 ≤ x6_1 then (if x6_1 < (l0_1.length : Int) then (if ((rd_T45 l1 x8_2).f0) = (rd l0_1 x6_1) then (spec_l02Critical.l1 k2 l1 x5_1 x6_1 false (wrap64 (x8_2 + 1)) a0_0 l0_1) else (spec_l02Critical.l1 k2 l1 x5_1 x6_1 (((rd_T45 l1 x8_2).f1) != (rd l0_1 x6_1)) (wrap64 (x8_2 + 1)) a0_0 l0_1)) else (none)) else (none)) else (none)) = some r := by rw [if_pos rfl] at H; exact H
        clear H
        have H := H1
        clear H1
        by_cases c10 : 0 ≤ x8_2
        ·rw [if_pos c10] at H
         have c10b0 : decide (0 ≤ x8_2) = true := decide_eq_true c10
         clear c10
         by_cases c11 : 0 ≤ x6_1
         ·rw [if_pos c11] at H
          have c11b0 : decide (0 ≤ x6_1) = true := decide_eq_true c11
          clear c11
          by_cases c12 : x6_1 < (l0_1.length : Int)
          ·rw [if_pos c12] at H
           have c12b0 : decide (x6_1 < (l0_1.length : Int)) = true := decide_eq_true c12
           clear c12
           by_cases c13 : ((rd_T45 l1 x8_2).f0) = (rd l0_1 x6_1)
           ·rw [if_pos c13] at H
            have c13b0 : (((rd_T45 l1 x8_2).f0) == (rd l0_1 x6_1)) = true := beq_iff_eq.mpr c13
            have c13b1 : (((rd_T45 l1 x8_2).f0) != (rd l0_1 x6_1)) = false := bne_eq_false_iff_eq.mpr c13
            clear c13
            have H' := Aside0.mk H
            clear H
            have p185 : 0 ≤ (x8_2 : Int) := of_decide_eq_true (by first | (with_reducible assumption) | assumption)
            have q185 : x8_2 < (l1.length : Int) := of_decide_eq_true (by first | (with_reducible assumption) | assumption)
            obtain ⟨ad185, e185, hx185_0, hx185_1⟩ := at_T45 HR1.out x8_2 p185 q185
            cases e185
            replace hx185_0 := cH HB hx185_0
            replace hx185_1 := cH HB hx185_1
            replace p185 := eq_true p185
            replace q185 := eq_true q185
            have hcz14_0 : wr.cell? ⟨gb181, 0, none⟩ = some (.int .i64 a0_0) := cB BK181 0
            have hcz14_1 : wr.cell? ⟨gb181, 1, none⟩ = some (.slice A0_1 l0_1.length c0_1) := cB BK181 1
            have hfz14_0 := zB BK181 0
            have hfz14_1 := zB BK181 1
            have p186 : 0 ≤ (x6_1 : Int) := of_decide_eq_true (by first | (with_reducible assumption) | assumption)
            have q186 : x6_1 < (l0_1.length : Int) := of_decide_eq_true (by first | (with_reducible assumption) | assumption)
            obtain ⟨ad186, e186, hx186_0⟩ := Kd.at_int HR0_1.out x6_1 p186 q186
            cases e186
            replace hx186_0 := cH HB hx186_0
            replace p186 := eq_true p186
            replace q186 := eq_true q186
            go_wp2
            repeat (go_quiet (fail); try go_wp2)
            go_roundg k2
            case measure => have := HK1.out; have := HK2.out; omega
            case rel => exact ⟨(false), (wrap64 (x8_2 + 1)), (by first | rfl | (simp; done) | (simp [*]; done)), (by first | rfl | (simp; done) | (simp [*]; done)), H', ⟨by have := HK1.out; have := HK2.out; omega⟩, ⟨by (with_reducible repeat (first | apply Kd.R_alloc | apply Kd.R_drewN | apply Kd.R_drew)); exact HO_5.out⟩, ⟨pB BK181⟩, ⟨pH HB⟩⟩
           ·rw [if_neg c13] at H
            have c13b0 : (((rd_T45 l1 x8_2).f0) == (rd l0_1 x6_1)) = false := beq_eq_false_iff_ne.mpr c13
            have c13b1 : (((rd_T45 l1 x8_2).f0) != (rd l0_1 x6_1)) = true := bne_iff_ne.mpr c13
            have H' := Aside0.mk H
            clear H
            have p185 : 0 ≤ (x8_2 : Int) := of_decide_eq_true (by first | (with_reducible assumption) | assumption)
            have q185 : x8_2 < (l1.length : Int) := of_decide_eq_true (by first | (with_reducible assumption) | assumption)
            obtain ⟨ad185, e185, hx185_0, hx185_1⟩ := at_T45 HR1.out x8_2 p185 q185
            cases e185
            replace hx185_0 := cH HB hx185_0
            replace hx185_1 := cH HB hx185_1
            replace p185 := eq_true p185
            replace q185 := eq_true q185
            have hcz15_0 : wr.cell? ⟨gb181, 0, none⟩ = some (.int .i64 a0_0) := cB BK181 0
            have hcz15_1 : wr.cell? ⟨gb181, 1, none⟩ = some (.slice A0_1 l0_1.length c0_1) := cB BK181 1
            have hfz15_0 := zB BK181 0
            have hfz15_1 := zB BK181 1
            have p186 : 0 ≤ (x6_1 : Int) := of_decide_eq_true (by first | (with_reducible assumption) | assumption)
            have q186 : x6_1 < (l0_1.length : Int) := of_decide_eq_true (by first | (with_reducible assumption) | assumption)
            obtain ⟨ad186, e186, hx186_0⟩ := Kd.at_int HR0_1.out x6_1 p186 q186
            cases e186
            replace hx186_0 := cH HB hx186_0
            replace p186 := eq_true p186
            replace q186 := eq_true q186
            have p187 : 0 ≤ (x8_2 : Int) := of_decide_eq_true (by first | (with_reducible assumption) | assumption)
            have q187 : x8_2 < (l1.length : Int) := of_decide_eq_true (by first | (with_reducible assumption) | assumption)
            obtain ⟨ad187, e187, hx187_0, hx187_1⟩ := at_T45 HR1.out x8_2 p187 q187
            obtain rfl : ad185 = ad187 := (by injection e187)
            replace hx187_0 := cH HB hx187_0
            replace hx187_1 := cH HB hx187_1
            replace p187 := eq_true p187
            replace q187 := eq_true q187
            have p188 : 0 ≤ (x6_1 : Int) := of_decide_eq_true (by first | (with_reducible assumption) | assumption)
            have q188 : x6_1 < (l0_1.length : Int) := of_decide_eq_true (by first | (with_reducible assumption) | assumption)
            obtain ⟨ad188, e188, hx188_0⟩ := Kd.at_int HR0_1.out x6_1 p188 q188
            obtain rfl : ad186 = ad188 := (by injection e188)
            replace hx188_0 := cH HB hx188_0
            replace p188 := eq_true p188
            replace q188 := eq_true q188
            go_wp2
            repeat (go_quiet (fail); try go_wp2)
            go_roundg k2
            case measure => have := HK1.out; have := HK2.out; omega
            case rel => exact ⟨((((rd_T45 l1 x8_2).f1) != (rd l0_1 x6_1))), (wrap64 (x8_2 + 1)), (by first | rfl | (simp; done) | (simp [*]; done)), (by first | rfl | (simp; done) | (simp [*]; done)), H', ⟨by have := HK1.out; have := HK2.out; omega⟩, ⟨by (with_reducible repeat (first | apply Kd.R_alloc | apply Kd.R_drewN | apply Kd.R_drew)); exact HO_5.out⟩, ⟨pB BK181⟩, ⟨pH HB⟩⟩
          ·rw [if_neg c12] at H
           exact absurd H (by simp)
         ·rw [if_neg c11] at H
          exact absurd H (by simp)
        ·rw [if_neg c10] at H
         exact absurd H (by simp)
       ·replace c9 := Bool.eq_false_iff.mpr c9
        subst c9
        have H1 : (spec_l02Critical.l1 k2 l1 x5_1 x6_1 false (wrap64 (x8_2 + 1)) a0_0 l0_1) = some r := by rw [if_neg (show ¬ (false = true) by decide)] at H; exact H
        clear H
        have H := H1
        clear H1
        have H' := Aside0.mk H
        clear H
        go_wp2
        repeat (go_quiet (fail); try go_wp2)
        go_roundg k2
        case measure => have := HK1.out; have := HK2.out; omega
        case rel => exact ⟨(false), (wrap64 (x8_2 + 1)), (by first | rfl | (simp; done) | (simp [*]; done)), (by first | rfl | (simp; done) | (simp [*]; done)), H', ⟨by have := HK1.out; have := HK2.out; omega⟩, ⟨by (with_reducible repeat (first | apply Kd.R_alloc | apply Kd.R_drewN | apply Kd.R_drew)); exact HO_5.out⟩, ⟨pB BK181⟩, ⟨pH HB⟩⟩
      ·rw [if_neg c8] at H
       have c8b0 : decide (x8_2 < (l1.length : Int)) = false := decide_eq_false c8
       clear c8
       by_cases c16 : x7_2 = true
       ·subst c16
        have H1 : (if 0 ≤ x6_1 then (if x6_1 < (l0_1.length : Int) then (if x5_1.length < 17592186044416 then (spec_l02Critical.l0 k2 l1 (x5_1 ++ [rd l0_1 x6_1]) (wrap64 (x6_1 + 1)) a0_0 l0_1) else (none)) else (none)) else (none)) = some r := by rw [if_pos rfl] at H; exact H
        clear H
        have H := H1
        clear H1
        by_cases c17 : 0 ≤ x6_1
        ·rw [if_pos c17] at H
         have c17b0 : decide (0 ≤ x6_1) = true := decide_eq_true c17
         clear c17
         by_cases c18 : x6_1 < (l0_1.length : Int)
         ·rw [if_pos c18] at H
          have c18b0 : decide (x6_1 < (l0_1.length : Int)) = true := decide_eq_true c18
          clear c18
          by_cases c19 : x5_1.length < 17592186044416
          ·rw [if_pos c19] at H
           have LMc19 := Aside0.mk c19
           clear c19
           obtain ⟨y190, hy190⟩ : ∃ y_ : List Int, y_ = (x5_1 ++ [rd l0_1 x6_1]) := ⟨_, rfl⟩
           replace H : (spec_l02Critical.l0 k2 l1 y190 (wrap64 (x6_1 + 1)) a0_0 l0_1) = some r := by first | (rw [hy190]; with_reducible exact H) | (have H2_ := (Option.bind_some _ _).symm.trans H; rw [hy190]; with_reducible exact H2_) | (have H2_ := (Option.bind_some _ _).symm.trans H; with_reducible exact H2_) | with_reducible exact H | (rw [hy190]; exact H) | exact H
           have Ny190 := Aside0.mk hy190
           clear hy190
           have H' := Aside0.mk H
           clear H
           have hcz20_0 : wr.cell? ⟨gb181, 0, none⟩ = some (.int .i64 a0_0) := cB BK181 0
           have hcz20_1 : wr.cell? ⟨gb181, 1, none⟩ = some (.slice A0_1 l0_1.length c0_1) := cB BK181 1
           have hfz20_0 := zB BK181 0
           have hfz20_1 := zB BK181 1
           have p189 : 0 ≤ (x6_1 : Int) := of_decide_eq_true (by first | (with_reducible assumption) | assumption)
           have q189 : x6_1 < (l0_1.length : Int) := of_decide_eq_true (by first | (with_reducible assumption) | assumption)
           obtain ⟨ad189, e189, hx189_0⟩ := Kd.at_int HR0_1.out x6_1 p189 q189
           cases e189
           replace hx189_0 := cH HB hx189_0
           replace p189 := eq_true p189
           replace q189 := eq_true q189
           go_wp2_with (first | ((with_reducible refine gate_builtin (b := .append) (xs := #[.tmp 51, .tmp 57]) rfl ?_); at_builtin; refine Kd.R_append (Kd.int .i64) (w0 := w) w.heap.size rfl (.tmp 51) (.tmp 57) 22 2 (.int .i64 0) 8 rfl Tryz.underlying22 info2 rfl (by decide) (by omega) u5 x5_1 (rd l0_1 x6_1) [.int .i64 (rd l0_1 x6_1)] (fun _ => True) (fun _ => False) rfl rfl ?aP (fun _ hk => hk.elim) ?aF ?aO ?aB ?aS ?aL ?_; (case aP => exact rfl); (case aB => exact (pH HB)); (case aF => exact (fun _ _ => trivial)); (case aO => exact (pR HO_5)); (case aS => exact (below_size (pH HB))); (case aL => have := LMc19.out; omega); intro v191 w21 ho hb hg hat; rw [← Ny190.out] at ho; replace BK181 := Aside0.mk (blk_grown (g := gb181) (o := .cells #[.int .i64 a0_0, .slice (some ad189) l0_1.length c0_1] 31 (0, 0)) (pB BK181) hg (Kd.R_ne HO_5.out BK181.out (by decide))); replace HB := Aside0.mk (hb); have HO192 := Aside0.mk (ho); clear HO_5; clear ho hb hg hat))
           repeat (go_quiet (first | ((with_reducible refine gate_builtin (b := .append) (xs := #[.tmp 51, .tmp 57]) rfl ?_); at_builtin; refine Kd.R_append (Kd.int .i64) (w0 := w) w.heap.size rfl (.tmp 51) (.tmp 57) 22 2 (.int .i64 0) 8 rfl Tryz.underlying22 info2 rfl (by decide) (by omega) u5 x5_1 (rd l0_1 x6_1) [.int .i64 (rd l0_1 x6_1)] (fun _ => True) (fun _ => False) rfl rfl ?aP (fun _ hk => hk.elim) ?aF ?aO ?aB ?aS ?aL ?_; (case aP => exact rfl); (case aB => exact (pH HB)); (case aF => exact (fun _ _ => trivial)); (case aO => exact (pR HO_5)); (case aS => exact (below_size (pH HB))); (case aL => have := LMc19.out; omega); intro v191 w21 ho hb hg hat; rw [← Ny190.out] at ho; replace BK181 := Aside0.mk (blk_grown (g := gb181) (o := .cells #[.int .i64 a0_0, .slice (some ad189) l0_1.length c0_1] 31 (0, 0)) (pB BK181) hg (Kd.R_ne HO_5.out BK181.out (by decide))); replace HB := Aside0.mk (hb); have HO192 := Aside0.mk (ho); clear HO_5; clear ho hb hg hat)); try go_wp2_with (first | ((with_reducible refine gate_builtin (b := .append) (xs := #[.tmp 51, .tmp 57]) rfl ?_); at_builtin; refine Kd.R_append (Kd.int .i64) (w0 := w) w.heap.size rfl (.tmp 51) (.tmp 57) 22 2 (.int .i64 0) 8 rfl Tryz.underlying22 info2 rfl (by decide) (by omega) u5 x5_1 (rd l0_1 x6_1) [.int .i64 (rd l0_1 x6_1)] (fun _ => True) (fun _ => False) rfl rfl ?aP (fun _ hk => hk.elim) ?aF ?aO ?aB ?aS ?aL ?_; (case aP => exact rfl); (case aB => exact (pH HB)); (case aF => exact (fun _ _ => trivial)); (case aO => exact (pR HO_5)); (case aS => exact (below_size (pH HB))); (case aL => have := LMc19.out; omega); intro v191 w21 ho hb hg hat; rw [← Ny190.out] at ho; replace BK181 := Aside0.mk (blk_grown (g := gb181) (o := .cells #[.int .i64 a0_0, .slice (some ad189) l0_1.length c0_1] 31 (0, 0)) (pB BK181) hg (Kd.R_ne HO_5.out BK181.out (by decide))); replace HB := Aside0.mk (hb); have HO192 := Aside0.mk (ho); clear HO_5; clear ho hb hg hat)))
           go_roundg k2
           case measure => have := HK1.out; have := HK2.out; omega
           case rel => exact ⟨(y190), (wrap64 (x6_1 + 1)), (by first | rfl | (simp; done) | (simp [*]; done)), H', ⟨by have := HK1.out; have := HK2.out; omega⟩, ⟨by (with_reducible repeat (first | apply Kd.R_alloc | apply Kd.R_drewN | apply Kd.R_drew)); exact HO192.out⟩, ⟨pB BK181⟩, ⟨pH HB⟩⟩
          ·rw [if_neg c19] at H
           exact absurd H (by simp)
         ·rw [if_neg c18] at H
          exact absurd H (by simp)
        ·rw [if_neg c17] at H
         exact absurd H (by simp)
       ·replace c16 := Bool.eq_false_iff.mpr c16
        subst c16
        have H1 : (spec_l02Critical.l0 k2 l1 x5_1 (wrap64 (x6_1 + 1)) a0_0 l0_1) = some r := by rw [if_neg (show ¬ (false = true) by decide)] at H; exact H
        clear H
        have H := H1
        clear H1
        have H' := Aside0.mk H
        clear H
        go_wp2
        repeat (go_quiet (fail); try go_wp2)
        go_roundg k2
        case measure => have := HK1.out; have := HK2.out; omega
        case rel => exact ⟨(x5_1), (wrap64 (x6_1 + 1)), (by first | rfl | (simp; done) | (simp [*]; done)), H', ⟨by have := HK1.out; have := HK2.out; omega⟩, ⟨by (with_reducible repeat (first | apply Kd.R_alloc | apply Kd.R_drewN | apply Kd.R_drew)); exact HO_5.out⟩, ⟨pB BK181⟩, ⟨pH HB⟩⟩
   ·rw [if_neg c6] at H
    have c6b0 : decide (x6_1 < (l0_1.length : Int)) = false := decide_eq_false c6
    clear c6
    obtain rfl := Option.some.inj H
    have hcz22_0 : wr.cell? ⟨gb181, 0, none⟩ = some (.int .i64 a0_0) := cB BK181 0
    have hcz22_1 : wr.cell? ⟨gb181, 1, none⟩ = some (.slice A0_1 l0_1.length c0_1) := cB BK181 1
    have hfz22_0 := zB BK181 0
    have hfz22_1 := zB BK181 1
    go_wp2
    repeat (go_quiet (fail); try go_wp2)
    go_ret
    exact ⟨_, by first | rfl | (simp [errW_none, errW_some] <;> rfl) | (simp [*, errW_none, errW_some] <;> rfl) | (exfalso; simp_all), by (with_reducible repeat (first | apply Kd.R_alloc | apply Kd.R_drewN | apply Kd.R_drew)); exact HO_5.out, pH HB⟩
def spec_l06Critical.l0 : Nat → Int → List Int → Int → Option (Bool)
 | 0, _, _, _ => none
 | k + 1, x2, x7, x8 => if x8 < (x7.length : Int) then (if 0 ≤ x8 then (if (rd x7 x8) = x2 then (some true) else (spec_l06Critical.l0 k x2 x7 (wrap64 (x8 + 1)))) else (none)) else (some false)
def spec_l06Critical.f (k : Nat) (a0_0 : Int) (l0_1 : List Int) (l1 : List (S45)) (a2 : Int) : Option (Bool) := (spec_l02Critical.f k a0_0 l0_1 l1).bind fun t194 => (spec_l06Critical.l0 k a2 t194 0)
set_option maxHeartbeats 8000000 in
set_option maxRecDepth 100000 in
theorem spec_l06Critical.calls (k : Nat) (a0_0 : Int) (A0_1 : Option Addr) (c0_1 : Nat) (l0_1 : List Int) (A1 : Option Addr) (c1 : Nat) (l1 : List (S45)) (a2 : Int) (r : Bool) (w : World) (hr0_1 : Kd.C (Kd.int .i64) w A0_1 l0_1.length l0_1) (hc0_1 : l0_1.length ≤ c0_1) (hr1 : Kd.C k45 w A1 l1.length l1) (hc1 : l1.length ≤ c1) (h : spec_l06Critical.f k a0_0 l0_1 l1 a2 = some r) :
  Calls Tryz.prog 40 #[.agg #[.int .i64 a0_0, .slice A0_1 l0_1.length c0_1], .slice A1 l1.length c1, .int .i64 a2] w fun e w' => e = .returned (.bool r) ∧ Below w.heap.size w w' := by
 have hu31 := Tryz.underlying31
 have HR0_1 := Aside0.mk hr0_1
 have HC0_1 := Aside0.mk hc0_1
 clear hr0_1 hc0_1
 have HR1 := Aside0.mk hr1
 have HC1 := Aside0.mk hc1
 clear hr1 hc1
 have HB := Aside0.mk (Below.refl w.heap.size w)
 have H : ((spec_l02Critical.f k a0_0 l0_1 l1).bind fun t194 => (spec_l06Critical.l0 k a2 t194 0)) = some r := h
 clear h
 replace H := Option.bind_eq_some_iff.mp H
 obtain ⟨t194, A40, H⟩ := H
 try dsimp only at H
 have A4 := Aside0.mk A40
 clear A40
 have H' := Aside0.mk H
 clear H
 go_enter Tryz.func40, Tryz.ntmps40
 go_wp2_with (first | ((with_reducible refine gate_dst (N := 3) rfl ?_); refine box_event ?hg (N := 3) ?hd (cs := #[.int .i64 a0_0, .slice A0_1 l0_1.length c0_1]) (t := 31) ?hr ?_; (case hd => rfl); (case hg => rfl); (case hr => first | (go_simp; done) | (go_simp; rfl)); intro gb193 hg w5 hbox hb; have BK193 := Aside0.mk (hbox); have GW193 := gH HB hg; have GE193 := gH HB hg; replace HB := sH HB hb; clear hb hbox hg; have hcz6_0 : w5.cell? ⟨gb193, 0, none⟩ = some (.int .i64 a0_0) := cB BK193 0; have hcz6_1 : w5.cell? ⟨gb193, 1, none⟩ = some (.slice A0_1 l0_1.length c0_1) := cB BK193 1; have hfz6_0 := zB BK193 0; have hfz6_1 := zB BK193 1) | ((with_reducible refine gate_callee (f := 58) rfl ?_); refine cl_ (some 11) Tryz.func58 #[.agg #[.int .i64 a0_0, .slice A0_1 l0_1.length c0_1], .slice A1 l1.length c1] ?_; (with_reducible refine (spec_l02Critical.calls k a0_0 _ _ l0_1 _ _ l1 t194 _ ?side1 ?side2 ?side3 ?side4 A4.out).mono ?_); (case side1 => exact pC ((Kd.C_below HR0_1.out HB.out))); (case side2 => exact HC0_1.out); (case side3 => exact pC ((Kd.C_below HR1.out HB.out))); (case side4 => exact HC1.out); rintro e w7 ⟨v195, rfl, ho0, hb⟩; refine ⟨_, rfl, ?_⟩; have HO196 := Aside0.mk (Kd.R_lower ho0 (below_size (pH HB))); replace BK193 := sB BK193 hb; replace HB := sH HB hb; (try clear hb); (try clear hi); (try clear ho0)))
 go_loopg [8] k (fun kq v8 w' => ∃ (x8_1 : Int), v8 = .int .i64 x8_1 ∧ Aside0 (spec_l06Critical.l0 kq a2 t194 x8_1 = some r) ∧ Aside0 (kq ≤ k) ∧ Aside0 (Kd.R (Kd.int .i64) 2 w' w.heap.size (fun _ => True) v195 t194) ∧ Aside0 (w'.heap[gb193]? = some (.cells #[.int .i64 a0_0, (.slice A0_1 l0_1.length c0_1)] 31 (0, 0))) ∧ Aside0 (Below w.heap.size w w'))
 case atStart => exact ⟨(0), (by first | rfl | (simp; done) | (simp [*]; done)), H', ⟨Nat.le_refl _⟩, ⟨by (with_reducible repeat (first | apply Kd.R_alloc | apply Kd.R_drewN | apply Kd.R_drew)); exact HO196.out⟩, ⟨pB BK193⟩, ⟨pH HB⟩⟩
 case round =>
  clear H'
  try clear c1
  try clear p2
  try clear c4
  try clear c5
  try clear hcz6_0
  try clear hcz6_1
  try clear hfz6_0
  try clear hfz6_1
  obtain ⟨x8_1, rfl, HA, HK1, HO_7, BK193, HB⟩ := hrel
  cases gk with
  | zero => exact absurd HA.out (by simp [spec_l06Critical.l0])
  | succ k1 =>
   have H := HA.out
   clear HA
   simp only [spec_l06Critical.l0] at H
   by_cases c8 : x8_1 < (t194.length : Int)
   ·rw [if_pos c8] at H
    have c8b0 : decide (x8_1 < (t194.length : Int)) = true := decide_eq_true c8
    clear c8
    by_cases c9 : 0 ≤ x8_1
    ·rw [if_pos c9] at H
     have c9b0 : decide (0 ≤ x8_1) = true := decide_eq_true c9
     clear c9
     by_cases c10 : (rd t194 x8_1) = a2
     ·rw [if_pos c10] at H
      have c10b0 : ((rd t194 x8_1) == a2) = true := beq_iff_eq.mpr c10
      have c10b1 : ((rd t194 x8_1) != a2) = false := bne_eq_false_iff_eq.mpr c10
      clear c10
      obtain rfl := Option.some.inj H
      obtain ⟨Ao11, co11, eo11⟩ := Kd.R_slice HO_7.out
      subst eo11
      have p197 : 0 ≤ (x8_1 : Int) := of_decide_eq_true (by first | (with_reducible assumption) | assumption)
      have q197 : x8_1 < (t194.length : Int) := of_decide_eq_true (by first | (with_reducible assumption) | assumption)
      obtain ⟨ad197, e197, hx197_0⟩ := Kd.at_int (Kd.R_reads' HO_7.out).2.2 x8_1 p197 q197
      cases e197
      replace p197 := eq_true p197
      replace q197 := eq_true q197
      go_wp2
      go_ret
      exact ⟨by first | rfl | (simp [errW_none, errW_some] <;> rfl) | (simp [*, errW_none, errW_some] <;> rfl) | (exfalso; simp_all), pH HB⟩
     ·rw [if_neg c10] at H
      have c10b0 : ((rd t194 x8_1) == a2) = false := beq_eq_false_iff_ne.mpr c10
      have c10b1 : ((rd t194 x8_1) != a2) = true := bne_iff_ne.mpr c10
      have H' := Aside0.mk H
      clear H
      obtain ⟨Ao12, co12, eo12⟩ := Kd.R_slice HO_7.out
      subst eo12
      have p197 : 0 ≤ (x8_1 : Int) := of_decide_eq_true (by first | (with_reducible assumption) | assumption)
      have q197 : x8_1 < (t194.length : Int) := of_decide_eq_true (by first | (with_reducible assumption) | assumption)
      obtain ⟨ad197, e197, hx197_0⟩ := Kd.at_int (Kd.R_reads' HO_7.out).2.2 x8_1 p197 q197
      cases e197
      replace p197 := eq_true p197
      replace q197 := eq_true q197
      go_wp2
      go_roundg k1
      case measure => have := HK1.out; omega
      case rel => exact ⟨(wrap64 (x8_1 + 1)), (by first | rfl | (simp; done) | (simp [*]; done)), H', ⟨by have := HK1.out; omega⟩, ⟨by (with_reducible repeat (first | apply Kd.R_alloc | apply Kd.R_drewN | apply Kd.R_drew)); exact HO_7.out⟩, ⟨pB BK193⟩, ⟨pH HB⟩⟩
    ·rw [if_neg c9] at H
     exact absurd H (by simp)
   ·rw [if_neg c8] at H
    have c8b0 : decide (x8_1 < (t194.length : Int)) = false := decide_eq_false c8
    clear c8
    obtain rfl := Option.some.inj H
    obtain ⟨Ao13, co13, eo13⟩ := Kd.R_slice HO_7.out
    subst eo13
    go_wp2
    go_ret
    exact ⟨by first | rfl | (simp [errW_none, errW_some] <;> rfl) | (simp [*, errW_none, errW_some] <;> rfl) | (exfalso; simp_all), pH HB⟩
def spec_l06Given.j0 : Nat → List (S45) → Int → Bool → Option (Int)
 | 0, _, _, _ => none
 | k + 1, x1, x9, x36 => if x36 = true then (if 2 = 0 then ((spec_l02Acyclic.f k x1).bind fun t242 => (if t242 = true then (some 2) else (some 5))) else (some 2)) else (if x9 = 0 then ((spec_l02Acyclic.f k x1).bind fun t243 => (if t243 = true then (some x9) else (some 5))) else (some x9))
def spec_l06Given.f (k : Nat) (a0_0 : Int) (l0_1 : List Int) (l1 : List (S45)) (a2 : Int) (a3 : Int) : Option (Int) := (spec_l02Code.f k a0_0 l0_1 l1 ([] : List Int)).bind fun t237 => (if t237 = 0 then ((spec_l06Critical.f k a0_0 l0_1 l1 a2).bind fun t238 => (if t238 = true then ((spec_l06Critical.f k a0_0 l0_1 l1 a3).bind fun t239 => (if t239 = true then ((spec_l01Ones.f k a2).bind fun t240 => ((spec_l01Ones.f k a3).bind fun t241 => (spec_l06Given.j0 k l1 t237 (t240 != (wrap64 (t241 + 1)))))) else (spec_l06Given.j0 k l1 t237 true))) else (spec_l06Given.j0 k l1 t237 true))) else (spec_l06Given.j0 k l1 t237 false))
set_option maxHeartbeats 8000000 in
set_option maxRecDepth 100000 in
theorem spec_l06Given.calls (k : Nat) (a0_0 : Int) (A0_1 : Option Addr) (c0_1 : Nat) (l0_1 : List Int) (A1 : Option Addr) (c1 : Nat) (l1 : List (S45)) (a2 : Int) (a3 : Int) (r : Int) (w : World) (hr0_1 : Kd.C (Kd.int .i64) w A0_1 l0_1.length l0_1) (hc0_1 : l0_1.length ≤ c0_1) (hr1 : Kd.C k45 w A1 l1.length l1) (hc1 : l1.length ≤ c1) (h : spec_l06Given.f k a0_0 l0_1 l1 a2 a3 = some r) :
  Calls Tryz.prog 16 #[.agg #[.int .i64 a0_0, .slice A0_1 l0_1.length c0_1], .slice A1 l1.length c1, .int .i64 a2, .int .i64 a3] w fun e w' => e = .returned (.int .i64 r) ∧ Below w.heap.size w w' := by
 have hu31 := Tryz.underlying31
 have HR0_1 := Aside0.mk hr0_1
 have HC0_1 := Aside0.mk hc0_1
 clear hr0_1 hc0_1
 have HR1 := Aside0.mk hr1
 have HC1 := Aside0.mk hc1
 clear hr1 hc1
 have HB := Aside0.mk (Below.refl w.heap.size w)
 have H : ((spec_l02Code.f k a0_0 l0_1 l1 ([] : List Int)).bind fun t237 => (if t237 = 0 then ((spec_l06Critical.f k a0_0 l0_1 l1 a2).bind fun t238 => (if t238 = true then ((spec_l06Critical.f k a0_0 l0_1 l1 a3).bind fun t239 => (if t239 = true then ((spec_l01Ones.f k a2).bind fun t240 => ((spec_l01Ones.f k a3).bind fun t241 => (spec_l06Given.j0 k l1 t237 (t240 != (wrap64 (t241 + 1)))))) else (spec_l06Given.j0 k l1 t237 true))) else (spec_l06Given.j0 k l1 t237 true))) else (spec_l06Given.j0 k l1 t237 false))) = some r := h
 clear h
 replace H := Option.bind_eq_some_iff.mp H
 obtain ⟨t237, A50, H⟩ := H
 try dsimp only at H
 have A5 := Aside0.mk A50
 clear A50
 have HC6 := Aside0.mk H
 clear H
 go_enter Tryz.func16, Tryz.ntmps16
 go_upto_region 2 with (first | ((with_reducible refine gate_dst (N := 4) rfl ?_); refine box_event ?hg (N := 4) ?hd (cs := #[.int .i64 a0_0, .slice A0_1 l0_1.length c0_1]) (t := 31) ?hr ?_; (case hd => rfl); (case hg => rfl); (case hr => first | (go_simp; done) | (go_simp; rfl)); intro gb236 hg w7 hbox hb; have BK236 := Aside0.mk (hbox); have GW236 := gH HB hg; have GE236 := gH HB hg; replace HB := sH HB hb; clear hb hbox hg; have hcz8_0 : w7.cell? ⟨gb236, 0, none⟩ = some (.int .i64 a0_0) := cB BK236 0; have hcz8_1 : w7.cell? ⟨gb236, 1, none⟩ = some (.slice A0_1 l0_1.length c0_1) := cB BK236 1; have hfz8_0 := zB BK236 0; have hfz8_1 := zB BK236 1) | ((with_reducible refine gate_callee (f := 39) rfl ?_); refine cl_ (some 12) Tryz.func39 #[.agg #[.int .i64 a0_0, .slice A0_1 l0_1.length c0_1], .slice A1 l1.length c1, .slice none 0 0] ?_; (refine (spec_l02Code.calls k a0_0 _ _ l0_1 _ _ l1 _ _ ([] : List Int) t237 _ ?side1 ?side2 ?side3 ?side4 ?side5 ?side6 A5.out).mono ?_); (case side1 => exact pC ((Kd.C_below HR0_1.out HB.out))); (case side2 => exact HC0_1.out); (case side3 => exact pC ((Kd.C_below HR1.out HB.out))); (case side4 => exact HC1.out); (case side5 => exact Kd.C_nil _ _); (case side6 => exact Nat.le_refl _); rintro e w9 ⟨rfl, hb⟩; refine ⟨_, rfl, ?_⟩; replace BK236 := sB BK236 hb; replace HB := sH HB hb; (try clear hb); (try clear hi)))
 (try simp only [Act.put, List.setIfInBounds_toArray, List.set_cons_zero, List.set_cons_succ])
 go_cut [36] (fun v36 wc => ∃ (kq : Nat) (x36_5 : Bool), v36 = .bool x36_5 ∧ Aside0 (spec_l06Given.j0 kq l1 t237 x36_5 = some r) ∧ Aside0 (kq ≤ k) ∧ Aside0 (wc.heap[gb236]? = some (.cells #[.int .i64 a0_0, (.slice A0_1 l0_1.length c0_1)] 31 (0, 0))) ∧ Aside0 (Below w.heap.size w wc))
 case first =>
  have H := HC6.out
  clear HC6
  by_cases c10 : t237 = 0
  ·rw [if_pos c10] at H
   have c10b0 : (t237 == 0) = true := beq_iff_eq.mpr c10
   have c10b1 : (t237 != 0) = false := bne_eq_false_iff_eq.mpr c10
   clear c10
   (first | rw [c10b0] | (simp only [i64_w, i32_w]; rw [c10b0]) | skip)
   replace H := Option.bind_eq_some_iff.mp H
   obtain ⟨t238, A110, H⟩ := H
   try dsimp only at H
   have A11 := Aside0.mk A110
   clear A110
   by_cases c12 : t238 = true
   ·subst c12
    have H1 : ((spec_l06Critical.f k a0_0 l0_1 l1 a3).bind fun t239 => (if t239 = true then ((spec_l01Ones.f k a2).bind fun t240 => ((spec_l01Ones.f k a3).bind fun t241 => (spec_l06Given.j0 k l1 t237 (t240 != (wrap64 (t241 + 1)))))) else (spec_l06Given.j0 k l1 t237 true))) = some r := by rw [if_pos rfl] at H; exact H
    clear H
    have H := H1
    clear H1
    replace H := Option.bind_eq_some_iff.mp H
    obtain ⟨t239, A130, H⟩ := H
    try dsimp only at H
    have A13 := Aside0.mk A130
    clear A130
    by_cases c14 : t239 = true
    ·subst c14
     have H1 : ((spec_l01Ones.f k a2).bind fun t240 => ((spec_l01Ones.f k a3).bind fun t241 => (spec_l06Given.j0 k l1 t237 (t240 != (wrap64 (t241 + 1)))))) = some r := by rw [if_pos rfl] at H; exact H
     clear H
     have H := H1
     clear H1
     replace H := Option.bind_eq_some_iff.mp H
     obtain ⟨t240, A150, H⟩ := H
     try dsimp only at H
     have A15 := Aside0.mk A150
     clear A150
     replace H := Option.bind_eq_some_iff.mp H
     obtain ⟨t241, A160, H⟩ := H
     try dsimp only at H
     have A16 := Aside0.mk A160
     clear A160
     have H' := Aside0.mk H
     clear H
     have hcz17_0 : w9.cell? ⟨gb236, 0, none⟩ = some (.int .i64 a0_0) := cB BK236 0
     have hcz17_1 : w9.cell? ⟨gb236, 1, none⟩ = some (.slice A0_1 l0_1.length c0_1) := cB BK236 1
     have hfz17_0 := zB BK236 0
     have hfz17_1 := zB BK236 1
     go_wp2_with (first | (go_at_call 40; (with_reducible refine (spec_l06Critical.calls k a0_0 _ _ l0_1 _ _ l1 a2 true _ ?side1 ?side2 ?side3 ?side4 A11.out).mono ?_); (case side1 => exact pC ((Kd.C_below HR0_1.out HB.out))); (case side2 => exact HC0_1.out); (case side3 => exact pC ((Kd.C_below HR1.out HB.out))); (case side4 => exact HC1.out); rintro e w18 ⟨rfl, hb⟩; replace BK236 := sB BK236 hb; replace HB := sH HB hb; (try clear hb); (try clear hi); have hcz19_0 : w18.cell? ⟨gb236, 0, none⟩ = some (.int .i64 a0_0) := cB BK236 0; have hcz19_1 : w18.cell? ⟨gb236, 1, none⟩ = some (.slice A0_1 l0_1.length c0_1) := cB BK236 1; have hfz19_0 := zB BK236 0; have hfz19_1 := zB BK236 1) | (go_at_call 40; (with_reducible refine (spec_l06Critical.calls k a0_0 _ _ l0_1 _ _ l1 a3 true _ ?side1 ?side2 ?side3 ?side4 A13.out).mono ?_); (case side1 => exact pC ((Kd.C_below HR0_1.out HB.out))); (case side2 => exact HC0_1.out); (case side3 => exact pC ((Kd.C_below HR1.out HB.out))); (case side4 => exact HC1.out); rintro e w20 ⟨rfl, hb⟩; replace BK236 := sB BK236 hb; replace HB := sH HB hb; (try clear hb); (try clear hi)) | (go_at_call 41; (with_reducible refine (spec_l01Ones.calls k a2 t240 _ A15.out).mono ?_); rintro e w' ⟨rfl, ⟨nd, rfl⟩⟩) | (go_at_call 41; (with_reducible refine (spec_l01Ones.calls k a3 t241 _ A16.out).mono ?_); rintro e w' ⟨rfl, ⟨nd, rfl⟩⟩))
     go_meet
     case rel => exact ⟨_, ((t240 != (wrap64 (t241 + 1)))), (by first | rfl | (simp; done) | (simp [*]; done)), H', ⟨by first | omega | exact Nat.le_refl _⟩, ⟨pB BK236⟩, ⟨pH HB⟩⟩
    ·replace c14 := Bool.eq_false_iff.mpr c14
     subst c14
     have H1 : (spec_l06Given.j0 k l1 t237 true) = some r := by rw [if_neg (show ¬ (false = true) by decide)] at H; exact H
     clear H
     have H := H1
     clear H1
     have H' := Aside0.mk H
     clear H
     have hcz21_0 : w9.cell? ⟨gb236, 0, none⟩ = some (.int .i64 a0_0) := cB BK236 0
     have hcz21_1 : w9.cell? ⟨gb236, 1, none⟩ = some (.slice A0_1 l0_1.length c0_1) := cB BK236 1
     have hfz21_0 := zB BK236 0
     have hfz21_1 := zB BK236 1
     go_wp2_with (first | (go_at_call 40; (with_reducible refine (spec_l06Critical.calls k a0_0 _ _ l0_1 _ _ l1 a2 true _ ?side1 ?side2 ?side3 ?side4 A11.out).mono ?_); (case side1 => exact pC ((Kd.C_below HR0_1.out HB.out))); (case side2 => exact HC0_1.out); (case side3 => exact pC ((Kd.C_below HR1.out HB.out))); (case side4 => exact HC1.out); rintro e w22 ⟨rfl, hb⟩; replace BK236 := sB BK236 hb; replace HB := sH HB hb; (try clear hb); (try clear hi); have hcz23_0 : w22.cell? ⟨gb236, 0, none⟩ = some (.int .i64 a0_0) := cB BK236 0; have hcz23_1 : w22.cell? ⟨gb236, 1, none⟩ = some (.slice A0_1 l0_1.length c0_1) := cB BK236 1; have hfz23_0 := zB BK236 0; have hfz23_1 := zB BK236 1) | (go_at_call 40; (with_reducible refine (spec_l06Critical.calls k a0_0 _ _ l0_1 _ _ l1 a3 false _ ?side1 ?side2 ?side3 ?side4 A13.out).mono ?_); (case side1 => exact pC ((Kd.C_below HR0_1.out HB.out))); (case side2 => exact HC0_1.out); (case side3 => exact pC ((Kd.C_below HR1.out HB.out))); (case side4 => exact HC1.out); rintro e w24 ⟨rfl, hb⟩; replace BK236 := sB BK236 hb; replace HB := sH HB hb; (try clear hb); (try clear hi)))
     go_meet
     case rel => exact ⟨_, (true), (by first | rfl | (simp; done) | (simp [*]; done)), H', ⟨by first | omega | exact Nat.le_refl _⟩, ⟨pB BK236⟩, ⟨pH HB⟩⟩
   ·replace c12 := Bool.eq_false_iff.mpr c12
    subst c12
    have H1 : (spec_l06Given.j0 k l1 t237 true) = some r := by rw [if_neg (show ¬ (false = true) by decide)] at H; exact H
    clear H
    have H := H1
    clear H1
    have H' := Aside0.mk H
    clear H
    have hcz25_0 : w9.cell? ⟨gb236, 0, none⟩ = some (.int .i64 a0_0) := cB BK236 0
    have hcz25_1 : w9.cell? ⟨gb236, 1, none⟩ = some (.slice A0_1 l0_1.length c0_1) := cB BK236 1
    have hfz25_0 := zB BK236 0
    have hfz25_1 := zB BK236 1
    go_wp2_with (first | (go_at_call 40; (with_reducible refine (spec_l06Critical.calls k a0_0 _ _ l0_1 _ _ l1 a2 false _ ?side1 ?side2 ?side3 ?side4 A11.out).mono ?_); (case side1 => exact pC ((Kd.C_below HR0_1.out HB.out))); (case side2 => exact HC0_1.out); (case side3 => exact pC ((Kd.C_below HR1.out HB.out))); (case side4 => exact HC1.out); rintro e w26 ⟨rfl, hb⟩; replace BK236 := sB BK236 hb; replace HB := sH HB hb; (try clear hb); (try clear hi)))
    go_meet
    case rel => exact ⟨_, (true), (by first | rfl | (simp; done) | (simp [*]; done)), H', ⟨by first | omega | exact Nat.le_refl _⟩, ⟨pB BK236⟩, ⟨pH HB⟩⟩
  ·rw [if_neg c10] at H
   have c10b0 : (t237 == 0) = false := beq_eq_false_iff_ne.mpr c10
   have c10b1 : (t237 != 0) = true := bne_iff_ne.mpr c10
   (first | rw [c10b0] | (simp only [i64_w, i32_w]; rw [c10b0]) | skip)
   have H' := Aside0.mk H
   clear H
   go_wp2
   go_meet
   case rel => exact ⟨_, (false), (by first | rfl | (simp; done) | (simp [*]; done)), H', ⟨by first | omega | exact Nat.le_refl _⟩, ⟨pB BK236⟩, ⟨pH HB⟩⟩
 case rest =>
  clear HC6
  try clear c1
  try clear p2
  try clear c3
  try clear p6
  try clear c10
  try clear c10b0
  try clear c10b1
  try clear c12
  try clear c14
  try clear c16
  try clear hcz17_0
  try clear hcz17_1
  try clear hcz19_0
  try clear hcz19_1
  try clear hcz21_0
  try clear hcz21_1
  try clear hcz23_0
  try clear hcz23_1
  try clear hcz25_0
  try clear hcz25_1
  try clear hcz8_0
  try clear hcz8_1
  try clear hfz17_0
  try clear hfz17_1
  try clear hfz19_0
  try clear hfz19_1
  try clear hfz21_0
  try clear hfz21_1
  try clear hfz23_0
  try clear hfz23_1
  try clear hfz25_0
  try clear hfz25_1
  try clear hfz8_0
  try clear hfz8_1
  obtain ⟨kq, x36_5, rfl, HA, HJ5, BK236, HB⟩ := hcut
  cases kq with
  | zero => exact absurd HA.out (by simp [spec_l06Given.j0])
  | succ kj5 =>
   have H := HA.out
   clear HA
   simp only [spec_l06Given.j0] at H
   by_cases c27 : x36_5 = true
   ·subst c27
    have H1 : (if 2 = 0 then ((spec_l02Acyclic.f kj5 l1).bind fun t242 => (if t242 = true then (some 2) else (some 5))) else (some 2)) = some r := by rw [if_pos rfl] at H; exact H
    clear H
    have H := H1
    clear H1
    by_cases c28 : 2 = 0
    ·rw [if_pos c28] at H
     have c28b0 : (2 == 0) = true := beq_iff_eq.mpr c28
     have c28b1 : (2 != 0) = false := bne_eq_false_iff_eq.mpr c28
     clear c28
     replace H := Option.bind_eq_some_iff.mp H
     obtain ⟨t242, A290, H⟩ := H
     try dsimp only at H
     have A29 := Aside0.mk A290
     clear A290
     by_cases c30 : t242 = true
     ·subst c30
      have H1 : (some 2) = some r := by rw [if_pos rfl] at H; exact H
      clear H
      have H := H1
      clear H1
      obtain rfl := Option.some.inj H
      go_wp2_with (first | (go_at_call 42; (with_reducible refine (spec_l02Acyclic.calls kj5 _ _ l1 true _ ?side1 ?side2 A29.out).mono ?_); (case side1 => exact pC ((Kd.C_below HR1.out HB.out))); (case side2 => exact HC1.out); rintro e w31 ⟨rfl, hb⟩; replace BK236 := sB BK236 hb; replace HB := sH HB hb; (try clear hb); (try clear hi)))
      go_ret
      exact ⟨by first | rfl | (simp [errW_none, errW_some] <;> rfl) | (simp [*, errW_none, errW_some] <;> rfl) | (exfalso; simp_all), pH HB⟩
     ·replace c30 := Bool.eq_false_iff.mpr c30
      subst c30
      have H1 : (some 5) = some r := by rw [if_neg (show ¬ (false = true) by decide)] at H; exact H
      clear H
      have H := H1
      clear H1
      obtain rfl := Option.some.inj H
      go_wp2_with (first | (go_at_call 42; (with_reducible refine (spec_l02Acyclic.calls kj5 _ _ l1 false _ ?side1 ?side2 A29.out).mono ?_); (case side1 => exact pC ((Kd.C_below HR1.out HB.out))); (case side2 => exact HC1.out); rintro e w32 ⟨rfl, hb⟩; replace BK236 := sB BK236 hb; replace HB := sH HB hb; (try clear hb); (try clear hi)))
      go_ret
      exact ⟨by first | rfl | (simp [errW_none, errW_some] <;> rfl) | (simp [*, errW_none, errW_some] <;> rfl) | (exfalso; simp_all), pH HB⟩
    ·rw [if_neg c28] at H
     have c28b0 : (2 == 0) = false := beq_eq_false_iff_ne.mpr c28
     have c28b1 : (2 != 0) = true := bne_iff_ne.mpr c28
     obtain rfl := Option.some.inj H
     go_wp2
     go_ret
     exact ⟨by first | rfl | (simp [errW_none, errW_some] <;> rfl) | (simp [*, errW_none, errW_some] <;> rfl) | (exfalso; simp_all), pH HB⟩
   ·replace c27 := Bool.eq_false_iff.mpr c27
    subst c27
    have H1 : (if t237 = 0 then ((spec_l02Acyclic.f kj5 l1).bind fun t243 => (if t243 = true then (some t237) else (some 5))) else (some t237)) = some r := by rw [if_neg (show ¬ (false = true) by decide)] at H; exact H
    clear H
    have H := H1
    clear H1
    by_cases c33 : t237 = 0
    ·rw [if_pos c33] at H
     have c33b0 : (t237 == 0) = true := beq_iff_eq.mpr c33
     have c33b1 : (t237 != 0) = false := bne_eq_false_iff_eq.mpr c33
     clear c33
     replace H := Option.bind_eq_some_iff.mp H
     obtain ⟨t243, A340, H⟩ := H
     try dsimp only at H
     have A34 := Aside0.mk A340
     clear A340
     by_cases c35 : t243 = true
     ·subst c35
      have H1 : (some t237) = some r := by rw [if_pos rfl] at H; exact H
      clear H
      have H := H1
      clear H1
      obtain rfl := Option.some.inj H
      go_wp2_with (first | (go_at_call 42; (with_reducible refine (spec_l02Acyclic.calls kj5 _ _ l1 true _ ?side1 ?side2 A34.out).mono ?_); (case side1 => exact pC ((Kd.C_below HR1.out HB.out))); (case side2 => exact HC1.out); rintro e w36 ⟨rfl, hb⟩; replace BK236 := sB BK236 hb; replace HB := sH HB hb; (try clear hb); (try clear hi)))
      go_ret
      exact ⟨by first | rfl | (simp [errW_none, errW_some] <;> rfl) | (simp [*, errW_none, errW_some] <;> rfl) | (exfalso; simp_all), pH HB⟩
     ·replace c35 := Bool.eq_false_iff.mpr c35
      subst c35
      have H1 : (some 5) = some r := by rw [if_neg (show ¬ (false = true) by decide)] at H; exact H
      clear H
      have H := H1
      clear H1
      obtain rfl := Option.some.inj H
      go_wp2_with (first | (go_at_call 42; (with_reducible refine (spec_l02Acyclic.calls kj5 _ _ l1 false _ ?side1 ?side2 A34.out).mono ?_); (case side1 => exact pC ((Kd.C_below HR1.out HB.out))); (case side2 => exact HC1.out); rintro e w37 ⟨rfl, hb⟩; replace BK236 := sB BK236 hb; replace HB := sH HB hb; (try clear hb); (try clear hi)))
      go_ret
      exact ⟨by first | rfl | (simp [errW_none, errW_some] <;> rfl) | (simp [*, errW_none, errW_some] <;> rfl) | (exfalso; simp_all), pH HB⟩
    ·rw [if_neg c33] at H
     have c33b0 : (t237 == 0) = false := beq_eq_false_iff_ne.mpr c33
     have c33b1 : (t237 != 0) = true := bne_iff_ne.mpr c33
     obtain rfl := Option.some.inj H
     go_wp2
     go_ret
     exact ⟨by first | rfl | (simp [errW_none, errW_some] <;> rfl) | (simp [*, errW_none, errW_some] <;> rfl) | (exfalso; simp_all), pH HB⟩
end Go.Proofs.YtdnbmobdiidfmaaGreat.QS
namespace Go.Proofs.YtdnbmobdiidfmaaGreat.Pu
open Go.RowKit Kp Ext QS Im YtdnbmobdiidfmaaGreatW.PrintWords YtdnbmobdiidfmaaGreatW.PrintLast YtdnbmobdiidfmaaGreatW.PrintMore
theorem inAnd_all : ((List.range 64).all fun f => (List.range 64).all fun g => (Go.bits .andNot .i64 (f : Int) (g : Int) == 0) == decide (Go.bits .and .i64 (f : Int) (g : Int) = (f : Int))) = true := by decide +kernel
theorem inAnd {f g : Int} (h0 : 0 ≤ f) (h1 : f ≤ 63) (g0 : 0 ≤ g) (g1 : g ≤ 63) : (Go.bits .andNot .i64 f g == 0) = decide (Go.bits .and .i64 f g = f) := by
  obtain ⟨m, rfl⟩ := Int.eq_ofNat_of_zero_le h0
  obtain ⟨k, rfl⟩ := Int.eq_ofNat_of_zero_le g0
  exact eq_of_beq (List.all_eq_true.1 (List.all_eq_true.1 inAnd_all m (List.mem_range.2 (by omega))) k (List.mem_range.2 (by omega)))
theorem ev_pair {n : Int} {xs : List Int} (hi : isC n xs = true) (p : Pr) : Ev (fun k => spec_l02Pair.f k n xs p.f0 p.f1) (pairB xs p) := by
  have hs := isC_small hi
  have r := isC_63 hi
  have hm : xs.length ≤ maxLen := by unfold maxLen; omega
  unfold spec_l02Pair.f pairB
  refine Ev.bind (ev_has hm n p.f0) ?_
  by_cases h0 : p.f0 ∈ xs
  · simp only [h0, decide_true, if_true, Bool.true_and]
    refine Ev.bind (ev_has hm n p.f1) ?_
    by_cases h1 : p.f1 ∈ xs
    · have a0 := r _ h0
      have a1 := r _ h1
      simp only [h1, decide_true, if_true, Bool.true_and]
      rw [inAnd (by omega) (by omega) (by omega) (by omega)]
      by_cases h2 : Go.bits .and .i64 p.f0 p.f1 = p.f0
      · simp only [h2, if_true, decide_true, Bool.true_and]
        refine Ev.bind (ev_ones (by omega) (by omega)) ?_
        refine Ev.bind (ev_ones (by omega) (by omega)) ?_
        have hv := verts_len p.f0
        rw [w64 (x := onesZ p.f0 + 1) (by unfold onesZ; omega) (by unfold onesZ; omega)]
        exact Ev.now _
      · simp only [h2, if_false, decide_false, Bool.false_and]
        exact Ev.now _
    · simp only [h1, decide_false, Bool.false_eq_true, if_false, Bool.false_and]
      exact Ev.now _
  · simp only [h0, decide_false, Bool.false_eq_true, if_false, Bool.false_and]
    exact Ev.now _
theorem less_f (p q : Pr) : spec_l02Less.f p.f0 p.f1 q.f0 q.f1 = some (decide (cmpP p q < 0)) := by
  unfold spec_l02Less.f cmpP cmpI
  by_cases h1 : p.f0 < q.f0
  · rw [if_pos h1]; simp [h1]
  · rw [if_neg h1]
    by_cases h2 : p.f0 = q.f0
    · rw [if_pos h2]
      by_cases h3 : p.f1 < q.f1
      · simp [h2, h3]
      · by_cases h4 : p.f1 > q.f1
        · simp [h2, h3, h4]
        · simp [h2, h3, h4]
    · rw [if_neg h2]
      have : p.f0 > q.f0 := by omega
      simp [h1, this]
theorem is2_l1 (n : Int) (xs : List Int) (l : List Pr) (hl : l.length ≤ 1048576) {i : Nat} (hi : i < l.length) (R : Bool) (hR : Ev (fun k => spec_l02Is.l0 k l ((i + 1 : Nat) : Int) n xs) R) :
    ∀ d (j : Nat), i - j = d → j ≤ i → Ev (fun k => spec_l02Is.l1 k l i j n xs) (!(((l.take i).drop j).any fun q => hasF l[i].f0 q || hasF l[i].f1 q) && R) := by
  intro d
  induction d with
  | zero =>
    intro j hd hj
    rw [List.drop_eq_nil_of_le (by rw [List.length_take]; omega)]
    refine Ev.step (f := fun k => spec_l02Is.l0 k l ((i + 1 : Nat) : Int) n xs) (fun k => ?_) (by simpa using hR)
    simp only [spec_l02Is.l1]; rw [if_neg (by omega), succ64 (by omega)]
  | succ d ih =>
    intro j hd hj
    have hj' : j < l.length := by omega
    have hjt : j < (l.take i).length := by rw [List.length_take]; omega
    rw [List.drop_eq_getElem_cons hjt, List.any_cons, List.getElem_take]
    cases hq : (hasF l[i].f0 l[j] || hasF l[i].f1 l[j]) with
    | true =>
      refine Ev.step (f := fun k => some false) (fun k => ?_) (by simpa using Ev.now false)
      simp only [spec_l02Is.l1]
      rw [if_pos (by omega), if_pos (by omega), if_pos (by omega), if_pos (by omega), if_pos (by omega), rdP_at hi, rdP_at hj']
      simp only [hasF, Bool.or_eq_true, beq_iff_eq] at hq
      by_cases h1 : l[i].f0 = l[j].f0
      · rw [if_pos h1]
      · rw [if_neg h1]
        by_cases h2 : l[i].f0 = l[j].f1
        · rw [if_pos h2]
        · rw [if_neg h2]
          by_cases h3 : l[i].f1 = l[j].f0
          · rw [if_pos h3]
          · rw [if_neg h3, if_pos (by simpa [h1, h2, h3] using hq)]
    | false =>
      refine Ev.step (f := fun k => spec_l02Is.l1 k l i ((j + 1 : Nat) : Int) n xs) (fun k => ?_) (by have := ih (j + 1) (by omega) (by omega); simpa using this)
      simp only [spec_l02Is.l1]
      rw [if_pos (by omega), if_pos (by omega), if_pos (by omega), if_pos (by omega), if_pos (by omega), rdP_at hi, rdP_at hj', succ64 (by omega)]
      simp only [hasF, Bool.or_eq_false_iff, beq_eq_false_iff_ne] at hq
      rw [if_neg hq.1.1, if_neg hq.1.2, if_neg hq.2.1, if_neg hq.2.2]
theorem any_or {α : Type} (p q : α → Bool) (l : List α) : (l.any fun x => p x || q x) = (l.any p || l.any q) := by
  induction l with
  | nil => rfl
  | cons a l ih => simp only [List.any_cons, ih]; cases p a <;> cases q a <;> cases l.any p <;> rfl
theorem is2_loop {n : Int} {xs : List Int} (hi : isC n xs = true) {l : List Pr} (hl : l.length ≤ 1048576) : ∀ d (i : Nat), l.length - i = d → i ≤ l.length → Ev (fun k => spec_l02Is.l0 k l i n xs) ((List.range' i d).all (okPairAt xs l)) := by
  intro d
  induction d with
  | zero =>
    intro i hd hi'
    refine Ev.step (f := fun k => some true) (fun k => ?_) (Ev.now _)
    simp only [spec_l02Is.l0]; rw [if_neg (by omega)]
  | succ d ih =>
    intro i hd hi'
    have hlt : i < l.length := by omega
    have hR := ih (i + 1) (by omega) (by omega)
    have hgd : l.getD i z45 = l[i] := by rw [List.getD_eq_getElem?_getD, List.getElem?_eq_getElem hlt]; rfl
    rw [List.range'_succ, List.all_cons]
    have hj0 := is2_l1 n xs l hl hlt _ hR _ 0 rfl (Nat.zero_le _)
    rw [List.drop_zero, any_or] at hj0
    have hno : Ev (fun k => spec_l02Is.j1 k l i true n xs) false := Ev.step (f := fun k => some false) (fun k => by simp only [spec_l02Is.j1, if_true]) (Ev.now _)
    have hyes : Ev (fun k => spec_l02Is.j1 k l i false n xs) (!((l.take i).any (hasF l[i].f0) || (l.take i).any (hasF l[i].f1)) && (List.range' (i + 1) d).all (okPairAt xs l)) := Ev.step (f := fun k => spec_l02Is.l1 k l i ((0 : Nat) : Int) n xs) (fun k => by simp only [spec_l02Is.j1, Bool.false_eq_true, if_false]; rfl) hj0
    have hrd : rd_T45 l (i : Int) = l[i] := rdP_at hlt
    refine Ev.step (f := fun k => (spec_l02Pair.f k n xs l[i].f0 l[i].f1).bind fun t => (if t = true then (if (i : Int) > 0 then (if 0 ≤ (wrap64 ((i : Int) - 1)) then (if (wrap64 ((i : Int) - 1)) < (l.length : Int) then ((spec_l02Less.f ((rd_T45 l (wrap64 ((i : Int) - 1))).f0) ((rd_T45 l (wrap64 ((i : Int) - 1))).f1) l[i].f0 l[i].f1).bind fun t577 => (spec_l02Is.j1 k l i (!t577) n xs)) else (none)) else (none)) else (spec_l02Is.j1 k l i false n xs)) else (spec_l02Is.j1 k l i true n xs))) (fun k => ?_) (Ev.bind (ev_pair hi l[i]) ?_)
    · simp only [spec_l02Is.l0]
      rw [if_pos (by omega), if_pos (by omega), hrd]
    · clear hj0 hR ih
      generalize (List.range' (i + 1) d).all (okPairAt xs l) = G at hyes ⊢
      unfold okPairAt
      rw [hgd]
      cases hp : pairB xs l[i] with
      | false => simp only [Bool.false_eq_true, if_false, Bool.false_and]; exact hno
      | true =>
        simp only [if_true, Bool.true_and]
        rcases i with _ | m
        · simp only [show ¬ (((0 : Nat) : Int) > 0) by omega, if_false]
          simpa using hyes
        · have hm : m < l.length := by omega
          have hw : wrap64 (((m + 1 : Nat) : Int) - 1) = (m : Int) := by rw [w64 (by omega) (by omega)]; omega
          have hgm : l.getD m z45 = l[m] := by rw [List.getD_eq_getElem?_getD, List.getElem?_eq_getElem hm]; rfl
          simp only [show (((m + 1 : Nat) : Int) > 0) by omega, if_true, hw, show (0 : Int) ≤ (m : Int) by omega, show (m : Int) < (l.length : Int) by omega, rdP_at hm, less_f, Option.bind_some, Nat.add_sub_cancel, hgm]
          by_cases hc : cmpP l[m] l[m + 1] < 0
          · simp only [hc, decide_true, Bool.not_true]
            simpa [Bool.and_assoc] using hyes
          · simp only [hc, decide_false, Bool.not_false]
            simpa using hno
theorem ev_is2 {n : Int} {xs : List Int} (hi : isC n xs = true) {l : List Pr} (hl : l.length ≤ 1048576) : Ev (fun k => spec_l02Is.f k n xs l) (pairingB xs l) := by
  unfold spec_l02Is.f pairingB
  rw [List.range_eq_range']
  exact is2_loop hi hl _ 0 rfl (Nat.zero_le _)
theorem cmpP_mem {n : Int} {xs : List Int} {l : List Pr} (h : pairingB xs l = true) : ∀ q ∈ l, q.f0 ∈ xs ∧ q.f1 ∈ xs := by
  intro q hq
  obtain ⟨i, hi, rfl⟩ := List.mem_iff_getElem.1 hq
  have h1 := List.all_eq_true.1 h i (List.mem_range.2 hi)
  unfold okPairAt at h1
  rw [show l.getD i z45 = l[i] by rw [List.getD_eq_getElem?_getD, List.getElem?_eq_getElem hi]; rfl] at h1
  have h2 := (Bool.and_eq_true _ _ ▸ h1).1
  unfold pairB at h2
  simp only [Bool.and_eq_true, decide_eq_true_eq] at h2
  exact ⟨h2.1, h2.2.1⟩
theorem facesP_of {n : Int} {xs : List Int} (hi : isC n xs = true) {l : List Pr} (h : pairingB xs l = true) : FacesP l := fun q hq => by
  have h1 := cmpP_mem (n := n) h q hq
  have r := isC_63 hi
  exact ⟨r _ h1.1, r _ h1.2⟩
def pcode (n : Int) (xs : List Int) (l : List Pr) : Int := if isC n xs then (if pairingB xs l then 0 else 2) else 1
theorem ev_pcode (n : Int) {xs : List Int} (hx : xs.length ≤ 1048576) {l : List Pr} (hl : l.length ≤ 1048576) : Ev (fun k => spec_l02Code.f k n xs l []) (pcode n xs l) := by
  unfold spec_l02Code.f pcode
  refine Ev.bind (ev_is n (by unfold maxLen; omega)) ?_
  cases hi : isC n xs with
  | false => exact Ev.now _
  | true =>
    simp only [if_true]
    refine Ev.bind (ev_is2 hi hl) ?_
    cases pairingB xs l with
    | false => exact Ev.now _
    | true =>
      simp only [if_true]
      exact Ev.step (f := fun _ => some 0) (fun k => by simp [spec_l02Code.l0]) (Ev.now _)
def critP (l : List Pr) (f : Int) : Bool := !l.any fun p => p.f0 == f || p.f1 == f
def critL (xs : List Int) (l : List Pr) : List Int := xs.filter (critP l)
theorem crit_l1 (n : Int) (xs : List Int) (l : List Pr) (hl : l.length ≤ 1048576) (hx : xs.length ≤ 1048576) {i : Nat} (hi : i < xs.length) (acc : List Int) (ha : acc.length ≤ i) (R : List Int)
    (h1 : Ev (fun k => spec_l02Critical.l0 k l (acc ++ [xs[i]]) ((i + 1 : Nat) : Int) n xs) R ∧ critP l xs[i] = true ∨ Ev (fun k => spec_l02Critical.l0 k l acc ((i + 1 : Nat) : Int) n xs) R ∧ critP l xs[i] = false) :
    ∀ d (j : Nat) (b : Bool), l.length - j = d → j ≤ l.length → (b && critP (l.drop j) xs[i]) = critP l xs[i] → Ev (fun k => spec_l02Critical.l1 k l acc i b j n xs) R := by
  intro d
  induction d with
  | zero =>
    intro j b hd hj hb
    rw [List.drop_eq_nil_of_le (by omega)] at hb
    simp only [critP, List.any_nil, Bool.not_false, Bool.and_true] at hb
    rcases h1 with ⟨h1, h2⟩ | ⟨h1, h2⟩
    · have hbt : b = true := by rw [hb]; exact h2
      subst hbt
      refine Ev.step (fun k => ?_) h1
      simp only [spec_l02Critical.l1]
      rw [if_neg (by omega), if_pos trivial, if_pos (by omega), if_pos (by omega), if_pos (by omega), rd_at hi, succ64 (by omega)]
    · have hbf : b = false := by rw [hb]; exact h2
      subst hbf
      refine Ev.step (fun k => ?_) h1
      simp only [spec_l02Critical.l1]
      rw [if_neg (by omega), if_neg (by simp), succ64 (by omega)]
  | succ d ih =>
    intro j b hd hj hb
    have hj' : j < l.length := by omega
    rw [List.drop_eq_getElem_cons hj'] at hb
    simp only [critP, List.any_cons, Bool.not_or] at hb
    cases b with
    | false =>
      refine Ev.step (fun k => ?_) (ih (j + 1) false (by omega) (by omega) (by simpa [critP] using hb))
      simp only [spec_l02Critical.l1]
      rw [if_pos (by omega), if_neg (by simp), succ64 (by omega)]
    | true =>
      by_cases h : l[j].f0 = xs[i]
      · refine Ev.step (fun k => ?_) (ih (j + 1) false (by omega) (by omega) (by simpa [critP, h] using hb))
        simp only [spec_l02Critical.l1]
        rw [if_pos (by omega), if_pos trivial, if_pos (by omega), if_pos (by omega), if_pos (by omega), rdP_at hj', rd_at hi, if_pos h, succ64 (by omega)]
      · refine Ev.step (fun k => ?_) (ih (j + 1) (l[j].f1 != xs[i]) (by omega) (by omega) (by simpa [critP, beq_eq_false_iff_ne.2 h, bne] using hb))
        simp only [spec_l02Critical.l1]
        rw [if_pos (by omega), if_pos trivial, if_pos (by omega), if_pos (by omega), if_pos (by omega), rdP_at hj', rd_at hi, if_neg h, succ64 (by omega)]
theorem crit_l0 (n : Int) (xs : List Int) (l : List Pr) (hl : l.length ≤ 1048576) (hx : xs.length ≤ 1048576) : ∀ d (i : Nat) (acc : List Int), xs.length - i = d → i ≤ xs.length → acc.length ≤ i → Ev (fun k => spec_l02Critical.l0 k l acc i n xs) (acc ++ (xs.drop i).filter (critP l)) := by
  intro d
  induction d with
  | zero =>
    intro i acc hd hi ha
    rw [List.drop_eq_nil_of_le (by omega)]
    refine Ev.step (f := fun _ => some acc) (fun k => ?_) (by simpa using Ev.now acc)
    simp only [spec_l02Critical.l0]; rw [if_neg (by omega)]
  | succ d ih =>
    intro i acc hd hi ha
    have hi' : i < xs.length := by omega
    rw [List.drop_eq_getElem_cons hi', List.filter_cons]
    refine Ev.step (f := fun k => spec_l02Critical.l1 k l acc i true ((0 : Nat) : Int) n xs) (fun k => ?_) (crit_l1 n xs l hl hx hi' acc ha _ ?_ _ 0 true rfl (Nat.zero_le _) (by simp))
    · simp only [spec_l02Critical.l0]; rw [if_pos (by omega)]; rfl
    · cases hc : critP l xs[i] with
      | true => exact .inl ⟨by have := ih (i + 1) (acc ++ [xs[i]]) (by omega) (by omega) (by simp; omega); simpa using this, rfl⟩
      | false => exact .inr ⟨by have := ih (i + 1) acc (by omega) (by omega) (by omega); simpa using this, rfl⟩
theorem ev_crit (n : Int) {xs : List Int} (hx : xs.length ≤ 1048576) {l : List Pr} (hl : l.length ≤ 1048576) : Ev (fun k => spec_l02Critical.f k n xs l) (critL xs l) := by
  unfold spec_l02Critical.f critL
  have := crit_l0 n xs l hl hx _ 0 [] rfl (Nat.zero_le _) (by simp)
  simpa using this
theorem c6_loop (a : Int) (c : List Int) (hc : c.length ≤ 1048576) : ∀ d (i : Nat), c.length - i = d → i ≤ c.length → Ev (fun k => spec_l06Critical.l0 k a c i) (decide (a ∈ c.drop i)) := by
  intro d
  induction d with
  | zero =>
    intro i hd hi
    rw [List.drop_eq_nil_of_le (by omega)]
    refine Ev.step (f := fun _ => some false) (fun k => ?_) (by simpa using Ev.now false)
    simp only [spec_l06Critical.l0]; rw [if_neg (by omega)]
  | succ d ih =>
    intro i hd hi
    have hi' : i < c.length := by omega
    rw [List.drop_eq_getElem_cons hi']
    by_cases h : c[i] = a
    · refine Ev.step (f := fun _ => some true) (fun k => ?_) (by rw [h]; simpa using Ev.now true)
      simp only [spec_l06Critical.l0]; rw [if_pos (by omega), if_pos (by omega), rd_at hi', if_pos h]
    · refine Ev.step (f := fun k => spec_l06Critical.l0 k a c ((i + 1 : Nat) : Int)) (fun k => ?_) (by rw [show decide (a ∈ c[i] :: c.drop (i + 1)) = decide (a ∈ c.drop (i + 1)) from decide_eq_decide.2 ⟨fun h' => (List.mem_cons.1 h').resolve_left (Ne.symm h), fun h' => List.mem_cons.2 (.inr h')⟩]; exact ih (i + 1) (by omega) (by omega))
      simp only [spec_l06Critical.l0]; rw [if_pos (by omega), if_pos (by omega), rd_at hi', if_neg h, succ64 (by omega)]
theorem ev_crit6 (n : Int) {xs : List Int} (hx : xs.length ≤ 1048576) {l : List Pr} (hl : l.length ≤ 1048576) (a : Int) : Ev (fun k => spec_l06Critical.f k n xs l a) (decide (a ∈ critL xs l)) := by
  unfold spec_l06Critical.f
  refine Ev.bind (ev_crit n hx hl) ?_
  exact c6_loop a (critL xs l) (by have := List.length_filter_le (critP l) xs; unfold critL; omega) _ 0 rfl (Nat.zero_le _)
def besideB (xs : List Int) (l : List Pr) (b a : Int) : Bool := decide (b ∈ critL xs l) && (decide (a ∈ critL xs l) && (onesZ b == onesZ a + 1))
def gcode (n : Int) (xs : List Int) (l : List Pr) (b a : Int) : Int := if pcode n xs l = 0 then (if besideB xs l b a then (if acycB l then 0 else 5) else 2) else pcode n xs l
theorem pcode_zero {n : Int} {xs : List Int} {l : List Pr} (h : pcode n xs l = 0) : isC n xs = true ∧ pairingB xs l = true := by
  unfold pcode at h
  cases h1 : isC n xs <;> cases h2 : pairingB xs l <;> simp [h1, h2] at h ⊢
theorem ev_given (n : Int) {xs : List Int} (hx : xs.length ≤ 1048576) {l : List Pr} (hl : l.length ≤ 1048576) (b a : Int) : Ev (fun k => spec_l06Given.f k n xs l b a) (gcode n xs l b a) := by
  unfold spec_l06Given.f gcode
  refine Ev.bind (ev_pcode n hx hl) ?_
  by_cases h0 : pcode n xs l = 0
  · obtain ⟨hi, hp⟩ := pcode_zero h0
    have hF := facesP_of hi hp
    have r := isC_63 hi
    have hsub : ∀ x, x ∈ critL xs l → 1 ≤ x ∧ x ≤ 63 := fun x hx => r x (List.mem_filter.1 hx).1
    simp only [h0, if_true]
    have hno : Ev (fun k => spec_l06Given.j0 k l 0 true) 2 := Ev.step (f := fun _ => some 2) (fun k => by simp [spec_l06Given.j0]) (Ev.now _)
    have hyes : Ev (fun k => spec_l06Given.j0 k l 0 false) (if acycB l = true then 0 else 5) := by
      refine Ev.step (f := fun k => (spec_l02Acyclic.f k l).bind fun t => if t = true then some 0 else some 5) (fun k => by simp [spec_l06Given.j0]) (Ev.bind (ev_acyclic hl hF) ?_)
      cases acycB l <;> exact Ev.now _
    refine Ev.bind (ev_crit6 n hx hl b) ?_
    unfold besideB
    by_cases h1 : b ∈ critL xs l
    · simp only [h1, decide_true, if_true, Bool.true_and]
      refine Ev.bind (ev_crit6 n hx hl a) ?_
      by_cases h2 : a ∈ critL xs l
      · have b1 := hsub b h1
        have a1 := hsub a h2
        have o1 := ones_le a
        simp only [h2, decide_true, if_true, Bool.true_and]
        refine Ev.bind (ev_ones (by omega) (by omega)) ?_
        refine Ev.bind (ev_ones (by omega) (by omega)) ?_
        rw [w64 (x := onesZ a + 1) (by omega) (by omega)]
        by_cases h3 : onesZ b = onesZ a + 1
        · simp only [h3, bne_self_eq_false, beq_self_eq_true, if_true]; exact hyes
        · simp only [bne, beq_eq_false_iff_ne.2 h3, Bool.not_false, Bool.false_eq_true, if_false]; exact hno
      · simp only [h2, decide_false, Bool.false_eq_true, if_false, Bool.false_and]
        exact hno
    · simp only [h1, decide_false, Bool.false_eq_true, if_false, Bool.false_and]
      exact hno
  · simp only [h0, if_false]
    refine Ev.step (f := fun _ => some (pcode n xs l)) (fun k => ?_) (Ev.now _)
    simp [spec_l06Given.j0, h0]
end Go.Proofs.YtdnbmobdiidfmaaGreat.Pu
namespace Go.Proofs.YtdnbmobdiidfmaaGreat.Im
open Go.RowKit Go.Shelf Kp Ext Cw YtdnbmobdiidfmaaGreatW.PrintWords YtdnbmobdiidfmaaGreatW.PrintLast YtdnbmobdiidfmaaGreatW.PrintMore
def placeP (l : List Pr) (p : Pr) : Nat := (l.takeWhile fun q => decide (cmpP q p < 0)).length
def withP (l : List Pr) (p : Pr) : List Pr := l.take (placeP l p) ++ p :: l.drop (placeP l p)
theorem placeP_le (l : List Pr) (p : Pr) : placeP l p ≤ l.length := by
  unfold placeP
  exact (List.takeWhile_sublist _).length_le
theorem withP_len (l : List Pr) (p : Pr) : (withP l p).length = l.length + 1 := by
  have := placeP_le l p
  unfold withP
  simp; omega
theorem lessS_f (p q : Pr) : QS.spec_l02Less.f p.f0 p.f1 q.f0 q.f1 = some (decide (cmpP p q < 0)) := by
  unfold QS.spec_l02Less.f cmpP cmpI
  by_cases h1 : p.f0 < q.f0
  · rw [if_pos h1]; simp [h1]
  · rw [if_neg h1]
    by_cases h2 : p.f0 = q.f0
    · rw [if_pos h2]
      by_cases h3 : p.f1 < q.f1
      · simp [h2, h3]
      · by_cases h4 : p.f1 > q.f1
        · simp [h2, h3, h4]
        · simp [h2, h3, h4]
    · rw [if_neg h2]
      by_cases h3 : p.f0 > q.f0
      · simp [h1, h2, h3]
      · omega
def backP (l : List Pr) (p : Pr) : Nat → Nat
  | 0 => 0
  | a + 1 => if cmpP p (l.getD a z45) < 0 then backP l p a else a + 1
def putP (l : List Pr) (p : Pr) : List Pr := l.take (backP l p l.length) ++ p :: l.drop (backP l p l.length)
section
variable {ops : Array Oper} {o : Oper} {a : Act} {Q : Exit → Act → World → Prop} {K : Act → World → Prop}
theorem apPsR {w0 W : World} (base : Nat) (s x : Operand) (v : Value) (xs ys : List Pr) (A : Option Addr) (m c : Nat)
    (hs : a.eval s = v) (hx : a.eval x = .slice A m c) (HO : PO W base v xs) (HR : Kd.C k45 W A m ys) (HB : Below base w0 W) (hbase : base ≤ W.heap.size) (hl : xs.length + m ≤ 8796093022208)
    (h : ∀ v1 w1, PO w1 base v1 (xs ++ ys) → Below base w0 w1 → W.grownBy w1 v.ownBlock → (v1.ownBlock = v.ownBlock ∨ ∃ b, v1.ownBlock = some b ∧ W.heap.size ≤ b) → K (a.put o.dst v1) w1)
    (hw : Region.wanted o (yielded ops a.tmps) = true := by rfl) (ho : o.op = .call { callee := .builtin .append, args := #[s, x], argTypes := #[28, 28] } := by rfl) :
    if Region.wanted o (yielded ops a.tmps) = true then Oper.wp Tryz.prog o a W K Q else K (a.put o.dst undef) W :=
  Kd.R_append_rows_step k45 base hw s x 28 45 (.agg #[.int .i64 0, .int .i64 0]) 16 ho Tryz.underlying28 infoP rfl (by decide) (by decide) v xs ys A m c (fun _ => True) (fun _ => False) hs hx HO HR
    (fun x cs h => by rw [k45_open h]; exact k45_mkM _ _ _ _) (fun _ h => h.elim) (fun _ _ => trivial) HB hbase (by omega) h
end
theorem PO.one (w : World) (base : Nat) (p : Pr) (hb : base ≤ w.heap.size) : PO (w.alloc (.cells #[.int .i64 p.f0, .int .i64 p.f1] 45)) base (.slice (some ⟨w.heap.size, 0, none⟩) 1 1) [p] :=
  PO.mk (xs := [p]) (cap := 1) (cur := [.int .i64 p.f0, .int .i64 p.f1]) hb (heap_alloc_new w _) (Nat.le_refl _) (by simp [maxLen]) rfl rfl
theorem prAt_grown1 {w w1 : World} {b g : Nat} {x y : Int} {v : Value} (h : PrAt w g x y) (hv : v.ownBlock = some b) (hne : g ≠ b) (hg : w.grownBy w1 v.ownBlock) : PrAt w1 g x y := (hg.block g h.lt (fun e => hne (by rw [hv] at e; injection e))).trans h
theorem cxAt_grown1 {w w1 : World} {b g : Nat} {n : Int} {A : Option Addr} {len c : Nat} {v : Value} (h : CxAt w g n A len c) (hl : g < w.heap.size) (hv : v.ownBlock = some b) (hne : g ≠ b) (hg : w.grownBy w1 v.ownBlock) : CxAt w1 g n A len c := (hg.block g hl (fun e => hne (by rw [hv] at e; injection e))).trans h
def With2Post (w : World) (r : List Pr) (b : Bool) (e : Ending) (w' : World) : Prop := ∃ v : Value, e = .returned (.tuple #[v, .bool b]) ∧ PO w' w.heap.size v r ∧ Below w.heap.size w w'
set_option maxRecDepth 100000 in
set_option maxHeartbeats 1000000 in
theorem with2_c (k : Nat) (n : Int) (A : Option Addr) (c : Nat) (xs : List Int) (A1 : Option Addr) (c1 : Nat) (l : List Pr) (p : Pr) (b : Bool) (w : World) (hr : RC w A xs.length xs) (hc : xs.length ≤ c) (hr1 : Kd.C k45 w A1 l.length l) (hc1 : l.length ≤ c1) (hl : l.length ≤ 1000000)
    (hk : QS.spec_l02Is.f k n xs (putP l p) = some b) :
    Calls Tryz.prog 21 #[.agg #[.int .i64 n, .slice A xs.length c], .slice A1 l.length c1, .agg #[.int .i64 p.f0, .int .i64 p.f1]] w (With2Post w (putP l p) b) := by
  have hx0 := Aside0.mk ((CxAt.new w n A xs.length c).below (below_alloc (Below.refl _ _) (.cells #[.int .i64 p.f0, .int .i64 p.f1] 45)))
  have hp0 : Aside0 (PrAt ((w.alloc (.cells #[.int .i64 n, .slice A xs.length c] 31)).alloc (.cells #[.int .i64 p.f0, .int .i64 p.f1] 45)) (w.heap.size + 1) p.f0 p.f1) := ⟨by simpa using PrAt.new (w.alloc (.cells #[.int .i64 n, .slice A xs.length c] 31)) p.f0 p.f1⟩
  have hb0 := Aside0.mk (below_alloc (below_alloc (Below.refl w.heap.size w) (.cells #[.int .i64 n, .slice A xs.length c] 31)) (.cells #[.int .i64 p.f0, .int .i64 p.f1] 45))
  have HR := Aside0.mk hr
  have HR1 := Aside0.mk hr1
  have HC := Aside0.mk hc
  have HC1 := Aside0.mk hc1
  have HK := Aside0.mk hk
  clear hr hr1 hc hc1 hk
  go_enter Tryz.func21, Tryz.ntmps21
  go_wp2
  go_loopw [8] (fun s8 wr => ∃ m : Nat, m ≤ l.length ∧ s8 = .int .i64 m ∧ Aside0 (backP l p l.length = backP l p m) ∧ Aside0 (Below w.heap.size w wr) ∧ Aside0 (CxAt wr w.heap.size n A xs.length c) ∧ Aside0 (PrAt wr (w.heap.size + 1) p.f0 p.f1)) (fun s8 _ => (intOf s8).toNat)
  case atStart => exact ⟨l.length, by omega, rfl, ⟨rfl⟩, hb0, hx0, hp0⟩
  case round =>
    clear hx0 hp0 hb0
    obtain ⟨m, hm, rfl, hback, HB, HX, HP⟩ := hrel
    by_cases h0 : m = 0
    · have hgz : ¬ ((0 : Int) < (m : Int)) := by omega
      have hgn : ¬ (0 < m) := by omega
      have HM : Aside0 (backP l p l.length = m) := ⟨by rw [hback.out, h0]; rfl⟩
      clear h0 hback
      go_wp2
      have HPd := Aside0.mk HP.out.drew; have HBd := Aside0.mk HB.out.drew; have HXd := Aside0.mk HX.out.drew'; clear HP HB HX; have HP := HPd; have HB := HBd; have HX := HXd; clear HPd HBd HXd
      refine st_ 11 (S := fun w' => True) (ds := []) trivial (fun hHeld => ?_)
      refine with_tabW (T := (true, [([], []), ([0], [0]), ([1], [1]), ([2], [2]), ([2], [2]), ([2], [2]), ([5, 2], [2, 5]), ([4, 6, 2], [2, 4, 6]), ([7, 2], [2, 7]), ([3, 8, 2, 2], [2, 3, 8]), ([2, 9], [2, 9])])) (B := [0, 1, 3, 7, 7, 7, 39, 119, 247, 511, 1023]) (by kernel_rfl) (by kernel_rfl) (fun HT_ HW_ => ?_)
      refine pd_ 0 13 1 HT_ ?_
      refine pd_ 1 14 3 HT_ ?_
      refine pd_ 2 15 7 HT_ ?_
      refine pn_ 3 16 15 HT_ ?_
      refine pn_ 4 17 31 HT_ ?_
      refine pn_ 5 18 63 HT_ ?_
      refine pn_ 6 19 127 HT_ ?_
      refine pn_ 7 20 255 HT_ ?_
      refine pn_ 8 21 511 HT_ ?_
      refine pn_ 9 22 1023 HT_ ?_
      refine pd_ 10 23 2047 HT_ ?_
      refine dn_ HT_ ?_
      have HPUT : Aside0 (putP l p = l.take m ++ ([p] ++ l.drop m)) := ⟨by unfold putP; rw [HM.out]; rfl⟩
      have hml := Aside0.mk hm
      obtain ⟨D, hD⟩ : ∃ D, D = (if c1 = m then A1 else A1.map (·.add (m * 2))) := ⟨_, rfl⟩
      have hcutF : ∀ W : World, (Instr.slice 28 (.slice A1 l.length c1) (some (.int .i64 (m : Int))) none none).run Tryz.prog W = .ok (.slice D (l.length - m) (c1 - m)) W := by
        intro W
        obtain ⟨i0, hi0, hz0, hzs, hzb⟩ := info_parts infoP
        have := cut_from 28 45 .i64 Tryz.underlying28 hi0 2 hzs A1 l.length c1 (m : Int) (by omega) (by omega) W
        rw [Int.toNat_natCast, ← hD] at this
        exact this
      have hcutT : ∀ W : World, (Instr.slice 28 (.slice A1 l.length c1) none (some (.int .i64 (m : Int))) none).run Tryz.prog W = .ok (.slice A1 m c1) W := by
        intro W
        obtain ⟨i0, hi0, hz0, hzs, hzb⟩ := info_parts infoP
        have := cut_to 28 45 .i64 Tryz.underlying28 hi0 A1 l.length c1 (m : Int) (by omega) (by omega) HC1.out W
        rw [Int.toNat_natCast] at this
        exact this
      have HRD : Aside0 (∀ W, Below w.heap.size w W → Kd.C k45 W D (l.length - m) (l.drop m)) := ⟨fun W hW => by
        have := Kd.C_drop (Kd.C_below HR1.out hW) hm HC1.out
        rw [List.length_drop] at this
        rw [hD]
        exact this⟩
      have HRT : Aside0 (∀ W, Below w.heap.size w W → Kd.C k45 W A1 m (l.take m)) := ⟨fun W hW => by
        have := Kd.C_take (Kd.C_below HR1.out hW) hm
        rw [List.length_take, Nat.min_eq_left hm] at this
        exact this⟩
      clear hD
      go_wp2
      refine st_ 7 (S := fun w' => w'.cell? ⟨w.heap.size + 1, 0, none⟩ = some (.int .i64 p.f0) ∧ w'.cell? ⟨w.heap.size + 1, 1, none⟩ = some (.int .i64 p.f1)) (ds := []) ⟨HP.out.c0, HP.out.c1⟩ (fun hHeld => ?_)
      refine with_tabW (T := (true, [([], []), ([0], [0]), ([], []), ([], []), ([2, 3], [2, 3]), ([1, 4], [1, 4]), ([5, 5, 0, 1, 2, 3, 4, 5], [5])])) (B := [0, 1, 0, 0, 12, 31, 63]) (by kernel_rfl) (by kernel_rfl) (fun HT_ HW_ => ?_)
      refine pd_ 2 28 4 HT_ ?_
      refine pd_ 3 29 12 HT_ ?_
      refine pd_ 4 30 28 HT_ ?_
      refine tk_ 0 26 29 HT_ HW_ hHeld ?_
      refine on_ 1 (some 27) 31 HT_ (fun K hK => ?_)
      (refine value_ (by rfl) rfl (v := .slice (some ⟨wr.drew.heap.size, 0, none⟩) 1 1) (w1 := wr.drew.drew.alloc (.cells #[.int .i64 p.f0, .int .i64 p.f1] 45)) (by go_simp) ?_; have HX1 := Aside0.mk (HX.out.below (below_alloc (Below.refl _ _) (.cells #[.int .i64 p.f0, .int .i64 p.f1] 45))).drew'; have HP1 := Aside0.mk (HP.out.alloc (.cells #[.int .i64 p.f0, .int .i64 p.f1] 45)).drew; have HB1 := Aside0.mk (HB.out.drew.alloc HB.out.drew.size (.cells #[.int .i64 p.f0, .int .i64 p.f1] 45)); have HLT := Aside0.mk HP.out.lt; have HO1 := Aside0.mk (PO.one wr.drew.drew w.heap.size p HB.out.drew.size); clear HX HP HB)
      refine hK.out _ _ ⟨HP1.out.c0, HP1.out.c1⟩ (fun hHeld => ?_)
      clear hK K
      refine nm_ ?_
      refine on_ 5 (some 31) 63 HT_ (fun K hK => ?_)
      (refine apPsR w.heap.size (.tmp 27) (.tmp 30) _ [p] (l.drop m) D (l.length - m) (c1 - m) rfl rfl HO1.out (HRD.out _ HB1.out) HB1.out HB1.out.size (by simp; omega) ?_; intro v1 w5 ho hb hg hat; have HV1 := Aside0.mk ho; have HB5 := Aside0.mk hb; have HX5 := Aside0.mk (cxAt_grown1 (b := wr.drew.drew.heap.size) HX1.out (Nat.lt_of_succ_lt HP1.out.lt) rfl (Nat.ne_of_lt (Nat.lt_of_succ_lt HLT.out)) hg); have HP5 := Aside0.mk (prAt_grown1 (b := wr.drew.drew.heap.size) HP1.out rfl (Nat.ne_of_lt HLT.out) hg); clear ho hb hg hat HX1 HP1 HB1 HO1)
      refine hK.out _ _ ⟨HP5.out.c0, HP5.out.c1⟩ (fun hHeld => ?_)
      clear hK K
      refine nm_ ?_
      refine pd_ 6 9 127 HT_ ?_
      refine dn_ HT_ ?_
      obtain ⟨A7, c7, rfl⟩ := Kd.R_slice HV1.out
      have hd7 : ([p] ++ l.drop m).length = l.length - m + 1 := by simp <;> omega
      have HRV : Aside0 (∀ W, Below w5.heap.size w5 W → Kd.C k45 W A7 (l.length - m + 1) ([p] ++ l.drop m)) := ⟨fun W hW => by
        have := (Kd.R_reads' HV1.out).2.2
        rw [hd7] at this
        exact Kd.C_below this hW⟩
      have HO6 := Aside0.mk (PO.made w5 w5.heap.size 0 #[] (Nat.le_refl _) (Nat.zero_le _) rfl)
      have HB6 : Aside0 (Below w5.heap.size w5 (w5.alloc (.cells #[] 45))) := ⟨below_alloc (Below.refl _ _) _⟩
      rw [hd7]
      go_wp2_with (first
        | (at_builtin; refine apPs w5.heap.size rfl (.tmp 32) (.tmp 35) rfl _ _ (l.take m) A1 m c1 rfl rfl HO6.out (HRT.out _ (below_in HB5.out HB6.out)) HB6.out HB6.out.size (by simp; omega) ?_; intro v8 w8 ho hb hg hat; clear hat hg; have HO8 := Aside0.mk ho; have HB8 := Aside0.mk hb; clear ho hb)
        | (at_builtin; refine apPs w5.heap.size rfl (.tmp 36) (.tmp 37) rfl _ _ ([p] ++ l.drop m) A7 _ _ rfl rfl HO8.out (HRV.out _ HB8.out) HB8.out HB8.out.size (by simp; omega) ?_; intro v9 w9 ho hb hg hat; clear hat hg; rw [List.nil_append, ← HPUT.out] at ho; have HO9 := Aside0.mk ho; have HB9 := Aside0.mk hb; clear ho hb; obtain ⟨A9, c9, rfl⟩ := Kd.R_slice HO9.out; have HX9 := Aside0.mk (HX5.out.below HB9.out); have hx9 := HX9.out.c0; have hy9 := HX9.out.c1)
        | (go_at_call 45; refine (QS.spec_l02Is.calls k n A c xs A9 c9 (putP l p) b _ (Kd.C_below HR.out (below_in HB5.out HB9.out)) HC.out (Kd.R_reads' HO9.out).2.2 (Kd.R_reads' HO9.out).2.1 HK.out).mono ?_; rintro e w10 ⟨rfl, hb⟩; have HB10 := Aside0.mk hb; clear hb))
      go_ret2
      exact ⟨_, rfl, Kd.R_lower (Kd.R_below HO9.out HB10.out) HB5.out.size, below_in HB5.out (below_in HB9.out HB10.out)⟩
    · have hgz : (0 : Int) < (m : Int) := by omega
      have hgn : 0 < m := by omega
      obtain ⟨m', hm'⟩ : ∃ m', m = m' + 1 := ⟨m - 1, by omega⟩
      obtain ⟨ad, rfl, hp0, hp1⟩ := pair_at (Kd.C_below HR1.out HB.out) m' (by omega)
      have hback' := hback.out
      rw [hm', show backP l p (m' + 1) = if cmpP p (l.getD m' z45) < 0 then backP l p m' else m' + 1 from rfl, ← hm'] at hback'
      generalize l.getD m' z45 = q at hp0 hp1 hback'
      have HW : Aside0 (CellsQ wr ad m' q) := ⟨⟨hp0, hp1⟩⟩
      have HBK := Aside0.mk hback'
      clear hp0 hp1 hback hback'
      have hmlt : (m' : Int) < (l.length : Int) := by omega
      have hwm : wrap64 ((m : Int) - 1) = (m' : Int) := by unfold wrap64; omega
      have HM' := Aside0.mk hm'
      clear hm' h0
      go_wp2
      have HPd := Aside0.mk HP.out.drew; have HBd := Aside0.mk HB.out.drew; have HXd := Aside0.mk HX.out.drew'; have HWd : Aside0 (CellsQ wr.drew ad m' q) := ⟨HW.out⟩; clear HP HB HW HX; have HP := HPd; have HB := HBd; have HW := HWd; have HX := HXd; clear HPd HBd HWd HXd
      refine st_ 11 (S := fun w' => w'.cell? ⟨w.heap.size + 1, 0, none⟩ = some (.int .i64 p.f0) ∧ w'.cell? ⟨w.heap.size + 1, 1, none⟩ = some (.int .i64 p.f1) ∧ w'.cell? (ad.add (m' * 2)) = some (.int .i64 q.f0) ∧ w'.cell? ⟨(ad.add (m' * 2)).block, (ad.add (m' * 2)).off + 1, none⟩ = some (.int .i64 q.f1)) (ds := []) ⟨HP.out.c0, HP.out.c1, HW.out.1, HW.out.2⟩ (fun hHeld => ?_)
      refine with_tabW (T := (true, [([], []), ([0], [0]), ([1], [1]), ([2], [2]), ([2], [2]), ([2], [2]), ([5, 2], [2, 5]), ([4, 6, 2], [2, 4, 6]), ([7, 2], [2, 7]), ([3, 8, 2, 2], [2, 3, 8]), ([2, 9], [2, 9])])) (B := [0, 1, 3, 7, 7, 7, 39, 119, 247, 511, 1023]) (by kernel_rfl) (by kernel_rfl) (fun HT_ HW_ => ?_)
      refine pd_ 0 13 1 HT_ ?_
      refine pd_ 1 14 3 HT_ ?_
      refine pd_ 2 15 7 HT_ ?_
      refine pd_ 4 17 23 HT_ ?_
      refine pd_ 5 18 55 HT_ ?_
      refine pd_ 6 19 119 HT_ ?_
      refine pd_ 7 20 247 HT_ ?_
      refine tk_ 3 16 255 HT_ HW_ hHeld ?_
      refine tk_ 8 21 511 HT_ HW_ hHeld ?_
      refine on_ 9 (some 22) 1023 HT_ (fun K hK => ?_)
      refine ca_ Tryz.func44 #[.agg #[.int .i64 p.f0, .int .i64 p.f1], .agg #[.int .i64 q.f0, .int .i64 q.f1]] ?_
      refine (QS.spec_l02Less.calls _ _ _ _ _ _ (lessS_f p q)).mono ?_; rintro e w1 ⟨rfl, hb⟩; have HP1 := Aside0.mk (HP.out.below hb); have HX1 := Aside0.mk (HX.out.below hb); have HB1 := Aside0.mk (below_in HB.out hb); have HW1 := Aside0.mk (cellsQ_below HW.out hb); clear HP HX HB HW; have HP := HP1; have HX := HX1; have HB := HB1; have HW := HW1; clear HP1 HX1 HB1 HW1; generalize cmpP p q = cp at HBK
      refine ⟨_, rfl, ?_⟩
      refine hK.out _ _ ⟨HP.out.c0, HP.out.c1, HW.out.1, HW.out.2⟩ (fun hHeld => ?_)
      clear hK K
      refine nm_ ?_
      refine pd_ 10 23 2047 HT_ ?_
      refine dn_ HT_ ?_
      by_cases hcp : cp < 0
      · rw [if_pos hcp] at HBK
        go_wp2
        go_roundw
        case measure => have := HM'.out; have hwm2 : wrap64 ((m : Int) - 1) = (m' : Int) := by unfold wrap64; omega
                        simp only [intOf, hwm2]; omega
        case rel => exact ⟨m', by have := HM'.out; omega, by rw [show ((m : Int) - 1) = (m' : Int) by have := HM'.out; omega], HBK, HB, HX, HP⟩
      · have HM : Aside0 (backP l p l.length = m) := by rw [if_neg hcp] at HBK; exact HBK
        clear HBK hwm hmlt hgz HW
        have HPUT : Aside0 (putP l p = l.take m ++ ([p] ++ l.drop m)) := ⟨by unfold putP; rw [HM.out]; rfl⟩
        have hml := Aside0.mk hm
        obtain ⟨D, hD⟩ : ∃ D, D = (if c1 = m then (some ad) else (some ad : Option Addr).map (·.add (m * 2))) := ⟨_, rfl⟩
        have hcutF : ∀ W : World, (Instr.slice 28 (.slice (some ad) l.length c1) (some (.int .i64 (m : Int))) none none).run Tryz.prog W = .ok (.slice D (l.length - m) (c1 - m)) W := by
          intro W
          obtain ⟨i0, hi0, hz0, hzs, hzb⟩ := info_parts infoP
          have := cut_from 28 45 .i64 Tryz.underlying28 hi0 2 hzs (some ad) l.length c1 (m : Int) (by omega) (by omega) W
          rw [Int.toNat_natCast, ← hD] at this
          exact this
        have hcutT : ∀ W : World, (Instr.slice 28 (.slice (some ad) l.length c1) none (some (.int .i64 (m : Int))) none).run Tryz.prog W = .ok (.slice (some ad) m c1) W := by
          intro W
          obtain ⟨i0, hi0, hz0, hzs, hzb⟩ := info_parts infoP
          have := cut_to 28 45 .i64 Tryz.underlying28 hi0 (some ad) l.length c1 (m : Int) (by omega) (by omega) HC1.out W
          rw [Int.toNat_natCast] at this
          exact this
        have HRD : Aside0 (∀ W, Below w.heap.size w W → Kd.C k45 W D (l.length - m) (l.drop m)) := ⟨fun W hW => by
          have := Kd.C_drop (Kd.C_below HR1.out hW) hm HC1.out
          rw [List.length_drop] at this
          rw [hD]
          exact this⟩
        have HRT : Aside0 (∀ W, Below w.heap.size w W → Kd.C k45 W (some ad) m (l.take m)) := ⟨fun W hW => by
          have := Kd.C_take (Kd.C_below HR1.out hW) hm
          rw [List.length_take, Nat.min_eq_left hm] at this
          exact this⟩
        clear hD
        go_wp2
        refine st_ 7 (S := fun w' => w'.cell? ⟨w.heap.size + 1, 0, none⟩ = some (.int .i64 p.f0) ∧ w'.cell? ⟨w.heap.size + 1, 1, none⟩ = some (.int .i64 p.f1)) (ds := []) ⟨HP.out.c0, HP.out.c1⟩ (fun hHeld => ?_)
        refine with_tabW (T := (true, [([], []), ([0], [0]), ([], []), ([], []), ([2, 3], [2, 3]), ([1, 4], [1, 4]), ([5, 5, 0, 1, 2, 3, 4, 5], [5])])) (B := [0, 1, 0, 0, 12, 31, 63]) (by kernel_rfl) (by kernel_rfl) (fun HT_ HW_ => ?_)
        refine pd_ 2 28 4 HT_ ?_
        refine pd_ 3 29 12 HT_ ?_
        refine pd_ 4 30 28 HT_ ?_
        refine tk_ 0 26 29 HT_ HW_ hHeld ?_
        refine on_ 1 (some 27) 31 HT_ (fun K hK => ?_)
        (refine value_ (by rfl) rfl (v := .slice (some ⟨w1.heap.size, 0, none⟩) 1 1) (w1 := w1.drew.alloc (.cells #[.int .i64 p.f0, .int .i64 p.f1] 45)) (by go_simp) ?_; have HX1 := Aside0.mk (HX.out.below (below_alloc (Below.refl _ _) (.cells #[.int .i64 p.f0, .int .i64 p.f1] 45))).drew'; have HP1 := Aside0.mk (HP.out.alloc (.cells #[.int .i64 p.f0, .int .i64 p.f1] 45)).drew; have HB1 := Aside0.mk (HB.out.drew.alloc HB.out.drew.size (.cells #[.int .i64 p.f0, .int .i64 p.f1] 45)); have HLT := Aside0.mk HP.out.lt; have HO1 := Aside0.mk (PO.one w1.drew w.heap.size p HB.out.drew.size); clear HX HP HB)
        refine hK.out _ _ ⟨HP1.out.c0, HP1.out.c1⟩ (fun hHeld => ?_)
        clear hK K
        refine nm_ ?_
        refine on_ 5 (some 31) 63 HT_ (fun K hK => ?_)
        (refine apPsR w.heap.size (.tmp 27) (.tmp 30) _ [p] (l.drop m) D (l.length - m) (c1 - m) rfl rfl HO1.out (HRD.out _ HB1.out) HB1.out HB1.out.size (by simp; omega) ?_; intro v1 w5 ho hb hg hat; have HV1 := Aside0.mk ho; have HB5 := Aside0.mk hb; have HX5 := Aside0.mk (cxAt_grown1 (b := w1.drew.heap.size) HX1.out (Nat.lt_of_succ_lt HP1.out.lt) rfl (Nat.ne_of_lt (Nat.lt_of_succ_lt HLT.out)) hg); have HP5 := Aside0.mk (prAt_grown1 (b := w1.drew.heap.size) HP1.out rfl (Nat.ne_of_lt HLT.out) hg); clear ho hb hg hat HX1 HP1 HB1 HO1)
        refine hK.out _ _ ⟨HP5.out.c0, HP5.out.c1⟩ (fun hHeld => ?_)
        clear hK K
        refine nm_ ?_
        refine pd_ 6 9 127 HT_ ?_
        refine dn_ HT_ ?_
        obtain ⟨A7, c7, rfl⟩ := Kd.R_slice HV1.out
        have hd7 : ([p] ++ l.drop m).length = l.length - m + 1 := by simp <;> omega
        have HRV : Aside0 (∀ W, Below w5.heap.size w5 W → Kd.C k45 W A7 (l.length - m + 1) ([p] ++ l.drop m)) := ⟨fun W hW => by
          have := (Kd.R_reads' HV1.out).2.2
          rw [hd7] at this
          exact Kd.C_below this hW⟩
        have HO6 := Aside0.mk (PO.made w5 w5.heap.size 0 #[] (Nat.le_refl _) (Nat.zero_le _) rfl)
        have HB6 : Aside0 (Below w5.heap.size w5 (w5.alloc (.cells #[] 45))) := ⟨below_alloc (Below.refl _ _) _⟩
        rw [hd7]
        go_wp2_with (first
          | (at_builtin; refine apPs w5.heap.size rfl (.tmp 32) (.tmp 35) rfl _ _ (l.take m) (some ad) m c1 rfl rfl HO6.out (HRT.out _ (below_in HB5.out HB6.out)) HB6.out HB6.out.size (by simp; omega) ?_; intro v8 w8 ho hb hg hat; clear hat hg; have HO8 := Aside0.mk ho; have HB8 := Aside0.mk hb; clear ho hb)
          | (at_builtin; refine apPs w5.heap.size rfl (.tmp 36) (.tmp 37) rfl _ _ ([p] ++ l.drop m) A7 _ _ rfl rfl HO8.out (HRV.out _ HB8.out) HB8.out HB8.out.size (by simp; omega) ?_; intro v9 w9 ho hb hg hat; clear hat hg; rw [List.nil_append, ← HPUT.out] at ho; have HO9 := Aside0.mk ho; have HB9 := Aside0.mk hb; clear ho hb; obtain ⟨A9, c9, rfl⟩ := Kd.R_slice HO9.out; have HX9 := Aside0.mk (HX5.out.below HB9.out); have hx9 := HX9.out.c0; have hy9 := HX9.out.c1)
          | (go_at_call 45; refine (QS.spec_l02Is.calls k n A c xs A9 c9 (putP l p) b _ (Kd.C_below HR.out (below_in HB5.out HB9.out)) HC.out (Kd.R_reads' HO9.out).2.2 (Kd.R_reads' HO9.out).2.1 HK.out).mono ?_; rintro e w10 ⟨rfl, hb⟩; have HB10 := Aside0.mk hb; clear hb))
        go_ret2
        exact ⟨_, rfl, Kd.R_lower (Kd.R_below HO9.out HB10.out) HB5.out.size, below_in HB5.out (below_in HB9.out HB10.out)⟩
end Go.Proofs.YtdnbmobdiidfmaaGreat.Im
namespace Go.Proofs.YtdnbmobdiidfmaaGreat.QS
open Go.RowKit Kp Ext YtdnbmobdiidfmaaGreatW.PrintWords YtdnbmobdiidfmaaGreatW.PrintLast YtdnbmobdiidfmaaGreatW.PrintMore
def spec_l02With.f (k : Nat) (a0_0 : Int) (l0_1 : List Int) (l1 : List (S45)) (a2_0 : Int) (a2_1 : Int) : Option ((List (S45)) × Bool) :=
  if l1.length ≤ 1000000 then (spec_l02Is.f k a0_0 l0_1 (Im.putP l1 ⟨a2_0, a2_1⟩)).bind fun b => some (Im.putP l1 ⟨a2_0, a2_1⟩, b) else none
theorem spec_l02With.calls (k : Nat) (a0_0 : Int) (A0_1 : Option Addr) (c0_1 : Nat) (l0_1 : List Int) (A1 : Option Addr) (c1 : Nat) (l1 : List (S45)) (a2_0 : Int) (a2_1 : Int) (r1 : List (S45)) (r2 : Bool) (w : World) (hr0_1 : Kd.C (Kd.int .i64) w A0_1 l0_1.length l0_1) (hc0_1 : l0_1.length ≤ c0_1) (hr1 : Kd.C k45 w A1 l1.length l1) (hc1 : l1.length ≤ c1) (h : spec_l02With.f k a0_0 l0_1 l1 a2_0 a2_1 = some (r1, r2)) :
    Calls Tryz.prog 21 #[.agg #[.int .i64 a0_0, .slice A0_1 l0_1.length c0_1], .slice A1 l1.length c1, .agg #[.int .i64 a2_0, .int .i64 a2_1]] w fun e w' => ∃ v0_ : Value, e = .returned (.tuple #[v0_, .bool r2]) ∧ Kd.R k45 45 w' w.heap.size (fun _ => True) v0_ r1 ∧ Below w.heap.size w w' := by
  unfold spec_l02With.f at h
  by_cases hl : l1.length ≤ 1000000
  · rw [if_pos hl] at h
    obtain ⟨b, hk, hb⟩ := Option.bind_eq_some_iff.1 h
    obtain ⟨h1, h2⟩ := Prod.mk.inj (Option.some.inj hb)
    subst h1
    subst h2
    exact Im.with2_c k a0_0 A0_1 c0_1 l0_1 A1 c1 l1 ⟨a2_0, a2_1⟩ b w hr0_1 hc0_1 hr1 hc1 hl hk
  · rw [if_neg hl] at h; cases h
end Go.Proofs.YtdnbmobdiidfmaaGreat.QS
namespace Go.Proofs.YtdnbmobdiidfmaaGreat.Pu
open Go.RowKit Kp Ext QS Im YtdnbmobdiidfmaaGreatW.PrintWords YtdnbmobdiidfmaaGreatW.PrintLast YtdnbmobdiidfmaaGreatW.PrintMore
theorem cmp_lt (p q : Pr) : cmpP p q < 0 ↔ p.f0 < q.f0 ∨ (p.f0 = q.f0 ∧ p.f1 < q.f1) := by
  unfold cmpP cmpI
  by_cases h1 : p.f0 < q.f0
  · simp [h1]
  · by_cases h2 : p.f0 > q.f0
    · simp [h1, h2]; omega
    · have h3 : p.f0 = q.f0 := by omega
      by_cases h4 : p.f1 < q.f1
      · simp [h3, h4]
      · by_cases h5 : p.f1 > q.f1
        · simp [h3, h4, h5]
        · simp [h3, h4, h5]
theorem cmp_trans {p q r : Pr} (h1 : cmpP p q < 0) (h2 : cmpP q r < 0) : cmpP p r < 0 := by
  rw [cmp_lt] at *
  omega
theorem cmp_irr (p : Pr) : ¬ cmpP p p < 0 := by rw [cmp_lt]; omega
theorem cmp_asym {p q : Pr} (h1 : cmpP p q < 0) : ¬ cmpP q p < 0 := by rw [cmp_lt] at *; omega
theorem cmp_eq {p q : Pr} (h1 : ¬ cmpP p q < 0) (h2 : ¬ cmpP q p < 0) : p = q := by
  obtain ⟨a, b⟩ := p
  obtain ⟨c, d⟩ := q
  rw [cmp_lt] at *
  simp only at h1 h2
  simp; omega
abbrev SortedP (l : List Pr) : Prop := l.Pairwise (fun p q => cmpP p q < 0)
theorem getP {l : List Pr} {i : Nat} (hi : i < l.length) : l.getD i z45 = l[i] := by rw [List.getD_eq_getElem?_getD, List.getElem?_eq_getElem hi]; rfl
theorem pairing_at {xs : List Int} {l : List Pr} (h : pairingB xs l = true) {i : Nat} (hi : i < l.length) : pairB xs l[i] = true ∧ (∀ q ∈ l.take i, hasF l[i].f0 q = false ∧ hasF l[i].f1 q = false) ∧ (∀ (h0 : 0 < i), cmpP (l[i - 1]'(by omega)) l[i] < 0) := by
  have h1 := List.all_eq_true.1 h i (List.mem_range.2 hi)
  unfold okPairAt at h1
  rw [getP hi] at h1
  simp only [Bool.and_eq_true, Bool.not_eq_true', List.any_eq_false, Bool.or_eq_true, beq_iff_eq, decide_eq_true_eq] at h1
  refine ⟨h1.1, fun q hq => ⟨by simpa using h1.2.1 q hq, by simpa using h1.2.2.1 q hq⟩, fun h0 => ?_⟩
  have h2 := h1.2.2.2.resolve_left (by omega)
  rwa [getP (show i - 1 < l.length by omega)] at h2
theorem sorted_of {xs : List Int} {l : List Pr} (h : pairingB xs l = true) : SortedP l := by
  refine List.pairwise_iff_getElem.2 fun i j hi hj hij => ?_
  induction j with
  | zero => omega
  | succ j ih =>
    have h1 := (pairing_at h hj).2.2 (by omega)
    simp only [Nat.add_sub_cancel] at h1
    rcases Nat.lt_or_ge i j with h2 | h2
    · exact cmp_trans (ih (by omega) h2) h1
    · obtain rfl : i = j := by omega
      exact h1
theorem pairing_len {n : Int} {xs : List Int} (hi : isC n xs = true) {l : List Pr} (h : pairingB xs l = true) : l.length ≤ 63 := by
  have h1 := nodup_len 63 (l.map (·.f0)) (by
    unfold List.Nodup
    rw [List.pairwise_map]
    refine List.pairwise_iff_getElem.2 fun i j hi hj hij => ?_
    have h2 := ((pairing_at h hj).2.1 l[i] (by rw [List.mem_take_iff_getElem]; exact ⟨i, by omega, rfl⟩)).1
    intro e
    unfold hasF at h2
    rw [e] at h2
    simp at h2) (fun x hx => by
    obtain ⟨q, hq, rfl⟩ := List.mem_map.1 hx
    have := facesP_of hi h q hq
    omega)
  simpa using h1
theorem place_cut {p : Pr} : ∀ {l : List Pr}, SortedP l → ∀ j (hj : j < l.length), cmpP l[j] p < 0 ↔ j < placeP l p
  | [], _, j, hj => by simp at hj
  | q :: l, hs, j, hj => by
    obtain ⟨h1, h2⟩ := List.pairwise_cons.1 hs
    by_cases hq : cmpP q p < 0
    · have hp : placeP (q :: l) p = placeP l p + 1 := by unfold placeP; rw [List.takeWhile_cons_of_pos (by simpa using hq), List.length_cons]
      rw [hp]
      rcases j with _ | j
      · simpa using hq
      · have := place_cut (p := p) h2 j (by simpa using hj)
        rw [List.getElem_cons_succ, this]; omega
    · have hp : placeP (q :: l) p = 0 := by unfold placeP; rw [List.takeWhile_cons_of_neg (by simpa using hq)]; rfl
      rw [hp]
      refine ⟨fun h => ?_, fun h => absurd h (Nat.not_lt_zero _)⟩
      rcases j with _ | j
      · exact absurd h hq
      · exact absurd (cmp_trans (h1 _ (List.getElem_mem _)) h) hq
theorem back_is {l : List Pr} {p : Pr} {b : Nat} : ∀ m, b ≤ m → m ≤ l.length → (∀ j (hj : j < l.length), b ≤ j → j < m → cmpP p l[j] < 0) → (∀ (h0 : 0 < b) (hl : b - 1 < l.length), ¬ cmpP p l[b - 1] < 0) → backP l p m = b
  | 0, hb, _, _, _ => by unfold backP; omega
  | m + 1, hb, hm, h1, h2 => by
    unfold backP
    rw [getP (show m < l.length by omega)]
    rcases Nat.lt_or_ge m b with h3 | h3
    · obtain rfl : b = m + 1 := by omega
      have := h2 (by omega) (by omega)
      simp only [Nat.add_sub_cancel] at this
      rw [if_neg this]
    · rw [if_pos (h1 m (by omega) h3 (by omega))]
      exact back_is m h3 (by omega) (fun j hj a b => h1 j hj a (by omega)) h2
theorem put_with {l : List Pr} (hs : SortedP l) (p : Pr) : putP l p = withP l p := by
  have hle := placeP_le l p
  by_cases hp : ∃ h : placeP l p < l.length, l[placeP l p] = p
  · obtain ⟨h, hp⟩ := hp
    have hb : backP l p l.length = placeP l p + 1 := back_is _ (by omega) (Nat.le_refl _) (fun j hj h1 _ => by
        have := List.pairwise_iff_getElem.1 hs (placeP l p) j h hj (by omega)
        rwa [hp] at this) (fun _ hl => by
        simp only [Nat.add_sub_cancel]
        rw [hp]; exact cmp_irr p)
    unfold putP withP
    rw [hb, List.take_succ_eq_append_getElem h, hp, List.append_assoc]
    congr 1
    rw [List.drop_eq_getElem_cons h, hp]
    rfl
  · have hb : backP l p l.length = placeP l p := back_is _ hle (Nat.le_refl _) (fun j hj h1 _ => by
        have h2 : ¬ cmpP l[j] p < 0 := fun h => by have := (place_cut hs j hj).1 h; omega
        refine Classical.byContradiction fun h3 => ?_
        have h4 := cmp_eq h3 h2
        rcases Nat.lt_or_ge (placeP l p) j with h5 | h5
        · have h6 := List.pairwise_iff_getElem.1 hs (placeP l p) j (by omega) hj h5
          rw [← h4] at h6
          have := (place_cut hs (placeP l p) (by omega)).1 h6
          omega
        · have h6 : j = placeP l p := by omega
          subst h6
          exact hp ⟨hj, h4.symm⟩) (fun h0 hl => by
        have := (place_cut (p := p) hs (placeP l p - 1) hl).2 (by omega)
        exact cmp_asym this)
    unfold putP withP
    rw [hb]
theorem ev_with {n : Int} {xs : List Int} (hi : isC n xs = true) {l : List Pr} (hs : SortedP l) (hl : l.length ≤ 1000000) (p : Pr) : Ev (fun k => spec_l02With.f k n xs l p.f0 p.f1) (withP l p, pairingB xs (withP l p)) := by
  unfold spec_l02With.f
  simp only [if_pos hl]
  rw [show (⟨p.f0, p.f1⟩ : Pr) = p from rfl, put_with hs p]
  exact Ev.bind (ev_is2 hi (by rw [withP_len]; omega)) (Ev.now _)
end Go.Proofs.YtdnbmobdiidfmaaGreat.Pu
namespace Go.Proofs.YtdnbmobdiidfmaaGreat.Ext
open Go.Shelf
def sortF_ren : Go.Shelf.Ren := ⟨fun | 6 => 34 | 15 => 54 | 14 => 53 | 28 => 79 | 29 => 80 | 20 => 71 | 21 => 72 | 22 => 73 | 23 => 74 | 24 => 75 | 25 => 76 | 26 => 77 | 27 => 78 | 46 => 94 | 47 => 95 | 48 => 96 | 49 => 97 | 50 => 98 | 57 => 108 | n => n, fun | 22 => 28 | 24 => 45 | 25 => 57 | 3 => 3 | 39 => 75 | 0 => 0 | 53 => 98 | 55 => 64 | 4 => 4 | 46 => 91 | 45 => 90 | 50 => 95 | 5 => 5 | 9 => 9 | 66 => 105 | 70 => 109 | 76 => 114 | 77 => 115 | n => n, fun | n => n⟩
theorem sortF : Go.Proofs.SlLaysF0.n6 Tryz.prog sortF_ren := {
  mixed := by kernel_rfl
  f6 := ⟨Tryz.f34.name, by decide, Tryz.func34.trans (congrArg some (by kernel_rfl))⟩
  f14 := ⟨Tryz.f53.name, by decide, Tryz.func53.trans (congrArg some (by kernel_rfl))⟩
  f15 := Tryz.func54.trans (congrArg some (by kernel_rfl))
  f20 := ⟨Tryz.f71.name, by decide, Tryz.func71.trans (congrArg some (by kernel_rfl))⟩
  f21 := ⟨Tryz.f72.name, by decide, Tryz.func72.trans (congrArg some (by kernel_rfl))⟩
  f22 := ⟨Tryz.f73.name, by decide, Tryz.func73.trans (congrArg some (by kernel_rfl))⟩
  f23 := ⟨Tryz.f74.name, by decide, Tryz.func74.trans (congrArg some (by kernel_rfl))⟩
  f24 := ⟨Tryz.f75.name, by decide, Tryz.func75.trans (congrArg some (by kernel_rfl))⟩
  f25 := ⟨Tryz.f76.name, by decide, Tryz.func76.trans (congrArg some (by kernel_rfl))⟩
  f26 := ⟨Tryz.f77.name, by decide, Tryz.func77.trans (congrArg some (by kernel_rfl))⟩
  f27 := ⟨Tryz.f78.name, by decide, Tryz.func78.trans (congrArg some (by kernel_rfl))⟩
  f28 := Tryz.func79.trans (congrArg some (by kernel_rfl))
  f29 := Tryz.func80.trans (congrArg some (by kernel_rfl))
  f46 := ⟨Tryz.f94.name, by decide, Tryz.func94.trans (congrArg some (by kernel_rfl))⟩
  f47 := Tryz.func95.trans (congrArg some (by kernel_rfl))
  f48 := Tryz.func96.trans (congrArg some (by kernel_rfl))
  f49 := ⟨Tryz.f97.name, by decide, Tryz.func97.trans (congrArg some (by kernel_rfl))⟩
  f50 := ⟨Tryz.f98.name, by decide, Tryz.func98.trans (congrArg some (by kernel_rfl))⟩
  f57 := ⟨Tryz.f108.name, by decide, Tryz.func108.trans (congrArg some (by kernel_rfl))⟩
  t0 := Tryz.underlying0
  a0 := Tryz.isAgg0
  z0 := Tryz.sizeOf0
  v0 := Tryz.zeroValue0
  t3 := Tryz.underlying3
  a3 := Tryz.isAgg3
  z3 := Tryz.sizeOf3
  v3 := Tryz.zeroValue3
  t4 := Tryz.underlying4
  a4 := Tryz.isAgg4
  z4 := Tryz.sizeOf4
  v4 := Tryz.zeroValue4
  t5 := Tryz.underlying5
  a5 := Tryz.isAgg5
  z5 := Tryz.sizeOf5
  v5 := Tryz.zeroValue5
  t9 := Tryz.underlying9
  a9 := Tryz.isAgg9
  z9 := Tryz.sizeOf9
  v9 := Tryz.zeroValue9
  t22 := Tryz.underlying28
  a22 := Tryz.isAgg28
  z22 := Tryz.sizeOf28
  v22 := Tryz.zeroValue28
  t25 := Tryz.underlying57
  a25 := Tryz.isAgg57
  z25 := Tryz.sizeOf57
  v25 := Tryz.zeroValue57
  t39 := Tryz.underlying75
  a39 := Tryz.isAgg75
  z39 := Tryz.sizeOf75
  v39 := Tryz.zeroValue75
  t45 := Tryz.underlying90
  a45 := Tryz.isAgg90
  z45 := Tryz.sizeOf90
  v45 := Tryz.zeroValue90
  t46 := Tryz.underlying91
  a46 := Tryz.isAgg91
  z46 := Tryz.sizeOf91
  v46 := Tryz.zeroValue91
  t50 := Tryz.underlying95
  a50 := Tryz.isAgg95
  z50 := Tryz.sizeOf95
  v50 := Tryz.zeroValue95
  t53 := Tryz.underlying98
  a53 := Tryz.isAgg98
  z53 := Tryz.sizeOf98
  v53 := Tryz.zeroValue98
  t55 := Tryz.underlying64
  a55 := Tryz.isAgg64
  z55 := Tryz.sizeOf64
  v55 := Tryz.zeroValue64
  t66 := Tryz.underlying105
  a66 := Tryz.isAgg105
  z66 := Tryz.sizeOf105
  v66 := Tryz.zeroValue105
  t70 := Tryz.underlying109
  a70 := Tryz.isAgg109
  z70 := Tryz.sizeOf109
  v70 := Tryz.zeroValue109
  t76 := Tryz.underlying114
  a76 := Tryz.isAgg114
  z76 := Tryz.sizeOf114
  v76 := Tryz.zeroValue114
  t77 := Tryz.underlying115
  a77 := Tryz.isAgg115
  z77 := Tryz.sizeOf115
  v77 := Tryz.zeroValue115 }
end Go.Proofs.YtdnbmobdiidfmaaGreat.Ext
namespace Go.Proofs.YtdnbmobdiidfmaaGreat.Im
open Go.RowKit Go.Shelf Kp Ext Cw YtdnbmobdiidfmaaGreatW.PrintWords YtdnbmobdiidfmaaGreatW.PrintLast YtdnbmobdiidfmaaGreatW.PrintMore
instance instInhPr : Inhabited Pr := ⟨z45⟩
def encP (p : Pr) : List Value := [.int .i64 p.f0, .int .i64 p.f1]
theorem fl_at : ∀ (l : List Pr) (t : Nat), t < l.length * 2 → (fl l)[t]? = some ((encP (l.getD (t / 2) default))[t % 2]!)
  | [], t, h => by simp at h
  | x :: l, 0, _ => rfl
  | x :: l, 1, _ => rfl
  | x :: l, t + 2, h => by
    have ih := fl_at l t (by simp at h; omega)
    rw [show (t + 2) / 2 = t / 2 + 1 by omega, show (t + 2) % 2 = t % 2 by omega]
    simpa [fl] using ih
theorem flat_fl (l : List Pr) : (Go.Sort.flatK encP 2 l.toArray).toList = fl l := by
  refine List.ext_getElem? fun t => ?_
  by_cases h : t < l.length * 2
  · rw [fl_at l t h]
    have h2 : t / 2 < l.length := by omega
    simp [Go.Sort.flatK, h, h2, List.getD_eq_getElem?_getD]
  · rw [List.getElem?_eq_none (by simp; omega), List.getElem?_eq_none (by rw [fl_len]; omega)]
theorem holds_idP {w : World} {g : Nat} {cur : List Value} {e : TypeId} {l : List Pr} (hb : w.heap[g]? = some (.cells cur.toArray e (0, 0))) (ht : cur.take (l.length * 2) = fl l) : Go.Sort.HoldsK encP 2 w g 0 l.toArray := by
  intro j hj
  have hj' : j < l.length * 2 := by simpa using hj
  refine ⟨?_, by simp [World.frozen?, hb]⟩
  have h1 : (cur.take (l.length * 2))[j]? = (Go.Sort.flatK encP 2 l.toArray).toList[j]? := by rw [ht, flat_fl]
  rw [List.getElem?_take_of_lt hj', Array.getElem?_toList] at h1
  simp only [World.cell?, hb, Nat.zero_add]
  simp only [Option.isSome_none, Bool.false_eq_true, if_false]
  have h2 : cur[j]? = some ((Go.Sort.flatK encP 2 l.toArray)[j]!) := by
    have h3 : cur[j]? = (Go.Sort.flatK encP 2 l.toArray)[j]? := by simpa using h1
    rw [h3, getElem!_pos _ j hj, Array.getElem?_eq_getElem hj]
  simpa using h2
theorem take_putCellsP (cur : Array Value) (F : Array Value) (h : F.size ≤ cur.size) : (Go.Sort.putCells id 0 F cur).toList.take F.size = F.toList := by
  apply List.ext_getElem?
  intro j
  by_cases hj : j < F.size
  · rw [List.getElem?_take_of_lt hj, Array.getElem?_toList]
    simp [Go.Sort.putCells, hj, show j < cur.size by omega]
  · rw [List.getElem?_take_eq_none (by omega), List.getElem?_eq_none (by simp; omega)]
theorem heap_sortedP {w : World} {g n : Nat} {os : Array Obj} {cur : Array Value} {e : TypeId} {fr : Nat × Nat} (F : Array Value) (hb : w.heap[g]? = some (.cells cur e fr)) :
    (Go.Sort.grow (Go.Sort.putRow id (Go.Sort.ahead w n) g 0 F) os).heap[g]? = some (.cells (Go.Sort.putCells id 0 F cur) e fr) := by
  have hg : g < w.heap.size := (Array.getElem?_eq_some_iff.1 hb).1
  rw [Go.Sort.heap_grow_old _ _ (by simpa using hg)]
  simp [Go.Sort.putRow, Go.Sort.mapBlock, Go.Sort.ahead, Array.getElem?_modify, hb, Go.Sort.onCells]
theorem below_sortedP {w : World} {base g n : Nat} {os : Array Obj} (F : Array Value) (hb : base ≤ g) (hs : base ≤ w.heap.size) : Below base w (Go.Sort.grow (Go.Sort.putRow id (Go.Sort.ahead w n) g 0 F) os) := by
  refine ⟨rfl, rfl, rfl, by simp, fun k hk => ?_⟩
  rw [Go.Sort.heap_grow_old _ _ (by simp; omega)]
  have : g ≠ k := by omega
  simp [Go.Sort.putRow, Go.Sort.mapBlock, Go.Sort.ahead, Array.getElem?_modify, this]
set_option maxRecDepth 100000 in
set_option maxHeartbeats 1000000 in
theorem comparePairs_w (p q : Pr) (w : World) : Calls Tryz.prog 35 #[.agg #[.int .i64 p.f0, .int .i64 p.f1], .agg #[.int .i64 q.f0, .int .i64 q.f1]] w fun e w' => e = .returned (.int .i64 (cmpP p q)) ∧ ∃ m os', w' = Go.Sort.grow (w.drewN m) os' := by
  obtain ⟨k, hk⟩ := ev_cmpP p q
  have HK := Aside0.mk hk
  clear hk
  have h1 := Aside0.mk (((PrAt.new w p.f0 p.f1).alloc (.cells #[.int .i64 q.f0, .int .i64 q.f1] 45)).drew)
  have h2 : Aside0 (PrAt ((w.alloc (.cells #[.int .i64 p.f0, .int .i64 p.f1] 45)).alloc (.cells #[.int .i64 q.f0, .int .i64 q.f1] 45)).drew (w.heap.size + 1) q.f0 q.f1) := ⟨by have := (PrAt.new (w.alloc (.cells #[.int .i64 p.f0, .int .i64 p.f1] 45)) q.f0 q.f1).drew; simpa using this⟩
  have HG : Aside0 (∀ nd, ∃ m os', ((w.alloc (.cells #[.int .i64 p.f0, .int .i64 p.f1] 45)).alloc (.cells #[.int .i64 q.f0, .int .i64 q.f1] 45)).drewN nd = Go.Sort.grow (w.drewN m) os') := ⟨fun nd => ⟨nd, _, by
    rw [Go.Sort.alloc_eq_grow, Go.Sort.alloc_eq_grow, Go.Sort.grow_grow]
    rfl⟩⟩
  go_enter Tryz.func35, Tryz.ntmps35
  go_wp2
  refine st_ 4 (S := fun w' => True) (ds := []) trivial (fun hHeld => ?_)
  refine with_tabW (T := (true, [([], []), ([], []), ([0, 1], [0, 1]), ([2, 2, 0, 1, 2], [2])])) (B := [0, 0, 3, 7]) (by kernel_rfl) (by kernel_rfl) (fun HT_ HW_ => ?_)
  refine pd_ 0 5 1 HT_ ?_
  refine pd_ 1 6 3 HT_ ?_
  refine on_ 2 (some 7) 7 HT_ (fun K hK => ?_)
  refine ca_ Tryz.func55 #[.slice (some ⟨w.heap.size, 0, none⟩) 2 2, .slice (some ⟨w.heap.size + 1, 0, none⟩) 2 2] ?_
  refine (QA.slices_Compare_int64_int64.calls k _ _ [p.f0, p.f1] _ _ [q.f0, q.f1] _ _ (rowOf_pr h1.out) (Nat.le_refl _) (rowOf_pr h2.out) (Nat.le_refl _) HK.out).mono ?_; rintro e w1 ⟨rfl, nd, rfl⟩
  refine ⟨_, rfl, ?_⟩
  refine hK.out _ _ trivial (fun hHeld => ?_)
  clear hK K
  refine nm_ ?_
  refine pd_ 3 4 15 HT_ ?_
  refine dn_ HT_ ?_
  go_wp2
  go_ret
  exact ⟨rfl, HG.out _⟩
theorem swoP : Go.Sort.SWO (ltOf cmpP) where
  irrefl x := decide_eq_false (Pu.cmp_irr x)
  trans x y z h1 h2 := decide_eq_true (Pu.cmp_trans (of_decide_eq_true h1) (of_decide_eq_true h2))
  ntrans x y z h1 h2 := by
    have h3 := of_decide_eq_false h1
    have h4 := of_decide_eq_false h2
    refine decide_eq_false ?_
    rw [Pu.cmp_lt] at *
    omega
theorem aggP : ∀ w : World, (isAgg 45).run Tryz.prog w = .ok true w := Tryz.isAgg45
def SortPost (base : Nat) (w : World) (v : Value) (xs : List Pr) (e : Ending) (w' : World) : Prop := ∃ L : List Pr, e = .returned (.tuple #[]) ∧ PO w' base v L ∧ L.length = xs.length ∧ L.Perm xs ∧ (L.Pairwise fun p q => ¬ cmpP q p < 0) ∧ Below base w w'
theorem sortP_c (v : Value) (xs : List Pr) (base : Nat) (w : World) (ho : PO w base v xs) (h0 : xs ≠ []) (hb : base ≤ w.heap.size) (hn : xs.length ≤ 1048576) :
    Calls Tryz.prog 34 #[v, .func (.func 35) #[] #[]] w (SortPost base w v xs) := by
  rcases PO.open ho with ⟨rfl, rfl⟩ | ⟨g, cap, L, rfl, hbg, hg, hnc, hcm, hL, ht⟩
  · exact absurd rfl h0
  have eg : ∀ args w, (callFunc 35 args).run Tryz.prog w = .ok (.enter 35 args) w := enters_of Tryz.func35 (by kernel_rfl) rfl
  have hcon := AnyQ.slices_SortFunc sortF 2 aggP sizeOfP encP (fun _ => rfl) (fun x v hv => by simp [encP] at hv; rcases hv with rfl | rfl <;> rfl) cmpP swoP 35 #[] g 0 cap xs.toArray w eg (fun _ _ _ _ x y => comparePairs_w x y _) (holds_idP hg ht) (blk_lt hg) (by simp; omega)
  change Calls Tryz.prog 34 _ _ _ at hcon
  rw [show xs.toArray.size = xs.length by simp] at hcon
  refine hcon.mono ?_
  rintro e w' ⟨rfl, d', n, os, ⟨hsz, _, hpm⟩, hso, rfl⟩
  have hsz' : d'.size = xs.length := by simpa using hsz
  have hpm' : d'.toList.Perm xs := by
    have h9 := hpm
    have h8 : (xs.toArray.extract 0 xs.length).toList = xs := by simp
    have h7 : (d'.extract 0 xs.length).toList = d'.toList := by simp [← hsz']
    rwa [h8, h7] at h9
  have hfs : (Go.Sort.flatK encP 2 d').size = xs.length * 2 := by simp [hsz']
  have hfl : (Go.Sort.flatK encP 2 d').toList = fl d'.toList := by have := flat_fl d'.toList; simpa using this
  have hdl : d'.toList.length = xs.length := by simpa using hsz'
  refine ⟨d'.toList, rfl, ?_, hdl, hpm', ?_, below_sortedP _ hbg hb⟩
  · have hh := heap_sortedP (n := n) (os := os) (Go.Sort.flatK encP 2 d') hg
    have := PO.mk (xs := d'.toList) (cap := cap) (cur := (Go.Sort.putCells id 0 (Go.Sort.flatK encP 2 d') L.toArray).toList) hbg (by simpa using hh) (by rw [hdl]; exact hnc) hcm (by simp [Go.Sort.putCells, hL]) (by
      rw [hdl, ← hfs, take_putCellsP _ _ (by rw [hfs]; simp [hL]; omega), hfl])
    rw [hdl] at this
    exact this
  · refine List.pairwise_iff_getElem.2 fun i j hi hj hij => ?_
    have h9 := hso i j (Nat.zero_le _) hij (by simpa [hsz'] using hj)
    have h10 := of_decide_eq_false h9
    have hi' : i < d'.size := by simpa using hi
    have hj' : j < d'.size := by simpa using hj
    rw [getElem!_pos d' i hi', getElem!_pos d' j hj'] at h10
    simpa using h10
end Go.Proofs.YtdnbmobdiidfmaaGreat.Im
namespace Go.Proofs.YtdnbmobdiidfmaaGreat.Ext
open Go.RowKit Im Kp YtdnbmobdiidfmaaGreatW.PrintWords YtdnbmobdiidfmaaGreatW.PrintLast YtdnbmobdiidfmaaGreatW.PrintMore
def slices_ContainsFunc_impl_Pair_impl_Pair.f (l0 : List S45) (a1 : Pred) : Option (Bool) := if l0.length ≤ 1099511627776 ∧ a1.sort = 2 ∧ okDomP a1 l0 = true then some (l0.any a1.pP) else none
theorem slices_ContainsFunc_impl_Pair_impl_Pair.calls (A0 : Option Addr) (c0 : Nat) (l0 : List S45) (F1 : Value) (a1 : Pred) (r : Bool) (w : World) (hr0 : Kd.C k45 w A0 l0.length l0) (_hc0 : l0.length ≤ c0) (hq1 : FnOk F1 a1 w) (h : slices_ContainsFunc_impl_Pair_impl_Pair.f l0 a1 = some r) :
    Calls Tryz.prog 91 #[.slice A0 l0.length c0, F1] w fun e w' => e = .returned (.bool r) ∧ Below w.heap.size w w' := by
  unfold slices_ContainsFunc_impl_Pair_impl_Pair.f at h
  by_cases hl : l0.length ≤ 1099511627776 ∧ a1.sort = 2 ∧ okDomP a1 l0 = true
  · rw [if_pos hl] at h
    have hd := Option.some.inj h
    have := containsPair_c A0 c0 l0 F1 a1.domP a1.pP w hr0 (hq1.2.2 hl.2.1) (okDomP_mem hl.2.2) hl.1
    rw [hd] at this
    exact this
  · rw [if_neg hl] at h; cases h
def impl_Complex_isPairing.f (a0_0 : Int) (l0_1 : List Int) (l1 : List S45) : Option (Bool) := if isC a0_0 l0_1 = true ∧ l1.length ≤ 1099511627776 then some (pairingB l0_1 l1) else none
theorem impl_Complex_isPairing.calls (a0_0 : Int) (A0_1 : Option Addr) (c0_1 : Nat) (l0_1 : List Int) (A1 : Option Addr) (c1 : Nat) (l1 : List S45) (r : Bool) (w : World) (hr0_1 : Kd.C (Kd.int .i64) w A0_1 l0_1.length l0_1) (_hc0_1 : l0_1.length ≤ c0_1) (hr1 : Kd.C k45 w A1 l1.length l1) (_hc1 : l1.length ≤ c1) (h : impl_Complex_isPairing.f a0_0 l0_1 l1 = some r) :
    Calls Tryz.prog 63 #[.agg #[.int .i64 a0_0, .slice A0_1 l0_1.length c0_1], .slice A1 l1.length c1] w fun e w' => e = .returned (.bool r) ∧ Below w.heap.size w w' := by
  unfold impl_Complex_isPairing.f at h
  by_cases hl : isC a0_0 l0_1 = true ∧ l1.length ≤ 1099511627776
  · rw [if_pos hl] at h
    have hd := Option.some.inj h
    have := isPairing_c a0_0 A0_1 c0_1 l0_1 A1 c1 l1 w hr0_1 _hc0_1 hl.1 hr1 hl.2
    rw [hd] at this
    exact this
  · rw [if_neg hl] at h; cases h
def impl_Complex_isAcyclic.f (a0_0 : Int) (l0_1 : List Int) (l1 : List S45) : Option (Bool) := if okBfs l1 = true then some (acycB l1) else none
theorem impl_Complex_isAcyclic.calls (a0_0 : Int) (A0_1 : Option Addr) (c0_1 : Nat) (l0_1 : List Int) (A1 : Option Addr) (c1 : Nat) (l1 : List S45) (r : Bool) (w : World) (hr0_1 : Kd.C (Kd.int .i64) w A0_1 l0_1.length l0_1) (_hc0_1 : l0_1.length ≤ c0_1) (hr1 : Kd.C k45 w A1 l1.length l1) (_hc1 : l1.length ≤ c1) (h : impl_Complex_isAcyclic.f a0_0 l0_1 l1 = some r) :
    Calls Tryz.prog 64 #[.agg #[.int .i64 a0_0, .slice A0_1 l0_1.length c0_1], .slice A1 l1.length c1] w fun e w' => e = .returned (.bool r) ∧ Below w.heap.size w w' := by
  unfold impl_Complex_isAcyclic.f at h
  by_cases hl : okBfs l1 = true
  · rw [if_pos hl] at h
    have hd := Option.some.inj h
    have := isAcyclic_c a0_0 A0_1 c0_1 l0_1 A1 c1 l1 w hr1 _hc1 hl
    rw [hd] at this
    exact this
  · rw [if_neg hl] at h; cases h
def impl_steps.f (l0 : List S45) (a1 : Int) : Option (List Int) := QA.impl_steps.f l0 a1
theorem impl_steps.calls (A0 : Option Addr) (c0 : Nat) (l0 : List S45) (a1 : Int) (r : List Int) (w : World) (hr0 : Kd.C k45 w A0 l0.length l0) (hc0 : l0.length ≤ c0) (h : impl_steps.f l0 a1 = some r) :
    Calls Tryz.prog 51 #[.slice A0 l0.length c0, .int .i64 a1] w fun e w' => ∃ v0_ : Value, e = .returned (v0_) ∧ Kd.R (Kd.int .i64) 2 w' w.heap.size (fun _ => True) v0_ r ∧ Below w.heap.size w w' := QA.impl_steps.calls A0 c0 l0 a1 r w hr0 hc0 h
end Go.Proofs.YtdnbmobdiidfmaaGreat.Ext
