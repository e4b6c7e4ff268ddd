/- Words and lemmas for FnExactBestPairing, part 4: what the row's text comes to. -/
import Derived.Test.YtomdfjohnmikdaaZFnExactBestPairingc
set_option linter.unusedVariables false
set_option linter.unusedSimpArgs false
namespace Go.Proofs.Ytomdfjohnmikdaa.QS
open Cw Kp Ext Go.RowKit YtomdfjohnmikdaaW.PrintWords YtomdfjohnmikdaaW.PrintLast YtomdfjohnmikdaaW.PrintMore
attribute [local go_sem] max2_int min2_int max_two min_two max_three min_three max_four min_four   -- for this text's walks alone
mutual
def spec_l02Is.l0 : Nat → List (S73) → Int → Int → List Int → Option (Bool)
 | 0, _, _, _, _ => none
 | k + 1, x1, x5, x239000, x239001 => if x5 < (x1.length : Int) then (if 0 ≤ x5 then ((spec_l02Pair.f k x239000 x239001 ((rd_T73 x1 x5).f0) ((rd_T73 x1 x5).f1)).bind fun t240 => (if t240 = true then (if x5 > 0 then (if 0 ≤ (wrap64 (x5 - 1)) then (if (wrap64 (x5 - 1)) < (x1.length : Int) then ((spec_l02Less.f ((rd_T73 x1 (wrap64 (x5 - 1))).f0) ((rd_T73 x1 (wrap64 (x5 - 1))).f1) ((rd_T73 x1 x5).f0) ((rd_T73 x1 x5).f1)).bind fun t243 => (spec_l02Is.j1 k x1 x5 (!t243) x239000 x239001)) else (none)) else (none)) else (spec_l02Is.j1 k x1 x5 false x239000 x239001)) else (spec_l02Is.j1 k x1 x5 true x239000 x239001))) else (none)) else (some true)
def spec_l02Is.j1 : Nat → List (S73) → Int → Bool → Int → List Int → Option (Bool)
 | 0, _, _, _, _, _ => none
 | k + 1, x1, x5, x36, x239000, x239001 => if x36 = true then (some false) else (spec_l02Is.l1 k x1 x5 0 x239000 x239001)
def spec_l02Is.l1 : Nat → List (S73) → Int → Int → Int → List Int → Option (Bool)
 | 0, _, _, _, _, _ => none
 | k + 1, x1, x5, x6, x239000, x239001 => if x6 < x5 then (if 0 ≤ x5 then (if x5 < (x1.length : Int) then (if 0 ≤ x6 then (if x6 < (x1.length : Int) then (if ((rd_T73 x1 x5).f0) = ((rd_T73 x1 x6).f0) then (some false) else (if ((rd_T73 x1 x5).f0) = ((rd_T73 x1 x6).f1) then (some false) else (if ((rd_T73 x1 x5).f1) = ((rd_T73 x1 x6).f0) then (some false) else (if ((rd_T73 x1 x5).f1) = ((rd_T73 x1 x6).f1) then (some false) else (spec_l02Is.l1 k x1 x5 (wrap64 (x6 + 1)) x239000 x239001))))) else (none)) else (none)) else (none)) else (none)) else (spec_l02Is.l0 k x1 (wrap64 (x5 + 1)) x239000 x239001)
end
def spec_l02Is.f (k : Nat) (a0_0 : Int) (l0_1 : List Int) (l1 : List (S73)) : Option (Bool) := spec_l02Is.l0 k l1 0 a0_0 l0_1
def spec_l02Is.T4 : Bool × List (List Nat × List Nat) := (true, [([], []), ([], []), ([], []), ([1, 2], [1, 2]), ([3], [3]), ([0, 4], [0, 4]), ([5], [5]), ([6, 5], [6]), ([7], [7]), ([8, 7], [7, 8]), ([9, 7, 7], [7, 9]), ([10], [10]), ([10], [10]), ([12, 10], [10, 12]), ([11, 13, 10], [10, 11, 13]), ([14, 10], [10, 14]), ([10], [10]), ([10], [10]), ([16, 17, 10], [10, 16, 17]), ([18, 10], [10, 18]), ([15, 19, 10, 10], [10, 15, 19]), ([20, 10], [10, 20]), ([10, 21, 7], [7, 10, 21]), ([7, 22], [7, 22])])
def spec_l02Is.B4 : List Nat := [0, 0, 0, 6, 14, 31, 63, 127, 255, 511, 1023, 2047, 2047, 6143, 16383, 32767, 2047, 2047, 198655, 460799, 1048575, 2097151, 4194303, 8388607]
theorem spec_l02Is.tab4 : rtab .any (opsOf Try.f144 4) = spec_l02Is.T4 := by kernel_rfl
theorem spec_l02Is.bits4 : waitsOk spec_l02Is.T4.2 spec_l02Is.B4 = true := by kernel_rfl
def spec_l02Is.T9 : Bool × List (List Nat × List Nat) := (true, [([], []), ([], []), ([0, 1], [0, 1]), ([2], [2]), ([3], [3]), ([], []), ([], []), ([5, 6], [5, 6]), ([7], [7]), ([8], [8]), ([4, 9], [4, 9]), ([10], [10]), ([11], [11]), ([11], [11]), ([12, 13, 11], [11, 12, 13]), ([14, 11], [11, 14]), ([15, 11], [11, 15]), ([11], [11]), ([11], [11]), ([17, 18, 11], [11, 17, 18]), ([19, 11], [11, 19]), ([20, 11], [11, 20]), ([16, 21, 11], [11, 16, 21]), ([11, 22], [11, 22]), ([23, 11], [23]), ([24], [24]), ([24], [24]), ([25, 26, 24], [24, 25, 26]), ([27, 24], [24, 27]), ([28, 24], [24, 28]), ([24], [24]), ([24], [24]), ([30, 31, 24], [24, 30, 31]), ([32, 24], [24, 32]), ([33, 24], [24, 33]), ([29, 34, 24], [24, 29, 34]), ([24, 35], [24, 35]), ([36, 24], [36]), ([37], [37]), ([37], [37]), ([38, 39, 37], [37, 38, 39]), ([40, 37], [37, 40]), ([41, 37], [37, 41]), ([37], [37]), ([37], [37]), ([43, 44, 37], [37, 43, 44]), ([45, 37], [37, 45]), ([46, 37], [37, 46]), ([42, 47, 37], [37, 42, 47]), ([37, 48], [37, 48])])
def spec_l02Is.B9 : List Nat := [0, 0, 3, 7, 15, 0, 0, 96, 224, 480, 1023, 2047, 4095, 4095, 16383, 32767, 65535, 4095, 4095, 397311, 921599, 1970175, 4194303, 8388607, 16777215, 33554431, 33554431, 134217727, 268435455, 536870911, 33554431, 33554431, 3254779903, 7549747199, 16139681791, 34359738367, 68719476735, 137438953471, 274877906943, 274877906943, 1099511627775, 2199023255551, 4398046511103, 274877906943, 274877906943, 26663156973567, 61847529062399, 132216273240063, 281474976710655, 562949953421311]
theorem spec_l02Is.tab9 : rtab .any (opsOf Try.f144 9) = spec_l02Is.T9 := by kernel_rfl
theorem spec_l02Is.bits9 : waitsOk spec_l02Is.T9.2 spec_l02Is.B9 = true := by kernel_rfl
set_option maxHeartbeats 8000000 in
set_option maxRecDepth 100000 in
theorem spec_l02Is.calls (k : Nat) (a0_0 : Int) (A0_1 : Option Addr) (c0_1 : Nat) (l0_1 : List Int) (A1 : Option Addr) (c1 : Nat) (l1 : List (S73)) (r : Bool) (w : World) (hr0_1 : Kd.C (Kd.int .i64) w A0_1 l0_1.length l0_1) (hc0_1 : l0_1.length ≤ c0_1) (hr1 : Kd.C k73 w A1 l1.length l1) (hc1 : l1.length ≤ c1) (h : spec_l02Is.f k a0_0 l0_1 l1 = some r) :
  Calls Try.prog 144 #[.agg #[.int .i64 a0_0, .slice A0_1 l0_1.length c0_1], .slice A1 l1.length c1] w fun e w' => e = .returned (.bool r) ∧ Below w.heap.size w w' := by
 have hu28 := Try.underlying28
 have hu73 := Try.underlying73
 have HR0_1 := Aside0.mk hr0_1
 have HC0_1 := Aside0.mk hc0_1
 clear hr0_1 hc0_1
 have HR1 := Aside0.mk hr1
 have HC1 := Aside0.mk hc1
 clear hr1 hc1
 have HB := Aside0.mk (Below.refl w.heap.size w)
 have H : (spec_l02Is.l0 k l1 0 a0_0 l0_1) = some r := h
 clear h
 have H' := Aside0.mk H
 clear H
 go_enter Try.func144, Try.ntmps144
 go_wp2_with (first | ((with_reducible refine gate_dst (N := 2) rfl ?_); refine box_event ?hg (N := 2) ?hd (cs := #[.int .i64 a0_0, .slice A0_1 l0_1.length c0_1]) (t := 28) ?hr ?_; (case hd => rfl); (case hg => rfl); (case hr => first | (go_simp; done) | (go_simp; rfl)); intro gb238 hg w3 hbox hb; have BK238 := Aside0.mk (hbox); have GW238 := gH HB hg; have GE238 := gH HB hg; replace HB := sH HB hb; clear hb hbox hg))
 go_loopg [5] k (fun kq v5 w' => ∃ (x5_1 : Int), v5 = .int .i64 x5_1 ∧ Aside0 (spec_l02Is.l0 kq l1 x5_1 a0_0 l0_1 = some r) ∧ Aside0 (kq ≤ k) ∧ Aside0 (w'.heap[gb238]? = some (.cells #[.int .i64 a0_0, (.slice A0_1 l0_1.length c0_1)] 28 (0, 0))) ∧ Aside0 (Below w.heap.size w w'))
 case atStart => exact ⟨(0), (by first | rfl | (simp; done) | (simp [*]; done)), H', ⟨Nat.le_refl _⟩, ⟨pB BK238⟩, ⟨pH HB⟩⟩
 case round =>
  clear H'
  try clear c1
  try clear p2
  obtain ⟨x5_1, rfl, HA, HK1, BK238, HB⟩ := hrel
  cases gk with
  | zero => exact absurd HA.out (by simp [spec_l02Is.l0])
  | succ k1 =>
   have H := HA.out
   clear HA
   simp only [spec_l02Is.l0] at H
   by_cases c4 : x5_1 < (l1.length : Int)
   ·rw [if_pos c4] at H
    have c4b0 : decide (x5_1 < (l1.length : Int)) = true := decide_eq_true c4
    clear c4
    have HC5 := Aside0.mk H
    clear H
    go_upto_region 4 with (fail)
    go_cut [36] (fun v36 wc => ∃ (kq : Nat) (x36_4 : Bool), v36 = .bool x36_4 ∧ Aside0 (spec_l02Is.j1 kq l1 x5_1 x36_4 a0_0 l0_1 = some r) ∧ Aside0 (kq ≤ k1) ∧ Aside0 (wc.heap[gb238]? = some (.cells #[.int .i64 a0_0, (.slice A0_1 l0_1.length c0_1)] 28 (0, 0))) ∧ Aside0 (Below w.heap.size w wc))
    case first =>
     have H := HC5.out
     clear HC5
     by_cases c6 : 0 ≤ x5_1
     ·rw [if_pos c6] at H
      have c6b0 : decide (0 ≤ x5_1) = true := decide_eq_true c6
      clear c6
      (first | rw [c6b0] | (simp only [i64_w, i32_w]; rw [c6b0]) | skip)
      replace H := Option.bind_eq_some_iff.mp H
      obtain ⟨t240, A70, H⟩ := H
      try dsimp only at H
      have A7 := Aside0.mk A70
      clear A70
      by_cases c8 : t240 = true
      ·subst c8
       have H1 : (if x5_1 > 0 then (if 0 ≤ (wrap64 (x5_1 - 1)) then (if (wrap64 (x5_1 - 1)) < (l1.length : Int) then ((spec_l02Less.f ((rd_T73 l1 (wrap64 (x5_1 - 1))).f0) ((rd_T73 l1 (wrap64 (x5_1 - 1))).f1) ((rd_T73 l1 x5_1).f0) ((rd_T73 l1 x5_1).f1)).bind fun t243 => (spec_l02Is.j1 k1 l1 x5_1 (!t243) a0_0 l0_1)) else (none)) else (none)) else (spec_l02Is.j1 k1 l1 x5_1 false a0_0 l0_1)) = some r := by rw [if_pos rfl] at H; exact H
       clear H
       have H := H1
       clear H1
       by_cases c9 : x5_1 > 0
       ·rw [if_pos c9] at H
        have c9b0 : decide (0 < x5_1) = true := decide_eq_true c9
        clear c9
        obtain ⟨ji10, hji10⟩ : ∃ j_ : Int, (wrap64 (x5_1 - 1)) = j_ := ⟨_, rfl⟩
        replace H : (if 0 ≤ (ji10) then (if (ji10) < (l1.length : Int) then ((spec_l02Less.f ((rd_T73 l1 (ji10)).f0) ((rd_T73 l1 (ji10)).f1) ((rd_T73 l1 x5_1).f0) ((rd_T73 l1 x5_1).f1)).bind fun t243 => (spec_l02Is.j1 k1 l1 x5_1 (!t243) a0_0 l0_1)) else (none)) else (none)) = some r := by first | (rw [hji10] at H; exact H) | (simp only [hji10] at H ⊢; exact H)
        (try rw [hji10] at A7)
        have hji10w : (IntKind.i64.wrap (x5_1 - 1)) = ji10 := (i64_w _).trans hji10
        by_cases c11 : 0 ≤ (ji10)
        ·rw [if_pos c11] at H
         have c11b0 : decide (0 ≤ (ji10)) = true := decide_eq_true c11
         clear c11
         by_cases c12 : (ji10) < (l1.length : Int)
         ·rw [if_pos c12] at H
          have c12b0 : decide ((ji10) < (l1.length : Int)) = true := decide_eq_true c12
          clear c12
          replace H := Option.bind_eq_some_iff.mp H
          obtain ⟨t243, A130, H⟩ := H
          try dsimp only at H
          have A13 := Aside0.mk A130
          clear A130
          have H' := Aside0.mk H
          clear H
          try go_wp2
          replace BK238 := dB BK238
          replace HB := dH HB
          have p239 : 0 ≤ (x5_1 : Int) := of_decide_eq_true (by first | (with_reducible assumption) | assumption)
          have q239 : x5_1 < (l1.length : Int) := of_decide_eq_true (by first | (with_reducible assumption) | assumption)
          obtain ⟨ad239, e239, hx239_0, hx239_1⟩ := at_T73 HR1.out x5_1 p239 q239
          have hw239_1 := hx239_1
          have hw239_0 := hx239_0
          cases e239
          replace hx239_0 := cH HB hx239_0
          replace hx239_1 := cH HB hx239_1
          replace p239 := eq_true p239
          replace q239 := eq_true q239
          have p241 : 0 ≤ ((ji10) : Int) := of_decide_eq_true (by first | (with_reducible assumption) | assumption)
          have q241 : (ji10) < (l1.length : Int) := of_decide_eq_true (by first | (with_reducible assumption) | assumption)
          obtain ⟨ad241, e241, hx241_0, hx241_1⟩ := at_T73 HR1.out (ji10) p241 q241
          have hw241_1 := hx241_1
          have hw241_0 := hx241_0
          obtain rfl : ad239 = ad241 := (by injection e241)
          replace hx241_0 := cH HB hx241_0
          replace hx241_1 := cH HB hx241_1
          replace p241 := eq_true p241
          replace q241 := eq_true q241
          have p242 : 0 ≤ (x5_1 : Int) := of_decide_eq_true (by first | (with_reducible assumption) | assumption)
          have q242 : x5_1 < (l1.length : Int) := of_decide_eq_true (by first | (with_reducible assumption) | assumption)
          obtain ⟨ad242, e242, hx242_0, hx242_1⟩ := at_T73 HR1.out x5_1 p242 q242
          have hw242_1 := hx242_1
          have hw242_0 := hx242_0
          obtain rfl : ad239 = ad242 := (by injection e242)
          replace hx242_0 := cH HB hx242_0
          replace hx242_1 := cH HB hx242_1
          replace p242 := eq_true p242
          replace q242 := eq_true q242
          refine st_ 24 (S := fun w' => w'.cell? ⟨gb238, 0, none⟩ = some (.int .i64 a0_0) ∧ w'.cell? ⟨gb238, 1, none⟩ = some (.slice A0_1 l0_1.length c0_1) ∧ w'.cell? (ad239.add ((x5_1).toNat * 2)) = some (.int .i64 ((rd_T73 l1 x5_1).f0)) ∧ w'.cell? ⟨(ad239.add ((x5_1).toNat * 2)).block, (ad239.add ((x5_1).toNat * 2)).off + 1, none⟩ = some (.int .i64 ((rd_T73 l1 x5_1).f1)) ∧ w'.cell? (ad239.add (((ji10)).toNat * 2)) = some (.int .i64 ((rd_T73 l1 (ji10)).f0)) ∧ w'.cell? ⟨(ad239.add (((ji10)).toNat * 2)).block, (ad239.add (((ji10)).toNat * 2)).off + 1, none⟩ = some (.int .i64 ((rd_T73 l1 (ji10)).f1)) ∧ w'.cell? (ad239.add ((x5_1).toNat * 2)) = some (.int .i64 ((rd_T73 l1 x5_1).f0)) ∧ w'.cell? ⟨(ad239.add ((x5_1).toNat * 2)).block, (ad239.add ((x5_1).toNat * 2)).off + 1, none⟩ = some (.int .i64 ((rd_T73 l1 x5_1).f1))) (ds := []) ⟨cB BK238 0, cB BK238 1, (cH HB hw239_0 :), (cH HB hw239_1 :), (cH HB hw241_0 :), (cH HB hw241_1 :), (cH HB hw242_0 :), (cH HB hw242_1 :)⟩ (fun hHeld => ?_); refine with_tabW spec_l02Is.tab4 spec_l02Is.bits4 (fun HT_ HW_ => ?_)
          generalize wr.drew = w14 at BK238 HB hx239_0 hx239_1 hx241_0 hx241_1 hx242_0 hx242_1 hHeld ⊢
          refine pu_ 1 14 2 HT_ ?_
          refine pu_ 2 15 6 HT_ ?_
          refine pu_ 3 16 14 HT_ ?_
          refine tk_ 0 13 15 HT_ HW_ hHeld ?_
          refine tk_ 4 17 31 HT_ HW_ hHeld ?_
          refine on_ 5 (some 18) 63 HT_ (fun K hK => ?_)
          refine ca_ Try.func179 #[.agg #[.int .i64 a0_0, .slice A0_1 l0_1.length c0_1], .agg #[.int .i64 ((rd_T73 l1 x5_1).f0), .int .i64 ((rd_T73 l1 x5_1).f1)]] ?_
          with_reducible refine (spec_l02Pair.calls k1 a0_0 _ _ l0_1 ((rd_T73 l1 x5_1).f0) ((rd_T73 l1 x5_1).f1) true _ ?side1 ?side2 A7.out).mono ?_
          (case side1 => exact pC ((Kd.C_below HR0_1.out HB.out)))
          (case side2 => exact HC0_1.out)
          rintro e w15 ⟨rfl, hb⟩
          refine ⟨_, rfl, ?_⟩
          replace BK238 := sB BK238 hb
          replace HB := sH HB hb
          (try clear hb)
          (try clear hb2)
          (try clear hk)
          (try clear hi)
          refine hK.out _ _ ⟨cB BK238 0, cB BK238 1, (cH HB hw239_0 :), (cH HB hw239_1 :), (cH HB hw241_0 :), (cH HB hw241_1 :), (cH HB hw242_0 :), (cH HB hw242_1 :)⟩ (fun hHeld => ?_)
          clear hK K
          refine nm_ ?_
          refine pu_ 6 19 127 HT_ ?_
          refine pu_ 7 20 255 HT_ ?_
          refine pu_ 8 21 511 HT_ ?_
          refine pu_ 9 22 1023 HT_ ?_
          refine pu_ 10 23 2047 HT_ ?_
          refine pu_ 11 24 4095 HT_ ?_
          refine pu_ 12 25 8191 HT_ ?_
          refine pu_ 13 26 16383 HT_ ?_
          refine pu_ 14 27 32767 HT_ ?_
          refine pu_ 16 29 98303 HT_ ?_
          refine pu_ 17 30 229375 HT_ ?_
          refine pu_ 18 31 491519 HT_ ?_
          refine tk_ 15 28 524287 HT_ HW_ hHeld ?_
          refine tk_ 19 32 1048575 HT_ HW_ hHeld ?_
          refine on_ 20 (some 33) 2097151 HT_ (fun K hK => ?_)
          refine ca_ Try.func162 #[.agg #[.int .i64 ((rd_T73 l1 (ji10)).f0), .int .i64 ((rd_T73 l1 (ji10)).f1)], .agg #[.int .i64 ((rd_T73 l1 x5_1).f0), .int .i64 ((rd_T73 l1 x5_1).f1)]] (hargs := by (try simp only [List.map_toArray, List.map_cons, List.map_nil]); first | done | (simp only [hji10]; rfl) | rfl | (simp only [List.length_drop, List.length_take]; rfl)) ?_
          with_reducible refine (spec_l02Less.calls ((rd_T73 l1 (ji10)).f0) ((rd_T73 l1 (ji10)).f1) ((rd_T73 l1 x5_1).f0) ((rd_T73 l1 x5_1).f1) t243 _ A13.out).mono ?_
          rintro e w16 ⟨rfl, hb⟩
          refine ⟨_, rfl, ?_⟩
          replace BK238 := sB BK238 hb
          replace HB := sH HB hb
          (try clear hb)
          (try clear hb2)
          (try clear hk)
          (try clear hi)
          refine hK.out _ _ ⟨cB BK238 0, cB BK238 1, (cH HB hw239_0 :), (cH HB hw239_1 :), (cH HB hw241_0 :), (cH HB hw241_1 :), (cH HB hw242_0 :), (cH HB hw242_1 :)⟩ (fun hHeld => ?_)
          clear hK K
          refine nm_ ?_
          refine pu_ 21 34 4194303 HT_ ?_
          refine pu_ 22 35 8388607 HT_ ?_
          refine pu_ 23 36 16777215 HT_ ?_
          refine dn_ HT_ ?_
          try go_wp2
          go_meet
          case rel => exact ⟨_, (!t243), (by first | rfl | (simp; done) | (simp [*]; done)), H', ⟨by have := HK1.out; first | omega | exact Nat.le_refl _⟩, ⟨pB BK238⟩, ⟨pH HB⟩⟩
         ·rw [if_neg c12] at H
          exact absurd H (by simp)
        ·rw [if_neg c11] at H
         exact absurd H (by simp)
       ·rw [if_neg c9] at H
        have c9b0 : decide (0 < x5_1) = false := decide_eq_false c9
        clear c9
        have H' := Aside0.mk H
        clear H
        try go_wp2
        replace BK238 := dB BK238
        replace HB := dH HB
        have p239 : 0 ≤ (x5_1 : Int) := of_decide_eq_true (by first | (with_reducible assumption) | assumption)
        have q239 : x5_1 < (l1.length : Int) := of_decide_eq_true (by first | (with_reducible assumption) | assumption)
        obtain ⟨ad239, e239, hx239_0, hx239_1⟩ := at_T73 HR1.out x5_1 p239 q239
        have hw239_1 := hx239_1
        have hw239_0 := hx239_0
        cases e239
        replace hx239_0 := cH HB hx239_0
        replace hx239_1 := cH HB hx239_1
        replace p239 := eq_true p239
        replace q239 := eq_true q239
        refine st_ 24 (S := fun w' => w'.cell? ⟨gb238, 0, none⟩ = some (.int .i64 a0_0) ∧ w'.cell? ⟨gb238, 1, none⟩ = some (.slice A0_1 l0_1.length c0_1) ∧ w'.cell? (ad239.add ((x5_1).toNat * 2)) = some (.int .i64 ((rd_T73 l1 x5_1).f0)) ∧ w'.cell? ⟨(ad239.add ((x5_1).toNat * 2)).block, (ad239.add ((x5_1).toNat * 2)).off + 1, none⟩ = some (.int .i64 ((rd_T73 l1 x5_1).f1))) (ds := []) ⟨cB BK238 0, cB BK238 1, (cH HB hw239_0 :), (cH HB hw239_1 :)⟩ (fun hHeld => ?_); refine with_tabW spec_l02Is.tab4 spec_l02Is.bits4 (fun HT_ HW_ => ?_)
        generalize wr.drew = w17 at BK238 HB hx239_0 hx239_1 hHeld ⊢
        refine pu_ 1 14 2 HT_ ?_
        refine pu_ 2 15 6 HT_ ?_
        refine pu_ 3 16 14 HT_ ?_
        refine tk_ 0 13 15 HT_ HW_ hHeld ?_
        refine tk_ 4 17 31 HT_ HW_ hHeld ?_
        refine on_ 5 (some 18) 63 HT_ (fun K hK => ?_)
        refine ca_ Try.func179 #[.agg #[.int .i64 a0_0, .slice A0_1 l0_1.length c0_1], .agg #[.int .i64 ((rd_T73 l1 x5_1).f0), .int .i64 ((rd_T73 l1 x5_1).f1)]] ?_
        with_reducible refine (spec_l02Pair.calls k1 a0_0 _ _ l0_1 ((rd_T73 l1 x5_1).f0) ((rd_T73 l1 x5_1).f1) true _ ?side1 ?side2 A7.out).mono ?_
        (case side1 => exact pC ((Kd.C_below HR0_1.out HB.out)))
        (case side2 => exact HC0_1.out)
        rintro e w18 ⟨rfl, hb⟩
        refine ⟨_, rfl, ?_⟩
        replace BK238 := sB BK238 hb
        replace HB := sH HB hb
        (try clear hb)
        (try clear hb2)
        (try clear hk)
        (try clear hi)
        refine hK.out _ _ ⟨cB BK238 0, cB BK238 1, (cH HB hw239_0 :), (cH HB hw239_1 :)⟩ (fun hHeld => ?_)
        clear hK K
        refine nm_ ?_
        refine pu_ 6 19 127 HT_ ?_
        refine pu_ 7 20 255 HT_ ?_
        refine pu_ 8 21 511 HT_ ?_
        refine pu_ 9 22 1023 HT_ ?_
        refine pu_ 10 23 2047 HT_ ?_
        refine pn_ 11 24 4095 HT_ ?_
        refine pn_ 12 25 8191 HT_ ?_
        refine pn_ 13 26 16383 HT_ ?_
        refine pn_ 14 27 32767 HT_ ?_
        refine pn_ 15 28 65535 HT_ ?_
        refine pn_ 16 29 131071 HT_ ?_
        refine pn_ 17 30 262143 HT_ ?_
        refine pn_ 18 31 524287 HT_ ?_
        refine pn_ 19 32 1048575 HT_ ?_
        refine pn_ 20 33 2097151 HT_ ?_
        refine pn_ 21 34 4194303 HT_ ?_
        refine pu_ 22 35 8388607 HT_ ?_
        refine pu_ 23 36 16777215 HT_ ?_
        refine dn_ HT_ ?_
        try go_wp2
        go_meet
        case rel => exact ⟨_, (false), (by first | rfl | (simp; done) | (simp [*]; done)), H', ⟨by have := HK1.out; first | omega | exact Nat.le_refl _⟩, ⟨pB BK238⟩, ⟨pH HB⟩⟩
      ·replace c8 := Bool.eq_false_iff.mpr c8
       subst c8
       have H1 : (spec_l02Is.j1 k1 l1 x5_1 true a0_0 l0_1) = some r := by rw [if_neg (show ¬ (false = true) by decide)] at H; exact H
       clear H
       have H := H1
       clear H1
       have H' := Aside0.mk H
       clear H
       try go_wp2
       replace BK238 := dB BK238
       replace HB := dH HB
       have p239 : 0 ≤ (x5_1 : Int) := of_decide_eq_true (by first | (with_reducible assumption) | assumption)
       have q239 : x5_1 < (l1.length : Int) := of_decide_eq_true (by first | (with_reducible assumption) | assumption)
       obtain ⟨ad239, e239, hx239_0, hx239_1⟩ := at_T73 HR1.out x5_1 p239 q239
       have hw239_1 := hx239_1
       have hw239_0 := hx239_0
       cases e239
       replace hx239_0 := cH HB hx239_0
       replace hx239_1 := cH HB hx239_1
       replace p239 := eq_true p239
       replace q239 := eq_true q239
       refine st_ 24 (S := fun w' => w'.cell? ⟨gb238, 0, none⟩ = some (.int .i64 a0_0) ∧ w'.cell? ⟨gb238, 1, none⟩ = some (.slice A0_1 l0_1.length c0_1) ∧ w'.cell? (ad239.add ((x5_1).toNat * 2)) = some (.int .i64 ((rd_T73 l1 x5_1).f0)) ∧ w'.cell? ⟨(ad239.add ((x5_1).toNat * 2)).block, (ad239.add ((x5_1).toNat * 2)).off + 1, none⟩ = some (.int .i64 ((rd_T73 l1 x5_1).f1))) (ds := []) ⟨cB BK238 0, cB BK238 1, (cH HB hw239_0 :), (cH HB hw239_1 :)⟩ (fun hHeld => ?_); refine with_tabW spec_l02Is.tab4 spec_l02Is.bits4 (fun HT_ HW_ => ?_)
       generalize wr.drew = w19 at BK238 HB hx239_0 hx239_1 hHeld ⊢
       refine pu_ 1 14 2 HT_ ?_
       refine pu_ 2 15 6 HT_ ?_
       refine pu_ 3 16 14 HT_ ?_
       refine tk_ 0 13 15 HT_ HW_ hHeld ?_
       refine tk_ 4 17 31 HT_ HW_ hHeld ?_
       refine on_ 5 (some 18) 63 HT_ (fun K hK => ?_)
       refine ca_ Try.func179 #[.agg #[.int .i64 a0_0, .slice A0_1 l0_1.length c0_1], .agg #[.int .i64 ((rd_T73 l1 x5_1).f0), .int .i64 ((rd_T73 l1 x5_1).f1)]] ?_
       with_reducible refine (spec_l02Pair.calls k1 a0_0 _ _ l0_1 ((rd_T73 l1 x5_1).f0) ((rd_T73 l1 x5_1).f1) false _ ?side1 ?side2 A7.out).mono ?_
       (case side1 => exact pC ((Kd.C_below HR0_1.out HB.out)))
       (case side2 => exact HC0_1.out)
       rintro e w20 ⟨rfl, hb⟩
       refine ⟨_, rfl, ?_⟩
       replace BK238 := sB BK238 hb
       replace HB := sH HB hb
       (try clear hb)
       (try clear hb2)
       (try clear hk)
       (try clear hi)
       refine hK.out _ _ ⟨cB BK238 0, cB BK238 1, (cH HB hw239_0 :), (cH HB hw239_1 :)⟩ (fun hHeld => ?_)
       clear hK K
       refine nm_ ?_
       refine pu_ 6 19 127 HT_ ?_
       refine pu_ 7 20 255 HT_ ?_
       refine pn_ 8 21 511 HT_ ?_
       refine pn_ 9 22 1023 HT_ ?_
       refine pn_ 10 23 2047 HT_ ?_
       refine pn_ 11 24 4095 HT_ ?_
       refine pn_ 12 25 8191 HT_ ?_
       refine pn_ 13 26 16383 HT_ ?_
       refine pn_ 14 27 32767 HT_ ?_
       refine pn_ 15 28 65535 HT_ ?_
       refine pn_ 16 29 131071 HT_ ?_
       refine pn_ 17 30 262143 HT_ ?_
       refine pn_ 18 31 524287 HT_ ?_
       refine pn_ 19 32 1048575 HT_ ?_
       refine pn_ 20 33 2097151 HT_ ?_
       refine pn_ 21 34 4194303 HT_ ?_
       refine pn_ 22 35 8388607 HT_ ?_
       refine pu_ 23 36 16777215 HT_ ?_
       refine dn_ HT_ ?_
       try go_wp2
       go_meet
       case rel => exact ⟨_, (true), (by first | rfl | (simp; done) | (simp [*]; done)), H', ⟨by have := HK1.out; first | omega | exact Nat.le_refl _⟩, ⟨pB BK238⟩, ⟨pH HB⟩⟩
     ·rw [if_neg c6] at H
      exact absurd H (by simp)
    case rest =>
     clear HC5
     try clear c1
     try clear p2
     try clear q2
     try clear hx2
     try clear c6
     try clear c8
     try clear c9
     try clear c9b0
     try clear c11
     try clear c12
     try clear c16
     try clear c17
     try clear hx239_0
     try clear hx239_1
     try clear p239
     try clear q239
     obtain ⟨kq, x36_4, rfl, HA, HJ4, BK238, HB⟩ := hcut
     cases kq with
     | zero => exact absurd HA.out (by simp [spec_l02Is.j1])
     | succ kj4 =>
      have H := HA.out
      clear HA
      simp only [spec_l02Is.j1] at H
      by_cases c21 : x36_4 = true
      ·subst c21
       have H1 : (some false) = some r := by rw [if_pos rfl] at H; exact H
       clear H
       have H := H1
       clear H1
       obtain rfl := Option.some.inj H
       go_wp2
       go_ret
       exact ⟨by first | rfl | (simp [errW_none, errW_some] <;> rfl) | (simp [*, errW_none, errW_some] <;> rfl) | (exfalso; simp_all), pH HB⟩
      ·replace c21 := Bool.eq_false_iff.mpr c21
       subst c21
       have H1 : (spec_l02Is.l1 kj4 l1 x5_1 0 a0_0 l0_1) = some r := by rw [if_neg (show ¬ (false = true) by decide)] at H; exact H
       clear H
       have H := H1
       clear H1
       have H' := Aside0.mk H
       clear H
       go_wp2
       go_loopg [6] kj4 (fun kq v6 w' => ∃ (x6_3 : Int), v6 = .int .i64 x6_3 ∧ Aside0 (spec_l02Is.l1 kq l1 x5_1 x6_3 a0_0 l0_1 = some r) ∧ Aside0 (kq ≤ kj4) ∧ Aside0 (w'.heap[gb238]? = some (.cells #[.int .i64 a0_0, (.slice A0_1 l0_1.length c0_1)] 28 (0, 0))) ∧ Aside0 (Below w.heap.size w w'))
       case atStart => exact ⟨(0), (by first | rfl | (simp; done) | (simp [*]; done)), H', ⟨Nat.le_refl _⟩, ⟨pB BK238⟩, ⟨pH HB⟩⟩
       case round =>
        clear H'
        try clear c1
        try clear c2
        try clear p2
        try clear q2
        try clear hx2
        try clear c6
        try clear c8
        try clear c9
        try clear c9b0
        try clear c11
        try clear c12
        try clear c16
        try clear c17
        try clear c21
        try clear hx239_0
        try clear hx239_1
        try clear p2
        try clear p239
        try clear q2
        try clear q239
        obtain ⟨x6_3, rfl, HA, HK3, BK238, HB⟩ := hrel
        cases gk with
        | zero => exact absurd HA.out (by simp [spec_l02Is.l1])
        | succ k3 =>
         have H := HA.out
         clear HA
         simp only [spec_l02Is.l1] at H
         by_cases c22 : x6_3 < x5_1
         ·rw [if_pos c22] at H
          have c22b0 : decide (x6_3 < x5_1) = true := decide_eq_true c22
          clear c22
          by_cases c23 : 0 ≤ x5_1
          ·rw [if_pos c23] at H
           have c23b0 : decide (0 ≤ x5_1) = true := decide_eq_true c23
           clear c23
           by_cases c24 : x5_1 < (l1.length : Int)
           ·rw [if_pos c24] at H
            have c24b0 : decide (x5_1 < (l1.length : Int)) = true := decide_eq_true c24
            clear c24
            by_cases c25 : 0 ≤ x6_3
            ·rw [if_pos c25] at H
             have c25b0 : decide (0 ≤ x6_3) = true := decide_eq_true c25
             clear c25
             by_cases c26 : x6_3 < (l1.length : Int)
             ·rw [if_pos c26] at H
              have c26b0 : decide (x6_3 < (l1.length : Int)) = true := decide_eq_true c26
              clear c26
              by_cases c27 : ((rd_T73 l1 x5_1).f0) = ((rd_T73 l1 x6_3).f0)
              ·rw [if_pos c27] at H
               have c27b0 : (((rd_T73 l1 x5_1).f0) == ((rd_T73 l1 x6_3).f0)) = true := beq_iff_eq.mpr c27
               have c27b1 : (((rd_T73 l1 x5_1).f0) != ((rd_T73 l1 x6_3).f0)) = false := bne_eq_false_iff_eq.mpr c27
               clear c27
               obtain rfl := Option.some.inj H
               try go_wp2
               replace BK238 := dB BK238
               replace HB := dH HB
               have p244 : 0 ≤ (x5_1 : Int) := of_decide_eq_true (by first | (with_reducible assumption) | assumption)
               have q244 : x5_1 < (l1.length : Int) := of_decide_eq_true (by first | (with_reducible assumption) | assumption)
               obtain ⟨ad244, e244, hx244_0, hx244_1⟩ := at_T73 HR1.out x5_1 p244 q244
               have hw244_1 := hx244_1
               have hw244_0 := hx244_0
               cases e244
               replace hx244_0 := cH HB hx244_0
               replace hx244_1 := cH HB hx244_1
               replace p244 := eq_true p244
               replace q244 := eq_true q244
               have p245 : 0 ≤ (x6_3 : Int) := of_decide_eq_true (by first | (with_reducible assumption) | assumption)
               have q245 : x6_3 < (l1.length : Int) := of_decide_eq_true (by first | (with_reducible assumption) | assumption)
               obtain ⟨ad245, e245, hx245_0, hx245_1⟩ := at_T73 HR1.out x6_3 p245 q245
               have hw245_1 := hx245_1
               have hw245_0 := hx245_0
               obtain rfl : ad244 = ad245 := (by injection e245)
               replace hx245_0 := cH HB hx245_0
               replace hx245_1 := cH HB hx245_1
               replace p245 := eq_true p245
               replace q245 := eq_true q245
               refine st_ 50 (S := fun w' => w'.cell? (ad244.add ((x5_1).toNat * 2)) = some (.int .i64 ((rd_T73 l1 x5_1).f0)) ∧ w'.cell? ⟨(ad244.add ((x5_1).toNat * 2)).block, (ad244.add ((x5_1).toNat * 2)).off + 1, none⟩ = some (.int .i64 ((rd_T73 l1 x5_1).f1)) ∧ w'.cell? (ad244.add ((x6_3).toNat * 2)) = some (.int .i64 ((rd_T73 l1 x6_3).f0)) ∧ w'.cell? ⟨(ad244.add ((x6_3).toNat * 2)).block, (ad244.add ((x6_3).toNat * 2)).off + 1, none⟩ = some (.int .i64 ((rd_T73 l1 x6_3).f1))) (ds := []) ⟨(cH HB hw244_0 :), (cH HB hw244_1 :), (cH HB hw245_0 :), (cH HB hw245_1 :)⟩ (fun hHeld => ?_); refine with_tabW spec_l02Is.tab9 spec_l02Is.bits9 (fun HT_ HW_ => ?_)
               generalize wr.drew = w28 at BK238 HB hx244_0 hx244_1 hx245_0 hx245_1 hHeld ⊢
               refine pu_ 0 42 1 HT_ ?_
               refine pu_ 1 43 3 HT_ ?_
               refine pu_ 2 44 7 HT_ ?_
               refine pu_ 3 45 15 HT_ ?_
               refine pu_ 5 47 47 HT_ ?_
               refine pu_ 6 48 111 HT_ ?_
               refine pu_ 7 49 239 HT_ ?_
               refine pu_ 8 50 495 HT_ ?_
               refine tk_ 4 46 511 HT_ HW_ hHeld ?_
               refine tk_ 9 51 1023 HT_ HW_ hHeld ?_
               refine pu_ 10 52 2047 HT_ ?_
               refine pu_ 11 53 4095 HT_ ?_
               refine pn_ 12 54 8191 HT_ ?_
               refine pn_ 13 55 16383 HT_ ?_
               refine pn_ 14 56 32767 HT_ ?_
               refine pn_ 15 57 65535 HT_ ?_
               refine pn_ 16 58 131071 HT_ ?_
               refine pn_ 17 59 262143 HT_ ?_
               refine pn_ 18 60 524287 HT_ ?_
               refine pn_ 19 61 1048575 HT_ ?_
               refine pn_ 20 62 2097151 HT_ ?_
               refine pn_ 21 63 4194303 HT_ ?_
               refine pn_ 22 64 8388607 HT_ ?_
               refine pu_ 23 65 16777215 HT_ ?_
               refine pu_ 24 66 33554431 HT_ ?_
               refine pn_ 25 67 67108863 HT_ ?_
               refine pn_ 26 68 134217727 HT_ ?_
               refine pn_ 27 69 268435455 HT_ ?_
               refine pn_ 28 70 536870911 HT_ ?_
               refine pn_ 29 71 1073741823 HT_ ?_
               refine pn_ 30 72 2147483647 HT_ ?_
               refine pn_ 31 73 4294967295 HT_ ?_
               refine pn_ 32 74 8589934591 HT_ ?_
               refine pn_ 33 75 17179869183 HT_ ?_
               refine pn_ 34 76 34359738367 HT_ ?_
               refine pn_ 35 77 68719476735 HT_ ?_
               refine pu_ 36 78 137438953471 HT_ ?_
               refine pu_ 37 79 274877906943 HT_ ?_
               refine pn_ 38 80 549755813887 HT_ ?_
               refine pn_ 39 81 1099511627775 HT_ ?_
               refine pn_ 40 82 2199023255551 HT_ ?_
               refine pn_ 41 83 4398046511103 HT_ ?_
               refine pn_ 42 84 8796093022207 HT_ ?_
               refine pn_ 43 85 17592186044415 HT_ ?_
               refine pn_ 44 86 35184372088831 HT_ ?_
               refine pn_ 45 87 70368744177663 HT_ ?_
               refine pn_ 46 88 140737488355327 HT_ ?_
               refine pn_ 47 89 281474976710655 HT_ ?_
               refine pn_ 48 90 562949953421311 HT_ ?_
               refine pu_ 49 91 1125899906842623 HT_ ?_
               refine dn_ HT_ ?_
               try go_wp2
               go_ret
               exact ⟨by first | rfl | (simp [errW_none, errW_some] <;> rfl) | (simp [*, errW_none, errW_some] <;> rfl) | (exfalso; simp_all), pH HB⟩
              ·rw [if_neg c27] at H
               have c27b0 : (((rd_T73 l1 x5_1).f0) == ((rd_T73 l1 x6_3).f0)) = false := beq_eq_false_iff_ne.mpr c27
               have c27b1 : (((rd_T73 l1 x5_1).f0) != ((rd_T73 l1 x6_3).f0)) = true := bne_iff_ne.mpr c27
               by_cases c29 : ((rd_T73 l1 x5_1).f0) = ((rd_T73 l1 x6_3).f1)
               ·rw [if_pos c29] at H
                have c29b0 : (((rd_T73 l1 x5_1).f0) == ((rd_T73 l1 x6_3).f1)) = true := beq_iff_eq.mpr c29
                have c29b1 : (((rd_T73 l1 x5_1).f0) != ((rd_T73 l1 x6_3).f1)) = false := bne_eq_false_iff_eq.mpr c29
                clear c29
                obtain rfl := Option.some.inj H
                try go_wp2
                replace BK238 := dB BK238
                replace HB := dH HB
                have p244 : 0 ≤ (x5_1 : Int) := of_decide_eq_true (by first | (with_reducible assumption) | assumption)
                have q244 : x5_1 < (l1.length : Int) := of_decide_eq_true (by first | (with_reducible assumption) | assumption)
                obtain ⟨ad244, e244, hx244_0, hx244_1⟩ := at_T73 HR1.out x5_1 p244 q244
                have hw244_1 := hx244_1
                have hw244_0 := hx244_0
                cases e244
                replace hx244_0 := cH HB hx244_0
                replace hx244_1 := cH HB hx244_1
                replace p244 := eq_true p244
                replace q244 := eq_true q244
                have p245 : 0 ≤ (x6_3 : Int) := of_decide_eq_true (by first | (with_reducible assumption) | assumption)
                have q245 : x6_3 < (l1.length : Int) := of_decide_eq_true (by first | (with_reducible assumption) | assumption)
                obtain ⟨ad245, e245, hx245_0, hx245_1⟩ := at_T73 HR1.out x6_3 p245 q245
                have hw245_1 := hx245_1
                have hw245_0 := hx245_0
                obtain rfl : ad244 = ad245 := (by injection e245)
                replace hx245_0 := cH HB hx245_0
                replace hx245_1 := cH HB hx245_1
                replace p245 := eq_true p245
                replace q245 := eq_true q245
                have p246 : 0 ≤ (x5_1 : Int) := of_decide_eq_true (by first | (with_reducible assumption) | assumption)
                have q246 : x5_1 < (l1.length : Int) := of_decide_eq_true (by first | (with_reducible assumption) | assumption)
                obtain ⟨ad246, e246, hx246_0, hx246_1⟩ := at_T73 HR1.out x5_1 p246 q246
                have hw246_1 := hx246_1
                have hw246_0 := hx246_0
                obtain rfl : ad244 = ad246 := (by injection e246)
                replace hx246_0 := cH HB hx246_0
                replace hx246_1 := cH HB hx246_1
                replace p246 := eq_true p246
                replace q246 := eq_true q246
                have p247 : 0 ≤ (x6_3 : Int) := of_decide_eq_true (by first | (with_reducible assumption) | assumption)
                have q247 : x6_3 < (l1.length : Int) := of_decide_eq_true (by first | (with_reducible assumption) | assumption)
                obtain ⟨ad247, e247, hx247_0, hx247_1⟩ := at_T73 HR1.out x6_3 p247 q247
                have hw247_1 := hx247_1
                have hw247_0 := hx247_0
                obtain rfl : ad244 = ad247 := (by injection e247)
                replace hx247_0 := cH HB hx247_0
                replace hx247_1 := cH HB hx247_1
                replace p247 := eq_true p247
                replace q247 := eq_true q247
                refine st_ 50 (S := fun w' => w'.cell? (ad244.add ((x5_1).toNat * 2)) = some (.int .i64 ((rd_T73 l1 x5_1).f0)) ∧ w'.cell? ⟨(ad244.add ((x5_1).toNat * 2)).block, (ad244.add ((x5_1).toNat * 2)).off + 1, none⟩ = some (.int .i64 ((rd_T73 l1 x5_1).f1)) ∧ w'.cell? (ad244.add ((x6_3).toNat * 2)) = some (.int .i64 ((rd_T73 l1 x6_3).f0)) ∧ w'.cell? ⟨(ad244.add ((x6_3).toNat * 2)).block, (ad244.add ((x6_3).toNat * 2)).off + 1, none⟩ = some (.int .i64 ((rd_T73 l1 x6_3).f1)) ∧ w'.cell? (ad244.add ((x5_1).toNat * 2)) = some (.int .i64 ((rd_T73 l1 x5_1).f0)) ∧ w'.cell? ⟨(ad244.add ((x5_1).toNat * 2)).block, (ad244.add ((x5_1).toNat * 2)).off + 1, none⟩ = some (.int .i64 ((rd_T73 l1 x5_1).f1)) ∧ w'.cell? (ad244.add ((x6_3).toNat * 2)) = some (.int .i64 ((rd_T73 l1 x6_3).f0)) ∧ w'.cell? ⟨(ad244.add ((x6_3).toNat * 2)).block, (ad244.add ((x6_3).toNat * 2)).off + 1, none⟩ = some (.int .i64 ((rd_T73 l1 x6_3).f1))) (ds := []) ⟨(cH HB hw244_0 :), (cH HB hw244_1 :), (cH HB hw245_0 :), (cH HB hw245_1 :), (cH HB hw246_0 :), (cH HB hw246_1 :), (cH HB hw247_0 :), (cH HB hw247_1 :)⟩ (fun hHeld => ?_); refine with_tabW spec_l02Is.tab9 spec_l02Is.bits9 (fun HT_ HW_ => ?_)
                generalize wr.drew = w30 at BK238 HB hx244_0 hx244_1 hx245_0 hx245_1 hx246_0 hx246_1 hx247_0 hx247_1 hHeld ⊢
                refine pu_ 0 42 1 HT_ ?_
                refine pu_ 1 43 3 HT_ ?_
                refine pu_ 2 44 7 HT_ ?_
                refine pu_ 3 45 15 HT_ ?_
                refine pu_ 5 47 47 HT_ ?_
                refine pu_ 6 48 111 HT_ ?_
                refine pu_ 7 49 239 HT_ ?_
                refine pu_ 8 50 495 HT_ ?_
                refine tk_ 4 46 511 HT_ HW_ hHeld ?_
                refine tk_ 9 51 1023 HT_ HW_ hHeld ?_
                refine pu_ 10 52 2047 HT_ ?_
                refine pu_ 11 53 4095 HT_ ?_
                refine pu_ 12 54 8191 HT_ ?_
                refine pu_ 13 55 16383 HT_ ?_
                refine pu_ 14 56 32767 HT_ ?_
                refine pu_ 15 57 65535 HT_ ?_
                refine pu_ 17 59 196607 HT_ ?_
                refine pu_ 18 60 458751 HT_ ?_
                refine pu_ 19 61 983039 HT_ ?_
                refine pu_ 20 62 2031615 HT_ ?_
                refine tk_ 16 58 2097151 HT_ HW_ hHeld ?_
                refine tk_ 21 63 4194303 HT_ HW_ hHeld ?_
                refine pu_ 22 64 8388607 HT_ ?_
                refine pu_ 23 65 16777215 HT_ ?_
                refine pu_ 24 66 33554431 HT_ ?_
                refine pn_ 25 67 67108863 HT_ ?_
                refine pn_ 26 68 134217727 HT_ ?_
                refine pn_ 27 69 268435455 HT_ ?_
                refine pn_ 28 70 536870911 HT_ ?_
                refine pn_ 29 71 1073741823 HT_ ?_
                refine pn_ 30 72 2147483647 HT_ ?_
                refine pn_ 31 73 4294967295 HT_ ?_
                refine pn_ 32 74 8589934591 HT_ ?_
                refine pn_ 33 75 17179869183 HT_ ?_
                refine pn_ 34 76 34359738367 HT_ ?_
                refine pn_ 35 77 68719476735 HT_ ?_
                refine pu_ 36 78 137438953471 HT_ ?_
                refine pu_ 37 79 274877906943 HT_ ?_
                refine pn_ 38 80 549755813887 HT_ ?_
                refine pn_ 39 81 1099511627775 HT_ ?_
                refine pn_ 40 82 2199023255551 HT_ ?_
                refine pn_ 41 83 4398046511103 HT_ ?_
                refine pn_ 42 84 8796093022207 HT_ ?_
                refine pn_ 43 85 17592186044415 HT_ ?_
                refine pn_ 44 86 35184372088831 HT_ ?_
                refine pn_ 45 87 70368744177663 HT_ ?_
                refine pn_ 46 88 140737488355327 HT_ ?_
                refine pn_ 47 89 281474976710655 HT_ ?_
                refine pn_ 48 90 562949953421311 HT_ ?_
                refine pu_ 49 91 1125899906842623 HT_ ?_
                refine dn_ HT_ ?_
                try go_wp2
                go_ret
                exact ⟨by first | rfl | (simp [errW_none, errW_some] <;> rfl) | (simp [*, errW_none, errW_some] <;> rfl) | (exfalso; simp_all), pH HB⟩
               ·rw [if_neg c29] at H
                have c29b0 : (((rd_T73 l1 x5_1).f0) == ((rd_T73 l1 x6_3).f1)) = false := beq_eq_false_iff_ne.mpr c29
                have c29b1 : (((rd_T73 l1 x5_1).f0) != ((rd_T73 l1 x6_3).f1)) = true := bne_iff_ne.mpr c29
                by_cases c31 : ((rd_T73 l1 x5_1).f1) = ((rd_T73 l1 x6_3).f0)
                ·rw [if_pos c31] at H
                 have c31b0 : (((rd_T73 l1 x5_1).f1) == ((rd_T73 l1 x6_3).f0)) = true := beq_iff_eq.mpr c31
                 have c31b1 : (((rd_T73 l1 x5_1).f1) != ((rd_T73 l1 x6_3).f0)) = false := bne_eq_false_iff_eq.mpr c31
                 clear c31
                 obtain rfl := Option.some.inj H
                 try go_wp2
                 replace BK238 := dB BK238
                 replace HB := dH HB
                 have p244 : 0 ≤ (x5_1 : Int) := of_decide_eq_true (by first | (with_reducible assumption) | assumption)
                 have q244 : x5_1 < (l1.length : Int) := of_decide_eq_true (by first | (with_reducible assumption) | assumption)
                 obtain ⟨ad244, e244, hx244_0, hx244_1⟩ := at_T73 HR1.out x5_1 p244 q244
                 have hw244_1 := hx244_1
                 have hw244_0 := hx244_0
                 cases e244
                 replace hx244_0 := cH HB hx244_0
                 replace hx244_1 := cH HB hx244_1
                 replace p244 := eq_true p244
                 replace q244 := eq_true q244
                 have p245 : 0 ≤ (x6_3 : Int) := of_decide_eq_true (by first | (with_reducible assumption) | assumption)
                 have q245 : x6_3 < (l1.length : Int) := of_decide_eq_true (by first | (with_reducible assumption) | assumption)
                 obtain ⟨ad245, e245, hx245_0, hx245_1⟩ := at_T73 HR1.out x6_3 p245 q245
                 have hw245_1 := hx245_1
                 have hw245_0 := hx245_0
                 obtain rfl : ad244 = ad245 := (by injection e245)
                 replace hx245_0 := cH HB hx245_0
                 replace hx245_1 := cH HB hx245_1
                 replace p245 := eq_true p245
                 replace q245 := eq_true q245
                 have p246 : 0 ≤ (x5_1 : Int) := of_decide_eq_true (by first | (with_reducible assumption) | assumption)
                 have q246 : x5_1 < (l1.length : Int) := of_decide_eq_true (by first | (with_reducible assumption) | assumption)
                 obtain ⟨ad246, e246, hx246_0, hx246_1⟩ := at_T73 HR1.out x5_1 p246 q246
                 have hw246_1 := hx246_1
                 have hw246_0 := hx246_0
                 obtain rfl : ad244 = ad246 := (by injection e246)
                 replace hx246_0 := cH HB hx246_0
                 replace hx246_1 := cH HB hx246_1
                 replace p246 := eq_true p246
                 replace q246 := eq_true q246
                 have p247 : 0 ≤ (x6_3 : Int) := of_decide_eq_true (by first | (with_reducible assumption) | assumption)
                 have q247 : x6_3 < (l1.length : Int) := of_decide_eq_true (by first | (with_reducible assumption) | assumption)
                 obtain ⟨ad247, e247, hx247_0, hx247_1⟩ := at_T73 HR1.out x6_3 p247 q247
                 have hw247_1 := hx247_1
                 have hw247_0 := hx247_0
                 obtain rfl : ad244 = ad247 := (by injection e247)
                 replace hx247_0 := cH HB hx247_0
                 replace hx247_1 := cH HB hx247_1
                 replace p247 := eq_true p247
                 replace q247 := eq_true q247
                 have p248 : 0 ≤ (x5_1 : Int) := of_decide_eq_true (by first | (with_reducible assumption) | assumption)
                 have q248 : x5_1 < (l1.length : Int) := of_decide_eq_true (by first | (with_reducible assumption) | assumption)
                 obtain ⟨ad248, e248, hx248_0, hx248_1⟩ := at_T73 HR1.out x5_1 p248 q248
                 have hw248_1 := hx248_1
                 have hw248_0 := hx248_0
                 obtain rfl : ad244 = ad248 := (by injection e248)
                 replace hx248_0 := cH HB hx248_0
                 replace hx248_1 := cH HB hx248_1
                 replace p248 := eq_true p248
                 replace q248 := eq_true q248
                 have p249 : 0 ≤ (x6_3 : Int) := of_decide_eq_true (by first | (with_reducible assumption) | assumption)
                 have q249 : x6_3 < (l1.length : Int) := of_decide_eq_true (by first | (with_reducible assumption) | assumption)
                 obtain ⟨ad249, e249, hx249_0, hx249_1⟩ := at_T73 HR1.out x6_3 p249 q249
                 have hw249_1 := hx249_1
                 have hw249_0 := hx249_0
                 obtain rfl : ad244 = ad249 := (by injection e249)
                 replace hx249_0 := cH HB hx249_0
                 replace hx249_1 := cH HB hx249_1
                 replace p249 := eq_true p249
                 replace q249 := eq_true q249
                 refine st_ 50 (S := fun w' => w'.cell? (ad244.add ((x5_1).toNat * 2)) = some (.int .i64 ((rd_T73 l1 x5_1).f0)) ∧ w'.cell? ⟨(ad244.add ((x5_1).toNat * 2)).block, (ad244.add ((x5_1).toNat * 2)).off + 1, none⟩ = some (.int .i64 ((rd_T73 l1 x5_1).f1)) ∧ w'.cell? (ad244.add ((x6_3).toNat * 2)) = some (.int .i64 ((rd_T73 l1 x6_3).f0)) ∧ w'.cell? ⟨(ad244.add ((x6_3).toNat * 2)).block, (ad244.add ((x6_3).toNat * 2)).off + 1, none⟩ = some (.int .i64 ((rd_T73 l1 x6_3).f1)) ∧ w'.cell? (ad244.add ((x5_1).toNat * 2)) = some (.int .i64 ((rd_T73 l1 x5_1).f0)) ∧ w'.cell? ⟨(ad244.add ((x5_1).toNat * 2)).block, (ad244.add ((x5_1).toNat * 2)).off + 1, none⟩ = some (.int .i64 ((rd_T73 l1 x5_1).f1)) ∧ w'.cell? (ad244.add ((x6_3).toNat * 2)) = some (.int .i64 ((rd_T73 l1 x6_3).f0)) ∧ w'.cell? ⟨(ad244.add ((x6_3).toNat * 2)).block, (ad244.add ((x6_3).toNat * 2)).off + 1, none⟩ = some (.int .i64 ((rd_T73 l1 x6_3).f1)) ∧ w'.cell? (ad244.add ((x5_1).toNat * 2)) = some (.int .i64 ((rd_T73 l1 x5_1).f0)) ∧ w'.cell? ⟨(ad244.add ((x5_1).toNat * 2)).block, (ad244.add ((x5_1).toNat * 2)).off + 1, none⟩ = some (.int .i64 ((rd_T73 l1 x5_1).f1)) ∧ w'.cell? (ad244.add ((x6_3).toNat * 2)) = some (.int .i64 ((rd_T73 l1 x6_3).f0)) ∧ w'.cell? ⟨(ad244.add ((x6_3).toNat * 2)).block, (ad244.add ((x6_3).toNat * 2)).off + 1, none⟩ = some (.int .i64 ((rd_T73 l1 x6_3).f1))) (ds := []) ⟨(cH HB hw244_0 :), (cH HB hw244_1 :), (cH HB hw245_0 :), (cH HB hw245_1 :), (cH HB hw246_0 :), (cH HB hw246_1 :), (cH HB hw247_0 :), (cH HB hw247_1 :), (cH HB hw248_0 :), (cH HB hw248_1 :), (cH HB hw249_0 :), (cH HB hw249_1 :)⟩ (fun hHeld => ?_); refine with_tabW spec_l02Is.tab9 spec_l02Is.bits9 (fun HT_ HW_ => ?_)
                 generalize wr.drew = w32 at BK238 HB hx244_0 hx244_1 hx245_0 hx245_1 hx246_0 hx246_1 hx247_0 hx247_1 hx248_0 hx248_1 hx249_0 hx249_1 hHeld ⊢
                 refine pu_ 0 42 1 HT_ ?_
                 refine pu_ 1 43 3 HT_ ?_
                 refine pu_ 2 44 7 HT_ ?_
                 refine pu_ 3 45 15 HT_ ?_
                 refine pu_ 5 47 47 HT_ ?_
                 refine pu_ 6 48 111 HT_ ?_
                 refine pu_ 7 49 239 HT_ ?_
                 refine pu_ 8 50 495 HT_ ?_
                 refine tk_ 4 46 511 HT_ HW_ hHeld ?_
                 refine tk_ 9 51 1023 HT_ HW_ hHeld ?_
                 refine pu_ 10 52 2047 HT_ ?_
                 refine pu_ 11 53 4095 HT_ ?_
                 refine pu_ 12 54 8191 HT_ ?_
                 refine pu_ 13 55 16383 HT_ ?_
                 refine pu_ 14 56 32767 HT_ ?_
                 refine pu_ 15 57 65535 HT_ ?_
                 refine pu_ 17 59 196607 HT_ ?_
                 refine pu_ 18 60 458751 HT_ ?_
                 refine pu_ 19 61 983039 HT_ ?_
                 refine pu_ 20 62 2031615 HT_ ?_
                 refine tk_ 16 58 2097151 HT_ HW_ hHeld ?_
                 refine tk_ 21 63 4194303 HT_ HW_ hHeld ?_
                 refine pu_ 22 64 8388607 HT_ ?_
                 refine pu_ 23 65 16777215 HT_ ?_
                 refine pu_ 24 66 33554431 HT_ ?_
                 refine pu_ 25 67 67108863 HT_ ?_
                 refine pu_ 26 68 134217727 HT_ ?_
                 refine pu_ 27 69 268435455 HT_ ?_
                 refine pu_ 28 70 536870911 HT_ ?_
                 refine pu_ 30 72 1610612735 HT_ ?_
                 refine pu_ 31 73 3758096383 HT_ ?_
                 refine pu_ 32 74 8053063679 HT_ ?_
                 refine pu_ 33 75 16642998271 HT_ ?_
                 refine tk_ 29 71 17179869183 HT_ HW_ hHeld ?_
                 refine tk_ 34 76 34359738367 HT_ HW_ hHeld ?_
                 refine pu_ 35 77 68719476735 HT_ ?_
                 refine pu_ 36 78 137438953471 HT_ ?_
                 refine pu_ 37 79 274877906943 HT_ ?_
                 refine pn_ 38 80 549755813887 HT_ ?_
                 refine pn_ 39 81 1099511627775 HT_ ?_
                 refine pn_ 40 82 2199023255551 HT_ ?_
                 refine pn_ 41 83 4398046511103 HT_ ?_
                 refine pn_ 42 84 8796093022207 HT_ ?_
                 refine pn_ 43 85 17592186044415 HT_ ?_
                 refine pn_ 44 86 35184372088831 HT_ ?_
                 refine pn_ 45 87 70368744177663 HT_ ?_
                 refine pn_ 46 88 140737488355327 HT_ ?_
                 refine pn_ 47 89 281474976710655 HT_ ?_
                 refine pn_ 48 90 562949953421311 HT_ ?_
                 refine pu_ 49 91 1125899906842623 HT_ ?_
                 refine dn_ HT_ ?_
                 try go_wp2
                 go_ret
                 exact ⟨by first | rfl | (simp [errW_none, errW_some] <;> rfl) | (simp [*, errW_none, errW_some] <;> rfl) | (exfalso; simp_all), pH HB⟩
                ·rw [if_neg c31] at H
                 have c31b0 : (((rd_T73 l1 x5_1).f1) == ((rd_T73 l1 x6_3).f0)) = false := beq_eq_false_iff_ne.mpr c31
                 have c31b1 : (((rd_T73 l1 x5_1).f1) != ((rd_T73 l1 x6_3).f0)) = true := bne_iff_ne.mpr c31
                 by_cases c33 : ((rd_T73 l1 x5_1).f1) = ((rd_T73 l1 x6_3).f1)
                 ·rw [if_pos c33] at H
                  have c33b0 : (((rd_T73 l1 x5_1).f1) == ((rd_T73 l1 x6_3).f1)) = true := beq_iff_eq.mpr c33
                  have c33b1 : (((rd_T73 l1 x5_1).f1) != ((rd_T73 l1 x6_3).f1)) = false := bne_eq_false_iff_eq.mpr c33
                  clear c33
                  obtain rfl := Option.some.inj H
                  try go_wp2
                  replace BK238 := dB BK238
                  replace HB := dH HB
                  have p244 : 0 ≤ (x5_1 : Int) := of_decide_eq_true (by first | (with_reducible assumption) | assumption)
                  have q244 : x5_1 < (l1.length : Int) := of_decide_eq_true (by first | (with_reducible assumption) | assumption)
                  obtain ⟨ad244, e244, hx244_0, hx244_1⟩ := at_T73 HR1.out x5_1 p244 q244
                  have hw244_1 := hx244_1
                  have hw244_0 := hx244_0
                  cases e244
                  replace hx244_0 := cH HB hx244_0
                  replace hx244_1 := cH HB hx244_1
                  replace p244 := eq_true p244
                  replace q244 := eq_true q244
                  have p245 : 0 ≤ (x6_3 : Int) := of_decide_eq_true (by first | (with_reducible assumption) | assumption)
                  have q245 : x6_3 < (l1.length : Int) := of_decide_eq_true (by first | (with_reducible assumption) | assumption)
                  obtain ⟨ad245, e245, hx245_0, hx245_1⟩ := at_T73 HR1.out x6_3 p245 q245
                  have hw245_1 := hx245_1
                  have hw245_0 := hx245_0
                  obtain rfl : ad244 = ad245 := (by injection e245)
                  replace hx245_0 := cH HB hx245_0
                  replace hx245_1 := cH HB hx245_1
                  replace p245 := eq_true p245
                  replace q245 := eq_true q245
                  have p246 : 0 ≤ (x5_1 : Int) := of_decide_eq_true (by first | (with_reducible assumption) | assumption)
                  have q246 : x5_1 < (l1.length : Int) := of_decide_eq_true (by first | (with_reducible assumption) | assumption)
                  obtain ⟨ad246, e246, hx246_0, hx246_1⟩ := at_T73 HR1.out x5_1 p246 q246
                  have hw246_1 := hx246_1
                  have hw246_0 := hx246_0
                  obtain rfl : ad244 = ad246 := (by injection e246)
                  replace hx246_0 := cH HB hx246_0
                  replace hx246_1 := cH HB hx246_1
                  replace p246 := eq_true p246
                  replace q246 := eq_true q246
                  have p247 : 0 ≤ (x6_3 : Int) := of_decide_eq_true (by first | (with_reducible assumption) | assumption)
                  have q247 : x6_3 < (l1.length : Int) := of_decide_eq_true (by first | (with_reducible assumption) | assumption)
                  obtain ⟨ad247, e247, hx247_0, hx247_1⟩ := at_T73 HR1.out x6_3 p247 q247
                  have hw247_1 := hx247_1
                  have hw247_0 := hx247_0
                  obtain rfl : ad244 = ad247 := (by injection e247)
                  replace hx247_0 := cH HB hx247_0
                  replace hx247_1 := cH HB hx247_1
                  replace p247 := eq_true p247
                  replace q247 := eq_true q247
                  have p248 : 0 ≤ (x5_1 : Int) := of_decide_eq_true (by first | (with_reducible assumption) | assumption)
                  have q248 : x5_1 < (l1.length : Int) := of_decide_eq_true (by first | (with_reducible assumption) | assumption)
                  obtain ⟨ad248, e248, hx248_0, hx248_1⟩ := at_T73 HR1.out x5_1 p248 q248
                  have hw248_1 := hx248_1
                  have hw248_0 := hx248_0
                  obtain rfl : ad244 = ad248 := (by injection e248)
                  replace hx248_0 := cH HB hx248_0
                  replace hx248_1 := cH HB hx248_1
                  replace p248 := eq_true p248
                  replace q248 := eq_true q248
                  have p249 : 0 ≤ (x6_3 : Int) := of_decide_eq_true (by first | (with_reducible assumption) | assumption)
                  have q249 : x6_3 < (l1.length : Int) := of_decide_eq_true (by first | (with_reducible assumption) | assumption)
                  obtain ⟨ad249, e249, hx249_0, hx249_1⟩ := at_T73 HR1.out x6_3 p249 q249
                  have hw249_1 := hx249_1
                  have hw249_0 := hx249_0
                  obtain rfl : ad244 = ad249 := (by injection e249)
                  replace hx249_0 := cH HB hx249_0
                  replace hx249_1 := cH HB hx249_1
                  replace p249 := eq_true p249
                  replace q249 := eq_true q249
                  have p250 : 0 ≤ (x5_1 : Int) := of_decide_eq_true (by first | (with_reducible assumption) | assumption)
                  have q250 : x5_1 < (l1.length : Int) := of_decide_eq_true (by first | (with_reducible assumption) | assumption)
                  obtain ⟨ad250, e250, hx250_0, hx250_1⟩ := at_T73 HR1.out x5_1 p250 q250
                  have hw250_1 := hx250_1
                  have hw250_0 := hx250_0
                  obtain rfl : ad244 = ad250 := (by injection e250)
                  replace hx250_0 := cH HB hx250_0
                  replace hx250_1 := cH HB hx250_1
                  replace p250 := eq_true p250
                  replace q250 := eq_true q250
                  have p251 : 0 ≤ (x6_3 : Int) := of_decide_eq_true (by first | (with_reducible assumption) | assumption)
                  have q251 : x6_3 < (l1.length : Int) := of_decide_eq_true (by first | (with_reducible assumption) | assumption)
                  obtain ⟨ad251, e251, hx251_0, hx251_1⟩ := at_T73 HR1.out x6_3 p251 q251
                  have hw251_1 := hx251_1
                  have hw251_0 := hx251_0
                  obtain rfl : ad244 = ad251 := (by injection e251)
                  replace hx251_0 := cH HB hx251_0
                  replace hx251_1 := cH HB hx251_1
                  replace p251 := eq_true p251
                  replace q251 := eq_true q251
                  refine st_ 50 (S := fun w' => w'.cell? (ad244.add ((x5_1).toNat * 2)) = some (.int .i64 ((rd_T73 l1 x5_1).f0)) ∧ w'.cell? ⟨(ad244.add ((x5_1).toNat * 2)).block, (ad244.add ((x5_1).toNat * 2)).off + 1, none⟩ = some (.int .i64 ((rd_T73 l1 x5_1).f1)) ∧ w'.cell? (ad244.add ((x6_3).toNat * 2)) = some (.int .i64 ((rd_T73 l1 x6_3).f0)) ∧ w'.cell? ⟨(ad244.add ((x6_3).toNat * 2)).block, (ad244.add ((x6_3).toNat * 2)).off + 1, none⟩ = some (.int .i64 ((rd_T73 l1 x6_3).f1)) ∧ w'.cell? (ad244.add ((x5_1).toNat * 2)) = some (.int .i64 ((rd_T73 l1 x5_1).f0)) ∧ w'.cell? ⟨(ad244.add ((x5_1).toNat * 2)).block, (ad244.add ((x5_1).toNat * 2)).off + 1, none⟩ = some (.int .i64 ((rd_T73 l1 x5_1).f1)) ∧ w'.cell? (ad244.add ((x6_3).toNat * 2)) = some (.int .i64 ((rd_T73 l1 x6_3).f0)) ∧ w'.cell? ⟨(ad244.add ((x6_3).toNat * 2)).block, (ad244.add ((x6_3).toNat * 2)).off + 1, none⟩ = some (.int .i64 ((rd_T73 l1 x6_3).f1)) ∧ w'.cell? (ad244.add ((x5_1).toNat * 2)) = some (.int .i64 ((rd_T73 l1 x5_1).f0)) ∧ w'.cell? ⟨(ad244.add ((x5_1).toNat * 2)).block, (ad244.add ((x5_1).toNat * 2)).off + 1, none⟩ = some (.int .i64 ((rd_T73 l1 x5_1).f1)) ∧ w'.cell? (ad244.add ((x6_3).toNat * 2)) = some (.int .i64 ((rd_T73 l1 x6_3).f0)) ∧ w'.cell? ⟨(ad244.add ((x6_3).toNat * 2)).block, (ad244.add ((x6_3).toNat * 2)).off + 1, none⟩ = some (.int .i64 ((rd_T73 l1 x6_3).f1)) ∧ w'.cell? (ad244.add ((x5_1).toNat * 2)) = some (.int .i64 ((rd_T73 l1 x5_1).f0)) ∧ w'.cell? ⟨(ad244.add ((x5_1).toNat * 2)).block, (ad244.add ((x5_1).toNat * 2)).off + 1, none⟩ = some (.int .i64 ((rd_T73 l1 x5_1).f1)) ∧ w'.cell? (ad244.add ((x6_3).toNat * 2)) = some (.int .i64 ((rd_T73 l1 x6_3).f0)) ∧ w'.cell? ⟨(ad244.add ((x6_3).toNat * 2)).block, (ad244.add ((x6_3).toNat * 2)).off + 1, none⟩ = some (.int .i64 ((rd_T73 l1 x6_3).f1))) (ds := []) ⟨(cH HB hw244_0 :), (cH HB hw244_1 :), (cH HB hw245_0 :), (cH HB hw245_1 :), (cH HB hw246_0 :), (cH HB hw246_1 :), (cH HB hw247_0 :), (cH HB hw247_1 :), (cH HB hw248_0 :), (cH HB hw248_1 :), (cH HB hw249_0 :), (cH HB hw249_1 :), (cH HB hw250_0 :), (cH HB hw250_1 :), (cH HB hw251_0 :), (cH HB hw251_1 :)⟩ (fun hHeld => ?_); refine with_tabW spec_l02Is.tab9 spec_l02Is.bits9 (fun HT_ HW_ => ?_)
                  generalize wr.drew = w34 at BK238 HB hx244_0 hx244_1 hx245_0 hx245_1 hx246_0 hx246_1 hx247_0 hx247_1 hx248_0 hx248_1 hx249_0 hx249_1 hx250_0 hx250_1 hx251_0 hx251_1 hHeld ⊢
                  refine pu_ 0 42 1 HT_ ?_
                  refine pu_ 1 43 3 HT_ ?_
                  refine pu_ 2 44 7 HT_ ?_
                  refine pu_ 3 45 15 HT_ ?_
                  refine pu_ 5 47 47 HT_ ?_
                  refine pu_ 6 48 111 HT_ ?_
                  refine pu_ 7 49 239 HT_ ?_
                  refine pu_ 8 50 495 HT_ ?_
                  refine tk_ 4 46 511 HT_ HW_ hHeld ?_
                  refine tk_ 9 51 1023 HT_ HW_ hHeld ?_
                  refine pu_ 10 52 2047 HT_ ?_
                  refine pu_ 11 53 4095 HT_ ?_
                  refine pu_ 12 54 8191 HT_ ?_
                  refine pu_ 13 55 16383 HT_ ?_
                  refine pu_ 14 56 32767 HT_ ?_
                  refine pu_ 15 57 65535 HT_ ?_
                  refine pu_ 17 59 196607 HT_ ?_
                  refine pu_ 18 60 458751 HT_ ?_
                  refine pu_ 19 61 983039 HT_ ?_
                  refine pu_ 20 62 2031615 HT_ ?_
                  refine tk_ 16 58 2097151 HT_ HW_ hHeld ?_
                  refine tk_ 21 63 4194303 HT_ HW_ hHeld ?_
                  refine pu_ 22 64 8388607 HT_ ?_
                  refine pu_ 23 65 16777215 HT_ ?_
                  refine pu_ 24 66 33554431 HT_ ?_
                  refine pu_ 25 67 67108863 HT_ ?_
                  refine pu_ 26 68 134217727 HT_ ?_
                  refine pu_ 27 69 268435455 HT_ ?_
                  refine pu_ 28 70 536870911 HT_ ?_
                  refine pu_ 30 72 1610612735 HT_ ?_
                  refine pu_ 31 73 3758096383 HT_ ?_
                  refine pu_ 32 74 8053063679 HT_ ?_
                  refine pu_ 33 75 16642998271 HT_ ?_
                  refine tk_ 29 71 17179869183 HT_ HW_ hHeld ?_
                  refine tk_ 34 76 34359738367 HT_ HW_ hHeld ?_
                  refine pu_ 35 77 68719476735 HT_ ?_
                  refine pu_ 36 78 137438953471 HT_ ?_
                  refine pu_ 37 79 274877906943 HT_ ?_
                  refine pu_ 38 80 549755813887 HT_ ?_
                  refine pu_ 39 81 1099511627775 HT_ ?_
                  refine pu_ 40 82 2199023255551 HT_ ?_
                  refine pu_ 41 83 4398046511103 HT_ ?_
                  refine pu_ 43 85 13194139533311 HT_ ?_
                  refine pu_ 44 86 30786325577727 HT_ ?_
                  refine pu_ 45 87 65970697666559 HT_ ?_
                  refine pu_ 46 88 136339441844223 HT_ ?_
                  refine tk_ 42 84 140737488355327 HT_ HW_ hHeld ?_
                  refine tk_ 47 89 281474976710655 HT_ HW_ hHeld ?_
                  refine pu_ 48 90 562949953421311 HT_ ?_
                  refine pu_ 49 91 1125899906842623 HT_ ?_
                  refine dn_ HT_ ?_
                  try go_wp2
                  go_ret
                  exact ⟨by first | rfl | (simp [errW_none, errW_some] <;> rfl) | (simp [*, errW_none, errW_some] <;> rfl) | (exfalso; simp_all), pH HB⟩
                 ·rw [if_neg c33] at H
                  have c33b0 : (((rd_T73 l1 x5_1).f1) == ((rd_T73 l1 x6_3).f1)) = false := beq_eq_false_iff_ne.mpr c33
                  have c33b1 : (((rd_T73 l1 x5_1).f1) != ((rd_T73 l1 x6_3).f1)) = true := bne_iff_ne.mpr c33
                  have H' := Aside0.mk H
                  clear H
                  try go_wp2
                  replace BK238 := dB BK238
                  replace HB := dH HB
                  have p244 : 0 ≤ (x5_1 : Int) := of_decide_eq_true (by first | (with_reducible assumption) | assumption)
                  have q244 : x5_1 < (l1.length : Int) := of_decide_eq_true (by first | (with_reducible assumption) | assumption)
                  obtain ⟨ad244, e244, hx244_0, hx244_1⟩ := at_T73 HR1.out x5_1 p244 q244
                  have hw244_1 := hx244_1
                  have hw244_0 := hx244_0
                  cases e244
                  replace hx244_0 := cH HB hx244_0
                  replace hx244_1 := cH HB hx244_1
                  replace p244 := eq_true p244
                  replace q244 := eq_true q244
                  have p245 : 0 ≤ (x6_3 : Int) := of_decide_eq_true (by first | (with_reducible assumption) | assumption)
                  have q245 : x6_3 < (l1.length : Int) := of_decide_eq_true (by first | (with_reducible assumption) | assumption)
                  obtain ⟨ad245, e245, hx245_0, hx245_1⟩ := at_T73 HR1.out x6_3 p245 q245
                  have hw245_1 := hx245_1
                  have hw245_0 := hx245_0
                  obtain rfl : ad244 = ad245 := (by injection e245)
                  replace hx245_0 := cH HB hx245_0
                  replace hx245_1 := cH HB hx245_1
                  replace p245 := eq_true p245
                  replace q245 := eq_true q245
                  have p246 : 0 ≤ (x5_1 : Int) := of_decide_eq_true (by first | (with_reducible assumption) | assumption)
                  have q246 : x5_1 < (l1.length : Int) := of_decide_eq_true (by first | (with_reducible assumption) | assumption)
                  obtain ⟨ad246, e246, hx246_0, hx246_1⟩ := at_T73 HR1.out x5_1 p246 q246
                  have hw246_1 := hx246_1
                  have hw246_0 := hx246_0
                  obtain rfl : ad244 = ad246 := (by injection e246)
                  replace hx246_0 := cH HB hx246_0
                  replace hx246_1 := cH HB hx246_1
                  replace p246 := eq_true p246
                  replace q246 := eq_true q246
                  have p247 : 0 ≤ (x6_3 : Int) := of_decide_eq_true (by first | (with_reducible assumption) | assumption)
                  have q247 : x6_3 < (l1.length : Int) := of_decide_eq_true (by first | (with_reducible assumption) | assumption)
                  obtain ⟨ad247, e247, hx247_0, hx247_1⟩ := at_T73 HR1.out x6_3 p247 q247
                  have hw247_1 := hx247_1
                  have hw247_0 := hx247_0
                  obtain rfl : ad244 = ad247 := (by injection e247)
                  replace hx247_0 := cH HB hx247_0
                  replace hx247_1 := cH HB hx247_1
                  replace p247 := eq_true p247
                  replace q247 := eq_true q247
                  have p248 : 0 ≤ (x5_1 : Int) := of_decide_eq_true (by first | (with_reducible assumption) | assumption)
                  have q248 : x5_1 < (l1.length : Int) := of_decide_eq_true (by first | (with_reducible assumption) | assumption)
                  obtain ⟨ad248, e248, hx248_0, hx248_1⟩ := at_T73 HR1.out x5_1 p248 q248
                  have hw248_1 := hx248_1
                  have hw248_0 := hx248_0
                  obtain rfl : ad244 = ad248 := (by injection e248)
                  replace hx248_0 := cH HB hx248_0
                  replace hx248_1 := cH HB hx248_1
                  replace p248 := eq_true p248
                  replace q248 := eq_true q248
                  have p249 : 0 ≤ (x6_3 : Int) := of_decide_eq_true (by first | (with_reducible assumption) | assumption)
                  have q249 : x6_3 < (l1.length : Int) := of_decide_eq_true (by first | (with_reducible assumption) | assumption)
                  obtain ⟨ad249, e249, hx249_0, hx249_1⟩ := at_T73 HR1.out x6_3 p249 q249
                  have hw249_1 := hx249_1
                  have hw249_0 := hx249_0
                  obtain rfl : ad244 = ad249 := (by injection e249)
                  replace hx249_0 := cH HB hx249_0
                  replace hx249_1 := cH HB hx249_1
                  replace p249 := eq_true p249
                  replace q249 := eq_true q249
                  have p250 : 0 ≤ (x5_1 : Int) := of_decide_eq_true (by first | (with_reducible assumption) | assumption)
                  have q250 : x5_1 < (l1.length : Int) := of_decide_eq_true (by first | (with_reducible assumption) | assumption)
                  obtain ⟨ad250, e250, hx250_0, hx250_1⟩ := at_T73 HR1.out x5_1 p250 q250
                  have hw250_1 := hx250_1
                  have hw250_0 := hx250_0
                  obtain rfl : ad244 = ad250 := (by injection e250)
                  replace hx250_0 := cH HB hx250_0
                  replace hx250_1 := cH HB hx250_1
                  replace p250 := eq_true p250
                  replace q250 := eq_true q250
                  have p251 : 0 ≤ (x6_3 : Int) := of_decide_eq_true (by first | (with_reducible assumption) | assumption)
                  have q251 : x6_3 < (l1.length : Int) := of_decide_eq_true (by first | (with_reducible assumption) | assumption)
                  obtain ⟨ad251, e251, hx251_0, hx251_1⟩ := at_T73 HR1.out x6_3 p251 q251
                  have hw251_1 := hx251_1
                  have hw251_0 := hx251_0
                  obtain rfl : ad244 = ad251 := (by injection e251)
                  replace hx251_0 := cH HB hx251_0
                  replace hx251_1 := cH HB hx251_1
                  replace p251 := eq_true p251
                  replace q251 := eq_true q251
                  refine st_ 50 (S := fun w' => w'.cell? (ad244.add ((x5_1).toNat * 2)) = some (.int .i64 ((rd_T73 l1 x5_1).f0)) ∧ w'.cell? ⟨(ad244.add ((x5_1).toNat * 2)).block, (ad244.add ((x5_1).toNat * 2)).off + 1, none⟩ = some (.int .i64 ((rd_T73 l1 x5_1).f1)) ∧ w'.cell? (ad244.add ((x6_3).toNat * 2)) = some (.int .i64 ((rd_T73 l1 x6_3).f0)) ∧ w'.cell? ⟨(ad244.add ((x6_3).toNat * 2)).block, (ad244.add ((x6_3).toNat * 2)).off + 1, none⟩ = some (.int .i64 ((rd_T73 l1 x6_3).f1)) ∧ w'.cell? (ad244.add ((x5_1).toNat * 2)) = some (.int .i64 ((rd_T73 l1 x5_1).f0)) ∧ w'.cell? ⟨(ad244.add ((x5_1).toNat * 2)).block, (ad244.add ((x5_1).toNat * 2)).off + 1, none⟩ = some (.int .i64 ((rd_T73 l1 x5_1).f1)) ∧ w'.cell? (ad244.add ((x6_3).toNat * 2)) = some (.int .i64 ((rd_T73 l1 x6_3).f0)) ∧ w'.cell? ⟨(ad244.add ((x6_3).toNat * 2)).block, (ad244.add ((x6_3).toNat * 2)).off + 1, none⟩ = some (.int .i64 ((rd_T73 l1 x6_3).f1)) ∧ w'.cell? (ad244.add ((x5_1).toNat * 2)) = some (.int .i64 ((rd_T73 l1 x5_1).f0)) ∧ w'.cell? ⟨(ad244.add ((x5_1).toNat * 2)).block, (ad244.add ((x5_1).toNat * 2)).off + 1, none⟩ = some (.int .i64 ((rd_T73 l1 x5_1).f1)) ∧ w'.cell? (ad244.add ((x6_3).toNat * 2)) = some (.int .i64 ((rd_T73 l1 x6_3).f0)) ∧ w'.cell? ⟨(ad244.add ((x6_3).toNat * 2)).block, (ad244.add ((x6_3).toNat * 2)).off + 1, none⟩ = some (.int .i64 ((rd_T73 l1 x6_3).f1)) ∧ w'.cell? (ad244.add ((x5_1).toNat * 2)) = some (.int .i64 ((rd_T73 l1 x5_1).f0)) ∧ w'.cell? ⟨(ad244.add ((x5_1).toNat * 2)).block, (ad244.add ((x5_1).toNat * 2)).off + 1, none⟩ = some (.int .i64 ((rd_T73 l1 x5_1).f1)) ∧ w'.cell? (ad244.add ((x6_3).toNat * 2)) = some (.int .i64 ((rd_T73 l1 x6_3).f0)) ∧ w'.cell? ⟨(ad244.add ((x6_3).toNat * 2)).block, (ad244.add ((x6_3).toNat * 2)).off + 1, none⟩ = some (.int .i64 ((rd_T73 l1 x6_3).f1))) (ds := []) ⟨(cH HB hw244_0 :), (cH HB hw244_1 :), (cH HB hw245_0 :), (cH HB hw245_1 :), (cH HB hw246_0 :), (cH HB hw246_1 :), (cH HB hw247_0 :), (cH HB hw247_1 :), (cH HB hw248_0 :), (cH HB hw248_1 :), (cH HB hw249_0 :), (cH HB hw249_1 :), (cH HB hw250_0 :), (cH HB hw250_1 :), (cH HB hw251_0 :), (cH HB hw251_1 :)⟩ (fun hHeld => ?_); refine with_tabW spec_l02Is.tab9 spec_l02Is.bits9 (fun HT_ HW_ => ?_)
                  generalize wr.drew = w35 at BK238 HB hx244_0 hx244_1 hx245_0 hx245_1 hx246_0 hx246_1 hx247_0 hx247_1 hx248_0 hx248_1 hx249_0 hx249_1 hx250_0 hx250_1 hx251_0 hx251_1 hHeld ⊢
                  refine pu_ 0 42 1 HT_ ?_
                  refine pu_ 1 43 3 HT_ ?_
                  refine pu_ 2 44 7 HT_ ?_
                  refine pu_ 3 45 15 HT_ ?_
                  refine pu_ 5 47 47 HT_ ?_
                  refine pu_ 6 48 111 HT_ ?_
                  refine pu_ 7 49 239 HT_ ?_
                  refine pu_ 8 50 495 HT_ ?_
                  refine tk_ 4 46 511 HT_ HW_ hHeld ?_
                  refine tk_ 9 51 1023 HT_ HW_ hHeld ?_
                  refine pu_ 10 52 2047 HT_ ?_
                  refine pu_ 11 53 4095 HT_ ?_
                  refine pu_ 12 54 8191 HT_ ?_
                  refine pu_ 13 55 16383 HT_ ?_
                  refine pu_ 14 56 32767 HT_ ?_
                  refine pu_ 15 57 65535 HT_ ?_
                  refine pu_ 17 59 196607 HT_ ?_
                  refine pu_ 18 60 458751 HT_ ?_
                  refine pu_ 19 61 983039 HT_ ?_
                  refine pu_ 20 62 2031615 HT_ ?_
                  refine tk_ 16 58 2097151 HT_ HW_ hHeld ?_
                  refine tk_ 21 63 4194303 HT_ HW_ hHeld ?_
                  refine pu_ 22 64 8388607 HT_ ?_
                  refine pu_ 23 65 16777215 HT_ ?_
                  refine pu_ 24 66 33554431 HT_ ?_
                  refine pu_ 25 67 67108863 HT_ ?_
                  refine pu_ 26 68 134217727 HT_ ?_
                  refine pu_ 27 69 268435455 HT_ ?_
                  refine pu_ 28 70 536870911 HT_ ?_
                  refine pu_ 30 72 1610612735 HT_ ?_
                  refine pu_ 31 73 3758096383 HT_ ?_
                  refine pu_ 32 74 8053063679 HT_ ?_
                  refine pu_ 33 75 16642998271 HT_ ?_
                  refine tk_ 29 71 17179869183 HT_ HW_ hHeld ?_
                  refine tk_ 34 76 34359738367 HT_ HW_ hHeld ?_
                  refine pu_ 35 77 68719476735 HT_ ?_
                  refine pu_ 36 78 137438953471 HT_ ?_
                  refine pu_ 37 79 274877906943 HT_ ?_
                  refine pu_ 38 80 549755813887 HT_ ?_
                  refine pu_ 39 81 1099511627775 HT_ ?_
                  refine pu_ 40 82 2199023255551 HT_ ?_
                  refine pu_ 41 83 4398046511103 HT_ ?_
                  refine pu_ 43 85 13194139533311 HT_ ?_
                  refine pu_ 44 86 30786325577727 HT_ ?_
                  refine pu_ 45 87 65970697666559 HT_ ?_
                  refine pu_ 46 88 136339441844223 HT_ ?_
                  refine tk_ 42 84 140737488355327 HT_ HW_ hHeld ?_
                  refine tk_ 47 89 281474976710655 HT_ HW_ hHeld ?_
                  refine pu_ 48 90 562949953421311 HT_ ?_
                  refine pu_ 49 91 1125899906842623 HT_ ?_
                  refine dn_ HT_ ?_
                  try go_wp2
                  go_roundg k3
                  case measure => have := HK1.out; have := HJ4.out; have := HK3.out; omega
                  case rel => exact ⟨(wrap64 (x6_3 + 1)), (by first | rfl | (simp; done) | (simp [*]; done)), H', ⟨by have := HK1.out; have := HJ4.out; have := HK3.out; omega⟩, ⟨pB BK238⟩, ⟨pH HB⟩⟩
             ·rw [if_neg c26] at H
              exact absurd H (by simp)
            ·rw [if_neg c25] at H
             exact absurd H (by simp)
           ·rw [if_neg c24] at H
            exact absurd H (by simp)
          ·rw [if_neg c23] at H
           exact absurd H (by simp)
         ·rw [if_neg c22] at H
          have c22b0 : decide (x6_3 < x5_1) = false := decide_eq_false c22
          clear c22
          have H' := Aside0.mk H
          clear H
          go_wp2
          go_roundg k3
          case measure => have := HK1.out; have := HJ4.out; have := HK3.out; omega
          case rel => exact ⟨(wrap64 (x5_1 + 1)), (by first | rfl | (simp; done) | (simp [*]; done)), H', ⟨by have := HK1.out; have := HJ4.out; have := HK3.out; omega⟩, ⟨pB BK238⟩, ⟨pH HB⟩⟩
   ·rw [if_neg c4] at H
    have c4b0 : decide (x5_1 < (l1.length : Int)) = false := decide_eq_false c4
    clear c4
    obtain rfl := Option.some.inj H
    go_wp2
    go_ret
    exact ⟨by first | rfl | (simp [errW_none, errW_some] <;> rfl) | (simp [*, errW_none, errW_some] <;> rfl) | (exfalso; simp_all), pH HB⟩
end Go.Proofs.Ytomdfjohnmikdaa.QS
namespace Go.Proofs.Ytomdfjohnmikdaa.Pu
open Go.RowKit Kp Ext QS Im YtomdfjohnmikdaaW.PrintWords YtomdfjohnmikdaaW.PrintLast YtomdfjohnmikdaaW.PrintMore
theorem inAnd_all : ((List.range 64).all fun f => (List.range 64).all fun g => (Go.bits .andNot .i64 (f : Int) (g : Int) == 0) == decide (Go.bits .and .i64 (f : Int) (g : Int) = (f : Int))) = true := by decide +kernel
theorem inAnd {f g : Int} (h0 : 0 ≤ f) (h1 : f ≤ 63) (g0 : 0 ≤ g) (g1 : g ≤ 63) : (Go.bits .andNot .i64 f g == 0) = decide (Go.bits .and .i64 f g = f) := by
  obtain ⟨m, rfl⟩ := Int.eq_ofNat_of_zero_le h0
  obtain ⟨k, rfl⟩ := Int.eq_ofNat_of_zero_le g0
  exact eq_of_beq (List.all_eq_true.1 (List.all_eq_true.1 inAnd_all m (List.mem_range.2 (by omega))) k (List.mem_range.2 (by omega)))
theorem ev_pair {n : Int} {xs : List Int} (hi : isC n xs = true) (p : Pr) : Ev (fun k => spec_l02Pair.f k n xs p.f0 p.f1) (pairB xs p) := by
  have hs := isC_small hi
  have r := isC_63 hi
  have hm : xs.length ≤ maxLen := by unfold maxLen; omega
  unfold spec_l02Pair.f pairB
  refine Ev.bind (ev_has hm n p.f0) ?_
  by_cases h0 : p.f0 ∈ xs
  · simp only [h0, decide_true, if_true, Bool.true_and]
    refine Ev.bind (ev_has hm n p.f1) ?_
    by_cases h1 : p.f1 ∈ xs
    · have a0 := r _ h0
      have a1 := r _ h1
      simp only [h1, decide_true, if_true, Bool.true_and]
      rw [inAnd (by omega) (by omega) (by omega) (by omega)]
      by_cases h2 : Go.bits .and .i64 p.f0 p.f1 = p.f0
      · simp only [h2, if_true, decide_true, Bool.true_and]
        refine Ev.bind (ev_ones (by omega) (by omega)) ?_
        refine Ev.bind (ev_ones (by omega) (by omega)) ?_
        have hv := verts_len p.f0
        rw [w64 (x := onesZ p.f0 + 1) (by unfold onesZ; omega) (by unfold onesZ; omega)]
        exact Ev.now _
      · simp only [h2, if_false, decide_false, Bool.false_and]
        exact Ev.now _
    · simp only [h1, decide_false, Bool.false_eq_true, if_false, Bool.false_and]
      exact Ev.now _
  · simp only [h0, decide_false, Bool.false_eq_true, if_false, Bool.false_and]
    exact Ev.now _
theorem less_f (p q : Pr) : spec_l02Less.f p.f0 p.f1 q.f0 q.f1 = some (decide (cmpP p q < 0)) := by
  unfold spec_l02Less.f cmpP cmpI
  by_cases h1 : p.f0 < q.f0
  · rw [if_pos h1]; simp [h1]
  · rw [if_neg h1]
    by_cases h2 : p.f0 = q.f0
    · rw [if_pos h2]
      by_cases h3 : p.f1 < q.f1
      · simp [h2, h3]
      · by_cases h4 : p.f1 > q.f1
        · simp [h2, h3, h4]
        · simp [h2, h3, h4]
    · rw [if_neg h2]
      have : p.f0 > q.f0 := by omega
      simp [h1, this]
theorem is2_l1 (n : Int) (xs : List Int) (l : List Pr) (hl : l.length ≤ 1048576) {i : Nat} (hi : i < l.length) (R : Bool) (hR : Ev (fun k => spec_l02Is.l0 k l ((i + 1 : Nat) : Int) n xs) R) :
    ∀ d (j : Nat), i - j = d → j ≤ i → Ev (fun k => spec_l02Is.l1 k l i j n xs) (!(((l.take i).drop j).any fun q => hasF l[i].f0 q || hasF l[i].f1 q) && R) := by
  intro d
  induction d with
  | zero =>
    intro j hd hj
    rw [List.drop_eq_nil_of_le (by rw [List.length_take]; omega)]
    refine Ev.step (f := fun k => spec_l02Is.l0 k l ((i + 1 : Nat) : Int) n xs) (fun k => ?_) (by simpa using hR)
    simp only [spec_l02Is.l1]; rw [if_neg (by omega), succ64 (by omega)]
  | succ d ih =>
    intro j hd hj
    have hj' : j < l.length := by omega
    have hjt : j < (l.take i).length := by rw [List.length_take]; omega
    rw [List.drop_eq_getElem_cons hjt, List.any_cons, List.getElem_take]
    cases hq : (hasF l[i].f0 l[j] || hasF l[i].f1 l[j]) with
    | true =>
      refine Ev.step (f := fun k => some false) (fun k => ?_) (by simpa using Ev.now false)
      simp only [spec_l02Is.l1]
      rw [if_pos (by omega), if_pos (by omega), if_pos (by omega), if_pos (by omega), if_pos (by omega), rdP_at hi, rdP_at hj']
      simp only [hasF, Bool.or_eq_true, beq_iff_eq] at hq
      by_cases h1 : l[i].f0 = l[j].f0
      · rw [if_pos h1]
      · rw [if_neg h1]
        by_cases h2 : l[i].f0 = l[j].f1
        · rw [if_pos h2]
        · rw [if_neg h2]
          by_cases h3 : l[i].f1 = l[j].f0
          · rw [if_pos h3]
          · rw [if_neg h3, if_pos (by simpa [h1, h2, h3] using hq)]
    | false =>
      refine Ev.step (f := fun k => spec_l02Is.l1 k l i ((j + 1 : Nat) : Int) n xs) (fun k => ?_) (by have := ih (j + 1) (by omega) (by omega); simpa using this)
      simp only [spec_l02Is.l1]
      rw [if_pos (by omega), if_pos (by omega), if_pos (by omega), if_pos (by omega), if_pos (by omega), rdP_at hi, rdP_at hj', succ64 (by omega)]
      simp only [hasF, Bool.or_eq_false_iff, beq_eq_false_iff_ne] at hq
      rw [if_neg hq.1.1, if_neg hq.1.2, if_neg hq.2.1, if_neg hq.2.2]
theorem any_or {α : Type} (p q : α → Bool) (l : List α) : (l.any fun x => p x || q x) = (l.any p || l.any q) := by
  induction l with
  | nil => rfl
  | cons a l ih => simp only [List.any_cons, ih]; cases p a <;> cases q a <;> cases l.any p <;> rfl
theorem is2_loop {n : Int} {xs : List Int} (hi : isC n xs = true) {l : List Pr} (hl : l.length ≤ 1048576) : ∀ d (i : Nat), l.length - i = d → i ≤ l.length → Ev (fun k => spec_l02Is.l0 k l i n xs) ((List.range' i d).all (okPairAt xs l)) := by
  intro d
  induction d with
  | zero =>
    intro i hd hi'
    refine Ev.step (f := fun k => some true) (fun k => ?_) (Ev.now _)
    simp only [spec_l02Is.l0]; rw [if_neg (by omega)]
  | succ d ih =>
    intro i hd hi'
    have hlt : i < l.length := by omega
    have hR := ih (i + 1) (by omega) (by omega)
    have hgd : l.getD i z73 = l[i] := by rw [List.getD_eq_getElem?_getD, List.getElem?_eq_getElem hlt]; rfl
    rw [List.range'_succ, List.all_cons]
    have hj0 := is2_l1 n xs l hl hlt _ hR _ 0 rfl (Nat.zero_le _)
    rw [List.drop_zero, any_or] at hj0
    have hno : Ev (fun k => spec_l02Is.j1 k l i true n xs) false := Ev.step (f := fun k => some false) (fun k => by simp only [spec_l02Is.j1, if_true]) (Ev.now _)
    have hyes : Ev (fun k => spec_l02Is.j1 k l i false n xs) (!((l.take i).any (hasF l[i].f0) || (l.take i).any (hasF l[i].f1)) && (List.range' (i + 1) d).all (okPairAt xs l)) := Ev.step (f := fun k => spec_l02Is.l1 k l i ((0 : Nat) : Int) n xs) (fun k => by simp only [spec_l02Is.j1, Bool.false_eq_true, if_false]; rfl) hj0
    have hrd : rd_T73 l (i : Int) = l[i] := rdP_at hlt
    refine Ev.step (f := fun k => (spec_l02Pair.f k n xs l[i].f0 l[i].f1).bind fun t => (if t = true then (if (i : Int) > 0 then (if 0 ≤ (wrap64 ((i : Int) - 1)) then (if (wrap64 ((i : Int) - 1)) < (l.length : Int) then ((spec_l02Less.f ((rd_T73 l (wrap64 ((i : Int) - 1))).f0) ((rd_T73 l (wrap64 ((i : Int) - 1))).f1) l[i].f0 l[i].f1).bind fun t577 => (spec_l02Is.j1 k l i (!t577) n xs)) else (none)) else (none)) else (spec_l02Is.j1 k l i false n xs)) else (spec_l02Is.j1 k l i true n xs))) (fun k => ?_) (Ev.bind (ev_pair hi l[i]) ?_)
    · simp only [spec_l02Is.l0]
      rw [if_pos (by omega), if_pos (by omega), hrd]
    · clear hj0 hR ih
      generalize (List.range' (i + 1) d).all (okPairAt xs l) = G at hyes ⊢
      unfold okPairAt
      rw [hgd]
      cases hp : pairB xs l[i] with
      | false => simp only [Bool.false_eq_true, if_false, Bool.false_and]; exact hno
      | true =>
        simp only [if_true, Bool.true_and]
        rcases i with _ | m
        · simp only [show ¬ (((0 : Nat) : Int) > 0) by omega, if_false]
          simpa using hyes
        · have hm : m < l.length := by omega
          have hw : wrap64 (((m + 1 : Nat) : Int) - 1) = (m : Int) := by rw [w64 (by omega) (by omega)]; omega
          have hgm : l.getD m z73 = l[m] := by rw [List.getD_eq_getElem?_getD, List.getElem?_eq_getElem hm]; rfl
          simp only [show (((m + 1 : Nat) : Int) > 0) by omega, if_true, hw, show (0 : Int) ≤ (m : Int) by omega, show (m : Int) < (l.length : Int) by omega, rdP_at hm, less_f, Option.bind_some, Nat.add_sub_cancel, hgm]
          by_cases hc : cmpP l[m] l[m + 1] < 0
          · simp only [hc, decide_true, Bool.not_true]
            simpa [Bool.and_assoc] using hyes
          · simp only [hc, decide_false, Bool.not_false]
            simpa using hno
theorem ev_is2 {n : Int} {xs : List Int} (hi : isC n xs = true) {l : List Pr} (hl : l.length ≤ 1048576) : Ev (fun k => spec_l02Is.f k n xs l) (pairingB xs l) := by
  unfold spec_l02Is.f pairingB
  rw [List.range_eq_range']
  exact is2_loop hi hl _ 0 rfl (Nat.zero_le _)
theorem cmpP_mem {n : Int} {xs : List Int} {l : List Pr} (h : pairingB xs l = true) : ∀ q ∈ l, q.f0 ∈ xs ∧ q.f1 ∈ xs := by
  intro q hq
  obtain ⟨i, hi, rfl⟩ := List.mem_iff_getElem.1 hq
  have h1 := List.all_eq_true.1 h i (List.mem_range.2 hi)
  unfold okPairAt at h1
  rw [show l.getD i z73 = l[i] by rw [List.getD_eq_getElem?_getD, List.getElem?_eq_getElem hi]; rfl] at h1
  have h2 := (Bool.and_eq_true _ _ ▸ h1).1
  unfold pairB at h2
  simp only [Bool.and_eq_true, decide_eq_true_eq] at h2
  exact ⟨h2.1, h2.2.1⟩
theorem facesP_of {n : Int} {xs : List Int} (hi : isC n xs = true) {l : List Pr} (h : pairingB xs l = true) : FacesP l := fun q hq => by
  have h1 := cmpP_mem (n := n) h q hq
  have r := isC_63 hi
  exact ⟨r _ h1.1, r _ h1.2⟩
end Go.Proofs.Ytomdfjohnmikdaa.Pu
namespace Go.Proofs.Ytomdfjohnmikdaa.Im
open Go.RowKit Go.Shelf Kp Ext Cw YtomdfjohnmikdaaW.PrintWords YtomdfjohnmikdaaW.PrintLast YtomdfjohnmikdaaW.PrintMore
theorem lessS_f (p q : Pr) : QS.spec_l02Less.f p.f0 p.f1 q.f0 q.f1 = some (decide (cmpP p q < 0)) := by
  unfold QS.spec_l02Less.f cmpP cmpI
  by_cases h1 : p.f0 < q.f0
  · rw [if_pos h1]; simp [h1]
  · rw [if_neg h1]
    by_cases h2 : p.f0 = q.f0
    · rw [if_pos h2]
      by_cases h3 : p.f1 < q.f1
      · simp [h2, h3]
      · by_cases h4 : p.f1 > q.f1
        · simp [h2, h3, h4]
        · simp [h2, h3, h4]
    · rw [if_neg h2]
      by_cases h3 : p.f0 > q.f0
      · simp [h1, h2, h3]
      · omega
def backP (l : List Pr) (p : Pr) : Nat → Nat
  | 0 => 0
  | a + 1 => if cmpP p (l.getD a z73) < 0 then backP l p a else a + 1
def putP (l : List Pr) (p : Pr) : List Pr := l.take (backP l p l.length) ++ p :: l.drop (backP l p l.length)
section
variable {ops : Array Oper} {o : Oper} {a : Act} {Q : Exit → Act → World → Prop} {K : Act → World → Prop}
theorem apPsR {w0 W : World} (base : Nat) (s x : Operand) (v : Value) (xs ys : List Pr) (A : Option Addr) (m c : Nat)
    (hs : a.eval s = v) (hx : a.eval x = .slice A m c) (HO : PO W base v xs) (HR : Kd.C k73 W A m ys) (HB : Below base w0 W) (hbase : base ≤ W.heap.size) (hl : xs.length + m ≤ 8796093022208)
    (h : ∀ v1 w1, PO w1 base v1 (xs ++ ys) → Below base w0 w1 → W.grownBy w1 v.ownBlock → (v1.ownBlock = v.ownBlock ∨ ∃ b, v1.ownBlock = some b ∧ W.heap.size ≤ b) → K (a.put o.dst v1) w1)
    (hw : Region.wanted o (yielded ops a.tmps) = true := by rfl) (ho : o.op = .call { callee := .builtin .append, args := #[s, x], argTypes := #[38, 38] } := by rfl) :
    if Region.wanted o (yielded ops a.tmps) = true then Oper.wp Try.prog o a W K Q else K (a.put o.dst undef) W :=
  Kd.R_append_rows_step k73 base hw s x 38 73 (.agg #[.int .i64 0, .int .i64 0]) 16 ho Try.underlying38 infoP rfl (by decide) (by decide) v xs ys A m c (fun _ => True) (fun _ => False) hs hx HO HR
    (fun x cs h => by rw [k73_open h]; exact k73_mkM _ _ _ _) (fun _ h => h.elim) (fun _ _ => trivial) HB hbase (by omega) h
end
theorem PO.one (w : World) (base : Nat) (p : Pr) (hb : base ≤ w.heap.size) : PO (w.alloc (.cells #[.int .i64 p.f0, .int .i64 p.f1] 73)) base (.slice (some ⟨w.heap.size, 0, none⟩) 1 1) [p] :=
  PO.mk (xs := [p]) (cap := 1) (cur := [.int .i64 p.f0, .int .i64 p.f1]) hb (heap_alloc_new w _) (Nat.le_refl _) (by simp [maxLen]) rfl rfl
theorem prAt_grown1 {w w1 : World} {b g : Nat} {x y : Int} {v : Value} (h : PrAt w g x y) (hv : v.ownBlock = some b) (hne : g ≠ b) (hg : w.grownBy w1 v.ownBlock) : PrAt w1 g x y := (hg.block g h.lt (fun e => hne (by rw [hv] at e; injection e))).trans h
theorem cxAt_grown1 {w w1 : World} {b g : Nat} {n : Int} {A : Option Addr} {len c : Nat} {v : Value} (h : CxAt w g n A len c) (hl : g < w.heap.size) (hv : v.ownBlock = some b) (hne : g ≠ b) (hg : w.grownBy w1 v.ownBlock) : CxAt w1 g n A len c := (hg.block g hl (fun e => hne (by rw [hv] at e; injection e))).trans h
def With2Post (w : World) (r : List Pr) (b : Bool) (e : Ending) (w' : World) : Prop := ∃ v : Value, e = .returned (.tuple #[v, .bool b]) ∧ PO w' w.heap.size v r ∧ Below w.heap.size w w'
set_option maxRecDepth 100000 in
set_option maxHeartbeats 1000000 in
theorem with2_c (k : Nat) (n : Int) (A : Option Addr) (c : Nat) (xs : List Int) (A1 : Option Addr) (c1 : Nat) (l : List Pr) (p : Pr) (b : Bool) (w : World) (hr : RC w A xs.length xs) (hc : xs.length ≤ c) (hr1 : Kd.C k73 w A1 l.length l) (hc1 : l.length ≤ c1) (hl : l.length ≤ 1000000)
    (hk : QS.spec_l02Is.f k n xs (putP l p) = some b) :
    Calls Try.prog 111 #[.agg #[.int .i64 n, .slice A xs.length c], .slice A1 l.length c1, .agg #[.int .i64 p.f0, .int .i64 p.f1]] w (With2Post w (putP l p) b) := by
  have hx0 := Aside0.mk ((CxAt.new w n A xs.length c).below (below_alloc (Below.refl _ _) (.cells #[.int .i64 p.f0, .int .i64 p.f1] 73)))
  have hp0 : Aside0 (PrAt ((w.alloc (.cells #[.int .i64 n, .slice A xs.length c] 28)).alloc (.cells #[.int .i64 p.f0, .int .i64 p.f1] 73)) (w.heap.size + 1) p.f0 p.f1) := ⟨by simpa using PrAt.new (w.alloc (.cells #[.int .i64 n, .slice A xs.length c] 28)) p.f0 p.f1⟩
  have hb0 := Aside0.mk (below_alloc (below_alloc (Below.refl w.heap.size w) (.cells #[.int .i64 n, .slice A xs.length c] 28)) (.cells #[.int .i64 p.f0, .int .i64 p.f1] 73))
  have HR := Aside0.mk hr
  have HR1 := Aside0.mk hr1
  have HC := Aside0.mk hc
  have HC1 := Aside0.mk hc1
  have HK := Aside0.mk hk
  clear hr hr1 hc hc1 hk
  go_enter Try.func111, Try.ntmps111
  go_wp2
  go_loopw [8] (fun s8 wr => ∃ m : Nat, m ≤ l.length ∧ s8 = .int .i64 m ∧ Aside0 (backP l p l.length = backP l p m) ∧ Aside0 (Below w.heap.size w wr) ∧ Aside0 (CxAt wr w.heap.size n A xs.length c) ∧ Aside0 (PrAt wr (w.heap.size + 1) p.f0 p.f1)) (fun s8 _ => (intOf s8).toNat)
  case atStart => exact ⟨l.length, by omega, rfl, ⟨rfl⟩, hb0, hx0, hp0⟩
  case round =>
    clear hx0 hp0 hb0
    obtain ⟨m, hm, rfl, hback, HB, HX, HP⟩ := hrel
    by_cases h0 : m = 0
    · have hgz : ¬ ((0 : Int) < (m : Int)) := by omega
      have hgn : ¬ (0 < m) := by omega
      have HM : Aside0 (backP l p l.length = m) := ⟨by rw [hback.out, h0]; rfl⟩
      clear h0 hback
      go_wp2
      have HPd := Aside0.mk HP.out.drew; have HBd := Aside0.mk HB.out.drew; have HXd := Aside0.mk HX.out.drew'; clear HP HB HX; have HP := HPd; have HB := HBd; have HX := HXd; clear HPd HBd HXd
      refine st_ 11 (S := fun w' => True) (ds := []) trivial (fun hHeld => ?_)
      refine with_tabW (T := (true, [([], []), ([0], [0]), ([1], [1]), ([2], [2]), ([2], [2]), ([2], [2]), ([5, 2], [2, 5]), ([4, 6, 2], [2, 4, 6]), ([7, 2], [2, 7]), ([3, 8, 2, 2], [2, 3, 8]), ([2, 9], [2, 9])])) (B := [0, 1, 3, 7, 7, 7, 39, 119, 247, 511, 1023]) (by kernel_rfl) (by kernel_rfl) (fun HT_ HW_ => ?_)
      refine pd_ 0 13 1 HT_ ?_
      refine pd_ 1 14 3 HT_ ?_
      refine pd_ 2 15 7 HT_ ?_
      refine pn_ 3 16 15 HT_ ?_
      refine pn_ 4 17 31 HT_ ?_
      refine pn_ 5 18 63 HT_ ?_
      refine pn_ 6 19 127 HT_ ?_
      refine pn_ 7 20 255 HT_ ?_
      refine pn_ 8 21 511 HT_ ?_
      refine pn_ 9 22 1023 HT_ ?_
      refine pd_ 10 23 2047 HT_ ?_
      refine dn_ HT_ ?_
      have HPUT : Aside0 (putP l p = l.take m ++ ([p] ++ l.drop m)) := ⟨by unfold putP; rw [HM.out]; rfl⟩
      have hml := Aside0.mk hm
      obtain ⟨D, hD⟩ : ∃ D, D = (if c1 = m then A1 else A1.map (·.add (m * 2))) := ⟨_, rfl⟩
      have hcutF : ∀ W : World, (Instr.slice 38 (.slice A1 l.length c1) (some (.int .i64 (m : Int))) none none).run Try.prog W = .ok (.slice D (l.length - m) (c1 - m)) W := by
        intro W
        obtain ⟨i0, hi0, hz0, hzs, hzb⟩ := info_parts infoP
        have := cut_from 38 73 .i64 Try.underlying38 hi0 2 hzs A1 l.length c1 (m : Int) (by omega) (by omega) W
        rw [Int.toNat_natCast, ← hD] at this
        exact this
      have hcutT : ∀ W : World, (Instr.slice 38 (.slice A1 l.length c1) none (some (.int .i64 (m : Int))) none).run Try.prog W = .ok (.slice A1 m c1) W := by
        intro W
        obtain ⟨i0, hi0, hz0, hzs, hzb⟩ := info_parts infoP
        have := cut_to 38 73 .i64 Try.underlying38 hi0 A1 l.length c1 (m : Int) (by omega) (by omega) HC1.out W
        rw [Int.toNat_natCast] at this
        exact this
      have HRD : Aside0 (∀ W, Below w.heap.size w W → Kd.C k73 W D (l.length - m) (l.drop m)) := ⟨fun W hW => by
        have := Kd.C_drop (Kd.C_below HR1.out hW) hm HC1.out
        rw [List.length_drop] at this
        rw [hD]
        exact this⟩
      have HRT : Aside0 (∀ W, Below w.heap.size w W → Kd.C k73 W A1 m (l.take m)) := ⟨fun W hW => by
        have := Kd.C_take (Kd.C_below HR1.out hW) hm
        rw [List.length_take, Nat.min_eq_left hm] at this
        exact this⟩
      clear hD
      go_wp2
      refine st_ 7 (S := fun w' => w'.cell? ⟨w.heap.size + 1, 0, none⟩ = some (.int .i64 p.f0) ∧ w'.cell? ⟨w.heap.size + 1, 1, none⟩ = some (.int .i64 p.f1)) (ds := []) ⟨HP.out.c0, HP.out.c1⟩ (fun hHeld => ?_)
      refine with_tabW (T := (true, [([], []), ([0], [0]), ([], []), ([], []), ([2, 3], [2, 3]), ([1, 4], [1, 4]), ([5, 5, 0, 1, 2, 3, 4, 5], [5])])) (B := [0, 1, 0, 0, 12, 31, 63]) (by kernel_rfl) (by kernel_rfl) (fun HT_ HW_ => ?_)
      refine pd_ 2 28 4 HT_ ?_
      refine pd_ 3 29 12 HT_ ?_
      refine pd_ 4 30 28 HT_ ?_
      refine tk_ 0 26 29 HT_ HW_ hHeld ?_
      refine on_ 1 (some 27) 31 HT_ (fun K hK => ?_)
      (refine value_ (by rfl) rfl (v := .slice (some ⟨wr.drew.heap.size, 0, none⟩) 1 1) (w1 := wr.drew.drew.alloc (.cells #[.int .i64 p.f0, .int .i64 p.f1] 73)) (by go_simp) ?_; have HX1 := Aside0.mk (HX.out.below (below_alloc (Below.refl _ _) (.cells #[.int .i64 p.f0, .int .i64 p.f1] 73))).drew'; have HP1 := Aside0.mk (HP.out.alloc (.cells #[.int .i64 p.f0, .int .i64 p.f1] 73)).drew; have HB1 := Aside0.mk (HB.out.drew.alloc HB.out.drew.size (.cells #[.int .i64 p.f0, .int .i64 p.f1] 73)); have HLT := Aside0.mk HP.out.lt; have HO1 := Aside0.mk (PO.one wr.drew.drew w.heap.size p HB.out.drew.size); clear HX HP HB)
      refine hK.out _ _ ⟨HP1.out.c0, HP1.out.c1⟩ (fun hHeld => ?_)
      clear hK K
      refine nm_ ?_
      refine on_ 5 (some 31) 63 HT_ (fun K hK => ?_)
      (refine apPsR w.heap.size (.tmp 27) (.tmp 30) _ [p] (l.drop m) D (l.length - m) (c1 - m) rfl rfl HO1.out (HRD.out _ HB1.out) HB1.out HB1.out.size (by simp; omega) ?_; intro v1 w5 ho hb hg hat; have HV1 := Aside0.mk ho; have HB5 := Aside0.mk hb; have HX5 := Aside0.mk (cxAt_grown1 (b := wr.drew.drew.heap.size) HX1.out (Nat.lt_of_succ_lt HP1.out.lt) rfl (Nat.ne_of_lt (Nat.lt_of_succ_lt HLT.out)) hg); have HP5 := Aside0.mk (prAt_grown1 (b := wr.drew.drew.heap.size) HP1.out rfl (Nat.ne_of_lt HLT.out) hg); clear ho hb hg hat HX1 HP1 HB1 HO1)
      refine hK.out _ _ ⟨HP5.out.c0, HP5.out.c1⟩ (fun hHeld => ?_)
      clear hK K
      refine nm_ ?_
      refine pd_ 6 9 127 HT_ ?_
      refine dn_ HT_ ?_
      obtain ⟨A7, c7, rfl⟩ := Kd.R_slice HV1.out
      have hd7 : ([p] ++ l.drop m).length = l.length - m + 1 := by simp <;> omega
      have HRV : Aside0 (∀ W, Below w5.heap.size w5 W → Kd.C k73 W A7 (l.length - m + 1) ([p] ++ l.drop m)) := ⟨fun W hW => by
        have := (Kd.R_reads' HV1.out).2.2
        rw [hd7] at this
        exact Kd.C_below this hW⟩
      have HO6 := Aside0.mk (PO.made w5 w5.heap.size 0 #[] (Nat.le_refl _) (Nat.zero_le _) rfl)
      have HB6 : Aside0 (Below w5.heap.size w5 (w5.alloc (.cells #[] 73))) := ⟨below_alloc (Below.refl _ _) _⟩
      rw [hd7]
      go_wp2_with (first
        | (at_builtin; refine apPs w5.heap.size rfl (.tmp 32) (.tmp 35) rfl _ _ (l.take m) A1 m c1 rfl rfl HO6.out (HRT.out _ (below_in HB5.out HB6.out)) HB6.out HB6.out.size (by simp; omega) ?_; intro v8 w8 ho hb hg hat; clear hat hg; have HO8 := Aside0.mk ho; have HB8 := Aside0.mk hb; clear ho hb)
        | (at_builtin; refine apPs w5.heap.size rfl (.tmp 36) (.tmp 37) rfl _ _ ([p] ++ l.drop m) A7 _ _ rfl rfl HO8.out (HRV.out _ HB8.out) HB8.out HB8.out.size (by simp; omega) ?_; intro v9 w9 ho hb hg hat; clear hat hg; rw [List.nil_append, ← HPUT.out] at ho; have HO9 := Aside0.mk ho; have HB9 := Aside0.mk hb; clear ho hb; obtain ⟨A9, c9, rfl⟩ := Kd.R_slice HO9.out; have HX9 := Aside0.mk (HX5.out.below HB9.out); have hx9 := HX9.out.c0; have hy9 := HX9.out.c1)
        | (go_at_call 144; refine (QS.spec_l02Is.calls k n A c xs A9 c9 (putP l p) b _ (Kd.C_below HR.out (below_in HB5.out HB9.out)) HC.out (Kd.R_reads' HO9.out).2.2 (Kd.R_reads' HO9.out).2.1 HK.out).mono ?_; rintro e w10 ⟨rfl, hb⟩; have HB10 := Aside0.mk hb; clear hb))
      go_ret2
      exact ⟨_, rfl, Kd.R_lower (Kd.R_below HO9.out HB10.out) HB5.out.size, below_in HB5.out (below_in HB9.out HB10.out)⟩
    · have hgz : (0 : Int) < (m : Int) := by omega
      have hgn : 0 < m := by omega
      obtain ⟨m', hm'⟩ : ∃ m', m = m' + 1 := ⟨m - 1, by omega⟩
      obtain ⟨ad, rfl, hp0, hp1⟩ := pair_at (Kd.C_below HR1.out HB.out) m' (by omega)
      have hback' := hback.out
      rw [hm', show backP l p (m' + 1) = if cmpP p (l.getD m' z73) < 0 then backP l p m' else m' + 1 from rfl, ← hm'] at hback'
      generalize l.getD m' z73 = q at hp0 hp1 hback'
      have HW : Aside0 (CellsQ wr ad m' q) := ⟨⟨hp0, hp1⟩⟩
      have HBK := Aside0.mk hback'
      clear hp0 hp1 hback hback'
      have hmlt : (m' : Int) < (l.length : Int) := by omega
      have hwm : wrap64 ((m : Int) - 1) = (m' : Int) := by unfold wrap64; omega
      have HM' := Aside0.mk hm'
      clear hm' h0
      go_wp2
      have HPd := Aside0.mk HP.out.drew; have HBd := Aside0.mk HB.out.drew; have HXd := Aside0.mk HX.out.drew'; have HWd : Aside0 (CellsQ wr.drew ad m' q) := ⟨HW.out⟩; clear HP HB HW HX; have HP := HPd; have HB := HBd; have HW := HWd; have HX := HXd; clear HPd HBd HWd HXd
      refine st_ 11 (S := fun w' => w'.cell? ⟨w.heap.size + 1, 0, none⟩ = some (.int .i64 p.f0) ∧ w'.cell? ⟨w.heap.size + 1, 1, none⟩ = some (.int .i64 p.f1) ∧ w'.cell? (ad.add (m' * 2)) = some (.int .i64 q.f0) ∧ w'.cell? ⟨(ad.add (m' * 2)).block, (ad.add (m' * 2)).off + 1, none⟩ = some (.int .i64 q.f1)) (ds := []) ⟨HP.out.c0, HP.out.c1, HW.out.1, HW.out.2⟩ (fun hHeld => ?_)
      refine with_tabW (T := (true, [([], []), ([0], [0]), ([1], [1]), ([2], [2]), ([2], [2]), ([2], [2]), ([5, 2], [2, 5]), ([4, 6, 2], [2, 4, 6]), ([7, 2], [2, 7]), ([3, 8, 2, 2], [2, 3, 8]), ([2, 9], [2, 9])])) (B := [0, 1, 3, 7, 7, 7, 39, 119, 247, 511, 1023]) (by kernel_rfl) (by kernel_rfl) (fun HT_ HW_ => ?_)
      refine pd_ 0 13 1 HT_ ?_
      refine pd_ 1 14 3 HT_ ?_
      refine pd_ 2 15 7 HT_ ?_
      refine pd_ 4 17 23 HT_ ?_
      refine pd_ 5 18 55 HT_ ?_
      refine pd_ 6 19 119 HT_ ?_
      refine pd_ 7 20 247 HT_ ?_
      refine tk_ 3 16 255 HT_ HW_ hHeld ?_
      refine tk_ 8 21 511 HT_ HW_ hHeld ?_
      refine on_ 9 (some 22) 1023 HT_ (fun K hK => ?_)
      refine ca_ Try.func162 #[.agg #[.int .i64 p.f0, .int .i64 p.f1], .agg #[.int .i64 q.f0, .int .i64 q.f1]] ?_
      refine (QS.spec_l02Less.calls _ _ _ _ _ _ (lessS_f p q)).mono ?_; rintro e w1 ⟨rfl, hb⟩; have HP1 := Aside0.mk (HP.out.below hb); have HX1 := Aside0.mk (HX.out.below hb); have HB1 := Aside0.mk (below_in HB.out hb); have HW1 := Aside0.mk (cellsQ_below HW.out hb); clear HP HX HB HW; have HP := HP1; have HX := HX1; have HB := HB1; have HW := HW1; clear HP1 HX1 HB1 HW1; generalize cmpP p q = cp at HBK
      refine ⟨_, rfl, ?_⟩
      refine hK.out _ _ ⟨HP.out.c0, HP.out.c1, HW.out.1, HW.out.2⟩ (fun hHeld => ?_)
      clear hK K
      refine nm_ ?_
      refine pd_ 10 23 2047 HT_ ?_
      refine dn_ HT_ ?_
      by_cases hcp : cp < 0
      · rw [if_pos hcp] at HBK
        go_wp2
        go_roundw
        case measure => have := HM'.out; have hwm2 : wrap64 ((m : Int) - 1) = (m' : Int) := by unfold wrap64; omega
                        simp only [intOf, hwm2]; omega
        case rel => exact ⟨m', by have := HM'.out; omega, by rw [show ((m : Int) - 1) = (m' : Int) by have := HM'.out; omega], HBK, HB, HX, HP⟩
      · have HM : Aside0 (backP l p l.length = m) := by rw [if_neg hcp] at HBK; exact HBK
        clear HBK hwm hmlt hgz HW
        have HPUT : Aside0 (putP l p = l.take m ++ ([p] ++ l.drop m)) := ⟨by unfold putP; rw [HM.out]; rfl⟩
        have hml := Aside0.mk hm
        obtain ⟨D, hD⟩ : ∃ D, D = (if c1 = m then (some ad) else (some ad : Option Addr).map (·.add (m * 2))) := ⟨_, rfl⟩
        have hcutF : ∀ W : World, (Instr.slice 38 (.slice (some ad) l.length c1) (some (.int .i64 (m : Int))) none none).run Try.prog W = .ok (.slice D (l.length - m) (c1 - m)) W := by
          intro W
          obtain ⟨i0, hi0, hz0, hzs, hzb⟩ := info_parts infoP
          have := cut_from 38 73 .i64 Try.underlying38 hi0 2 hzs (some ad) l.length c1 (m : Int) (by omega) (by omega) W
          rw [Int.toNat_natCast, ← hD] at this
          exact this
        have hcutT : ∀ W : World, (Instr.slice 38 (.slice (some ad) l.length c1) none (some (.int .i64 (m : Int))) none).run Try.prog W = .ok (.slice (some ad) m c1) W := by
          intro W
          obtain ⟨i0, hi0, hz0, hzs, hzb⟩ := info_parts infoP
          have := cut_to 38 73 .i64 Try.underlying38 hi0 (some ad) l.length c1 (m : Int) (by omega) (by omega) HC1.out W
          rw [Int.toNat_natCast] at this
          exact this
        have HRD : Aside0 (∀ W, Below w.heap.size w W → Kd.C k73 W D (l.length - m) (l.drop m)) := ⟨fun W hW => by
          have := Kd.C_drop (Kd.C_below HR1.out hW) hm HC1.out
          rw [List.length_drop] at this
          rw [hD]
          exact this⟩
        have HRT : Aside0 (∀ W, Below w.heap.size w W → Kd.C k73 W (some ad) m (l.take m)) := ⟨fun W hW => by
          have := Kd.C_take (Kd.C_below HR1.out hW) hm
          rw [List.length_take, Nat.min_eq_left hm] at this
          exact this⟩
        clear hD
        go_wp2
        refine st_ 7 (S := fun w' => w'.cell? ⟨w.heap.size + 1, 0, none⟩ = some (.int .i64 p.f0) ∧ w'.cell? ⟨w.heap.size + 1, 1, none⟩ = some (.int .i64 p.f1)) (ds := []) ⟨HP.out.c0, HP.out.c1⟩ (fun hHeld => ?_)
        refine with_tabW (T := (true, [([], []), ([0], [0]), ([], []), ([], []), ([2, 3], [2, 3]), ([1, 4], [1, 4]), ([5, 5, 0, 1, 2, 3, 4, 5], [5])])) (B := [0, 1, 0, 0, 12, 31, 63]) (by kernel_rfl) (by kernel_rfl) (fun HT_ HW_ => ?_)
        refine pd_ 2 28 4 HT_ ?_
        refine pd_ 3 29 12 HT_ ?_
        refine pd_ 4 30 28 HT_ ?_
        refine tk_ 0 26 29 HT_ HW_ hHeld ?_
        refine on_ 1 (some 27) 31 HT_ (fun K hK => ?_)
        (refine value_ (by rfl) rfl (v := .slice (some ⟨w1.heap.size, 0, none⟩) 1 1) (w1 := w1.drew.alloc (.cells #[.int .i64 p.f0, .int .i64 p.f1] 73)) (by go_simp) ?_; have HX1 := Aside0.mk (HX.out.below (below_alloc (Below.refl _ _) (.cells #[.int .i64 p.f0, .int .i64 p.f1] 73))).drew'; have HP1 := Aside0.mk (HP.out.alloc (.cells #[.int .i64 p.f0, .int .i64 p.f1] 73)).drew; have HB1 := Aside0.mk (HB.out.drew.alloc HB.out.drew.size (.cells #[.int .i64 p.f0, .int .i64 p.f1] 73)); have HLT := Aside0.mk HP.out.lt; have HO1 := Aside0.mk (PO.one w1.drew w.heap.size p HB.out.drew.size); clear HX HP HB)
        refine hK.out _ _ ⟨HP1.out.c0, HP1.out.c1⟩ (fun hHeld => ?_)
        clear hK K
        refine nm_ ?_
        refine on_ 5 (some 31) 63 HT_ (fun K hK => ?_)
        (refine apPsR w.heap.size (.tmp 27) (.tmp 30) _ [p] (l.drop m) D (l.length - m) (c1 - m) rfl rfl HO1.out (HRD.out _ HB1.out) HB1.out HB1.out.size (by simp; omega) ?_; intro v1 w5 ho hb hg hat; have HV1 := Aside0.mk ho; have HB5 := Aside0.mk hb; have HX5 := Aside0.mk (cxAt_grown1 (b := w1.drew.heap.size) HX1.out (Nat.lt_of_succ_lt HP1.out.lt) rfl (Nat.ne_of_lt (Nat.lt_of_succ_lt HLT.out)) hg); have HP5 := Aside0.mk (prAt_grown1 (b := w1.drew.heap.size) HP1.out rfl (Nat.ne_of_lt HLT.out) hg); clear ho hb hg hat HX1 HP1 HB1 HO1)
        refine hK.out _ _ ⟨HP5.out.c0, HP5.out.c1⟩ (fun hHeld => ?_)
        clear hK K
        refine nm_ ?_
        refine pd_ 6 9 127 HT_ ?_
        refine dn_ HT_ ?_
        obtain ⟨A7, c7, rfl⟩ := Kd.R_slice HV1.out
        have hd7 : ([p] ++ l.drop m).length = l.length - m + 1 := by simp <;> omega
        have HRV : Aside0 (∀ W, Below w5.heap.size w5 W → Kd.C k73 W A7 (l.length - m + 1) ([p] ++ l.drop m)) := ⟨fun W hW => by
          have := (Kd.R_reads' HV1.out).2.2
          rw [hd7] at this
          exact Kd.C_below this hW⟩
        have HO6 := Aside0.mk (PO.made w5 w5.heap.size 0 #[] (Nat.le_refl _) (Nat.zero_le _) rfl)
        have HB6 : Aside0 (Below w5.heap.size w5 (w5.alloc (.cells #[] 73))) := ⟨below_alloc (Below.refl _ _) _⟩
        rw [hd7]
        go_wp2_with (first
          | (at_builtin; refine apPs w5.heap.size rfl (.tmp 32) (.tmp 35) rfl _ _ (l.take m) (some ad) m c1 rfl rfl HO6.out (HRT.out _ (below_in HB5.out HB6.out)) HB6.out HB6.out.size (by simp; omega) ?_; intro v8 w8 ho hb hg hat; clear hat hg; have HO8 := Aside0.mk ho; have HB8 := Aside0.mk hb; clear ho hb)
          | (at_builtin; refine apPs w5.heap.size rfl (.tmp 36) (.tmp 37) rfl _ _ ([p] ++ l.drop m) A7 _ _ rfl rfl HO8.out (HRV.out _ HB8.out) HB8.out HB8.out.size (by simp; omega) ?_; intro v9 w9 ho hb hg hat; clear hat hg; rw [List.nil_append, ← HPUT.out] at ho; have HO9 := Aside0.mk ho; have HB9 := Aside0.mk hb; clear ho hb; obtain ⟨A9, c9, rfl⟩ := Kd.R_slice HO9.out; have HX9 := Aside0.mk (HX5.out.below HB9.out); have hx9 := HX9.out.c0; have hy9 := HX9.out.c1)
          | (go_at_call 144; refine (QS.spec_l02Is.calls k n A c xs A9 c9 (putP l p) b _ (Kd.C_below HR.out (below_in HB5.out HB9.out)) HC.out (Kd.R_reads' HO9.out).2.2 (Kd.R_reads' HO9.out).2.1 HK.out).mono ?_; rintro e w10 ⟨rfl, hb⟩; have HB10 := Aside0.mk hb; clear hb))
        go_ret2
        exact ⟨_, rfl, Kd.R_lower (Kd.R_below HO9.out HB10.out) HB5.out.size, below_in HB5.out (below_in HB9.out HB10.out)⟩
end Go.Proofs.Ytomdfjohnmikdaa.Im
namespace Go.Proofs.Ytomdfjohnmikdaa.QS
open Go.RowKit Kp Ext YtomdfjohnmikdaaW.PrintWords YtomdfjohnmikdaaW.PrintLast YtomdfjohnmikdaaW.PrintMore
def spec_l02With.f (k : Nat) (a0_0 : Int) (l0_1 : List Int) (l1 : List (S73)) (a2_0 : Int) (a2_1 : Int) : Option ((List (S73)) × Bool) :=
  if l1.length ≤ 1000000 then (spec_l02Is.f k a0_0 l0_1 (Im.putP l1 ⟨a2_0, a2_1⟩)).bind fun b => some (Im.putP l1 ⟨a2_0, a2_1⟩, b) else none
theorem spec_l02With.calls (k : Nat) (a0_0 : Int) (A0_1 : Option Addr) (c0_1 : Nat) (l0_1 : List Int) (A1 : Option Addr) (c1 : Nat) (l1 : List (S73)) (a2_0 : Int) (a2_1 : Int) (r1 : List (S73)) (r2 : Bool) (w : World) (hr0_1 : Kd.C (Kd.int .i64) w A0_1 l0_1.length l0_1) (hc0_1 : l0_1.length ≤ c0_1) (hr1 : Kd.C k73 w A1 l1.length l1) (hc1 : l1.length ≤ c1) (h : spec_l02With.f k a0_0 l0_1 l1 a2_0 a2_1 = some (r1, r2)) :
    Calls Try.prog 111 #[.agg #[.int .i64 a0_0, .slice A0_1 l0_1.length c0_1], .slice A1 l1.length c1, .agg #[.int .i64 a2_0, .int .i64 a2_1]] w fun e w' => ∃ v0_ : Value, e = .returned (.tuple #[v0_, .bool r2]) ∧ Kd.R k73 73 w' w.heap.size (fun _ => True) v0_ r1 ∧ Below w.heap.size w w' := by
  unfold spec_l02With.f at h
  by_cases hl : l1.length ≤ 1000000
  · rw [if_pos hl] at h
    obtain ⟨b, hk, hb⟩ := Option.bind_eq_some_iff.1 h
    obtain ⟨h1, h2⟩ := Prod.mk.inj (Option.some.inj hb)
    subst h1
    subst h2
    exact Im.with2_c k a0_0 A0_1 c0_1 l0_1 A1 c1 l1 ⟨a2_0, a2_1⟩ b w hr0_1 hc0_1 hr1 hc1 hl hk
  · rw [if_neg hl] at h; cases h
end Go.Proofs.Ytomdfjohnmikdaa.QS
namespace Go.Proofs.Ytomdfjohnmikdaa.QS
open Cw Kp Ext Go.RowKit YtomdfjohnmikdaaW.PrintWords YtomdfjohnmikdaaW.PrintLast YtomdfjohnmikdaaW.PrintMore
attribute [local go_sem] max2_int min2_int max_two min_two max_three min_three max_four min_four   -- for this text's walks alone
mutual
def spec_l02All.l0 : Nat → List (S73) → Int → Int → List Int → Option ((List (S73)))
 | 0, _, _, _, _ => none
 | k + 1, x3, x4, x363000, x363001 => if x4 < (x363001.length : Int) then (if 0 ≤ x4 then ((spec_l01Above.f k x363000 x363001 (rd x363001 x4)).bind fun t367 => (spec_l02All.l1 k x3 x4 t367 0 x363000 x363001)) else (none)) else (some x3)
def spec_l02All.l1 : Nat → List (S73) → Int → List Int → Int → Int → List Int → Option ((List (S73)))
 | 0, _, _, _, _, _, _ => none
 | k + 1, x3, x4, x5, x6, x363000, x363001 => if x6 < (x5.length : Int) then (if 0 ≤ x4 then (if x4 < (x363001.length : Int) then (if 0 ≤ x6 then ((spec_l02With.f k x363000 x363001 x3 (rd x363001 x4) (rd x5 x6)).bind fun bt372 => (spec_l02All.l1 k bt372.1 x4 x5 (wrap64 (x6 + 1)) x363000 x363001)) else (none)) else (none)) else (none)) else (spec_l02All.l0 k x3 (wrap64 (x4 + 1)) x363000 x363001)
end
def spec_l02All.f (k : Nat) (a0_0 : Int) (l0_1 : List Int) : Option ((List (S73))) := spec_l02All.l0 k (([] : List (S73))) 0 a0_0 l0_1
def spec_l02All.T5 : Bool × List (List Nat × List Nat) := (true, [([], []), ([], []), ([1], [1]), ([], []), ([2, 3], [2, 3]), ([4], [4]), ([0, 5], [0, 5]), ([6, 6, 0, 1, 2, 3, 4, 5, 6], [6])])
def spec_l02All.B5 : List Nat := [0, 0, 2, 0, 14, 30, 63, 127]
theorem spec_l02All.tab5 : rtab .any (opsOf Try.f110 5) = spec_l02All.T5 := by kernel_rfl
theorem spec_l02All.bits5 : waitsOk spec_l02All.T5.2 spec_l02All.B5 = true := by kernel_rfl
def spec_l02All.T9 : Bool × List (List Nat × List Nat) := (true, [([], []), ([], []), ([], []), ([2], [2]), ([], []), ([3, 4], [3, 4]), ([5], [5]), ([], []), ([], []), ([7, 8], [7, 8]), ([9], [9]), ([6, 10], [6, 10]), ([0, 1, 11], [0, 1, 11]), ([12], [12]), ([13], [13]), ([13], [13]), ([14, 12, 0, 1, 2, 3, 4, 5, 6, 7, 8, 9, 10, 11, 12, 13, 14], [1, 14])])
def spec_l02All.B9 : List Nat := [0, 0, 0, 4, 0, 28, 60, 0, 0, 384, 896, 2044, 4095, 8191, 16383, 16383, 32767]
theorem spec_l02All.tab9 : rtab .any (opsOf Try.f110 9) = spec_l02All.T9 := by kernel_rfl
theorem spec_l02All.bits9 : waitsOk spec_l02All.T9.2 spec_l02All.B9 = true := by kernel_rfl
set_option maxHeartbeats 8000000 in
set_option maxRecDepth 100000 in
theorem spec_l02All.calls (k : Nat) (a0_0 : Int) (A0_1 : Option Addr) (c0_1 : Nat) (l0_1 : List Int) (r : List (S73)) (w : World) (hr0_1 : Kd.C (Kd.int .i64) w A0_1 l0_1.length l0_1) (hc0_1 : l0_1.length ≤ c0_1) (h : spec_l02All.f k a0_0 l0_1 = some r) :
  Calls Try.prog 110 #[.agg #[.int .i64 a0_0, .slice A0_1 l0_1.length c0_1]] w fun e w' => ∃ v0_ : Value, e = .returned (v0_) ∧ Kd.R k73 73 w' w.heap.size (fun _ => True) v0_ r ∧ Below w.heap.size w w' := by
 have hu28 := Try.underlying28
 have hu73 := Try.underlying73
 have HR0_1 := Aside0.mk hr0_1
 have HC0_1 := Aside0.mk hc0_1
 clear hr0_1 hc0_1
 have HB := Aside0.mk (Below.refl w.heap.size w)
 have H : (spec_l02All.l0 k (([] : List (S73))) 0 a0_0 l0_1) = some r := h
 clear h
 obtain ⟨y363, hy363⟩ : ∃ y_ : List (S73), y_ = (([] : List (S73))) := ⟨_, rfl⟩
 replace H : (spec_l02All.l0 k y363 0 a0_0 l0_1) = some r := by first | (rw [hy363]; with_reducible exact H) | (have H2_ := (Option.bind_some _ _).symm.trans H; rw [hy363]; with_reducible exact H2_) | (have H2_ := (Option.bind_some _ _).symm.trans H; with_reducible exact H2_) | with_reducible exact H | (rw [hy363]; exact H) | exact H
 have Ny363 := Aside0.mk hy363
 clear hy363
 have H' := Aside0.mk H
 clear H
 go_enter Try.func110, Try.ntmps110
 go_wp2_with (first | ((with_reducible refine gate_dst (N := 1) rfl ?_); refine box_event ?hg (N := 1) ?hd (cs := #[.int .i64 a0_0, .slice A0_1 l0_1.length c0_1]) (t := 28) ?hr ?_; (case hd => rfl); (case hg => rfl); (case hr => first | (go_simp; done) | (go_simp; rfl)); intro gb362 hg w2 hbox hb; have BK362 := Aside0.mk (hbox); have GW362 := gH HB hg; have GE362 := gH HB hg; replace HB := sH HB hb; clear hb hbox hg) | ((with_reducible refine gate_dst (N := 7) rfl ?_); refine Kd.R_lit k73 _ 73 ?hg (N := 7) ?hd (xs := ([] : List (S73))) (inner := []) (ok := fun _ => True) (okp := fun _ => True) ?hr ?hp (fun _ hk => hk) trivial (Below.refl _ _) (Nat.le_refl _) (by simp) ?_; (case hd => rfl); (case hg => rfl); (case hr => first | (go_simp; done) | (go_simp; rfl)); (case hp => exact (Reps.none _ _)); intro v364 w3 ho4 hb hg_ hnew_; clear hg_ hnew_; (first | rw [← Ny363.out] at ho4 | (simp only [Int.reduceToNat] at ho4; rw [← Ny363.out] at ho4)); have HO365 := Aside0.mk (Kd.R_lower ho4 (below_size (pH HB))); replace BK362 := sB BK362 hb; replace HB := sH HB hb; clear hb ho4))
 go_loopg [3, 4] k (fun kq v3 v4 w' => ∃ (x3_1 : List (S73)) (x4_1 : Int), v4 = .int .i64 x4_1 ∧ Aside0 (spec_l02All.l0 kq x3_1 x4_1 a0_0 l0_1 = some r) ∧ Aside0 (kq ≤ k) ∧ Aside0 (Kd.R k73 73 w' w.heap.size (fun _ => True) v3 x3_1) ∧ Aside0 (w'.heap[gb362]? = some (.cells #[.int .i64 a0_0, (.slice A0_1 l0_1.length c0_1)] 28 (0, 0))) ∧ Aside0 (Below w.heap.size w w'))
 case atStart => exact ⟨(y363), (0), (by first | rfl | (simp; done) | (simp [*]; done)), H', ⟨Nat.le_refl _⟩, ⟨by (with_reducible repeat (first | apply Kd.R_alloc | apply Kd.R_drewN | apply Kd.R_drew)); exact HO365.out⟩, ⟨pB BK362⟩, ⟨pH HB⟩⟩
 case round =>
  clear H'
  try clear c1
  try clear p2
  obtain ⟨x3_1, x4_1, rfl, HA, HK1, HO_3, BK362, HB⟩ := hrel
  cases gk with
  | zero => exact absurd HA.out (by simp [spec_l02All.l0])
  | succ k1 =>
   have H := HA.out
   clear HA
   simp only [spec_l02All.l0] at H
   by_cases c5 : x4_1 < (l0_1.length : Int)
   ·rw [if_pos c5] at H
    have c5b0 : decide (x4_1 < (l0_1.length : Int)) = true := decide_eq_true c5
    clear c5
    by_cases c6 : 0 ≤ x4_1
    ·rw [if_pos c6] at H
     have c6b0 : decide (0 ≤ x4_1) = true := decide_eq_true c6
     clear c6
     replace H := Option.bind_eq_some_iff.mp H
     obtain ⟨t367, A70, H⟩ := H
     try dsimp only at H
     have A7 := Aside0.mk A70
     clear A70
     have H' := Aside0.mk H
     clear H
     have hcz8_0 : wr.cell? ⟨gb362, 0, none⟩ = some (.int .i64 a0_0) := cB BK362 0
     have hcz8_1 : wr.cell? ⟨gb362, 1, none⟩ = some (.slice A0_1 l0_1.length c0_1) := cB BK362 1
     have hfz8_0 := zB BK362 0
     have hfz8_1 := zB BK362 1
     try go_wp2
     replace HO_3 := Aside0.mk (Kd.R_drew HO_3.out)
     replace BK362 := dB BK362
     replace HB := dH HB
     have p366 : 0 ≤ (x4_1 : Int) := of_decide_eq_true (by first | (with_reducible assumption) | assumption)
     have q366 : x4_1 < (l0_1.length : Int) := of_decide_eq_true (by first | (with_reducible assumption) | assumption)
     obtain ⟨ad366, e366, hx366_0⟩ := Kd.at_int HR0_1.out x4_1 p366 q366
     have hw366_0 := hx366_0
     cases e366
     replace hx366_0 := cH HB hx366_0
     replace p366 := eq_true p366
     replace q366 := eq_true q366
     refine st_ 8 (S := fun w' => w'.cell? ⟨gb362, 0, none⟩ = some (.int .i64 a0_0) ∧ w'.cell? ⟨gb362, 1, none⟩ = some (.slice (some ad366) l0_1.length c0_1) ∧ w'.cell? (ad366.add (x4_1).toNat) = some (.int .i64 (rd l0_1 x4_1))) (ds := []) ⟨cB BK362 0, cB BK362 1, (cH HB hw366_0 :)⟩ (fun hHeld => ?_); refine with_tabW spec_l02All.tab5 spec_l02All.bits5 (fun HT_ HW_ => ?_)
     generalize wr.drew = w9 at HO_3 BK362 HB hx366_0 hHeld ⊢
     refine pu_ 1 16 2 HT_ ?_
     refine pu_ 3 18 10 HT_ ?_
     refine tk_ 0 15 11 HT_ HW_ hHeld ?_
     refine tk_ 2 17 15 HT_ HW_ hHeld ?_
     refine pu_ 4 19 31 HT_ ?_
     refine tk_ 5 20 63 HT_ HW_ hHeld ?_
     refine on_ 6 (some 21) 127 HT_ (fun K hK => ?_)
     refine ca_ Try.func130 #[.agg #[.int .i64 a0_0, .slice (some ad366) l0_1.length c0_1], .int .i64 (rd l0_1 x4_1)] ?_
     with_reducible refine (spec_l01Above.calls k1 a0_0 _ _ l0_1 (rd l0_1 x4_1) t367 _ ?side1 ?side2 A7.out).mono ?_
     (case side1 => exact pC ((Kd.C_below HR0_1.out HB.out)))
     (case side2 => exact HC0_1.out)
     rintro e w10 ⟨v368, rfl, ho0, hb⟩
     refine ⟨_, rfl, ?_⟩
     replace HO_3 := sR HO_3 hb
     have HO369 := Aside0.mk (Kd.R_lower ho0 (below_size (pH HB)))
     replace BK362 := sB BK362 hb
     replace HB := sH HB hb
     (try clear hb)
     (try clear hb2)
     (try clear hk)
     (try clear hi)
     (try clear ho0)
     refine hK.out _ _ ⟨cB BK362 0, cB BK362 1, (cH HB hw366_0 :)⟩ (fun hHeld => ?_)
     clear hK K
     refine nm_ ?_
     refine pu_ 7 5 255 HT_ ?_
     refine dn_ HT_ ?_
     try go_wp2
     go_loopg [3, 6] k1 (fun kq v3 v6 w' => ∃ (x3_2 : List (S73)) (x6_2 : Int), v6 = .int .i64 x6_2 ∧ Aside0 (spec_l02All.l1 kq x3_2 x4_1 t367 x6_2 a0_0 l0_1 = some r) ∧ Aside0 (kq ≤ k1) ∧ Aside0 (Kd.R k73 73 w' w.heap.size (fun _ => True) v3 x3_2) ∧ Aside0 (Kd.R (Kd.int .i64) 2 w' w.heap.size (fun _ => True) v368 t367) ∧ Aside0 (w'.heap[gb362]? = some (.cells #[.int .i64 a0_0, (.slice (some ad366) l0_1.length c0_1)] 28 (0, 0))) ∧ Aside0 (Below w.heap.size w w'))
     case atStart => exact ⟨(x3_1), (0), (by first | rfl | (simp; done) | (simp [*]; done)), H', ⟨Nat.le_refl _⟩, ⟨by (with_reducible repeat (first | apply Kd.R_alloc | apply Kd.R_drewN | apply Kd.R_drew)); exact HO_3.out⟩, ⟨by (with_reducible repeat (first | apply Kd.R_alloc | apply Kd.R_drewN | apply Kd.R_drew)); exact HO369.out⟩, ⟨pB BK362⟩, ⟨pH HB⟩⟩
     case round =>
      clear H'
      try clear c1
      try clear p2
      try clear p3
      try clear q3
      try clear hx3
      try clear c5
      try clear c5b0
      try clear c6
      try clear c6b0
      try clear hcz8_0
      try clear hcz8_1
      try clear hfz8_0
      try clear hfz8_1
      try clear hx366_0
      try clear p2
      try clear p366
      try clear q366
      obtain ⟨x3_2, x6_2, rfl, HA, HK2, HO_3, HO_5, BK362, HB⟩ := hrel
      cases gk with
      | zero => exact absurd HA.out (by simp [spec_l02All.l1])
      | succ k2 =>
       have H := HA.out
       clear HA
       simp only [spec_l02All.l1] at H
       by_cases c11 : x6_2 < (t367.length : Int)
       ·rw [if_pos c11] at H
        have c11b0 : decide (x6_2 < (t367.length : Int)) = true := decide_eq_true c11
        clear c11
        by_cases c12 : 0 ≤ x4_1
        ·rw [if_pos c12] at H
         have c12b0 : decide (0 ≤ x4_1) = true := decide_eq_true c12
         clear c12
         by_cases c13 : x4_1 < (l0_1.length : Int)
         ·rw [if_pos c13] at H
          have c13b0 : decide (x4_1 < (l0_1.length : Int)) = true := decide_eq_true c13
          clear c13
          by_cases c14 : 0 ≤ x6_2
          ·rw [if_pos c14] at H
           have c14b0 : decide (0 ≤ x6_2) = true := decide_eq_true c14
           clear c14
           replace H := Option.bind_eq_some_iff.mp H
           obtain ⟨⟨t372, t375⟩, A150, H⟩ := H
           try dsimp only at H
           have A15 := Aside0.mk A150
           clear A150
           have H' := Aside0.mk H
           clear H
           obtain ⟨Ao16, co16, eo16⟩ := Kd.R_slice HO_5.out
           subst eo16
           try go_wp2
           replace HO_3 := Aside0.mk (Kd.R_drew HO_3.out)
           replace HO_5 := Aside0.mk (Kd.R_drew HO_5.out)
           replace BK362 := dB BK362
           replace HB := dH HB
           have p370 : 0 ≤ (x4_1 : Int) := of_decide_eq_true (by first | (with_reducible assumption) | assumption)
           have q370 : x4_1 < (l0_1.length : Int) := of_decide_eq_true (by first | (with_reducible assumption) | assumption)
           obtain ⟨ad370, e370, hx370_0⟩ := Kd.at_int HR0_1.out x4_1 p370 q370
           have hw370_0 := hx370_0
           obtain rfl : ad366 = ad370 := (by injection e370)
           replace hx370_0 := cH HB hx370_0
           replace p370 := eq_true p370
           replace q370 := eq_true q370
           have p371 : 0 ≤ (x6_2 : Int) := of_decide_eq_true (by first | (with_reducible assumption) | assumption)
           have q371 : x6_2 < (t367.length : Int) := of_decide_eq_true (by first | (with_reducible assumption) | assumption)
           obtain ⟨ad371, e371, hx371_0⟩ := Kd.at_int (Kd.R_reads' HO_5.out).2.2 x6_2 p371 q371
           cases e371
           replace p371 := eq_true p371
           replace q371 := eq_true q371
           obtain ⟨Ao18, co18, eo18⟩ := Kd.R_slice HO_3.out
           (first | subst eo18 | (injection eo18 with f1_ f2_ f3_; have f4_ := f1_.symm; have f5_ := f3_.symm; clear f1_ f2_ f3_; subst f4_; subst f5_))
           refine st_ 17 (S := fun w' => w'.cell? ⟨gb362, 0, none⟩ = some (.int .i64 a0_0) ∧ w'.cell? ⟨gb362, 1, none⟩ = some (.slice (some ad366) l0_1.length c0_1) ∧ w'.cell? (ad366.add (x4_1).toNat) = some (.int .i64 (rd l0_1 x4_1)) ∧ w'.cell? (ad371.add (x6_2).toNat) = some (.int .i64 (rd t367 x6_2))) (ds := []) ⟨cB BK362 0, cB BK362 1, (cH HB hw370_0 :), hx371_0⟩ (fun hHeld => ?_); refine with_tabW spec_l02All.tab9 spec_l02All.bits9 (fun HT_ HW_ => ?_)
           generalize wr.drew = w17 at HO_3 HO_5 BK362 HB hx370_0 hx371_0 hHeld ⊢
           refine pu_ 1 30 2 HT_ ?_
           refine pu_ 2 31 6 HT_ ?_
           refine pu_ 4 33 22 HT_ ?_
           refine pu_ 7 36 150 HT_ ?_
           refine pu_ 8 37 406 HT_ ?_
           refine pu_ 9 38 918 HT_ ?_
           refine tk_ 0 29 919 HT_ HW_ hHeld ?_
           refine tk_ 3 32 927 HT_ HW_ hHeld ?_
           refine pu_ 5 34 959 HT_ ?_
           refine tk_ 6 35 1023 HT_ HW_ hHeld ?_
           refine tk_ 10 39 2047 HT_ HW_ hHeld ?_
           refine pu_ 11 40 4095 HT_ ?_
           refine on_ 12 (some 41) 8191 HT_ (fun K hK => ?_)
           refine ca_ Try.func111 #[.agg #[.int .i64 a0_0, .slice (some ad366) l0_1.length c0_1], .slice Ao18 x3_2.length co18, .agg #[.int .i64 (rd l0_1 x4_1), .int .i64 (rd t367 x6_2)]] ?_
           with_reducible refine (spec_l02With.calls k2 a0_0 _ _ l0_1 _ _ x3_2 (rd l0_1 x4_1) (rd t367 x6_2) t372 t375 _ ?side1 ?side2 ?side3 ?side4 A15.out).mono ?_
           (case side1 => exact pC ((Kd.C_below HR0_1.out HB.out)))
           (case side2 => exact HC0_1.out)
           (case side3 => exact pC ((Kd.R_reads' HO_3.out).2.2))
           (case side4 => exact (Kd.R_reads' HO_3.out).2.1)
           rintro e w19 ⟨v373, rfl, ho0, hb⟩
           have HS3_ := (hb.cell (World.block_lt_of_cell? _ _ (hHeld.2.2.2))).trans (hHeld.2.2.2)
           refine ⟨_, rfl, ?_⟩
           replace HO_5 := sR HO_5 hb
           have HO374 := Aside0.mk (Kd.R_lower (Kd.R_new' ho0 (Kd.R_lt (pR HO_3))) (below_size (pH HB)))
           replace HO_3 := Aside0.mk (Kd.R_elder' (pR HO_3) (Kd.R_base ho0) hb)
           replace BK362 := sB BK362 hb
           replace HB := sH HB hb
           (try clear hb)
           (try clear hb2)
           (try clear hk)
           (try clear hi)
           (try clear ho0)
           refine hK.out _ _ ⟨cB BK362 0, cB BK362 1, (cH HB hw370_0 :), HS3_⟩ (fun hHeld => ?_)
           clear hK K
           refine nm_ ?_
           refine pu_ 13 28 16383 HT_ ?_
           refine pu_ 14 42 32767 HT_ ?_
           refine pu_ 15 43 65535 HT_ ?_
           refine pu_ 16 3 131071 HT_ ?_
           refine dn_ HT_ ?_
           try go_wp2
           go_roundg k2
           case measure => have := HK1.out; have := HK2.out; omega
           case rel => exact ⟨(t372), (wrap64 (x6_2 + 1)), (by first | rfl | (simp; done) | (simp [*]; done)), H', ⟨by have := HK1.out; have := HK2.out; omega⟩, ⟨by (with_reducible repeat (first | apply Kd.R_alloc | apply Kd.R_drewN | apply Kd.R_drew)); exact Kd.R_mono HO374.out (fun _ hk => trivial)⟩, ⟨by (with_reducible repeat (first | apply Kd.R_alloc | apply Kd.R_drewN | apply Kd.R_drew)); exact HO_5.out⟩, ⟨pB BK362⟩, ⟨pH HB⟩⟩
          ·rw [if_neg c14] at H
           exact absurd H (by simp)
         ·rw [if_neg c13] at H
          exact absurd H (by simp)
        ·rw [if_neg c12] at H
         exact absurd H (by simp)
       ·rw [if_neg c11] at H
        have c11b0 : decide (x6_2 < (t367.length : Int)) = false := decide_eq_false c11
        clear c11
        have H' := Aside0.mk H
        clear H
        obtain ⟨Ao20, co20, eo20⟩ := Kd.R_slice HO_5.out
        subst eo20
        go_wp2
        go_roundg k2
        case measure => have := HK1.out; have := HK2.out; omega
        case rel => exact ⟨(x3_2), (wrap64 (x4_1 + 1)), (by first | rfl | (simp; done) | (simp [*]; done)), H', ⟨by have := HK1.out; have := HK2.out; omega⟩, ⟨by (with_reducible repeat (first | apply Kd.R_alloc | apply Kd.R_drewN | apply Kd.R_drew)); exact HO_3.out⟩, ⟨pB BK362⟩, ⟨pH HB⟩⟩
    ·rw [if_neg c6] at H
     exact absurd H (by simp)
   ·rw [if_neg c5] at H
    have c5b0 : decide (x4_1 < (l0_1.length : Int)) = false := decide_eq_false c5
    clear c5
    obtain rfl := Option.some.inj H
    have hcz21_0 : wr.cell? ⟨gb362, 0, none⟩ = some (.int .i64 a0_0) := cB BK362 0
    have hcz21_1 : wr.cell? ⟨gb362, 1, none⟩ = some (.slice A0_1 l0_1.length c0_1) := cB BK362 1
    have hfz21_0 := zB BK362 0
    have hfz21_1 := zB BK362 1
    go_wp2
    go_ret
    exact ⟨_, by first | rfl | (simp [errW_none, errW_some] <;> rfl) | (simp [*, errW_none, errW_some] <;> rfl) | (exfalso; simp_all), by (with_reducible repeat (first | apply Kd.R_alloc | apply Kd.R_drewN | apply Kd.R_drew)); exact HO_3.out, pH HB⟩
end Go.Proofs.Ytomdfjohnmikdaa.QS
namespace Go.Proofs.Ytomdfjohnmikdaa.Pu
open Go.RowKit Kp Ext QS Im YtomdfjohnmikdaaW.PrintWords YtomdfjohnmikdaaW.PrintLast YtomdfjohnmikdaaW.PrintMore
theorem cmp_lt (p q : Pr) : cmpP p q < 0 ↔ p.f0 < q.f0 ∨ (p.f0 = q.f0 ∧ p.f1 < q.f1) := by
  unfold cmpP cmpI
  by_cases h1 : p.f0 < q.f0
  · simp [h1]
  · by_cases h2 : p.f0 > q.f0
    · simp [h1, h2]; omega
    · have h3 : p.f0 = q.f0 := by omega
      by_cases h4 : p.f1 < q.f1
      · simp [h3, h4]
      · by_cases h5 : p.f1 > q.f1
        · simp [h3, h4, h5]
        · simp [h3, h4, h5]
theorem cmp_trans {p q r : Pr} (h1 : cmpP p q < 0) (h2 : cmpP q r < 0) : cmpP p r < 0 := by
  rw [cmp_lt] at *
  omega
theorem cmp_irr (p : Pr) : ¬ cmpP p p < 0 := by rw [cmp_lt]; omega
theorem cmp_asym {p q : Pr} (h1 : cmpP p q < 0) : ¬ cmpP q p < 0 := by rw [cmp_lt] at *; omega
theorem cmp_eq {p q : Pr} (h1 : ¬ cmpP p q < 0) (h2 : ¬ cmpP q p < 0) : p = q := by
  obtain ⟨a, b⟩ := p
  obtain ⟨c, d⟩ := q
  rw [cmp_lt] at *
  simp only at h1 h2
  simp; omega
abbrev SortedP (l : List Pr) : Prop := l.Pairwise (fun p q => cmpP p q < 0)
theorem getP {l : List Pr} {i : Nat} (hi : i < l.length) : l.getD i z73 = l[i] := by rw [List.getD_eq_getElem?_getD, List.getElem?_eq_getElem hi]; rfl
theorem pairing_at {xs : List Int} {l : List Pr} (h : pairingB xs l = true) {i : Nat} (hi : i < l.length) : pairB xs l[i] = true ∧ (∀ q ∈ l.take i, hasF l[i].f0 q = false ∧ hasF l[i].f1 q = false) ∧ (∀ (h0 : 0 < i), cmpP (l[i - 1]'(by omega)) l[i] < 0) := by
  have h1 := List.all_eq_true.1 h i (List.mem_range.2 hi)
  unfold okPairAt at h1
  rw [getP hi] at h1
  simp only [Bool.and_eq_true, Bool.not_eq_true', List.any_eq_false, Bool.or_eq_true, beq_iff_eq, decide_eq_true_eq] at h1
  refine ⟨h1.1, fun q hq => ⟨by simpa using h1.2.1 q hq, by simpa using h1.2.2.1 q hq⟩, fun h0 => ?_⟩
  have h2 := h1.2.2.2.resolve_left (by omega)
  rwa [getP (show i - 1 < l.length by omega)] at h2
theorem sorted_of {xs : List Int} {l : List Pr} (h : pairingB xs l = true) : SortedP l := by
  refine List.pairwise_iff_getElem.2 fun i j hi hj hij => ?_
  induction j with
  | zero => omega
  | succ j ih =>
    have h1 := (pairing_at h hj).2.2 (by omega)
    simp only [Nat.add_sub_cancel] at h1
    rcases Nat.lt_or_ge i j with h2 | h2
    · exact cmp_trans (ih (by omega) h2) h1
    · obtain rfl : i = j := by omega
      exact h1
theorem pairing_len {n : Int} {xs : List Int} (hi : isC n xs = true) {l : List Pr} (h : pairingB xs l = true) : l.length ≤ 63 := by
  have h1 := nodup_len 63 (l.map (·.f0)) (by
    unfold List.Nodup
    rw [List.pairwise_map]
    refine List.pairwise_iff_getElem.2 fun i j hi hj hij => ?_
    have h2 := ((pairing_at h hj).2.1 l[i] (by rw [List.mem_take_iff_getElem]; exact ⟨i, by omega, rfl⟩)).1
    intro e
    unfold hasF at h2
    rw [e] at h2
    simp at h2) (fun x hx => by
    obtain ⟨q, hq, rfl⟩ := List.mem_map.1 hx
    have := facesP_of hi h q hq
    omega)
  simpa using h1
theorem place_cut {p : Pr} : ∀ {l : List Pr}, SortedP l → ∀ j (hj : j < l.length), cmpP l[j] p < 0 ↔ j < placeP l p
  | [], _, j, hj => by simp at hj
  | q :: l, hs, j, hj => by
    obtain ⟨h1, h2⟩ := List.pairwise_cons.1 hs
    by_cases hq : cmpP q p < 0
    · have hp : placeP (q :: l) p = placeP l p + 1 := by unfold placeP; rw [List.takeWhile_cons_of_pos (by simpa using hq), List.length_cons]
      rw [hp]
      rcases j with _ | j
      · simpa using hq
      · have := place_cut (p := p) h2 j (by simpa using hj)
        rw [List.getElem_cons_succ, this]; omega
    · have hp : placeP (q :: l) p = 0 := by unfold placeP; rw [List.takeWhile_cons_of_neg (by simpa using hq)]; rfl
      rw [hp]
      refine ⟨fun h => ?_, fun h => absurd h (Nat.not_lt_zero _)⟩
      rcases j with _ | j
      · exact absurd h hq
      · exact absurd (cmp_trans (h1 _ (List.getElem_mem _)) h) hq
theorem back_is {l : List Pr} {p : Pr} {b : Nat} : ∀ m, b ≤ m → m ≤ l.length → (∀ j (hj : j < l.length), b ≤ j → j < m → cmpP p l[j] < 0) → (∀ (h0 : 0 < b) (hl : b - 1 < l.length), ¬ cmpP p l[b - 1] < 0) → backP l p m = b
  | 0, hb, _, _, _ => by unfold backP; omega
  | m + 1, hb, hm, h1, h2 => by
    unfold backP
    rw [getP (show m < l.length by omega)]
    rcases Nat.lt_or_ge m b with h3 | h3
    · obtain rfl : b = m + 1 := by omega
      have := h2 (by omega) (by omega)
      simp only [Nat.add_sub_cancel] at this
      rw [if_neg this]
    · rw [if_pos (h1 m (by omega) h3 (by omega))]
      exact back_is m h3 (by omega) (fun j hj a b => h1 j hj a (by omega)) h2
theorem put_with {l : List Pr} (hs : SortedP l) (p : Pr) : putP l p = withP l p := by
  have hle := placeP_le l p
  by_cases hp : ∃ h : placeP l p < l.length, l[placeP l p] = p
  · obtain ⟨h, hp⟩ := hp
    have hb : backP l p l.length = placeP l p + 1 := back_is _ (by omega) (Nat.le_refl _) (fun j hj h1 _ => by
        have := List.pairwise_iff_getElem.1 hs (placeP l p) j h hj (by omega)
        rwa [hp] at this) (fun _ hl => by
        simp only [Nat.add_sub_cancel]
        rw [hp]; exact cmp_irr p)
    unfold putP withP
    rw [hb, List.take_succ_eq_append_getElem h, hp, List.append_assoc]
    congr 1
    rw [List.drop_eq_getElem_cons h, hp]
    rfl
  · have hb : backP l p l.length = placeP l p := back_is _ hle (Nat.le_refl _) (fun j hj h1 _ => by
        have h2 : ¬ cmpP l[j] p < 0 := fun h => by have := (place_cut hs j hj).1 h; omega
        refine Classical.byContradiction fun h3 => ?_
        have h4 := cmp_eq h3 h2
        rcases Nat.lt_or_ge (placeP l p) j with h5 | h5
        · have h6 := List.pairwise_iff_getElem.1 hs (placeP l p) j (by omega) hj h5
          rw [← h4] at h6
          have := (place_cut hs (placeP l p) (by omega)).1 h6
          omega
        · have h6 : j = placeP l p := by omega
          subst h6
          exact hp ⟨hj, h4.symm⟩) (fun h0 hl => by
        have := (place_cut (p := p) hs (placeP l p - 1) hl).2 (by omega)
        exact cmp_asym this)
    unfold putP withP
    rw [hb]
theorem with_end {l : List Pr} {p : Pr} (h : ∀ q ∈ l, cmpP q p < 0) : withP l p = l ++ [p] := by
  have hp : placeP l p = l.length := by
    unfold placeP
    refine congrArg List.length ?_
    induction l with
    | nil => rfl
    | cons a l ih => rw [List.takeWhile_cons_of_pos (by simpa using h a (by simp)), ih (fun q hq => h q (by simp [hq]))]
  unfold withP
  rw [hp, List.take_length, List.drop_length]
theorem ev_with {n : Int} {xs : List Int} (hi : isC n xs = true) {l : List Pr} (hs : SortedP l) (hl : l.length ≤ 1000000) (p : Pr) : Ev (fun k => spec_l02With.f k n xs l p.f0 p.f1) (withP l p, pairingB xs (withP l p)) := by
  unfold spec_l02With.f
  simp only [if_pos hl]
  rw [show (⟨p.f0, p.f1⟩ : Pr) = p from rfl, put_with hs p]
  exact Ev.bind (ev_is2 hi (by rw [withP_len]; omega)) (Ev.now _)
theorem pair_over_all : ((List.range 64).all fun f => (List.range 64).all fun g => ((Go.bits .andNot .i64 (f : Int) (g : Int) == 0) && (onesZ (g : Int) == onesZ (f : Int) + 1)) == overP (f : Int) (g : Int)) = true := by decide +kernel
theorem pair_over {n : Int} {xs : List Int} (hi : isC n xs = true) {f g : Int} (hf : f ∈ xs) (hg : g ∈ xs) : pairB xs ⟨f, g⟩ = overP f g := by
  have r := isC_63 hi
  obtain ⟨a, rfl⟩ := Int.eq_ofNat_of_zero_le (show 0 ≤ f by have := r f hf; omega)
  obtain ⟨b, rfl⟩ := Int.eq_ofNat_of_zero_le (show 0 ≤ g by have := r g hg; omega)
  have h := List.all_eq_true.1 (List.all_eq_true.1 pair_over_all a (List.mem_range.2 (by have := r _ hf; omega))) b (List.mem_range.2 (by have := r _ hg; omega))
  unfold pairB
  simp only [hf, hg, decide_true, Bool.true_and]
  exact eq_of_beq h
def rowP (xs : List Int) (f : Int) : List Pr := (xs.filter (overP f)).map fun g => ⟨f, g⟩
def pairsL (xs : List Int) : List Pr := xs.flatMap (rowP xs)
theorem rowP_len (xs : List Int) (f : Int) : (rowP xs f).length ≤ xs.length := by
  unfold rowP
  rw [List.length_map]
  exact List.length_filter_le _ _
theorem flat_len {xs : List Int} : ∀ (l : List Int), (l.flatMap (rowP xs)).length ≤ l.length * xs.length
  | [] => by simp
  | a :: l => by
    have h1 := rowP_len xs a
    have h2 := flat_len (xs := xs) l
    rw [List.flatMap_cons, List.length_append, List.length_cons, Nat.succ_mul]
    omega
theorem pairs_sorted {n : Int} {xs : List Int} (hi : isC n xs = true) : SortedP (pairsL xs) := by
  have ha := ascB_asc (isC_of hi).2.1
  refine List.pairwise_flatMap.2 ⟨fun f hf => ?_, ?_⟩
  · unfold rowP
    rw [List.pairwise_map]
    refine List.Pairwise.filter _ (List.Pairwise.imp ?_ ha)
    intro a b hab
    rw [cmp_lt]
    exact .inr ⟨rfl, hab⟩
  · refine List.Pairwise.imp ?_ ha
    intro a b hab x hx y hy
    unfold rowP at hx hy
    obtain ⟨g, _, rfl⟩ := List.mem_map.1 hx
    obtain ⟨g', _, rfl⟩ := List.mem_map.1 hy
    rw [cmp_lt]
    exact .inl hab
theorem pairs_mem {xs : List Int} {q : Pr} (h : q ∈ pairsL xs) : q.f0 ∈ xs ∧ q.f1 ∈ xs := by
  unfold pairsL at h
  obtain ⟨f, hf, hq⟩ := List.mem_flatMap.1 h
  unfold rowP at hq
  obtain ⟨g, hg, rfl⟩ := List.mem_map.1 hq
  exact ⟨hf, (List.mem_filter.1 hg).1⟩
theorem all_l1 {n : Int} {xs : List Int} (hi : isC n xs = true) {i : Nat} (hil : i < xs.length) (R : List Pr)
    (hR : Ev (fun k => spec_l02All.l0 k ((xs.take (i + 1)).flatMap (rowP xs)) ((i + 1 : Nat) : Int) n xs) R) :
    ∀ d (j : Nat), (xs.filter (overP xs[i])).length - j = d → j ≤ (xs.filter (overP xs[i])).length →
      Ev (fun k => spec_l02All.l1 k ((xs.take i).flatMap (rowP xs) ++ ((xs.filter (overP xs[i])).take j).map fun g => (⟨xs[i], g⟩ : Pr)) i (xs.filter (overP xs[i])) j n xs) R := by
  have hx := isC_small hi
  have hfl : (xs.filter (overP xs[i])).length ≤ xs.length := List.length_filter_le _ _
  intro d
  induction d with
  | zero =>
    intro j hd hj
    refine Ev.step (fun k => ?_) hR
    simp only [spec_l02All.l1]
    rw [if_neg (by omega), succ64 (by omega), List.take_of_length_le (by omega : (xs.filter (overP xs[i])).length ≤ j), List.take_succ_eq_append_getElem hil, List.flatMap_append, List.flatMap_singleton]
    rfl
  | succ d ih =>
    intro j hd hj
    have hj' : j < (xs.filter (overP xs[i])).length := by omega
    have hlt : ∀ q ∈ (xs.take i).flatMap (rowP xs) ++ ((xs.filter (overP xs[i])).take j).map (fun g => (⟨xs[i], g⟩ : Pr)), cmpP q ⟨xs[i], (xs.filter (overP xs[i]))[j]⟩ < 0 := by
      have ha := ascB_asc (isC_of hi).2.1
      intro q hq
      rw [cmp_lt]
      rcases List.mem_append.1 hq with hq | hq
      · obtain ⟨f, hf, hq⟩ := List.mem_flatMap.1 hq
        obtain ⟨g, hg, rfl⟩ := List.mem_map.1 (show q ∈ (xs.filter (overP f)).map _ from hq)
        obtain ⟨m, hm, rfl⟩ := List.mem_take_iff_getElem.1 hf
        exact .inl (List.pairwise_iff_getElem.1 ha m i (by omega) hil (by omega))
      · obtain ⟨g, hg, rfl⟩ := List.mem_map.1 hq
        obtain ⟨m, hm, rfl⟩ := List.mem_take_iff_getElem.1 hg
        exact .inr ⟨rfl, List.pairwise_iff_getElem.1 (ha.filter _) m j (by omega) hj' (by omega)⟩
    have hsort : SortedP ((xs.take i).flatMap (rowP xs) ++ ((xs.filter (overP xs[i])).take j).map (fun g => (⟨xs[i], g⟩ : Pr))) := by
      refine (pairs_sorted hi).sublist ?_
      have hcut : pairsL xs = (xs.take i).flatMap (rowP xs) ++ (rowP xs xs[i] ++ (xs.drop (i + 1)).flatMap (rowP xs)) := by
        have h := List.take_append_drop i xs
        rw [List.drop_eq_getElem_cons hil] at h
        refine (congrArg (fun z => z.flatMap (rowP xs)) h.symm).trans ?_
        simp only [List.flatMap_append, List.flatMap_cons]
      rw [hcut]
      refine List.Sublist.append (List.Sublist.refl _) ?_
      refine List.Sublist.trans ?_ (List.sublist_append_left _ _)
      unfold rowP
      exact (List.take_sublist _ _).map _
    have hlen : ((xs.take i).flatMap (rowP xs) ++ ((xs.filter (overP xs[i])).take j).map (fun g => (⟨xs[i], g⟩ : Pr))).length ≤ 1000000 := by
      have h1 := flat_len (xs := xs) (xs.take i)
      have h2 : (xs.take i).length * xs.length ≤ 63 * 63 := Nat.mul_le_mul (by rw [List.length_take]; omega) hx
      rw [List.length_append, List.length_map, List.length_take]
      omega
    have hw := ev_with hi hsort hlen ⟨xs[i], (xs.filter (overP xs[i]))[j]⟩
    rw [with_end hlt] at hw
    refine Ev.step (f := fun k => (spec_l02With.f k n xs ((xs.take i).flatMap (rowP xs) ++ ((xs.filter (overP xs[i])).take j).map (fun g => (⟨xs[i], g⟩ : Pr))) xs[i] (xs.filter (overP xs[i]))[j]).bind fun bt => spec_l02All.l1 k bt.1 i (xs.filter (overP xs[i])) ((j + 1 : Nat) : Int) n xs) (fun k => ?_) (Ev.bind hw ?_)
    · simp only [spec_l02All.l1]
      rw [if_pos (by omega), if_pos (by omega), if_pos (by omega), if_pos (by omega), rd_at hil, rd_at hj', succ64 (by omega)]
    · have := ih (j + 1) (by omega) (by omega)
      rw [List.take_succ_eq_append_getElem hj', List.map_append, ← List.append_assoc] at this
      exact this
theorem all_l0 {n : Int} {xs : List Int} (hi : isC n xs = true) : ∀ d (i : Nat), xs.length - i = d → i ≤ xs.length → Ev (fun k => spec_l02All.l0 k ((xs.take i).flatMap (rowP xs)) (i : Int) n xs) (pairsL xs) := by
  have hx := isC_small hi
  intro d
  induction d with
  | zero =>
    intro i hd hil
    refine Ev.step (f := fun k => some (pairsL xs)) (fun k => ?_) (Ev.now _)
    simp only [spec_l02All.l0]
    rw [if_neg (by omega), List.take_of_length_le (by omega)]
    rfl
  | succ d ih =>
    intro i hd hil
    have hil' : i < xs.length := by omega
    refine Ev.step (f := fun k => (spec_l01Above.f k n xs xs[i]).bind fun t => spec_l02All.l1 k ((xs.take i).flatMap (rowP xs)) i t 0 n xs) (fun k => ?_) (Ev.bind (ev_above n xs[i] (by have := isC_63 hi xs[i] (List.getElem_mem hil'); omega) (by omega) (isC_63 hi)) ?_)
    · simp only [spec_l02All.l0]
      rw [if_pos (by omega), if_pos (by omega), rd_at hil']
    · have := all_l1 hi hil' (pairsL xs) (ih (i + 1) (by omega) (by omega)) _ 0 rfl (Nat.zero_le _)
      simpa using this
theorem ev_all {n : Int} {xs : List Int} (hi : isC n xs = true) : Ev (fun k => spec_l02All.f k n xs) (pairsL xs) := by
  unfold spec_l02All.f
  have := all_l0 hi _ 0 rfl (Nat.zero_le _)
  simpa using this
def okP (xs : List Int) (l : List Pr) (p : Pr) : Bool := pairingB xs (withP l p) && acycB (withP l p)
theorem pairs_len {n : Int} {xs : List Int} (hi : isC n xs = true) : (pairsL xs).length ≤ 4000 := by
  have hx := isC_small hi
  have h1 := flat_len (xs := xs) xs
  have h2 : xs.length * xs.length ≤ 63 * 63 := Nat.mul_le_mul hx hx
  unfold pairsL
  omega
def subsL (xs : List Int) : List Pr → List Pr → List (List Pr)
  | [], _ => []
  | p :: rest, l => (if okP xs l p = true then withP l p :: subsL xs rest (withP l p) else []) ++ subsL xs rest l
def enumL (xs : List Int) (rest l : List Pr) : List (List Pr) := l :: subsL xs rest l
section
variable {σ : Type} {upd : σ → List Pr → σ} {xs : List Int} {all l : List Pr} {i : Nat} {s : σ}
end
theorem okP_pairing {xs : List Int} {l : List Pr} {p : Pr} (h : okP xs l p = true) : pairingB xs (withP l p) = true := by
  unfold okP at h
  rw [Bool.and_eq_true] at h
  exact h.1
def freeP (l : List Pr) (p : Pr) : Bool := !(l.any (hasF p.f0)) && !(l.any (hasF p.f1))
def Bef (l rest : List Pr) : Prop := ∀ q ∈ l, ∀ p ∈ rest, cmpP q p < 0
theorem Bef.nil (rest : List Pr) : Bef [] rest := fun q h => by cases h
theorem Bef.tail {l rest : List Pr} {p : Pr} (h : Bef l (p :: rest)) : Bef l rest := fun q hq r hr => h q hq r (List.mem_cons_of_mem _ hr)
theorem Bef.with {l rest : List Pr} {p : Pr} (h : Bef l (p :: rest)) : withP l p = l ++ [p] := with_end fun q hq => h q hq p (List.mem_cons_self ..)
theorem Bef.step {l rest : List Pr} {p : Pr} (h : Bef l (p :: rest)) (hs : SortedP (p :: rest)) : Bef (l ++ [p]) rest := fun q hq r hr => by
  rcases List.mem_append.1 hq with hq | hq
  · exact h.tail q hq r hr
  · rw [List.mem_singleton.1 hq]
    exact (List.pairwise_cons.1 hs).1 r hr
theorem getD_app {l r : List Pr} {i : Nat} (hi : i < l.length) (d : Pr) : (l ++ r).getD i d = l.getD i d := by rw [List.getD_eq_getElem?_getD, List.getD_eq_getElem?_getD, List.getElem?_append_left hi]
theorem pairing_snoc {xs : List Int} {l : List Pr} {p : Pr} (hl : pairingB xs l = true) (hp : pairB xs p = true) (hb : ∀ q ∈ l, cmpP q p < 0) : pairingB xs (l ++ [p]) = freeP l p := by
  have hat : ∀ i, i < l.length → okPairAt xs (l ++ [p]) i = true := fun i hi => by
    have h1 := List.all_eq_true.1 hl i (List.mem_range.2 hi)
    unfold okPairAt at h1 ⊢
    rw [getD_app hi, List.take_append_of_le_length (by omega), getD_app (show i - 1 < l.length by omega)]
    exact h1
  have hend : okPairAt xs (l ++ [p]) l.length = freeP l p := by
    unfold okPairAt freeP
    have hg : (l ++ [p]).getD l.length z73 = p := by simp [List.getD_eq_getElem?_getD]
    rw [hg, hp, List.take_left]
    have hc : (l.length == 0 || decide (cmpP ((l ++ [p]).getD (l.length - 1) z73) p < 0)) = true := by
      rcases Nat.eq_zero_or_pos l.length with h0 | h0
      · rw [h0]; rfl
      · rw [getD_app (show l.length - 1 < l.length by omega), List.getD_eq_getElem?_getD, List.getElem?_eq_getElem (by omega), Option.getD_some]
        have := hb _ (List.getElem_mem (show l.length - 1 < l.length by omega))
        rw [decide_eq_true this, Bool.or_true]
    rw [hc, Bool.and_true, Bool.true_and]
  unfold pairingB
  rw [List.length_append, List.length_singleton, List.range_succ, List.all_append, List.all_cons, List.all_nil, Bool.and_true, hend]
  rw [show (List.range l.length).all (okPairAt xs (l ++ [p])) = true from List.all_eq_true.2 fun i hi => hat i (List.mem_range.1 hi), Bool.true_and]
theorem pair_of {xs : List Int} {l : List Pr} {p : Pr} (h : pairingB xs (l ++ [p]) = true) : pairB xs p = true ∧ freeP l p = true := by
  have h1 := pairing_at h (i := l.length) (by simp)
  have hg : (l ++ [p])[l.length]'(by simp) = p := by simp
  rw [hg, List.take_left] at h1
  refine ⟨h1.1, ?_⟩
  unfold freeP
  rw [Bool.and_eq_true, Bool.not_eq_true', Bool.not_eq_true', List.any_eq_false, List.any_eq_false]
  exact ⟨fun q hq => by rw [(h1.2.1 q hq).1]; exact Bool.false_ne_true, fun q hq => by rw [(h1.2.1 q hq).2]; exact Bool.false_ne_true⟩
def cntF (f : Pr → Int) (l rest : List Pr) : Nat := ((List.range 64).filter fun x : Nat => rest.any fun p => freeP l p && f p == (x : Int)).length
theorem filter_le {α : Type} {p q : α → Bool} : ∀ (L : List α), (∀ x ∈ L, p x = true → q x = true) → (L.filter p).length ≤ (L.filter q).length
  | [], _ => Nat.le_refl _
  | x :: L, h => by
    have ih := filter_le L (fun y hy => h y (List.mem_cons_of_mem _ hy))
    have hx := h x (List.mem_cons_self ..)
    by_cases hp : p x = true
    · rw [List.filter_cons_of_pos hp, List.filter_cons_of_pos (hx hp), List.length_cons, List.length_cons]; omega
    · rw [List.filter_cons_of_neg hp]
      by_cases hq : q x = true
      · rw [List.filter_cons_of_pos hq, List.length_cons]; omega
      · rw [List.filter_cons_of_neg hq]; exact ih
theorem filter_lt {α : Type} {p q : α → Bool} {a : α} : ∀ (L : List α), (∀ x ∈ L, p x = true → q x = true) → a ∈ L → p a = false → q a = true → (L.filter p).length + 1 ≤ (L.filter q).length
  | [], _, h, _, _ => by cases h
  | x :: L, h, ha, hp, hq => by
    have hL := fun y hy => h y (List.mem_cons_of_mem x hy)
    rcases List.mem_cons.1 ha with rfl | ha
    · rw [List.filter_cons_of_neg (by rw [hp]; exact Bool.false_ne_true), List.filter_cons_of_pos hq, List.length_cons]
      have := filter_le L hL
      omega
    · have ih := filter_lt L hL ha hp hq
      have hx := h x (List.mem_cons_self ..)
      by_cases h1 : p x = true
      · rw [List.filter_cons_of_pos h1, List.filter_cons_of_pos (hx h1), List.length_cons, List.length_cons]; omega
      · rw [List.filter_cons_of_neg h1]
        by_cases h2 : q x = true
        · rw [List.filter_cons_of_pos h2, List.length_cons]; omega
        · rw [List.filter_cons_of_neg h2]; exact ih
theorem cnt_tail (f : Pr → Int) (l : List Pr) (p : Pr) (rest : List Pr) : cntF f l rest ≤ cntF f l (p :: rest) :=
  filter_le _ fun x _ hx => by rw [List.any_cons, hx, Bool.or_true]
theorem free_snoc {l : List Pr} {p q : Pr} (h : freeP (l ++ [p]) q = true) : freeP l q = true ∧ hasF q.f0 p = false ∧ hasF q.f1 p = false := by
  unfold freeP at h ⊢
  rw [List.any_append, List.any_append] at h
  simp only [List.any_cons, List.any_nil, Bool.or_false, Bool.and_eq_true, Bool.not_eq_true', Bool.or_eq_false_iff] at h ⊢
  exact ⟨⟨h.1.1, h.2.1⟩, h.1.2, h.2.2⟩
theorem cnt_with (f : Pr → Int) (hf : ∀ q, f q = q.f0 ∨ f q = q.f1) {l : List Pr} {p : Pr} {rest : List Pr} (hp : freeP l p = true) (h0 : 0 ≤ f p ∧ f p ≤ 63) : cntF f (l ++ [p]) rest + 1 ≤ cntF f l (p :: rest) := by
  obtain ⟨m, hm⟩ := Int.eq_ofNat_of_zero_le h0.1
  refine filter_lt (a := m) _ (fun x _ hx => ?_) (List.mem_range.2 (by omega)) ?_ ?_
  · obtain ⟨q, hq, h⟩ := List.any_eq_true.1 hx
    rw [Bool.and_eq_true] at h
    exact List.any_eq_true.2 ⟨q, List.mem_cons_of_mem _ hq, by rw [(free_snoc h.1).1, h.2]; rfl⟩
  · rw [List.any_eq_false]
    intro q hq h
    rw [Bool.and_eq_true, beq_iff_eq] at h
    have h1 := free_snoc h.1
    have h2 : f q = f p := by rw [h.2, hm]
    have h3 : f p = p.f0 ∨ f p = p.f1 := hf p
    unfold hasF at h1
    simp only [Bool.or_eq_false_iff, beq_eq_false_iff_ne] at h1
    rcases hf q with h4 | h4 <;> rcases h3 with h5 | h5
    · exact h1.2.1.1 (by rw [← h4, h2, h5])
    · exact h1.2.1.2 (by rw [← h4, h2, h5])
    · exact h1.2.2.1 (by rw [← h4, h2, h5])
    · exact h1.2.2.2 (by rw [← h4, h2, h5])
  · rw [List.any_cons, hp, hm]
    simp
theorem cnt_one (f : Pr → Int) {l : List Pr} {p : Pr} {rest : List Pr} (hp : freeP l p = true) (h0 : 0 ≤ f p ∧ f p ≤ 63) : 1 ≤ cntF f l (p :: rest) := by
  obtain ⟨m, hm⟩ := Int.eq_ofNat_of_zero_le h0.1
  refine List.length_pos_iff.2 (List.ne_nil_of_mem (List.mem_filter.2 ⟨List.mem_range.2 (show m < 64 by omega), ?_⟩))
  rw [List.any_cons, hp, hm]
  simp
theorem okP_free {xs : List Int} {l rest : List Pr} {p : Pr} (hb : Bef l (p :: rest)) (ho : okP xs l p = true) : freeP l p = true := by
  have h := okP_pairing ho
  rw [hb.with] at h
  exact (pair_of h).2
theorem sub_len (f : Pr → Int) (hf : ∀ q, f q = q.f0 ∨ f q = q.f1) {xs : List Int} : ∀ (rest l : List Pr), SortedP rest → Bef l rest → (∀ p ∈ rest, 0 ≤ f p ∧ f p ≤ 63) → ∀ m ∈ subsL xs rest l, m.length ≤ l.length + cntF f l rest
  | [], _, _, _, _, m, h => by cases h
  | p :: rest, l, hs, hb, hr, m, h => by
    have hs' := (List.pairwise_cons.1 hs).2
    have hr' := fun q hq => hr q (List.mem_cons_of_mem p hq)
    have h0 := hr p (List.mem_cons_self ..)
    rw [subsL, List.mem_append] at h
    rcases h with h | h
    · by_cases ho : okP xs l p = true
      · have hfr := okP_free hb ho
        rw [if_pos ho, hb.with] at h
        rcases List.mem_cons.1 h with rfl | h
        · have := cnt_one f (rest := rest) hfr h0
          rw [List.length_append, List.length_singleton]; omega
        · have ih := sub_len f hf rest (l ++ [p]) hs' (hb.step hs) hr' m h
          have := cnt_with f hf (rest := rest) hfr h0
          rw [List.length_append, List.length_singleton] at ih
          omega
      · rw [if_neg ho] at h; cases h
    · have ih := sub_len f hf rest l hs' hb.tail hr' m h
      have := cnt_tail f l p rest
      omega
structure BS where
  most : Int
  best : List Pr
def updB (s : BS) (l : List Pr) : BS := if s.most < (l.length : Int) then ⟨l.length, l⟩ else s
def scanB (top : Int) (s : BS) (l : List Pr) : BS := if top ≤ s.most then s else updB s l
def mayB (l rest : List Pr) (most : Int) : Bool := decide (most < (l.length : Int) + min (cntF (·.f0) l rest : Int) (cntF (·.f1) l rest : Int))
def searchB (xs : List Int) (top : Int) : List Pr → List Pr → BS → BS
  | [], _, s => s
  | p :: rest, l, s => if top ≤ s.most ∨ mayB l (p :: rest) s.most = false then s else searchB xs top rest l (if okP xs l p = true then searchB xs top rest (withP l p) (updB s (withP l p)) else s)
theorem scan_stop {top : Int} : ∀ (L : List (List Pr)) {s : BS}, top ≤ s.most → L.foldl (scanB top) s = s
  | [], _, _ => rfl
  | l :: L, s, h => by
    rw [List.foldl_cons, scanB, if_pos h]
    exact scan_stop L h
theorem scan_short {top : Int} : ∀ (L : List (List Pr)) {s : BS}, (∀ l ∈ L, (l.length : Int) ≤ s.most) → L.foldl (scanB top) s = s
  | [], _, _ => rfl
  | l :: L, s, h => by
    have h1 := h l (List.mem_cons_self ..)
    rw [List.foldl_cons, scanB, updB, if_neg (show ¬ s.most < (l.length : Int) by omega), ite_self]
    exact scan_short L fun m hm => h m (List.mem_cons_of_mem _ hm)
theorem loop_scan {xs : List Int} {top : Int} : ∀ (rest l : List Pr) (s : BS), SortedP rest → Bef l rest → (∀ p ∈ rest, (0 ≤ p.f0 ∧ p.f0 ≤ 63) ∧ 0 ≤ p.f1 ∧ p.f1 ≤ 63) → searchB xs top rest l s = (subsL xs rest l).foldl (scanB top) s
  | [], _, _, _, _, _ => rfl
  | p :: rest, l, s, hs, hb, hr => by
    have hs' := (List.pairwise_cons.1 hs).2
    have hr' := fun q hq => hr q (List.mem_cons_of_mem p hq)
    rw [searchB]
    by_cases ht : top ≤ s.most
    · rw [if_pos (.inl ht), scan_stop _ ht]
    · by_cases hm : mayB l (p :: rest) s.most = false
      · rw [if_pos (.inr hm), scan_short _ fun m h => ?_]
        have h1 := sub_len (·.f0) (fun q => .inl rfl) _ l hs hb (fun q hq => (hr q hq).1) m h
        have h2 := sub_len (·.f1) (fun q => .inr rfl) _ l hs hb (fun q hq => (hr q hq).2) m h
        unfold mayB at hm
        rw [decide_eq_false_iff_not] at hm
        omega
      · rw [if_neg (fun h => h.elim ht hm), subsL, List.foldl_append]
        by_cases ho : okP xs l p = true
        · rw [if_pos ho, if_pos ho, List.foldl_cons, scanB, if_neg ht]
          rw [loop_scan rest l _ hs' hb.tail hr', loop_scan rest (withP l p) _ hs' (by rw [hb.with]; exact hb.step hs) hr']
        · rw [if_neg ho, if_neg ho, loop_scan rest l _ hs' hb.tail hr']
          rfl
theorem scan_spec {top : Int} : ∀ (L : List (List Pr)) (s : BS), (L.foldl (scanB top) s = s ∨ ((s.most < (L.foldl (scanB top) s).most) ∧ (L.foldl (scanB top) s).most = ((L.foldl (scanB top) s).best.length : Int) ∧ L.find? (fun l => decide ((l.length : Int) = (L.foldl (scanB top) s).most)) = some (L.foldl (scanB top) s).best)) ∧ ((L.foldl (scanB top) s).most < top → ∀ l ∈ L, (l.length : Int) ≤ (L.foldl (scanB top) s).most) ∧ s.most ≤ (L.foldl (scanB top) s).most
  | [], s => ⟨.inl rfl, fun _ l h => (by cases h), Int.le_refl _⟩
  | x :: L, s => by
    rw [List.foldl_cons]
    obtain ⟨h1, h2, h3⟩ := scan_spec L (scanB top s x)
    generalize hS : L.foldl (scanB top) (scanB top s x) = S at *
    by_cases ht : top ≤ s.most
    · have hs : scanB top s x = s := by unfold scanB; rw [if_pos ht]
      have hS2 : S = s := by rw [← hS, hs]; exact scan_stop L ht
      rw [hS2]
      exact ⟨.inl rfl, fun h => by omega, Int.le_refl _⟩
    · by_cases hx : s.most < (x.length : Int)
      · have hs : scanB top s x = ⟨x.length, x⟩ := by unfold scanB updB; rw [if_neg ht, if_pos hx]
        rw [hs] at h1 h3
        simp only at h3
        refine ⟨.inr ?_, fun h l hl => ?_, by omega⟩
        · rcases h1 with h1 | ⟨h4, h5, h6⟩
          · rw [h1]
            exact ⟨hx, rfl, by rw [List.find?_cons_of_pos (by simp)]⟩
          · simp only at h4
            exact ⟨by omega, h5, by rw [List.find?_cons_of_neg (by simp only [decide_eq_true_eq]; omega)]; exact h6⟩
        · rcases List.mem_cons.1 hl with rfl | hl
          · exact h3
          · exact h2 h l hl
      · have hs : scanB top s x = s := by unfold scanB updB; rw [if_neg hx, ite_self]
        rw [hs] at h1 h3
        refine ⟨?_, fun h l hl => ?_, h3⟩
        · rcases h1 with h1 | ⟨h4, h5, h6⟩
          · exact .inl h1
          · exact .inr ⟨h4, h5, by rw [List.find?_cons_of_neg (by simp only [decide_eq_true_eq]; omega)]; exact h6⟩
        · rcases List.mem_cons.1 hl with rfl | hl
          · omega
          · exact h2 h l hl
theorem scan_top {xs : List Int} {top : Int} : ∀ (rest l : List Pr) (s : BS), SortedP rest → Bef l rest → (l.length : Int) ≤ s.most → s.most ≤ top → ((subsL xs rest l).foldl (scanB top) s).most ≤ top
  | [], _, _, _, _, _, h => h
  | p :: rest, l, s, hs, hb, hl, ht => by
    have hs' := (List.pairwise_cons.1 hs).2
    rw [subsL, List.foldl_append]
    by_cases ho : okP xs l p = true
    · rw [if_pos ho, List.foldl_cons]
      have hlen : (withP l p).length = l.length + 1 := withP_len l p
      have hbw : Bef (withP l p) rest := by rw [hb.with]; exact hb.step hs
      by_cases h1 : top ≤ s.most
      · rw [show scanB top s (withP l p) = s by unfold scanB; rw [if_pos h1], scan_stop _ h1, scan_stop _ h1]; exact ht
      · have h2 : (scanB top s (withP l p)).most ≤ top ∧ ((withP l p).length : Int) ≤ (scanB top s (withP l p)).most ∧ s.most ≤ (scanB top s (withP l p)).most := by
          unfold scanB updB
          rw [if_neg h1]
          split
          · simp only; omega
          · omega
        have h3 := scan_top (xs := xs) rest (withP l p) _ hs' hbw h2.2.1 h2.1
        have h4 := (scan_spec (top := top) (subsL xs rest (withP l p)) (scanB top s (withP l p))).2.2
        exact scan_top rest l _ hs' hb.tail (by omega) h3
    · rw [if_neg ho]
      exact scan_top rest l s hs' hb.tail hl ht
def growL (xs : List Int) (target : Int) : List Pr → List Pr → Option (List Pr)
  | [], _ => none
  | p :: rest, l => if target ≤ (l.length : Int) + (cntF (·.f0) l (p :: rest) : Int) then (if okP xs l p = true then (if ((withP l p).length : Int) = target then some (withP l p) else growL xs target rest (withP l p)).or (growL xs target rest l) else growL xs target rest l) else none
theorem grow_find {xs : List Int} {target : Int} : ∀ (rest l : List Pr), SortedP rest → Bef l rest → (∀ p ∈ rest, 0 ≤ p.f0 ∧ p.f0 ≤ 63) → growL xs target rest l = (subsL xs rest l).find? fun m => decide ((m.length : Int) = target)
  | [], _, _, _, _ => rfl
  | p :: rest, l, hs, hb, hr => by
    have hs' := (List.pairwise_cons.1 hs).2
    have hr' := fun q hq => hr q (List.mem_cons_of_mem p hq)
    rw [growL]
    by_cases ht : target ≤ (l.length : Int) + (cntF (·.f0) l (p :: rest) : Int)
    · rw [if_pos ht, subsL, List.find?_append, ← grow_find rest l hs' hb.tail hr']
      by_cases ho : okP xs l p = true
      · rw [if_pos ho, if_pos ho]
        by_cases hw : ((withP l p).length : Int) = target
        · rw [if_pos hw, List.find?_cons_of_pos (by rw [decide_eq_true hw])]
        · rw [if_neg hw, List.find?_cons_of_neg (by rw [decide_eq_false hw]; exact Bool.false_ne_true), grow_find rest (withP l p) hs' (by rw [hb.with]; exact hb.step hs) hr']
      · rw [if_neg ho, if_neg ho]
        rfl
    · rw [if_neg ht, eq_comm, List.find?_eq_none]
      intro m hm h
      have h1 := sub_len (·.f0) (fun q => .inl rfl) _ l hs hb hr m hm
      rw [decide_eq_true_eq] at h
      omega
def growB (xs : List Int) (all : List Pr) (target : Int) : Option (List Pr) := if (0 : Int) = target then some [] else growL xs target all []
def downB (xs : List Int) (all : List Pr) : Nat → List Pr
  | 0 => []
  | t + 1 => (growB xs all ((t + 1 : Nat) : Int)).getD (downB xs all t)
def bestB (xs : List Int) (all : List Pr) (top : Int) : List Pr := (searchB xs top all [] (updB ⟨-1, []⟩ [])).best
theorem grow_enum {xs : List Int} {all : List Pr} (hs : SortedP all) (hr : ∀ p ∈ all, 0 ≤ p.f0 ∧ p.f0 ≤ 63) (t : Int) : growB xs all t = (enumL xs all []).find? fun m => decide ((m.length : Int) = t) := by
  unfold growB enumL
  by_cases h : (0 : Int) = t
  · rw [if_pos h, List.find?_cons_of_pos (by rw [decide_eq_true]; exact h)]
  · rw [if_neg h, List.find?_cons_of_neg (by rw [decide_eq_false]; exact Bool.false_ne_true; exact h), grow_find all [] hs (Bef.nil _) hr]
theorem down_at {xs : List Int} {all : List Pr} {m : Nat} {r : List Pr} (hm : growB xs all (m : Int) = some r) (h0 : m = 0 → r = []) : ∀ t, m ≤ t → (∀ u, m < u → u ≤ t → growB xs all (u : Int) = none) → downB xs all t = r
  | 0, h, _ => by
    obtain rfl : m = 0 := by omega
    rw [downB, h0 rfl]
  | t + 1, h, hn => by
    rw [downB]
    rcases Nat.lt_or_ge m (t + 1) with h1 | h1
    · rw [hn (t + 1) h1 (Nat.le_refl _), Option.getD_none]
      exact down_at hm h0 t (by omega) fun u h2 h3 => hn u h2 (by omega)
    · obtain rfl : m = t + 1 := by omega
      rw [hm, Option.getD_some]
theorem best_same {xs : List Int} {all : List Pr} (hs : SortedP all) (hr : ∀ p ∈ all, (0 ≤ p.f0 ∧ p.f0 ≤ 63) ∧ 0 ≤ p.f1 ∧ p.f1 ≤ 63) (top : Nat) : downB xs all top = bestB xs all (top : Int) := by
  unfold bestB
  have hu : updB ⟨-1, []⟩ [] = ⟨0, []⟩ := rfl
  rw [hu, loop_scan all [] _ hs (Bef.nil _) hr]
  have h1 := scan_spec (top := (top : Int)) (subsL xs all []) ⟨0, []⟩
  have h2 := scan_top (xs := xs) (top := (top : Int)) all [] ⟨0, []⟩ hs (Bef.nil _) (by simp) (by simp)
  generalize (subsL xs all []).foldl (scanB (top : Int)) ⟨0, []⟩ = S at *
  obtain ⟨h3, h4, h5⟩ := h1
  simp only at h5
  have hlen : S.most = (S.best.length : Int) := by
    rcases h3 with h3 | h3
    · rw [h3]; rfl
    · exact h3.2.1
  have hfind : growB xs all (S.best.length : Int) = some S.best := by
    rw [grow_enum hs (fun p hp => (hr p hp).1)]
    unfold enumL
    rcases h3 with h3 | ⟨h6, _, h7⟩
    · rw [h3, List.find?_cons_of_pos (by simp)]
    · rw [List.find?_cons_of_neg (by simp only [decide_eq_true_eq, List.length_nil]; simp only at h6; omega), ← hlen]
      exact h7
  refine down_at hfind (fun h => List.eq_nil_of_length_eq_zero h) top (by omega) fun u hu1 hu2 => ?_
  rw [grow_enum hs (fun p hp => (hr p hp).1), List.find?_eq_none]
  intro l hl h
  rw [decide_eq_true_eq] at h
  have h8 := h4 (by omega)
  rcases List.mem_cons.1 hl with rfl | hl
  · simp only [List.length_nil] at h; omega
  · have := h8 l hl; omega
end Go.Proofs.Ytomdfjohnmikdaa.Pu
namespace Go.Proofs.Ytomdfjohnmikdaa.Im
open Go.RowKit Go.Shelf Kp Cw Ext Pu YtomdfjohnmikdaaW.PrintWords YtomdfjohnmikdaaW.PrintLast YtomdfjohnmikdaaW.PrintMore
def keysP (l : List Pr) : List Int := l.flatMap fun q => [q.f0, q.f1]
theorem keys_mem (l : List Pr) (x : Int) : decide (x ∈ keysP l) = l.any (hasF x) := by
  rw [Bool.eq_iff_iff, decide_eq_true_eq]
  unfold keysP hasF
  rw [List.mem_flatMap, List.any_eq_true]
  refine exists_congr fun q => and_congr Iff.rfl ?_
  simp
theorem keys_snoc (l : List Pr) (p : Pr) : keysP (l ++ [p]) = keysP l ++ [p.f0] ++ [p.f1] := by unfold keysP; simp
def fsC (n : Int) (A : Option Addr) (c len : Nat) (va : Value) (target : Int) (ym : Nat) (vl : Value) : Array Value := #[.int .i64 n, .slice A len c, va, .int .i64 target, .map (some ym), vl]
structure FS (W w0 : World) (y Y : Nat) (n : Int) (A : Option Addr) (c len : Nat) (va : Value) (all : List Pr) (target : Int) (ym : Nat) (vl : Value) (ls : List Pr) (K : List Int) : Prop where
  b : W.heap[y]? = some (.cells (fsC n A c len va target ym vl) 134 (0, 0))
  y0 : w0.heap.size ≤ y
  m0 : w0.heap.size ≤ ym
  Y0 : w0.heap.size ≤ Y
  Y1 : Y ≤ W.heap.size
  ra : Kd.R k73 73 W w0.heap.size (fun k => k < Y) va all
  rl : Kd.R k73 73 W w0.heap.size (fun k => Y ≤ k) vl ls
  mp : MS W ym K
  hb : Below w0.heap.size w0 W
section
variable {W W1 w0 : World} {y Y : Nat} {n : Int} {A : Option Addr} {c len : Nat} {va : Value} {all : List Pr} {target : Int} {ym : Nat} {vl : Value} {ls : List Pr} {K : List Int}
theorem FS.below (h : FS W w0 y Y n A c len va all target ym vl ls K) (hb : Below W.heap.size W W1) : FS W1 w0 y Y n A c len va all target ym vl ls K :=
  ⟨(hb.block _ (blk_lt h.b)).trans h.b, h.y0, h.m0, h.Y0, Nat.le_trans h.Y1 hb.size, Kd.R_below h.ra hb, Kd.R_below h.rl hb, h.mp.below hb, below_in h.hb hb⟩
theorem FS.drew (h : FS W w0 y Y n A c len va all target ym vl ls K) : FS W.drew w0 y Y n A c len va all target ym vl ls K := h.below (below_drew (Below.refl _ _))
theorem FS.c0 (h : FS W w0 y Y n A c len va all target ym vl ls K) : W.cell? ⟨y, 0, none⟩ = some (.int .i64 n) := (cell_of_row W y 0 _ _ _ h.b).trans rfl
theorem FS.c1 (h : FS W w0 y Y n A c len va all target ym vl ls K) : W.cell? ⟨y, 1, none⟩ = some (.slice A len c) := (cell_of_row W y 1 _ _ _ h.b).trans rfl
theorem FS.c2 (h : FS W w0 y Y n A c len va all target ym vl ls K) : W.cell? ⟨y, 2, none⟩ = some va := (cell_of_row W y 2 _ _ _ h.b).trans rfl
theorem FS.c3 (h : FS W w0 y Y n A c len va all target ym vl ls K) : W.cell? ⟨y, 3, none⟩ = some (.int .i64 target) := (cell_of_row W y 3 _ _ _ h.b).trans rfl
theorem FS.c4 (h : FS W w0 y Y n A c len va all target ym vl ls K) : W.cell? ⟨y, 4, none⟩ = some (.map (some ym)) := (cell_of_row W y 4 _ _ _ h.b).trans rfl
theorem FS.c5 (h : FS W w0 y Y n A c len va all target ym vl ls K) : W.cell? ⟨y, 5, none⟩ = some vl := (cell_of_row W y 5 _ _ _ h.b).trans rfl
theorem FS.fz (h : FS W w0 y Y n A c len va all target ym vl ls K) (j : Nat) : W.frozen? ⟨y, j, none⟩ = false := blk_frozen h.b j
theorem FS.setList (h : FS W w0 y Y n A c len va all target ym vl ls K) {v1 : Value} {ls1 : List Pr} (hr : Kd.R k73 73 W w0.heap.size (fun k => Y ≤ k) v1 ls1) : FS (W.setCell ⟨y, 5, none⟩ v1) w0 y Y n A c len va all target ym v1 ls1 K :=
  ⟨blk_put h.b 5 v1 rfl, h.y0, h.m0, h.Y0, by simpa using h.Y1, Kd.R_set h.ra h.b (by decide) 5 _, Kd.R_set hr h.b (by decide) 5 _, h.mp.far (p := ⟨y, 5, none⟩) (h.mp.ne h.b) v1, h.hb.setCell (p := ⟨y, 5, none⟩) h.y0 _⟩
theorem FS.grown (h : FS W w0 y Y n A c len va all target ym vl ls K) {v1 : Value} {ls1 : List Pr} (hg : W.grownBy W1 vl.ownBlock) (hB : Below w0.heap.size w0 W1) (hr : Kd.R k73 73 W1 w0.heap.size (fun k => Y ≤ k) v1 ls1) : FS (W1.setCell ⟨y, 5, none⟩ v1) w0 y Y n A c len va all target ym v1 ls1 K ∧ W1.cell? ⟨y, 5, none⟩ = some vl ∧ W1.frozen? ⟨y, 5, none⟩ = false := by
  obtain ⟨inner, ho⟩ := Kd.R_own h.rl
  have hb1 : W1.heap[y]? = some (.cells (fsC n A c len va target ym vl) 134 (0, 0)) := (hg.block y (blk_lt h.b) (Kd.R_ne h.rl h.b (by decide))).trans h.b
  have hm1 : MS W1 ym K := h.mp.grown hg (fun e => by
    obtain ⟨cells, hc⟩ := own_typed ho ym e.symm
    exact h.mp.ne hc rfl)
  have ha1 : Kd.R k73 73 W1 w0.heap.size (fun k => k < Y) va all := Kd.R_grown h.ra hg (fun k hk e => by
    have := h.rl.1 k e.symm
    omega)
  refine ⟨⟨blk_put hb1 5 v1 rfl, h.y0, h.m0, h.Y0, ?_, Kd.R_set ha1 hb1 (by decide) 5 _, Kd.R_set hr hb1 (by decide) 5 _, hm1.far (p := ⟨y, 5, none⟩) (hm1.ne hb1) v1, hB.setCell (p := ⟨y, 5, none⟩) h.y0 _⟩, (cell_of_row W1 y 5 _ _ _ hb1).trans rfl, blk_frozen hb1 5⟩
  have := hg.size
  simp
  exact Nat.le_trans h.Y1 this
theorem FS.setMap (h : FS W w0 y Y n A c len va all target ym vl ls K) {K1 : List Int} (hg : W.grownBy W1 (some ym)) (hs : W1.heap.size = W.heap.size) (hm : MS W1 ym K1) : FS W1 w0 y Y n A c len va all target ym vl ls K1 := by
  have hblk : ∀ (k : Nat) (cells : Array Value) (t : TypeId), W.heap[k]? = some (.cells cells t (0, 0)) → W1.heap[k]? = some (.cells cells t (0, 0)) := fun k cells t hk => (hg.block k (blk_lt hk) (fun e => h.mp.ne (g := ym) (by injection e with e; rw [← e]; exact hk) rfl)).trans hk
  have hr : ∀ {ok : Nat → Prop} {u : Value} {us : List Pr}, Kd.R k73 73 W w0.heap.size ok u us → Kd.R k73 73 W1 w0.heap.size ok u us := fun hu => Kd.R_mono (Kd.R_step (Kd.R_bound hu) (fun k hk hlt => hg.block k hlt (fun e => by
    obtain ⟨_, _, _, q, _, cells, hc⟩ := hk
    injection e with e
    subst e
    exact h.mp.ne hc rfl))) (fun k hk => hk.1)
  exact ⟨hblk _ _ _ h.b, h.y0, h.m0, h.Y0, by rw [hs]; exact h.Y1, hr h.ra, hr h.rl, hm, h.hb.grown hg (Nat.le_trans h.Y0 h.Y1) (fun k hk => by injection hk with hk; have := h.m0; omega)⟩
theorem PR.cut {w : World} {base : Nat} {ok : Nat → Prop} {A : Option Addr} {m c : Nat} {xs : List Pr} {x : Pr} (h : Kd.R k73 73 w base ok (.slice A m c) (xs ++ [x])) : m = xs.length + 1 ∧ m ≤ c ∧ Kd.R k73 73 w base ok (.slice A xs.length c) xs := by
  have h1 := Kd.R_reads' h
  rw [List.length_append, List.length_singleton] at h1
  have hp : PO w base (.slice A m c) (xs ++ [x]) := Kd.R_mono h fun _ _ => trivial
  rcases hp.open with ⟨_, h2⟩ | ⟨g, cap, cur, hv, hb, hg, hn, hc, hs, ht⟩
  · simp at h2
  · injection hv with hA hm hcc
    subst hA
    subst hcc
    rw [List.length_append, List.length_singleton] at hn ht
    refine ⟨h1.1, h1.2.1, ?_⟩
    have ht2 : cur.take (xs.length * 2) = fl xs := by
      have := congrArg (List.take (xs.length * 2)) ht
      rw [List.take_take, Nat.min_eq_left (by omega)] at this
      rw [this]
      rw [fl_append, List.take_append_of_le_length (by rw [fl_len]; exact Nat.le_refl _), List.take_of_length_le (by rw [fl_len]; exact Nat.le_refl _)]
    exact Kd.R_reok rfl (PO.mk hb hg (by omega) hc hs ht2) (fun k hk => h.1 k hk)
end
theorem lookS {w : World} {b : Nat} {l : List Pr} (h : MS w b (keysP l)) (x : Int) : (Instr.lookup 132 (.map (some b)) (.int .i64 x) false).run Try.prog w = .ok (.bool (l.any (hasF x))) w := by
  rw [← keys_mem]
  exact h.look Try.underlying132 Try.underlying2 (by kernel_rfl) x
theorem okM_count {M : List (Int × Bool)} (h : OkM M) : M.length = ((List.range 64).filter fun x : Nat => getM M (x : Int)).length := by
  have hg : ∀ x, getM M x = true ↔ x ∈ M.map (·.1) := fun x => by
    constructor
    · intro hx
      by_cases hm : x ∈ M.map (·.1)
      · exact hm
      · exfalso
        have : ∀ (M : List (Int × Bool)), x ∉ M.map (·.1) → getM M x = false := by
          intro M
          induction M with
          | nil => intro _; rfl
          | cons p M ih =>
            intro hn
            simp only [List.map_cons, List.mem_cons, not_or] at hn
            rw [getM, if_neg hn.1]
            exact ih hn.2
        rw [this M hm] at hx
        cases hx
    · intro hx
      cases hb : getM M x with
      | true => rfl
      | false => exact absurd hx (getM_false h (by rw [hb]; exact Bool.false_ne_true))
  have hp : (M.map (·.1)).Perm (((List.range 64).filter fun x : Nat => getM M (x : Int)).map fun x : Nat => (x : Int)) := by
    refine (List.perm_ext_iff_of_nodup h.1 ?_).2 fun a => ?_
    · rw [List.nodup_iff_pairwise_ne, List.pairwise_map]
      exact List.Pairwise.imp (fun {a b} hab e => hab (by omega)) (List.nodup_iff_pairwise_ne.1 (List.nodup_range.sublist List.filter_sublist))
    · rw [← hg, List.mem_map]
      constructor
      · intro ha
        obtain ⟨p, hp, rfl⟩ := List.mem_map.1 ((hg a).1 ha)
        have := h.2 p hp
        exact ⟨p.1.toNat, List.mem_filter.2 ⟨List.mem_range.2 (by omega), by rw [show ((p.1.toNat : Nat) : Int) = p.1 by omega]; exact ha⟩, by omega⟩
      · rintro ⟨m, hm, rfl⟩
        exact (List.mem_filter.1 hm).2
  have := hp.length_eq
  simpa using this
theorem put_same {M : List (Int × Bool)} (h : OkM M) {x : Int} (hx : getM M x = true) : putM M x true = M := by
  have h2 := h.2
  clear h
  induction M with
  | nil => cases hx
  | cons p M ih =>
    have hp := h2 p (List.mem_cons_self ..)
    rw [putM]
    by_cases he : x = p.1
    · rw [if_pos he, he, show (true : Bool) = p.2 from hp.1.symm]
    · rw [if_neg he]
      rw [getM, if_neg he] at hx
      rw [ih hx fun q hq => h2 q (List.mem_cons_of_mem _ hq)]
set_option maxRecDepth 100000 in
set_option maxHeartbeats 8000000 in
theorem could_c (W w0 : World) (y Y : Nat) (n : Int) (A : Option Addr) (c len : Nat) (Aa : Option Addr) (ca : Nat) (all : List Pr) (target : Int) (ym : Nat) (vl : Value) (ls : List Pr) (i : Nat) (hs : FS W w0 y Y n A c len (.slice Aa all.length ca) all target ym vl ls (keysP ls)) (hi : i ≤ all.length) (hal : all.length ≤ 1048576) (hr : ∀ p ∈ all, 1 ≤ p.f0 ∧ p.f0 ≤ 63) :
    Calls Try.prog 178 #[.pointer (some ⟨y, 0, none⟩), .int .i64 i] W fun e w' => e = .returned (.int .i64 (cntF (·.f0) ls (all.drop i) : Nat)) ∧ Below W.heap.size W w' := by
  have HS := Aside0.mk hs
  have HR := Aside0.mk hr
  have hrd := Kd.R_reads' hs.ra
  have hcc := hrd.2.1
  have HRD := Aside0.mk hrd
  obtain ⟨D, hD⟩ : ∃ D, D = (if ca = i then Aa else Aa.map (·.add (i * 2))) := ⟨_, rfl⟩
  have hcutF : ∀ W : World, (Instr.slice 38 (.slice Aa all.length ca) (some (.int .i64 (i : Int))) none none).run Try.prog W = .ok (.slice D (all.length - i) (ca - i)) W := by
    intro W
    obtain ⟨i0, hi0, hz0, hzs, hzb⟩ := info_parts infoP
    have := cut_from 38 73 .i64 Try.underlying38 hi0 2 hzs Aa all.length ca (i : Int) (by omega) (by omega) W
    rw [Int.toNat_natCast, ← hD] at this
    exact this
  have HDR : Aside0 (Kd.C k73 W D (all.drop i).length (all.drop i)) := ⟨by rw [hD]; exact Kd.C_drop hrd.2.2 hi hcc⟩
  have hdl : (all.drop i).length = all.length - i := List.length_drop
  obtain ⟨L, hL⟩ : ∃ L, all.drop i = L := ⟨_, rfl⟩
  have hr2 : ∀ p ∈ L, 1 ≤ p.f0 ∧ p.f0 ≤ 63 := fun p hp => hr p (by rw [← hL] at hp; exact List.mem_of_mem_drop hp)
  have HR2 := Aside0.mk hr2
  rw [hL] at HDR hdl ⊢
  rw [← hdl] at hcutF
  have hLl : L.length ≤ 1048576 := by omega
  have hc2 := hs.c2
  have HDL := Aside0.mk hdl
  clear hs hr hrd hcc hD hL hr2 hdl
  have hmm := @run_makeMap Try.prog
  go_enter Try.func178, Try.ntmps178
  go_upto_region 2 with fail
  have HS1 := Aside0.mk (HS.out.below (below_alloc (Below.refl W.heap.size W) (.map #[] 0)))
  have HB1 := Aside0.mk (below_alloc (Below.refl W.heap.size W) (.map #[] 0))
  have HM1 : Aside0 (MapB (W.alloc (.map #[] 0)) W.heap.size []) := ⟨MapB.made W⟩
  generalize W.alloc (.map #[] 0) = W1 at HS1 HB1 HM1 ⊢
  have hc2 := HS1.out.c2
  have hLz : ¬ (L.length : Int) < 0 := by omega
  go_wp2
  go_loopw [16] (fun s16 wr => ∃ (j : Nat) (M : List (Int × Bool)), j ≤ L.length ∧ s16 = .int .i64 j ∧ Aside0 (Below W.heap.size W wr) ∧ Aside0 (MapB wr W.heap.size M) ∧ Aside0 (OkM M) ∧ Aside0 (∀ x, getM M x = (L.take j).any fun p => freeP ls p && p.f0 == x)) (fun s16 _ => L.length - (intOf s16).toNat)
  case atStart => exact ⟨0, [], by omega, rfl, HB1, HM1, ⟨⟨by simp, fun p hp => by cases hp⟩⟩, ⟨fun x => rfl⟩⟩
  case round =>
    clear HS1 HB1 HM1 hc2
    obtain ⟨j, M, hj, rfl, HB, HM, HOK, HG⟩ := hrel
    by_cases hlt : j < L.length
    · have hltz : (j : Int) < (L.length : Int) := by omega
      obtain ⟨ad, rfl, hp0, hp1⟩ := pair_at (Kd.C_below HDR.out HB.out) j hlt
      obtain ⟨p, hp⟩ : ∃ p, L.getD j z73 = p := ⟨_, rfl⟩
      rw [hp] at hp0 hp1
      have hpj : L[j] = p := by rw [← hp, getP hlt]
      have hpm : p ∈ L := by rw [← hpj]; exact List.getElem_mem hlt
      have HPR := Aside0.mk (HR2.out p hpm)
      have HTK : Aside0 (L.take (j + 1) = L.take j ++ [p]) := ⟨by rw [List.take_succ_eq_append_getElem hlt, hpj]⟩
      clear hp hpj hpm
      go_upto_region 5 with fail
      have ha := below_alloc (Below.refl wr.heap.size wr) (.cells #[.int .i64 p.f0, .int .i64 p.f1] 73)
      have HB4 := Aside0.mk (below_in HB.out ha)
      have HM4 := Aside0.mk (HM.out.below ha)
      have HP4 := Aside0.mk (PrAt.new wr p.f0 p.f1)
      clear HB HM hp0 hp1 ha
      generalize wr.alloc (.cells #[.int .i64 p.f0, .int .i64 p.f1] 73) = W4 at HB4 HM4 HP4 ⊢
      have HS4 := Aside0.mk (HS.out.below HB4.out.drew)
      have hc4 := HS4.out.c4
      have hl0 := lookS HS4.out.mp p.f0
      have hl1 := lookS HS4.out.mp p.f1
      have hq0 := HP4.out.c0
      have hq1 := HP4.out.c1
      have HB5 := Aside0.mk HB4.out.drew
      have HM5 : Aside0 (MapB W4.drew W.heap.size M) := ⟨HM4.out.drew⟩
      clear HB4 HS4 HM4
      cases hu0 : ls.any (hasF p.f0) with
      | true =>
        rw [hu0] at hl0
        have HF : Aside0 (freeP ls p = false) := ⟨by unfold freeP; rw [hu0]; rfl⟩
        clear hu0
        refine st_ 18 (S := fun w' => w'.cell? ⟨y, 4, none⟩ = some (.map (some ym)) ∧ w'.cell? ⟨wr.heap.size, 0, none⟩ = some (.int .i64 p.f0) ∧ w'.cell? ⟨wr.heap.size, 1, none⟩ = some (.int .i64 p.f1) ∧ (Instr.lookup 132 (.map (some ym)) (.int .i64 p.f0) false).run Try.prog w' = .ok (.bool true) w') (ds := []) ⟨hc4, hq0, hq1, hl0⟩ (fun hHeld => ?_)
        refine with_tabW (T := (true, [([], []), ([0], [0]), ([1], [1]), ([2], [2]), ([], []), ([4], [4]), ([3, 5], [3, 5]), ([6], [6]), ([7], [7]), ([8], [8]), ([9, 8], [8, 9]), ([10, 8], [8, 10]), ([11, 8], [8, 11]), ([8], [8]), ([13, 8], [8, 13]), ([12, 14, 8], [8, 12, 14]), ([15, 8], [8, 15]), ([8, 16], [8, 16])])) (B := [0, 1, 3, 7, 0, 16, 63, 127, 255, 511, 1023, 2047, 4095, 511, 8703, 32767, 65535, 131071]) (by kernel_rfl) (by kernel_rfl) (fun HT_ HW_ => ?_)
        refine pd_ 0 20 1 HT_ ?_
        refine pd_ 1 21 3 HT_ ?_
        refine pd_ 2 22 7 HT_ ?_
        refine pd_ 4 24 23 HT_ ?_
        refine tk_ 3 23 31 HT_ HW_ hHeld ?_
        refine tk_ 5 25 63 HT_ HW_ hHeld ?_
        refine tk_ 6 26 127 HT_ HW_ hHeld ?_
        refine pd_ 7 27 255 HT_ ?_
        refine pd_ 8 28 511 HT_ ?_
        refine pn_ 9 29 1023 HT_ ?_
        refine pn_ 10 30 2047 HT_ ?_
        refine pn_ 11 31 4095 HT_ ?_
        refine pn_ 12 32 8191 HT_ ?_
        refine pn_ 13 33 16383 HT_ ?_
        refine pn_ 14 34 32767 HT_ ?_
        refine pn_ 15 35 65535 HT_ ?_
        refine pn_ 16 36 131071 HT_ ?_
        refine pd_ 17 37 262143 HT_ ?_
        refine dn_ HT_ ?_
        clear hl0 hl1 hc4 hq0 hq1
        go_wp2
        exact ⟨⟨j + 1, M, by omega, by go_num, HB5, HM5, HOK, ⟨fun x => by rw [HTK.out, List.any_append, HG.out]; simp [HF.out]⟩⟩, by simp [intOf]; omega⟩
      | false =>
        rw [hu0] at hl0
        cases hu1 : ls.any (hasF p.f1) with
        | true =>
          rw [hu1] at hl1
          have HF : Aside0 (freeP ls p = false) := ⟨by unfold freeP; rw [hu0, hu1]; rfl⟩
          clear hu0 hu1
          refine st_ 18 (S := fun w' => w'.cell? ⟨y, 4, none⟩ = some (.map (some ym)) ∧ w'.cell? ⟨wr.heap.size, 0, none⟩ = some (.int .i64 p.f0) ∧ w'.cell? ⟨wr.heap.size, 1, none⟩ = some (.int .i64 p.f1) ∧ (Instr.lookup 132 (.map (some ym)) (.int .i64 p.f0) false).run Try.prog w' = .ok (.bool false) w' ∧ (Instr.lookup 132 (.map (some ym)) (.int .i64 p.f1) false).run Try.prog w' = .ok (.bool true) w') (ds := []) ⟨hc4, hq0, hq1, hl0, hl1⟩ (fun hHeld => ?_)
          refine with_tabW (T := (true, [([], []), ([0], [0]), ([1], [1]), ([2], [2]), ([], []), ([4], [4]), ([3, 5], [3, 5]), ([6], [6]), ([7], [7]), ([8], [8]), ([9, 8], [8, 9]), ([10, 8], [8, 10]), ([11, 8], [8, 11]), ([8], [8]), ([13, 8], [8, 13]), ([12, 14, 8], [8, 12, 14]), ([15, 8], [8, 15]), ([8, 16], [8, 16])])) (B := [0, 1, 3, 7, 0, 16, 63, 127, 255, 511, 1023, 2047, 4095, 511, 8703, 32767, 65535, 131071]) (by kernel_rfl) (by kernel_rfl) (fun HT_ HW_ => ?_)
          refine pd_ 0 20 1 HT_ ?_
          refine pd_ 1 21 3 HT_ ?_
          refine pd_ 2 22 7 HT_ ?_
          refine pd_ 4 24 23 HT_ ?_
          refine tk_ 3 23 31 HT_ HW_ hHeld ?_
          refine tk_ 5 25 63 HT_ HW_ hHeld ?_
          refine tk_ 6 26 127 HT_ HW_ hHeld ?_
          refine pd_ 7 27 255 HT_ ?_
          refine pd_ 8 28 511 HT_ ?_
          refine pd_ 9 29 1023 HT_ ?_
          refine pd_ 10 30 2047 HT_ ?_
          refine pd_ 11 31 4095 HT_ ?_
          refine pd_ 13 33 12287 HT_ ?_
          refine tk_ 12 32 16383 HT_ HW_ hHeld ?_
          refine tk_ 14 34 32767 HT_ HW_ hHeld ?_
          refine tk_ 15 35 65535 HT_ HW_ hHeld ?_
          refine pd_ 16 36 131071 HT_ ?_
          refine pd_ 17 37 262143 HT_ ?_
          refine dn_ HT_ ?_
          clear hl0 hl1 hc4 hq0 hq1
          go_wp2
          exact ⟨⟨j + 1, M, by omega, by go_num, HB5, HM5, HOK, ⟨fun x => by rw [HTK.out, List.any_append, HG.out]; simp [HF.out]⟩⟩, by simp [intOf]; omega⟩
        | false =>
          rw [hu1] at hl1
          have HF : Aside0 (freeP ls p = true) := ⟨by unfold freeP; rw [hu0, hu1]; rfl⟩
          clear hu0 hu1
          refine st_ 18 (S := fun w' => w'.cell? ⟨y, 4, none⟩ = some (.map (some ym)) ∧ w'.cell? ⟨wr.heap.size, 0, none⟩ = some (.int .i64 p.f0) ∧ w'.cell? ⟨wr.heap.size, 1, none⟩ = some (.int .i64 p.f1) ∧ (Instr.lookup 132 (.map (some ym)) (.int .i64 p.f0) false).run Try.prog w' = .ok (.bool false) w' ∧ (Instr.lookup 132 (.map (some ym)) (.int .i64 p.f1) false).run Try.prog w' = .ok (.bool false) w') (ds := []) ⟨hc4, hq0, hq1, hl0, hl1⟩ (fun hHeld => ?_)
          refine with_tabW (T := (true, [([], []), ([0], [0]), ([1], [1]), ([2], [2]), ([], []), ([4], [4]), ([3, 5], [3, 5]), ([6], [6]), ([7], [7]), ([8], [8]), ([9, 8], [8, 9]), ([10, 8], [8, 10]), ([11, 8], [8, 11]), ([8], [8]), ([13, 8], [8, 13]), ([12, 14, 8], [8, 12, 14]), ([15, 8], [8, 15]), ([8, 16], [8, 16])])) (B := [0, 1, 3, 7, 0, 16, 63, 127, 255, 511, 1023, 2047, 4095, 511, 8703, 32767, 65535, 131071]) (by kernel_rfl) (by kernel_rfl) (fun HT_ HW_ => ?_)
          refine pd_ 0 20 1 HT_ ?_
          refine pd_ 1 21 3 HT_ ?_
          refine pd_ 2 22 7 HT_ ?_
          refine pd_ 4 24 23 HT_ ?_
          refine tk_ 3 23 31 HT_ HW_ hHeld ?_
          refine tk_ 5 25 63 HT_ HW_ hHeld ?_
          refine tk_ 6 26 127 HT_ HW_ hHeld ?_
          refine pd_ 7 27 255 HT_ ?_
          refine pd_ 8 28 511 HT_ ?_
          refine pd_ 9 29 1023 HT_ ?_
          refine pd_ 10 30 2047 HT_ ?_
          refine pd_ 11 31 4095 HT_ ?_
          refine pd_ 13 33 12287 HT_ ?_
          refine tk_ 12 32 16383 HT_ HW_ hHeld ?_
          refine tk_ 14 34 32767 HT_ HW_ hHeld ?_
          refine tk_ 15 35 65535 HT_ HW_ hHeld ?_
          refine pd_ 16 36 131071 HT_ ?_
          refine pd_ 17 37 262143 HT_ ?_
          refine dn_ HT_ ?_
          clear hl0 hl1 hc4 hq0 hq1
          have hq0 : W4.drew.cell? ⟨wr.heap.size, 0, none⟩ = some (.int .i64 p.f0) := HP4.out.drew.c0
          obtain ⟨w6, hrun, hM6, hg6, hz6⟩ := putB HM5.out p.f0 true
          have HB6 := Aside0.mk (HB5.out.grown hg6 HB5.out.size (fun k hk => by injection hk with hk; omega))
          have HM6 := Aside0.mk hM6
          have HOK6 : Aside0 (OkM (putM M p.f0 true) ∧ ∀ x, getM (putM M p.f0 true) x = (L.take (j + 1)).any fun p => freeP ls p && p.f0 == x) := ⟨by
            refine ⟨?_, fun x => ?_⟩
            · by_cases hg : getM M p.f0 = true
              · rw [put_same HOK.out hg]; exact HOK.out
              · exact okM_put HOK.out hg HPR.out
            · rw [getM_put, HTK.out, List.any_append, HG.out]
              by_cases hx : x = p.f0
              · rw [if_pos hx, hx]; simp [HF.out]
              · rw [if_neg hx]
                simp [HF.out, Ne.symm hx]⟩
          clear hM6 hg6 hz6 HB5 HM5
          go_wp2
          exact ⟨⟨j + 1, _, by omega, by go_num, HB6, HM6, ⟨HOK6.out.1⟩, ⟨HOK6.out.2⟩⟩, by simp [intOf]; omega⟩
    · obtain rfl : j = L.length := by omega
      have hltz : ¬ (L.length : Int) < (L.length : Int) := by omega
      obtain ⟨es, clk, hes1, hes2⟩ := HM.out
      have hes3 : es.size = M.length := by
        have := congrArg List.length hes2
        simpa using this
      have HCN : Aside0 (M.length = cntF (·.f0) ls L) := ⟨by
        rw [okM_count HOK.out]
        unfold cntF
        have hg := HG.out
        rw [List.take_length] at hg
        simp only [hg]⟩
      have hlen : (Builtin.len_ #[132] 3 #[.map (some W.heap.size)]).run Try.prog wr = .ok (.int .i64 M.length) wr := by
        rw [← hes3]
        simp [Builtin.len_, run_underlying Try.underlying132, Go.MapKept.run_getObj_map hes1, Result.andThen, goInt]
      rw [HCN.out] at hlen
      clear hes3 hes2 hes1
      go_wp2
      go_ret
      exact ⟨rfl, HB.out⟩
end Go.Proofs.Ytomdfjohnmikdaa.Im
namespace Go.Proofs.Ytomdfjohnmikdaa.Im
open Go.RowKit Go.Shelf Cw YtomdfjohnmikdaaW.PrintWords YtomdfjohnmikdaaW.PrintLast YtomdfjohnmikdaaW.PrintMore
section
variable {P : Program} {ops : Array Oper} {Q : Exit → Act → World → Prop} {S : World → Prop} {ds : List Nat} {md : Region.Mode} {T : Bool × List (List Nat × List Nat)} {n m fuel : Nat} {a : Act} {w : World} {oi : Oper}
theorem la_ (i : Nat) (N : Option Tmp) (m' : Nat) (hT : Aside0 (rtab md ops = T))
    (h : ∀ K : Act → World → Prop, Shut (∀ a' w', wpAnyLast P md ops Q S ds fuel (mB n m') a' w' → K a' w') → if Region.wanted oi (yielded ops a.tmps) = true then Oper.wp P oi a w K Q else K (a.put N undef) w)
    (hi : ops[i]? = some oi := by rfl) (hN : oi.dst = N := by rfl) (hc : (readyT T.2 (mB n m).toList == [i] && (mB n m).toList.set i true == (mB n m').toList) = true := by kernel_rfl) (hd : i ∈ ds := by decide) :
    wpAnyLast P md ops Q S ds (fuel + 1) (mB n m) a w := last_ (mB n m') hi hN (one_of hT.out hc) hd h
end
theorem nd_inj {α : Type} {l : List α} (h : l.Nodup) {x y : Nat} (hx : x < l.length) (hy : y < l.length) (e : l[x] = l[y]) : x = y := by
  have hp := List.pairwise_iff_getElem.1 (List.nodup_iff_pairwise_ne.1 h)
  rcases Nat.lt_trichotomy x y with h1 | h1 | h1
  · exact absurd e (hp x y hx hy h1)
  · exact h1
  · exact absurd e.symm (hp y x hy hx h1)
def rowV (m x : Nat) : Value := .slice (some ⟨x, 0, none⟩) m m
def numV (l : List Int) : List Value := l.map fun v => Value.int .i64 v
def MxO (w : World) (base b cap : Nat) (bs : List Nat) (m : Nat) : Prop :=
  base ≤ b ∧ bs.length ≤ cap ∧ cap ≤ maxLen ∧ ∃ rest : List Value, rest.length = cap - bs.length ∧ w.heap[b]? = some (.cells (bs.map (rowV m) ++ rest).toArray 22 (0, 0))
def MxI (w : World) (base : Nat) (bs : List Nat) (m : Nat) (M : List (List Int)) : Prop :=
  bs.length = M.length ∧ bs.Nodup ∧ ∀ i (h1 : i < bs.length) (h2 : i < M.length), base ≤ bs[i] ∧ M[i].length = m ∧ w.heap[bs[i]]? = some (.cells (numV M[i]).toArray 2 (0, 0))
section
variable {w w1 : World} {base b cap m : Nat} {bs : List Nat} {M : List (List Int)}
theorem MxO.below (h : MxO w base b cap bs m) (hb : Below w.heap.size w w1) : MxO w1 base b cap bs m := by
  obtain ⟨h1, h2, h3, rest, h4, h5⟩ := h
  exact ⟨h1, h2, h3, rest, h4, (hb.block b (blk_lt h5)).trans h5⟩
theorem MxI.below (h : MxI w base bs m M) (hb : Below w.heap.size w w1) : MxI w1 base bs m M := by
  refine ⟨h.1, h.2.1, fun i h1 h2 => ?_⟩
  obtain ⟨a1, a2, a3⟩ := h.2.2 i h1 h2
  exact ⟨a1, a2, (hb.block _ (blk_lt a3)).trans a3⟩
theorem MxO.cell (h : MxO w base b cap bs m) {i : Nat} (hi : i < bs.length) : w.cell? ⟨b, i, none⟩ = some (rowV m bs[i]) ∧ w.frozen? ⟨b, i, none⟩ = false := by
  obtain ⟨h1, h2, h3, rest, h4, h5⟩ := h
  refine ⟨(cell_of_row w b i _ _ _ h5).trans ?_, blk_frozen h5 i⟩
  simp [List.getElem?_append_left, hi]
theorem MxO.far (h : MxO w base b cap bs m) {x j : Nat} (hne : b ≠ x) (u : Value) : MxO (w.setCell ⟨x, j, none⟩ u) base b cap bs m := by
  obtain ⟨h1, h2, h3, rest, h4, h5⟩ := h
  exact ⟨h1, h2, h3, rest, h4, (Below.heap_setCell w ⟨x, j, none⟩ u b hne).trans h5⟩
theorem MxO.put (h : MxO w base b cap bs m) {i : Nat} (hi : i < bs.length) (y : Nat) : MxO (w.setCell ⟨b, i, none⟩ (rowV m y)) base b cap (bs.set i y) m := by
  obtain ⟨h1, h2, h3, rest, h4, h5⟩ := h
  refine ⟨h1, by simpa using h2, h3, rest, by simpa using h4, ?_⟩
  have := blk_put h5 i (rowV m y) rfl
  rw [this]
  congr 2
  apply Array.ext'
  simp [List.set_append_left, hi]
theorem MxI.row (h : MxI w base bs m M) {i : Nat} (hi : i < M.length) : M[i].length = m := (h.2.2 i (by rw [h.1]; exact hi) hi).2.1
theorem MxI.cell (h : MxI w base bs m M) {i j : Nat} (hb : i < bs.length) (hi : i < M.length) (hj : j < m) : w.cell? ⟨bs[i], j, none⟩ = some (.int .i64 (M[i][j]'(by rw [h.row hi]; exact hj))) ∧ w.frozen? ⟨bs[i], j, none⟩ = false := by
  obtain ⟨a1, a2, a3⟩ := h.2.2 i hb hi
  refine ⟨(cell_of_row w _ j _ _ _ a3).trans ?_, blk_frozen a3 j⟩
  have hj' : j < M[i].length := by rw [a2]; exact hj
  simp [numV, hj']
theorem MxI.ne (h : MxI w base bs m M) (ho : MxO w base b cap bs m) {i : Nat} (hi : i < bs.length) : b ≠ bs[i] := by
  obtain ⟨_, _, a3⟩ := h.2.2 i hi (by rw [← h.1]; exact hi)
  obtain ⟨_, _, _, rest, _, h5⟩ := ho
  exact blk_ne h5 a3 (by decide)
theorem MxI.ne' {bs' : List Nat} (h : MxI w base bs m M) (ho : MxO w base b cap bs' m) {i : Nat} (hi : i < bs.length) : b ≠ bs[i] := by
  obtain ⟨_, _, a3⟩ := h.2.2 i hi (by rw [← h.1]; exact hi)
  obtain ⟨_, _, _, rest, _, h5⟩ := ho
  exact blk_ne h5 a3 (by decide)
theorem MxI.outer {bs' : List Nat} (h : MxI w base bs m M) (ho : MxO w base b cap bs' m) (j : Nat) (u : Value) : MxI (w.setCell ⟨b, j, none⟩ u) base bs m M := by
  refine ⟨h.1, h.2.1, fun i h1 h2 => ?_⟩
  obtain ⟨a1, a2, a3⟩ := h.2.2 i h1 h2
  exact ⟨a1, a2, (Below.heap_setCell w ⟨b, j, none⟩ u _ (h.ne' ho h1).symm).trans a3⟩
theorem MxI.put (h : MxI w base bs m M) {i j : Nat} (hb : i < bs.length) (hi : i < M.length) (hj : j < m) (v : Int) : MxI (w.setCell ⟨bs[i], j, none⟩ (.int .i64 v)) base bs m (M.set i (M[i].set j v)) := by
  refine ⟨by simpa using h.1, h.2.1, fun k h1 h2 => ?_⟩
  have h2' : k < M.length := by simpa using h2
  obtain ⟨a1, a2, a3⟩ := h.2.2 k h1 h2'
  by_cases hk : k = i
  · subst hk
    refine ⟨a1, by simpa using a2, ?_⟩
    have := blk_put a3 j (.int .i64 v) rfl
    rw [this]
    congr 2
    apply Array.ext'
    simp [numV, List.map_set]
  · have hne : bs[k] ≠ bs[i] := fun e => hk (nd_inj h.2.1 h1 hb e)
    rw [List.getElem_set_ne (Ne.symm hk)]
    exact ⟨a1, a2, (Below.heap_setCell w ⟨bs[i], j, none⟩ _ _ hne).trans a3⟩
end
def swapL {α : Type} (l : List α) (i j : Nat) : List α := match l[i]?, l[j]? with
  | some a, some b => (l.set i b).set j a
  | _, _ => l
theorem swapL_len {α : Type} (l : List α) (i j : Nat) : (swapL l i j).length = l.length := by
  unfold swapL
  split <;> simp
theorem swapL_eq {α : Type} {l : List α} {i j : Nat} (hi : i < l.length) (hj : j < l.length) : swapL l i j = (l.set i l[j]).set j l[i] := by
  unfold swapL
  rw [List.getElem?_eq_getElem hi, List.getElem?_eq_getElem hj]
theorem swapL_at {α : Type} {l : List α} {i j k : Nat} (hi : i < l.length) (hj : j < l.length) (hk : k < (swapL l i j).length) : (swapL l i j)[k] = if k = j then l[i] else if k = i then l[j] else l[k]'(by rw [swapL_len] at hk; exact hk) := by
  have hk' : k < l.length := by rw [swapL_len] at hk; exact hk
  simp only [swapL_eq hi hj, List.getElem_set]
  by_cases h1 : k = j
  · subst h1; simp
  · by_cases h2 : k = i
    · subst h2; simp [Ne.symm h1, h1]
    · simp [Ne.symm h1, Ne.symm h2, h1, h2]
theorem swapL_nodup {α : Type} {l : List α} {i j : Nat} (hi : i < l.length) (hj : j < l.length) (h : l.Nodup) : (swapL l i j).Nodup := by
  rw [List.nodup_iff_pairwise_ne, List.pairwise_iff_getElem]
  intro a b ha hb hab
  have ha' : a < l.length := by rw [swapL_len] at ha; exact ha
  have hb' : b < l.length := by rw [swapL_len] at hb; exact hb
  have inj : ∀ (x y : Nat) (hx : x < l.length) (hy : y < l.length), l[x] = l[y] → x = y := fun x y hx hy e => nd_inj h hx hy e
  rw [swapL_at hi hj, swapL_at hi hj]
  intro e
  split at e <;> split at e <;> first
    | (have := inj _ _ _ _ e; omega)
    | (split at e <;> first | (have := inj _ _ _ _ e; omega) | (split at e <;> (have := inj _ _ _ _ e; omega)))
theorem MxI.swap {w : World} {base m : Nat} {bs : List Nat} {M : List (List Int)} (h : MxI w base bs m M) {i j : Nat} (hi : i < M.length) (hj : j < M.length) : MxI w base (swapL bs i j) m (swapL M i j) := by
  have hi' : i < bs.length := by rw [h.1]; exact hi
  have hj' : j < bs.length := by rw [h.1]; exact hj
  refine ⟨by rw [swapL_len, swapL_len, h.1], swapL_nodup hi' hj' h.2.1, fun k h1 h2 => ?_⟩
  have h1' : k < bs.length := by rw [swapL_len] at h1; exact h1
  have h2' : k < M.length := by rw [swapL_len] at h2; exact h2
  rw [swapL_at hi' hj', swapL_at hi hj]
  split
  · exact h.2.2 i hi' hi
  · split
    · exact h.2.2 j hj' hj
    · exact h.2.2 k h1' h2'
end Go.Proofs.Ytomdfjohnmikdaa.Im
namespace Go.Proofs.Ytomdfjohnmikdaa.Im
open Go.RowKit Go.Shelf Kp Cw Ext Pu YtomdfjohnmikdaaW.PrintWords YtomdfjohnmikdaaW.PrintLast YtomdfjohnmikdaaW.PrintMore
section
variable {P : Program} {ops : Array Oper} {o : Oper} {a : Act} {Q : Exit → Act → World → Prop} {K : Act → World → Prop} {w w1 : World} {v : Value}
theorem valn_ {oi : Oper} (hw : Region.wanted oi (yielded ops a.tmps) = true) (hN : oi.dst = none) (hrun : (execOp a.eval oi).run P w = .ok (.value v) w1)
    (h : K a w1) : if Region.wanted oi (yielded ops a.tmps) = true then Oper.wp P oi a w K Q else K (a.put none undef) w := by
  rw [if_pos hw]
  unfold Oper.wp
  rw [hrun]
  show K (a.put oi.dst v) w1
  rw [hN]
  exact h
theorem apPsY {w0 W : World} (base Y : Nat) (s x : Operand) (v : Value) (xs ys : List Pr) (A : Option Addr) (m c : Nat)
    (hs : a.eval s = v) (hx : a.eval x = .slice A m c) (HO : Kd.R k73 73 W base (fun k => Y ≤ k) v xs) (HR : Kd.C k73 W A m ys) (HB : Below base w0 W) (hbase : base ≤ W.heap.size) (hY : Y ≤ W.heap.size) (hl : xs.length + m ≤ 8796093022208)
    (h : ∀ v1 w1, Kd.R k73 73 w1 base (fun k => Y ≤ k) v1 (xs ++ ys) → Below base w0 w1 → W.grownBy w1 v.ownBlock → (v1.ownBlock = v.ownBlock ∨ ∃ b, v1.ownBlock = some b ∧ W.heap.size ≤ b) → K (a.put o.dst v1) w1)
    (hw : Region.wanted o (yielded ops a.tmps) = true := by rfl) (ho : o.op = .call { callee := .builtin .append, args := #[s, x], argTypes := #[38, 38] } := by rfl) :
    if Region.wanted o (yielded ops a.tmps) = true then Oper.wp Try.prog o a W K Q else K (a.put o.dst undef) W :=
  Kd.R_append_rows_step k73 base hw s x 38 73 (.agg #[.int .i64 0, .int .i64 0]) 16 ho Try.underlying38 infoP rfl (by decide) (by decide) v xs ys A m c (fun k => Y ≤ k) (fun _ => False) hs hx HO HR
    (fun x cs h => by rw [k73_open h]; exact k73_mkM _ _ _ _) (fun _ h => h.elim) (fun k hk => Nat.le_trans hY hk) HB hbase (by omega) h
end
def GK (y ym : Nat) (W : World) (v : Value) (W' : World) (v' : Value) : Prop := W.heap.size ≤ W'.heap.size ∧ (∀ k, k < W.heap.size → k ≠ y → k ≠ ym → some k ≠ v.ownBlock → W'.heap[k]? = W.heap[k]?) ∧ ∀ k, v'.ownBlock = some k → v.ownBlock = some k ∨ W.heap.size ≤ k
theorem GK.trans {y ym : Nat} {W W1 W2 : World} {v v1 v2 : Value} (h : GK y ym W v W1 v1) (h' : GK y ym W1 v1 W2 v2) : GK y ym W v W2 v2 := by
  refine ⟨Nat.le_trans h.1 h'.1, fun k hk h1 h2 h3 => (h'.2.1 k (Nat.lt_of_lt_of_le hk h.1) h1 h2 (fun e => ?_)).trans (h.2.1 k hk h1 h2 h3), fun k hk => ?_⟩
  · rcases h.2.2 k e.symm with h4 | h4
    · exact h3 h4.symm
    · omega
  · rcases h'.2.2 k hk with h4 | h4
    · exact h.2.2 k h4
    · exact .inr (Nat.le_trans h.1 h4)
theorem GK.below {y ym : Nat} {W W1 : World} {v : Value} (h : Below W.heap.size W W1) : GK y ym W v W1 v := ⟨h.size, fun k hk _ _ _ => h.block k hk, fun _ h => .inl h⟩
theorem GK.set {y ym : Nat} {W : World} {v v1 : Value} (j : Nat) (u : Value) (hv : ∀ k, v1.ownBlock = some k → v.ownBlock = some k) : GK y ym W v (W.setCell ⟨y, j, none⟩ u) v1 := ⟨by simp, fun k hk h1 _ _ => Below.heap_setCell W ⟨y, j, none⟩ u k h1, fun k hk => .inl (hv k hk)⟩
theorem GK.grown {y ym : Nat} {W W1 : World} {v v1 : Value} (hg : W.grownBy W1 v.ownBlock) (hat : v1.ownBlock = v.ownBlock ∨ ∃ b, v1.ownBlock = some b ∧ W.heap.size ≤ b) : GK y ym W v W1 v1 := by
  refine ⟨hg.size, fun k hk _ _ h3 => hg.block k hk h3, fun k hk => ?_⟩
  rcases hat with h | ⟨b, hb, hle⟩
  · exact .inl (h ▸ hk)
  · rw [hb] at hk; injection hk with hk; exact .inr (hk ▸ hle)
theorem GK.map {y ym : Nat} {W W1 : World} {v : Value} (hg : W.grownBy W1 (some ym)) : GK y ym W v W1 v := ⟨hg.size, fun k hk _ h2 _ => hg.block k hk (fun e => h2 (by injection e)), fun _ h => .inl h⟩
theorem GK.pr {y ym : Nat} {W W' : World} {v v' : Value} {b : Nat} {p q : Int} (h : GK y ym W v W' v') (hp : PrAt W b p q) (h1 : b ≠ y) (h2 : b ≠ ym) (h3 : some b ≠ v.ownBlock) : PrAt W' b p q := (h.2.1 b hp.lt h1 h2 h3).trans hp
def growR (xs : List Int) (target : Int) (rest ls : List Pr) : Option (List Pr) := if (ls.length : Int) = target then some ls else growL xs target rest ls
def GwPost (W w0 : World) (y Y : Nat) (n : Int) (A : Option Addr) (c : Nat) (xs : List Int) (va : Value) (all : List Pr) (target : Int) (ym : Nat) (vl : Value) (ls : List Pr) (r : Option (List Pr)) (e : Ending) (w' : World) : Prop :=
  e = .returned (.bool r.isSome) ∧ ∃ vl', FS w' w0 y Y n A c xs.length va all target ym vl' (r.getD ls) (keysP (r.getD ls)) ∧ GK y ym W vl w' vl'
def GwOk (w0 : World) (y Y : Nat) (n : Int) (A : Option Addr) (c : Nat) (xs : List Int) (va : Value) (all : List Pr) (target : Int) (ym : Nat) (d : Nat) : Prop :=
  ∀ (ls : List Pr) (vl : Value) (i : Nat) (W : World), FS W w0 y Y n A c xs.length va all target ym vl ls (keysP ls) → pairingB xs ls = true → Bef ls (all.drop i) → i ≤ all.length → all.length - i = d →
    Calls Try.prog 143 #[.pointer (some ⟨y, 0, none⟩), .int .i64 i] W (GwPost W w0 y Y n A c xs va all target ym vl ls (growR xs target (all.drop i) ls))
section
variable {xs : List Int} {target : Int} {all ls : List Pr} {j : Nat} {p : Pr}
theorem grow_drop (hj : j < all.length) (hp : all[j] = p) : growL xs target (all.drop j) ls = if target ≤ (ls.length : Int) + (cntF (·.f0) ls (all.drop j) : Int) then (if okP xs ls p = true then (growR xs target (all.drop (j + 1)) (withP ls p)).or (growL xs target (all.drop (j + 1)) ls) else growL xs target (all.drop (j + 1)) ls) else none := by
  rw [List.drop_eq_getElem_cons hj, hp, growL]
  rfl
end
set_option maxRecDepth 100000 in
set_option maxHeartbeats 16000000 in
theorem gw_step (w0 : World) (y Y : Nat) (n : Int) (A : Option Addr) (c : Nat) (xs : List Int) (va : Value) (all : List Pr) (target : Int) (ym : Nat) (hr : RC w0 A xs.length xs) (hc : xs.length ≤ c) (hi : isC n xs = true) (hal : all.length ≤ 1048576) (hpa : ∀ p ∈ all, pairB xs p = true) (hsa : SortedP all) (d : Nat)
    (ih : ∀ d' < d, GwOk w0 y Y n A c xs va all target ym d') : GwOk w0 y Y n A c xs va all target ym d := by
  intro ls vl i W hfs hpl hbf hil hd
  have hll := pairing_len hi hpl
  have hfa : ∀ p ∈ all, 1 ≤ p.f0 ∧ p.f0 ≤ 63 := fun p hp => by
    have h1 := hpa p hp
    unfold pairB at h1
    rw [Bool.and_eq_true, decide_eq_true_eq] at h1
    have := isC_63 hi _ h1.1
    omega
  have HS := Aside0.mk hfs
  have HPL := Aside0.mk hpl
  have HBF := Aside0.mk hbf
  have HIH := Aside0.mk ih
  have HR := Aside0.mk hr
  have HC := Aside0.mk hc
  have HI := Aside0.mk hi
  have HD := Aside0.mk hd
  have HPA := Aside0.mk hpa
  have HSA := Aside0.mk hsa
  have HFA := Aside0.mk hfa
  obtain ⟨Al, cl, rfl⟩ := Kd.R_slice hfs.rl
  obtain ⟨Aa, ca, rfl⟩ := Kd.R_slice hfs.ra
  have hc5 := hfs.c5
  have hc3 := hfs.c3
  clear hfs hpl hbf ih hr hc hi hd hpa hsa hfa
  by_cases hlt0 : (ls.length : Int) = target
  · have HRR : Aside0 (growR xs target (all.drop i) ls = some ls) := ⟨by unfold growR; rw [if_pos hlt0]⟩
    subst hlt0
    go_enter Try.func143, Try.ntmps143
    go_upto_region 1 with fail
    refine st_ 10 (S := fun w' => w'.cell? ⟨y, 5, none⟩ = some (.slice Al ls.length cl) ∧ w'.cell? ⟨y, 3, none⟩ = some (.int .i64 (ls.length : Int))) (ds := []) ⟨hc5, hc3⟩ (fun hHeld => ?_)
    refine with_tabW (T := (true, [([], []), ([0], [0]), ([1], [1]), ([2], [2]), ([3], [3]), ([], []), ([5], [5]), ([6], [6]), ([7], [7]), ([4, 8], [4, 8])])) (B := [0, 1, 3, 7, 15, 0, 32, 96, 224, 511]) (by kernel_rfl) (by kernel_rfl) (fun HT_ HW_ => ?_)
    refine pd_ 0 7 1 HT_ ?_
    refine pd_ 1 8 3 HT_ ?_
    refine pd_ 2 9 7 HT_ ?_
    refine pd_ 5 12 39 HT_ ?_
    refine pd_ 6 13 103 HT_ ?_
    refine pd_ 7 14 231 HT_ ?_
    refine tk_ 3 10 239 HT_ HW_ hHeld ?_
    refine pd_ 4 11 255 HT_ ?_
    refine tk_ 8 15 511 HT_ HW_ hHeld ?_
    refine pd_ 9 16 1023 HT_ ?_
    refine dn_ HT_ ?_
    clear hc5 hc3
    go_wp2
    go_ret
    rw [HRR.out]
    exact ⟨rfl, _, HS.out.drew, GK.below (below_drew (Below.refl _ _))⟩
  · obtain ⟨R, hR⟩ : ∃ R, growR xs target (all.drop i) ls = R := ⟨_, rfl⟩
    have HR0 : Aside0 (R = growL xs target (all.drop i) ls) := ⟨by rw [← hR]; unfold growR; rw [if_neg hlt0]⟩
    rw [hR]
    have hne0 : ((ls.length : Int) == target) = false := beq_eq_false_iff_ne.2 hlt0
    clear hR
    go_enter Try.func143, Try.ntmps143
    go_upto_region 1 with fail
    refine st_ 10 (S := fun w' => w'.cell? ⟨y, 5, none⟩ = some (.slice Al ls.length cl) ∧ w'.cell? ⟨y, 3, none⟩ = some (.int .i64 target)) (ds := []) ⟨hc5, hc3⟩ (fun hHeld => ?_)
    refine with_tabW (T := (true, [([], []), ([0], [0]), ([1], [1]), ([2], [2]), ([3], [3]), ([], []), ([5], [5]), ([6], [6]), ([7], [7]), ([4, 8], [4, 8])])) (B := [0, 1, 3, 7, 15, 0, 32, 96, 224, 511]) (by kernel_rfl) (by kernel_rfl) (fun HT_ HW_ => ?_)
    refine pd_ 0 7 1 HT_ ?_
    refine pd_ 1 8 3 HT_ ?_
    refine pd_ 2 9 7 HT_ ?_
    refine pd_ 5 12 39 HT_ ?_
    refine pd_ 6 13 103 HT_ ?_
    refine pd_ 7 14 231 HT_ ?_
    refine tk_ 3 10 239 HT_ HW_ hHeld ?_
    refine pd_ 4 11 255 HT_ ?_
    refine tk_ 8 15 511 HT_ HW_ hHeld ?_
    refine pd_ 9 16 1023 HT_ ?_
    refine dn_ HT_ ?_
    clear hc5 hc3
    have HS1 := Aside0.mk HS.out.drew
    have HK1 : Aside0 (GK y ym W (.slice Al ls.length cl) W.drew (.slice Al ls.length cl)) := ⟨GK.below (below_drew (Below.refl _ _))⟩
    clear HS
    go_wp2
    go_loopw [5] (fun s5 wr => ∃ (j : Nat) (vl : Value), j ≤ all.length ∧ i ≤ j ∧ s5 = .int .i64 j ∧ Aside0 (R = growL xs target (all.drop j) ls) ∧ Aside0 (FS wr w0 y Y n A c xs.length (.slice Aa all.length ca) all target ym vl ls (keysP ls)) ∧ Aside0 (GK y ym W (.slice Al ls.length cl) wr vl) ∧ Aside0 (Bef ls (all.drop j))) (fun s5 _ => all.length - (intOf s5).toNat)
    case atStart => exact ⟨i, _, hil, Nat.le_refl _, rfl, HR0, HS1, HK1, HBF⟩
    case round =>
      clear HR0 HS1 HK1 HBF
      obtain ⟨j, vl, hj, hij, rfl, HR0, HS, HK, HBF⟩ := hrel
      obtain ⟨Al', cl', rfl⟩ := Kd.R_slice HS.out.rl
      have hc2 := HS.out.c2
      have hc5 := HS.out.c5
      have hc3 := HS.out.c3
      by_cases hlt : j < all.length
      · have hltz : (j : Int) < (all.length : Int) := by omega
        obtain ⟨p, hp⟩ : ∃ p, all[j] = p := ⟨_, rfl⟩
        have hgd := grow_drop (xs := xs) (target := target) (ls := ls) hlt hp
        obtain ⟨m, hm⟩ : ∃ m, cntF (·.f0) ls (all.drop j) = m := ⟨_, rfl⟩
        have hcld := could_c wr.drew w0 y Y n A c xs.length Aa ca all target ym _ ls j HS.out.drew hj hal HFA.out
        rw [hm] at hgd hcld
        have HCL := Aside0.mk hcld
        have HML : Aside0 (m ≤ 64) := ⟨by rw [← hm]; unfold cntF; exact Nat.le_trans (List.length_filter_le _ _) (by rw [List.length_range]; exact Nat.le_refl _)⟩
        have hml := HML.out
        have hwm1 : IntKind.i64.wrap ((ls.length : Int) + (m : Int)) = (ls.length : Int) + (m : Int) := by rw [IntKind.wrap_i64]; omega
        have hwm2 : wrap64 ((ls.length : Int) + (m : Int)) = (ls.length : Int) + (m : Int) := by unfold wrap64; omega
        have HGD := Aside0.mk hgd
        have HP := Aside0.mk hp
        clear hgd hcld hm hp
        by_cases ht : target ≤ (ls.length : Int) + (m : Int)
        · have HRT := Aside0.mk (HR0.out.trans (HGD.out.trans (if_pos ht)))
          clear HR0 HGD
          have htz : ¬ ((ls.length : Int) + (m : Int) < target) := by omega
          go_upto_region 4 with fail
          refine st_ 23 (S := fun w' => w'.cell? ⟨y, 2, none⟩ = some (.slice Aa all.length ca) ∧ w'.cell? ⟨y, 5, none⟩ = some (.slice Al' ls.length cl') ∧ w'.cell? ⟨y, 3, none⟩ = some (.int .i64 target)) (ds := []) ⟨hc2, hc5, hc3⟩ (fun hHeld => ?_)
          refine with_tabW (T := (true, [([], []), ([], []), ([1], [1]), ([2], [2]), ([3], [3]), ([4], [4]), ([0, 5], [0, 5]), ([6], [6]), ([7], [7]), ([8, 7], [7, 8]), ([9, 7], [7, 9]), ([10, 7], [7, 10]), ([11, 7], [7, 11]), ([7], [7]), ([7], [7]), ([13, 14, 7, 7], [7, 13, 14]), ([12, 15, 7], [7, 12, 15]), ([7], [7]), ([17, 7], [7, 17]), ([18, 7], [7, 18]), ([19, 7], [7, 19]), ([16, 20, 7], [7, 16, 20]), ([7, 21], [7, 21])])) (B := [0, 0, 2, 6, 14, 30, 63, 127, 255, 511, 1023, 2047, 4095, 255, 255, 24831, 65535, 255, 131327, 393471, 917759, 2097151, 4194303]) (by kernel_rfl) (by kernel_rfl) (fun HT_ HW_ => ?_)
          refine pd_ 0 18 1 HT_ ?_
          refine pd_ 1 19 3 HT_ ?_
          refine pd_ 2 20 7 HT_ ?_
          refine pd_ 3 21 15 HT_ ?_
          refine tk_ 4 22 31 HT_ HW_ hHeld ?_
          refine pd_ 5 23 63 HT_ ?_
          refine pd_ 6 24 127 HT_ ?_
          refine pd_ 7 25 255 HT_ ?_
          refine pd_ 8 26 511 HT_ ?_
          refine pd_ 9 27 1023 HT_ ?_
          refine pd_ 10 28 2047 HT_ ?_
          refine pd_ 13 31 10239 HT_ ?_
          refine pd_ 14 32 26623 HT_ ?_
          refine pd_ 17 35 157695 HT_ ?_
          refine pd_ 18 36 419839 HT_ ?_
          refine pd_ 19 37 944127 HT_ ?_
          refine tk_ 11 29 946175 HT_ HW_ hHeld ?_
          refine pd_ 12 30 950271 HT_ ?_
          refine tk_ 20 38 1998847 HT_ HW_ hHeld ?_
          refine on_ 15 (some 33) 2031615 HT_ (fun K hK => ?_)
          refine ca_ Try.func178 #[.pointer (some ⟨y, 0, none⟩), .int .i64 j] ?_
          refine HCL.out.mono ?_; rintro e w5 ⟨rfl, hb⟩; have hb0 : Below wr.heap.size wr w5 := (below_drew (Below.refl _ _)).trans hb; have HS5 := Aside0.mk (HS.out.below hb0); have HK5 := Aside0.mk (HK.out.trans (GK.below hb0)); clear hb hb0 HS HK HCL hc2 hc5 hc3
          refine ⟨_, rfl, ?_⟩
          refine hK.out _ _ ⟨HS5.out.c2, HS5.out.c5, HS5.out.c3⟩ (fun hHeld => ?_)
          clear hK K
          refine nm_ ?_
          refine pd_ 16 34 2097151 HT_ ?_
          refine pd_ 21 39 4194303 HT_ ?_
          refine pd_ 22 40 8388607 HT_ ?_
          refine dn_ HT_ ?_
          obtain ⟨j1, hj1⟩ : ∃ j1 : Nat, j1 = j + 1 := ⟨_, rfl⟩
          have hw1 : IntKind.i64.wrap ((j : Int) + 1) = (j1 : Int) := by rw [IntKind.wrap_i64]; omega
          have HJ1 := Aside0.mk hj1
          have HBJ : Aside0 (Bef ls (p :: all.drop (j + 1))) := ⟨by have := HBF.out; rw [List.drop_eq_getElem_cons hlt, HP.out] at this; exact this⟩
          have HSJ : Aside0 (SortedP (p :: all.drop (j + 1))) := ⟨by have := HSA.out.sublist (List.drop_sublist j all); rw [List.drop_eq_getElem_cons hlt, HP.out] at this; exact this⟩
          have hpm : p ∈ all := by rw [← HP.out]; exact List.getElem_mem hlt
          have HPP := Aside0.mk (HPA.out p hpm)
          have HOK : Aside0 (okP xs ls p = (freeP ls p && acycB (ls ++ [p]))) := ⟨by
            unfold okP
            rw [HBJ.out.with, pairing_snoc HPL.out HPP.out (fun q hq => HBJ.out q hq p (List.mem_cons_self ..))]⟩
          have hc2 := HS5.out.c2
          have hrd := (Kd.R_reads' HS5.out.ra).2.2
          obtain ⟨ad, rfl, hp0, hp1⟩ := pair_at hrd j hlt
          rw [getP hlt, HP.out] at hp0 hp1
          clear hrd hj1 hpm
          go_upto_region 7 with fail
          have ha := below_alloc (Below.refl w5.heap.size w5) (.cells #[.int .i64 p.f0, .int .i64 p.f1] 73)
          have HS6 := Aside0.mk (HS5.out.below ha)
          have HK6 := Aside0.mk (HK5.out.trans (GK.below ha))
          have HP6 := Aside0.mk (PrAt.new w5 p.f0 p.f1)
          have HB1 : Aside0 (w5.heap.size ≠ y) := ⟨fun e => by have := blk_lt HS5.out.b; omega⟩
          have HB2 : Aside0 (w5.heap.size ≠ ym) := ⟨fun e => by have := HS5.out.mp.lt; omega⟩
          have HB3 : Aside0 (some w5.heap.size ≠ (Value.slice Al' ls.length cl').ownBlock) := ⟨fun e => by have := Kd.R_lt HS5.out.rl _ e.symm; omega⟩
          clear HS5 HK5 ha hp0 hp1 hc2
          generalize hpb : w5.heap.size = pb at HP6 HB1 HB2 HB3 ⊢
          have HPB : Aside0 (pb < (w5.alloc (.cells #[.int .i64 p.f0, .int .i64 p.f1] 73)).heap.size) := ⟨by simp; omega⟩
          clear hpb
          generalize w5.alloc (.cells #[.int .i64 p.f0, .int .i64 p.f1] 73) = W6 at HS6 HK6 HP6 HPB ⊢
          have HS7 := Aside0.mk HS6.out.drew
          have HK7 := Aside0.mk (HK6.out.trans (GK.below (below_drew (Below.refl _ _))))
          have HP7 := Aside0.mk HP6.out.drew
          have HPB7 : Aside0 (pb < W6.drew.heap.size) := ⟨HPB.out⟩
          have hc4 := HS6.out.c4
          have hq0 := HP6.out.c0
          have hq1 := HP6.out.c1
          have hl0 := lookS HS7.out.mp p.f0
          have hl1 := lookS HS7.out.mp p.f1
          clear HS6 HK6 HP6 HPB
          cases hu0 : ls.any (hasF p.f0) with
          | true =>
            rw [hu0] at hl0
            have HF : Aside0 (freeP ls p = false) := ⟨by unfold freeP; rw [hu0]; rfl⟩
            clear hu0
            have HRN := Aside0.mk (HRT.out.trans (if_neg (by rw [HOK.out, HF.out]; exact Bool.false_ne_true)))
            rw [← HJ1.out] at HRN
            refine st_ 16 (S := fun w' => w'.cell? ⟨y, 4, none⟩ = some (.map (some ym)) ∧ w'.cell? ⟨pb, 0, none⟩ = some (.int .i64 p.f0) ∧ w'.cell? ⟨pb, 1, none⟩ = some (.int .i64 p.f1) ∧ (Instr.lookup 132 (.map (some ym)) (.int .i64 p.f0) false).run Try.prog w' = .ok (.bool true) w') (ds := []) ⟨hc4, hq0, hq1, hl0⟩ (fun hHeld => ?_)
            refine with_tabW (T := (true, [([], []), ([0], [0]), ([1], [1]), ([2], [2]), ([], []), ([4], [4]), ([3, 5], [3, 5]), ([6], [6]), ([7], [7]), ([8, 7], [7, 8]), ([9, 7], [7, 9]), ([10, 7], [7, 10]), ([7], [7]), ([12, 7], [7, 12]), ([11, 13, 7], [7, 11, 13]), ([7, 14], [7, 14])])) (B := [0, 1, 3, 7, 0, 16, 63, 127, 255, 511, 1023, 2047, 255, 4351, 16383, 32767]) (by kernel_rfl) (by kernel_rfl) (fun HT_ HW_ => ?_)
            refine pd_ 0 50 1 HT_ ?_
            refine pd_ 1 51 3 HT_ ?_
            refine pd_ 2 52 7 HT_ ?_
            refine pd_ 4 54 23 HT_ ?_
            refine tk_ 3 53 31 HT_ HW_ hHeld ?_
            refine tk_ 5 55 63 HT_ HW_ hHeld ?_
            refine tk_ 6 56 127 HT_ HW_ hHeld ?_
            refine pd_ 7 57 255 HT_ ?_
            refine pn_ 8 58 511 HT_ ?_
            refine pn_ 9 59 1023 HT_ ?_
            refine pn_ 10 60 2047 HT_ ?_
            refine pn_ 11 61 4095 HT_ ?_
            refine pn_ 12 62 8191 HT_ ?_
            refine pn_ 13 63 16383 HT_ ?_
            refine pn_ 14 64 32767 HT_ ?_
            refine pd_ 15 65 65535 HT_ ?_
            refine dn_ HT_ ?_
            clear hl0 hl1 hc4 hq0 hq1
            go_wp2
            have hj1 := HJ1.out
            exact ⟨⟨j1, _, by omega, by omega, by go_num, HRN, HS7, HK7, ⟨by rw [HJ1.out]; exact HBJ.out.tail⟩⟩, by simp [intOf]; omega⟩
          | false =>
            rw [hu0] at hl0
            cases hu1 : ls.any (hasF p.f1) with
            | true =>
              rw [hu1] at hl1
              have HF : Aside0 (freeP ls p = false) := ⟨by unfold freeP; rw [hu0, hu1]; rfl⟩
              clear hu0 hu1
              have HRN := Aside0.mk (HRT.out.trans (if_neg (by rw [HOK.out, HF.out]; exact Bool.false_ne_true)))
              rw [← HJ1.out] at HRN
              refine st_ 16 (S := fun w' => w'.cell? ⟨y, 4, none⟩ = some (.map (some ym)) ∧ w'.cell? ⟨pb, 0, none⟩ = some (.int .i64 p.f0) ∧ w'.cell? ⟨pb, 1, none⟩ = some (.int .i64 p.f1) ∧ (Instr.lookup 132 (.map (some ym)) (.int .i64 p.f0) false).run Try.prog w' = .ok (.bool false) w' ∧ (Instr.lookup 132 (.map (some ym)) (.int .i64 p.f1) false).run Try.prog w' = .ok (.bool true) w') (ds := []) ⟨hc4, hq0, hq1, hl0, hl1⟩ (fun hHeld => ?_)
              refine with_tabW (T := (true, [([], []), ([0], [0]), ([1], [1]), ([2], [2]), ([], []), ([4], [4]), ([3, 5], [3, 5]), ([6], [6]), ([7], [7]), ([8, 7], [7, 8]), ([9, 7], [7, 9]), ([10, 7], [7, 10]), ([7], [7]), ([12, 7], [7, 12]), ([11, 13, 7], [7, 11, 13]), ([7, 14], [7, 14])])) (B := [0, 1, 3, 7, 0, 16, 63, 127, 255, 511, 1023, 2047, 255, 4351, 16383, 32767]) (by kernel_rfl) (by kernel_rfl) (fun HT_ HW_ => ?_)
              refine pd_ 0 50 1 HT_ ?_
              refine pd_ 1 51 3 HT_ ?_
              refine pd_ 2 52 7 HT_ ?_
              refine pd_ 4 54 23 HT_ ?_
              refine tk_ 3 53 31 HT_ HW_ hHeld ?_
              refine tk_ 5 55 63 HT_ HW_ hHeld ?_
              refine tk_ 6 56 127 HT_ HW_ hHeld ?_
              refine pd_ 7 57 255 HT_ ?_
              refine pd_ 8 58 511 HT_ ?_
              refine pd_ 9 59 1023 HT_ ?_
              refine pd_ 10 60 2047 HT_ ?_
              refine pd_ 12 62 6143 HT_ ?_
              refine tk_ 11 61 8191 HT_ HW_ hHeld ?_
              refine tk_ 13 63 16383 HT_ HW_ hHeld ?_
              refine tk_ 14 64 32767 HT_ HW_ hHeld ?_
              refine pd_ 15 65 65535 HT_ ?_
              refine dn_ HT_ ?_
              clear hl0 hl1 hc4 hq0 hq1
              go_wp2
              have hj1 := HJ1.out
              exact ⟨⟨j1, _, by omega, by omega, by go_num, HRN, HS7, HK7, ⟨by rw [HJ1.out]; exact HBJ.out.tail⟩⟩, by simp [intOf]; omega⟩
            | false =>
              rw [hu1] at hl1
              have HF : Aside0 (freeP ls p = true) := ⟨by unfold freeP; rw [hu0, hu1]; rfl⟩
              have HX0 : Aside0 (p.f0 ∉ keysP ls) := ⟨by have := keys_mem ls p.f0; rw [hu0] at this; exact of_decide_eq_false this⟩
              have HX1 : Aside0 (p.f1 ∉ keysP ls ++ [p.f0]) := ⟨by
                have h1 := keys_mem ls p.f1
                rw [hu1] at h1
                have h2 := of_decide_eq_false h1
                intro hm
                rcases List.mem_append.1 hm with hm | hm
                · exact h2 hm
                · have h3 := List.mem_singleton.1 hm
                  have h4 := HPP.out
                  unfold pairB at h4
                  simp only [Bool.and_eq_true, decide_eq_true_eq, beq_iff_eq] at h4
                  have h5 := h4.2.2.2
                  rw [h3] at h5
                  omega⟩
              clear hu0 hu1
              refine st_ 16 (S := fun w' => w'.cell? ⟨y, 4, none⟩ = some (.map (some ym)) ∧ w'.cell? ⟨pb, 0, none⟩ = some (.int .i64 p.f0) ∧ w'.cell? ⟨pb, 1, none⟩ = some (.int .i64 p.f1) ∧ (Instr.lookup 132 (.map (some ym)) (.int .i64 p.f0) false).run Try.prog w' = .ok (.bool false) w' ∧ (Instr.lookup 132 (.map (some ym)) (.int .i64 p.f1) false).run Try.prog w' = .ok (.bool false) w') (ds := []) ⟨hc4, hq0, hq1, hl0, hl1⟩ (fun hHeld => ?_)
              refine with_tabW (T := (true, [([], []), ([0], [0]), ([1], [1]), ([2], [2]), ([], []), ([4], [4]), ([3, 5], [3, 5]), ([6], [6]), ([7], [7]), ([8, 7], [7, 8]), ([9, 7], [7, 9]), ([10, 7], [7, 10]), ([7], [7]), ([12, 7], [7, 12]), ([11, 13, 7], [7, 11, 13]), ([7, 14], [7, 14])])) (B := [0, 1, 3, 7, 0, 16, 63, 127, 255, 511, 1023, 2047, 255, 4351, 16383, 32767]) (by kernel_rfl) (by kernel_rfl) (fun HT_ HW_ => ?_)
              refine pd_ 0 50 1 HT_ ?_
              refine pd_ 1 51 3 HT_ ?_
              refine pd_ 2 52 7 HT_ ?_
              refine pd_ 4 54 23 HT_ ?_
              refine tk_ 3 53 31 HT_ HW_ hHeld ?_
              refine tk_ 5 55 63 HT_ HW_ hHeld ?_
              refine tk_ 6 56 127 HT_ HW_ hHeld ?_
              refine pd_ 7 57 255 HT_ ?_
              refine pd_ 8 58 511 HT_ ?_
              refine pd_ 9 59 1023 HT_ ?_
              refine pd_ 10 60 2047 HT_ ?_
              refine pd_ 12 62 6143 HT_ ?_
              refine tk_ 11 61 8191 HT_ HW_ hHeld ?_
              refine tk_ 13 63 16383 HT_ HW_ hHeld ?_
              refine tk_ 14 64 32767 HT_ HW_ hHeld ?_
              refine pd_ 15 65 65535 HT_ ?_
              refine dn_ HT_ ?_
              clear hl0 hl1 hc4 hq0 hq1
              go_upto_region 8 with fail
              generalize W6.drew = W7 at HS7 HK7 HP7 HPB7 ⊢
              have hc5 := HS7.out.c5
              have hq0 := HP7.out.c0
              have hq1 := HP7.out.c1
              obtain ⟨q, hq⟩ : ∃ q, q = ls ++ [p] := ⟨_, rfl⟩
              have HQ := Aside0.mk hq
              have HQL : Aside0 (q.length = ls.length + 1) := ⟨by rw [hq]; simp⟩
              clear hq
              refine st_ 11 (S := fun w' => w'.cell? ⟨y, 5, none⟩ = some (.slice Al' ls.length cl') ∧ w'.cell? ⟨pb, 0, none⟩ = some (.int .i64 p.f0) ∧ w'.cell? ⟨pb, 1, none⟩ = some (.int .i64 p.f1)) (ds := [7, 10]) ⟨hc5, hq0, hq1⟩ (fun hHeld => ?_)
              refine with_tabW (T := (true, [([], []), ([], []), ([1], [1]), ([2], [2]), ([3], [3]), ([], []), ([5], [5]), ([4, 6], [4, 6]), ([0, 0, 1, 2, 3, 4, 5, 6, 7], [0]), ([8, 0, 1, 2, 3, 4, 5, 6, 7], [8]), ([9, 7, 7, 0, 1, 2, 3, 4, 5, 6, 7], [7, 9])])) (B := [0, 0, 2, 6, 14, 0, 32, 126, 255, 511, 1023]) (by kernel_rfl) (by kernel_rfl) (fun HT_ HW_ => ?_)
              refine pd_ 0 66 1 HT_ ?_
              refine pd_ 1 67 3 HT_ ?_
              refine pd_ 2 68 7 HT_ ?_
              refine pd_ 3 69 15 HT_ ?_
              refine tk_ 4 70 31 HT_ HW_ hHeld ?_
              refine tk_ 5 71 63 HT_ HW_ hHeld ?_
              refine on_ 6 (some 72) 127 HT_ (fun K hK => ?_)
              (refine value_ (by rfl) rfl (v := .slice (some ⟨(W7.drew).heap.size, 0, none⟩) 1 1) (w1 := (W7.drew).alloc (.cells #[.int .i64 p.f0, .int .i64 p.f1] 73)) (by go_simp) ?_; have ha := below_in (below_drew (Below.refl W7.heap.size W7)) (below_alloc (Below.refl (W7.drew).heap.size (W7.drew)) (.cells #[.int .i64 p.f0, .int .i64 p.f1] 73)); have HS8 := Aside0.mk (HS7.out.below ha); have HK8 := Aside0.mk (HK7.out.trans (GK.below ha)); have HP8 : Aside0 (PrAt ((W7.drew).alloc (.cells #[.int .i64 p.f0, .int .i64 p.f1] 73)) pb p.f0 p.f1) := ⟨(ha.block _ HPB7.out).trans HP7.out⟩; have HPB8 : Aside0 (pb < ((W7.drew).alloc (.cells #[.int .i64 p.f0, .int .i64 p.f1] 73)).heap.size) := ⟨Nat.lt_of_lt_of_le HPB7.out ha.size⟩; have HO8 := Aside0.mk (PO.one (W7.drew) (W7.drew).heap.size p (Nat.le_refl _)); clear ha HS7 HK7 HP7 HPB7 hc5 hq0 hq1; generalize (W7.drew).alloc (.cells #[.int .i64 p.f0, .int .i64 p.f1] 73) = wz1 at HS8 HK8 HP8 HPB8 HO8 ⊢; generalize (some (⟨(W7.drew).heap.size, 0, none⟩ : Addr)) = A8 at HO8 ⊢)
              refine hK.out _ _ ⟨HS8.out.c5, HP8.out.c0, HP8.out.c1⟩ (fun hHeld => ?_)
              clear hK K
              refine nm_ ?_
              refine la_ 7 (some 73) 255 HT_ (fun K hK => ?_)
              (refine apPsY w0.heap.size Y (.tmp 70) (.tmp 72) _ ls [p] A8 1 1 rfl rfl HS8.out.rl (Kd.R_reads' HO8.out).2.2 HS8.out.hb HS8.out.hb.size HS8.out.Y1 (by omega) ?_; intro v9 wz2 ho hb hg hat; rw [← HQ.out] at ho; obtain ⟨A9, c9, rfl⟩ := Kd.R_slice ho; have hgr := HS8.out.grown hg hb ho; have HS9 := Aside0.mk hgr.1; have hc9 := hgr.2.1; have hf9 := hgr.2.2; have HK9 := Aside0.mk (HK8.out.trans ((GK.grown hg hat).trans (GK.set 5 (.slice A9 q.length c9) (fun _ h => h)))); have HP9 := Aside0.mk ((GK.grown (y := y) (ym := ym) hg hat).pr HP8.out HB1.out HB2.out HB3.out); have HN9 : Aside0 (some pb ≠ (Value.slice A9 q.length c9).ownBlock) := ⟨fun e => (by rcases (GK.grown (y := y) (ym := ym) hg hat).2.2 pb e.symm with h | h; exact HB3.out h.symm; exact absurd HPB8.out (by omega))⟩; clear ho hb hg hat hgr HS8 HK8 HP8 HPB8 HO8)
              refine hK.out _ _ ?_
              clear hK K
              refine nm_ ?_
              refine pd_ 8 74 511 HT_ ?_
              refine pd_ 9 75 1023 HT_ ?_
              refine la_ 10 none 2047 HT_ (fun K hK => ?_)
              (refine skip_ (by rfl) rfl (w1 := (wz2).setCell ⟨y, 5, none⟩ (.slice A9 q.length c9)) (by go_simp) ?_; have HPa : Aside0 (PrAt ((wz2).setCell ⟨y, 5, none⟩ (.slice A9 q.length c9)) pb p.f0 p.f1) := ⟨(Below.heap_setCell (wz2) ⟨y, 5, none⟩ (.slice A9 q.length c9) pb HB1.out).trans HP9.out⟩; clear hc9 hf9 HP9; generalize (wz2).setCell ⟨y, 5, none⟩ (.slice A9 q.length c9) = Wa at HS9 HK9 HPa ⊢)
              refine hK.out _ _ ?_
              clear hK K
              refine dn_ HT_ ?_
              go_upto_region 9 with fail
              have hc4 := HS9.out.c4
              have hq0 := HPa.out.c0
              have hq1 := HPa.out.c1
              have HSd := Aside0.mk HS9.out.drew
              have HKd := Aside0.mk (HK9.out.trans (GK.below (below_drew (Below.refl _ _))))
              have HPd := Aside0.mk HPa.out.drew
              clear HS9 HK9 HPa
              refine st_ 18 (S := fun w' => w'.cell? ⟨y, 4, none⟩ = some (.map (some ym)) ∧ w'.cell? ⟨pb, 0, none⟩ = some (.int .i64 p.f0) ∧ w'.cell? ⟨pb, 1, none⟩ = some (.int .i64 p.f1)) (ds := [15, 17]) ⟨hc4, hq0, hq1⟩ (fun hHeld => ?_)
              refine with_tabW (T := (true, [([], []), ([0], [0]), ([1], [1]), ([2], [2]), ([], []), ([4], [4]), ([], []), ([6], [6]), ([7], [7]), ([8], [8]), ([], []), ([10], [10]), ([3, 5, 9], [3, 5]), ([12], [12]), ([3, 13, 12, 0, 1, 2, 3, 4, 5, 9, 12], [3, 13]), ([9, 11, 14, 0, 1, 2, 3, 4, 5, 9, 12, 13, 14], [9, 11]), ([15], [15]), ([9, 16, 15, 0, 1, 2, 3, 4, 5, 6, 7, 8, 9, 10, 11, 12, 13, 14, 15], [9, 16])])) (B := [0, 1, 3, 7, 0, 16, 0, 64, 192, 448, 0, 1024, 1023, 5119, 13311, 32767, 65535, 131071]) (by kernel_rfl) (by kernel_rfl) (fun HT_ HW_ => ?_)
              refine pd_ 0 76 1 HT_ ?_
              refine pd_ 1 77 3 HT_ ?_
              refine pd_ 2 78 7 HT_ ?_
              refine pd_ 4 80 23 HT_ ?_
              refine pd_ 6 82 87 HT_ ?_
              refine pd_ 7 83 215 HT_ ?_
              refine pd_ 8 84 471 HT_ ?_
              refine pd_ 10 86 1495 HT_ ?_
              refine tk_ 3 79 1503 HT_ HW_ hHeld ?_
              refine tk_ 5 81 1535 HT_ HW_ hHeld ?_
              refine tk_ 9 85 2047 HT_ HW_ hHeld ?_
              refine tk_ 11 87 4095 HT_ HW_ hHeld ?_
              refine on_ 12 (some 88) 8191 HT_ (fun K hK => ?_)
              (obtain ⟨cc, wm1, wm2, hr1, hr2, hg1, hz1, hg2, hz2, hm2⟩ := HSd.out.mp.entry HX0.out Try.underlying132 Try.underlying2 (by kernel_rfl); refine value_ (by rfl) rfl (v := .tuple #[.bool false, .int .i64 cc]) (w1 := wm1) (by go_simp) ?_; have HR2 := Aside0.mk hr2; have hym : some y ≠ some ym := (fun e => HSd.out.mp.ne HSd.out.b (by injection e with e; exact e.symm)); have HY1 : Aside0 (wm1.cell? ⟨y, 4, none⟩ = some (.map (some ym))) := ⟨(cell_of_row wm1 y 4 _ _ _ ((hg1.block y (blk_lt HSd.out.b) hym).trans HSd.out.b)).trans rfl⟩; have HP1 := Aside0.mk ((GK.map (y := y) (v := .slice none 0 0) hg1).pr HPd.out HB1.out HB2.out (by simp [Value.ownBlock])); have HSe := Aside0.mk (HSd.out.setMap hg2 hz2 hm2); have HKe := Aside0.mk (HKd.out.trans (GK.map hg2)); have HPe := Aside0.mk ((GK.map (y := y) (v := .slice none 0 0) hg2).pr HPd.out HB1.out HB2.out (by simp [Value.ownBlock])); clear hr1 hr2 hg1 hz1 hg2 hz2 hm2 HSd HKd HPd hc4 hq0 hq1 hym)
              refine hK.out _ _ ⟨HY1.out, HP1.out.c0, HP1.out.c1⟩ (fun hHeld => ?_)
              clear hK K
              refine nm_ ?_
              refine pd_ 13 89 16383 HT_ ?_
              refine on_ 14 none 32767 HT_ (fun K hK => ?_)
              (have hr2 := HR2.out; refine skip_ (by rfl) rfl (w1 := wm2) (by go_simp) ?_; clear hr2 HR2 HY1 HP1)
              refine hK.out _ _ ⟨HSe.out.c4, HPe.out.c0, HPe.out.c1⟩ (fun hHeld => ?_)
              clear hK K
              refine la_ 15 (some 90) 65535 HT_ (fun K hK => ?_)
              (obtain ⟨cd, wm3, wm4, hr1, hr2, hg1, hz1, hg2, hz2, hm2⟩ := HSe.out.mp.entry HX1.out Try.underlying132 Try.underlying2 (by kernel_rfl); refine value_ (by rfl) rfl (v := .tuple #[.bool false, .int .i64 cd]) (w1 := wm3) (by go_simp) ?_; have HR2 := Aside0.mk hr2; have HSf := Aside0.mk (HSe.out.setMap hg2 hz2 hm2); have HKf := Aside0.mk (HKe.out.trans (GK.map hg2)); have HPf := Aside0.mk ((GK.map (y := y) (v := .slice none 0 0) hg2).pr HPe.out HB1.out HB2.out (by simp [Value.ownBlock])); clear hr1 hr2 hg1 hz1 hg2 hz2 hm2 HSe HKe HPe)
              refine hK.out _ _ ?_
              clear hK K
              refine nm_ ?_
              refine pd_ 16 91 131071 HT_ ?_
              refine la_ 17 none 262143 HT_ (fun K hK => ?_)
              (have hr2 := HR2.out; refine skip_ (by rfl) rfl (w1 := wm4) (by go_simp) ?_; clear hr2 HR2)
              refine hK.out _ _ ?_
              clear hK K
              refine dn_ HT_ ?_
              go_upto_region 10 with fail
              have hk0 := HSf.out.c0
              have hk1 := HSf.out.c1
              have hc5 := HSf.out.c5
              have HKQ : Aside0 (keysP ls ++ [p.f0] ++ [p.f1] = keysP q) := ⟨by rw [HQ.out, keys_snoc]⟩
              rw [HKQ.out] at HSf
              have HPQ : Aside0 (pairingB xs q = true) := ⟨by rw [HQ.out, pairing_snoc HPL.out HPP.out (fun q hq => HBJ.out q hq p (List.mem_cons_self ..))]; exact HF.out⟩
              have HOB := Aside0.mk (okBfs_of (l := q) (by have := HQL.out; omega) (facesP_of HI.out HPQ.out))
              have HAC := Aside0.mk (isAcyclic_c n A c xs A9 c9 q wm4.drew (Kd.R_reads' (Kd.R_drew HSf.out.rl)).2.2 (Kd.R_reads' HSf.out.rl).2.1 HOB.out)
              cases hac : acycB q with
              | false =>
                rw [hac] at HAC
                have HRN := Aside0.mk (HRT.out.trans (if_neg (by rw [HOK.out, ← HQ.out, hac, Bool.and_false]; exact Bool.false_ne_true)))
                rw [← HJ1.out] at HRN
                clear hac
                refine st_ 15 (S := fun w' => w'.cell? ⟨y, 0, none⟩ = some (.int .i64 n) ∧ w'.cell? ⟨y, 1, none⟩ = some (.slice A xs.length c) ∧ w'.cell? ⟨y, 5, none⟩ = some (.slice A9 q.length c9)) (ds := [8]) ⟨hk0, hk1, hc5⟩ (fun hHeld => ?_)
                refine with_tabW (T := (true, [([], []), ([0], [0]), ([1], [1]), ([2], [2]), ([], []), ([4], [4]), ([5], [5]), ([6], [6]), ([3, 7], [3, 7]), ([8, 8], [8]), ([9], [9]), ([9], [9]), ([11, 9], [9, 11]), ([10, 12, 9, 9], [9, 10, 12]), ([9, 13], [9, 13])])) (B := [0, 1, 3, 7, 0, 16, 48, 112, 255, 511, 1023, 1023, 3071, 8191, 16383]) (by kernel_rfl) (by kernel_rfl) (fun HT_ HW_ => ?_)
                refine pd_ 0 92 1 HT_ ?_
                refine pd_ 1 93 3 HT_ ?_
                refine pd_ 2 94 7 HT_ ?_
                refine pd_ 4 96 23 HT_ ?_
                refine pd_ 5 97 55 HT_ ?_
                refine pd_ 6 98 119 HT_ ?_
                refine tk_ 3 95 127 HT_ HW_ hHeld ?_
                refine tk_ 7 99 255 HT_ HW_ hHeld ?_
                refine la_ 8 (some 100) 511 HT_ (fun K hK => ?_)
                refine ca_ Try.func113 #[.agg #[.int .i64 n, .slice A xs.length c], .slice A9 q.length c9] ?_
                refine HAC.out.mono ?_; rintro e wb ⟨rfl, hb⟩; have hb0 : Below wm4.heap.size wm4 wb := (below_drew (Below.refl _ _)).trans hb; have HSg := Aside0.mk (HSf.out.below hb0); have HKg := Aside0.mk (HKf.out.trans (GK.below hb0)); have HPg : Aside0 (PrAt wb pb p.f0 p.f1) := ⟨(hb0.block _ HPf.out.lt).trans HPf.out⟩; clear hb hb0 HSf HKf HPf HAC hk0 hk1 hc5
                refine ⟨_, rfl, ?_⟩
                refine hK.out _ _ ?_
                clear hK K
                refine nm_ ?_
                refine pd_ 9 101 1023 HT_ ?_
                refine pn_ 10 102 2047 HT_ ?_
                refine pn_ 11 103 4095 HT_ ?_
                refine pn_ 12 104 8191 HT_ ?_
                refine pn_ 13 105 16383 HT_ ?_
                refine pd_ 14 106 32767 HT_ ?_
                refine dn_ HT_ ?_
                go_upto_region 12 with fail
                have hc5 := HSg.out.c5
                have hf5 := HSg.out.fz 5
                have hrq := HSg.out.rl
                rw [HQ.out] at hrq
                have hcut := PR.cut (xs := ls) (x := p) hrq
                have hcc := hcut.2.1
                have HCUT := Aside0.mk hcut.2.2
                have hqz : (q.length : Int) - 1 = (ls.length : Int) := by have := HQL.out; omega
                have hcutT : ∀ W : World, (Instr.slice 38 (.slice A9 q.length c9) none (some (.int .i64 (ls.length : Int))) none).run Try.prog W = .ok (.slice A9 ls.length c9) W := by
                  intro W
                  obtain ⟨i0, hi0, hz0, hzs, hzb⟩ := info_parts infoP
                  have := cut_to 38 73 .i64 Try.underlying38 hi0 A9 q.length c9 (ls.length : Int) (by omega) (by omega) (by rw [HQ.out]; exact hcc) W
                  rw [Int.toNat_natCast] at this
                  exact this
                have hwz : IntKind.i64.wrap ((q.length : Int) - 1) = (ls.length : Int) := by rw [hqz, IntKind.wrap_i64]; omega
                have hw64 : wrap64 (ls.length : Int) = (ls.length : Int) := by unfold wrap64; omega
                clear hcut hrq hcc
                refine st_ 15 (S := fun w' => w'.cell? ⟨y, 5, none⟩ = some (.slice A9 q.length c9)) (ds := [14]) hc5 (fun hHeld => ?_)
                refine with_tabW (T := (true, [([], []), ([], []), ([1], [1]), ([2], [2]), ([3], [3]), ([], []), ([5], [5]), ([6], [6]), ([7], [7]), ([8], [8]), ([9], [9]), ([4, 10], [4, 10]), ([0, 0, 1, 2, 3, 4, 5, 6, 7, 8, 9, 10, 11], [0]), ([12, 0, 1, 2, 3, 4, 5, 6, 7, 8, 9, 10, 11], [12]), ([13, 11, 0, 1, 2, 3, 4, 5, 6, 7, 8, 9, 10, 11], [11, 13])])) (B := [0, 0, 2, 6, 14, 0, 32, 96, 224, 480, 992, 2046, 4095, 8191, 16383]) (by kernel_rfl) (by kernel_rfl) (fun HT_ HW_ => ?_)
                refine pd_ 0 107 1 HT_ ?_
                refine pd_ 1 108 3 HT_ ?_
                refine pd_ 2 109 7 HT_ ?_
                refine pd_ 3 110 15 HT_ ?_
                refine pd_ 5 112 47 HT_ ?_
                refine pd_ 6 113 111 HT_ ?_
                refine pd_ 7 114 239 HT_ ?_
                refine tk_ 4 111 255 HT_ HW_ hHeld ?_
                refine tk_ 8 115 511 HT_ HW_ hHeld ?_
                refine pd_ 9 116 1023 HT_ ?_
                refine pd_ 10 117 2047 HT_ ?_
                refine pd_ 11 118 4095 HT_ ?_
                refine pd_ 12 119 8191 HT_ ?_
                refine pd_ 13 120 16383 HT_ ?_
                refine la_ 14 none 32767 HT_ (fun K hK => ?_)
                (have hc5' : wb.drew.cell? ⟨y, 5, none⟩ = some (.slice A9 q.length c9) := hc5; have hf5' : wb.drew.frozen? ⟨y, 5, none⟩ = false := hf5; refine skip_ (by rfl) rfl (w1 := wb.drew.setCell ⟨y, 5, none⟩ (.slice A9 ls.length c9)) (by go_simp) ?_; clear hc5' hf5')
                refine hK.out _ _ ?_
                clear hK K
                refine dn_ HT_ ?_
                have HSh := Aside0.mk (HSg.out.drew.setList (Kd.R_drew HCUT.out))
                have HKh := Aside0.mk (HKg.out.trans ((GK.below (below_drew (Below.refl _ _))).trans (GK.set 5 (.slice A9 ls.length c9) (v1 := .slice A9 ls.length c9) (fun k h => by cases A9 <;> exact h))))
                have HPh : Aside0 (PrAt (wb.drew.setCell ⟨y, 5, none⟩ (.slice A9 ls.length c9)) pb p.f0 p.f1) := ⟨(Below.heap_setCell wb.drew ⟨y, 5, none⟩ (.slice A9 ls.length c9) pb HB1.out).trans HPg.out⟩
                clear HSg HKg HPg HCUT hcutT hc5 hf5 hqz hwz hw64
                generalize wb.drew.setCell ⟨y, 5, none⟩ (.slice A9 ls.length c9) = Wh at HSh HKh HPh ⊢
                go_upto_region 13 with fail
                have hmp := HSh.out.mp
                rw [HQ.out, keys_snoc, List.append_assoc, List.singleton_append] at hmp
                have hc4 := HSh.out.c4
                have hq0 := HPh.out.c0
                obtain ⟨wd1, hrd1, hg1, hz1, hm1⟩ := (hmp.below (below_drew (Below.refl Wh.heap.size Wh))).del HX0.out Try.underlying132 Try.underlying2 0
                refine st_ 7 (S := fun w' => w'.cell? ⟨y, 4, none⟩ = some (.map (some ym)) ∧ w'.cell? ⟨pb, 0, none⟩ = some (.int .i64 p.f0)) (ds := [6]) ⟨hc4, hq0⟩ (fun hHeld => ?_)
                refine with_tabW (T := (true, [([], []), ([0], [0]), ([1], [1]), ([2], [2]), ([], []), ([4], [4]), ([3, 5], [3, 5])])) (B := [0, 1, 3, 7, 0, 16, 63]) (by kernel_rfl) (by kernel_rfl) (fun HT_ HW_ => ?_)
                refine pd_ 0 121 1 HT_ ?_
                refine pd_ 1 122 3 HT_ ?_
                refine pd_ 2 123 7 HT_ ?_
                refine pd_ 4 125 23 HT_ ?_
                refine tk_ 3 124 31 HT_ HW_ hHeld ?_
                refine tk_ 5 126 63 HT_ HW_ hHeld ?_
                refine la_ 6 none 127 HT_ (fun K hK => ?_)
                (refine valn_ (by rfl) rfl (v := .tuple #[]) (w1 := wd1) (by go_simp) ?_)
                refine hK.out _ _ ?_
                clear hK K
                refine dn_ HT_ ?_
                have HSi := Aside0.mk (HSh.out.drew.setMap hg1 hz1 hm1)
                have HKi := Aside0.mk (HKh.out.trans ((GK.below (below_drew (Below.refl _ _))).trans (GK.map hg1)))
                have HPi := Aside0.mk ((GK.map (y := y) (v := .slice none 0 0) hg1).pr HPh.out.drew HB1.out HB2.out (by simp [Value.ownBlock]))
                clear hmp hc4 hq0 hrd1 hg1 hz1 hm1 HSh HKh HPh
                go_upto_region 14 with fail
                have hc4 := HSi.out.c4
                have hq1 := HPi.out.c1
                have HXX : Aside0 (p.f1 ∉ keysP ls) := ⟨fun h => HX1.out (List.mem_append_left _ h)⟩
                obtain ⟨wd2, hrd2, hg2, hz2, hm2⟩ := (HSi.out.mp.below (below_drew (Below.refl wd1.heap.size wd1))).del (K0 := keysP ls) (K1 := []) HXX.out Try.underlying132 Try.underlying2 0
                rw [List.append_nil] at hm2
                refine st_ 7 (S := fun w' => w'.cell? ⟨y, 4, none⟩ = some (.map (some ym)) ∧ w'.cell? ⟨pb, 1, none⟩ = some (.int .i64 p.f1)) (ds := [6]) ⟨hc4, hq1⟩ (fun hHeld => ?_)
                refine with_tabW (T := (true, [([], []), ([0], [0]), ([1], [1]), ([2], [2]), ([], []), ([4], [4]), ([3, 5], [3, 5])])) (B := [0, 1, 3, 7, 0, 16, 63]) (by kernel_rfl) (by kernel_rfl) (fun HT_ HW_ => ?_)
                refine pd_ 0 127 1 HT_ ?_
                refine pd_ 1 128 3 HT_ ?_
                refine pd_ 2 129 7 HT_ ?_
                refine pd_ 4 131 23 HT_ ?_
                refine tk_ 3 130 31 HT_ HW_ hHeld ?_
                refine tk_ 5 132 63 HT_ HW_ hHeld ?_
                refine la_ 6 none 127 HT_ (fun K hK => ?_)
                (refine valn_ (by rfl) rfl (v := .tuple #[]) (w1 := wd2) (by go_simp) ?_)
                refine hK.out _ _ ?_
                clear hK K
                refine dn_ HT_ ?_
                have HSj := Aside0.mk (HSi.out.drew.setMap hg2 hz2 hm2)
                have HKj := Aside0.mk (HKi.out.trans ((GK.below (below_drew (Below.refl _ _))).trans (GK.map hg2)))
                clear hc4 hq1 hrd2 hg2 hz2 hm2 HSi HKi HPi
                go_wp2
                have hj1 := HJ1.out
                exact ⟨⟨j1, _, by omega, by omega, by go_num, HRN, HSj, HKj, ⟨by rw [HJ1.out]; exact HBJ.out.tail⟩⟩, by simp [intOf]; omega⟩
              | true =>
                rw [hac] at HAC
                have HOKT : Aside0 (okP xs ls p = true) := ⟨by rw [HOK.out, HF.out, ← HQ.out, hac]; rfl⟩
                clear hac
                have HRY := Aside0.mk (HRT.out.trans (if_pos HOKT.out))
                rw [HBJ.out.with, ← HQ.out, ← HJ1.out] at HRY
                have HBQ : Aside0 (Bef q (all.drop j1)) := ⟨by rw [HQ.out, HJ1.out]; exact HBJ.out.step HSJ.out⟩
                obtain ⟨rr, hrr⟩ : ∃ rr, growR xs target (all.drop j1) q = rr := ⟨_, rfl⟩
                rw [hrr] at HRY
                have HGR : Aside0 (∀ W', FS W' w0 y Y n A c xs.length (.slice (some ad) all.length ca) all target ym (.slice A9 q.length c9) q (keysP q) → Calls Try.prog 143 #[.pointer (some ⟨y, 0, none⟩), .int .i64 j1] W' (GwPost W' w0 y Y n A c xs (.slice (some ad) all.length ca) all target ym (.slice A9 q.length c9) q rr)) := ⟨fun W' h => by
                  have := HIH.out (all.length - j1) (by have := HD.out; have := HJ1.out; omega) q _ j1 W' h HPQ.out HBQ.out (by have := HJ1.out; omega) rfl
                  rw [hrr] at this
                  exact this⟩
                clear hrr
                cases rr with
                | some q2 =>
                  have HRS : Aside0 (R = some q2) := HRY
                  refine st_ 15 (S := fun w' => w'.cell? ⟨y, 0, none⟩ = some (.int .i64 n) ∧ w'.cell? ⟨y, 1, none⟩ = some (.slice A xs.length c) ∧ w'.cell? ⟨y, 5, none⟩ = some (.slice A9 q.length c9)) (ds := [8, 13]) ⟨hk0, hk1, hc5⟩ (fun hHeld => ?_)
                  refine with_tabW (T := (true, [([], []), ([0], [0]), ([1], [1]), ([2], [2]), ([], []), ([4], [4]), ([5], [5]), ([6], [6]), ([3, 7], [3, 7]), ([8, 8], [8]), ([9], [9]), ([9], [9]), ([11, 9], [9, 11]), ([10, 12, 9, 9], [9, 10, 12]), ([9, 13], [9, 13])])) (B := [0, 1, 3, 7, 0, 16, 48, 112, 255, 511, 1023, 1023, 3071, 8191, 16383]) (by kernel_rfl) (by kernel_rfl) (fun HT_ HW_ => ?_)
                  refine pd_ 0 92 1 HT_ ?_
                  refine pd_ 1 93 3 HT_ ?_
                  refine pd_ 2 94 7 HT_ ?_
                  refine pd_ 4 96 23 HT_ ?_
                  refine pd_ 5 97 55 HT_ ?_
                  refine pd_ 6 98 119 HT_ ?_
                  refine tk_ 3 95 127 HT_ HW_ hHeld ?_
                  refine tk_ 7 99 255 HT_ HW_ hHeld ?_
                  refine la_ 8 (some 100) 511 HT_ (fun K hK => ?_)
                  refine ca_ Try.func113 #[.agg #[.int .i64 n, .slice A xs.length c], .slice A9 q.length c9] ?_
                  refine HAC.out.mono ?_; rintro e wa ⟨rfl, hb⟩; have hb0 : Below wm4.heap.size wm4 wa := (below_drew (Below.refl _ _)).trans hb; have HSa := Aside0.mk (HSf.out.below hb0); have HKa := Aside0.mk (HKf.out.trans (GK.below hb0)); have HPa2 : Aside0 (PrAt wa pb p.f0 p.f1) := ⟨(hb0.block _ HPf.out.lt).trans HPf.out⟩; clear hb hb0 HSf HKf HPf HAC hk0 hk1 hc5
                  refine ⟨_, rfl, ?_⟩
                  refine hK.out _ _ ?_
                  clear hK K
                  refine nm_ ?_
                  refine pd_ 9 101 1023 HT_ ?_
                  refine pd_ 10 102 2047 HT_ ?_
                  refine pd_ 11 103 4095 HT_ ?_
                  refine pd_ 12 104 8191 HT_ ?_
                  refine la_ 13 (some 105) 16383 HT_ (fun K hK => ?_)
                  refine ca_ Try.func143 #[.pointer (some ⟨y, 0, none⟩), .int .i64 j1] ?_
                  refine (HGR.out _ HSa.out).mono ?_; rintro e wb ⟨rfl, vb, hs, hk⟩; obtain ⟨Ab, cb, rfl⟩ := Kd.R_slice hs.rl; have HPg := Aside0.mk (hk.pr HPa2.out HB1.out HB2.out HN9.out); have HSg := Aside0.mk hs; have HKg := Aside0.mk (HKa.out.trans hk); clear hs hk HSa HKa HPa2 HGR
                  refine ⟨_, rfl, ?_⟩
                  refine hK.out _ _ ?_
                  clear hK K
                  refine nm_ ?_
                  refine pd_ 14 106 32767 HT_ ?_
                  refine dn_ HT_ ?_
                  go_wp2
                  go_ret
                  rw [HRS.out]
                  exact ⟨rfl, _, HSg.out, HKg.out⟩
                | none =>
                  have HRN : Aside0 (R = growL xs target (all.drop j1) ls) := ⟨HRY.out.trans (Option.none_or ..)⟩
                  refine st_ 15 (S := fun w' => w'.cell? ⟨y, 0, none⟩ = some (.int .i64 n) ∧ w'.cell? ⟨y, 1, none⟩ = some (.slice A xs.length c) ∧ w'.cell? ⟨y, 5, none⟩ = some (.slice A9 q.length c9)) (ds := [8, 13]) ⟨hk0, hk1, hc5⟩ (fun hHeld => ?_)
                  refine with_tabW (T := (true, [([], []), ([0], [0]), ([1], [1]), ([2], [2]), ([], []), ([4], [4]), ([5], [5]), ([6], [6]), ([3, 7], [3, 7]), ([8, 8], [8]), ([9], [9]), ([9], [9]), ([11, 9], [9, 11]), ([10, 12, 9, 9], [9, 10, 12]), ([9, 13], [9, 13])])) (B := [0, 1, 3, 7, 0, 16, 48, 112, 255, 511, 1023, 1023, 3071, 8191, 16383]) (by kernel_rfl) (by kernel_rfl) (fun HT_ HW_ => ?_)
                  refine pd_ 0 92 1 HT_ ?_
                  refine pd_ 1 93 3 HT_ ?_
                  refine pd_ 2 94 7 HT_ ?_
                  refine pd_ 4 96 23 HT_ ?_
                  refine pd_ 5 97 55 HT_ ?_
                  refine pd_ 6 98 119 HT_ ?_
                  refine tk_ 3 95 127 HT_ HW_ hHeld ?_
                  refine tk_ 7 99 255 HT_ HW_ hHeld ?_
                  refine la_ 8 (some 100) 511 HT_ (fun K hK => ?_)
                  refine ca_ Try.func113 #[.agg #[.int .i64 n, .slice A xs.length c], .slice A9 q.length c9] ?_
                  refine HAC.out.mono ?_; rintro e wa ⟨rfl, hb⟩; have hb0 : Below wm4.heap.size wm4 wa := (below_drew (Below.refl _ _)).trans hb; have HSa := Aside0.mk (HSf.out.below hb0); have HKa := Aside0.mk (HKf.out.trans (GK.below hb0)); have HPa2 : Aside0 (PrAt wa pb p.f0 p.f1) := ⟨(hb0.block _ HPf.out.lt).trans HPf.out⟩; clear hb hb0 HSf HKf HPf HAC hk0 hk1 hc5
                  refine ⟨_, rfl, ?_⟩
                  refine hK.out _ _ ?_
                  clear hK K
                  refine nm_ ?_
                  refine pd_ 9 101 1023 HT_ ?_
                  refine pd_ 10 102 2047 HT_ ?_
                  refine pd_ 11 103 4095 HT_ ?_
                  refine pd_ 12 104 8191 HT_ ?_
                  refine la_ 13 (some 105) 16383 HT_ (fun K hK => ?_)
                  refine ca_ Try.func143 #[.pointer (some ⟨y, 0, none⟩), .int .i64 j1] ?_
                  refine (HGR.out _ HSa.out).mono ?_; rintro e wb ⟨rfl, vb, hs, hk⟩; obtain ⟨Ab, cb, rfl⟩ := Kd.R_slice hs.rl; have HPg := Aside0.mk (hk.pr HPa2.out HB1.out HB2.out HN9.out); have HSg := Aside0.mk hs; have HKg := Aside0.mk (HKa.out.trans hk); clear hs hk HSa HKa HPa2 HGR
                  refine ⟨_, rfl, ?_⟩
                  refine hK.out _ _ ?_
                  clear hK K
                  refine nm_ ?_
                  refine pd_ 14 106 32767 HT_ ?_
                  refine dn_ HT_ ?_
                  have HSg2 := HSg
                  clear HSg
                  have HSg : Aside0 (FS wb w0 y Y n A c xs.length (.slice (some ad) all.length ca) all target ym (.slice Ab q.length cb) q (keysP q)) := HSg2
                  clear HSg2
                  go_upto_region 12 with fail
                  have hc5 := HSg.out.c5
                  have hf5 := HSg.out.fz 5
                  have hrq := HSg.out.rl
                  rw [HQ.out] at hrq
                  have hcut := PR.cut (xs := ls) (x := p) hrq
                  have hcc := hcut.2.1
                  have HCUT := Aside0.mk hcut.2.2
                  have hqz : (q.length : Int) - 1 = (ls.length : Int) := by have := HQL.out; omega
                  have hcutT : ∀ W : World, (Instr.slice 38 (.slice Ab q.length cb) none (some (.int .i64 (ls.length : Int))) none).run Try.prog W = .ok (.slice Ab ls.length cb) W := by
                    intro W
                    obtain ⟨i0, hi0, hz0, hzs, hzb⟩ := info_parts infoP
                    have := cut_to 38 73 .i64 Try.underlying38 hi0 Ab q.length cb (ls.length : Int) (by omega) (by omega) (by rw [HQ.out]; exact hcc) W
                    rw [Int.toNat_natCast] at this
                    exact this
                  have hwz : IntKind.i64.wrap ((q.length : Int) - 1) = (ls.length : Int) := by rw [hqz, IntKind.wrap_i64]; omega
                  have hw64 : wrap64 (ls.length : Int) = (ls.length : Int) := by unfold wrap64; omega
                  clear hcut hrq hcc
                  refine st_ 15 (S := fun w' => w'.cell? ⟨y, 5, none⟩ = some (.slice Ab q.length cb)) (ds := [14]) hc5 (fun hHeld => ?_)
                  refine with_tabW (T := (true, [([], []), ([], []), ([1], [1]), ([2], [2]), ([3], [3]), ([], []), ([5], [5]), ([6], [6]), ([7], [7]), ([8], [8]), ([9], [9]), ([4, 10], [4, 10]), ([0, 0, 1, 2, 3, 4, 5, 6, 7, 8, 9, 10, 11], [0]), ([12, 0, 1, 2, 3, 4, 5, 6, 7, 8, 9, 10, 11], [12]), ([13, 11, 0, 1, 2, 3, 4, 5, 6, 7, 8, 9, 10, 11], [11, 13])])) (B := [0, 0, 2, 6, 14, 0, 32, 96, 224, 480, 992, 2046, 4095, 8191, 16383]) (by kernel_rfl) (by kernel_rfl) (fun HT_ HW_ => ?_)
                  refine pd_ 0 107 1 HT_ ?_
                  refine pd_ 1 108 3 HT_ ?_
                  refine pd_ 2 109 7 HT_ ?_
                  refine pd_ 3 110 15 HT_ ?_
                  refine pd_ 5 112 47 HT_ ?_
                  refine pd_ 6 113 111 HT_ ?_
                  refine pd_ 7 114 239 HT_ ?_
                  refine tk_ 4 111 255 HT_ HW_ hHeld ?_
                  refine tk_ 8 115 511 HT_ HW_ hHeld ?_
                  refine pd_ 9 116 1023 HT_ ?_
                  refine pd_ 10 117 2047 HT_ ?_
                  refine pd_ 11 118 4095 HT_ ?_
                  refine pd_ 12 119 8191 HT_ ?_
                  refine pd_ 13 120 16383 HT_ ?_
                  refine la_ 14 none 32767 HT_ (fun K hK => ?_)
                  (have hc5' : wb.drew.cell? ⟨y, 5, none⟩ = some (.slice Ab q.length cb) := hc5; have hf5' : wb.drew.frozen? ⟨y, 5, none⟩ = false := hf5; refine skip_ (by rfl) rfl (w1 := wb.drew.setCell ⟨y, 5, none⟩ (.slice Ab ls.length cb)) (by go_simp) ?_; clear hc5' hf5')
                  refine hK.out _ _ ?_
                  clear hK K
                  refine dn_ HT_ ?_
                  have HSh := Aside0.mk (HSg.out.drew.setList (Kd.R_drew HCUT.out))
                  have HKh := Aside0.mk (HKg.out.trans ((GK.below (below_drew (Below.refl _ _))).trans (GK.set 5 (.slice Ab ls.length cb) (v1 := .slice Ab ls.length cb) (fun k h => by cases Ab <;> exact h))))
                  have HPh : Aside0 (PrAt (wb.drew.setCell ⟨y, 5, none⟩ (.slice Ab ls.length cb)) pb p.f0 p.f1) := ⟨(Below.heap_setCell wb.drew ⟨y, 5, none⟩ (.slice Ab ls.length cb) pb HB1.out).trans HPg.out⟩
                  clear HSg HKg HPg HCUT hcutT hc5 hf5 hqz hwz hw64
                  generalize wb.drew.setCell ⟨y, 5, none⟩ (.slice Ab ls.length cb) = Wh at HSh HKh HPh ⊢
                  go_upto_region 13 with fail
                  have hmp := HSh.out.mp
                  rw [HQ.out, keys_snoc, List.append_assoc, List.singleton_append] at hmp
                  have hc4 := HSh.out.c4
                  have hq0 := HPh.out.c0
                  obtain ⟨wd1, hrd1, hg1, hz1, hm1⟩ := (hmp.below (below_drew (Below.refl Wh.heap.size Wh))).del HX0.out Try.underlying132 Try.underlying2 0
                  refine st_ 7 (S := fun w' => w'.cell? ⟨y, 4, none⟩ = some (.map (some ym)) ∧ w'.cell? ⟨pb, 0, none⟩ = some (.int .i64 p.f0)) (ds := [6]) ⟨hc4, hq0⟩ (fun hHeld => ?_)
                  refine with_tabW (T := (true, [([], []), ([0], [0]), ([1], [1]), ([2], [2]), ([], []), ([4], [4]), ([3, 5], [3, 5])])) (B := [0, 1, 3, 7, 0, 16, 63]) (by kernel_rfl) (by kernel_rfl) (fun HT_ HW_ => ?_)
                  refine pd_ 0 121 1 HT_ ?_
                  refine pd_ 1 122 3 HT_ ?_
                  refine pd_ 2 123 7 HT_ ?_
                  refine pd_ 4 125 23 HT_ ?_
                  refine tk_ 3 124 31 HT_ HW_ hHeld ?_
                  refine tk_ 5 126 63 HT_ HW_ hHeld ?_
                  refine la_ 6 none 127 HT_ (fun K hK => ?_)
                  (refine valn_ (by rfl) rfl (v := .tuple #[]) (w1 := wd1) (by go_simp) ?_)
                  refine hK.out _ _ ?_
                  clear hK K
                  refine dn_ HT_ ?_
                  have HSi := Aside0.mk (HSh.out.drew.setMap hg1 hz1 hm1)
                  have HKi := Aside0.mk (HKh.out.trans ((GK.below (below_drew (Below.refl _ _))).trans (GK.map hg1)))
                  have HPi := Aside0.mk ((GK.map (y := y) (v := .slice none 0 0) hg1).pr HPh.out.drew HB1.out HB2.out (by simp [Value.ownBlock]))
                  clear hmp hc4 hq0 hrd1 hg1 hz1 hm1 HSh HKh HPh
                  go_upto_region 14 with fail
                  have hc4 := HSi.out.c4
                  have hq1 := HPi.out.c1
                  have HXX : Aside0 (p.f1 ∉ keysP ls) := ⟨fun h => HX1.out (List.mem_append_left _ h)⟩
                  obtain ⟨wd2, hrd2, hg2, hz2, hm2⟩ := (HSi.out.mp.below (below_drew (Below.refl wd1.heap.size wd1))).del (K0 := keysP ls) (K1 := []) HXX.out Try.underlying132 Try.underlying2 0
                  rw [List.append_nil] at hm2
                  refine st_ 7 (S := fun w' => w'.cell? ⟨y, 4, none⟩ = some (.map (some ym)) ∧ w'.cell? ⟨pb, 1, none⟩ = some (.int .i64 p.f1)) (ds := [6]) ⟨hc4, hq1⟩ (fun hHeld => ?_)
                  refine with_tabW (T := (true, [([], []), ([0], [0]), ([1], [1]), ([2], [2]), ([], []), ([4], [4]), ([3, 5], [3, 5])])) (B := [0, 1, 3, 7, 0, 16, 63]) (by kernel_rfl) (by kernel_rfl) (fun HT_ HW_ => ?_)
                  refine pd_ 0 127 1 HT_ ?_
                  refine pd_ 1 128 3 HT_ ?_
                  refine pd_ 2 129 7 HT_ ?_
                  refine pd_ 4 131 23 HT_ ?_
                  refine tk_ 3 130 31 HT_ HW_ hHeld ?_
                  refine tk_ 5 132 63 HT_ HW_ hHeld ?_
                  refine la_ 6 none 127 HT_ (fun K hK => ?_)
                  (refine valn_ (by rfl) rfl (v := .tuple #[]) (w1 := wd2) (by go_simp) ?_)
                  refine hK.out _ _ ?_
                  clear hK K
                  refine dn_ HT_ ?_
                  have HSj := Aside0.mk (HSi.out.drew.setMap hg2 hz2 hm2)
                  have HKj := Aside0.mk (HKi.out.trans ((GK.below (below_drew (Below.refl _ _))).trans (GK.map hg2)))
                  clear hc4 hq1 hrd2 hg2 hz2 hm2 HSi HKi HPi
                  go_wp2
                  have hj1 := HJ1.out
                  exact ⟨⟨j1, _, by omega, by omega, by go_num, HRN, HSj, HKj, ⟨by rw [HJ1.out]; exact HBJ.out.tail⟩⟩, by simp [intOf]; omega⟩
        · have HRT : Aside0 (R = none) := ⟨HR0.out.trans (HGD.out.trans (if_neg ht))⟩
          clear HR0 HGD
          have htz : (ls.length : Int) + (m : Int) < target := by omega
          go_upto_region 4 with fail
          refine st_ 23 (S := fun w' => w'.cell? ⟨y, 2, none⟩ = some (.slice Aa all.length ca) ∧ w'.cell? ⟨y, 5, none⟩ = some (.slice Al' ls.length cl') ∧ w'.cell? ⟨y, 3, none⟩ = some (.int .i64 target)) (ds := []) ⟨hc2, hc5, hc3⟩ (fun hHeld => ?_)
          refine with_tabW (T := (true, [([], []), ([], []), ([1], [1]), ([2], [2]), ([3], [3]), ([4], [4]), ([0, 5], [0, 5]), ([6], [6]), ([7], [7]), ([8, 7], [7, 8]), ([9, 7], [7, 9]), ([10, 7], [7, 10]), ([11, 7], [7, 11]), ([7], [7]), ([7], [7]), ([13, 14, 7, 7], [7, 13, 14]), ([12, 15, 7], [7, 12, 15]), ([7], [7]), ([17, 7], [7, 17]), ([18, 7], [7, 18]), ([19, 7], [7, 19]), ([16, 20, 7], [7, 16, 20]), ([7, 21], [7, 21])])) (B := [0, 0, 2, 6, 14, 30, 63, 127, 255, 511, 1023, 2047, 4095, 255, 255, 24831, 65535, 255, 131327, 393471, 917759, 2097151, 4194303]) (by kernel_rfl) (by kernel_rfl) (fun HT_ HW_ => ?_)
          refine pd_ 0 18 1 HT_ ?_
          refine pd_ 1 19 3 HT_ ?_
          refine pd_ 2 20 7 HT_ ?_
          refine pd_ 3 21 15 HT_ ?_
          refine tk_ 4 22 31 HT_ HW_ hHeld ?_
          refine pd_ 5 23 63 HT_ ?_
          refine pd_ 6 24 127 HT_ ?_
          refine pd_ 7 25 255 HT_ ?_
          refine pd_ 8 26 511 HT_ ?_
          refine pd_ 9 27 1023 HT_ ?_
          refine pd_ 10 28 2047 HT_ ?_
          refine pd_ 13 31 10239 HT_ ?_
          refine pd_ 14 32 26623 HT_ ?_
          refine pd_ 17 35 157695 HT_ ?_
          refine pd_ 18 36 419839 HT_ ?_
          refine pd_ 19 37 944127 HT_ ?_
          refine tk_ 11 29 946175 HT_ HW_ hHeld ?_
          refine pd_ 12 30 950271 HT_ ?_
          refine tk_ 20 38 1998847 HT_ HW_ hHeld ?_
          refine on_ 15 (some 33) 2031615 HT_ (fun K hK => ?_)
          refine ca_ Try.func178 #[.pointer (some ⟨y, 0, none⟩), .int .i64 j] ?_
          refine HCL.out.mono ?_; rintro e w5 ⟨rfl, hb⟩; have hb0 : Below wr.heap.size wr w5 := (below_drew (Below.refl _ _)).trans hb; have HS5 := Aside0.mk (HS.out.below hb0); have HK5 := Aside0.mk (HK.out.trans (GK.below hb0)); clear hb hb0 HS HK HCL hc2 hc5 hc3
          refine ⟨_, rfl, ?_⟩
          refine hK.out _ _ ⟨HS5.out.c2, HS5.out.c5, HS5.out.c3⟩ (fun hHeld => ?_)
          clear hK K
          refine nm_ ?_
          refine pd_ 16 34 2097151 HT_ ?_
          refine pd_ 21 39 4194303 HT_ ?_
          refine pd_ 22 40 8388607 HT_ ?_
          refine dn_ HT_ ?_
          go_wp2
          go_ret
          rw [HRT.out]
          exact ⟨rfl, _, HS5.out, HK5.out⟩
      · obtain rfl : j = all.length := by omega
        have hltz : ¬ (all.length : Int) < (all.length : Int) := by omega
        have HRT : Aside0 (R = none) := ⟨by rw [HR0.out, List.drop_eq_nil_of_le (Nat.le_refl _)]; rfl⟩
        clear HR0
        go_upto_region 4 with fail
        refine st_ 23 (S := fun w' => w'.cell? ⟨y, 2, none⟩ = some (.slice Aa all.length ca)) (ds := []) hc2 (fun hHeld => ?_)
        refine with_tabW (T := (true, [([], []), ([], []), ([1], [1]), ([2], [2]), ([3], [3]), ([4], [4]), ([0, 5], [0, 5]), ([6], [6]), ([7], [7]), ([8, 7], [7, 8]), ([9, 7], [7, 9]), ([10, 7], [7, 10]), ([11, 7], [7, 11]), ([7], [7]), ([7], [7]), ([13, 14, 7, 7], [7, 13, 14]), ([12, 15, 7], [7, 12, 15]), ([7], [7]), ([17, 7], [7, 17]), ([18, 7], [7, 18]), ([19, 7], [7, 19]), ([16, 20, 7], [7, 16, 20]), ([7, 21], [7, 21])])) (B := [0, 0, 2, 6, 14, 30, 63, 127, 255, 511, 1023, 2047, 4095, 255, 255, 24831, 65535, 255, 131327, 393471, 917759, 2097151, 4194303]) (by kernel_rfl) (by kernel_rfl) (fun HT_ HW_ => ?_)
        refine pd_ 0 18 1 HT_ ?_
        refine pd_ 1 19 3 HT_ ?_
        refine pd_ 2 20 7 HT_ ?_
        refine pd_ 3 21 15 HT_ ?_
        refine tk_ 4 22 31 HT_ HW_ hHeld ?_
        refine pd_ 5 23 63 HT_ ?_
        refine pd_ 6 24 127 HT_ ?_
        refine pd_ 7 25 255 HT_ ?_
        refine pn_ 8 26 511 HT_ ?_
        refine pn_ 9 27 1023 HT_ ?_
        refine pn_ 10 28 2047 HT_ ?_
        refine pn_ 11 29 4095 HT_ ?_
        refine pn_ 12 30 8191 HT_ ?_
        refine pn_ 13 31 16383 HT_ ?_
        refine pn_ 14 32 32767 HT_ ?_
        refine pn_ 15 33 65535 HT_ ?_
        refine pn_ 16 34 131071 HT_ ?_
        refine pn_ 17 35 262143 HT_ ?_
        refine pn_ 18 36 524287 HT_ ?_
        refine pn_ 19 37 1048575 HT_ ?_
        refine pn_ 20 38 2097151 HT_ ?_
        refine pn_ 21 39 4194303 HT_ ?_
        refine pd_ 22 40 8388607 HT_ ?_
        refine dn_ HT_ ?_
        clear hc2 hc5 hc3
        have HS5 := Aside0.mk HS.out.drew
        have HK5 := Aside0.mk (HK.out.trans (GK.below (below_drew (Below.refl _ _))))
        clear HS HK
        go_wp2
        go_ret
        rw [HRT.out]
        exact ⟨rfl, _, HS5.out, HK5.out⟩
end Go.Proofs.Ytomdfjohnmikdaa.Im
namespace Go.Proofs.Ytomdfjohnmikdaa.Im
open Go.RowKit Go.Shelf Kp Ext Cw YtomdfjohnmikdaaW.PrintWords YtomdfjohnmikdaaW.PrintLast YtomdfjohnmikdaaW.PrintMore
def KeepT (w w' : World) : Prop := w.heap.size ≤ w'.heap.size ∧ ∀ (k : Nat) (cells : Array Value) (t : TypeId), t ∈ [73, 38, 28, 89, 123] → w.heap[k]? = some (.cells cells t (0, 0)) → w'.heap[k]? = some (.cells cells t (0, 0))
theorem d0_below {w w1 : World} (h : Drawn0 w w1) : Below w.heap.size w w1 := by
  obtain ⟨nd, rfl⟩ := h
  exact pw_below_drewN (Below.refl _ _) nd
theorem KeepT.trans {w w1 w2 : World} (h : KeepT w w1) (h1 : KeepT w1 w2) : KeepT w w2 := ⟨Nat.le_trans h.1 h1.1, fun k c t ht hk => h1.2 k c t ht (h.2 k c t ht hk)⟩
theorem KeepT.below {w w1 : World} (h : Below w.heap.size w w1) : KeepT w w1 := ⟨h.size, fun k c t _ hk => (h.block k (blk_lt hk)).trans hk⟩
theorem PO.keep {w w1 : World} {base : Nat} {v : Value} {xs : List Pr} (h : PO w base v xs) (hk : KeepT w w1) : PO w1 base v xs :=
  Kd.R_mono (Kd.R_step (Kd.R_bound h) (fun k ho _ => by
    obtain ⟨_, _, _, q, hq, cells, hc⟩ := ho
    have hq' : q = 73 := by simpa [k73, Kd.iso, Kd.pair, Kd.int, Kd.scalar] using hq
    subst hq'
    exact (hk.2 k cells _ (by decide) hc).trans hc.symm)) (fun _ _ => trivial)
end Go.Proofs.Ytomdfjohnmikdaa.Im
namespace Go.Proofs.Ytomdfjohnmikdaa.Im
open Go.RowKit Go.Shelf Kp Cw Ext Pu YtomdfjohnmikdaaW.PrintWords YtomdfjohnmikdaaW.PrintLast YtomdfjohnmikdaaW.PrintMore
theorem run_store_fn {P : Program} {w : World} {a : Addr} {m : Mode} (f : Fn) (fs lb : Array Value) : (store a (.func f fs lb) m).run P w = stored P w a (.func f fs lb) m := run_store P w a _ m rfl
section
variable {W W1 w0 : World} {pd pa pk pg : Nat} {F : Value} {n : Int} {A : Option Addr} {c len : Nat} {va : Value} {all : List Pr}
end
end Go.Proofs.Ytomdfjohnmikdaa.Im
namespace Go.Proofs.Ytomdfjohnmikdaa.QS
open Cw Kp Ext Go.RowKit YtomdfjohnmikdaaW.PrintWords YtomdfjohnmikdaaW.PrintLast YtomdfjohnmikdaaW.PrintMore
attribute [local go_sem] max2_int min2_int max_two min_two max_three min_three max_four min_four   -- for this text's walks alone
def laws_eqPairS.l0 : Nat → List (S73) → List (S73) → Int → Option (Bool)
 | 0, _, _, _ => none
 | k + 1, x0, x1, x5 => if x5 < (x0.length : Int) then (if 0 ≤ x5 then (if x5 < (x1.length : Int) then ((laws_eqPair.f ((rd_T73 x0 x5).f0) ((rd_T73 x0 x5).f1) ((rd_T73 x1 x5).f0) ((rd_T73 x1 x5).f1)).bind fun t133 => (if t133 = true then (laws_eqPairS.l0 k x0 x1 (wrap64 (x5 + 1))) else (some false))) else (none)) else (none)) else (some true)
def laws_eqPairS.f (k : Nat) (l0 : List (S73)) (l1 : List (S73)) : Option (Bool) := if (l0.length : Int) = (l1.length : Int) then (laws_eqPairS.l0 k l0 l1 0) else (some false)
def laws_eqPairS.T6 : Bool × List (List Nat × List Nat) := (true, [([], []), ([], []), ([0, 1], [0, 1]), ([2], [2]), ([], []), ([], []), ([4, 5], [4, 5]), ([6], [6]), ([3, 7], [3, 7]), ([8], [8])])
def laws_eqPairS.B6 : List Nat := [0, 0, 3, 7, 0, 0, 48, 112, 255, 511]
theorem laws_eqPairS.tab6 : rtab .any (opsOf Try.f27 6) = laws_eqPairS.T6 := by kernel_rfl
theorem laws_eqPairS.bits6 : waitsOk laws_eqPairS.T6.2 laws_eqPairS.B6 = true := by kernel_rfl
set_option maxHeartbeats 8000000 in
set_option maxRecDepth 100000 in
theorem laws_eqPairS.calls (k : Nat) (A0 : Option Addr) (c0 : Nat) (l0 : List (S73)) (A1 : Option Addr) (c1 : Nat) (l1 : List (S73)) (r : Bool) (w : World) (hr0 : Kd.C k73 w A0 l0.length l0) (hc0 : l0.length ≤ c0) (hr1 : Kd.C k73 w A1 l1.length l1) (hc1 : l1.length ≤ c1) (h : laws_eqPairS.f k l0 l1 = some r) :
  Calls Try.prog 27 #[.slice A0 l0.length c0, .slice A1 l1.length c1] w fun e w' => e = .returned (.bool r) ∧ Below w.heap.size w w' := by
 have hu73 := Try.underlying73
 have HR0 := Aside0.mk hr0
 have HC0 := Aside0.mk hc0
 clear hr0 hc0
 have HR1 := Aside0.mk hr1
 have HC1 := Aside0.mk hc1
 clear hr1 hc1
 have HB := Aside0.mk (Below.refl w.heap.size w)
 have H : (if (l0.length : Int) = (l1.length : Int) then (laws_eqPairS.l0 k l0 l1 0) else (some false)) = some r := h
 clear h
 by_cases c3 : (l0.length : Int) = (l1.length : Int)
 ·rw [if_pos c3] at H
  have c3b0 : ((l0.length : Int) == (l1.length : Int)) = true := beq_iff_eq.mpr c3
  have c3b1 : ((l0.length : Int) != (l1.length : Int)) = false := bne_eq_false_iff_eq.mpr c3
  have c3b2 : (l0.length == l1.length) = true := by first | simpa using c3 | (simp at c3 ⊢; omega)
  clear c3
  have H' := Aside0.mk H
  clear H
  go_enter Try.func27, Try.ntmps27
  go_wp2
  go_loopg [5] k (fun kq v5 w' => ∃ (x5_1 : Int), v5 = .int .i64 x5_1 ∧ Aside0 (laws_eqPairS.l0 kq l0 l1 x5_1 = some r) ∧ Aside0 (kq ≤ k) ∧ Aside0 (Below w.heap.size w w'))
  case atStart => exact ⟨(0), (by first | rfl | (simp; done) | (simp [*]; done)), H', ⟨Nat.le_refl _⟩, ⟨pH HB⟩⟩
  case round =>
   clear H'
   try clear c1
   try clear c2
   try clear p2
   try clear c3
   try clear c3b0
   try clear c3b1
   try clear c3b2
   obtain ⟨x5_1, rfl, HA, HK1, HB⟩ := hrel
   cases gk with
   | zero => exact absurd HA.out (by simp [laws_eqPairS.l0])
   | succ k1 =>
    have H := HA.out
    clear HA
    simp only [laws_eqPairS.l0] at H
    by_cases c4 : x5_1 < (l0.length : Int)
    ·rw [if_pos c4] at H
     have c4b0 : decide (x5_1 < (l0.length : Int)) = true := decide_eq_true c4
     clear c4
     by_cases c5 : 0 ≤ x5_1
     ·rw [if_pos c5] at H
      have c5b0 : decide (0 ≤ x5_1) = true := decide_eq_true c5
      clear c5
      by_cases c6 : x5_1 < (l1.length : Int)
      ·rw [if_pos c6] at H
       have c6b0 : decide (x5_1 < (l1.length : Int)) = true := decide_eq_true c6
       clear c6
       replace H := Option.bind_eq_some_iff.mp H
       obtain ⟨t133, A70, H⟩ := H
       try dsimp only at H
       have A7 := Aside0.mk A70
       clear A70
       by_cases c8 : t133 = true
       ·subst c8
        have H1 : (laws_eqPairS.l0 k1 l0 l1 (wrap64 (x5_1 + 1))) = some r := by rw [if_pos rfl] at H; exact H
        clear H
        have H := H1
        clear H1
        have H' := Aside0.mk H
        clear H
        try go_wp2
        replace HB := dH HB
        have p131 : 0 ≤ (x5_1 : Int) := of_decide_eq_true (by first | (with_reducible assumption) | assumption)
        have q131 : x5_1 < (l0.length : Int) := of_decide_eq_true (by first | (with_reducible assumption) | assumption)
        obtain ⟨ad131, e131, hx131_0, hx131_1⟩ := at_T73 HR0.out x5_1 p131 q131
        have hw131_1 := hx131_1
        have hw131_0 := hx131_0
        cases e131
        replace hx131_0 := cH HB hx131_0
        replace hx131_1 := cH HB hx131_1
        replace p131 := eq_true p131
        replace q131 := eq_true q131
        have p132 : 0 ≤ (x5_1 : Int) := of_decide_eq_true (by first | (with_reducible assumption) | assumption)
        have q132 : x5_1 < (l1.length : Int) := of_decide_eq_true (by first | (with_reducible assumption) | assumption)
        obtain ⟨ad132, e132, hx132_0, hx132_1⟩ := at_T73 HR1.out x5_1 p132 q132
        have hw132_1 := hx132_1
        have hw132_0 := hx132_0
        cases e132
        replace hx132_0 := cH HB hx132_0
        replace hx132_1 := cH HB hx132_1
        replace p132 := eq_true p132
        replace q132 := eq_true q132
        refine st_ 10 (S := fun w' => w'.cell? (ad131.add ((x5_1).toNat * 2)) = some (.int .i64 ((rd_T73 l0 x5_1).f0)) ∧ w'.cell? ⟨(ad131.add ((x5_1).toNat * 2)).block, (ad131.add ((x5_1).toNat * 2)).off + 1, none⟩ = some (.int .i64 ((rd_T73 l0 x5_1).f1)) ∧ w'.cell? (ad132.add ((x5_1).toNat * 2)) = some (.int .i64 ((rd_T73 l1 x5_1).f0)) ∧ w'.cell? ⟨(ad132.add ((x5_1).toNat * 2)).block, (ad132.add ((x5_1).toNat * 2)).off + 1, none⟩ = some (.int .i64 ((rd_T73 l1 x5_1).f1))) (ds := []) ⟨(cH HB hw131_0 :), (cH HB hw131_1 :), (cH HB hw132_0 :), (cH HB hw132_1 :)⟩ (fun hHeld => ?_); refine with_tabW laws_eqPairS.tab6 laws_eqPairS.bits6 (fun HT_ HW_ => ?_)
        generalize wr.drew = w9 at HB hx131_0 hx131_1 hx132_0 hx132_1 hHeld ⊢
        refine pu_ 0 17 1 HT_ ?_
        refine pu_ 1 18 3 HT_ ?_
        refine pu_ 2 19 7 HT_ ?_
        refine pu_ 4 21 23 HT_ ?_
        refine pu_ 5 22 55 HT_ ?_
        refine pu_ 6 23 119 HT_ ?_
        refine tk_ 3 20 127 HT_ HW_ hHeld ?_
        refine tk_ 7 24 255 HT_ HW_ hHeld ?_
        refine on_ 8 (some 25) 511 HT_ (fun K hK => ?_)
        refine ca_ Try.func69 #[.agg #[.int .i64 ((rd_T73 l0 x5_1).f0), .int .i64 ((rd_T73 l0 x5_1).f1)], .agg #[.int .i64 ((rd_T73 l1 x5_1).f0), .int .i64 ((rd_T73 l1 x5_1).f1)]] ?_
        with_reducible refine (laws_eqPair.calls ((rd_T73 l0 x5_1).f0) ((rd_T73 l0 x5_1).f1) ((rd_T73 l1 x5_1).f0) ((rd_T73 l1 x5_1).f1) true _ A7.out).mono ?_
        rintro e w10 ⟨rfl, hb⟩
        refine ⟨_, rfl, ?_⟩
        replace HB := sH HB hb
        (try clear hb)
        (try clear hb2)
        (try clear hk)
        (try clear hi)
        refine hK.out _ _ ⟨(cH HB hw131_0 :), (cH HB hw131_1 :), (cH HB hw132_0 :), (cH HB hw132_1 :)⟩ (fun hHeld => ?_)
        clear hK K
        refine nm_ ?_
        refine pu_ 9 26 1023 HT_ ?_
        refine dn_ HT_ ?_
        try go_wp2
        go_roundg k1
        case measure => have := HK1.out; omega
        case rel => exact ⟨(wrap64 (x5_1 + 1)), (by first | rfl | (simp; done) | (simp [*]; done)), H', ⟨by have := HK1.out; omega⟩, ⟨pH HB⟩⟩
       ·replace c8 := Bool.eq_false_iff.mpr c8
        subst c8
        have H1 : (some false) = some r := by rw [if_neg (show ¬ (false = true) by decide)] at H; exact H
        clear H
        have H := H1
        clear H1
        obtain rfl := Option.some.inj H
        try go_wp2
        replace HB := dH HB
        have p131 : 0 ≤ (x5_1 : Int) := of_decide_eq_true (by first | (with_reducible assumption) | assumption)
        have q131 : x5_1 < (l0.length : Int) := of_decide_eq_true (by first | (with_reducible assumption) | assumption)
        obtain ⟨ad131, e131, hx131_0, hx131_1⟩ := at_T73 HR0.out x5_1 p131 q131
        have hw131_1 := hx131_1
        have hw131_0 := hx131_0
        cases e131
        replace hx131_0 := cH HB hx131_0
        replace hx131_1 := cH HB hx131_1
        replace p131 := eq_true p131
        replace q131 := eq_true q131
        have p132 : 0 ≤ (x5_1 : Int) := of_decide_eq_true (by first | (with_reducible assumption) | assumption)
        have q132 : x5_1 < (l1.length : Int) := of_decide_eq_true (by first | (with_reducible assumption) | assumption)
        obtain ⟨ad132, e132, hx132_0, hx132_1⟩ := at_T73 HR1.out x5_1 p132 q132
        have hw132_1 := hx132_1
        have hw132_0 := hx132_0
        cases e132
        replace hx132_0 := cH HB hx132_0
        replace hx132_1 := cH HB hx132_1
        replace p132 := eq_true p132
        replace q132 := eq_true q132
        refine st_ 10 (S := fun w' => w'.cell? (ad131.add ((x5_1).toNat * 2)) = some (.int .i64 ((rd_T73 l0 x5_1).f0)) ∧ w'.cell? ⟨(ad131.add ((x5_1).toNat * 2)).block, (ad131.add ((x5_1).toNat * 2)).off + 1, none⟩ = some (.int .i64 ((rd_T73 l0 x5_1).f1)) ∧ w'.cell? (ad132.add ((x5_1).toNat * 2)) = some (.int .i64 ((rd_T73 l1 x5_1).f0)) ∧ w'.cell? ⟨(ad132.add ((x5_1).toNat * 2)).block, (ad132.add ((x5_1).toNat * 2)).off + 1, none⟩ = some (.int .i64 ((rd_T73 l1 x5_1).f1))) (ds := []) ⟨(cH HB hw131_0 :), (cH HB hw131_1 :), (cH HB hw132_0 :), (cH HB hw132_1 :)⟩ (fun hHeld => ?_); refine with_tabW laws_eqPairS.tab6 laws_eqPairS.bits6 (fun HT_ HW_ => ?_)
        generalize wr.drew = w11 at HB hx131_0 hx131_1 hx132_0 hx132_1 hHeld ⊢
        refine pu_ 0 17 1 HT_ ?_
        refine pu_ 1 18 3 HT_ ?_
        refine pu_ 2 19 7 HT_ ?_
        refine pu_ 4 21 23 HT_ ?_
        refine pu_ 5 22 55 HT_ ?_
        refine pu_ 6 23 119 HT_ ?_
        refine tk_ 3 20 127 HT_ HW_ hHeld ?_
        refine tk_ 7 24 255 HT_ HW_ hHeld ?_
        refine on_ 8 (some 25) 511 HT_ (fun K hK => ?_)
        refine ca_ Try.func69 #[.agg #[.int .i64 ((rd_T73 l0 x5_1).f0), .int .i64 ((rd_T73 l0 x5_1).f1)], .agg #[.int .i64 ((rd_T73 l1 x5_1).f0), .int .i64 ((rd_T73 l1 x5_1).f1)]] ?_
        with_reducible refine (laws_eqPair.calls ((rd_T73 l0 x5_1).f0) ((rd_T73 l0 x5_1).f1) ((rd_T73 l1 x5_1).f0) ((rd_T73 l1 x5_1).f1) false _ A7.out).mono ?_
        rintro e w12 ⟨rfl, hb⟩
        refine ⟨_, rfl, ?_⟩
        replace HB := sH HB hb
        (try clear hb)
        (try clear hb2)
        (try clear hk)
        (try clear hi)
        refine hK.out _ _ ⟨(cH HB hw131_0 :), (cH HB hw131_1 :), (cH HB hw132_0 :), (cH HB hw132_1 :)⟩ (fun hHeld => ?_)
        clear hK K
        refine nm_ ?_
        refine pu_ 9 26 1023 HT_ ?_
        refine dn_ HT_ ?_
        try go_wp2
        go_ret
        exact ⟨by first | rfl | (simp [errW_none, errW_some] <;> rfl) | (simp [*, errW_none, errW_some] <;> rfl) | (exfalso; simp_all), pH HB⟩
      ·rw [if_neg c6] at H
       exact absurd H (by simp)
     ·rw [if_neg c5] at H
      exact absurd H (by simp)
    ·rw [if_neg c4] at H
     have c4b0 : decide (x5_1 < (l0.length : Int)) = false := decide_eq_false c4
     clear c4
     obtain rfl := Option.some.inj H
     go_wp2
     go_ret
     exact ⟨by first | rfl | (simp [errW_none, errW_some] <;> rfl) | (simp [*, errW_none, errW_some] <;> rfl) | (exfalso; simp_all), pH HB⟩
 ·rw [if_neg c3] at H
  have c3b0 : ((l0.length : Int) == (l1.length : Int)) = false := beq_eq_false_iff_ne.mpr c3
  have c3b1 : ((l0.length : Int) != (l1.length : Int)) = true := bne_iff_ne.mpr c3
  have c3b2 : (l0.length == l1.length) = false := by first | simpa using c3 | (simp at c3 ⊢; omega)
  obtain rfl := Option.some.inj H
  go_enter Try.func27, Try.ntmps27
  go_wp2
  go_ret
  exact ⟨by first | rfl | (simp [errW_none, errW_some] <;> rfl) | (simp [*, errW_none, errW_some] <;> rfl) | (exfalso; simp_all), pH HB⟩
end Go.Proofs.Ytomdfjohnmikdaa.QS
namespace Go.Proofs.Ytomdfjohnmikdaa.Pu
open Go.RowKit Kp Ext QS YtomdfjohnmikdaaW.PrintWords YtomdfjohnmikdaaW.PrintLast YtomdfjohnmikdaaW.PrintMore
theorem eqPair_loop (l : List Pr) (hl : l.length ≤ 1048576) : ∀ d (i : Nat), l.length - i = d → i ≤ l.length → Ev (fun k => laws_eqPairS.l0 k l l i) true := by
  intro d
  induction d with
  | zero =>
    intro i hd hi
    refine Ev.step (f := fun k => some true) (fun k => ?_) (Ev.now _)
    simp only [laws_eqPairS.l0]; rw [if_neg (by omega)]
  | succ d ih =>
    intro i hd hi
    refine Ev.step (fun k => ?_) (ih (i + 1) (by omega) (by omega))
    simp only [laws_eqPairS.l0]
    rw [if_pos (by omega), if_pos (by omega), if_pos (by omega), show wrap64 ((i : Int) + 1) = ((i + 1 : Nat) : Int) by rw [w64 (by omega) (by omega)]; omega]
    simp [laws_eqPair.f]
theorem ev_eqPairs {l : List Pr} (hl : l.length ≤ 1048576) : Ev (fun k => laws_eqPairS.f k l l) true := by
  unfold laws_eqPairS.f
  simp only [if_true]
  exact eqPair_loop l hl _ 0 rfl (Nat.zero_le _)
theorem markL_len (n : Nat) (a : Int) : (markL n a).length = n := by simp [markL]
theorem ev_markPairs {l : List Pr} {a : Int} (hl : l.length ≤ 1048576) (ha : 0 ≤ a ∧ a ≤ 1073741824) : Ev (fun _ => laws_markPairS.f l a) (a + 2 * (l.length : Int), markL l.length a) := by
  unfold laws_markPairS.f
  rw [if_pos ⟨ha.1, ha.2, by omega⟩]
  exact Ev.now _
theorem held_markL (n : Nat) (a : Int) : heldPr (markL n a) a = a + 2 * (n : Int) := by
  rw [heldPr_yes, markL_len]
  intro i hi
  rw [markL_len] at hi
  simp [okPr, markL, markAt, hi, List.getD_eq_getElem?_getD]
theorem ev_heldPairs {n : Nat} {a : Int} (hl : n ≤ 1048576) (ha : 0 ≤ a ∧ a ≤ 1073741824) : Ev (fun _ => laws_heldPairS.f (markL n a) a) (a + 2 * (n : Int)) := by
  unfold laws_heldPairS.f
  rw [if_pos ⟨ha.1, ha.2, by rw [markL_len]; omega⟩, held_markL]
  exact Ev.now _
end Go.Proofs.Ytomdfjohnmikdaa.Pu
