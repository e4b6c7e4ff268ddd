/- Words and lemmas for FnPairings, part 5: what the row's text comes to. -/
import Derived.Laws.CopyOwn
import Derived.Lib.AppendZerosOnto
import Derived.Lib.Overlaps
import Derived.Test.YtpnmifahfpmplaaGreatZFnPairingsd
set_option linter.unusedVariables false
set_option linter.unusedSimpArgs false
namespace Go.Proofs.YtpnmifahfpmplaaGreat.QS
open Cw Kp Ext Go.RowKit YtpnmifahfpmplaaGreatW.PrintWords YtpnmifahfpmplaaGreatW.PrintLast YtpnmifahfpmplaaGreatW.PrintMore
attribute [local go_sem] max2_int min2_int max_two min_two max_three min_three max_four min_four   -- for this text's walks alone
def spec_l02Code.l0 : Nat → List Int → Int → Int → List Int → Option (Int)
 | 0, _, _, _, _ => none
 | k + 1, x2, x7, x145000, x145001 => if x7 < (x2.length : Int) then (if 0 ≤ x7 then ((spec_l01Has.f k x145000 x145001 (rd x2 x7)).bind fun t148 => (if t148 = true then (spec_l02Code.l0 k x2 (wrap64 (x7 + 1)) x145000 x145001) else (some 2))) else (none)) else (some 0)
def spec_l02Code.f (k : Nat) (a0_0 : Int) (l0_1 : List Int) (l1 : List (S57)) (l2 : List Int) : Option (Int) := (spec_l01Is.f k a0_0 l0_1).bind fun t145 => (if t145 = true then ((spec_l02Is.f k a0_0 l0_1 l1).bind fun t146 => (if t146 = true then (spec_l02Code.l0 k l2 0 a0_0 l0_1) else (some 2))) else (some 1))
set_option maxHeartbeats 8000000 in
set_option maxRecDepth 100000 in
theorem spec_l02Code.calls (k : Nat) (a0_0 : Int) (A0_1 : Option Addr) (c0_1 : Nat) (l0_1 : List Int) (A1 : Option Addr) (c1 : Nat) (l1 : List (S57)) (A2 : Option Addr) (c2 : Nat) (l2 : List Int) (r : Int) (w : World) (hr0_1 : Kd.C (Kd.int .i64) w A0_1 l0_1.length l0_1) (hc0_1 : l0_1.length ≤ c0_1) (hr1 : Kd.C k57 w A1 l1.length l1) (hc1 : l1.length ≤ c1) (hr2 : Kd.C (Kd.int .i64) w A2 l2.length l2) (hc2 : l2.length ≤ c2) (h : spec_l02Code.f k a0_0 l0_1 l1 l2 = some r) :
  Calls Tryz.prog 22 #[.agg #[.int .i64 a0_0, .slice A0_1 l0_1.length c0_1], .slice A1 l1.length c1, .slice A2 l2.length c2] w fun e w' => e = .returned (.int .i64 r) ∧ Below w.heap.size w w' := by
 have hu26 := Tryz.underlying26
 have HR0_1 := Aside0.mk hr0_1
 have HC0_1 := Aside0.mk hc0_1
 clear hr0_1 hc0_1
 have HR1 := Aside0.mk hr1
 have HC1 := Aside0.mk hc1
 clear hr1 hc1
 have HR2 := Aside0.mk hr2
 have HC2 := Aside0.mk hc2
 clear hr2 hc2
 have HB := Aside0.mk (Below.refl w.heap.size w)
 have H : ((spec_l01Is.f k a0_0 l0_1).bind fun t145 => (if t145 = true then ((spec_l02Is.f k a0_0 l0_1 l1).bind fun t146 => (if t146 = true then (spec_l02Code.l0 k l2 0 a0_0 l0_1) else (some 2))) else (some 1))) = some r := h
 clear h
 replace H := Option.bind_eq_some_iff.mp H
 obtain ⟨t145, A40, H⟩ := H
 try dsimp only at H
 have A4 := Aside0.mk A40
 clear A40
 by_cases c5 : t145 = true
 ·subst c5
  have H1 : ((spec_l02Is.f k a0_0 l0_1 l1).bind fun t146 => (if t146 = true then (spec_l02Code.l0 k l2 0 a0_0 l0_1) else (some 2))) = some r := by rw [if_pos rfl] at H; exact H
  clear H
  have H := H1
  clear H1
  replace H := Option.bind_eq_some_iff.mp H
  obtain ⟨t146, A60, H⟩ := H
  try dsimp only at H
  have A6 := Aside0.mk A60
  clear A60
  by_cases c7 : t146 = true
  ·subst c7
   have H1 : (spec_l02Code.l0 k l2 0 a0_0 l0_1) = some r := by rw [if_pos rfl] at H; exact H
   clear H
   have H := H1
   clear H1
   have H' := Aside0.mk H
   clear H
   go_enter Tryz.func22, Tryz.ntmps22
   go_wp2_with (first | ((with_reducible refine gate_dst (N := 3) rfl ?_); refine box_event ?hg (N := 3) ?hd (cs := #[.int .i64 a0_0, .slice A0_1 l0_1.length c0_1]) (t := 26) ?hr ?_; (case hd => rfl); (case hg => rfl); (case hr => first | (go_simp; done) | (go_simp; rfl)); intro gb144 hg w8 hbox hb; have BK144 := Aside0.mk (hbox); have GW144 := gH HB hg; have GE144 := gH HB hg; replace HB := sH HB hb; clear hb hbox hg; have hcz9_0 : w8.cell? ⟨gb144, 0, none⟩ = some (.int .i64 a0_0) := cB BK144 0; have hcz9_1 : w8.cell? ⟨gb144, 1, none⟩ = some (.slice A0_1 l0_1.length c0_1) := cB BK144 1; have hfz9_0 := zB BK144 0; have hfz9_1 := zB BK144 1) | ((with_reducible refine gate_callee (f := 29) rfl ?_); refine cl_ (some 9) Tryz.func29 #[.agg #[.int .i64 a0_0, .slice A0_1 l0_1.length c0_1]] ?_; (with_reducible refine (spec_l01Is.calls k a0_0 _ _ l0_1 true _ ?side1 ?side2 A4.out).mono ?_); (case side1 => exact pC ((Kd.C_below HR0_1.out HB.out))); (case side2 => exact HC0_1.out); rintro e w10 ⟨rfl, hb⟩; refine ⟨_, rfl, ?_⟩; replace BK144 := sB BK144 hb; replace HB := sH HB hb; (try clear hb); (try clear hi); have hcz11_0 : w10.cell? ⟨gb144, 0, none⟩ = some (.int .i64 a0_0) := cB BK144 0; have hcz11_1 : w10.cell? ⟨gb144, 1, none⟩ = some (.slice A0_1 l0_1.length c0_1) := cB BK144 1; have hfz11_0 := zB BK144 0; have hfz11_1 := zB BK144 1) | ((with_reducible refine gate_callee (f := 30) rfl ?_); refine cl_ (some 13) Tryz.func30 #[.agg #[.int .i64 a0_0, .slice A0_1 l0_1.length c0_1], .slice A1 l1.length c1] ?_; (with_reducible refine (spec_l02Is.calls k a0_0 _ _ l0_1 _ _ l1 true _ ?side1 ?side2 ?side3 ?side4 A6.out).mono ?_); (case side1 => exact pC ((Kd.C_below HR0_1.out HB.out))); (case side2 => exact HC0_1.out); (case side3 => exact pC ((Kd.C_below HR1.out HB.out))); (case side4 => exact HC1.out); rintro e w12 ⟨rfl, hb⟩; refine ⟨_, rfl, ?_⟩; replace BK144 := sB BK144 hb; replace HB := sH HB hb; (try clear hb); (try clear hi)))
   go_loopg [7] k (fun kq v7 w' => ∃ (x7_1 : Int), v7 = .int .i64 x7_1 ∧ Aside0 (spec_l02Code.l0 kq l2 x7_1 a0_0 l0_1 = some r) ∧ Aside0 (kq ≤ k) ∧ Aside0 (w'.heap[gb144]? = some (.cells #[.int .i64 a0_0, (.slice A0_1 l0_1.length c0_1)] 26 (0, 0))) ∧ Aside0 (Below w.heap.size w w'))
   case atStart => exact ⟨(0), (by first | rfl | (simp; done) | (simp [*]; done)), H', ⟨Nat.le_refl _⟩, ⟨pB BK144⟩, ⟨pH HB⟩⟩
   case round =>
    clear H'
    try clear c1
    try clear c2
    try clear p2
    try clear c3
    try clear c5
    try clear c7
    try clear hcz11_0
    try clear hcz11_1
    try clear hcz9_0
    try clear hcz9_1
    try clear hfz11_0
    try clear hfz11_1
    try clear hfz9_0
    try clear hfz9_1
    obtain ⟨x7_1, rfl, HA, HK1, BK144, HB⟩ := hrel
    cases gk with
    | zero => exact absurd HA.out (by simp [spec_l02Code.l0])
    | succ k1 =>
     have H := HA.out
     clear HA
     simp only [spec_l02Code.l0] at H
     by_cases c13 : x7_1 < (l2.length : Int)
     ·rw [if_pos c13] at H
      have c13b0 : decide (x7_1 < (l2.length : Int)) = true := decide_eq_true c13
      clear c13
      by_cases c14 : 0 ≤ x7_1
      ·rw [if_pos c14] at H
       have c14b0 : decide (0 ≤ x7_1) = true := decide_eq_true c14
       clear c14
       replace H := Option.bind_eq_some_iff.mp H
       obtain ⟨t148, A150, H⟩ := H
       try dsimp only at H
       have A15 := Aside0.mk A150
       clear A150
       by_cases c16 : t148 = true
       ·subst c16
        have H1 : (spec_l02Code.l0 k1 l2 (wrap64 (x7_1 + 1)) a0_0 l0_1) = some r := by rw [if_pos rfl] at H; exact H
        clear H
        have H := H1
        clear H1
        have H' := Aside0.mk H
        clear H
        try go_wp2
        replace BK144 := dB BK144
        replace HB := dH HB
        have p147 : 0 ≤ (x7_1 : Int) := of_decide_eq_true (by first | (with_reducible assumption) | assumption)
        have q147 : x7_1 < (l2.length : Int) := of_decide_eq_true (by first | (with_reducible assumption) | assumption)
        obtain ⟨ad147, e147, hx147_0⟩ := Kd.at_int HR2.out x7_1 p147 q147
        have hw147_0 := hx147_0
        cases e147
        replace hx147_0 := cH HB hx147_0
        replace p147 := eq_true p147
        replace q147 := eq_true q147
        refine st_ 7 (S := fun w' => w'.cell? ⟨gb144, 0, none⟩ = some (.int .i64 a0_0) ∧ w'.cell? ⟨gb144, 1, none⟩ = some (.slice A0_1 l0_1.length c0_1) ∧ w'.cell? (ad147.add (x7_1).toNat) = some (.int .i64 (rd l2 x7_1))) (ds := []) ⟨cB BK144 0, cB BK144 1, (cH HB hw147_0 :)⟩ (fun hHeld => ?_)
        generalize wr.drew = w17 at BK144 HB hx147_0 hHeld ⊢
        refine pure_ (i := 1) (N := some 22) (v := ?_) (a' := ?_) (mB 7 2) rfl rfl (by kernel_rfl) (fun _ _ _ h => h) (Or.inl ⟨by rfl, ?_⟩) ?_ ?_
        rotate_left
        ·intro w'
         go_simp
         with_reducible rfl
        rotate_left
        ·simp only [Act.put, List.setIfInBounds_toArray, List.set_cons_zero, List.set_cons_succ, i64_w, i32_w]
         rfl
        refine pure_ (i := 2) (N := some 23) (v := ?_) (a' := ?_) (mB 7 6) rfl rfl (by kernel_rfl) (fun _ _ _ h => h) (Or.inl ⟨by rfl, ?_⟩) ?_ ?_
        rotate_left
        ·intro w'
         go_simp
         with_reducible rfl
        rotate_left
        ·simp only [Act.put, List.setIfInBounds_toArray, List.set_cons_zero, List.set_cons_succ, i64_w, i32_w]
         rfl
        refine pure_ (i := 3) (N := some 24) (v := ?_) (a' := ?_) (mB 7 14) rfl rfl (by kernel_rfl) (fun _ _ _ h => h) (Or.inl ⟨by rfl, ?_⟩) ?_ ?_
        rotate_left
        ·intro w'
         go_simp
         with_reducible rfl
        rotate_left
        ·simp only [Act.put, List.setIfInBounds_toArray, List.set_cons_zero, List.set_cons_succ, i64_w, i32_w]
         rfl
        refine take_ (i := 0) (N := some 21) (v := ?_) (a' := ?_) (mB 7 15) rfl rfl (by kernel_rfl) (fun _ _ _ h => h) (Or.inl ⟨by rfl, ?_⟩) hHeld ?_ ?_
        rotate_left
        ·rintro w' ⟨s0, s1, s2⟩
         go_simp
         with_reducible rfl
        rotate_left
        ·simp only [Act.put, List.setIfInBounds_toArray, List.set_cons_zero, List.set_cons_succ, i64_w, i32_w]
         rfl
        refine take_ (i := 4) (N := some 25) (v := ?_) (a' := ?_) (mB 7 31) rfl rfl (by kernel_rfl) (fun _ _ _ h => h) (Or.inl ⟨by rfl, ?_⟩) hHeld ?_ ?_
        rotate_left
        ·rintro w' ⟨s0, s1, s2⟩
         go_simp
         with_reducible rfl
        rotate_left
        ·simp only [Act.put, List.setIfInBounds_toArray, List.set_cons_zero, List.set_cons_succ, i64_w, i32_w]
         rfl
        refine one_ (i := 5) (N := some 26) (mB 7 63) rfl rfl (by kernel_rfl) (by decide) (fun K hK => ?_)
        refine ca_ Tryz.func44 #[.agg #[.int .i64 a0_0, .slice A0_1 l0_1.length c0_1], .int .i64 (rd l2 x7_1)] ?_
        with_reducible refine (spec_l01Has.calls k1 a0_0 _ _ l0_1 (rd l2 x7_1) true _ ?side1 ?side2 A15.out).mono ?_
        (case side1 => exact pC ((Kd.C_below HR0_1.out HB.out)))
        (case side2 => exact HC0_1.out)
        rintro e w18 ⟨rfl, hb⟩
        refine ⟨_, rfl, ?_⟩
        replace BK144 := sB BK144 hb
        replace HB := sH HB hb
        (try clear hb)
        (try clear hb2)
        (try clear hk)
        (try clear hi)
        refine hK.out _ _ ⟨cB BK144 0, cB BK144 1, (cH HB hw147_0 :)⟩ (fun hHeld => ?_)
        clear hK K
        refine nm_ ?_
        refine pure_ (i := 6) (N := some 27) (v := ?_) (a' := ?_) (mB 7 127) rfl rfl (by kernel_rfl) (fun _ _ _ h => h) (Or.inl ⟨by rfl, ?_⟩) ?_ ?_
        rotate_left
        ·intro w'
         go_simp
         with_reducible rfl
        rotate_left
        ·simp only [Act.put, List.setIfInBounds_toArray, List.set_cons_zero, List.set_cons_succ, i64_w, i32_w]
         rfl
        refine done_ (by kernel_rfl) ?_
        try go_wp2
        go_roundg k1
        case measure => have := HK1.out; omega
        case rel => exact ⟨(wrap64 (x7_1 + 1)), (by first | rfl | (simp; done) | (simp [*]; done)), H', ⟨by have := HK1.out; omega⟩, ⟨pB BK144⟩, ⟨pH HB⟩⟩
       ·replace c16 := Bool.eq_false_iff.mpr c16
        subst c16
        have H1 : (some 2) = some r := by rw [if_neg (show ¬ (false = true) by decide)] at H; exact H
        clear H
        have H := H1
        clear H1
        obtain rfl := Option.some.inj H
        try go_wp2
        replace BK144 := dB BK144
        replace HB := dH HB
        have p147 : 0 ≤ (x7_1 : Int) := of_decide_eq_true (by first | (with_reducible assumption) | assumption)
        have q147 : x7_1 < (l2.length : Int) := of_decide_eq_true (by first | (with_reducible assumption) | assumption)
        obtain ⟨ad147, e147, hx147_0⟩ := Kd.at_int HR2.out x7_1 p147 q147
        have hw147_0 := hx147_0
        cases e147
        replace hx147_0 := cH HB hx147_0
        replace p147 := eq_true p147
        replace q147 := eq_true q147
        refine st_ 7 (S := fun w' => w'.cell? ⟨gb144, 0, none⟩ = some (.int .i64 a0_0) ∧ w'.cell? ⟨gb144, 1, none⟩ = some (.slice A0_1 l0_1.length c0_1) ∧ w'.cell? (ad147.add (x7_1).toNat) = some (.int .i64 (rd l2 x7_1))) (ds := []) ⟨cB BK144 0, cB BK144 1, (cH HB hw147_0 :)⟩ (fun hHeld => ?_)
        generalize wr.drew = w19 at BK144 HB hx147_0 hHeld ⊢
        refine pure_ (i := 1) (N := some 22) (v := ?_) (a' := ?_) (mB 7 2) rfl rfl (by kernel_rfl) (fun _ _ _ h => h) (Or.inl ⟨by rfl, ?_⟩) ?_ ?_
        rotate_left
        ·intro w'
         go_simp
         with_reducible rfl
        rotate_left
        ·simp only [Act.put, List.setIfInBounds_toArray, List.set_cons_zero, List.set_cons_succ, i64_w, i32_w]
         rfl
        refine pure_ (i := 2) (N := some 23) (v := ?_) (a' := ?_) (mB 7 6) rfl rfl (by kernel_rfl) (fun _ _ _ h => h) (Or.inl ⟨by rfl, ?_⟩) ?_ ?_
        rotate_left
        ·intro w'
         go_simp
         with_reducible rfl
        rotate_left
        ·simp only [Act.put, List.setIfInBounds_toArray, List.set_cons_zero, List.set_cons_succ, i64_w, i32_w]
         rfl
        refine pure_ (i := 3) (N := some 24) (v := ?_) (a' := ?_) (mB 7 14) rfl rfl (by kernel_rfl) (fun _ _ _ h => h) (Or.inl ⟨by rfl, ?_⟩) ?_ ?_
        rotate_left
        ·intro w'
         go_simp
         with_reducible rfl
        rotate_left
        ·simp only [Act.put, List.setIfInBounds_toArray, List.set_cons_zero, List.set_cons_succ, i64_w, i32_w]
         rfl
        refine take_ (i := 0) (N := some 21) (v := ?_) (a' := ?_) (mB 7 15) rfl rfl (by kernel_rfl) (fun _ _ _ h => h) (Or.inl ⟨by rfl, ?_⟩) hHeld ?_ ?_
        rotate_left
        ·rintro w' ⟨s0, s1, s2⟩
         go_simp
         with_reducible rfl
        rotate_left
        ·simp only [Act.put, List.setIfInBounds_toArray, List.set_cons_zero, List.set_cons_succ, i64_w, i32_w]
         rfl
        refine take_ (i := 4) (N := some 25) (v := ?_) (a' := ?_) (mB 7 31) rfl rfl (by kernel_rfl) (fun _ _ _ h => h) (Or.inl ⟨by rfl, ?_⟩) hHeld ?_ ?_
        rotate_left
        ·rintro w' ⟨s0, s1, s2⟩
         go_simp
         with_reducible rfl
        rotate_left
        ·simp only [Act.put, List.setIfInBounds_toArray, List.set_cons_zero, List.set_cons_succ, i64_w, i32_w]
         rfl
        refine one_ (i := 5) (N := some 26) (mB 7 63) rfl rfl (by kernel_rfl) (by decide) (fun K hK => ?_)
        refine ca_ Tryz.func44 #[.agg #[.int .i64 a0_0, .slice A0_1 l0_1.length c0_1], .int .i64 (rd l2 x7_1)] ?_
        with_reducible refine (spec_l01Has.calls k1 a0_0 _ _ l0_1 (rd l2 x7_1) false _ ?side1 ?side2 A15.out).mono ?_
        (case side1 => exact pC ((Kd.C_below HR0_1.out HB.out)))
        (case side2 => exact HC0_1.out)
        rintro e w20 ⟨rfl, hb⟩
        refine ⟨_, rfl, ?_⟩
        replace BK144 := sB BK144 hb
        replace HB := sH HB hb
        (try clear hb)
        (try clear hb2)
        (try clear hk)
        (try clear hi)
        refine hK.out _ _ ⟨cB BK144 0, cB BK144 1, (cH HB hw147_0 :)⟩ (fun hHeld => ?_)
        clear hK K
        refine nm_ ?_
        refine pure_ (i := 6) (N := some 27) (v := ?_) (a' := ?_) (mB 7 127) rfl rfl (by kernel_rfl) (fun _ _ _ h => h) (Or.inl ⟨by rfl, ?_⟩) ?_ ?_
        rotate_left
        ·intro w'
         go_simp
         with_reducible rfl
        rotate_left
        ·simp only [Act.put, List.setIfInBounds_toArray, List.set_cons_zero, List.set_cons_succ, i64_w, i32_w]
         rfl
        refine done_ (by kernel_rfl) ?_
        try go_wp2
        go_ret
        exact ⟨by first | rfl | (simp [errW_none, errW_some] <;> rfl) | (simp [*, errW_none, errW_some] <;> rfl) | (exfalso; simp_all), pH HB⟩
      ·rw [if_neg c14] at H
       exact absurd H (by simp)
     ·rw [if_neg c13] at H
      have c13b0 : decide (x7_1 < (l2.length : Int)) = false := decide_eq_false c13
      clear c13
      obtain rfl := Option.some.inj H
      go_wp2
      go_ret
      exact ⟨by first | rfl | (simp [errW_none, errW_some] <;> rfl) | (simp [*, errW_none, errW_some] <;> rfl) | (exfalso; simp_all), pH HB⟩
  ·replace c7 := Bool.eq_false_iff.mpr c7
   subst c7
   have H1 : (some 2) = some r := by rw [if_neg (show ¬ (false = true) by decide)] at H; exact H
   clear H
   have H := H1
   clear H1
   obtain rfl := Option.some.inj H
   go_enter Tryz.func22, Tryz.ntmps22
   go_wp2_with (first | ((with_reducible refine gate_dst (N := 3) rfl ?_); refine box_event ?hg (N := 3) ?hd (cs := #[.int .i64 a0_0, .slice A0_1 l0_1.length c0_1]) (t := 26) ?hr ?_; (case hd => rfl); (case hg => rfl); (case hr => first | (go_simp; done) | (go_simp; rfl)); intro gb144 hg w21 hbox hb; have BK144 := Aside0.mk (hbox); have GW144 := gH HB hg; have GE144 := gH HB hg; replace HB := sH HB hb; clear hb hbox hg; have hcz22_0 : w21.cell? ⟨gb144, 0, none⟩ = some (.int .i64 a0_0) := cB BK144 0; have hcz22_1 : w21.cell? ⟨gb144, 1, none⟩ = some (.slice A0_1 l0_1.length c0_1) := cB BK144 1; have hfz22_0 := zB BK144 0; have hfz22_1 := zB BK144 1) | ((with_reducible refine gate_callee (f := 29) rfl ?_); refine cl_ (some 9) Tryz.func29 #[.agg #[.int .i64 a0_0, .slice A0_1 l0_1.length c0_1]] ?_; (with_reducible refine (spec_l01Is.calls k a0_0 _ _ l0_1 true _ ?side1 ?side2 A4.out).mono ?_); (case side1 => exact pC ((Kd.C_below HR0_1.out HB.out))); (case side2 => exact HC0_1.out); rintro e w23 ⟨rfl, hb⟩; refine ⟨_, rfl, ?_⟩; replace BK144 := sB BK144 hb; replace HB := sH HB hb; (try clear hb); (try clear hi); have hcz24_0 : w23.cell? ⟨gb144, 0, none⟩ = some (.int .i64 a0_0) := cB BK144 0; have hcz24_1 : w23.cell? ⟨gb144, 1, none⟩ = some (.slice A0_1 l0_1.length c0_1) := cB BK144 1; have hfz24_0 := zB BK144 0; have hfz24_1 := zB BK144 1) | ((with_reducible refine gate_callee (f := 30) rfl ?_); refine cl_ (some 13) Tryz.func30 #[.agg #[.int .i64 a0_0, .slice A0_1 l0_1.length c0_1], .slice A1 l1.length c1] ?_; (with_reducible refine (spec_l02Is.calls k a0_0 _ _ l0_1 _ _ l1 false _ ?side1 ?side2 ?side3 ?side4 A6.out).mono ?_); (case side1 => exact pC ((Kd.C_below HR0_1.out HB.out))); (case side2 => exact HC0_1.out); (case side3 => exact pC ((Kd.C_below HR1.out HB.out))); (case side4 => exact HC1.out); rintro e w25 ⟨rfl, hb⟩; refine ⟨_, rfl, ?_⟩; replace BK144 := sB BK144 hb; replace HB := sH HB hb; (try clear hb); (try clear hi)))
   go_ret
   exact ⟨by first | rfl | (simp [errW_none, errW_some] <;> rfl) | (simp [*, errW_none, errW_some] <;> rfl) | (exfalso; simp_all), pH HB⟩
 ·replace c5 := Bool.eq_false_iff.mpr c5
  subst c5
  have H1 : (some 1) = some r := by rw [if_neg (show ¬ (false = true) by decide)] at H; exact H
  clear H
  have H := H1
  clear H1
  obtain rfl := Option.some.inj H
  go_enter Tryz.func22, Tryz.ntmps22
  go_wp2_with (first | ((with_reducible refine gate_dst (N := 3) rfl ?_); refine box_event ?hg (N := 3) ?hd (cs := #[.int .i64 a0_0, .slice A0_1 l0_1.length c0_1]) (t := 26) ?hr ?_; (case hd => rfl); (case hg => rfl); (case hr => first | (go_simp; done) | (go_simp; rfl)); intro gb144 hg w26 hbox hb; have BK144 := Aside0.mk (hbox); have GW144 := gH HB hg; have GE144 := gH HB hg; replace HB := sH HB hb; clear hb hbox hg; have hcz27_0 : w26.cell? ⟨gb144, 0, none⟩ = some (.int .i64 a0_0) := cB BK144 0; have hcz27_1 : w26.cell? ⟨gb144, 1, none⟩ = some (.slice A0_1 l0_1.length c0_1) := cB BK144 1; have hfz27_0 := zB BK144 0; have hfz27_1 := zB BK144 1) | ((with_reducible refine gate_callee (f := 29) rfl ?_); refine cl_ (some 9) Tryz.func29 #[.agg #[.int .i64 a0_0, .slice A0_1 l0_1.length c0_1]] ?_; (with_reducible refine (spec_l01Is.calls k a0_0 _ _ l0_1 false _ ?side1 ?side2 A4.out).mono ?_); (case side1 => exact pC ((Kd.C_below HR0_1.out HB.out))); (case side2 => exact HC0_1.out); rintro e w28 ⟨rfl, hb⟩; refine ⟨_, rfl, ?_⟩; replace BK144 := sB BK144 hb; replace HB := sH HB hb; (try clear hb); (try clear hi)))
  go_ret
  exact ⟨by first | rfl | (simp [errW_none, errW_some] <;> rfl) | (simp [*, errW_none, errW_some] <;> rfl) | (exfalso; simp_all), pH HB⟩
mutual
def spec_l02Critical.l0 : Nat → List (S57) → List Int → Int → Int → List Int → Option (List Int)
 | 0, _, _, _, _, _ => none
 | k + 1, x1, x5, x6, x150000, x150001 => if x6 < (x150001.length : Int) then (spec_l02Critical.l1 k x1 x5 x6 true 0 x150000 x150001) else (some x5)
def spec_l02Critical.l1 : Nat → List (S57) → List Int → Int → Bool → Int → Int → List Int → Option (List Int)
 | 0, _, _, _, _, _, _, _ => none
 | k + 1, x1, x5, x6, x7, x8, x150000, x150001 => if x8 < (x1.length : Int) then (if x7 = true then (if 0 ≤ x8 then (if 0 ≤ x6 then (if x6 < (x150001.length : Int) then (if ((rd_T57 x1 x8).f0) = (rd x150001 x6) then (spec_l02Critical.l1 k x1 x5 x6 false (wrap64 (x8 + 1)) x150000 x150001) else (spec_l02Critical.l1 k x1 x5 x6 (((rd_T57 x1 x8).f1) != (rd x150001 x6)) (wrap64 (x8 + 1)) x150000 x150001)) else (none)) else (none)) else (none)) else (spec_l02Critical.l1 k x1 x5 x6 false (wrap64 (x8 + 1)) x150000 x150001)) else (if x7 = true then (if 0 ≤ x6 then (if x6 < (x150001.length : Int) then (if x5.length < 17592186044416 then (spec_l02Critical.l0 k x1 (x5 ++ [rd x150001 x6]) (wrap64 (x6 + 1)) x150000 x150001) else (none)) else (none)) else (none)) else (spec_l02Critical.l0 k x1 x5 (wrap64 (x6 + 1)) x150000 x150001))
end
def spec_l02Critical.f (k : Nat) (a0_0 : Int) (l0_1 : List Int) (l1 : List (S57)) : Option (List Int) := spec_l02Critical.l0 k l1 (([] : List Int)) 0 a0_0 l0_1
set_option maxHeartbeats 8000000 in
set_option maxRecDepth 100000 in
theorem spec_l02Critical.calls (k : Nat) (a0_0 : Int) (A0_1 : Option Addr) (c0_1 : Nat) (l0_1 : List Int) (A1 : Option Addr) (c1 : Nat) (l1 : List (S57)) (r : List Int) (w : World) (hr0_1 : Kd.C (Kd.int .i64) w A0_1 l0_1.length l0_1) (hc0_1 : l0_1.length ≤ c0_1) (hr1 : Kd.C k57 w A1 l1.length l1) (hc1 : l1.length ≤ c1) (h : spec_l02Critical.f k a0_0 l0_1 l1 = some r) :
  Calls Tryz.prog 23 #[.agg #[.int .i64 a0_0, .slice A0_1 l0_1.length c0_1], .slice A1 l1.length c1] w fun e w' => ∃ v0_ : Value, e = .returned (v0_) ∧ Kd.R (Kd.int .i64) 2 w' w.heap.size (fun _ => True) v0_ r ∧ Below w.heap.size w w' := by
 have hu26 := Tryz.underlying26
 have HR0_1 := Aside0.mk hr0_1
 have HC0_1 := Aside0.mk hc0_1
 clear hr0_1 hc0_1
 have HR1 := Aside0.mk hr1
 have HC1 := Aside0.mk hc1
 clear hr1 hc1
 have HB := Aside0.mk (Below.refl w.heap.size w)
 have H : (spec_l02Critical.l0 k l1 (([] : List Int)) 0 a0_0 l0_1) = some r := h
 clear h
 obtain ⟨y150, hy150⟩ : ∃ y_ : List Int, y_ = (([] : List Int)) := ⟨_, rfl⟩
 replace H : (spec_l02Critical.l0 k l1 y150 0 a0_0 l0_1) = some r := by first | (rw [hy150]; with_reducible exact H) | (have H2_ := (Option.bind_some _ _).symm.trans H; rw [hy150]; with_reducible exact H2_) | (have H2_ := (Option.bind_some _ _).symm.trans H; with_reducible exact H2_) | with_reducible exact H | (rw [hy150]; exact H) | exact H
 have Ny150 := Aside0.mk hy150
 clear hy150
 have H' := Aside0.mk H
 clear H
 go_enter Tryz.func23, Tryz.ntmps23
 go_wp2_with (first | ((with_reducible refine gate_dst (N := 2) rfl ?_); refine box_event ?hg (N := 2) ?hd (cs := #[.int .i64 a0_0, .slice A0_1 l0_1.length c0_1]) (t := 26) ?hr ?_; (case hd => rfl); (case hg => rfl); (case hr => first | (go_simp; done) | (go_simp; rfl)); intro gb149 hg w3 hbox hb; have BK149 := Aside0.mk (hbox); have GW149 := gH HB hg; have GE149 := gH HB hg; replace HB := sH HB hb; clear hb hbox hg) | ((with_reducible refine gate_dst (N := 9) rfl ?_); refine Kd.R_lit (Kd.int .i64) _ 2 ?hg (N := 9) ?hd (xs := ([] : List Int)) (inner := []) (ok := fun _ => True) (okp := fun _ => True) ?hr ?hp (fun _ hk => hk) trivial (Below.refl _ _) (Nat.le_refl _) (by simp) ?_; (case hd => rfl); (case hg => rfl); (case hr => first | (go_simp; done) | (go_simp; rfl)); (case hp => exact (Reps.none _ _)); intro v151 w4 ho5 hb hg_ hnew_; clear hg_ hnew_; (first | rw [← Ny150.out] at ho5 | (simp only [Int.reduceToNat] at ho5; rw [← Ny150.out] at ho5)); have HO152 := Aside0.mk (Kd.R_lower ho5 (below_size (pH HB))); replace BK149 := sB BK149 hb; replace HB := sH HB hb; clear hb ho5))
 repeat (go_quiet (first | ((with_reducible refine gate_dst (N := 2) rfl ?_); refine box_event ?hg (N := 2) ?hd (cs := #[.int .i64 a0_0, .slice A0_1 l0_1.length c0_1]) (t := 26) ?hr ?_; (case hd => rfl); (case hg => rfl); (case hr => first | (go_simp; done) | (go_simp; rfl)); intro gb149 hg w3 hbox hb; have BK149 := Aside0.mk (hbox); have GW149 := gH HB hg; have GE149 := gH HB hg; replace HB := sH HB hb; clear hb hbox hg) | ((with_reducible refine gate_dst (N := 9) rfl ?_); refine Kd.R_lit (Kd.int .i64) _ 2 ?hg (N := 9) ?hd (xs := ([] : List Int)) (inner := []) (ok := fun _ => True) (okp := fun _ => True) ?hr ?hp (fun _ hk => hk) trivial (Below.refl _ _) (Nat.le_refl _) (by simp) ?_; (case hd => rfl); (case hg => rfl); (case hr => first | (go_simp; done) | (go_simp; rfl)); (case hp => exact (Reps.none _ _)); intro v151 w4 ho5 hb hg_ hnew_; clear hg_ hnew_; (first | rw [← Ny150.out] at ho5 | (simp only [Int.reduceToNat] at ho5; rw [← Ny150.out] at ho5)); have HO152 := Aside0.mk (Kd.R_lower ho5 (below_size (pH HB))); replace BK149 := sB BK149 hb; replace HB := sH HB hb; clear hb ho5)); try go_wp2_with (first | ((with_reducible refine gate_dst (N := 2) rfl ?_); refine box_event ?hg (N := 2) ?hd (cs := #[.int .i64 a0_0, .slice A0_1 l0_1.length c0_1]) (t := 26) ?hr ?_; (case hd => rfl); (case hg => rfl); (case hr => first | (go_simp; done) | (go_simp; rfl)); intro gb149 hg w3 hbox hb; have BK149 := Aside0.mk (hbox); have GW149 := gH HB hg; have GE149 := gH HB hg; replace HB := sH HB hb; clear hb hbox hg) | ((with_reducible refine gate_dst (N := 9) rfl ?_); refine Kd.R_lit (Kd.int .i64) _ 2 ?hg (N := 9) ?hd (xs := ([] : List Int)) (inner := []) (ok := fun _ => True) (okp := fun _ => True) ?hr ?hp (fun _ hk => hk) trivial (Below.refl _ _) (Nat.le_refl _) (by simp) ?_; (case hd => rfl); (case hg => rfl); (case hr => first | (go_simp; done) | (go_simp; rfl)); (case hp => exact (Reps.none _ _)); intro v151 w4 ho5 hb hg_ hnew_; clear hg_ hnew_; (first | rw [← Ny150.out] at ho5 | (simp only [Int.reduceToNat] at ho5; rw [← Ny150.out] at ho5)); have HO152 := Aside0.mk (Kd.R_lower ho5 (below_size (pH HB))); replace BK149 := sB BK149 hb; replace HB := sH HB hb; clear hb ho5)))
 go_loopg [5, 6] k (fun kq v5 v6 w' => ∃ (x5_1 : List Int) (x6_1 : Int), v6 = .int .i64 x6_1 ∧ Aside0 (spec_l02Critical.l0 kq l1 x5_1 x6_1 a0_0 l0_1 = some r) ∧ Aside0 (kq ≤ k) ∧ Aside0 (Kd.R (Kd.int .i64) 2 w' w.heap.size (fun _ => True) v5 x5_1) ∧ Aside0 (w'.heap[gb149]? = some (.cells #[.int .i64 a0_0, (.slice A0_1 l0_1.length c0_1)] 26 (0, 0))) ∧ Aside0 (Below w.heap.size w w'))
 case atStart => exact ⟨(y150), (0), (by first | rfl | (simp; done) | (simp [*]; done)), H', ⟨Nat.le_refl _⟩, ⟨by (with_reducible repeat (first | apply Kd.R_alloc | apply Kd.R_drewN | apply Kd.R_drew)); exact HO152.out⟩, ⟨pB BK149⟩, ⟨pH HB⟩⟩
 case round =>
  clear H'
  try clear c1
  try clear c2
  try clear p2
  obtain ⟨x5_1, x6_1, rfl, HA, HK1, HO_5, BK149, HB⟩ := hrel
  cases gk with
  | zero => exact absurd HA.out (by simp [spec_l02Critical.l0])
  | succ k1 =>
   have H := HA.out
   clear HA
   simp only [spec_l02Critical.l0] at H
   by_cases c6 : x6_1 < (l0_1.length : Int)
   ·rw [if_pos c6] at H
    have c6b0 : decide (x6_1 < (l0_1.length : Int)) = true := decide_eq_true c6
    clear c6
    have H' := Aside0.mk H
    clear H
    have hcz7_0 : wr.cell? ⟨gb149, 0, none⟩ = some (.int .i64 a0_0) := cB BK149 0
    have hcz7_1 : wr.cell? ⟨gb149, 1, none⟩ = some (.slice A0_1 l0_1.length c0_1) := cB BK149 1
    have hfz7_0 := zB BK149 0
    have hfz7_1 := zB BK149 1
    go_wp2
    repeat (go_quiet (fail); try go_wp2)
    go_loopg [7, 8] k1 (fun kq v7 v8 w' => ∃ (x7_2 : Bool) (x8_2 : Int), v7 = .bool x7_2 ∧ v8 = .int .i64 x8_2 ∧ Aside0 (spec_l02Critical.l1 kq l1 x5_1 x6_1 x7_2 x8_2 a0_0 l0_1 = some r) ∧ Aside0 (kq ≤ k1) ∧ Aside0 (Kd.R (Kd.int .i64) 2 w' w.heap.size (fun _ => True) u5 x5_1) ∧ Aside0 (w'.heap[gb149]? = some (.cells #[.int .i64 a0_0, (.slice A0_1 l0_1.length c0_1)] 26 (0, 0))) ∧ Aside0 (Below w.heap.size w w'))
    case atStart => exact ⟨(true), (0), (by first | rfl | (simp; done) | (simp [*]; done)), (by first | rfl | (simp; done) | (simp [*]; done)), H', ⟨Nat.le_refl _⟩, ⟨by (with_reducible repeat (first | apply Kd.R_alloc | apply Kd.R_drewN | apply Kd.R_drew)); exact HO_5.out⟩, ⟨pB BK149⟩, ⟨pH HB⟩⟩
    case round =>
     clear H'
     try clear c1
     try clear c2
     try clear p2
     try clear c6
     try clear c6b0
     try clear hcz7_0
     try clear hcz7_1
     try clear hfz7_0
     try clear hfz7_1
     try clear p2
     obtain ⟨x7_2, x8_2, rfl, rfl, HA, HK2, HO_5, BK149, HB⟩ := hrel
     cases gk with
     | zero => exact absurd HA.out (by simp [spec_l02Critical.l1])
     | succ k2 =>
      have H := HA.out
      clear HA
      simp only [spec_l02Critical.l1] at H
      by_cases c8 : x8_2 < (l1.length : Int)
      ·rw [if_pos c8] at H
       have c8b0 : decide (x8_2 < (l1.length : Int)) = true := decide_eq_true c8
       clear c8
       by_cases c9 : x7_2 = true
       ·subst c9
        have H1 : (if 0 ≤ x8_2 then (if 0 ≤ x6_1 then (if x6_1 < (l0_1.length : Int) then (if ((rd_T57 l1 x8_2).f0) = (rd l0_1 x6_1) then (spec_l02Critical.l1 k2 l1 x5_1 x6_1 false (wrap64 (x8_2 + 1)) a0_0 l0_1) else (spec_l02Critical.l1 k2 l1 x5_1 x6_1 (((rd_T57 l1 x8_2).f1) != (rd l0_1 x6_1)) (wrap64 (x8_2 + 1)) a0_0 l0_1)) else (none)) else (none)) else (none)) = some r := by rw [if_pos rfl] at H; exact H
        clear H
        have H := H1
        clear H1
        by_cases c10 : 0 ≤ x8_2
        ·rw [if_pos c10] at H
         have c10b0 : decide (0 ≤ x8_2) = true := decide_eq_true c10
         clear c10
         by_cases c11 : 0 ≤ x6_1
         ·rw [if_pos c11] at H
          have c11b0 : decide (0 ≤ x6_1) = true := decide_eq_true c11
          clear c11
          by_cases c12 : x6_1 < (l0_1.length : Int)
          ·rw [if_pos c12] at H
           have c12b0 : decide (x6_1 < (l0_1.length : Int)) = true := decide_eq_true c12
           clear c12
           by_cases c13 : ((rd_T57 l1 x8_2).f0) = (rd l0_1 x6_1)
           ·rw [if_pos c13] at H
            have c13b0 : (((rd_T57 l1 x8_2).f0) == (rd l0_1 x6_1)) = true := beq_iff_eq.mpr c13
            have c13b1 : (((rd_T57 l1 x8_2).f0) != (rd l0_1 x6_1)) = false := bne_eq_false_iff_eq.mpr c13
            clear c13
            have H' := Aside0.mk H
            clear H
            have p153 : 0 ≤ (x8_2 : Int) := of_decide_eq_true (by first | (with_reducible assumption) | assumption)
            have q153 : x8_2 < (l1.length : Int) := of_decide_eq_true (by first | (with_reducible assumption) | assumption)
            obtain ⟨ad153, e153, hx153_0, hx153_1⟩ := at_T57 HR1.out x8_2 p153 q153
            cases e153
            replace hx153_0 := cH HB hx153_0
            replace hx153_1 := cH HB hx153_1
            replace p153 := eq_true p153
            replace q153 := eq_true q153
            have hcz14_0 : wr.cell? ⟨gb149, 0, none⟩ = some (.int .i64 a0_0) := cB BK149 0
            have hcz14_1 : wr.cell? ⟨gb149, 1, none⟩ = some (.slice A0_1 l0_1.length c0_1) := cB BK149 1
            have hfz14_0 := zB BK149 0
            have hfz14_1 := zB BK149 1
            have p154 : 0 ≤ (x6_1 : Int) := of_decide_eq_true (by first | (with_reducible assumption) | assumption)
            have q154 : x6_1 < (l0_1.length : Int) := of_decide_eq_true (by first | (with_reducible assumption) | assumption)
            obtain ⟨ad154, e154, hx154_0⟩ := Kd.at_int HR0_1.out x6_1 p154 q154
            cases e154
            replace hx154_0 := cH HB hx154_0
            replace p154 := eq_true p154
            replace q154 := eq_true q154
            go_wp2
            repeat (go_quiet (fail); try go_wp2)
            go_roundg k2
            case measure => have := HK1.out; have := HK2.out; omega
            case rel => exact ⟨(false), (wrap64 (x8_2 + 1)), (by first | rfl | (simp; done) | (simp [*]; done)), (by first | rfl | (simp; done) | (simp [*]; done)), H', ⟨by have := HK1.out; have := HK2.out; omega⟩, ⟨by (with_reducible repeat (first | apply Kd.R_alloc | apply Kd.R_drewN | apply Kd.R_drew)); exact HO_5.out⟩, ⟨pB BK149⟩, ⟨pH HB⟩⟩
           ·rw [if_neg c13] at H
            have c13b0 : (((rd_T57 l1 x8_2).f0) == (rd l0_1 x6_1)) = false := beq_eq_false_iff_ne.mpr c13
            have c13b1 : (((rd_T57 l1 x8_2).f0) != (rd l0_1 x6_1)) = true := bne_iff_ne.mpr c13
            have H' := Aside0.mk H
            clear H
            have p153 : 0 ≤ (x8_2 : Int) := of_decide_eq_true (by first | (with_reducible assumption) | assumption)
            have q153 : x8_2 < (l1.length : Int) := of_decide_eq_true (by first | (with_reducible assumption) | assumption)
            obtain ⟨ad153, e153, hx153_0, hx153_1⟩ := at_T57 HR1.out x8_2 p153 q153
            cases e153
            replace hx153_0 := cH HB hx153_0
            replace hx153_1 := cH HB hx153_1
            replace p153 := eq_true p153
            replace q153 := eq_true q153
            have hcz15_0 : wr.cell? ⟨gb149, 0, none⟩ = some (.int .i64 a0_0) := cB BK149 0
            have hcz15_1 : wr.cell? ⟨gb149, 1, none⟩ = some (.slice A0_1 l0_1.length c0_1) := cB BK149 1
            have hfz15_0 := zB BK149 0
            have hfz15_1 := zB BK149 1
            have p154 : 0 ≤ (x6_1 : Int) := of_decide_eq_true (by first | (with_reducible assumption) | assumption)
            have q154 : x6_1 < (l0_1.length : Int) := of_decide_eq_true (by first | (with_reducible assumption) | assumption)
            obtain ⟨ad154, e154, hx154_0⟩ := Kd.at_int HR0_1.out x6_1 p154 q154
            cases e154
            replace hx154_0 := cH HB hx154_0
            replace p154 := eq_true p154
            replace q154 := eq_true q154
            have p155 : 0 ≤ (x8_2 : Int) := of_decide_eq_true (by first | (with_reducible assumption) | assumption)
            have q155 : x8_2 < (l1.length : Int) := of_decide_eq_true (by first | (with_reducible assumption) | assumption)
            obtain ⟨ad155, e155, hx155_0, hx155_1⟩ := at_T57 HR1.out x8_2 p155 q155
            obtain rfl : ad153 = ad155 := (by injection e155)
            replace hx155_0 := cH HB hx155_0
            replace hx155_1 := cH HB hx155_1
            replace p155 := eq_true p155
            replace q155 := eq_true q155
            have p156 : 0 ≤ (x6_1 : Int) := of_decide_eq_true (by first | (with_reducible assumption) | assumption)
            have q156 : x6_1 < (l0_1.length : Int) := of_decide_eq_true (by first | (with_reducible assumption) | assumption)
            obtain ⟨ad156, e156, hx156_0⟩ := Kd.at_int HR0_1.out x6_1 p156 q156
            obtain rfl : ad154 = ad156 := (by injection e156)
            replace hx156_0 := cH HB hx156_0
            replace p156 := eq_true p156
            replace q156 := eq_true q156
            go_wp2
            repeat (go_quiet (fail); try go_wp2)
            go_roundg k2
            case measure => have := HK1.out; have := HK2.out; omega
            case rel => exact ⟨((((rd_T57 l1 x8_2).f1) != (rd l0_1 x6_1))), (wrap64 (x8_2 + 1)), (by first | rfl | (simp; done) | (simp [*]; done)), (by first | rfl | (simp; done) | (simp [*]; done)), H', ⟨by have := HK1.out; have := HK2.out; omega⟩, ⟨by (with_reducible repeat (first | apply Kd.R_alloc | apply Kd.R_drewN | apply Kd.R_drew)); exact HO_5.out⟩, ⟨pB BK149⟩, ⟨pH HB⟩⟩
          ·rw [if_neg c12] at H
           exact absurd H (by simp)
         ·rw [if_neg c11] at H
          exact absurd H (by simp)
        ·rw [if_neg c10] at H
         exact absurd H (by simp)
       ·replace c9 := Bool.eq_false_iff.mpr c9
        subst c9
        have H1 : (spec_l02Critical.l1 k2 l1 x5_1 x6_1 false (wrap64 (x8_2 + 1)) a0_0 l0_1) = some r := by rw [if_neg (show ¬ (false = true) by decide)] at H; exact H
        clear H
        have H := H1
        clear H1
        have H' := Aside0.mk H
        clear H
        go_wp2
        repeat (go_quiet (fail); try go_wp2)
        go_roundg k2
        case measure => have := HK1.out; have := HK2.out; omega
        case rel => exact ⟨(false), (wrap64 (x8_2 + 1)), (by first | rfl | (simp; done) | (simp [*]; done)), (by first | rfl | (simp; done) | (simp [*]; done)), H', ⟨by have := HK1.out; have := HK2.out; omega⟩, ⟨by (with_reducible repeat (first | apply Kd.R_alloc | apply Kd.R_drewN | apply Kd.R_drew)); exact HO_5.out⟩, ⟨pB BK149⟩, ⟨pH HB⟩⟩
      ·rw [if_neg c8] at H
       have c8b0 : decide (x8_2 < (l1.length : Int)) = false := decide_eq_false c8
       clear c8
       by_cases c16 : x7_2 = true
       ·subst c16
        have H1 : (if 0 ≤ x6_1 then (if x6_1 < (l0_1.length : Int) then (if x5_1.length < 17592186044416 then (spec_l02Critical.l0 k2 l1 (x5_1 ++ [rd l0_1 x6_1]) (wrap64 (x6_1 + 1)) a0_0 l0_1) else (none)) else (none)) else (none)) = some r := by rw [if_pos rfl] at H; exact H
        clear H
        have H := H1
        clear H1
        by_cases c17 : 0 ≤ x6_1
        ·rw [if_pos c17] at H
         have c17b0 : decide (0 ≤ x6_1) = true := decide_eq_true c17
         clear c17
         by_cases c18 : x6_1 < (l0_1.length : Int)
         ·rw [if_pos c18] at H
          have c18b0 : decide (x6_1 < (l0_1.length : Int)) = true := decide_eq_true c18
          clear c18
          by_cases c19 : x5_1.length < 17592186044416
          ·rw [if_pos c19] at H
           have LMc19 := Aside0.mk c19
           clear c19
           obtain ⟨y158, hy158⟩ : ∃ y_ : List Int, y_ = (x5_1 ++ [rd l0_1 x6_1]) := ⟨_, rfl⟩
           replace H : (spec_l02Critical.l0 k2 l1 y158 (wrap64 (x6_1 + 1)) a0_0 l0_1) = some r := by first | (rw [hy158]; with_reducible exact H) | (have H2_ := (Option.bind_some _ _).symm.trans H; rw [hy158]; with_reducible exact H2_) | (have H2_ := (Option.bind_some _ _).symm.trans H; with_reducible exact H2_) | with_reducible exact H | (rw [hy158]; exact H) | exact H
           have Ny158 := Aside0.mk hy158
           clear hy158
           have H' := Aside0.mk H
           clear H
           have hcz20_0 : wr.cell? ⟨gb149, 0, none⟩ = some (.int .i64 a0_0) := cB BK149 0
           have hcz20_1 : wr.cell? ⟨gb149, 1, none⟩ = some (.slice A0_1 l0_1.length c0_1) := cB BK149 1
           have hfz20_0 := zB BK149 0
           have hfz20_1 := zB BK149 1
           have p157 : 0 ≤ (x6_1 : Int) := of_decide_eq_true (by first | (with_reducible assumption) | assumption)
           have q157 : x6_1 < (l0_1.length : Int) := of_decide_eq_true (by first | (with_reducible assumption) | assumption)
           obtain ⟨ad157, e157, hx157_0⟩ := Kd.at_int HR0_1.out x6_1 p157 q157
           cases e157
           replace hx157_0 := cH HB hx157_0
           replace p157 := eq_true p157
           replace q157 := eq_true q157
           go_wp2_with (first | ((with_reducible refine gate_builtin (b := .append) (xs := #[.tmp 51, .tmp 57]) rfl ?_); at_builtin; refine Kd.R_append (Kd.int .i64) (w0 := w) w.heap.size rfl (.tmp 51) (.tmp 57) 24 2 (.int .i64 0) 8 rfl Tryz.underlying24 info2 rfl (by decide) (by omega) u5 x5_1 (rd l0_1 x6_1) [.int .i64 (rd l0_1 x6_1)] (fun _ => True) (fun _ => False) rfl rfl ?aP (fun _ hk => hk.elim) ?aF ?aO ?aB ?aS ?aL ?_; (case aP => exact rfl); (case aB => exact (pH HB)); (case aF => exact (fun _ _ => trivial)); (case aO => exact (pR HO_5)); (case aS => exact (below_size (pH HB))); (case aL => have := LMc19.out; omega); intro v159 w21 ho hb hg hat; rw [← Ny158.out] at ho; replace BK149 := Aside0.mk (blk_grown (g := gb149) (o := .cells #[.int .i64 a0_0, .slice (some ad157) l0_1.length c0_1] 26 (0, 0)) (pB BK149) hg (Kd.R_ne HO_5.out BK149.out (by decide))); replace HB := Aside0.mk (hb); have HO160 := Aside0.mk (ho); clear HO_5; clear ho hb hg hat))
           repeat (go_quiet (first | ((with_reducible refine gate_builtin (b := .append) (xs := #[.tmp 51, .tmp 57]) rfl ?_); at_builtin; refine Kd.R_append (Kd.int .i64) (w0 := w) w.heap.size rfl (.tmp 51) (.tmp 57) 24 2 (.int .i64 0) 8 rfl Tryz.underlying24 info2 rfl (by decide) (by omega) u5 x5_1 (rd l0_1 x6_1) [.int .i64 (rd l0_1 x6_1)] (fun _ => True) (fun _ => False) rfl rfl ?aP (fun _ hk => hk.elim) ?aF ?aO ?aB ?aS ?aL ?_; (case aP => exact rfl); (case aB => exact (pH HB)); (case aF => exact (fun _ _ => trivial)); (case aO => exact (pR HO_5)); (case aS => exact (below_size (pH HB))); (case aL => have := LMc19.out; omega); intro v159 w21 ho hb hg hat; rw [← Ny158.out] at ho; replace BK149 := Aside0.mk (blk_grown (g := gb149) (o := .cells #[.int .i64 a0_0, .slice (some ad157) l0_1.length c0_1] 26 (0, 0)) (pB BK149) hg (Kd.R_ne HO_5.out BK149.out (by decide))); replace HB := Aside0.mk (hb); have HO160 := Aside0.mk (ho); clear HO_5; clear ho hb hg hat)); try go_wp2_with (first | ((with_reducible refine gate_builtin (b := .append) (xs := #[.tmp 51, .tmp 57]) rfl ?_); at_builtin; refine Kd.R_append (Kd.int .i64) (w0 := w) w.heap.size rfl (.tmp 51) (.tmp 57) 24 2 (.int .i64 0) 8 rfl Tryz.underlying24 info2 rfl (by decide) (by omega) u5 x5_1 (rd l0_1 x6_1) [.int .i64 (rd l0_1 x6_1)] (fun _ => True) (fun _ => False) rfl rfl ?aP (fun _ hk => hk.elim) ?aF ?aO ?aB ?aS ?aL ?_; (case aP => exact rfl); (case aB => exact (pH HB)); (case aF => exact (fun _ _ => trivial)); (case aO => exact (pR HO_5)); (case aS => exact (below_size (pH HB))); (case aL => have := LMc19.out; omega); intro v159 w21 ho hb hg hat; rw [← Ny158.out] at ho; replace BK149 := Aside0.mk (blk_grown (g := gb149) (o := .cells #[.int .i64 a0_0, .slice (some ad157) l0_1.length c0_1] 26 (0, 0)) (pB BK149) hg (Kd.R_ne HO_5.out BK149.out (by decide))); replace HB := Aside0.mk (hb); have HO160 := Aside0.mk (ho); clear HO_5; clear ho hb hg hat)))
           go_roundg k2
           case measure => have := HK1.out; have := HK2.out; omega
           case rel => exact ⟨(y158), (wrap64 (x6_1 + 1)), (by first | rfl | (simp; done) | (simp [*]; done)), H', ⟨by have := HK1.out; have := HK2.out; omega⟩, ⟨by (with_reducible repeat (first | apply Kd.R_alloc | apply Kd.R_drewN | apply Kd.R_drew)); exact HO160.out⟩, ⟨pB BK149⟩, ⟨pH HB⟩⟩
          ·rw [if_neg c19] at H
           exact absurd H (by simp)
         ·rw [if_neg c18] at H
          exact absurd H (by simp)
        ·rw [if_neg c17] at H
         exact absurd H (by simp)
       ·replace c16 := Bool.eq_false_iff.mpr c16
        subst c16
        have H1 : (spec_l02Critical.l0 k2 l1 x5_1 (wrap64 (x6_1 + 1)) a0_0 l0_1) = some r := by rw [if_neg (show ¬ (false = true) by decide)] at H; exact H
        clear H
        have H := H1
        clear H1
        have H' := Aside0.mk H
        clear H
        go_wp2
        repeat (go_quiet (fail); try go_wp2)
        go_roundg k2
        case measure => have := HK1.out; have := HK2.out; omega
        case rel => exact ⟨(x5_1), (wrap64 (x6_1 + 1)), (by first | rfl | (simp; done) | (simp [*]; done)), H', ⟨by have := HK1.out; have := HK2.out; omega⟩, ⟨by (with_reducible repeat (first | apply Kd.R_alloc | apply Kd.R_drewN | apply Kd.R_drew)); exact HO_5.out⟩, ⟨pB BK149⟩, ⟨pH HB⟩⟩
   ·rw [if_neg c6] at H
    have c6b0 : decide (x6_1 < (l0_1.length : Int)) = false := decide_eq_false c6
    clear c6
    obtain rfl := Option.some.inj H
    have hcz22_0 : wr.cell? ⟨gb149, 0, none⟩ = some (.int .i64 a0_0) := cB BK149 0
    have hcz22_1 : wr.cell? ⟨gb149, 1, none⟩ = some (.slice A0_1 l0_1.length c0_1) := cB BK149 1
    have hfz22_0 := zB BK149 0
    have hfz22_1 := zB BK149 1
    go_wp2
    repeat (go_quiet (fail); try go_wp2)
    go_ret
    exact ⟨_, by first | rfl | (simp [errW_none, errW_some] <;> rfl) | (simp [*, errW_none, errW_some] <;> rfl) | (exfalso; simp_all), by (with_reducible repeat (first | apply Kd.R_alloc | apply Kd.R_drewN | apply Kd.R_drew)); exact HO_5.out, pH HB⟩
end Go.Proofs.YtpnmifahfpmplaaGreat.QS
namespace Go.Proofs.YtpnmifahfpmplaaGreat.Pu
open Go.RowKit Kp Ext QS Im YtpnmifahfpmplaaGreatW.PrintWords YtpnmifahfpmplaaGreatW.PrintLast YtpnmifahfpmplaaGreatW.PrintMore
theorem inAnd_all : ((List.range 64).all fun f => (List.range 64).all fun g => (Go.bits .andNot .i64 (f : Int) (g : Int) == 0) == decide (Go.bits .and .i64 (f : Int) (g : Int) = (f : Int))) = true := by decide +kernel
theorem inAnd {f g : Int} (h0 : 0 ≤ f) (h1 : f ≤ 63) (g0 : 0 ≤ g) (g1 : g ≤ 63) : (Go.bits .andNot .i64 f g == 0) = decide (Go.bits .and .i64 f g = f) := by
  obtain ⟨m, rfl⟩ := Int.eq_ofNat_of_zero_le h0
  obtain ⟨k, rfl⟩ := Int.eq_ofNat_of_zero_le g0
  exact eq_of_beq (List.all_eq_true.1 (List.all_eq_true.1 inAnd_all m (List.mem_range.2 (by omega))) k (List.mem_range.2 (by omega)))
theorem ev_pair {n : Int} {xs : List Int} (hi : isC n xs = true) (p : Pr) : Ev (fun k => spec_l02Pair.f k n xs p.f0 p.f1) (pairB xs p) := by
  have hs := isC_small hi
  have r := isC_63 hi
  have hm : xs.length ≤ maxLen := by unfold maxLen; omega
  unfold spec_l02Pair.f pairB
  refine Ev.bind (ev_has hm n p.f0) ?_
  by_cases h0 : p.f0 ∈ xs
  · simp only [h0, decide_true, if_true, Bool.true_and]
    refine Ev.bind (ev_has hm n p.f1) ?_
    by_cases h1 : p.f1 ∈ xs
    · have a0 := r _ h0
      have a1 := r _ h1
      simp only [h1, decide_true, if_true, Bool.true_and]
      rw [inAnd (by omega) (by omega) (by omega) (by omega)]
      by_cases h2 : Go.bits .and .i64 p.f0 p.f1 = p.f0
      · simp only [h2, if_true, decide_true, Bool.true_and]
        refine Ev.bind (ev_ones (by omega) (by omega)) ?_
        refine Ev.bind (ev_ones (by omega) (by omega)) ?_
        have hv := verts_len p.f0
        rw [w64 (x := onesZ p.f0 + 1) (by unfold onesZ; omega) (by unfold onesZ; omega)]
        exact Ev.now _
      · simp only [h2, if_false, decide_false, Bool.false_and]
        exact Ev.now _
    · simp only [h1, decide_false, Bool.false_eq_true, if_false, Bool.false_and]
      exact Ev.now _
  · simp only [h0, decide_false, Bool.false_eq_true, if_false, Bool.false_and]
    exact Ev.now _
theorem less_f (p q : Pr) : spec_l02Less.f p.f0 p.f1 q.f0 q.f1 = some (decide (cmpP p q < 0)) := by
  unfold spec_l02Less.f cmpP cmpI
  by_cases h1 : p.f0 < q.f0
  · rw [if_pos h1]; simp [h1]
  · rw [if_neg h1]
    by_cases h2 : p.f0 = q.f0
    · rw [if_pos h2]
      by_cases h3 : p.f1 < q.f1
      · simp [h2, h3]
      · by_cases h4 : p.f1 > q.f1
        · simp [h2, h3, h4]
        · simp [h2, h3, h4]
    · rw [if_neg h2]
      have : p.f0 > q.f0 := by omega
      simp [h1, this]
theorem is2_l1 (n : Int) (xs : List Int) (l : List Pr) (hl : l.length ≤ 1048576) {i : Nat} (hi : i < l.length) (R : Bool) (hR : Ev (fun k => spec_l02Is.l0 k l ((i + 1 : Nat) : Int) n xs) R) :
    ∀ d (j : Nat), i - j = d → j ≤ i → Ev (fun k => spec_l02Is.l1 k l i j n xs) (!(((l.take i).drop j).any fun q => hasF l[i].f0 q || hasF l[i].f1 q) && R) := by
  intro d
  induction d with
  | zero =>
    intro j hd hj
    rw [List.drop_eq_nil_of_le (by rw [List.length_take]; omega)]
    refine Ev.step (f := fun k => spec_l02Is.l0 k l ((i + 1 : Nat) : Int) n xs) (fun k => ?_) (by simpa using hR)
    simp only [spec_l02Is.l1]; rw [if_neg (by omega), succ64 (by omega)]
  | succ d ih =>
    intro j hd hj
    have hj' : j < l.length := by omega
    have hjt : j < (l.take i).length := by rw [List.length_take]; omega
    rw [List.drop_eq_getElem_cons hjt, List.any_cons, List.getElem_take]
    cases hq : (hasF l[i].f0 l[j] || hasF l[i].f1 l[j]) with
    | true =>
      refine Ev.step (f := fun k => some false) (fun k => ?_) (by simpa using Ev.now false)
      simp only [spec_l02Is.l1]
      rw [if_pos (by omega), if_pos (by omega), if_pos (by omega), if_pos (by omega), if_pos (by omega), rdP_at hi, rdP_at hj']
      simp only [hasF, Bool.or_eq_true, beq_iff_eq] at hq
      by_cases h1 : l[i].f0 = l[j].f0
      · rw [if_pos h1]
      · rw [if_neg h1]
        by_cases h2 : l[i].f0 = l[j].f1
        · rw [if_pos h2]
        · rw [if_neg h2]
          by_cases h3 : l[i].f1 = l[j].f0
          · rw [if_pos h3]
          · rw [if_neg h3, if_pos (by simpa [h1, h2, h3] using hq)]
    | false =>
      refine Ev.step (f := fun k => spec_l02Is.l1 k l i ((j + 1 : Nat) : Int) n xs) (fun k => ?_) (by have := ih (j + 1) (by omega) (by omega); simpa using this)
      simp only [spec_l02Is.l1]
      rw [if_pos (by omega), if_pos (by omega), if_pos (by omega), if_pos (by omega), if_pos (by omega), rdP_at hi, rdP_at hj', succ64 (by omega)]
      simp only [hasF, Bool.or_eq_false_iff, beq_eq_false_iff_ne] at hq
      rw [if_neg hq.1.1, if_neg hq.1.2, if_neg hq.2.1, if_neg hq.2.2]
theorem any_or {α : Type} (p q : α → Bool) (l : List α) : (l.any fun x => p x || q x) = (l.any p || l.any q) := by
  induction l with
  | nil => rfl
  | cons a l ih => simp only [List.any_cons, ih]; cases p a <;> cases q a <;> cases l.any p <;> rfl
theorem is2_loop {n : Int} {xs : List Int} (hi : isC n xs = true) {l : List Pr} (hl : l.length ≤ 1048576) : ∀ d (i : Nat), l.length - i = d → i ≤ l.length → Ev (fun k => spec_l02Is.l0 k l i n xs) ((List.range' i d).all (okPairAt xs l)) := by
  intro d
  induction d with
  | zero =>
    intro i hd hi'
    refine Ev.step (f := fun k => some true) (fun k => ?_) (Ev.now _)
    simp only [spec_l02Is.l0]; rw [if_neg (by omega)]
  | succ d ih =>
    intro i hd hi'
    have hlt : i < l.length := by omega
    have hR := ih (i + 1) (by omega) (by omega)
    have hgd : l.getD i z57 = l[i] := by rw [List.getD_eq_getElem?_getD, List.getElem?_eq_getElem hlt]; rfl
    rw [List.range'_succ, List.all_cons]
    have hj0 := is2_l1 n xs l hl hlt _ hR _ 0 rfl (Nat.zero_le _)
    rw [List.drop_zero, any_or] at hj0
    have hno : Ev (fun k => spec_l02Is.j1 k l i true n xs) false := Ev.step (f := fun k => some false) (fun k => by simp only [spec_l02Is.j1, if_true]) (Ev.now _)
    have hyes : Ev (fun k => spec_l02Is.j1 k l i false n xs) (!((l.take i).any (hasF l[i].f0) || (l.take i).any (hasF l[i].f1)) && (List.range' (i + 1) d).all (okPairAt xs l)) := Ev.step (f := fun k => spec_l02Is.l1 k l i ((0 : Nat) : Int) n xs) (fun k => by simp only [spec_l02Is.j1, Bool.false_eq_true, if_false]; rfl) hj0
    have hrd : rd_T57 l (i : Int) = l[i] := rdP_at hlt
    refine Ev.step (f := fun k => (spec_l02Pair.f k n xs l[i].f0 l[i].f1).bind fun t => (if t = true then (if (i : Int) > 0 then (if 0 ≤ (wrap64 ((i : Int) - 1)) then (if (wrap64 ((i : Int) - 1)) < (l.length : Int) then ((spec_l02Less.f ((rd_T57 l (wrap64 ((i : Int) - 1))).f0) ((rd_T57 l (wrap64 ((i : Int) - 1))).f1) l[i].f0 l[i].f1).bind fun t577 => (spec_l02Is.j1 k l i (!t577) n xs)) else (none)) else (none)) else (spec_l02Is.j1 k l i false n xs)) else (spec_l02Is.j1 k l i true n xs))) (fun k => ?_) (Ev.bind (ev_pair hi l[i]) ?_)
    · simp only [spec_l02Is.l0]
      rw [if_pos (by omega), if_pos (by omega), hrd]
    · clear hj0 hR ih
      generalize (List.range' (i + 1) d).all (okPairAt xs l) = G at hyes ⊢
      unfold okPairAt
      rw [hgd]
      cases hp : pairB xs l[i] with
      | false => simp only [Bool.false_eq_true, if_false, Bool.false_and]; exact hno
      | true =>
        simp only [if_true, Bool.true_and]
        rcases i with _ | m
        · simp only [show ¬ (((0 : Nat) : Int) > 0) by omega, if_false]
          simpa using hyes
        · have hm : m < l.length := by omega
          have hw : wrap64 (((m + 1 : Nat) : Int) - 1) = (m : Int) := by rw [w64 (by omega) (by omega)]; omega
          have hgm : l.getD m z57 = l[m] := by rw [List.getD_eq_getElem?_getD, List.getElem?_eq_getElem hm]; rfl
          simp only [show (((m + 1 : Nat) : Int) > 0) by omega, if_true, hw, show (0 : Int) ≤ (m : Int) by omega, show (m : Int) < (l.length : Int) by omega, rdP_at hm, less_f, Option.bind_some, Nat.add_sub_cancel, hgm]
          by_cases hc : cmpP l[m] l[m + 1] < 0
          · simp only [hc, decide_true, Bool.not_true]
            simpa [Bool.and_assoc] using hyes
          · simp only [hc, decide_false, Bool.not_false]
            simpa using hno
theorem ev_is2 {n : Int} {xs : List Int} (hi : isC n xs = true) {l : List Pr} (hl : l.length ≤ 1048576) : Ev (fun k => spec_l02Is.f k n xs l) (pairingB xs l) := by
  unfold spec_l02Is.f pairingB
  rw [List.range_eq_range']
  exact is2_loop hi hl _ 0 rfl (Nat.zero_le _)
theorem cmpP_mem {n : Int} {xs : List Int} {l : List Pr} (h : pairingB xs l = true) : ∀ q ∈ l, q.f0 ∈ xs ∧ q.f1 ∈ xs := by
  intro q hq
  obtain ⟨i, hi, rfl⟩ := List.mem_iff_getElem.1 hq
  have h1 := List.all_eq_true.1 h i (List.mem_range.2 hi)
  unfold okPairAt at h1
  rw [show l.getD i z57 = l[i] by rw [List.getD_eq_getElem?_getD, List.getElem?_eq_getElem hi]; rfl] at h1
  have h2 := (Bool.and_eq_true _ _ ▸ h1).1
  unfold pairB at h2
  simp only [Bool.and_eq_true, decide_eq_true_eq] at h2
  exact ⟨h2.1, h2.2.1⟩
theorem facesP_of {n : Int} {xs : List Int} (hi : isC n xs = true) {l : List Pr} (h : pairingB xs l = true) : FacesP l := fun q hq => by
  have h1 := cmpP_mem (n := n) h q hq
  have r := isC_63 hi
  exact ⟨r _ h1.1, r _ h1.2⟩
def pcode (n : Int) (xs : List Int) (l : List Pr) : Int := if isC n xs then (if pairingB xs l then 0 else 2) else 1
theorem ev_pcode (n : Int) {xs : List Int} (hx : xs.length ≤ 1048576) {l : List Pr} (hl : l.length ≤ 1048576) : Ev (fun k => spec_l02Code.f k n xs l []) (pcode n xs l) := by
  unfold spec_l02Code.f pcode
  refine Ev.bind (ev_is n (by unfold maxLen; omega)) ?_
  cases hi : isC n xs with
  | false => exact Ev.now _
  | true =>
    simp only [if_true]
    refine Ev.bind (ev_is2 hi hl) ?_
    cases pairingB xs l with
    | false => exact Ev.now _
    | true =>
      simp only [if_true]
      exact Ev.step (f := fun _ => some 0) (fun k => by simp [spec_l02Code.l0]) (Ev.now _)
def critP (l : List Pr) (f : Int) : Bool := !l.any fun p => p.f0 == f || p.f1 == f
def critL (xs : List Int) (l : List Pr) : List Int := xs.filter (critP l)
theorem crit_l1 (n : Int) (xs : List Int) (l : List Pr) (hl : l.length ≤ 1048576) (hx : xs.length ≤ 1048576) {i : Nat} (hi : i < xs.length) (acc : List Int) (ha : acc.length ≤ i) (R : List Int)
    (h1 : Ev (fun k => spec_l02Critical.l0 k l (acc ++ [xs[i]]) ((i + 1 : Nat) : Int) n xs) R ∧ critP l xs[i] = true ∨ Ev (fun k => spec_l02Critical.l0 k l acc ((i + 1 : Nat) : Int) n xs) R ∧ critP l xs[i] = false) :
    ∀ d (j : Nat) (b : Bool), l.length - j = d → j ≤ l.length → (b && critP (l.drop j) xs[i]) = critP l xs[i] → Ev (fun k => spec_l02Critical.l1 k l acc i b j n xs) R := by
  intro d
  induction d with
  | zero =>
    intro j b hd hj hb
    rw [List.drop_eq_nil_of_le (by omega)] at hb
    simp only [critP, List.any_nil, Bool.not_false, Bool.and_true] at hb
    rcases h1 with ⟨h1, h2⟩ | ⟨h1, h2⟩
    · have hbt : b = true := by rw [hb]; exact h2
      subst hbt
      refine Ev.step (fun k => ?_) h1
      simp only [spec_l02Critical.l1]
      rw [if_neg (by omega), if_pos trivial, if_pos (by omega), if_pos (by omega), if_pos (by omega), rd_at hi, succ64 (by omega)]
    · have hbf : b = false := by rw [hb]; exact h2
      subst hbf
      refine Ev.step (fun k => ?_) h1
      simp only [spec_l02Critical.l1]
      rw [if_neg (by omega), if_neg (by simp), succ64 (by omega)]
  | succ d ih =>
    intro j b hd hj hb
    have hj' : j < l.length := by omega
    rw [List.drop_eq_getElem_cons hj'] at hb
    simp only [critP, List.any_cons, Bool.not_or] at hb
    cases b with
    | false =>
      refine Ev.step (fun k => ?_) (ih (j + 1) false (by omega) (by omega) (by simpa [critP] using hb))
      simp only [spec_l02Critical.l1]
      rw [if_pos (by omega), if_neg (by simp), succ64 (by omega)]
    | true =>
      by_cases h : l[j].f0 = xs[i]
      · refine Ev.step (fun k => ?_) (ih (j + 1) false (by omega) (by omega) (by simpa [critP, h] using hb))
        simp only [spec_l02Critical.l1]
        rw [if_pos (by omega), if_pos trivial, if_pos (by omega), if_pos (by omega), if_pos (by omega), rdP_at hj', rd_at hi, if_pos h, succ64 (by omega)]
      · refine Ev.step (fun k => ?_) (ih (j + 1) (l[j].f1 != xs[i]) (by omega) (by omega) (by simpa [critP, beq_eq_false_iff_ne.2 h, bne] using hb))
        simp only [spec_l02Critical.l1]
        rw [if_pos (by omega), if_pos trivial, if_pos (by omega), if_pos (by omega), if_pos (by omega), rdP_at hj', rd_at hi, if_neg h, succ64 (by omega)]
theorem crit_l0 (n : Int) (xs : List Int) (l : List Pr) (hl : l.length ≤ 1048576) (hx : xs.length ≤ 1048576) : ∀ d (i : Nat) (acc : List Int), xs.length - i = d → i ≤ xs.length → acc.length ≤ i → Ev (fun k => spec_l02Critical.l0 k l acc i n xs) (acc ++ (xs.drop i).filter (critP l)) := by
  intro d
  induction d with
  | zero =>
    intro i acc hd hi ha
    rw [List.drop_eq_nil_of_le (by omega)]
    refine Ev.step (f := fun _ => some acc) (fun k => ?_) (by simpa using Ev.now acc)
    simp only [spec_l02Critical.l0]; rw [if_neg (by omega)]
  | succ d ih =>
    intro i acc hd hi ha
    have hi' : i < xs.length := by omega
    rw [List.drop_eq_getElem_cons hi', List.filter_cons]
    refine Ev.step (f := fun k => spec_l02Critical.l1 k l acc i true ((0 : Nat) : Int) n xs) (fun k => ?_) (crit_l1 n xs l hl hx hi' acc ha _ ?_ _ 0 true rfl (Nat.zero_le _) (by simp))
    · simp only [spec_l02Critical.l0]; rw [if_pos (by omega)]; rfl
    · cases hc : critP l xs[i] with
      | true => exact .inl ⟨by have := ih (i + 1) (acc ++ [xs[i]]) (by omega) (by omega) (by simp; omega); simpa using this, rfl⟩
      | false => exact .inr ⟨by have := ih (i + 1) acc (by omega) (by omega) (by omega); simpa using this, rfl⟩
theorem ev_crit (n : Int) {xs : List Int} (hx : xs.length ≤ 1048576) {l : List Pr} (hl : l.length ≤ 1048576) : Ev (fun k => spec_l02Critical.f k n xs l) (critL xs l) := by
  unfold spec_l02Critical.f critL
  have := crit_l0 n xs l hl hx _ 0 [] rfl (Nat.zero_le _) (by simp)
  simpa using this
theorem pcode_zero {n : Int} {xs : List Int} {l : List Pr} (h : pcode n xs l = 0) : isC n xs = true ∧ pairingB xs l = true := by
  unfold pcode at h
  cases h1 : isC n xs <;> cases h2 : pairingB xs l <;> simp [h1, h2] at h ⊢
end Go.Proofs.YtpnmifahfpmplaaGreat.Pu
namespace Go.Proofs.YtpnmifahfpmplaaGreat.Im
open Go.RowKit Go.Shelf Kp Ext Cw YtpnmifahfpmplaaGreatW.PrintWords YtpnmifahfpmplaaGreatW.PrintLast YtpnmifahfpmplaaGreatW.PrintMore
section
variable {P : Program} {ops : Array Oper} {Q : Exit → Act → World → Prop} {a : Act} {w : World} {oi : Oper}
end
def CellsQ (w : World) (ad : Addr) (m : Nat) (q : Pr) : Prop := w.cell? (ad.add (m * 2)) = some (.int .i64 q.f0) ∧ w.cell? ⟨(ad.add (m * 2)).block, (ad.add (m * 2)).off + 1, none⟩ = some (.int .i64 q.f1)
theorem cellsQ_below {w w1 : World} {ad : Addr} {m : Nat} {q : Pr} (h : CellsQ w ad m q) (hb : Below w.heap.size w w1) : CellsQ w1 ad m q := ⟨pw_cell_below hb h.1, pw_cell_below hb h.2⟩
section
variable {P : Program}
variable {ops : Array Oper} {rest : List Oper} {o : Oper} {a : Act} {w : World} {Q : Exit → Act → World → Prop} {K : Act → World → Prop} {E : Prop}
end
def fl : List Pr → List Value
  | [] => []
  | x :: l => .int .i64 x.f0 :: .int .i64 x.f1 :: fl l
theorem fl_len : ∀ l : List Pr, (fl l).length = l.length * 2
  | [] => rfl
  | x :: l => by simp [fl, fl_len l]; omega
theorem fl_reps (w : World) (base : Nat) (ok : Nat → Prop) : ∀ l : List Pr, Reps (k57.M w base ok) 2 l (fl l)
  | [] => Reps.none _ _
  | x :: l => by
    obtain ⟨hl, hr⟩ := fl_reps w base ok l
    refine ⟨by simp [fl, hl]; omega, fun j p hj => ?_⟩
    rcases j with _ | j
    · obtain rfl : x = p := by simpa using hj
      exact k57_mkM w base ok x
    · have := hr j p (by simpa using hj)
      rw [Nat.succ_mul, show (fl (x :: l)).drop (j * 2 + 2) = (fl l).drop (j * 2) from by simp [fl]]
      exact this
abbrev PO (w : World) (base : Nat) (v : Value) (xs : List Pr) : Prop := Kd.R k57 57 w base (fun _ => True) v xs
theorem PO.mk {w : World} {base g cap : Nat} {cur : List Value} {xs : List Pr} (hb : base ≤ g) (hg : w.heap[g]? = some (.cells cur.toArray 57 (0, 0))) (hn : xs.length ≤ cap) (hc : cap ≤ maxLen) (hs : cur.length = cap * 2) (ht : cur.take (xs.length * 2) = fl xs) :
    PO w base (.slice (some ⟨g, 0, none⟩) xs.length cap) xs :=
  ⟨fun _ _ => trivial, fl xs, ⟨fl_len xs, .inr ⟨g, cap, cur.toArray, rfl, hb, hg, hn, hc, hs, ht⟩⟩, fl_reps _ _ _ xs⟩
theorem infoP : (Tryz.prog.info? 57).map (fun i => (i.zero, i.size, i.bytes)) = some (some (.agg #[.int .i64 0, .int .i64 0]), 2, 16) := by kernel_rfl
section
variable {ops : Array Oper} {rest : List Oper} {o : Oper} {a : Act} {Q : Exit → Act → World → Prop}
theorem apPs {w0 W : World} (base : Nat) (hgd : o.guard = none) (s x : Operand)
    (ho : o.op = .call { callee := .builtin .append, args := #[s, x], argTypes := #[27, 27] })
    (v : Value) (xs ys : List Pr) (A : Option Addr) (m c : Nat)
    (hs : a.eval s = v) (hx : a.eval x = .slice A m c) (HO : PO W base v xs) (HR : Kd.C k57 W A m ys) (HB : Below base w0 W) (hbase : base ≤ W.heap.size) (hl : xs.length + m ≤ 8796093022208)
    (h : ∀ v1 w1, PO w1 base v1 (xs ++ ys) → Below base w0 w1 → W.grownBy w1 v.ownBlock → (v1.ownBlock = v.ownBlock ∨ ∃ b, v1.ownBlock = some b ∧ W.heap.size ≤ b) → wpList Tryz.prog ops Q rest (a.put o.dst v1) w1) :
    wpList Tryz.prog ops Q (o :: rest) a W :=
  Kd.R_append_rows k57 base hgd s x 27 57 (.agg #[.int .i64 0, .int .i64 0]) 16 ho Tryz.underlying27 infoP rfl (by decide) (by decide) v xs ys A m c (fun _ => True) (fun _ => False) hs hx HO HR
    (fun x cs h => by rw [k57_open h]; exact k57_mkM _ _ _ _) (fun _ h => h.elim) (fun _ _ => trivial) HB hbase (by omega) h
end
theorem PO.made (w : World) (base cap : Nat) (cur : Array Value) (hb : base ≤ w.heap.size) (hm : cap ≤ maxLen) (hs : cur.size = cap * 2) : PO (w.alloc (.cells cur 57)) base (.slice (some ⟨w.heap.size, 0, none⟩) 0 cap) [] :=
  ⟨fun _ _ => trivial, [], World.ownsRow_made w cur cap hb hm hs, Reps.none _ _⟩
def placeP (l : List Pr) (p : Pr) : Nat := (l.takeWhile fun q => decide (cmpP q p < 0)).length
def withP (l : List Pr) (p : Pr) : List Pr := l.take (placeP l p) ++ p :: l.drop (placeP l p)
theorem placeP_le (l : List Pr) (p : Pr) : placeP l p ≤ l.length := by
  unfold placeP
  exact (List.takeWhile_sublist _).length_le
theorem withP_len (l : List Pr) (p : Pr) : (withP l p).length = l.length + 1 := by
  have := placeP_le l p
  unfold withP
  simp; omega
theorem lessS_f (p q : Pr) : QS.spec_l02Less.f p.f0 p.f1 q.f0 q.f1 = some (decide (cmpP p q < 0)) := by
  unfold QS.spec_l02Less.f cmpP cmpI
  by_cases h1 : p.f0 < q.f0
  · rw [if_pos h1]; simp [h1]
  · rw [if_neg h1]
    by_cases h2 : p.f0 = q.f0
    · rw [if_pos h2]
      by_cases h3 : p.f1 < q.f1
      · simp [h2, h3]
      · by_cases h4 : p.f1 > q.f1
        · simp [h2, h3, h4]
        · simp [h2, h3, h4]
    · rw [if_neg h2]
      by_cases h3 : p.f0 > q.f0
      · simp [h1, h2, h3]
      · omega
def backP (l : List Pr) (p : Pr) : Nat → Nat
  | 0 => 0
  | a + 1 => if cmpP p (l.getD a z57) < 0 then backP l p a else a + 1
def putP (l : List Pr) (p : Pr) : List Pr := l.take (backP l p l.length) ++ p :: l.drop (backP l p l.length)
section
variable {ops : Array Oper} {o : Oper} {a : Act} {Q : Exit → Act → World → Prop} {K : Act → World → Prop}
theorem apPsR {w0 W : World} (base : Nat) (s x : Operand) (v : Value) (xs ys : List Pr) (A : Option Addr) (m c : Nat)
    (hs : a.eval s = v) (hx : a.eval x = .slice A m c) (HO : PO W base v xs) (HR : Kd.C k57 W A m ys) (HB : Below base w0 W) (hbase : base ≤ W.heap.size) (hl : xs.length + m ≤ 8796093022208)
    (h : ∀ v1 w1, PO w1 base v1 (xs ++ ys) → Below base w0 w1 → W.grownBy w1 v.ownBlock → (v1.ownBlock = v.ownBlock ∨ ∃ b, v1.ownBlock = some b ∧ W.heap.size ≤ b) → K (a.put o.dst v1) w1)
    (hw : Region.wanted o (yielded ops a.tmps) = true := by rfl) (ho : o.op = .call { callee := .builtin .append, args := #[s, x], argTypes := #[27, 27] } := by rfl) :
    if Region.wanted o (yielded ops a.tmps) = true then Oper.wp Tryz.prog o a W K Q else K (a.put o.dst undef) W :=
  Kd.R_append_rows_step k57 base hw s x 27 57 (.agg #[.int .i64 0, .int .i64 0]) 16 ho Tryz.underlying27 infoP rfl (by decide) (by decide) v xs ys A m c (fun _ => True) (fun _ => False) hs hx HO HR
    (fun x cs h => by rw [k57_open h]; exact k57_mkM _ _ _ _) (fun _ h => h.elim) (fun _ _ => trivial) HB hbase (by omega) h
end
theorem PO.one (w : World) (base : Nat) (p : Pr) (hb : base ≤ w.heap.size) : PO (w.alloc (.cells #[.int .i64 p.f0, .int .i64 p.f1] 57)) base (.slice (some ⟨w.heap.size, 0, none⟩) 1 1) [p] :=
  PO.mk (xs := [p]) (cap := 1) (cur := [.int .i64 p.f0, .int .i64 p.f1]) hb (heap_alloc_new w _) (Nat.le_refl _) (by simp [maxLen]) rfl rfl
theorem prAt_grown1 {w w1 : World} {b g : Nat} {x y : Int} {v : Value} (h : PrAt w g x y) (hv : v.ownBlock = some b) (hne : g ≠ b) (hg : w.grownBy w1 v.ownBlock) : PrAt w1 g x y := (hg.block g h.lt (fun e => hne (by rw [hv] at e; injection e))).trans h
theorem cxAt_grown1 {w w1 : World} {b g : Nat} {n : Int} {A : Option Addr} {len c : Nat} {v : Value} (h : CxAt w g n A len c) (hl : g < w.heap.size) (hv : v.ownBlock = some b) (hne : g ≠ b) (hg : w.grownBy w1 v.ownBlock) : CxAt w1 g n A len c := (hg.block g hl (fun e => hne (by rw [hv] at e; injection e))).trans h
def With2Post (w : World) (r : List Pr) (b : Bool) (e : Ending) (w' : World) : Prop := ∃ v : Value, e = .returned (.tuple #[v, .bool b]) ∧ PO w' w.heap.size v r ∧ Below w.heap.size w w'
set_option maxRecDepth 100000 in
set_option maxHeartbeats 1000000 in
theorem with2_c (k : Nat) (n : Int) (A : Option Addr) (c : Nat) (xs : List Int) (A1 : Option Addr) (c1 : Nat) (l : List Pr) (p : Pr) (b : Bool) (w : World) (hr : RC w A xs.length xs) (hc : xs.length ≤ c) (hr1 : Kd.C k57 w A1 l.length l) (hc1 : l.length ≤ c1) (hl : l.length ≤ 1000000)
    (hk : QS.spec_l02Is.f k n xs (putP l p) = some b) :
    Calls Tryz.prog 85 #[.agg #[.int .i64 n, .slice A xs.length c], .slice A1 l.length c1, .agg #[.int .i64 p.f0, .int .i64 p.f1]] w (With2Post w (putP l p) b) := by
  have hx0 := Aside0.mk ((CxAt.new w n A xs.length c).below (below_alloc (Below.refl _ _) (.cells #[.int .i64 p.f0, .int .i64 p.f1] 57)))
  have hp0 : Aside0 (PrAt ((w.alloc (.cells #[.int .i64 n, .slice A xs.length c] 26)).alloc (.cells #[.int .i64 p.f0, .int .i64 p.f1] 57)) (w.heap.size + 1) p.f0 p.f1) := ⟨by simpa using PrAt.new (w.alloc (.cells #[.int .i64 n, .slice A xs.length c] 26)) p.f0 p.f1⟩
  have hb0 := Aside0.mk (below_alloc (below_alloc (Below.refl w.heap.size w) (.cells #[.int .i64 n, .slice A xs.length c] 26)) (.cells #[.int .i64 p.f0, .int .i64 p.f1] 57))
  have HR := Aside0.mk hr
  have HR1 := Aside0.mk hr1
  have HC := Aside0.mk hc
  have HC1 := Aside0.mk hc1
  have HK := Aside0.mk hk
  clear hr hr1 hc hc1 hk
  go_enter Tryz.func85, Tryz.ntmps85
  go_wp2
  go_loopw [8] (fun s8 wr => ∃ m : Nat, m ≤ l.length ∧ s8 = .int .i64 m ∧ Aside0 (backP l p l.length = backP l p m) ∧ Aside0 (Below w.heap.size w wr) ∧ Aside0 (CxAt wr w.heap.size n A xs.length c) ∧ Aside0 (PrAt wr (w.heap.size + 1) p.f0 p.f1)) (fun s8 _ => (intOf s8).toNat)
  case atStart => exact ⟨l.length, by omega, rfl, ⟨rfl⟩, hb0, hx0, hp0⟩
  case round =>
    clear hx0 hp0 hb0
    obtain ⟨m, hm, rfl, hback, HB, HX, HP⟩ := hrel
    by_cases h0 : m = 0
    · have hgz : ¬ ((0 : Int) < (m : Int)) := by omega
      have hgn : ¬ (0 < m) := by omega
      have HM : Aside0 (backP l p l.length = m) := ⟨by rw [hback.out, h0]; rfl⟩
      clear h0 hback
      go_wp2
      have HPd := Aside0.mk HP.out.drew; have HBd := Aside0.mk HB.out.drew; have HXd := Aside0.mk HX.out.drew'; clear HP HB HX; have HP := HPd; have HB := HBd; have HX := HXd; clear HPd HBd HXd
      refine st_ 11 (S := fun w' => True) (ds := []) trivial (fun hHeld => ?_)
      refine with_tabW (T := (true, [([], []), ([0], [0]), ([1], [1]), ([2], [2]), ([2], [2]), ([2], [2]), ([5, 2], [2, 5]), ([4, 6, 2], [2, 4, 6]), ([7, 2], [2, 7]), ([3, 8, 2, 2], [2, 3, 8]), ([2, 9], [2, 9])])) (B := [0, 1, 3, 7, 7, 7, 39, 119, 247, 511, 1023]) (by kernel_rfl) (by kernel_rfl) (fun HT_ HW_ => ?_)
      refine pd_ 0 13 1 HT_ ?_
      refine pd_ 1 14 3 HT_ ?_
      refine pd_ 2 15 7 HT_ ?_
      refine pn_ 3 16 15 HT_ ?_
      refine pn_ 4 17 31 HT_ ?_
      refine pn_ 5 18 63 HT_ ?_
      refine pn_ 6 19 127 HT_ ?_
      refine pn_ 7 20 255 HT_ ?_
      refine pn_ 8 21 511 HT_ ?_
      refine pn_ 9 22 1023 HT_ ?_
      refine pd_ 10 23 2047 HT_ ?_
      refine dn_ HT_ ?_
      have HPUT : Aside0 (putP l p = l.take m ++ ([p] ++ l.drop m)) := ⟨by unfold putP; rw [HM.out]; rfl⟩
      have hml := Aside0.mk hm
      obtain ⟨D, hD⟩ : ∃ D, D = (if c1 = m then A1 else A1.map (·.add (m * 2))) := ⟨_, rfl⟩
      have hcutF : ∀ W : World, (Instr.slice 27 (.slice A1 l.length c1) (some (.int .i64 (m : Int))) none none).run Tryz.prog W = .ok (.slice D (l.length - m) (c1 - m)) W := by
        intro W
        obtain ⟨i0, hi0, hz0, hzs, hzb⟩ := info_parts infoP
        have := cut_from 27 57 .i64 Tryz.underlying27 hi0 2 hzs A1 l.length c1 (m : Int) (by omega) (by omega) W
        rw [Int.toNat_natCast, ← hD] at this
        exact this
      have hcutT : ∀ W : World, (Instr.slice 27 (.slice A1 l.length c1) none (some (.int .i64 (m : Int))) none).run Tryz.prog W = .ok (.slice A1 m c1) W := by
        intro W
        obtain ⟨i0, hi0, hz0, hzs, hzb⟩ := info_parts infoP
        have := cut_to 27 57 .i64 Tryz.underlying27 hi0 A1 l.length c1 (m : Int) (by omega) (by omega) HC1.out W
        rw [Int.toNat_natCast] at this
        exact this
      have HRD : Aside0 (∀ W, Below w.heap.size w W → Kd.C k57 W D (l.length - m) (l.drop m)) := ⟨fun W hW => by
        have := Kd.C_drop (Kd.C_below HR1.out hW) hm HC1.out
        rw [List.length_drop] at this
        rw [hD]
        exact this⟩
      have HRT : Aside0 (∀ W, Below w.heap.size w W → Kd.C k57 W A1 m (l.take m)) := ⟨fun W hW => by
        have := Kd.C_take (Kd.C_below HR1.out hW) hm
        rw [List.length_take, Nat.min_eq_left hm] at this
        exact this⟩
      clear hD
      go_wp2
      refine st_ 7 (S := fun w' => w'.cell? ⟨w.heap.size + 1, 0, none⟩ = some (.int .i64 p.f0) ∧ w'.cell? ⟨w.heap.size + 1, 1, none⟩ = some (.int .i64 p.f1)) (ds := []) ⟨HP.out.c0, HP.out.c1⟩ (fun hHeld => ?_)
      refine with_tabW (T := (true, [([], []), ([0], [0]), ([], []), ([], []), ([2, 3], [2, 3]), ([1, 4], [1, 4]), ([5, 5, 0, 1, 2, 3, 4, 5], [5])])) (B := [0, 1, 0, 0, 12, 31, 63]) (by kernel_rfl) (by kernel_rfl) (fun HT_ HW_ => ?_)
      refine pd_ 2 28 4 HT_ ?_
      refine pd_ 3 29 12 HT_ ?_
      refine pd_ 4 30 28 HT_ ?_
      refine tk_ 0 26 29 HT_ HW_ hHeld ?_
      refine on_ 1 (some 27) 31 HT_ (fun K hK => ?_)
      (refine value_ (by rfl) rfl (v := .slice (some ⟨wr.drew.heap.size, 0, none⟩) 1 1) (w1 := wr.drew.drew.alloc (.cells #[.int .i64 p.f0, .int .i64 p.f1] 57)) (by go_simp) ?_; have HX1 := Aside0.mk (HX.out.below (below_alloc (Below.refl _ _) (.cells #[.int .i64 p.f0, .int .i64 p.f1] 57))).drew'; have HP1 := Aside0.mk (HP.out.alloc (.cells #[.int .i64 p.f0, .int .i64 p.f1] 57)).drew; have HB1 := Aside0.mk (HB.out.drew.alloc HB.out.drew.size (.cells #[.int .i64 p.f0, .int .i64 p.f1] 57)); have HLT := Aside0.mk HP.out.lt; have HO1 := Aside0.mk (PO.one wr.drew.drew w.heap.size p HB.out.drew.size); clear HX HP HB)
      refine hK.out _ _ ⟨HP1.out.c0, HP1.out.c1⟩ (fun hHeld => ?_)
      clear hK K
      refine nm_ ?_
      refine on_ 5 (some 31) 63 HT_ (fun K hK => ?_)
      (refine apPsR w.heap.size (.tmp 27) (.tmp 30) _ [p] (l.drop m) D (l.length - m) (c1 - m) rfl rfl HO1.out (HRD.out _ HB1.out) HB1.out HB1.out.size (by simp; omega) ?_; intro v1 w5 ho hb hg hat; have HV1 := Aside0.mk ho; have HB5 := Aside0.mk hb; have HX5 := Aside0.mk (cxAt_grown1 (b := wr.drew.drew.heap.size) HX1.out (Nat.lt_of_succ_lt HP1.out.lt) rfl (Nat.ne_of_lt (Nat.lt_of_succ_lt HLT.out)) hg); have HP5 := Aside0.mk (prAt_grown1 (b := wr.drew.drew.heap.size) HP1.out rfl (Nat.ne_of_lt HLT.out) hg); clear ho hb hg hat HX1 HP1 HB1 HO1)
      refine hK.out _ _ ⟨HP5.out.c0, HP5.out.c1⟩ (fun hHeld => ?_)
      clear hK K
      refine nm_ ?_
      refine pd_ 6 9 127 HT_ ?_
      refine dn_ HT_ ?_
      obtain ⟨A7, c7, rfl⟩ := Kd.R_slice HV1.out
      have hd7 : ([p] ++ l.drop m).length = l.length - m + 1 := by simp <;> omega
      have HRV : Aside0 (∀ W, Below w5.heap.size w5 W → Kd.C k57 W A7 (l.length - m + 1) ([p] ++ l.drop m)) := ⟨fun W hW => by
        have := (Kd.R_reads' HV1.out).2.2
        rw [hd7] at this
        exact Kd.C_below this hW⟩
      have HO6 := Aside0.mk (PO.made w5 w5.heap.size 0 #[] (Nat.le_refl _) (Nat.zero_le _) rfl)
      have HB6 : Aside0 (Below w5.heap.size w5 (w5.alloc (.cells #[] 57))) := ⟨below_alloc (Below.refl _ _) _⟩
      rw [hd7]
      go_wp2_with (first
        | (at_builtin; refine apPs w5.heap.size rfl (.tmp 32) (.tmp 35) rfl _ _ (l.take m) A1 m c1 rfl rfl HO6.out (HRT.out _ (below_in HB5.out HB6.out)) HB6.out HB6.out.size (by simp; omega) ?_; intro v8 w8 ho hb hg hat; clear hat hg; have HO8 := Aside0.mk ho; have HB8 := Aside0.mk hb; clear ho hb)
        | (at_builtin; refine apPs w5.heap.size rfl (.tmp 36) (.tmp 37) rfl _ _ ([p] ++ l.drop m) A7 _ _ rfl rfl HO8.out (HRV.out _ HB8.out) HB8.out HB8.out.size (by simp; omega) ?_; intro v9 w9 ho hb hg hat; clear hat hg; rw [List.nil_append, ← HPUT.out] at ho; have HO9 := Aside0.mk ho; have HB9 := Aside0.mk hb; clear ho hb; obtain ⟨A9, c9, rfl⟩ := Kd.R_slice HO9.out; have HX9 := Aside0.mk (HX5.out.below HB9.out); have hx9 := HX9.out.c0; have hy9 := HX9.out.c1)
        | (go_at_call 30; refine (QS.spec_l02Is.calls k n A c xs A9 c9 (putP l p) b _ (Kd.C_below HR.out (below_in HB5.out HB9.out)) HC.out (Kd.R_reads' HO9.out).2.2 (Kd.R_reads' HO9.out).2.1 HK.out).mono ?_; rintro e w10 ⟨rfl, hb⟩; have HB10 := Aside0.mk hb; clear hb))
      go_ret2
      exact ⟨_, rfl, Kd.R_lower (Kd.R_below HO9.out HB10.out) HB5.out.size, below_in HB5.out (below_in HB9.out HB10.out)⟩
    · have hgz : (0 : Int) < (m : Int) := by omega
      have hgn : 0 < m := by omega
      obtain ⟨m', hm'⟩ : ∃ m', m = m' + 1 := ⟨m - 1, by omega⟩
      obtain ⟨ad, rfl, hp0, hp1⟩ := pair_at (Kd.C_below HR1.out HB.out) m' (by omega)
      have hback' := hback.out
      rw [hm', show backP l p (m' + 1) = if cmpP p (l.getD m' z57) < 0 then backP l p m' else m' + 1 from rfl, ← hm'] at hback'
      generalize l.getD m' z57 = q at hp0 hp1 hback'
      have HW : Aside0 (CellsQ wr ad m' q) := ⟨⟨hp0, hp1⟩⟩
      have HBK := Aside0.mk hback'
      clear hp0 hp1 hback hback'
      have hmlt : (m' : Int) < (l.length : Int) := by omega
      have hwm : wrap64 ((m : Int) - 1) = (m' : Int) := by unfold wrap64; omega
      have HM' := Aside0.mk hm'
      clear hm' h0
      go_wp2
      have HPd := Aside0.mk HP.out.drew; have HBd := Aside0.mk HB.out.drew; have HXd := Aside0.mk HX.out.drew'; have HWd : Aside0 (CellsQ wr.drew ad m' q) := ⟨HW.out⟩; clear HP HB HW HX; have HP := HPd; have HB := HBd; have HW := HWd; have HX := HXd; clear HPd HBd HWd HXd
      refine st_ 11 (S := fun w' => w'.cell? ⟨w.heap.size + 1, 0, none⟩ = some (.int .i64 p.f0) ∧ w'.cell? ⟨w.heap.size + 1, 1, none⟩ = some (.int .i64 p.f1) ∧ w'.cell? (ad.add (m' * 2)) = some (.int .i64 q.f0) ∧ w'.cell? ⟨(ad.add (m' * 2)).block, (ad.add (m' * 2)).off + 1, none⟩ = some (.int .i64 q.f1)) (ds := []) ⟨HP.out.c0, HP.out.c1, HW.out.1, HW.out.2⟩ (fun hHeld => ?_)
      refine with_tabW (T := (true, [([], []), ([0], [0]), ([1], [1]), ([2], [2]), ([2], [2]), ([2], [2]), ([5, 2], [2, 5]), ([4, 6, 2], [2, 4, 6]), ([7, 2], [2, 7]), ([3, 8, 2, 2], [2, 3, 8]), ([2, 9], [2, 9])])) (B := [0, 1, 3, 7, 7, 7, 39, 119, 247, 511, 1023]) (by kernel_rfl) (by kernel_rfl) (fun HT_ HW_ => ?_)
      refine pd_ 0 13 1 HT_ ?_
      refine pd_ 1 14 3 HT_ ?_
      refine pd_ 2 15 7 HT_ ?_
      refine pd_ 4 17 23 HT_ ?_
      refine pd_ 5 18 55 HT_ ?_
      refine pd_ 6 19 119 HT_ ?_
      refine pd_ 7 20 247 HT_ ?_
      refine tk_ 3 16 255 HT_ HW_ hHeld ?_
      refine tk_ 8 21 511 HT_ HW_ hHeld ?_
      refine on_ 9 (some 22) 1023 HT_ (fun K hK => ?_)
      refine ca_ Tryz.func55 #[.agg #[.int .i64 p.f0, .int .i64 p.f1], .agg #[.int .i64 q.f0, .int .i64 q.f1]] ?_
      refine (QS.spec_l02Less.calls _ _ _ _ _ _ (lessS_f p q)).mono ?_; rintro e w1 ⟨rfl, hb⟩; have HP1 := Aside0.mk (HP.out.below hb); have HX1 := Aside0.mk (HX.out.below hb); have HB1 := Aside0.mk (below_in HB.out hb); have HW1 := Aside0.mk (cellsQ_below HW.out hb); clear HP HX HB HW; have HP := HP1; have HX := HX1; have HB := HB1; have HW := HW1; clear HP1 HX1 HB1 HW1; generalize cmpP p q = cp at HBK
      refine ⟨_, rfl, ?_⟩
      refine hK.out _ _ ⟨HP.out.c0, HP.out.c1, HW.out.1, HW.out.2⟩ (fun hHeld => ?_)
      clear hK K
      refine nm_ ?_
      refine pd_ 10 23 2047 HT_ ?_
      refine dn_ HT_ ?_
      by_cases hcp : cp < 0
      · rw [if_pos hcp] at HBK
        go_wp2
        go_roundw
        case measure => have := HM'.out; have hwm2 : wrap64 ((m : Int) - 1) = (m' : Int) := by unfold wrap64; omega
                        simp only [intOf, hwm2]; omega
        case rel => exact ⟨m', by have := HM'.out; omega, by rw [show ((m : Int) - 1) = (m' : Int) by have := HM'.out; omega], HBK, HB, HX, HP⟩
      · have HM : Aside0 (backP l p l.length = m) := by rw [if_neg hcp] at HBK; exact HBK
        clear HBK hwm hmlt hgz HW
        have HPUT : Aside0 (putP l p = l.take m ++ ([p] ++ l.drop m)) := ⟨by unfold putP; rw [HM.out]; rfl⟩
        have hml := Aside0.mk hm
        obtain ⟨D, hD⟩ : ∃ D, D = (if c1 = m then (some ad) else (some ad : Option Addr).map (·.add (m * 2))) := ⟨_, rfl⟩
        have hcutF : ∀ W : World, (Instr.slice 27 (.slice (some ad) l.length c1) (some (.int .i64 (m : Int))) none none).run Tryz.prog W = .ok (.slice D (l.length - m) (c1 - m)) W := by
          intro W
          obtain ⟨i0, hi0, hz0, hzs, hzb⟩ := info_parts infoP
          have := cut_from 27 57 .i64 Tryz.underlying27 hi0 2 hzs (some ad) l.length c1 (m : Int) (by omega) (by omega) W
          rw [Int.toNat_natCast, ← hD] at this
          exact this
        have hcutT : ∀ W : World, (Instr.slice 27 (.slice (some ad) l.length c1) none (some (.int .i64 (m : Int))) none).run Tryz.prog W = .ok (.slice (some ad) m c1) W := by
          intro W
          obtain ⟨i0, hi0, hz0, hzs, hzb⟩ := info_parts infoP
          have := cut_to 27 57 .i64 Tryz.underlying27 hi0 (some ad) l.length c1 (m : Int) (by omega) (by omega) HC1.out W
          rw [Int.toNat_natCast] at this
          exact this
        have HRD : Aside0 (∀ W, Below w.heap.size w W → Kd.C k57 W D (l.length - m) (l.drop m)) := ⟨fun W hW => by
          have := Kd.C_drop (Kd.C_below HR1.out hW) hm HC1.out
          rw [List.length_drop] at this
          rw [hD]
          exact this⟩
        have HRT : Aside0 (∀ W, Below w.heap.size w W → Kd.C k57 W (some ad) m (l.take m)) := ⟨fun W hW => by
          have := Kd.C_take (Kd.C_below HR1.out hW) hm
          rw [List.length_take, Nat.min_eq_left hm] at this
          exact this⟩
        clear hD
        go_wp2
        refine st_ 7 (S := fun w' => w'.cell? ⟨w.heap.size + 1, 0, none⟩ = some (.int .i64 p.f0) ∧ w'.cell? ⟨w.heap.size + 1, 1, none⟩ = some (.int .i64 p.f1)) (ds := []) ⟨HP.out.c0, HP.out.c1⟩ (fun hHeld => ?_)
        refine with_tabW (T := (true, [([], []), ([0], [0]), ([], []), ([], []), ([2, 3], [2, 3]), ([1, 4], [1, 4]), ([5, 5, 0, 1, 2, 3, 4, 5], [5])])) (B := [0, 1, 0, 0, 12, 31, 63]) (by kernel_rfl) (by kernel_rfl) (fun HT_ HW_ => ?_)
        refine pd_ 2 28 4 HT_ ?_
        refine pd_ 3 29 12 HT_ ?_
        refine pd_ 4 30 28 HT_ ?_
        refine tk_ 0 26 29 HT_ HW_ hHeld ?_
        refine on_ 1 (some 27) 31 HT_ (fun K hK => ?_)
        (refine value_ (by rfl) rfl (v := .slice (some ⟨w1.heap.size, 0, none⟩) 1 1) (w1 := w1.drew.alloc (.cells #[.int .i64 p.f0, .int .i64 p.f1] 57)) (by go_simp) ?_; have HX1 := Aside0.mk (HX.out.below (below_alloc (Below.refl _ _) (.cells #[.int .i64 p.f0, .int .i64 p.f1] 57))).drew'; have HP1 := Aside0.mk (HP.out.alloc (.cells #[.int .i64 p.f0, .int .i64 p.f1] 57)).drew; have HB1 := Aside0.mk (HB.out.drew.alloc HB.out.drew.size (.cells #[.int .i64 p.f0, .int .i64 p.f1] 57)); have HLT := Aside0.mk HP.out.lt; have HO1 := Aside0.mk (PO.one w1.drew w.heap.size p HB.out.drew.size); clear HX HP HB)
        refine hK.out _ _ ⟨HP1.out.c0, HP1.out.c1⟩ (fun hHeld => ?_)
        clear hK K
        refine nm_ ?_
        refine on_ 5 (some 31) 63 HT_ (fun K hK => ?_)
        (refine apPsR w.heap.size (.tmp 27) (.tmp 30) _ [p] (l.drop m) D (l.length - m) (c1 - m) rfl rfl HO1.out (HRD.out _ HB1.out) HB1.out HB1.out.size (by simp; omega) ?_; intro v1 w5 ho hb hg hat; have HV1 := Aside0.mk ho; have HB5 := Aside0.mk hb; have HX5 := Aside0.mk (cxAt_grown1 (b := w1.drew.heap.size) HX1.out (Nat.lt_of_succ_lt HP1.out.lt) rfl (Nat.ne_of_lt (Nat.lt_of_succ_lt HLT.out)) hg); have HP5 := Aside0.mk (prAt_grown1 (b := w1.drew.heap.size) HP1.out rfl (Nat.ne_of_lt HLT.out) hg); clear ho hb hg hat HX1 HP1 HB1 HO1)
        refine hK.out _ _ ⟨HP5.out.c0, HP5.out.c1⟩ (fun hHeld => ?_)
        clear hK K
        refine nm_ ?_
        refine pd_ 6 9 127 HT_ ?_
        refine dn_ HT_ ?_
        obtain ⟨A7, c7, rfl⟩ := Kd.R_slice HV1.out
        have hd7 : ([p] ++ l.drop m).length = l.length - m + 1 := by simp <;> omega
        have HRV : Aside0 (∀ W, Below w5.heap.size w5 W → Kd.C k57 W A7 (l.length - m + 1) ([p] ++ l.drop m)) := ⟨fun W hW => by
          have := (Kd.R_reads' HV1.out).2.2
          rw [hd7] at this
          exact Kd.C_below this hW⟩
        have HO6 := Aside0.mk (PO.made w5 w5.heap.size 0 #[] (Nat.le_refl _) (Nat.zero_le _) rfl)
        have HB6 : Aside0 (Below w5.heap.size w5 (w5.alloc (.cells #[] 57))) := ⟨below_alloc (Below.refl _ _) _⟩
        rw [hd7]
        go_wp2_with (first
          | (at_builtin; refine apPs w5.heap.size rfl (.tmp 32) (.tmp 35) rfl _ _ (l.take m) (some ad) m c1 rfl rfl HO6.out (HRT.out _ (below_in HB5.out HB6.out)) HB6.out HB6.out.size (by simp; omega) ?_; intro v8 w8 ho hb hg hat; clear hat hg; have HO8 := Aside0.mk ho; have HB8 := Aside0.mk hb; clear ho hb)
          | (at_builtin; refine apPs w5.heap.size rfl (.tmp 36) (.tmp 37) rfl _ _ ([p] ++ l.drop m) A7 _ _ rfl rfl HO8.out (HRV.out _ HB8.out) HB8.out HB8.out.size (by simp; omega) ?_; intro v9 w9 ho hb hg hat; clear hat hg; rw [List.nil_append, ← HPUT.out] at ho; have HO9 := Aside0.mk ho; have HB9 := Aside0.mk hb; clear ho hb; obtain ⟨A9, c9, rfl⟩ := Kd.R_slice HO9.out; have HX9 := Aside0.mk (HX5.out.below HB9.out); have hx9 := HX9.out.c0; have hy9 := HX9.out.c1)
          | (go_at_call 30; refine (QS.spec_l02Is.calls k n A c xs A9 c9 (putP l p) b _ (Kd.C_below HR.out (below_in HB5.out HB9.out)) HC.out (Kd.R_reads' HO9.out).2.2 (Kd.R_reads' HO9.out).2.1 HK.out).mono ?_; rintro e w10 ⟨rfl, hb⟩; have HB10 := Aside0.mk hb; clear hb))
        go_ret2
        exact ⟨_, rfl, Kd.R_lower (Kd.R_below HO9.out HB10.out) HB5.out.size, below_in HB5.out (below_in HB9.out HB10.out)⟩
end Go.Proofs.YtpnmifahfpmplaaGreat.Im
namespace Go.Proofs.YtpnmifahfpmplaaGreat.QS
open Go.RowKit Kp Ext YtpnmifahfpmplaaGreatW.PrintWords YtpnmifahfpmplaaGreatW.PrintLast YtpnmifahfpmplaaGreatW.PrintMore
def spec_l02With.f (k : Nat) (a0_0 : Int) (l0_1 : List Int) (l1 : List (S57)) (a2_0 : Int) (a2_1 : Int) : Option ((List (S57)) × Bool) :=
  if l1.length ≤ 1000000 then (spec_l02Is.f k a0_0 l0_1 (Im.putP l1 ⟨a2_0, a2_1⟩)).bind fun b => some (Im.putP l1 ⟨a2_0, a2_1⟩, b) else none
theorem spec_l02With.calls (k : Nat) (a0_0 : Int) (A0_1 : Option Addr) (c0_1 : Nat) (l0_1 : List Int) (A1 : Option Addr) (c1 : Nat) (l1 : List (S57)) (a2_0 : Int) (a2_1 : Int) (r1 : List (S57)) (r2 : Bool) (w : World) (hr0_1 : Kd.C (Kd.int .i64) w A0_1 l0_1.length l0_1) (hc0_1 : l0_1.length ≤ c0_1) (hr1 : Kd.C k57 w A1 l1.length l1) (hc1 : l1.length ≤ c1) (h : spec_l02With.f k a0_0 l0_1 l1 a2_0 a2_1 = some (r1, r2)) :
    Calls Tryz.prog 85 #[.agg #[.int .i64 a0_0, .slice A0_1 l0_1.length c0_1], .slice A1 l1.length c1, .agg #[.int .i64 a2_0, .int .i64 a2_1]] w fun e w' => ∃ v0_ : Value, e = .returned (.tuple #[v0_, .bool r2]) ∧ Kd.R k57 57 w' w.heap.size (fun _ => True) v0_ r1 ∧ Below w.heap.size w w' := by
  unfold spec_l02With.f at h
  by_cases hl : l1.length ≤ 1000000
  · rw [if_pos hl] at h
    obtain ⟨b, hk, hb⟩ := Option.bind_eq_some_iff.1 h
    obtain ⟨h1, h2⟩ := Prod.mk.inj (Option.some.inj hb)
    subst h1
    subst h2
    exact Im.with2_c k a0_0 A0_1 c0_1 l0_1 A1 c1 l1 ⟨a2_0, a2_1⟩ b w hr0_1 hc0_1 hr1 hc1 hl hk
  · rw [if_neg hl] at h; cases h
end Go.Proofs.YtpnmifahfpmplaaGreat.QS
namespace Go.Proofs.YtpnmifahfpmplaaGreat.QS
open Cw Kp Ext Go.RowKit YtpnmifahfpmplaaGreatW.PrintWords YtpnmifahfpmplaaGreatW.PrintLast YtpnmifahfpmplaaGreatW.PrintMore
attribute [local go_sem] max2_int min2_int max_two min_two max_three min_three max_four min_four   -- for this text's walks alone
mutual
def spec_l02All.l0 : Nat → List (S57) → Int → Int → List Int → Option ((List (S57)))
 | 0, _, _, _, _ => none
 | k + 1, x3, x4, x312000, x312001 => if x4 < (x312001.length : Int) then (if 0 ≤ x4 then ((spec_l01Above.f k x312000 x312001 (rd x312001 x4)).bind fun t316 => (spec_l02All.l1 k x3 x4 t316 0 x312000 x312001)) else (none)) else (some x3)
def spec_l02All.l1 : Nat → List (S57) → Int → List Int → Int → Int → List Int → Option ((List (S57)))
 | 0, _, _, _, _, _, _ => none
 | k + 1, x3, x4, x5, x6, x312000, x312001 => if x6 < (x5.length : Int) then (if 0 ≤ x4 then (if x4 < (x312001.length : Int) then (if 0 ≤ x6 then ((spec_l02With.f k x312000 x312001 x3 (rd x312001 x4) (rd x5 x6)).bind fun bt321 => (spec_l02All.l1 k bt321.1 x4 x5 (wrap64 (x6 + 1)) x312000 x312001)) else (none)) else (none)) else (none)) else (spec_l02All.l0 k x3 (wrap64 (x4 + 1)) x312000 x312001)
end
def spec_l02All.f (k : Nat) (a0_0 : Int) (l0_1 : List Int) : Option ((List (S57))) := spec_l02All.l0 k (([] : List (S57))) 0 a0_0 l0_1
def spec_l02All.T5 : Bool × List (List Nat × List Nat) := (true, [([], []), ([], []), ([1], [1]), ([], []), ([2, 3], [2, 3]), ([4], [4]), ([0, 5], [0, 5]), ([6, 6, 0, 1, 2, 3, 4, 5, 6], [6])])
def spec_l02All.B5 : List Nat := [0, 0, 2, 0, 14, 30, 63, 127]
theorem spec_l02All.tab5 : rtab .any (opsOf Tryz.f84 5) = spec_l02All.T5 := by kernel_rfl
theorem spec_l02All.bits5 : waitsOk spec_l02All.T5.2 spec_l02All.B5 = true := by kernel_rfl
def spec_l02All.T9 : Bool × List (List Nat × List Nat) := (true, [([], []), ([], []), ([], []), ([2], [2]), ([], []), ([3, 4], [3, 4]), ([5], [5]), ([], []), ([], []), ([7, 8], [7, 8]), ([9], [9]), ([6, 10], [6, 10]), ([0, 1, 11], [0, 1, 11]), ([12], [12]), ([13], [13]), ([13], [13]), ([14, 12, 0, 1, 2, 3, 4, 5, 6, 7, 8, 9, 10, 11, 12, 13, 14], [1, 14])])
def spec_l02All.B9 : List Nat := [0, 0, 0, 4, 0, 28, 60, 0, 0, 384, 896, 2044, 4095, 8191, 16383, 16383, 32767]
theorem spec_l02All.tab9 : rtab .any (opsOf Tryz.f84 9) = spec_l02All.T9 := by kernel_rfl
theorem spec_l02All.bits9 : waitsOk spec_l02All.T9.2 spec_l02All.B9 = true := by kernel_rfl
set_option maxHeartbeats 8000000 in
set_option maxRecDepth 100000 in
theorem spec_l02All.calls (k : Nat) (a0_0 : Int) (A0_1 : Option Addr) (c0_1 : Nat) (l0_1 : List Int) (r : List (S57)) (w : World) (hr0_1 : Kd.C (Kd.int .i64) w A0_1 l0_1.length l0_1) (hc0_1 : l0_1.length ≤ c0_1) (h : spec_l02All.f k a0_0 l0_1 = some r) :
  Calls Tryz.prog 84 #[.agg #[.int .i64 a0_0, .slice A0_1 l0_1.length c0_1]] w fun e w' => ∃ v0_ : Value, e = .returned (v0_) ∧ Kd.R k57 57 w' w.heap.size (fun _ => True) v0_ r ∧ Below w.heap.size w w' := by
 have hu26 := Tryz.underlying26
 have hu57 := Tryz.underlying57
 have HR0_1 := Aside0.mk hr0_1
 have HC0_1 := Aside0.mk hc0_1
 clear hr0_1 hc0_1
 have HB := Aside0.mk (Below.refl w.heap.size w)
 have H : (spec_l02All.l0 k (([] : List (S57))) 0 a0_0 l0_1) = some r := h
 clear h
 obtain ⟨y312, hy312⟩ : ∃ y_ : List (S57), y_ = (([] : List (S57))) := ⟨_, rfl⟩
 replace H : (spec_l02All.l0 k y312 0 a0_0 l0_1) = some r := by first | (rw [hy312]; with_reducible exact H) | (have H2_ := (Option.bind_some _ _).symm.trans H; rw [hy312]; with_reducible exact H2_) | (have H2_ := (Option.bind_some _ _).symm.trans H; with_reducible exact H2_) | with_reducible exact H | (rw [hy312]; exact H) | exact H
 have Ny312 := Aside0.mk hy312
 clear hy312
 have H' := Aside0.mk H
 clear H
 go_enter Tryz.func84, Tryz.ntmps84
 go_wp2_with (first | ((with_reducible refine gate_dst (N := 1) rfl ?_); refine box_event ?hg (N := 1) ?hd (cs := #[.int .i64 a0_0, .slice A0_1 l0_1.length c0_1]) (t := 26) ?hr ?_; (case hd => rfl); (case hg => rfl); (case hr => first | (go_simp; done) | (go_simp; rfl)); intro gb311 hg w2 hbox hb; have BK311 := Aside0.mk (hbox); have GW311 := gH HB hg; have GE311 := gH HB hg; replace HB := sH HB hb; clear hb hbox hg) | ((with_reducible refine gate_dst (N := 7) rfl ?_); refine Kd.R_lit k57 _ 57 ?hg (N := 7) ?hd (xs := ([] : List (S57))) (inner := []) (ok := fun _ => True) (okp := fun _ => True) ?hr ?hp (fun _ hk => hk) trivial (Below.refl _ _) (Nat.le_refl _) (by simp) ?_; (case hd => rfl); (case hg => rfl); (case hr => first | (go_simp; done) | (go_simp; rfl)); (case hp => exact (Reps.none _ _)); intro v313 w3 ho4 hb hg_ hnew_; clear hg_ hnew_; (first | rw [← Ny312.out] at ho4 | (simp only [Int.reduceToNat] at ho4; rw [← Ny312.out] at ho4)); have HO314 := Aside0.mk (Kd.R_lower ho4 (below_size (pH HB))); replace BK311 := sB BK311 hb; replace HB := sH HB hb; clear hb ho4))
 go_loopg [3, 4] k (fun kq v3 v4 w' => ∃ (x3_1 : List (S57)) (x4_1 : Int), v4 = .int .i64 x4_1 ∧ Aside0 (spec_l02All.l0 kq x3_1 x4_1 a0_0 l0_1 = some r) ∧ Aside0 (kq ≤ k) ∧ Aside0 (Kd.R k57 57 w' w.heap.size (fun _ => True) v3 x3_1) ∧ Aside0 (w'.heap[gb311]? = some (.cells #[.int .i64 a0_0, (.slice A0_1 l0_1.length c0_1)] 26 (0, 0))) ∧ Aside0 (Below w.heap.size w w'))
 case atStart => exact ⟨(y312), (0), (by first | rfl | (simp; done) | (simp [*]; done)), H', ⟨Nat.le_refl _⟩, ⟨by (with_reducible repeat (first | apply Kd.R_alloc | apply Kd.R_drewN | apply Kd.R_drew)); exact HO314.out⟩, ⟨pB BK311⟩, ⟨pH HB⟩⟩
 case round =>
  clear H'
  try clear p2
  obtain ⟨x3_1, x4_1, rfl, HA, HK1, HO_3, BK311, HB⟩ := hrel
  cases gk with
  | zero => exact absurd HA.out (by simp [spec_l02All.l0])
  | succ k1 =>
   have H := HA.out
   clear HA
   simp only [spec_l02All.l0] at H
   by_cases c5 : x4_1 < (l0_1.length : Int)
   ·rw [if_pos c5] at H
    have c5b0 : decide (x4_1 < (l0_1.length : Int)) = true := decide_eq_true c5
    clear c5
    by_cases c6 : 0 ≤ x4_1
    ·rw [if_pos c6] at H
     have c6b0 : decide (0 ≤ x4_1) = true := decide_eq_true c6
     clear c6
     replace H := Option.bind_eq_some_iff.mp H
     obtain ⟨t316, A70, H⟩ := H
     try dsimp only at H
     have A7 := Aside0.mk A70
     clear A70
     have H' := Aside0.mk H
     clear H
     have hcz8_0 : wr.cell? ⟨gb311, 0, none⟩ = some (.int .i64 a0_0) := cB BK311 0
     have hcz8_1 : wr.cell? ⟨gb311, 1, none⟩ = some (.slice A0_1 l0_1.length c0_1) := cB BK311 1
     have hfz8_0 := zB BK311 0
     have hfz8_1 := zB BK311 1
     try go_wp2
     replace HO_3 := Aside0.mk (Kd.R_drew HO_3.out)
     replace BK311 := dB BK311
     replace HB := dH HB
     have p315 : 0 ≤ (x4_1 : Int) := of_decide_eq_true (by first | (with_reducible assumption) | assumption)
     have q315 : x4_1 < (l0_1.length : Int) := of_decide_eq_true (by first | (with_reducible assumption) | assumption)
     obtain ⟨ad315, e315, hx315_0⟩ := Kd.at_int HR0_1.out x4_1 p315 q315
     have hw315_0 := hx315_0
     cases e315
     replace hx315_0 := cH HB hx315_0
     replace p315 := eq_true p315
     replace q315 := eq_true q315
     refine st_ 8 (S := fun w' => w'.cell? ⟨gb311, 0, none⟩ = some (.int .i64 a0_0) ∧ w'.cell? ⟨gb311, 1, none⟩ = some (.slice (some ad315) l0_1.length c0_1) ∧ w'.cell? (ad315.add (x4_1).toNat) = some (.int .i64 (rd l0_1 x4_1))) (ds := []) ⟨cB BK311 0, cB BK311 1, (cH HB hw315_0 :)⟩ (fun hHeld => ?_); refine with_tabW spec_l02All.tab5 spec_l02All.bits5 (fun HT_ HW_ => ?_)
     generalize wr.drew = w9 at HO_3 BK311 HB hx315_0 hHeld ⊢
     refine pu_ 1 16 2 HT_ ?_
     refine pu_ 3 18 10 HT_ ?_
     refine tk_ 0 15 11 HT_ HW_ hHeld ?_
     refine tk_ 2 17 15 HT_ HW_ hHeld ?_
     refine pu_ 4 19 31 HT_ ?_
     refine tk_ 5 20 63 HT_ HW_ hHeld ?_
     refine on_ 6 (some 21) 127 HT_ (fun K hK => ?_)
     refine ca_ Tryz.func103 #[.agg #[.int .i64 a0_0, .slice (some ad315) l0_1.length c0_1], .int .i64 (rd l0_1 x4_1)] ?_
     with_reducible refine (spec_l01Above.calls k1 a0_0 _ _ l0_1 (rd l0_1 x4_1) t316 _ ?side1 ?side2 A7.out).mono ?_
     (case side1 => exact pC ((Kd.C_below HR0_1.out HB.out)))
     (case side2 => exact HC0_1.out)
     rintro e w10 ⟨v317, rfl, ho0, hb⟩
     refine ⟨_, rfl, ?_⟩
     replace HO_3 := sR HO_3 hb
     have HO318 := Aside0.mk (Kd.R_lower ho0 (below_size (pH HB)))
     replace BK311 := sB BK311 hb
     replace HB := sH HB hb
     (try clear hb)
     (try clear hb2)
     (try clear hk)
     (try clear hi)
     (try clear ho0)
     refine hK.out _ _ ⟨cB BK311 0, cB BK311 1, (cH HB hw315_0 :)⟩ (fun hHeld => ?_)
     clear hK K
     refine nm_ ?_
     refine pu_ 7 5 255 HT_ ?_
     refine dn_ HT_ ?_
     try go_wp2
     go_loopg [3, 6] k1 (fun kq v3 v6 w' => ∃ (x3_2 : List (S57)) (x6_2 : Int), v6 = .int .i64 x6_2 ∧ Aside0 (spec_l02All.l1 kq x3_2 x4_1 t316 x6_2 a0_0 l0_1 = some r) ∧ Aside0 (kq ≤ k1) ∧ Aside0 (Kd.R k57 57 w' w.heap.size (fun _ => True) v3 x3_2) ∧ Aside0 (Kd.R (Kd.int .i64) 2 w' w.heap.size (fun _ => True) v317 t316) ∧ Aside0 (w'.heap[gb311]? = some (.cells #[.int .i64 a0_0, (.slice (some ad315) l0_1.length c0_1)] 26 (0, 0))) ∧ Aside0 (Below w.heap.size w w'))
     case atStart => exact ⟨(x3_1), (0), (by first | rfl | (simp; done) | (simp [*]; done)), H', ⟨Nat.le_refl _⟩, ⟨by (with_reducible repeat (first | apply Kd.R_alloc | apply Kd.R_drewN | apply Kd.R_drew)); exact HO_3.out⟩, ⟨by (with_reducible repeat (first | apply Kd.R_alloc | apply Kd.R_drewN | apply Kd.R_drew)); exact HO318.out⟩, ⟨pB BK311⟩, ⟨pH HB⟩⟩
     case round =>
      clear H'
      try clear c1
      try clear p2
      try clear p3
      try clear q3
      try clear hx3
      try clear c5
      try clear c5b0
      try clear c6
      try clear c6b0
      try clear c8
      try clear c10
      try clear hcz8_0
      try clear hcz8_1
      try clear hfz8_0
      try clear hfz8_1
      try clear hx315_0
      try clear p2
      try clear p315
      try clear q315
      obtain ⟨x3_2, x6_2, rfl, HA, HK2, HO_3, HO_5, BK311, HB⟩ := hrel
      cases gk with
      | zero => exact absurd HA.out (by simp [spec_l02All.l1])
      | succ k2 =>
       have H := HA.out
       clear HA
       simp only [spec_l02All.l1] at H
       by_cases c11 : x6_2 < (t316.length : Int)
       ·rw [if_pos c11] at H
        have c11b0 : decide (x6_2 < (t316.length : Int)) = true := decide_eq_true c11
        clear c11
        by_cases c12 : 0 ≤ x4_1
        ·rw [if_pos c12] at H
         have c12b0 : decide (0 ≤ x4_1) = true := decide_eq_true c12
         clear c12
         by_cases c13 : x4_1 < (l0_1.length : Int)
         ·rw [if_pos c13] at H
          have c13b0 : decide (x4_1 < (l0_1.length : Int)) = true := decide_eq_true c13
          clear c13
          by_cases c14 : 0 ≤ x6_2
          ·rw [if_pos c14] at H
           have c14b0 : decide (0 ≤ x6_2) = true := decide_eq_true c14
           clear c14
           replace H := Option.bind_eq_some_iff.mp H
           obtain ⟨⟨t321, t324⟩, A150, H⟩ := H
           try dsimp only at H
           have A15 := Aside0.mk A150
           clear A150
           have H' := Aside0.mk H
           clear H
           obtain ⟨Ao16, co16, eo16⟩ := Kd.R_slice HO_5.out
           subst eo16
           try go_wp2
           replace HO_3 := Aside0.mk (Kd.R_drew HO_3.out)
           replace HO_5 := Aside0.mk (Kd.R_drew HO_5.out)
           replace BK311 := dB BK311
           replace HB := dH HB
           have p319 : 0 ≤ (x4_1 : Int) := of_decide_eq_true (by first | (with_reducible assumption) | assumption)
           have q319 : x4_1 < (l0_1.length : Int) := of_decide_eq_true (by first | (with_reducible assumption) | assumption)
           obtain ⟨ad319, e319, hx319_0⟩ := Kd.at_int HR0_1.out x4_1 p319 q319
           have hw319_0 := hx319_0
           obtain rfl : ad315 = ad319 := (by injection e319)
           replace hx319_0 := cH HB hx319_0
           replace p319 := eq_true p319
           replace q319 := eq_true q319
           have p320 : 0 ≤ (x6_2 : Int) := of_decide_eq_true (by first | (with_reducible assumption) | assumption)
           have q320 : x6_2 < (t316.length : Int) := of_decide_eq_true (by first | (with_reducible assumption) | assumption)
           obtain ⟨ad320, e320, hx320_0⟩ := Kd.at_int (Kd.R_reads' HO_5.out).2.2 x6_2 p320 q320
           cases e320
           replace p320 := eq_true p320
           replace q320 := eq_true q320
           obtain ⟨Ao18, co18, eo18⟩ := Kd.R_slice HO_3.out
           (first | subst eo18 | (injection eo18 with f1_ f2_ f3_; have f4_ := f1_.symm; have f5_ := f3_.symm; clear f1_ f2_ f3_; subst f4_; subst f5_))
           refine st_ 17 (S := fun w' => w'.cell? ⟨gb311, 0, none⟩ = some (.int .i64 a0_0) ∧ w'.cell? ⟨gb311, 1, none⟩ = some (.slice (some ad315) l0_1.length c0_1) ∧ w'.cell? (ad315.add (x4_1).toNat) = some (.int .i64 (rd l0_1 x4_1)) ∧ w'.cell? (ad320.add (x6_2).toNat) = some (.int .i64 (rd t316 x6_2))) (ds := []) ⟨cB BK311 0, cB BK311 1, (cH HB hw319_0 :), hx320_0⟩ (fun hHeld => ?_); refine with_tabW spec_l02All.tab9 spec_l02All.bits9 (fun HT_ HW_ => ?_)
           generalize wr.drew = w17 at HO_3 HO_5 BK311 HB hx319_0 hx320_0 hHeld ⊢
           refine pu_ 1 30 2 HT_ ?_
           refine pu_ 2 31 6 HT_ ?_
           refine pu_ 4 33 22 HT_ ?_
           refine pu_ 7 36 150 HT_ ?_
           refine pu_ 8 37 406 HT_ ?_
           refine pu_ 9 38 918 HT_ ?_
           refine tk_ 0 29 919 HT_ HW_ hHeld ?_
           refine tk_ 3 32 927 HT_ HW_ hHeld ?_
           refine pu_ 5 34 959 HT_ ?_
           refine tk_ 6 35 1023 HT_ HW_ hHeld ?_
           refine tk_ 10 39 2047 HT_ HW_ hHeld ?_
           refine pu_ 11 40 4095 HT_ ?_
           refine on_ 12 (some 41) 8191 HT_ (fun K hK => ?_)
           refine ca_ Tryz.func85 #[.agg #[.int .i64 a0_0, .slice (some ad315) l0_1.length c0_1], .slice Ao18 x3_2.length co18, .agg #[.int .i64 (rd l0_1 x4_1), .int .i64 (rd t316 x6_2)]] ?_
           with_reducible refine (spec_l02With.calls k2 a0_0 _ _ l0_1 _ _ x3_2 (rd l0_1 x4_1) (rd t316 x6_2) t321 t324 _ ?side1 ?side2 ?side3 ?side4 A15.out).mono ?_
           (case side1 => exact pC ((Kd.C_below HR0_1.out HB.out)))
           (case side2 => exact HC0_1.out)
           (case side3 => exact pC ((Kd.R_reads' HO_3.out).2.2))
           (case side4 => exact (Kd.R_reads' HO_3.out).2.1)
           rintro e w19 ⟨v322, rfl, ho0, hb⟩
           have HS3_ := (hb.cell (World.block_lt_of_cell? _ _ (hHeld.2.2.2))).trans (hHeld.2.2.2)
           refine ⟨_, rfl, ?_⟩
           replace HO_5 := sR HO_5 hb
           have HO323 := Aside0.mk (Kd.R_lower (Kd.R_new' ho0 (Kd.R_lt (pR HO_3))) (below_size (pH HB)))
           replace HO_3 := Aside0.mk (Kd.R_elder' (pR HO_3) (Kd.R_base ho0) hb)
           replace BK311 := sB BK311 hb
           replace HB := sH HB hb
           (try clear hb)
           (try clear hb2)
           (try clear hk)
           (try clear hi)
           (try clear ho0)
           refine hK.out _ _ ⟨cB BK311 0, cB BK311 1, (cH HB hw319_0 :), HS3_⟩ (fun hHeld => ?_)
           clear hK K
           refine nm_ ?_
           refine pu_ 13 28 16383 HT_ ?_
           refine pu_ 14 42 32767 HT_ ?_
           refine pu_ 15 43 65535 HT_ ?_
           refine pu_ 16 3 131071 HT_ ?_
           refine dn_ HT_ ?_
           try go_wp2
           go_roundg k2
           case measure => have := HK1.out; have := HK2.out; omega
           case rel => exact ⟨(t321), (wrap64 (x6_2 + 1)), (by first | rfl | (simp; done) | (simp [*]; done)), H', ⟨by have := HK1.out; have := HK2.out; omega⟩, ⟨by (with_reducible repeat (first | apply Kd.R_alloc | apply Kd.R_drewN | apply Kd.R_drew)); exact Kd.R_mono HO323.out (fun _ hk => trivial)⟩, ⟨by (with_reducible repeat (first | apply Kd.R_alloc | apply Kd.R_drewN | apply Kd.R_drew)); exact HO_5.out⟩, ⟨pB BK311⟩, ⟨pH HB⟩⟩
          ·rw [if_neg c14] at H
           exact absurd H (by simp)
         ·rw [if_neg c13] at H
          exact absurd H (by simp)
        ·rw [if_neg c12] at H
         exact absurd H (by simp)
       ·rw [if_neg c11] at H
        have c11b0 : decide (x6_2 < (t316.length : Int)) = false := decide_eq_false c11
        clear c11
        have H' := Aside0.mk H
        clear H
        obtain ⟨Ao20, co20, eo20⟩ := Kd.R_slice HO_5.out
        subst eo20
        go_wp2
        go_roundg k2
        case measure => have := HK1.out; have := HK2.out; omega
        case rel => exact ⟨(x3_2), (wrap64 (x4_1 + 1)), (by first | rfl | (simp; done) | (simp [*]; done)), H', ⟨by have := HK1.out; have := HK2.out; omega⟩, ⟨by (with_reducible repeat (first | apply Kd.R_alloc | apply Kd.R_drewN | apply Kd.R_drew)); exact HO_3.out⟩, ⟨pB BK311⟩, ⟨pH HB⟩⟩
    ·rw [if_neg c6] at H
     exact absurd H (by simp)
   ·rw [if_neg c5] at H
    have c5b0 : decide (x4_1 < (l0_1.length : Int)) = false := decide_eq_false c5
    clear c5
    obtain rfl := Option.some.inj H
    have hcz21_0 : wr.cell? ⟨gb311, 0, none⟩ = some (.int .i64 a0_0) := cB BK311 0
    have hcz21_1 : wr.cell? ⟨gb311, 1, none⟩ = some (.slice A0_1 l0_1.length c0_1) := cB BK311 1
    have hfz21_0 := zB BK311 0
    have hfz21_1 := zB BK311 1
    go_wp2
    go_ret
    exact ⟨_, by first | rfl | (simp [errW_none, errW_some] <;> rfl) | (simp [*, errW_none, errW_some] <;> rfl) | (exfalso; simp_all), by (with_reducible repeat (first | apply Kd.R_alloc | apply Kd.R_drewN | apply Kd.R_drew)); exact HO_3.out, pH HB⟩
def spec_l02Fill.l0 : Nat → List (S57) → List (S57) → Int → Int → List Int → Option ((List (S57)))
 | 0, _, _, _, _, _ => none
 | k + 1, x1, x5, x6, x326000, x326001 => if x6 < (x5.length : Int) then (if 0 ≤ x6 then ((spec_l02With.f k x326000 x326001 x1 ((rd_T57 x5 x6).f0) ((rd_T57 x5 x6).f1)).bind fun bt330 => (if bt330.2 = true then ((spec_l02Acyclic.f k bt330.1).bind fun t334 => (if t334 = true then (spec_l02Fill.l0 k bt330.1 x5 (wrap64 (x6 + 1)) x326000 x326001) else (spec_l02Fill.l0 k x1 x5 (wrap64 (x6 + 1)) x326000 x326001))) else (spec_l02Fill.l0 k x1 x5 (wrap64 (x6 + 1)) x326000 x326001))) else (none)) else (some x1)
def spec_l02Fill.f (k : Nat) (a0_0 : Int) (l0_1 : List Int) (l1 : List (S57)) : Option ((List (S57))) := (spec_l02All.f k a0_0 l0_1).bind fun t326 => (spec_l02Fill.l0 k l1 t326 0 a0_0 l0_1)
def spec_l02Fill.T5 : Bool × List (List Nat × List Nat) := (true, [([], []), ([], []), ([], []), ([], []), ([2, 3], [2, 3]), ([4], [4]), ([0, 1, 5], [0, 1, 5]), ([6], [6]), ([7], [7]), ([7], [7]), ([8, 6, 0, 1, 2, 3, 4, 5, 6, 7, 8], [8]), ([9, 10, 0, 1, 2, 3, 4, 5, 6, 7, 8, 9, 10], [9])])
def spec_l02Fill.B5 : List Nat := [0, 0, 0, 0, 12, 28, 63, 127, 255, 255, 511, 2047]
theorem spec_l02Fill.tab5 : rtab .any (opsOf Tryz.f86 5) = spec_l02Fill.T5 := by kernel_rfl
theorem spec_l02Fill.bits5 : waitsOk spec_l02Fill.T5.2 spec_l02Fill.B5 = true := by kernel_rfl
set_option maxHeartbeats 8000000 in
set_option maxRecDepth 100000 in
theorem spec_l02Fill.calls (k : Nat) (a0_0 : Int) (A0_1 : Option Addr) (c0_1 : Nat) (l0_1 : List Int) (P1_ : Nat → Prop) (A1 : Option Addr) (c1 : Nat) (l1 : List (S57)) (r : List (S57)) (w : World) (hr0_1 : Kd.C (Kd.int .i64) w A0_1 l0_1.length l0_1) (hc0_1 : l0_1.length ≤ c0_1) (hs1 : Kd.V k57 57 w w.heap.size (fun k_ => P1_ k_) (.slice A1 l1.length c1) l1) (h : spec_l02Fill.f k a0_0 l0_1 l1 = some r) :
  Calls Tryz.prog 86 #[.agg #[.int .i64 a0_0, .slice A0_1 l0_1.length c0_1], .slice A1 l1.length c1] w fun e w' => ∃ v0_ : Value, e = .returned (v0_) ∧ Kd.V k57 57 w' w.heap.size (fun k_ => (P1_ k_ ∨ w.heap.size ≤ k_)) v0_ r ∧ Below w.heap.size w w' := by
 have hu26 := Tryz.underlying26
 have hu57 := Tryz.underlying57
 have HR0_1 := Aside0.mk hr0_1
 have HC0_1 := Aside0.mk hc0_1
 clear hr0_1 hc0_1
 have HO1 := Aside0.mk (show Kd.V k57 57 w w.heap.size (fun k_ => (P1_ k_ ∨ w.heap.size ≤ k_)) (.slice A1 l1.length c1) l1 from Kd.V_mono hs1 (fun k_ hk => .inl hk))
 have HB := Aside0.mk (Below.refl w.heap.size w)
 have H : ((spec_l02All.f k a0_0 l0_1).bind fun t326 => (spec_l02Fill.l0 k l1 t326 0 a0_0 l0_1)) = some r := h
 clear h
 replace H := Option.bind_eq_some_iff.mp H
 obtain ⟨t326, A30, H⟩ := H
 try dsimp only at H
 have A3 := Aside0.mk A30
 clear A30
 have H' := Aside0.mk H
 clear H
 go_enter Tryz.func86, Tryz.ntmps86
 go_wp2_with (first | ((with_reducible refine gate_dst (N := 2) rfl ?_); refine box_event ?hg (N := 2) ?hd (cs := #[.int .i64 a0_0, .slice A0_1 l0_1.length c0_1]) (t := 26) ?hr ?_; (case hd => rfl); (case hg => rfl); (case hr => first | (go_simp; done) | (go_simp; rfl)); intro gb325 hg w4 hbox hb; have n0_ := Aside0.mk (Kd.V_below (Kd.V_elderB (by (with_reducible repeat (first | apply Kd.V_alloc | apply Kd.V_drewN | apply Kd.V_drew)); exact HO1.out) gb325 (Nat.le_of_eq hg.symm)) hb); have n1_ := sH HB hb; have n2_ := Aside0.mk (hbox); have n3_ := gH HB hg; have n4_ := gH HB hg; clear HO1; clear HB; have HO1 := n0_; have HB := n1_; have BK325 := n2_; have GW325 := n3_; have GE325 := n4_; clear n0_ n1_ n2_ n3_ n4_; clear hb hbox hg; have hcz5_0 : w4.cell? ⟨gb325, 0, none⟩ = some (.int .i64 a0_0) := cB BK325 0; have hcz5_1 : w4.cell? ⟨gb325, 1, none⟩ = some (.slice A0_1 l0_1.length c0_1) := cB BK325 1; have hfz5_0 := zB BK325 0; have hfz5_1 := zB BK325 1) | ((with_reducible refine gate_callee (f := 84) rfl ?_); refine cl_ (some 10) Tryz.func84 #[.agg #[.int .i64 a0_0, .slice A0_1 l0_1.length c0_1]] ?_; (with_reducible refine (spec_l02All.calls k a0_0 _ _ l0_1 t326 _ ?side1 ?side2 A3.out).mono ?_); (case side1 => exact pC ((Kd.C_below HR0_1.out HB.out))); (case side2 => exact HC0_1.out); rintro e w6 ⟨v327, rfl, ho0, hb⟩; refine ⟨_, rfl, ?_⟩; have n0_ := Aside0.mk (Kd.V_elder' (by (with_reducible repeat (first | apply Kd.V_alloc | apply Kd.V_drewN | apply Kd.V_drew)); exact HO1.out) (Kd.R_base ho0) hb); have n1_ := Aside0.mk (Kd.R_lower (Kd.R_newM (M := fun k_ => (w.heap.size ≤ k_)) ho0 (below_size (pH HB)) (fun k_ h_ => h_)) (below_size (pH HB))); have n2_ := sB BK325 hb; have n3_ := sH HB hb; clear HO1; clear BK325; clear HB; have HO1 := n0_; have HO328 := n1_; have BK325 := n2_; have HB := n3_; clear n0_ n1_ n2_ n3_; (try clear hb); (try clear hi); (try clear ho0)))
 go_loopg [1, 6] k (fun kq v1 v6 w' => ∃ (x1_1 : List (S57)) (x6_1 : Int), v6 = .int .i64 x6_1 ∧ Aside0 (spec_l02Fill.l0 kq x1_1 t326 x6_1 a0_0 l0_1 = some r) ∧ Aside0 (kq ≤ k) ∧ Aside0 (Kd.V k57 57 w' w.heap.size (fun k_ => (P1_ k_ ∨ w.heap.size ≤ k_) ∧ some k_ ≠ (v327 : Value).ownBlock ∧ k_ ≠ gb325) v1 x1_1) ∧ Aside0 (Kd.R k57 57 w' w.heap.size (fun k_ => (w.heap.size ≤ k_)) v327 t326) ∧ Aside0 (w'.heap[gb325]? = some (.cells #[.int .i64 a0_0, (.slice A0_1 l0_1.length c0_1)] 26 (0, 0))) ∧ Aside0 (Below w.heap.size w w'))
 case atStart => exact ⟨(l1), (0), (by first | rfl | (simp; done) | (simp [*]; done)), H', ⟨Nat.le_refl _⟩, ⟨by (with_reducible repeat (first | apply Kd.V_alloc | apply Kd.V_drewN | apply Kd.V_drew)); exact Kd.V_mono HO1.out (fun _ hk => ⟨hk.1.1, ⟨hk.2, hk.1.2⟩⟩)⟩, ⟨by (with_reducible repeat (first | apply Kd.R_alloc | apply Kd.R_drewN | apply Kd.R_drew)); exact Kd.R_mono HO328.out (fun _ hk => hk.1)⟩, ⟨pB BK325⟩, ⟨pH HB⟩⟩
 case round =>
  clear H'
  try clear c1
  try clear p2
  try clear hcz5_0
  try clear hcz5_1
  try clear hfz5_0
  try clear hfz5_1
  obtain ⟨x1_1, x6_1, rfl, HA, HK1, HO_1, HO_5, BK325, HB⟩ := hrel
  cases gk with
  | zero => exact absurd HA.out (by simp [spec_l02Fill.l0])
  | succ k1 =>
   have H := HA.out
   clear HA
   simp only [spec_l02Fill.l0] at H
   by_cases c7 : x6_1 < (t326.length : Int)
   ·rw [if_pos c7] at H
    have c7b0 : decide (x6_1 < (t326.length : Int)) = true := decide_eq_true c7
    clear c7
    by_cases c8 : 0 ≤ x6_1
    ·rw [if_pos c8] at H
     have c8b0 : decide (0 ≤ x6_1) = true := decide_eq_true c8
     clear c8
     replace H := Option.bind_eq_some_iff.mp H
     obtain ⟨⟨t330, t333⟩, A90, H⟩ := H
     try dsimp only at H
     have A9 := Aside0.mk A90
     clear A90
     by_cases c10 : t333 = true
     ·subst c10
      have H1 : ((spec_l02Acyclic.f k1 t330).bind fun t334 => (if t334 = true then (spec_l02Fill.l0 k1 t330 t326 (wrap64 (x6_1 + 1)) a0_0 l0_1) else (spec_l02Fill.l0 k1 x1_1 t326 (wrap64 (x6_1 + 1)) a0_0 l0_1))) = some r := by rw [if_pos rfl] at H; exact H
      clear H
      have H := H1
      clear H1
      replace H := Option.bind_eq_some_iff.mp H
      obtain ⟨t334, A110, H⟩ := H
      try dsimp only at H
      have A11 := Aside0.mk A110
      clear A110
      by_cases c12 : t334 = true
      ·subst c12
       have H1 : (spec_l02Fill.l0 k1 t330 t326 (wrap64 (x6_1 + 1)) a0_0 l0_1) = some r := by rw [if_pos rfl] at H; exact H
       clear H
       have H := H1
       clear H1
       have H' := Aside0.mk H
       clear H
       obtain ⟨Ao13, co13, eo13⟩ := Kd.R_slice HO_5.out
       subst eo13
       try go_wp2
       replace HO_1 := Aside0.mk (Kd.V_drew HO_1.out)
       replace HO_5 := Aside0.mk (Kd.R_drew HO_5.out)
       replace BK325 := dB BK325
       replace HB := dH HB
       have p329 : 0 ≤ (x6_1 : Int) := of_decide_eq_true (by first | (with_reducible assumption) | assumption)
       have q329 : x6_1 < (t326.length : Int) := of_decide_eq_true (by first | (with_reducible assumption) | assumption)
       obtain ⟨ad329, e329, hx329_0, hx329_1⟩ := at_T57 (Kd.R_reads' HO_5.out).2.2 x6_1 p329 q329
       cases e329
       replace p329 := eq_true p329
       replace q329 := eq_true q329
       obtain ⟨Ao15, co15, eo15⟩ := Kd.V_slice HO_1.out
       (first | subst eo15 | (injection eo15 with f1_ f2_ f3_; have f4_ := f1_.symm; have f5_ := f3_.symm; clear f1_ f2_ f3_; subst f4_; subst f5_))
       refine st_ 12 (S := fun w' => w'.cell? ⟨gb325, 0, none⟩ = some (.int .i64 a0_0) ∧ w'.cell? ⟨gb325, 1, none⟩ = some (.slice A0_1 l0_1.length c0_1) ∧ w'.cell? (ad329.add ((x6_1).toNat * 2)) = some (.int .i64 ((rd_T57 t326 x6_1).f0)) ∧ w'.cell? ⟨(ad329.add ((x6_1).toNat * 2)).block, (ad329.add ((x6_1).toNat * 2)).off + 1, none⟩ = some (.int .i64 ((rd_T57 t326 x6_1).f1))) (ds := []) ⟨cB BK325 0, cB BK325 1, hx329_0, hx329_1⟩ (fun hHeld => ?_); refine with_tabW spec_l02Fill.tab5 spec_l02Fill.bits5 (fun HT_ HW_ => ?_)
       generalize wr.drew = w14 at HO_1 HO_5 BK325 HB hx329_0 hx329_1 hHeld ⊢
       refine pu_ 1 19 2 HT_ ?_
       refine pu_ 2 20 6 HT_ ?_
       refine pu_ 3 21 14 HT_ ?_
       refine pu_ 4 22 30 HT_ ?_
       refine tk_ 0 18 31 HT_ HW_ hHeld ?_
       refine tk_ 5 23 63 HT_ HW_ hHeld ?_
       refine on_ 6 (some 24) 127 HT_ (fun K hK => ?_)
       refine ca_ Tryz.func85 #[.agg #[.int .i64 a0_0, .slice A0_1 l0_1.length c0_1], .slice Ao15 x1_1.length co15, .agg #[.int .i64 ((rd_T57 t326 x6_1).f0), .int .i64 ((rd_T57 t326 x6_1).f1)]] ?_
       with_reducible refine (spec_l02With.calls k1 a0_0 _ _ l0_1 _ _ x1_1 ((rd_T57 t326 x6_1).f0) ((rd_T57 t326 x6_1).f1) t330 true _ ?side1 ?side2 ?side3 ?side4 A9.out).mono ?_
       (case side1 => exact pC ((Kd.C_below HR0_1.out HB.out)))
       (case side2 => exact HC0_1.out)
       (case side3 => exact pC ((Kd.V_reads' HO_1.out).2.2))
       (case side4 => exact (Kd.V_reads' HO_1.out).2.1)
       rintro e w16 ⟨v331, rfl, ho0, hb⟩
       have HS2_ := (hb.cell (World.block_lt_of_cell? _ _ (hHeld.2.2.1))).trans (hHeld.2.2.1)
       have HS3_ := (hb.cell (World.block_lt_of_cell? _ _ (hHeld.2.2.2))).trans (hHeld.2.2.2)
       refine ⟨_, rfl, ?_⟩
       replace HO_1 := Aside0.mk (Kd.V_elder' (by (with_reducible repeat (first | apply Kd.V_alloc | apply Kd.V_drewN | apply Kd.V_drew)); exact HO_1.out) (Kd.R_base ho0) hb)
       have HO332 := Aside0.mk (Kd.R_lower (Kd.R_new' (Kd.R_newM (M := fun k_ => (w.heap.size ≤ k_)) ho0 (below_size (pH HB)) (fun k_ h_ => h_)) (Kd.R_lt (pR HO_5))) (below_size (pH HB)))
       replace HO_5 := Aside0.mk (Kd.R_elder' (pR HO_5) (Kd.R_base ho0) hb)
       replace BK325 := sB BK325 hb
       replace HB := sH HB hb
       (try clear hb)
       (try clear hb2)
       (try clear hk)
       (try clear hi)
       (try clear ho0)
       refine hK.out _ _ ⟨cB BK325 0, cB BK325 1, HS2_, HS3_⟩ (fun hHeld => ?_)
       clear hK K
       refine nm_ ?_
       refine pu_ 7 17 255 HT_ ?_
       refine pu_ 8 25 511 HT_ ?_
       refine pu_ 9 26 1023 HT_ ?_
       refine pu_ 10 7 2047 HT_ ?_
       refine pu_ 11 8 4095 HT_ ?_
       refine dn_ HT_ ?_
       obtain ⟨Ao17, co17, eo17⟩ := Kd.R_slice HO332.out
       subst eo17
       try go_wp2_with (first | (go_at_call 32; (with_reducible refine (spec_l02Acyclic.calls k1 _ _ t330 true _ ?side1 ?side2 A11.out).mono ?_); (case side1 => exact pC ((Kd.R_reads' HO332.out).2.2)); (case side2 => exact (Kd.R_reads' HO332.out).2.1); rintro e w18 ⟨rfl, hb⟩; have n0_ := Aside0.mk (Kd.V_below (by (with_reducible repeat (first | apply Kd.V_alloc | apply Kd.V_drewN | apply Kd.V_drew)); exact HO_1.out) hb); have n1_ := sR HO_5 hb; have n2_ := sR HO332 hb; have n3_ := sB BK325 hb; have n4_ := sH HB hb; clear HO_1; clear HO_5; clear HO332; clear BK325; clear HB; have HO_1 := n0_; have HO_5 := n1_; have HO332 := n2_; have BK325 := n3_; have HB := n4_; clear n0_ n1_ n2_ n3_ n4_; (try clear hb); (try clear hi)))
       go_roundg k1
       case measure => have := HK1.out; omega
       case rel => exact ⟨(t330), (wrap64 (x6_1 + 1)), (by first | rfl | (simp; done) | (simp [*]; done)), H', ⟨by have := HK1.out; omega⟩, ⟨(by refine Kd.V_mono (ok := ?ok0_) (Kd.R_V (base := ?base0_) ?hR0_) ?hM0_; (case hR0_ => (with_reducible repeat (first | apply Kd.R_alloc | apply Kd.R_drewN | apply Kd.R_drew)); exact Kd.R_types HO332.out BK325.out (by decide)); (case hM0_ => exact fun k_ hk => ⟨.inr hk.1.1.1, ⟨hk.1.2, hk.2⟩⟩))⟩, ⟨by (with_reducible repeat (first | apply Kd.R_alloc | apply Kd.R_drewN | apply Kd.R_drew)); exact Kd.R_mono HO_5.out (fun _ hk => hk.1)⟩, ⟨pB BK325⟩, ⟨pH HB⟩⟩
      ·replace c12 := Bool.eq_false_iff.mpr c12
       subst c12
       have H1 : (spec_l02Fill.l0 k1 x1_1 t326 (wrap64 (x6_1 + 1)) a0_0 l0_1) = some r := by rw [if_neg (show ¬ (false = true) by decide)] at H; exact H
       clear H
       have H := H1
       clear H1
       have H' := Aside0.mk H
       clear H
       obtain ⟨Ao19, co19, eo19⟩ := Kd.R_slice HO_5.out
       subst eo19
       try go_wp2
       replace HO_1 := Aside0.mk (Kd.V_drew HO_1.out)
       replace HO_5 := Aside0.mk (Kd.R_drew HO_5.out)
       replace BK325 := dB BK325
       replace HB := dH HB
       have p329 : 0 ≤ (x6_1 : Int) := of_decide_eq_true (by first | (with_reducible assumption) | assumption)
       have q329 : x6_1 < (t326.length : Int) := of_decide_eq_true (by first | (with_reducible assumption) | assumption)
       obtain ⟨ad329, e329, hx329_0, hx329_1⟩ := at_T57 (Kd.R_reads' HO_5.out).2.2 x6_1 p329 q329
       cases e329
       replace p329 := eq_true p329
       replace q329 := eq_true q329
       obtain ⟨Ao21, co21, eo21⟩ := Kd.V_slice HO_1.out
       (first | subst eo21 | (injection eo21 with f1_ f2_ f3_; have f4_ := f1_.symm; have f5_ := f3_.symm; clear f1_ f2_ f3_; subst f4_; subst f5_))
       refine st_ 12 (S := fun w' => w'.cell? ⟨gb325, 0, none⟩ = some (.int .i64 a0_0) ∧ w'.cell? ⟨gb325, 1, none⟩ = some (.slice A0_1 l0_1.length c0_1) ∧ w'.cell? (ad329.add ((x6_1).toNat * 2)) = some (.int .i64 ((rd_T57 t326 x6_1).f0)) ∧ w'.cell? ⟨(ad329.add ((x6_1).toNat * 2)).block, (ad329.add ((x6_1).toNat * 2)).off + 1, none⟩ = some (.int .i64 ((rd_T57 t326 x6_1).f1))) (ds := []) ⟨cB BK325 0, cB BK325 1, hx329_0, hx329_1⟩ (fun hHeld => ?_); refine with_tabW spec_l02Fill.tab5 spec_l02Fill.bits5 (fun HT_ HW_ => ?_)
       generalize wr.drew = w20 at HO_1 HO_5 BK325 HB hx329_0 hx329_1 hHeld ⊢
       refine pu_ 1 19 2 HT_ ?_
       refine pu_ 2 20 6 HT_ ?_
       refine pu_ 3 21 14 HT_ ?_
       refine pu_ 4 22 30 HT_ ?_
       refine tk_ 0 18 31 HT_ HW_ hHeld ?_
       refine tk_ 5 23 63 HT_ HW_ hHeld ?_
       refine on_ 6 (some 24) 127 HT_ (fun K hK => ?_)
       refine ca_ Tryz.func85 #[.agg #[.int .i64 a0_0, .slice A0_1 l0_1.length c0_1], .slice Ao21 x1_1.length co21, .agg #[.int .i64 ((rd_T57 t326 x6_1).f0), .int .i64 ((rd_T57 t326 x6_1).f1)]] ?_
       with_reducible refine (spec_l02With.calls k1 a0_0 _ _ l0_1 _ _ x1_1 ((rd_T57 t326 x6_1).f0) ((rd_T57 t326 x6_1).f1) t330 true _ ?side1 ?side2 ?side3 ?side4 A9.out).mono ?_
       (case side1 => exact pC ((Kd.C_below HR0_1.out HB.out)))
       (case side2 => exact HC0_1.out)
       (case side3 => exact pC ((Kd.V_reads' HO_1.out).2.2))
       (case side4 => exact (Kd.V_reads' HO_1.out).2.1)
       rintro e w22 ⟨v331, rfl, ho0, hb⟩
       have HS2_ := (hb.cell (World.block_lt_of_cell? _ _ (hHeld.2.2.1))).trans (hHeld.2.2.1)
       have HS3_ := (hb.cell (World.block_lt_of_cell? _ _ (hHeld.2.2.2))).trans (hHeld.2.2.2)
       refine ⟨_, rfl, ?_⟩
       replace HO_1 := Aside0.mk (Kd.V_elder' (by (with_reducible repeat (first | apply Kd.V_alloc | apply Kd.V_drewN | apply Kd.V_drew)); exact HO_1.out) (Kd.R_base ho0) hb)
       have HO332 := Aside0.mk (Kd.R_lower (Kd.R_new' (Kd.R_newM (M := fun k_ => (w.heap.size ≤ k_)) ho0 (below_size (pH HB)) (fun k_ h_ => h_)) (Kd.R_lt (pR HO_5))) (below_size (pH HB)))
       replace HO_5 := Aside0.mk (Kd.R_elder' (pR HO_5) (Kd.R_base ho0) hb)
       replace BK325 := sB BK325 hb
       replace HB := sH HB hb
       (try clear hb)
       (try clear hb2)
       (try clear hk)
       (try clear hi)
       (try clear ho0)
       refine hK.out _ _ ⟨cB BK325 0, cB BK325 1, HS2_, HS3_⟩ (fun hHeld => ?_)
       clear hK K
       refine nm_ ?_
       refine pu_ 7 17 255 HT_ ?_
       refine pu_ 8 25 511 HT_ ?_
       refine pu_ 9 26 1023 HT_ ?_
       refine pu_ 10 7 2047 HT_ ?_
       refine pu_ 11 8 4095 HT_ ?_
       refine dn_ HT_ ?_
       obtain ⟨Ao23, co23, eo23⟩ := Kd.R_slice HO332.out
       subst eo23
       try go_wp2_with (first | (go_at_call 32; (with_reducible refine (spec_l02Acyclic.calls k1 _ _ t330 false _ ?side1 ?side2 A11.out).mono ?_); (case side1 => exact pC ((Kd.R_reads' HO332.out).2.2)); (case side2 => exact (Kd.R_reads' HO332.out).2.1); rintro e w24 ⟨rfl, hb⟩; have n0_ := Aside0.mk (Kd.V_below (by (with_reducible repeat (first | apply Kd.V_alloc | apply Kd.V_drewN | apply Kd.V_drew)); exact HO_1.out) hb); have n1_ := sR HO_5 hb; have n2_ := sR HO332 hb; have n3_ := sB BK325 hb; have n4_ := sH HB hb; clear HO_1; clear HO_5; clear HO332; clear BK325; clear HB; have HO_1 := n0_; have HO_5 := n1_; have HO332 := n2_; have BK325 := n3_; have HB := n4_; clear n0_ n1_ n2_ n3_ n4_; (try clear hb); (try clear hi)))
       go_roundg k1
       case measure => have := HK1.out; omega
       case rel => exact ⟨(x1_1), (wrap64 (x6_1 + 1)), (by first | rfl | (simp; done) | (simp [*]; done)), H', ⟨by have := HK1.out; omega⟩, ⟨by (with_reducible repeat (first | apply Kd.V_alloc | apply Kd.V_drewN | apply Kd.V_drew)); exact Kd.V_mono HO_1.out (fun _ hk => ⟨hk.1.1, ⟨hk.1.2.1, hk.1.2.2⟩⟩)⟩, ⟨by (with_reducible repeat (first | apply Kd.R_alloc | apply Kd.R_drewN | apply Kd.R_drew)); exact Kd.R_mono HO_5.out (fun _ hk => hk.1)⟩, ⟨pB BK325⟩, ⟨pH HB⟩⟩
     ·replace c10 := Bool.eq_false_iff.mpr c10
      subst c10
      have H1 : (spec_l02Fill.l0 k1 x1_1 t326 (wrap64 (x6_1 + 1)) a0_0 l0_1) = some r := by rw [if_neg (show ¬ (false = true) by decide)] at H; exact H
      clear H
      have H := H1
      clear H1
      have H' := Aside0.mk H
      clear H
      obtain ⟨Ao25, co25, eo25⟩ := Kd.R_slice HO_5.out
      subst eo25
      try go_wp2
      replace HO_1 := Aside0.mk (Kd.V_drew HO_1.out)
      replace HO_5 := Aside0.mk (Kd.R_drew HO_5.out)
      replace BK325 := dB BK325
      replace HB := dH HB
      have p329 : 0 ≤ (x6_1 : Int) := of_decide_eq_true (by first | (with_reducible assumption) | assumption)
      have q329 : x6_1 < (t326.length : Int) := of_decide_eq_true (by first | (with_reducible assumption) | assumption)
      obtain ⟨ad329, e329, hx329_0, hx329_1⟩ := at_T57 (Kd.R_reads' HO_5.out).2.2 x6_1 p329 q329
      cases e329
      replace p329 := eq_true p329
      replace q329 := eq_true q329
      obtain ⟨Ao27, co27, eo27⟩ := Kd.V_slice HO_1.out
      (first | subst eo27 | (injection eo27 with f1_ f2_ f3_; have f4_ := f1_.symm; have f5_ := f3_.symm; clear f1_ f2_ f3_; subst f4_; subst f5_))
      refine st_ 12 (S := fun w' => w'.cell? ⟨gb325, 0, none⟩ = some (.int .i64 a0_0) ∧ w'.cell? ⟨gb325, 1, none⟩ = some (.slice A0_1 l0_1.length c0_1) ∧ w'.cell? (ad329.add ((x6_1).toNat * 2)) = some (.int .i64 ((rd_T57 t326 x6_1).f0)) ∧ w'.cell? ⟨(ad329.add ((x6_1).toNat * 2)).block, (ad329.add ((x6_1).toNat * 2)).off + 1, none⟩ = some (.int .i64 ((rd_T57 t326 x6_1).f1))) (ds := []) ⟨cB BK325 0, cB BK325 1, hx329_0, hx329_1⟩ (fun hHeld => ?_); refine with_tabW spec_l02Fill.tab5 spec_l02Fill.bits5 (fun HT_ HW_ => ?_)
      generalize wr.drew = w26 at HO_1 HO_5 BK325 HB hx329_0 hx329_1 hHeld ⊢
      refine pu_ 1 19 2 HT_ ?_
      refine pu_ 2 20 6 HT_ ?_
      refine pu_ 3 21 14 HT_ ?_
      refine pu_ 4 22 30 HT_ ?_
      refine tk_ 0 18 31 HT_ HW_ hHeld ?_
      refine tk_ 5 23 63 HT_ HW_ hHeld ?_
      refine on_ 6 (some 24) 127 HT_ (fun K hK => ?_)
      refine ca_ Tryz.func85 #[.agg #[.int .i64 a0_0, .slice A0_1 l0_1.length c0_1], .slice Ao27 x1_1.length co27, .agg #[.int .i64 ((rd_T57 t326 x6_1).f0), .int .i64 ((rd_T57 t326 x6_1).f1)]] ?_
      with_reducible refine (spec_l02With.calls k1 a0_0 _ _ l0_1 _ _ x1_1 ((rd_T57 t326 x6_1).f0) ((rd_T57 t326 x6_1).f1) t330 false _ ?side1 ?side2 ?side3 ?side4 A9.out).mono ?_
      (case side1 => exact pC ((Kd.C_below HR0_1.out HB.out)))
      (case side2 => exact HC0_1.out)
      (case side3 => exact pC ((Kd.V_reads' HO_1.out).2.2))
      (case side4 => exact (Kd.V_reads' HO_1.out).2.1)
      rintro e w28 ⟨v331, rfl, ho0, hb⟩
      have HS2_ := (hb.cell (World.block_lt_of_cell? _ _ (hHeld.2.2.1))).trans (hHeld.2.2.1)
      have HS3_ := (hb.cell (World.block_lt_of_cell? _ _ (hHeld.2.2.2))).trans (hHeld.2.2.2)
      refine ⟨_, rfl, ?_⟩
      replace HO_1 := Aside0.mk (Kd.V_elder' (by (with_reducible repeat (first | apply Kd.V_alloc | apply Kd.V_drewN | apply Kd.V_drew)); exact HO_1.out) (Kd.R_base ho0) hb)
      have HO332 := Aside0.mk (Kd.R_lower (Kd.R_new' (Kd.R_newM (M := fun k_ => (w.heap.size ≤ k_)) ho0 (below_size (pH HB)) (fun k_ h_ => h_)) (Kd.R_lt (pR HO_5))) (below_size (pH HB)))
      replace HO_5 := Aside0.mk (Kd.R_elder' (pR HO_5) (Kd.R_base ho0) hb)
      replace BK325 := sB BK325 hb
      replace HB := sH HB hb
      (try clear hb)
      (try clear hb2)
      (try clear hk)
      (try clear hi)
      (try clear ho0)
      refine hK.out _ _ ⟨cB BK325 0, cB BK325 1, HS2_, HS3_⟩ (fun hHeld => ?_)
      clear hK K
      refine nm_ ?_
      refine pu_ 7 17 255 HT_ ?_
      refine pu_ 8 25 511 HT_ ?_
      refine pu_ 9 26 1023 HT_ ?_
      refine pu_ 10 7 2047 HT_ ?_
      refine pu_ 11 8 4095 HT_ ?_
      refine dn_ HT_ ?_
      try go_wp2
      go_roundg k1
      case measure => have := HK1.out; omega
      case rel => exact ⟨(x1_1), (wrap64 (x6_1 + 1)), (by first | rfl | (simp; done) | (simp [*]; done)), H', ⟨by have := HK1.out; omega⟩, ⟨by (with_reducible repeat (first | apply Kd.V_alloc | apply Kd.V_drewN | apply Kd.V_drew)); exact Kd.V_mono HO_1.out (fun _ hk => ⟨hk.1.1, ⟨hk.1.2.1, hk.1.2.2⟩⟩)⟩, ⟨by (with_reducible repeat (first | apply Kd.R_alloc | apply Kd.R_drewN | apply Kd.R_drew)); exact Kd.R_mono HO_5.out (fun _ hk => hk.1)⟩, ⟨pB BK325⟩, ⟨pH HB⟩⟩
    ·rw [if_neg c8] at H
     exact absurd H (by simp)
   ·rw [if_neg c7] at H
    have c7b0 : decide (x6_1 < (t326.length : Int)) = false := decide_eq_false c7
    clear c7
    obtain rfl := Option.some.inj H
    obtain ⟨Ao29, co29, eo29⟩ := Kd.R_slice HO_5.out
    subst eo29
    go_wp2
    go_ret
    exact ⟨_, by first | rfl | (simp [errW_none, errW_some] <;> rfl) | (simp [*, errW_none, errW_some] <;> rfl) | (exfalso; simp_all), by (with_reducible repeat (first | apply Kd.V_alloc | apply Kd.V_drewN | apply Kd.V_drew)); exact Kd.V_mono HO_1.out (fun _ hk => hk.1), pH HB⟩
end Go.Proofs.YtpnmifahfpmplaaGreat.QS
namespace Go.Proofs.YtpnmifahfpmplaaGreat.Pu
open Go.RowKit Kp Ext QS Im YtpnmifahfpmplaaGreatW.PrintWords YtpnmifahfpmplaaGreatW.PrintLast YtpnmifahfpmplaaGreatW.PrintMore
theorem cmp_lt (p q : Pr) : cmpP p q < 0 ↔ p.f0 < q.f0 ∨ (p.f0 = q.f0 ∧ p.f1 < q.f1) := by
  unfold cmpP cmpI
  by_cases h1 : p.f0 < q.f0
  · simp [h1]
  · by_cases h2 : p.f0 > q.f0
    · simp [h1, h2]; omega
    · have h3 : p.f0 = q.f0 := by omega
      by_cases h4 : p.f1 < q.f1
      · simp [h3, h4]
      · by_cases h5 : p.f1 > q.f1
        · simp [h3, h4, h5]
        · simp [h3, h4, h5]
theorem cmp_trans {p q r : Pr} (h1 : cmpP p q < 0) (h2 : cmpP q r < 0) : cmpP p r < 0 := by
  rw [cmp_lt] at *
  omega
theorem cmp_irr (p : Pr) : ¬ cmpP p p < 0 := by rw [cmp_lt]; omega
theorem cmp_asym {p q : Pr} (h1 : cmpP p q < 0) : ¬ cmpP q p < 0 := by rw [cmp_lt] at *; omega
theorem cmp_eq {p q : Pr} (h1 : ¬ cmpP p q < 0) (h2 : ¬ cmpP q p < 0) : p = q := by
  obtain ⟨a, b⟩ := p
  obtain ⟨c, d⟩ := q
  rw [cmp_lt] at *
  simp only at h1 h2
  simp; omega
abbrev SortedP (l : List Pr) : Prop := l.Pairwise (fun p q => cmpP p q < 0)
theorem getP {l : List Pr} {i : Nat} (hi : i < l.length) : l.getD i z57 = l[i] := by rw [List.getD_eq_getElem?_getD, List.getElem?_eq_getElem hi]; rfl
theorem pairing_at {xs : List Int} {l : List Pr} (h : pairingB xs l = true) {i : Nat} (hi : i < l.length) : pairB xs l[i] = true ∧ (∀ q ∈ l.take i, hasF l[i].f0 q = false ∧ hasF l[i].f1 q = false) ∧ (∀ (h0 : 0 < i), cmpP (l[i - 1]'(by omega)) l[i] < 0) := by
  have h1 := List.all_eq_true.1 h i (List.mem_range.2 hi)
  unfold okPairAt at h1
  rw [getP hi] at h1
  simp only [Bool.and_eq_true, Bool.not_eq_true', List.any_eq_false, Bool.or_eq_true, beq_iff_eq, decide_eq_true_eq] at h1
  refine ⟨h1.1, fun q hq => ⟨by simpa using h1.2.1 q hq, by simpa using h1.2.2.1 q hq⟩, fun h0 => ?_⟩
  have h2 := h1.2.2.2.resolve_left (by omega)
  rwa [getP (show i - 1 < l.length by omega)] at h2
theorem sorted_of {xs : List Int} {l : List Pr} (h : pairingB xs l = true) : SortedP l := by
  refine List.pairwise_iff_getElem.2 fun i j hi hj hij => ?_
  induction j with
  | zero => omega
  | succ j ih =>
    have h1 := (pairing_at h hj).2.2 (by omega)
    simp only [Nat.add_sub_cancel] at h1
    rcases Nat.lt_or_ge i j with h2 | h2
    · exact cmp_trans (ih (by omega) h2) h1
    · obtain rfl : i = j := by omega
      exact h1
theorem pairing_len {n : Int} {xs : List Int} (hi : isC n xs = true) {l : List Pr} (h : pairingB xs l = true) : l.length ≤ 63 := by
  have h1 := nodup_len 63 (l.map (·.f0)) (by
    unfold List.Nodup
    rw [List.pairwise_map]
    refine List.pairwise_iff_getElem.2 fun i j hi hj hij => ?_
    have h2 := ((pairing_at h hj).2.1 l[i] (by rw [List.mem_take_iff_getElem]; exact ⟨i, by omega, rfl⟩)).1
    intro e
    unfold hasF at h2
    rw [e] at h2
    simp at h2) (fun x hx => by
    obtain ⟨q, hq, rfl⟩ := List.mem_map.1 hx
    have := facesP_of hi h q hq
    omega)
  simpa using h1
theorem place_cut {p : Pr} : ∀ {l : List Pr}, SortedP l → ∀ j (hj : j < l.length), cmpP l[j] p < 0 ↔ j < placeP l p
  | [], _, j, hj => by simp at hj
  | q :: l, hs, j, hj => by
    obtain ⟨h1, h2⟩ := List.pairwise_cons.1 hs
    by_cases hq : cmpP q p < 0
    · have hp : placeP (q :: l) p = placeP l p + 1 := by unfold placeP; rw [List.takeWhile_cons_of_pos (by simpa using hq), List.length_cons]
      rw [hp]
      rcases j with _ | j
      · simpa using hq
      · have := place_cut (p := p) h2 j (by simpa using hj)
        rw [List.getElem_cons_succ, this]; omega
    · have hp : placeP (q :: l) p = 0 := by unfold placeP; rw [List.takeWhile_cons_of_neg (by simpa using hq)]; rfl
      rw [hp]
      refine ⟨fun h => ?_, fun h => absurd h (Nat.not_lt_zero _)⟩
      rcases j with _ | j
      · exact absurd h hq
      · exact absurd (cmp_trans (h1 _ (List.getElem_mem _)) h) hq
theorem back_is {l : List Pr} {p : Pr} {b : Nat} : ∀ m, b ≤ m → m ≤ l.length → (∀ j (hj : j < l.length), b ≤ j → j < m → cmpP p l[j] < 0) → (∀ (h0 : 0 < b) (hl : b - 1 < l.length), ¬ cmpP p l[b - 1] < 0) → backP l p m = b
  | 0, hb, _, _, _ => by unfold backP; omega
  | m + 1, hb, hm, h1, h2 => by
    unfold backP
    rw [getP (show m < l.length by omega)]
    rcases Nat.lt_or_ge m b with h3 | h3
    · obtain rfl : b = m + 1 := by omega
      have := h2 (by omega) (by omega)
      simp only [Nat.add_sub_cancel] at this
      rw [if_neg this]
    · rw [if_pos (h1 m (by omega) h3 (by omega))]
      exact back_is m h3 (by omega) (fun j hj a b => h1 j hj a (by omega)) h2
theorem put_with {l : List Pr} (hs : SortedP l) (p : Pr) : putP l p = withP l p := by
  have hle := placeP_le l p
  by_cases hp : ∃ h : placeP l p < l.length, l[placeP l p] = p
  · obtain ⟨h, hp⟩ := hp
    have hb : backP l p l.length = placeP l p + 1 := back_is _ (by omega) (Nat.le_refl _) (fun j hj h1 _ => by
        have := List.pairwise_iff_getElem.1 hs (placeP l p) j h hj (by omega)
        rwa [hp] at this) (fun _ hl => by
        simp only [Nat.add_sub_cancel]
        rw [hp]; exact cmp_irr p)
    unfold putP withP
    rw [hb, List.take_succ_eq_append_getElem h, hp, List.append_assoc]
    congr 1
    rw [List.drop_eq_getElem_cons h, hp]
    rfl
  · have hb : backP l p l.length = placeP l p := back_is _ hle (Nat.le_refl _) (fun j hj h1 _ => by
        have h2 : ¬ cmpP l[j] p < 0 := fun h => by have := (place_cut hs j hj).1 h; omega
        refine Classical.byContradiction fun h3 => ?_
        have h4 := cmp_eq h3 h2
        rcases Nat.lt_or_ge (placeP l p) j with h5 | h5
        · have h6 := List.pairwise_iff_getElem.1 hs (placeP l p) j (by omega) hj h5
          rw [← h4] at h6
          have := (place_cut hs (placeP l p) (by omega)).1 h6
          omega
        · have h6 : j = placeP l p := by omega
          subst h6
          exact hp ⟨hj, h4.symm⟩) (fun h0 hl => by
        have := (place_cut (p := p) hs (placeP l p - 1) hl).2 (by omega)
        exact cmp_asym this)
    unfold putP withP
    rw [hb]
theorem with_end {l : List Pr} {p : Pr} (h : ∀ q ∈ l, cmpP q p < 0) : withP l p = l ++ [p] := by
  have hp : placeP l p = l.length := by
    unfold placeP
    refine congrArg List.length ?_
    induction l with
    | nil => rfl
    | cons a l ih => rw [List.takeWhile_cons_of_pos (by simpa using h a (by simp)), ih (fun q hq => h q (by simp [hq]))]
  unfold withP
  rw [hp, List.take_length, List.drop_length]
theorem ev_with {n : Int} {xs : List Int} (hi : isC n xs = true) {l : List Pr} (hs : SortedP l) (hl : l.length ≤ 1000000) (p : Pr) : Ev (fun k => spec_l02With.f k n xs l p.f0 p.f1) (withP l p, pairingB xs (withP l p)) := by
  unfold spec_l02With.f
  simp only [if_pos hl]
  rw [show (⟨p.f0, p.f1⟩ : Pr) = p from rfl, put_with hs p]
  exact Ev.bind (ev_is2 hi (by rw [withP_len]; omega)) (Ev.now _)
def rowP (xs : List Int) (f : Int) : List Pr := (xs.filter (overP f)).map fun g => ⟨f, g⟩
def pairsL (xs : List Int) : List Pr := xs.flatMap (rowP xs)
theorem rowP_len (xs : List Int) (f : Int) : (rowP xs f).length ≤ xs.length := by
  unfold rowP
  rw [List.length_map]
  exact List.length_filter_le _ _
theorem flat_len {xs : List Int} : ∀ (l : List Int), (l.flatMap (rowP xs)).length ≤ l.length * xs.length
  | [] => by simp
  | a :: l => by
    have h1 := rowP_len xs a
    have h2 := flat_len (xs := xs) l
    rw [List.flatMap_cons, List.length_append, List.length_cons, Nat.succ_mul]
    omega
theorem pairs_sorted {n : Int} {xs : List Int} (hi : isC n xs = true) : SortedP (pairsL xs) := by
  have ha := ascB_asc (isC_of hi).2.1
  refine List.pairwise_flatMap.2 ⟨fun f hf => ?_, ?_⟩
  · unfold rowP
    rw [List.pairwise_map]
    refine List.Pairwise.filter _ (List.Pairwise.imp ?_ ha)
    intro a b hab
    rw [cmp_lt]
    exact .inr ⟨rfl, hab⟩
  · refine List.Pairwise.imp ?_ ha
    intro a b hab x hx y hy
    unfold rowP at hx hy
    obtain ⟨g, _, rfl⟩ := List.mem_map.1 hx
    obtain ⟨g', _, rfl⟩ := List.mem_map.1 hy
    rw [cmp_lt]
    exact .inl hab
theorem all_l1 {n : Int} {xs : List Int} (hi : isC n xs = true) {i : Nat} (hil : i < xs.length) (R : List Pr)
    (hR : Ev (fun k => spec_l02All.l0 k ((xs.take (i + 1)).flatMap (rowP xs)) ((i + 1 : Nat) : Int) n xs) R) :
    ∀ d (j : Nat), (xs.filter (overP xs[i])).length - j = d → j ≤ (xs.filter (overP xs[i])).length →
      Ev (fun k => spec_l02All.l1 k ((xs.take i).flatMap (rowP xs) ++ ((xs.filter (overP xs[i])).take j).map fun g => (⟨xs[i], g⟩ : Pr)) i (xs.filter (overP xs[i])) j n xs) R := by
  have hx := isC_small hi
  have hfl : (xs.filter (overP xs[i])).length ≤ xs.length := List.length_filter_le _ _
  intro d
  induction d with
  | zero =>
    intro j hd hj
    refine Ev.step (fun k => ?_) hR
    simp only [spec_l02All.l1]
    rw [if_neg (by omega), succ64 (by omega), List.take_of_length_le (by omega : (xs.filter (overP xs[i])).length ≤ j), List.take_succ_eq_append_getElem hil, List.flatMap_append, List.flatMap_singleton]
    rfl
  | succ d ih =>
    intro j hd hj
    have hj' : j < (xs.filter (overP xs[i])).length := by omega
    have hlt : ∀ q ∈ (xs.take i).flatMap (rowP xs) ++ ((xs.filter (overP xs[i])).take j).map (fun g => (⟨xs[i], g⟩ : Pr)), cmpP q ⟨xs[i], (xs.filter (overP xs[i]))[j]⟩ < 0 := by
      have ha := ascB_asc (isC_of hi).2.1
      intro q hq
      rw [cmp_lt]
      rcases List.mem_append.1 hq with hq | hq
      · obtain ⟨f, hf, hq⟩ := List.mem_flatMap.1 hq
        obtain ⟨g, hg, rfl⟩ := List.mem_map.1 (show q ∈ (xs.filter (overP f)).map _ from hq)
        obtain ⟨m, hm, rfl⟩ := List.mem_take_iff_getElem.1 hf
        exact .inl (List.pairwise_iff_getElem.1 ha m i (by omega) hil (by omega))
      · obtain ⟨g, hg, rfl⟩ := List.mem_map.1 hq
        obtain ⟨m, hm, rfl⟩ := List.mem_take_iff_getElem.1 hg
        exact .inr ⟨rfl, List.pairwise_iff_getElem.1 (ha.filter _) m j (by omega) hj' (by omega)⟩
    have hsort : SortedP ((xs.take i).flatMap (rowP xs) ++ ((xs.filter (overP xs[i])).take j).map (fun g => (⟨xs[i], g⟩ : Pr))) := by
      refine (pairs_sorted hi).sublist ?_
      have hcut : pairsL xs = (xs.take i).flatMap (rowP xs) ++ (rowP xs xs[i] ++ (xs.drop (i + 1)).flatMap (rowP xs)) := by
        have h := List.take_append_drop i xs
        rw [List.drop_eq_getElem_cons hil] at h
        refine (congrArg (fun z => z.flatMap (rowP xs)) h.symm).trans ?_
        simp only [List.flatMap_append, List.flatMap_cons]
      rw [hcut]
      refine List.Sublist.append (List.Sublist.refl _) ?_
      refine List.Sublist.trans ?_ (List.sublist_append_left _ _)
      unfold rowP
      exact (List.take_sublist _ _).map _
    have hlen : ((xs.take i).flatMap (rowP xs) ++ ((xs.filter (overP xs[i])).take j).map (fun g => (⟨xs[i], g⟩ : Pr))).length ≤ 1000000 := by
      have h1 := flat_len (xs := xs) (xs.take i)
      have h2 : (xs.take i).length * xs.length ≤ 63 * 63 := Nat.mul_le_mul (by rw [List.length_take]; omega) hx
      rw [List.length_append, List.length_map, List.length_take]
      omega
    have hw := ev_with hi hsort hlen ⟨xs[i], (xs.filter (overP xs[i]))[j]⟩
    rw [with_end hlt] at hw
    refine Ev.step (f := fun k => (spec_l02With.f k n xs ((xs.take i).flatMap (rowP xs) ++ ((xs.filter (overP xs[i])).take j).map (fun g => (⟨xs[i], g⟩ : Pr))) xs[i] (xs.filter (overP xs[i]))[j]).bind fun bt => spec_l02All.l1 k bt.1 i (xs.filter (overP xs[i])) ((j + 1 : Nat) : Int) n xs) (fun k => ?_) (Ev.bind hw ?_)
    · simp only [spec_l02All.l1]
      rw [if_pos (by omega), if_pos (by omega), if_pos (by omega), if_pos (by omega), rd_at hil, rd_at hj', succ64 (by omega)]
    · have := ih (j + 1) (by omega) (by omega)
      rw [List.take_succ_eq_append_getElem hj', List.map_append, ← List.append_assoc] at this
      exact this
theorem all_l0 {n : Int} {xs : List Int} (hi : isC n xs = true) : ∀ d (i : Nat), xs.length - i = d → i ≤ xs.length → Ev (fun k => spec_l02All.l0 k ((xs.take i).flatMap (rowP xs)) (i : Int) n xs) (pairsL xs) := by
  have hx := isC_small hi
  intro d
  induction d with
  | zero =>
    intro i hd hil
    refine Ev.step (f := fun k => some (pairsL xs)) (fun k => ?_) (Ev.now _)
    simp only [spec_l02All.l0]
    rw [if_neg (by omega), List.take_of_length_le (by omega)]
    rfl
  | succ d ih =>
    intro i hd hil
    have hil' : i < xs.length := by omega
    refine Ev.step (f := fun k => (spec_l01Above.f k n xs xs[i]).bind fun t => spec_l02All.l1 k ((xs.take i).flatMap (rowP xs)) i t 0 n xs) (fun k => ?_) (Ev.bind (ev_above n xs[i] (by have := isC_63 hi xs[i] (List.getElem_mem hil'); omega) (by omega) (isC_63 hi)) ?_)
    · simp only [spec_l02All.l0]
      rw [if_pos (by omega), if_pos (by omega), rd_at hil']
    · have := all_l1 hi hil' (pairsL xs) (ih (i + 1) (by omega) (by omega)) _ 0 rfl (Nat.zero_le _)
      simpa using this
theorem ev_all {n : Int} {xs : List Int} (hi : isC n xs = true) : Ev (fun k => spec_l02All.f k n xs) (pairsL xs) := by
  unfold spec_l02All.f
  have := all_l0 hi _ 0 rfl (Nat.zero_le _)
  simpa using this
def okP (xs : List Int) (l : List Pr) (p : Pr) : Bool := pairingB xs (withP l p) && acycB (withP l p)
def stepP (xs : List Int) (l : List Pr) (p : Pr) : List Pr := if okP xs l p then withP l p else l
def fillP (xs : List Int) (l : List Pr) (ps : List Pr) : List Pr := ps.foldl (stepP xs) l
theorem step_pairing {xs : List Int} {l : List Pr} (h : pairingB xs l = true) (p : Pr) : pairingB xs (stepP xs l p) = true := by
  unfold stepP
  split
  · rename_i h1
    unfold okP at h1
    exact (Bool.and_eq_true _ _ ▸ h1).1
  · exact h
theorem fill_pairing {xs : List Int} : ∀ (ps : List Pr) {l : List Pr}, pairingB xs l = true → pairingB xs (fillP xs l ps) = true
  | [], _, h => h
  | p :: ps, l, h => fill_pairing ps (step_pairing h p)
theorem fill_loop {n : Int} {xs : List Int} (hi : isC n xs = true) {ps : List Pr} (hp : ps.length ≤ 1048576) : ∀ d (i : Nat) (l : List Pr), ps.length - i = d → i ≤ ps.length → pairingB xs l = true → Ev (fun k => spec_l02Fill.l0 k l ps (i : Int) n xs) (fillP xs l (ps.drop i)) := by
  intro d
  induction d with
  | zero =>
    intro i l hd hil hl
    rw [List.drop_eq_nil_of_le (by omega)]
    refine Ev.step (f := fun k => some l) (fun k => ?_) (Ev.now _)
    simp only [spec_l02Fill.l0]
    rw [if_neg (by omega)]
  | succ d ih =>
    intro i l hd hil hl
    have hil' : i < ps.length := by omega
    have hlen := pairing_len hi hl
    rw [List.drop_eq_getElem_cons hil']
    refine Ev.step (f := fun k => (spec_l02With.f k n xs l ps[i].f0 ps[i].f1).bind fun bt => (if bt.2 = true then ((spec_l02Acyclic.f k bt.1).bind fun t => (if t = true then (spec_l02Fill.l0 k bt.1 ps ((i + 1 : Nat) : Int) n xs) else (spec_l02Fill.l0 k l ps ((i + 1 : Nat) : Int) n xs))) else (spec_l02Fill.l0 k l ps ((i + 1 : Nat) : Int) n xs))) (fun k => ?_) (Ev.bind (ev_with hi (sorted_of hl) (by omega) ps[i]) ?_)
    · simp only [spec_l02Fill.l0]
      rw [if_pos (by omega), if_pos (by omega), rdP_at hil', succ64 (by omega)]
    · rw [show fillP xs l (ps[i] :: ps.drop (i + 1)) = fillP xs (stepP xs l ps[i]) (ps.drop (i + 1)) from rfl]
      cases hw : pairingB xs (withP l ps[i]) with
      | false =>
        have hs : stepP xs l ps[i] = l := by unfold stepP okP; rw [hw]; rfl
        rw [hs]
        simp only [Bool.false_eq_true, if_false]
        exact ih (i + 1) l (by omega) (by omega) hl
      | true =>
        simp only [if_true]
        refine Ev.bind (ev_acyclic (by rw [withP_len]; omega) (facesP_of hi hw)) ?_
        cases ha : acycB (withP l ps[i]) with
        | false =>
          have hs : stepP xs l ps[i] = l := by unfold stepP okP; rw [hw, ha]; rfl
          rw [hs]
          simp only [Bool.false_eq_true, if_false]
          exact ih (i + 1) l (by omega) (by omega) hl
        | true =>
          have hs : stepP xs l ps[i] = withP l ps[i] := by unfold stepP okP; rw [hw, ha]; rfl
          rw [hs]
          simp only [if_true]
          exact ih (i + 1) _ (by omega) (by omega) hw
theorem pairs_len {n : Int} {xs : List Int} (hi : isC n xs = true) : (pairsL xs).length ≤ 4000 := by
  have hx := isC_small hi
  have h1 := flat_len (xs := xs) xs
  have h2 : xs.length * xs.length ≤ 63 * 63 := Nat.mul_le_mul hx hx
  unfold pairsL
  omega
theorem ev_fill {n : Int} {xs : List Int} (hi : isC n xs = true) {l : List Pr} (h : pairingB xs l = true) : Ev (fun k => spec_l02Fill.f k n xs l) (fillP xs l (pairsL xs)) := by
  unfold spec_l02Fill.f
  have hp := pairs_len hi
  refine Ev.bind (ev_all hi) ?_
  have := fill_loop hi (ps := pairsL xs) (by omega) _ 0 l rfl (Nat.zero_le _) h
  simpa using this
end Go.Proofs.YtpnmifahfpmplaaGreat.Pu
namespace Go.Proofs.YtpnmifahfpmplaaGreat.Im
open Go.RowKit Go.Shelf Kp Cw Ext QS Pu YtpnmifahfpmplaaGreatW.PrintWords YtpnmifahfpmplaaGreatW.PrintLast YtpnmifahfpmplaaGreatW.PrintMore
theorem PrAt.src {w0 W W' : World} {y b : Nat} {p q : Int} (h : PrAt W b p q) (hne : b ≠ y) (hp : SrcTo w0 W y W') : PrAt W' b p q := hp.2.blk h hne (by simp)
def DrawP (w0 w : World) (y : Nat) (e : Ending) (w' : World) : Prop := ∃ v l, e = .returned v ∧ Kd.V k57 57 w' w.heap.size (fun k => w.heap.size ≤ k) v l ∧ l.length ≤ 100 ∧ SrcTo w0 w y w'
theorem drawP_end {w0 w W : World} {y : Nat} {v : Value} {l : List Pr} (hv : PO W w.heap.size v l) (hd : Dr w0 w y W) (hl : l.length ≤ 100) : DrawP w0 w y (.returned v) W :=
  ⟨v, l, rfl, Kd.R_V (Kd.R_mono (Kd.R_bound hv) fun _ h => h.2.1), hl, hd.to⟩
set_option maxRecDepth 100000 in
set_option maxHeartbeats 8000000 in
theorem drawPr_c (w0 : World) (y : Nat) (n : Int) (A : Option Addr) (c : Nat) (xs : List Int) (bs : Nat) (w : World) (hS : Src w0 w y) (hV : RO w bs (.slice A xs.length c) xs) (hl : xs.length ≤ 64) :
    Calls Tryz.prog 64 #[.pointer (some ⟨y, 0, none⟩), .agg #[.int .i64 n, .slice A xs.length c]] w (DrawP w0 w y) := by
  have HY : Aside0 (w.heap.size ≠ y) := ⟨Nat.ne_of_gt hS.lt⟩
  have hb0 := below_alloc (below_alloc (Below.refl _ w) (.cells #[.int .i64 n, .slice A xs.length c] 26)) (.cells #[] 57)
  have HD := Aside0.mk ((Dr.start hS).on hb0)
  have HX := Aside0.mk ((CxAt.new w n A xs.length c).below (below_alloc (Below.refl _ _) (.cells #[] 57)))
  have HV := Aside0.mk (Kd.R_below hV hb0)
  have HO : Aside0 (PO ((w.alloc (.cells #[.int .i64 n, .slice A xs.length c] 26)).alloc (.cells #[] 57)) w.heap.size (.slice (some ⟨w.heap.size + 1, 0, none⟩) 0 0) []) := ⟨by simpa using PO.made (w.alloc (.cells #[.int .i64 n, .slice A xs.length c] 26)) w.heap.size 0 #[] (by simp) (Nat.zero_le _) rfl⟩
  obtain ⟨ki, hki⟩ := (ev_is n (l := xs) (by unfold maxLen; omega)).rounds
  have HKI := Aside0.mk hki
  have hx1 := HX.out.c1
  have hx0 := HX.out.c0
  clear hS hV hb0 hki
  cases hi : isC n xs with
  | false =>
    rw [hi] at HKI
    clear hi
    go_enter Tryz.func64, Tryz.ntmps64
    go_wp2_with (go_at_call 29; refine (spec_l01Is.calls ki n A c xs _ _ (Kd.R_reads' HV.out).2.2 (Kd.R_reads' HV.out).2.1 HKI.out).mono ?_; rintro e w1 ⟨rfl, hb⟩; have HXn := Aside0.mk (HX.out.below hb); have HOn := Aside0.mk (Kd.R_below HO.out hb); have HDn := Aside0.mk (HD.out.on hb); clear HX HO HD; have HX := HXn; have HO := HOn; have HD := HDn; clear HXn HOn HDn hb; have hx1 := HX.out.c1; have hx0 := HX.out.c0)
    go_ret
    exact drawP_end HO.out HD.out (by simp)
  | true =>
    rw [hi] at HKI
    have HI := Aside0.mk hi
    clear hi
    have hlz : xs.length = 0 ∨ 0 < xs.length := by omega
    rcases hlz with hlz | hlz
    · have hgt : ((xs.length : Int) == 0) = true := by rw [hlz]; rfl
      clear hlz
      go_enter Tryz.func64, Tryz.ntmps64
      go_wp2_with (go_at_call 29; refine (spec_l01Is.calls ki n A c xs _ _ (Kd.R_reads' HV.out).2.2 (Kd.R_reads' HV.out).2.1 HKI.out).mono ?_; rintro e w1 ⟨rfl, hb⟩; have HXn := Aside0.mk (HX.out.below hb); have HOn := Aside0.mk (Kd.R_below HO.out hb); have HVn := Aside0.mk (Kd.R_below HV.out hb); have HDn := Aside0.mk (HD.out.on hb); clear HX HO HV HD; have HX := HXn; have HO := HOn; have HV := HVn; have HD := HDn; clear HXn HOn HVn HDn hb; have hx1 := HX.out.c1; have hx0 := HX.out.c0)
      go_ret
      exact drawP_end HO.out HD.out (by simp)
    · have hgt : ((xs.length : Int) == 0) = false := beq_eq_false_iff_ne.2 (by omega)
      clear hlz
      obtain ⟨ka, hka⟩ := (ev_all HI.out).rounds
      have HKA := Aside0.mk hka
      clear hka
      go_enter Tryz.func64, Tryz.ntmps64
      go_upto_region 5 with (first
        | (go_at_call 29; refine (spec_l01Is.calls ki n A c xs _ _ (Kd.R_reads' HV.out).2.2 (Kd.R_reads' HV.out).2.1 HKI.out).mono ?_; rintro e w1 ⟨rfl, hb⟩; have HXn := Aside0.mk (HX.out.below hb); have HOn := Aside0.mk (Kd.R_below HO.out hb); have HVn := Aside0.mk (Kd.R_below HV.out hb); have HDn := Aside0.mk (HD.out.on hb); clear HX HO HV HD; have HX := HXn; have HO := HOn; have HV := HVn; have HD := HDn; clear HXn HOn HVn HDn hb; have hx1 := HX.out.c1; have hx0 := HX.out.c0)
        | (go_at_call 84; refine (spec_l02All.calls ka n A c xs (pairsL xs) _ (Kd.R_reads' HV.out).2.2 (Kd.R_reads' HV.out).2.1 HKA.out).mono ?_; rintro e w2 ⟨v2, rfl, hv, hb⟩; have HA := Aside0.mk (Kd.R_lower hv HD.out.k.1); clear hv; obtain ⟨Aa, ca, rfl⟩ := Kd.R_slice HA.out; (have HA0 := HA; clear HA); have HXn := Aside0.mk (HX.out.below hb); have HOn := Aside0.mk (Kd.R_below HO.out hb); have HVn := Aside0.mk (Kd.R_below HV.out hb); have HDn := Aside0.mk (HD.out.on hb); clear HX HO HV HD; have HX := HXn; have HO := HOn; have HV := HVn; have HD := HDn; clear HXn HOn HVn HDn hb; (have HA := HA0; clear HA0))
        | (go_at_call 62; refine (next_c w0 y 6 _ HD.out.s).mono ?_; rintro e w1 ⟨r6, rfl, hr, hp⟩; clear hr; have HXn := Aside0.mk (HX.out.src HY.out hp); have HOn := Aside0.mk (R_src HO.out (by decide) HD.out.s hp); have HVn := Aside0.mk (RO.src HV.out HD.out.s hp); have HAn := Aside0.mk (R_src HA.out (by decide) HD.out.s hp); have HDn := Aside0.mk (HD.out.src hp); clear HX HO HV HA HD; have HX := HXn; have HO := HOn; have HV := HVn; have HA := HAn; have HD := HDn; clear HXn HOn HVn HAn HDn hp))
      generalize (r6 == 0) = any
      have HAL := Aside0.mk (pairs_len HI.out)
      clear hgt hx0 hx1
      go_wp2
      go_loopw [5, 8] (fun s5 s8 wr => ∃ (t : Nat) (v : Value) (l : List Pr), s8 = .int .i64 t ∧ s5 = v ∧ t ≤ 12 ∧ Aside0 (pairingB xs l = true) ∧ Aside0 (PO wr w.heap.size v l) ∧ Aside0 (CxAt wr w.heap.size n A xs.length c) ∧ Aside0 (RO wr bs (.slice A xs.length c) xs) ∧ Aside0 (PO wr w.heap.size (.slice Aa (pairsL xs).length ca) (pairsL xs)) ∧ Aside0 (Dr w0 w y wr)) (fun _ s8 _ => 12 - (intOf s8).toNat)
      case atStart => exact ⟨0, _, [], rfl, rfl, by omega, ⟨rfl⟩, HO, HX, HV, HA, HD⟩
      case round =>
        clear HO HX HV HA HD
        obtain ⟨t, v, l, rfl, rfl, ht, HPL, HO, HX, HV, HA, HD⟩ := hrel
        obtain ⟨Al, cl, rfl⟩ := Kd.R_slice HO.out
        have hgo : (t < 12 ∧ 0 < (pairsL xs).length) ∨ ((t < 12 ∧ (pairsL xs).length = 0) ∨ 12 ≤ t) := by omega
        rcases hgo with ⟨h12, ha⟩ | hex
        · have h12z : (t : Int) < 12 := by omega
          have haz : (0 : Int) < ((pairsL xs).length : Int) := by omega
          go_upto_region 9 with (go_at_call 62; refine (next_c w0 y ((pairsL xs).length : Int) _ HD.out.s).mono ?_; rintro e w1 ⟨r, rfl, hr, hp⟩; have hr2 := hr.2 (by omega); obtain ⟨j, rfl⟩ := Int.eq_ofNat_of_zero_le hr2.1; clear hr; have HXn := Aside0.mk (HX.out.src HY.out hp); have HOn := Aside0.mk (R_src HO.out (by decide) HD.out.s hp); have HVn := Aside0.mk (RO.src HV.out HD.out.s hp); have HAn := Aside0.mk (R_src HA.out (by decide) HD.out.s hp); have HDn := Aside0.mk (HD.out.src hp); clear HX HO HV HA HD; have HX := HXn; have HO := HOn; have HV := HVn; have HA := HAn; have HD := HDn; clear HXn HOn HVn HAn HDn hp; obtain ⟨ad, hAd, hp0, hp1⟩ := at_T57 (Kd.R_reads' HA.out).2.2 (j : Int) (by omega) hr2.2; subst hAd; rw [Int.toNat_natCast] at hp0 hp1; generalize rd_T57 (pairsL xs) (j : Int) = p at hp0 hp1)
          obtain ⟨kw, hkw⟩ := (ev_with HI.out (sorted_of HPL.out) (by have := pairing_len HI.out HPL.out; omega) p).rounds
          have HKW := Aside0.mk hkw
          have hb2 := below_alloc (Below.refl w1.heap.size w1) (.cells #[.int .i64 p.f0, .int .i64 p.f1] 57)
          have HP := Aside0.mk (PrAt.new w1 p.f0 p.f1)
          have HXn := Aside0.mk (HX.out.below hb2)
          have HVn := Aside0.mk (Kd.R_below HV.out hb2)
          have HOn := Aside0.mk (Kd.R_below HO.out hb2)
          have HAn := Aside0.mk (Kd.R_below HA.out hb2)
          have HDn := Aside0.mk (HD.out.on hb2)
          clear HX HV HO HA HD hkw hb2
          have HX := HXn
          have HV := HVn
          have HO := HOn
          have HA := HAn
          have HD := HDn
          clear HXn HVn HOn HAn HDn
          have hx0 := HX.out.c0
          have hx1 := HX.out.c1
          have hp0 := HP.out.c0
          have hp1 := HP.out.c1
          go_upto_region 10 with (go_at_call 85; refine (QS.spec_l02With.calls kw n A c xs Al cl l p.f0 p.f1 (withP l p) (pairingB xs (withP l p)) _ (Kd.R_reads' HV.out).2.2 (Kd.R_reads' HV.out).2.1 (Kd.R_reads' HO.out).2.2 (Kd.R_reads' HO.out).2.1 HKW.out).mono ?_; rintro e w5 ⟨v5, rfl, hv, hb⟩; have HQ := Aside0.mk (Kd.R_lower hv HD.out.k.1); clear hv; obtain ⟨Aq, cq, rfl⟩ := Kd.R_slice HQ.out; have HXn := Aside0.mk (HX.out.below hb); have HOn := Aside0.mk (Kd.R_below HO.out hb); have HVn := Aside0.mk (Kd.R_below HV.out hb); have HAn := Aside0.mk (Kd.R_below HA.out hb); have HDn := Aside0.mk (HD.out.on hb); clear HX HO HV HA HD; have HX := HXn; have HO := HOn; have HV := HVn; have HA := HAn; have HD := HDn; clear HXn HOn HVn HAn HDn hb)
          clear hx0 hx1 hp0 hp1
          cases hq : pairingB xs (withP l p) with
          | false =>
            go_wp2
            go_roundw
            case measure => simp [intOf]; omega
            case rel => exact ⟨t + 1, _, l, by go_num, rfl, by omega, HPL, HO, HX, HV, HA, HD⟩
          | true =>
            have HPQ := Aside0.mk hq
            cases any with
            | true =>
              go_wp2
              go_roundw
              case measure => simp [intOf]; omega
              case rel => exact ⟨t + 1, _, withP l p, by go_num, rfl, by omega, HPQ, HQ, HX, HV, HA, HD⟩
            | false =>
              obtain ⟨kc, hkc⟩ := (ev_acyclic (l := withP l p) (by have := pairing_len HI.out HPQ.out; omega) (facesP_of HI.out HPQ.out)).rounds
              have HKC := Aside0.mk hkc
              clear hkc
              cases hac : acycB (withP l p) with
              | true =>
                rw [hac] at HKC
                go_wp2_with (go_at_call 32; refine (spec_l02Acyclic.calls kc Aq cq (withP l p) _ _ (Kd.R_reads' HQ.out).2.2 (Kd.R_reads' HQ.out).2.1 HKC.out).mono ?_; rintro e w6 ⟨rfl, hb⟩; have HXn := Aside0.mk (HX.out.below hb); have HOn := Aside0.mk (Kd.R_below HO.out hb); have HVn := Aside0.mk (Kd.R_below HV.out hb); have HAn := Aside0.mk (Kd.R_below HA.out hb); have HQn := Aside0.mk (Kd.R_below HQ.out hb); have HDn := Aside0.mk (HD.out.on hb); clear HX HO HV HA HQ HD; have HX := HXn; have HO := HOn; have HV := HVn; have HA := HAn; have HQ := HQn; have HD := HDn; clear HXn HOn HVn HAn HQn HDn hb)
                go_roundw
                case measure => simp [intOf]; omega
                case rel => exact ⟨t + 1, _, withP l p, by go_num, rfl, by omega, HPQ, HQ, HX, HV, HA, HD⟩
              | false =>
                rw [hac] at HKC
                go_wp2_with (go_at_call 32; refine (spec_l02Acyclic.calls kc Aq cq (withP l p) _ _ (Kd.R_reads' HQ.out).2.2 (Kd.R_reads' HQ.out).2.1 HKC.out).mono ?_; rintro e w6 ⟨rfl, hb⟩; have HXn := Aside0.mk (HX.out.below hb); have HOn := Aside0.mk (Kd.R_below HO.out hb); have HVn := Aside0.mk (Kd.R_below HV.out hb); have HAn := Aside0.mk (Kd.R_below HA.out hb); have HQn := Aside0.mk (Kd.R_below HQ.out hb); have HDn := Aside0.mk (HD.out.on hb); clear HX HO HV HA HQ HD; have HX := HXn; have HO := HOn; have HV := HVn; have HA := HAn; have HQ := HQn; have HD := HDn; clear HXn HOn HVn HAn HQn HDn hb)
                go_roundw
                case measure => simp [intOf]; omega
                case rel => exact ⟨t + 1, _, l, by go_num, rfl, by omega, HPL, HO, HX, HV, HA, HD⟩
        · have HLL := Aside0.mk (pairing_len HI.out HPL.out)
          have HLO := Aside0.mk (Kd.R_V (base' := w.heap.size) (Kd.R_mono (Kd.R_bound HO.out) fun _ h => h.2.1))
          clear HLO
          rcases hex with ⟨h12, ha⟩ | h12
          · have h12z : (t : Int) < 12 := by omega
            have haz : ¬ ((0 : Int) < ((pairsL xs).length : Int)) := by omega
            clear h12 ha
            go_upto_region 13 with (go_at_call 62; refine (next_c w0 y 4 _ HD.out.s).mono ?_; rintro e w1 ⟨r4, rfl, hr, hp⟩; clear hr; have HXn := Aside0.mk (HX.out.src HY.out hp); have HOn := Aside0.mk (R_src HO.out (by decide) HD.out.s hp); have HVn := Aside0.mk (RO.src HV.out HD.out.s hp); have HDn := Aside0.mk (HD.out.src hp); clear HX HO HV HD; have HX := HXn; have HO := HOn; have HV := HVn; have HD := HDn; clear HXn HOn HVn HDn hp)
            by_cases h0 : r4 = 0
            · subst h0
              have hx0 := HX.out.c0
              have hx1 := HX.out.c1
              obtain ⟨kc, hkc⟩ := (ev_acyclic (l := l) (by have := HLL.out; omega) (facesP_of HI.out HPL.out)).rounds
              obtain ⟨kf, hkf⟩ := (ev_fill HI.out HPL.out).rounds
              have HKC := Aside0.mk hkc
              have HKF := Aside0.mk hkf
              clear hkc hkf
              cases hac : acycB l with
              | true =>
                rw [hac] at HKC
                clear hac
                go_wp2_with (first
                  | (go_at_call 32; refine (spec_l02Acyclic.calls kc Al cl l _ _ (Kd.R_reads' HO.out).2.2 (Kd.R_reads' HO.out).2.1 HKC.out).mono ?_; rintro e w6 ⟨rfl, hb⟩; clear hx0 hx1; have HXn := Aside0.mk (HX.out.below hb); have HOn := Aside0.mk (Kd.R_below HO.out hb); have HVn := Aside0.mk (Kd.R_below HV.out hb); have HDn := Aside0.mk (HD.out.on hb); clear HX HO HV HD; have HX := HXn; have HO := HOn; have HV := HVn; have HD := HDn; clear HXn HOn HVn HDn hb; have hx0 := HX.out.c0; have hx1 := HX.out.c1)
                  | (go_at_call 86; refine (spec_l02Fill.calls kf n A c xs (fun k => w.heap.size ≤ k) Al cl l _ _ (Kd.R_reads' HV.out).2.2 (Kd.R_reads' HV.out).2.1 (Kd.R_V (Kd.R_mono (Kd.R_bound HO.out) fun _ h => h.2.1)) HKF.out).mono ?_; rintro e w7 ⟨v7, rfl, hv, hb⟩; have HF := Aside0.mk hv; have HZ := Aside0.mk HD.out.k.1; have HDn := Aside0.mk (HD.out.on hb); clear HD hb hv hx0 hx1; have HD := HDn; clear HDn))
                go_ret
                exact ⟨_, _, rfl, Kd.V_mono HF.out (fun k hk => hk.elim id (Nat.le_trans HZ.out)), by have := pairing_len HI.out (fill_pairing (pairsL xs) HPL.out); omega, HD.out.to⟩
              | false =>
                rw [hac] at HKC
                clear hac
                go_wp2_with (go_at_call 32; refine (spec_l02Acyclic.calls kc Al cl l _ _ (Kd.R_reads' HO.out).2.2 (Kd.R_reads' HO.out).2.1 HKC.out).mono ?_; rintro e w6 ⟨rfl, hb⟩; clear hx0 hx1; have HXn := Aside0.mk (HX.out.below hb); have HOn := Aside0.mk (Kd.R_below HO.out hb); have HVn := Aside0.mk (Kd.R_below HV.out hb); have HDn := Aside0.mk (HD.out.on hb); clear HX HO HV HD; have HX := HXn; have HO := HOn; have HV := HVn; have HD := HDn; clear HXn HOn HVn HDn hb; have hx0 := HX.out.c0; have hx1 := HX.out.c1)
                go_ret
                exact drawP_end HO.out HD.out (by have := HLL.out; omega)
            · have hr0 : (r4 == 0) = false := beq_eq_false_iff_ne.2 h0
              by_cases h1 : r4 = 1
              · subst h1
                clear h0
                go_upto_region 18 with (go_at_call 62; refine (next_c w0 y 8 _ HD.out.s).mono ?_; rintro e w1 ⟨r8, rfl, hr, hp⟩; clear hr; have HXn := Aside0.mk (HX.out.src HY.out hp); have HOn := Aside0.mk (R_src HO.out (by decide) HD.out.s hp); have HVn := Aside0.mk (RO.src HV.out HD.out.s hp); have HDn := Aside0.mk (HD.out.src hp); clear HX HO HV HD; have HX := HXn; have HO := HOn; have HV := HVn; have HD := HDn; clear HXn HOn HVn HDn hp)
                · go_wp2_with (first
                    | (go_at_call 62; refine (next_c w0 y 8 _ HD.out.s).mono ?_; rintro e w1 ⟨r8, rfl, hr, hp⟩; clear hr; have HXn := Aside0.mk (HX.out.src HY.out hp); have HOn := Aside0.mk (R_src HO.out (by decide) HD.out.s hp); have HVn := Aside0.mk (RO.src HV.out HD.out.s hp); have HDn := Aside0.mk (HD.out.src hp); clear HX HO HV HD; have HX := HXn; have HO := HOn; have HV := HVn; have HD := HDn; clear HXn HOn HVn HDn hp)
                    | (at_builtin; refine apPs w.heap.size rfl (.tmp 74) (.tmp 80) rfl _ l [⟨_, _⟩] _ 1 1 rfl rfl (Kd.R_alloc HO.out _) (Kd.R_reads' (PO.one _ w.heap.size ⟨_, _⟩ HD.out.k.1)).2.2 (Below.refl w.heap.size _) (HD.out.on (below_alloc (Below.refl _ _) _)).k.1 (by have := HLL.out; omega) ?_; intro v7 w7 ho hb hg hat; have HDn := Aside0.mk ((HD.out.on (below_alloc (Below.refl _ _) _)).up hb); clear HO HD; have HO := Aside0.mk ho; have HD := HDn; clear HDn ho hb hg hat))
                  go_ret
                  exact drawP_end HO.out HD.out (by have := HLL.out; simp; omega)
                · go_ret
                  exact drawP_end HO.out HD.out (by have := HLL.out; omega)
              · have hr1 : (r4 == 1) = false := beq_eq_false_iff_ne.2 h1
                clear h0 h1
                go_wp2
                go_ret
                exact drawP_end HO.out HD.out (by have := HLL.out; omega)
          · have h12z : ¬ ((t : Int) < 12) := by omega
            clear h12
            go_upto_region 13 with (go_at_call 62; refine (next_c w0 y 4 _ HD.out.s).mono ?_; rintro e w1 ⟨r4, rfl, hr, hp⟩; clear hr; have HXn := Aside0.mk (HX.out.src HY.out hp); have HOn := Aside0.mk (R_src HO.out (by decide) HD.out.s hp); have HVn := Aside0.mk (RO.src HV.out HD.out.s hp); have HDn := Aside0.mk (HD.out.src hp); clear HX HO HV HD; have HX := HXn; have HO := HOn; have HV := HVn; have HD := HDn; clear HXn HOn HVn HDn hp)
            by_cases h0 : r4 = 0
            · subst h0
              have hx0 := HX.out.c0
              have hx1 := HX.out.c1
              obtain ⟨kc, hkc⟩ := (ev_acyclic (l := l) (by have := HLL.out; omega) (facesP_of HI.out HPL.out)).rounds
              obtain ⟨kf, hkf⟩ := (ev_fill HI.out HPL.out).rounds
              have HKC := Aside0.mk hkc
              have HKF := Aside0.mk hkf
              clear hkc hkf
              cases hac : acycB l with
              | true =>
                rw [hac] at HKC
                clear hac
                go_wp2_with (first
                  | (go_at_call 32; refine (spec_l02Acyclic.calls kc Al cl l _ _ (Kd.R_reads' HO.out).2.2 (Kd.R_reads' HO.out).2.1 HKC.out).mono ?_; rintro e w6 ⟨rfl, hb⟩; clear hx0 hx1; have HXn := Aside0.mk (HX.out.below hb); have HOn := Aside0.mk (Kd.R_below HO.out hb); have HVn := Aside0.mk (Kd.R_below HV.out hb); have HDn := Aside0.mk (HD.out.on hb); clear HX HO HV HD; have HX := HXn; have HO := HOn; have HV := HVn; have HD := HDn; clear HXn HOn HVn HDn hb; have hx0 := HX.out.c0; have hx1 := HX.out.c1)
                  | (go_at_call 86; refine (spec_l02Fill.calls kf n A c xs (fun k => w.heap.size ≤ k) Al cl l _ _ (Kd.R_reads' HV.out).2.2 (Kd.R_reads' HV.out).2.1 (Kd.R_V (Kd.R_mono (Kd.R_bound HO.out) fun _ h => h.2.1)) HKF.out).mono ?_; rintro e w7 ⟨v7, rfl, hv, hb⟩; have HF := Aside0.mk hv; have HZ := Aside0.mk HD.out.k.1; have HDn := Aside0.mk (HD.out.on hb); clear HD hb hv hx0 hx1; have HD := HDn; clear HDn))
                go_ret
                exact ⟨_, _, rfl, Kd.V_mono HF.out (fun k hk => hk.elim id (Nat.le_trans HZ.out)), by have := pairing_len HI.out (fill_pairing (pairsL xs) HPL.out); omega, HD.out.to⟩
              | false =>
                rw [hac] at HKC
                clear hac
                go_wp2_with (go_at_call 32; refine (spec_l02Acyclic.calls kc Al cl l _ _ (Kd.R_reads' HO.out).2.2 (Kd.R_reads' HO.out).2.1 HKC.out).mono ?_; rintro e w6 ⟨rfl, hb⟩; clear hx0 hx1; have HXn := Aside0.mk (HX.out.below hb); have HOn := Aside0.mk (Kd.R_below HO.out hb); have HVn := Aside0.mk (Kd.R_below HV.out hb); have HDn := Aside0.mk (HD.out.on hb); clear HX HO HV HD; have HX := HXn; have HO := HOn; have HV := HVn; have HD := HDn; clear HXn HOn HVn HDn hb; have hx0 := HX.out.c0; have hx1 := HX.out.c1)
                go_ret
                exact drawP_end HO.out HD.out (by have := HLL.out; omega)
            · have hr0 : (r4 == 0) = false := beq_eq_false_iff_ne.2 h0
              by_cases h1 : r4 = 1
              · subst h1
                clear h0
                go_upto_region 18 with (go_at_call 62; refine (next_c w0 y 8 _ HD.out.s).mono ?_; rintro e w1 ⟨r8, rfl, hr, hp⟩; clear hr; have HXn := Aside0.mk (HX.out.src HY.out hp); have HOn := Aside0.mk (R_src HO.out (by decide) HD.out.s hp); have HVn := Aside0.mk (RO.src HV.out HD.out.s hp); have HDn := Aside0.mk (HD.out.src hp); clear HX HO HV HD; have HX := HXn; have HO := HOn; have HV := HVn; have HD := HDn; clear HXn HOn HVn HDn hp)
                · go_wp2_with (first
                    | (go_at_call 62; refine (next_c w0 y 8 _ HD.out.s).mono ?_; rintro e w1 ⟨r8, rfl, hr, hp⟩; clear hr; have HXn := Aside0.mk (HX.out.src HY.out hp); have HOn := Aside0.mk (R_src HO.out (by decide) HD.out.s hp); have HVn := Aside0.mk (RO.src HV.out HD.out.s hp); have HDn := Aside0.mk (HD.out.src hp); clear HX HO HV HD; have HX := HXn; have HO := HOn; have HV := HVn; have HD := HDn; clear HXn HOn HVn HDn hp)
                    | (at_builtin; refine apPs w.heap.size rfl (.tmp 74) (.tmp 80) rfl _ l [⟨_, _⟩] _ 1 1 rfl rfl (Kd.R_alloc HO.out _) (Kd.R_reads' (PO.one _ w.heap.size ⟨_, _⟩ HD.out.k.1)).2.2 (Below.refl w.heap.size _) (HD.out.on (below_alloc (Below.refl _ _) _)).k.1 (by have := HLL.out; omega) ?_; intro v7 w7 ho hb hg hat; have HDn := Aside0.mk ((HD.out.on (below_alloc (Below.refl _ _) _)).up hb); clear HO HD; have HO := Aside0.mk ho; have HD := HDn; clear HDn ho hb hg hat))
                  go_ret
                  exact drawP_end HO.out HD.out (by have := HLL.out; simp; omega)
                · go_ret
                  exact drawP_end HO.out HD.out (by have := HLL.out; omega)
              · have hr1 : (r4 == 1) = false := beq_eq_false_iff_ne.2 h1
                clear h0 h1
                go_wp2
                go_ret
                exact drawP_end HO.out HD.out (by have := HLL.out; omega)
def KP (W : World) (bs : Nat) (v : Value) (ys : List Int) (u : Value) (l : List Pr) : Prop := RO W bs v ys ∧ ys.length ≤ 64 ∧ Kd.V k57 57 W bs (fun k => bs ≤ k) u l ∧ l.length ≤ 100
def DrawK (w0 w : World) (y : Nat) (e : Ending) (w' : World) : Prop := ∃ n v ys u l, e = .returned (.tuple #[.agg #[.int .i64 n, v], u]) ∧ KP w' w.heap.size v ys u l ∧ SrcTo w0 w y w'
set_option maxRecDepth 100000 in
set_option maxHeartbeats 8000000 in
theorem draw2_c (w0 : World) (y : Nat) (w : World) (hS : Src w0 w y) :
    Calls Tryz.prog 36 #[.pointer (some ⟨y, 0, none⟩)] w (DrawK w0 w y) := by
  have HY : Aside0 (w.heap.size ≠ y) := ⟨Nat.ne_of_gt hS.lt⟩
  have HD := Aside0.mk ((Dr.start hS).on (below_alloc (Below.refl _ _) (.cells #[.int .i64 0, .slice none 0 0] 26)))
  have HX := Aside0.mk (CxAt.new w 0 none 0 0)
  clear hS
  go_enter Tryz.func36, Tryz.ntmps36
  go_upto_region 2 with (go_at_call 61; refine (spoil_c w0 y _ HD.out.s).mono ?_; rintro e w1 ⟨n, v, ys, rfl, hn, hv, hl, hp⟩; obtain ⟨A, c, rfl⟩ := Kd.R_slice hv; have HV := Aside0.mk (Kd.R_lower hv HD.out.k.1); have HL := Aside0.mk hl; have HXn := Aside0.mk (HX.out.src HY.out hp); have HDn := Aside0.mk (HD.out.src hp); clear hn hv hl hp HD HX; have HX := HXn; have HD := HDn; clear HXn HDn)
  have hb := below_alloc (Below.refl w1.heap.size w1) (.cells #[.int .i64 n, .slice A ys.length c] 26)
  have HT := Aside0.mk (CxAt.new w1 n A ys.length c)
  have HYT : Aside0 (w1.heap.size ≠ y ∧ w1.heap.size ≠ w.heap.size ∧ w.heap.size ≤ w1.heap.size) := ⟨Nat.ne_of_gt HD.out.s.lt, Nat.ne_of_gt HX.out.lt, HD.out.k.1⟩
  have HXn := Aside0.mk (HX.out.below hb)
  have HDn := Aside0.mk (HD.out.on hb)
  have HVn := Aside0.mk (Kd.R_below HV.out hb)
  clear hb HX HD HV
  have HX := HXn
  have HD := HDn
  have HV := HVn
  clear HXn HDn HVn
  go_upto_region 3 with (go_at_call 62; refine (next_c w0 y 2 _ HD.out.s).mono ?_; rintro e w2 ⟨r, rfl, hr, hp⟩; clear hr; have HXn := Aside0.mk (HX.out.src HY.out hp); have HTn := Aside0.mk (HT.out.src HYT.out.1 hp); have HVn := Aside0.mk (RO.src HV.out HD.out.s hp); have HDn := Aside0.mk (HD.out.src hp); clear hp HD HX HT HV; have HX := HXn; have HT := HTn; have HV := HVn; have HD := HDn; clear HXn HTn HVn HDn)
  · go_upto_region 4 with (go_at_call 63; refine (small_c w0 y _ HD.out.s).mono ?_; rintro e w3 ⟨n3, v3, zs, rfl, hn, hv, hl, hp⟩; obtain ⟨A3, c3, rfl⟩ := Kd.R_slice hv; have HV3 := Aside0.mk (Kd.R_lower hv HD.out.k.1); have HL3 := Aside0.mk (Nat.le_succ_of_le hl); clear hn hv hl HL; have HXn := Aside0.mk (HX.out.src HY.out hp); have HTn := Aside0.mk (HT.out.src HYT.out.1 hp); have HVn := Aside0.mk (RO.src HV.out HD.out.s hp); have HDn := Aside0.mk (HD.out.src hp); clear hp HD HX HT HV; have HX := HXn; have HT := HTn; have HV := HVn; have HD := HDn; clear HXn HTn HVn HDn; clear HV; have t0 := HT.out.c0; have t1 := HT.out.c1; have g0 := HT.out.fz0; have g1 := HT.out.fz)
    clear t0 t1 g0 g1
    have HTn := Aside0.mk (HT.out.set2 n3 A3 zs.length c3)
    have HVn : Aside0 (RO ((w3.setCell ⟨w1.heap.size, 0, none⟩ (.int .i64 n3)).setCell ⟨w1.heap.size, 1, none⟩ (.slice A3 zs.length c3)) w.heap.size (.slice A3 zs.length c3) zs) := ⟨RO.set (RO.set HV3.out HT.out _ _) (HT.out.set0 _) _ _⟩
    have HXn : Aside0 (CxAt ((w3.setCell ⟨w1.heap.size, 0, none⟩ (.int .i64 n3)).setCell ⟨w1.heap.size, 1, none⟩ (.slice A3 zs.length c3)) w.heap.size 0 none 0 0) := ⟨(HX.out.far (Ne.symm HYT.out.2.1) _).far (Ne.symm HYT.out.2.1) _⟩
    have HDn : Aside0 (Dr w0 w y ((w3.setCell ⟨w1.heap.size, 0, none⟩ (.int .i64 n3)).setCell ⟨w1.heap.size, 1, none⟩ (.slice A3 zs.length c3))) := ⟨(HD.out.up ((Below.refl w.heap.size _).setCell (p := ⟨w1.heap.size, 0, none⟩) HYT.out.2.2 _)).up ((Below.refl _ _).setCell (p := ⟨w1.heap.size, 1, none⟩) HYT.out.2.2 _)⟩
    clear HT HV3 HX HD
    have HT := HTn
    have HV := HVn
    have HX := HXn
    have HD := HDn
    have HL := HL3
    clear HTn HVn HXn HDn HL3
    generalize (w3.setCell ⟨w1.heap.size, 0, none⟩ (.int .i64 n3)).setCell ⟨w1.heap.size, 1, none⟩ (.slice A3 zs.length c3) = w4 at HT HV HX HD ⊢
    have HZ2 := Aside0.mk HX.out.lt
    have HZ3 := Aside0.mk HD.out.k.1
    refine st_ 6 (S := fun w' => w'.cell? ⟨w1.heap.size, 0, none⟩ = some (.int .i64 n3) ∧ w'.cell? ⟨w1.heap.size, 1, none⟩ = some (.slice A3 zs.length c3)) (ds := [4]) ⟨HT.out.c0, HT.out.c1⟩ (fun hHeld => ?_)
    refine with_tabW (T := (true, [([], []), ([], []), ([], []), ([1, 2], [1, 2]), ([0, 3, 0], [0]), ([3, 4, 0, 1, 2, 3, 4], [3])])) (B := [0, 0, 0, 6, 15, 31]) (by kernel_rfl) (by kernel_rfl) (fun HT_ HW_ => ?_)
    refine pd_ 1 13 2 HT_ ?_
    refine tk_ 0 12 3 HT_ HW_ hHeld ?_
    refine tk_ 2 14 7 HT_ HW_ hHeld ?_
    refine on_ 3 (some 15) 15 HT_ (fun K hK => ?_)
    refine ca_ Tryz.func64 #[.pointer (some ⟨y, 0, none⟩), .agg #[.int .i64 n3, .slice A3 zs.length c3]] ?_
    refine (drawPr_c w0 y n3 A3 c3 zs w.heap.size _ (HD.out.on (below_drew (Below.refl _ _))).s (Kd.R_drew HV.out) HL.out).mono ?_; rintro e wz1 ⟨u, l, rfl, hu, hll, hp0⟩; have hp : SrcTo w0 w4 y wz1 := ⟨hp0.1, hp0.2⟩; have HLL := Aside0.mk hll; obtain ⟨Au, cu, rfl⟩ := Kd.V_slice hu; have HU0 := Aside0.mk hu; clear hu hll hp0; have HXn := Aside0.mk (HX.out.src HY.out hp); have HTn := Aside0.mk (HT.out.src HYT.out.1 hp); have HVn := Aside0.mk (RO.src HV.out HD.out.s hp); have HDn := Aside0.mk (HD.out.src hp); clear hp HD HX HT HV; have HX := HXn; have HT := HTn; have HV := HVn; have HD := HDn; clear HXn HTn HVn HDn
    refine ⟨_, rfl, ?_⟩
    refine hK.out _ _ ⟨HT.out.c0, HT.out.c1⟩ (fun hHeld => ?_)
    clear hK K
    refine nm_ ?_
    refine la_ 4 none 31 HT_ (fun K hK => ?_)
    (have m0 := HX.out.c0; have m1 := HX.out.c1; have f0 := HX.out.fz0; have f1 := HX.out.fz; refine skip_ (by rfl) rfl (w1 := ((wz1).setCell ⟨w.heap.size, 0, none⟩ (.int .i64 n3)).setCell ⟨w.heap.size, 1, none⟩ (.slice A3 zs.length c3)) (by go_simp) ?_; clear m0 m1 f0 f1)
    refine hK.out _ _ ?_
    clear hK K
    refine pd_ 5 3 63 HT_ ?_
    refine dn_ HT_ ?_
    go_wp2
    have hX := HX.out.set2 n3 A3 zs.length c3
    have x0 := hX.c0
    have x1 := hX.c1
    have hne : ∀ k, w4.heap.size ≤ k → k ≠ w.heap.size := fun k hk => Nat.ne_of_gt (Nat.lt_of_lt_of_le HZ2.out hk)
    refine bodyPost_ret (v := .tuple #[.agg #[.int .i64 n3, .slice A3 zs.length c3], .slice Au l.length cu]) (by simp [results, Tryz.results36, go_sem, x0, x1]) rfl ⟨_, _, zs, _, l, rfl, ⟨RO.set (RO.set HV.out HX.out _ _) (HX.out.set0 _) _ _, HL.out, Kd.V_mono (Kd.V_far (p := ⟨w.heap.size, 1, none⟩) (Kd.V_far (p := ⟨w.heap.size, 0, none⟩) HU0.out hne _) hne _) (fun k hk => Nat.le_trans HZ3.out hk), HLL.out⟩, ((HD.out.up ((Below.refl w.heap.size _).setCell (p := ⟨w.heap.size, 0, none⟩) (Nat.le_refl _) _)).up ((Below.refl _ _).setCell (p := ⟨w.heap.size, 1, none⟩) (Nat.le_refl _) _)).to⟩
  · skip
    have HZ2 := Aside0.mk HX.out.lt
    have HZ3 := Aside0.mk HD.out.k.1
    refine st_ 6 (S := fun w' => w'.cell? ⟨w1.heap.size, 0, none⟩ = some (.int .i64 n) ∧ w'.cell? ⟨w1.heap.size, 1, none⟩ = some (.slice A ys.length c)) (ds := [4]) ⟨HT.out.c0, HT.out.c1⟩ (fun hHeld => ?_)
    refine with_tabW (T := (true, [([], []), ([], []), ([], []), ([1, 2], [1, 2]), ([0, 3, 0], [0]), ([3, 4, 0, 1, 2, 3, 4], [3])])) (B := [0, 0, 0, 6, 15, 31]) (by kernel_rfl) (by kernel_rfl) (fun HT_ HW_ => ?_)
    refine pd_ 1 13 2 HT_ ?_
    refine tk_ 0 12 3 HT_ HW_ hHeld ?_
    refine tk_ 2 14 7 HT_ HW_ hHeld ?_
    refine on_ 3 (some 15) 15 HT_ (fun K hK => ?_)
    refine ca_ Tryz.func64 #[.pointer (some ⟨y, 0, none⟩), .agg #[.int .i64 n, .slice A ys.length c]] ?_
    refine (drawPr_c w0 y n A c ys w.heap.size _ (HD.out.on (below_drew (Below.refl _ _))).s (Kd.R_drew HV.out) HL.out).mono ?_; rintro e wz1 ⟨u, l, rfl, hu, hll, hp0⟩; have hp : SrcTo w0 w2 y wz1 := ⟨hp0.1, hp0.2⟩; have HLL := Aside0.mk hll; obtain ⟨Au, cu, rfl⟩ := Kd.V_slice hu; have HU0 := Aside0.mk hu; clear hu hll hp0; have HXn := Aside0.mk (HX.out.src HY.out hp); have HTn := Aside0.mk (HT.out.src HYT.out.1 hp); have HVn := Aside0.mk (RO.src HV.out HD.out.s hp); have HDn := Aside0.mk (HD.out.src hp); clear hp HD HX HT HV; have HX := HXn; have HT := HTn; have HV := HVn; have HD := HDn; clear HXn HTn HVn HDn
    refine ⟨_, rfl, ?_⟩
    refine hK.out _ _ ⟨HT.out.c0, HT.out.c1⟩ (fun hHeld => ?_)
    clear hK K
    refine nm_ ?_
    refine la_ 4 none 31 HT_ (fun K hK => ?_)
    (have m0 := HX.out.c0; have m1 := HX.out.c1; have f0 := HX.out.fz0; have f1 := HX.out.fz; refine skip_ (by rfl) rfl (w1 := ((wz1).setCell ⟨w.heap.size, 0, none⟩ (.int .i64 n)).setCell ⟨w.heap.size, 1, none⟩ (.slice A ys.length c)) (by go_simp) ?_; clear m0 m1 f0 f1)
    refine hK.out _ _ ?_
    clear hK K
    refine pd_ 5 3 63 HT_ ?_
    refine dn_ HT_ ?_
    go_wp2
    have hX := HX.out.set2 n A ys.length c
    have x0 := hX.c0
    have x1 := hX.c1
    have hne : ∀ k, w2.heap.size ≤ k → k ≠ w.heap.size := fun k hk => Nat.ne_of_gt (Nat.lt_of_lt_of_le HZ2.out hk)
    refine bodyPost_ret (v := .tuple #[.agg #[.int .i64 n, .slice A ys.length c], .slice Au l.length cu]) (by simp [results, Tryz.results36, go_sem, x0, x1]) rfl ⟨_, _, ys, _, l, rfl, ⟨RO.set (RO.set HV.out HX.out _ _) (HX.out.set0 _) _ _, HL.out, Kd.V_mono (Kd.V_far (p := ⟨w.heap.size, 1, none⟩) (Kd.V_far (p := ⟨w.heap.size, 0, none⟩) HU0.out hne _) hne _) (fun k hk => Nat.le_trans HZ3.out hk), HLL.out⟩, ((HD.out.up ((Below.refl w.heap.size _).setCell (p := ⟨w.heap.size, 0, none⟩) (Nat.le_refl _) _)).up ((Below.refl _ _).setCell (p := ⟨w.heap.size, 1, none⟩) (Nat.le_refl _) _)).to⟩
def DrawKB (w : World) (e : Ending) (w' : World) : Prop := ∃ n v ys u l, e = .returned (.tuple #[.agg #[.int .i64 n, v], u]) ∧ KP w' w.heap.size v ys u l ∧ Below w.heap.size w w'
theorem drawKB_end {w W : World} {b bs : Nat} {A : Option Addr} {a n : Int} {A0 : Option Addr} {c l0 c0 : Nat} {ys : List Int} {u : Value} {l : List Pr} (hx : CxAt W b a A0 l0 c0) (hb : w.heap.size ≤ b) (hbs : b < bs) (hB : Below w.heap.size w W) (hk : KP W bs (.slice A ys.length c) ys u l) :
    DrawKB w (.returned (.tuple #[.agg #[.int .i64 n, .slice A ys.length c], u])) ((W.setCell ⟨b, 0, none⟩ (.int .i64 n)).setCell ⟨b, 1, none⟩ (.slice A ys.length c)) := by
  obtain ⟨h1, h2, h3, h4⟩ := hk
  have hne : ∀ k, bs ≤ k → k ≠ b := fun k hk => by omega
  exact ⟨n, _, ys, u, l, rfl, ⟨Kd.R_lower (RO.set (RO.set h1 hx _ _) (hx.set0 _) _ _) (by omega), h2, Kd.V_mono (Kd.V_far (p := ⟨b, 1, none⟩) (Kd.V_far (p := ⟨b, 0, none⟩) h3 hne _) hne _) (fun k hk => by omega), h4⟩, (hB.setCell (p := ⟨b, 0, none⟩) hb _).setCell (p := ⟨b, 1, none⟩) hb _⟩
theorem KP.below {W W' : World} {bs : Nat} {v u : Value} {ys : List Int} {l : List Pr} (h : KP W bs v ys u l) (hb : Below W.heap.size W W') : KP W' bs v ys u l := ⟨Kd.R_below h.1 hb, h.2.1, Kd.V_below h.2.2.1 hb, h.2.2.2⟩
set_option maxRecDepth 100000 in
set_option maxHeartbeats 8000000 in
theorem drawIs_c (A : Option Addr) (c : Nat) (l0 : List Int) (w : World) (hr : Kd.C (Kd.int .u8) w A l0.length l0) (hc : l0.length ≤ c) (hl : l0.length ≤ 4096) (hb : ∀ x ∈ l0, 0 ≤ x ∧ x ≤ 255) : Calls Tryz.prog 19 #[.slice A l0.length c] w (DrawKB w) := by
  have hb1 := below_alloc (Below.refl _ w) (.cells #[.int .i64 0, .slice none 0 0] 26)
  have HB := Aside0.mk hb1
  have HX := Aside0.mk (CxAt.new w 0 none 0 0)
  have HR := Aside0.mk (Kd.C_below hr hb1)
  have HBY := Aside0.mk hb
  have HC := Aside0.mk hc
  clear hb1 hr hb hc
  go_enter Tryz.func19, Tryz.ntmps19
  go_upto_region 2 with (first
    | (go_at_call 37; refine (from_c A c l0 _ HR.out HC.out hl HBY.out).mono ?_; rintro e w1 ⟨y, rfl, hs⟩; have HS := Aside0.mk hs; have hb2 := hs.hb; have HBn := Aside0.mk (below_in HB.out hb2); have HXn := Aside0.mk (HX.out.below hb2); have HLT := Aside0.mk (Nat.lt_of_lt_of_le HX.out.lt hb2.size); clear HB HX hs hb2; have HB := HBn; have HX := HXn; clear HBn HXn)
    | (go_at_call 36; refine (draw2_c _ y _ HS.out).mono ?_; rintro e w2 ⟨n, v, ys, u, l, rfl, hk, hp⟩; obtain ⟨A1, c1, rfl⟩ := Kd.R_slice hk.1; obtain ⟨Au, cu, rfl⟩ := Kd.V_slice hk.2.2.1; have HK := Aside0.mk hk; have HBn := Aside0.mk ((below_alloc (Below.refl _ w) (.cells #[.int .i64 0, .slice none 0 0] 26)).trans (hp.1.hb.mono (by simp))); have HXn := Aside0.mk (HX.out.src (Nat.ne_of_lt (Nat.lt_of_lt_of_le (by simp) HS.out.ge)) hp); clear hk hp HB HX HS; have HB := HBn; have HX := HXn; clear HBn HXn))
  have hb3 := below_alloc (Below.refl w2.heap.size w2) (.cells #[.int .i64 n, .slice A1 ys.length c1] 26)
  have HXn := Aside0.mk (HX.out.below hb3)
  have HBn := Aside0.mk (below_in HB.out hb3)
  have HKn := Aside0.mk (HK.out.below hb3)
  have HT := CxAt.new w2 n A1 ys.length c1
  have t0 := HT.c0
  have t1 := HT.c1
  have m0 := HXn.out.c0
  have m1 := HXn.out.c1
  have f0 := HXn.out.fz0
  have f1 := HXn.out.fz
  clear hb3 HX HB HK HT
  go_wp2
  have hX := HXn.out.set2 n A1 ys.length c1
  have x0 := hX.c0
  have x1 := hX.c1
  refine bodyPost_ret (v := .tuple #[.agg #[.int .i64 n, .slice A1 ys.length c1], .slice Au l.length cu]) (by simp [results, Tryz.results19, go_sem, x0, x1]) rfl (drawKB_end HXn.out (Nat.le_refl _) HLT.out HBn.out HKn.out)
set_option maxRecDepth 100000 in
set_option maxHeartbeats 8000000 in
theorem drawCrit_c (A : Option Addr) (c : Nat) (l0 : List Int) (w : World) (hr : Kd.C (Kd.int .u8) w A l0.length l0) (hc : l0.length ≤ c) (hl : l0.length ≤ 4096) (hb : ∀ x ∈ l0, 0 ≤ x ∧ x ≤ 255) : Calls Tryz.prog 5 #[.slice A l0.length c] w (DrawKB w) := by
  have hb1 := below_alloc (Below.refl _ w) (.cells #[.int .i64 0, .slice none 0 0] 26)
  have HB := Aside0.mk hb1
  have HX := Aside0.mk (CxAt.new w 0 none 0 0)
  have HR := Aside0.mk (Kd.C_below hr hb1)
  have HBY := Aside0.mk hb
  have HC := Aside0.mk hc
  clear hb1 hr hb hc
  go_enter Tryz.func5, Tryz.ntmps5
  go_wp2_with (go_at_call 19; refine (drawIs_c A c l0 _ HR.out HC.out hl HBY.out).mono ?_; rintro e w2 ⟨n, v, ys, u, l, rfl, hk, hb2⟩; obtain ⟨A1, c1, rfl⟩ := Kd.R_slice hk.1; obtain ⟨Au, cu, rfl⟩ := Kd.V_slice hk.2.2.1; have HK := Aside0.mk hk; have HLT := Aside0.mk HX.out.lt; have HBn := Aside0.mk (below_in HB.out hb2); have HXn := Aside0.mk (HX.out.below hb2); have m0 := HXn.out.c0; have m1 := HXn.out.c1; have f0 := HXn.out.fz0; have f1 := HXn.out.fz; clear hk hb2 HB HX)
  have hX := HXn.out.set2 n A1 ys.length c1
  have x0 := hX.c0
  have x1 := hX.c1
  refine bodyPost_ret (v := .tuple #[.agg #[.int .i64 n, .slice A1 ys.length c1], .slice Au l.length cu]) (by simp [results, Tryz.results5, go_sem, x0, x1]) rfl (drawKB_end HXn.out (Nat.le_refl _) HLT.out HBn.out HK.out)
end Go.Proofs.YtpnmifahfpmplaaGreat.Im
namespace Go.Proofs.YtpnmifahfpmplaaGreat.QS
open Cw Kp Ext Go.RowKit YtpnmifahfpmplaaGreatW.PrintWords YtpnmifahfpmplaaGreatW.PrintLast YtpnmifahfpmplaaGreatW.PrintMore
attribute [local go_sem] max2_int min2_int max_two min_two max_three min_three max_four min_four   -- for this text's walks alone
def spec_l02Dim.f (k : Nat) (a0 : Int) : Option (Int) := (spec_l01Ones.f k a0).bind fun t166 => (some (wrap64 (t166 - 1)))
set_option maxHeartbeats 8000000 in
set_option maxRecDepth 100000 in
theorem spec_l02Dim.calls (k : Nat) (a0 : Int) (r : Int) (w : World) (h : spec_l02Dim.f k a0 = some r) :
  Calls Tryz.prog 47 #[.int .i64 a0] w fun e w' => e = .returned (.int .i64 r) ∧ Drawn0 w w' := by
 have H : ((spec_l01Ones.f k a0).bind fun t166 => (some (wrap64 (t166 - 1)))) = some r := h
 clear h
 replace H := Option.bind_eq_some_iff.mp H
 obtain ⟨t166, A20, H⟩ := H
 try dsimp only at H
 have A2 := Aside0.mk A20
 clear A20
 obtain rfl := Option.some.inj H
 go_enter Tryz.func47, Tryz.ntmps47
 go_wp2_with (first | ((with_reducible refine gate_callee (f := 68) rfl ?_); refine cl_ (some 4) Tryz.func68 #[.int .i64 a0] ?_; (with_reducible refine (spec_l01Ones.calls k a0 t166 _ A2.out).mono ?_); rintro e w' ⟨rfl, ⟨nd, rfl⟩⟩; refine ⟨_, rfl, ?_⟩))
 go_ret
 exact ⟨by first | rfl | (simp; done) | (simp [*]; done), by repeat (first | exact Drawn0.refl _ | apply Drawn0.step)⟩
mutual
def spec_l02Numbers.l0 : Nat → List (S57) → Int → Int → Int → List Int → Option (List Int)
 | 0, _, _, _, _, _ => none
 | k + 1, x1, x5, x6, x168000, x168001 => if x6 < (x168001.length : Int) then (if 0 ≤ x6 then ((spec_l02Dim.f k (rd x168001 x6)).bind fun t169 => (spec_l02Numbers.l0 k x1 (mx x5 t169) (wrap64 (x6 + 1)) x168000 x168001)) else (none)) else (if 0 ≤ (wrap64 (x5 + 1)) then (if (wrap64 (x5 + 1) : Int).toNat ≤ 35184372088832 then ((spec_l02Critical.f k x168000 x168001 x1).bind fun t173 => (spec_l02Numbers.l1 k (List.replicate (wrap64 (x5 + 1) : Int).toNat 0) t173 0)) else (none)) else (none))
def spec_l02Numbers.l1 : Nat → List Int → List Int → Int → Option (List Int)
 | 0, _, _, _ => none
 | k + 1, x7, x8, x9 => if x9 < (x8.length : Int) then (if 0 ≤ x9 then ((spec_l02Dim.f k (rd x8 x9)).bind fun t177 => (if 0 ≤ t177 then (if t177 < (x7.length : Int) then (spec_l02Numbers.l1 k (x7.set (t177 : Int).toNat (wrap64 ((rd x7 t177) + 1))) x8 (wrap64 (x9 + 1))) else (none)) else (none))) else (none)) else (some x7)
end
def spec_l02Numbers.f (k : Nat) (a0_0 : Int) (l0_1 : List Int) (l1 : List (S57)) : Option (List Int) := spec_l02Numbers.l0 k l1 (-1) 0 a0_0 l0_1
def spec_l02Numbers.T6 : Bool × List (List Nat × List Nat) := (true, [([], []), ([0], [0]), ([1, 1], [1]), ([], []), ([], []), ([3, 4], [3, 4]), ([2, 5, 0, 1, 2], [2]), ([5, 6, 0, 1, 2, 3, 4, 5, 6], [5])])
def spec_l02Numbers.B6 : List Nat := [0, 1, 3, 0, 0, 24, 63, 127]
theorem spec_l02Numbers.tab6 : rtab .any (opsOf Tryz.f25 6) = spec_l02Numbers.T6 := by kernel_rfl
theorem spec_l02Numbers.bits6 : waitsOk spec_l02Numbers.T6.2 spec_l02Numbers.B6 = true := by kernel_rfl
set_option maxHeartbeats 8000000 in
set_option maxRecDepth 100000 in
theorem spec_l02Numbers.calls (k : Nat) (a0_0 : Int) (A0_1 : Option Addr) (c0_1 : Nat) (l0_1 : List Int) (A1 : Option Addr) (c1 : Nat) (l1 : List (S57)) (r : List Int) (w : World) (hr0_1 : Kd.C (Kd.int .i64) w A0_1 l0_1.length l0_1) (hc0_1 : l0_1.length ≤ c0_1) (hr1 : Kd.C k57 w A1 l1.length l1) (hc1 : l1.length ≤ c1) (h : spec_l02Numbers.f k a0_0 l0_1 l1 = some r) :
  Calls Tryz.prog 25 #[.agg #[.int .i64 a0_0, .slice A0_1 l0_1.length c0_1], .slice A1 l1.length c1] w fun e w' => ∃ v0_ : Value, e = .returned (v0_) ∧ Kd.R (Kd.int .i64) 2 w' w.heap.size (fun _ => True) v0_ r ∧ Below w.heap.size w w' := by
 have hu26 := Tryz.underlying26
 have HR0_1 := Aside0.mk hr0_1
 have HC0_1 := Aside0.mk hc0_1
 clear hr0_1 hc0_1
 have HR1 := Aside0.mk hr1
 have HC1 := Aside0.mk hc1
 clear hr1 hc1
 have HB := Aside0.mk (Below.refl w.heap.size w)
 have H : (spec_l02Numbers.l0 k l1 (-1) 0 a0_0 l0_1) = some r := h
 clear h
 have H' := Aside0.mk H
 clear H
 go_enter Tryz.func25, Tryz.ntmps25
 go_wp2_with (first | ((with_reducible refine gate_dst (N := 2) rfl ?_); refine box_event ?hg (N := 2) ?hd (cs := #[.int .i64 a0_0, .slice A0_1 l0_1.length c0_1]) (t := 26) ?hr ?_; (case hd => rfl); (case hg => rfl); (case hr => first | (go_simp; done) | (go_simp; rfl)); intro gb167 hg w3 hbox hb; have BK167 := Aside0.mk (hbox); have GW167 := gH HB hg; have GE167 := gH HB hg; replace HB := sH HB hb; clear hb hbox hg))
 go_loopg [5, 6] k (fun kq v5 v6 w' => ∃ (x5_1 : Int) (x6_1 : Int), v5 = .int .i64 x5_1 ∧ v6 = .int .i64 x6_1 ∧ Aside0 (spec_l02Numbers.l0 kq l1 x5_1 x6_1 a0_0 l0_1 = some r) ∧ Aside0 (kq ≤ k) ∧ Aside0 (w'.heap[gb167]? = some (.cells #[.int .i64 a0_0, (.slice A0_1 l0_1.length c0_1)] 26 (0, 0))) ∧ Aside0 (Below w.heap.size w w'))
 case atStart => exact ⟨((-1)), (0), (by first | rfl | (simp; done) | (simp [*]; done)), (by first | rfl | (simp; done) | (simp [*]; done)), H', ⟨Nat.le_refl _⟩, ⟨pB BK167⟩, ⟨pH HB⟩⟩
 case round =>
  clear H'
  try clear c1
  try clear c2
  try clear p2
  obtain ⟨x5_1, x6_1, rfl, rfl, HA, HK1, BK167, HB⟩ := hrel
  cases gk with
  | zero => exact absurd HA.out (by simp [spec_l02Numbers.l0])
  | succ k1 =>
   have H := HA.out
   clear HA
   simp only [spec_l02Numbers.l0] at H
   by_cases c4 : x6_1 < (l0_1.length : Int)
   ·rw [if_pos c4] at H
    have c4b0 : decide (x6_1 < (l0_1.length : Int)) = true := decide_eq_true c4
    clear c4
    by_cases c5 : 0 ≤ x6_1
    ·rw [if_pos c5] at H
     have c5b0 : decide (0 ≤ x6_1) = true := decide_eq_true c5
     clear c5
     replace H := Option.bind_eq_some_iff.mp H
     obtain ⟨t169, A60, H⟩ := H
     try dsimp only at H
     have A6 := Aside0.mk A60
     clear A60
     obtain ⟨ji7, hji7⟩ : ∃ j_ : Int, (mx x5_1 t169) = j_ := ⟨_, rfl⟩
     replace H : (spec_l02Numbers.l0 k1 l1 ji7 (wrap64 (x6_1 + 1)) a0_0 l0_1) = some r := by first | (rw [hji7] at H; exact H) | (simp only [hji7] at H ⊢; exact H)
     (try rw [hji7] at A6)
     have hji7_ : (if x5_1 < t169 then t169 else x5_1) = ji7 := hji7
     have H' := Aside0.mk H
     clear H
     have hcz8_0 : wr.cell? ⟨gb167, 0, none⟩ = some (.int .i64 a0_0) := cB BK167 0
     have hcz8_1 : wr.cell? ⟨gb167, 1, none⟩ = some (.slice A0_1 l0_1.length c0_1) := cB BK167 1
     have hfz8_0 := zB BK167 0
     have hfz8_1 := zB BK167 1
     have p168 : 0 ≤ (x6_1 : Int) := of_decide_eq_true (by first | (with_reducible assumption) | assumption)
     have q168 : x6_1 < (l0_1.length : Int) := of_decide_eq_true (by first | (with_reducible assumption) | assumption)
     obtain ⟨ad168, e168, hx168_0⟩ := Kd.at_int HR0_1.out x6_1 p168 q168
     cases e168
     replace hx168_0 := cH HB hx168_0
     replace p168 := eq_true p168
     replace q168 := eq_true q168
     go_wp2_with (first | ((with_reducible refine gate_callee (f := 47) rfl ?_); refine cl_ (some 23) Tryz.func47 #[.int .i64 (rd l0_1 x6_1)] ?_; (with_reducible refine (spec_l02Dim.calls k1 (rd l0_1 x6_1) t169 _ A6.out).mono ?_); rintro e w' ⟨rfl, ⟨nd, rfl⟩⟩; refine ⟨_, rfl, ?_⟩))
     go_roundg k1
     case measure => have := HK1.out; omega
     case rel => exact ⟨(ji7), (wrap64 (x6_1 + 1)), (by first | rfl | (simp; done) | (simp only [← hji7] <;> (first | rfl | simp)) | (simp [*]; done)), (by first | rfl | (simp; done) | (simp [*]; done)), H', ⟨by have := HK1.out; omega⟩, ⟨pB BK167⟩, ⟨pH HB⟩⟩
    ·rw [if_neg c5] at H
     exact absurd H (by simp)
   ·rw [if_neg c4] at H
    have c4b0 : decide (x6_1 < (l0_1.length : Int)) = false := decide_eq_false c4
    clear c4
    obtain ⟨ji9, hji9⟩ : ∃ j_ : Int, (wrap64 (x5_1 + 1)) = j_ := ⟨_, rfl⟩
    replace H : (if 0 ≤ (ji9) then (if (ji9 : Int).toNat ≤ 35184372088832 then ((spec_l02Critical.f k1 a0_0 l0_1 l1).bind fun t173 => (spec_l02Numbers.l1 k1 (List.replicate (ji9 : Int).toNat 0) t173 0)) else (none)) else (none)) = some r := by first | (rw [hji9] at H; exact H) | (simp only [hji9] at H ⊢; exact H)
    have hji9w : (IntKind.i64.wrap (x5_1 + 1)) = ji9 := (i64_w _).trans hji9
    by_cases c10 : 0 ≤ (ji9)
    ·rw [if_pos c10] at H
     have c10b0 := eq_true c10
     have c10b1 : decide (0 ≤ (ji9)) = true := decide_eq_true c10
     clear c10
     by_cases c11 : (ji9 : Int).toNat ≤ 35184372088832
     ·rw [if_pos c11] at H
      have c11b0 := eq_true c11
      have c11b1 : decide ((ji9 : Int).toNat ≤ 35184372088832) = true := decide_eq_true c11
      clear c11
      obtain ⟨y170, hy170⟩ : ∃ y_ : List Int, y_ = (List.replicate (ji9 : Int).toNat 0) := ⟨_, rfl⟩
      replace H : ((spec_l02Critical.f k1 a0_0 l0_1 l1).bind fun t173 => (spec_l02Numbers.l1 k1 y170 t173 0)) = some r := by first | (rw [hy170]; with_reducible exact H) | (have H2_ := (Option.bind_some _ _).symm.trans H; rw [hy170]; with_reducible exact H2_) | (have H2_ := (Option.bind_some _ _).symm.trans H; with_reducible exact H2_) | with_reducible exact H | (rw [hy170]; exact H) | exact H
      have Ny170 := Aside0.mk hy170
      clear hy170
      replace H := Option.bind_eq_some_iff.mp H
      obtain ⟨t173, A120, H⟩ := H
      try dsimp only at H
      have A12 := Aside0.mk A120
      clear A120
      have H' := Aside0.mk H
      clear H
      have hcz13_0 : wr.cell? ⟨gb167, 0, none⟩ = some (.int .i64 a0_0) := cB BK167 0
      have hcz13_1 : wr.cell? ⟨gb167, 1, none⟩ = some (.slice A0_1 l0_1.length c0_1) := cB BK167 1
      have hfz13_0 := zB BK167 0
      have hfz13_1 := zB BK167 1
      try go_wp2
      replace BK167 := dB BK167
      replace HB := dH HB
      refine st_ 8 (S := fun w' => w'.cell? ⟨gb167, 0, none⟩ = some (.int .i64 a0_0) ∧ w'.cell? ⟨gb167, 1, none⟩ = some (.slice A0_1 l0_1.length c0_1)) (ds := []) ⟨cB BK167 0, cB BK167 1⟩ (fun hHeld => ?_); refine with_tabW spec_l02Numbers.tab6 spec_l02Numbers.bits6 (fun HT_ HW_ => ?_)
      generalize wr.drew = w14 at BK167 HB hHeld ⊢
      refine pu_ 0 25 1 HT_ ?_
      refine pu_ 1 26 3 HT_ ?_
      refine pu_ 4 29 19 HT_ ?_
      refine tk_ 3 28 27 HT_ HW_ hHeld ?_
      refine join_ (σ := Value × Value) 2 (mB 8 63) (fun s_ => [(27, s_.1), (30, s_.2)]) (fun s_ w' => (w'.cell? ⟨gb167, 0, none⟩ = some (.int .i64 a0_0) ∧ w'.cell? ⟨gb167, 1, none⟩ = some (.slice A0_1 l0_1.length c0_1)) ∧ (Kd.R (Kd.int .i64) 2 w' w.heap.size (fun k_ => some k_ ≠ (s_.2 : Value).ownBlock) s_.1 y170) ∧ (Kd.R (Kd.int .i64) 2 w' w.heap.size (fun k_ => some k_ ≠ (s_.1 : Value).ownBlock) s_.2 t173) ∧ (w'.heap[gb167]? = some (.cells #[.int .i64 a0_0, .slice A0_1 l0_1.length c0_1] 26 (0, 0))) ∧ (Below w.heap.size w w')) ?_ ?_
      rotate_left
      ·intro hCont
       refine two_ (i := 2) (j := 5) (Ni := some 27) (Nj := some 30) (mB 8 31) (mB 8 59) rfl rfl rfl rfl (two_of HT_.out (by kernel_rfl)) (by decide) (by decide) (fun K hK => ?_) (fun K hK => ?_)
       ·skip
        refine Kd.R_make_step (Kd.int .i64) _ 2 (by rfl) (N := 27) rfl 24 _ _ rfl ji9 rfl rfl Tryz.underlying24 (.int .i64 0) 8 info2 rfl (by decide) (by omega) 0 (ok := fun _ => True) (okp := fun _ => True) rfl (fun _ hk => hk) trivial (of_decide_eq_true (by first | (with_reducible assumption) | assumption)) (Nat.le_trans (Nat.mul_le_mul_right _ (of_decide_eq_true (by first | (with_reducible assumption) | assumption) : ji9.toNat ≤ 35184372088832)) (by omega)) (Below.refl _ _) (Nat.le_refl _) ?_
        intro v171 w15 ho16 hb hg_ hnew_
        clear hg_ hnew_
        (first | rw [← Ny170.out] at ho16 | (simp only [Int.reduceToNat] at ho16; rw [← Ny170.out] at ho16))
        have HO172 := Aside0.mk (Kd.R_lower ho16 (below_size (pH HB)))
        replace BK167 := sB BK167 hb
        replace HB := sH HB hb
        clear hb ho16
        refine hK.out _ _ ⟨cB BK167 0, cB BK167 1⟩ (fun hHeld => ?_)
        clear hK K
        refine nm_ ?_
        refine on_ 5 (some 30) 63 HT_ (fun K hK => ?_)
        refine ca_ Tryz.func23 #[.agg #[.int .i64 a0_0, .slice A0_1 l0_1.length c0_1], .slice A1 l1.length c1] ?_
        with_reducible refine (spec_l02Critical.calls k1 a0_0 _ _ l0_1 _ _ l1 t173 _ ?side1 ?side2 ?side3 ?side4 A12.out).mono ?_
        (case side1 => exact pC ((Kd.C_below HR0_1.out HB.out)))
        (case side2 => exact HC0_1.out)
        (case side3 => exact pC ((Kd.C_below HR1.out HB.out)))
        (case side4 => exact HC1.out)
        rintro e w17 ⟨v174, rfl, ho0, hb⟩
        refine ⟨_, rfl, ?_⟩
        have HO175 := Aside0.mk (Kd.R_lower (Kd.R_new' ho0 (Kd.R_lt (pR HO172))) (below_size (pH HB)))
        replace HO172 := Aside0.mk (Kd.R_elder' (pR HO172) (Kd.R_base ho0) hb)
        replace BK167 := sB BK167 hb
        replace HB := sH HB hb
        (try clear hb)
        (try clear hb2)
        (try clear hk)
        (try clear hi)
        (try clear ho0)
        refine hK.out _ _ ⟨cB BK167 0, cB BK167 1⟩ (fun hHeld => ?_)
        clear hK K
        refine nm_ ?_
        exact norm_ (by simp only [putAll, Act.put, List.setIfInBounds_toArray, List.set_cons_zero, List.set_cons_succ]) (hCont (v171, v174) _ ⟨hHeld, (by (with_reducible repeat (first | apply Kd.R_alloc | apply Kd.R_drewN | apply Kd.R_drew)); exact Kd.R_mono HO172.out (fun _ hk => hk.2)), (by (with_reducible repeat (first | apply Kd.R_alloc | apply Kd.R_drewN | apply Kd.R_drew)); exact Kd.R_mono HO175.out (fun _ hk => hk.2)), (pB BK167), (pH HB)⟩)
       ·skip
        refine ca_ Tryz.func23 #[.agg #[.int .i64 a0_0, .slice A0_1 l0_1.length c0_1], .slice A1 l1.length c1] ?_
        with_reducible refine (spec_l02Critical.calls k1 a0_0 _ _ l0_1 _ _ l1 t173 _ ?side1 ?side2 ?side3 ?side4 A12.out).mono ?_
        (case side1 => exact pC ((Kd.C_below HR0_1.out HB.out)))
        (case side2 => exact HC0_1.out)
        (case side3 => exact pC ((Kd.C_below HR1.out HB.out)))
        (case side4 => exact HC1.out)
        rintro e w15 ⟨v174, rfl, ho0, hb⟩
        refine ⟨_, rfl, ?_⟩
        have HO175 := Aside0.mk (Kd.R_lower ho0 (below_size (pH HB)))
        replace BK167 := sB BK167 hb
        replace HB := sH HB hb
        (try clear hb)
        (try clear hb2)
        (try clear hk)
        (try clear hi)
        (try clear ho0)
        refine hK.out _ _ ⟨cB BK167 0, cB BK167 1⟩ (fun hHeld => ?_)
        clear hK K
        refine nm_ ?_
        refine on_ 2 (some 27) 63 HT_ (fun K hK => ?_)
        refine Kd.R_make_step (Kd.int .i64) _ 2 (by rfl) (N := 27) rfl 24 _ _ rfl ji9 rfl rfl Tryz.underlying24 (.int .i64 0) 8 info2 rfl (by decide) (by omega) 0 (ok := fun _ => True) (okp := fun _ => True) rfl (fun _ hk => hk) trivial (of_decide_eq_true (by first | (with_reducible assumption) | assumption)) (Nat.le_trans (Nat.mul_le_mul_right _ (of_decide_eq_true (by first | (with_reducible assumption) | assumption) : ji9.toNat ≤ 35184372088832)) (by omega)) (Below.refl _ _) (Nat.le_refl _) ?_
        intro v171 w16 ho17 hb hg_ hnew_
        clear hg_ hnew_
        (first | rw [← Ny170.out] at ho17 | (simp only [Int.reduceToNat] at ho17; rw [← Ny170.out] at ho17))
        have HO172 := Aside0.mk (Kd.R_lower (Kd.R_new' ho17 (Kd.R_lt (pR HO175))) (below_size (pH HB)))
        replace HO175 := Aside0.mk (Kd.R_elder' (pR HO175) (Kd.R_base ho17) hb)
        replace BK167 := sB BK167 hb
        replace HB := sH HB hb
        clear hb ho17
        refine hK.out _ _ ⟨cB BK167 0, cB BK167 1⟩ (fun hHeld => ?_)
        clear hK K
        refine nm_ ?_
        exact norm_ (by simp only [putAll, Act.put, List.setIfInBounds_toArray, List.set_cons_zero, List.set_cons_succ]) (hCont (v171, v174) _ ⟨hHeld, (by (with_reducible repeat (first | apply Kd.R_alloc | apply Kd.R_drewN | apply Kd.R_drew)); exact Kd.R_mono HO172.out (fun _ hk => hk.2)), (by (with_reducible repeat (first | apply Kd.R_alloc | apply Kd.R_drewN | apply Kd.R_drew)); exact Kd.R_mono HO175.out (fun _ hk => hk.2)), (pB BK167), (pH HB)⟩)
      rintro ⟨v171, v174⟩ w18 ⟨hS_, h0_, h1_, h2_, h3_⟩
      have n0_ : Aside0 (Kd.R (Kd.int .i64) 2 w18 w.heap.size (fun k_ => some k_ ≠ (v174 : Value).ownBlock) v171 y170) := ⟨h0_⟩
      have n1_ : Aside0 (Kd.R (Kd.int .i64) 2 w18 w.heap.size (fun k_ => some k_ ≠ (v171 : Value).ownBlock) v174 t173) := ⟨h1_⟩
      have n2_ : Aside0 (w18.heap[gb167]? = some (.cells #[.int .i64 a0_0, .slice A0_1 l0_1.length c0_1] 26 (0, 0))) := ⟨h2_⟩
      have n3_ : Aside0 (Below w.heap.size w w18) := ⟨h3_⟩
      clear BK167
      clear HB
      clear h0_ h1_ h2_ h3_
      have HO172 := n0_
      have HO175 := n1_
      have BK167 := n2_
      have HB := n3_
      clear n0_ n1_ n2_ n3_
      have hHeld : w18.cell? ⟨gb167, 0, none⟩ = some (.int .i64 a0_0) ∧ w18.cell? ⟨gb167, 1, none⟩ = some (.slice A0_1 l0_1.length c0_1) := hS_
      refine norm_ (a' := ?_) ?_ ?_
      rotate_left
      ·simp only [putAll, Act.put, List.setIfInBounds_toArray, List.set_cons_zero, List.set_cons_succ]
       rfl
      refine pu_ 6 7 127 HT_ ?_
      refine pu_ 7 8 255 HT_ ?_
      refine dn_ HT_ ?_
      try go_wp2
      go_loopg [9] k1 (fun kq v9 w' => ∃ (x7_2 : List Int) (x9_2 : Int), v9 = .int .i64 x9_2 ∧ Aside0 (spec_l02Numbers.l1 kq x7_2 t173 x9_2 = some r) ∧ Aside0 (kq ≤ k1) ∧ Aside0 (Kd.R (Kd.int .i64) 2 w' w.heap.size (fun k_ => some k_ ≠ (v174 : Value).ownBlock) v171 x7_2) ∧ Aside0 (Kd.R (Kd.int .i64) 2 w' w.heap.size (fun k_ => some k_ ≠ (v171 : Value).ownBlock) v174 t173) ∧ Aside0 (w'.heap[gb167]? = some (.cells #[.int .i64 a0_0, (.slice A0_1 l0_1.length c0_1)] 26 (0, 0))) ∧ Aside0 (Below w.heap.size w w'))
      case atStart => exact ⟨(y170), (0), (by first | rfl | (simp; done) | (simp [*]; done)), H', ⟨Nat.le_refl _⟩, ⟨by (with_reducible repeat (first | apply Kd.R_alloc | apply Kd.R_drewN | apply Kd.R_drew)); exact HO172.out⟩, ⟨by (with_reducible repeat (first | apply Kd.R_alloc | apply Kd.R_drewN | apply Kd.R_drew)); exact HO175.out⟩, ⟨pB BK167⟩, ⟨pH HB⟩⟩
      case round =>
       clear H'
       try clear c1
       try clear p1
       try clear q1
       try clear hx1
       try clear c2
       try clear p2
       try clear c4
       try clear c4b0
       try clear c5
       try clear c5b0
       try clear p6
       try clear c10
       try clear c10b0
       try clear c10b1
       try clear c11
       try clear c11b0
       try clear c11b1
       try clear p16
       try clear q16
       try clear hx16
       try clear hcz13_0
       try clear hcz13_1
       try clear hcz8_0
       try clear hcz8_1
       try clear hfz13_0
       try clear hfz13_1
       try clear hfz8_0
       try clear hfz8_1
       try clear hx168_0
       try clear p168
       try clear p2
       try clear q168
       obtain ⟨x7_2, x9_2, rfl, HA, HK2, HO_7, HO_8, BK167, HB⟩ := hrel
       cases gk with
       | zero => exact absurd HA.out (by simp [spec_l02Numbers.l1])
       | succ k2 =>
        have H := HA.out
        clear HA
        simp only [spec_l02Numbers.l1] at H
        by_cases c19 : x9_2 < (t173.length : Int)
        ·rw [if_pos c19] at H
         have c19b0 : decide (x9_2 < (t173.length : Int)) = true := decide_eq_true c19
         clear c19
         by_cases c20 : 0 ≤ x9_2
         ·rw [if_pos c20] at H
          have c20b0 : decide (0 ≤ x9_2) = true := decide_eq_true c20
          clear c20
          replace H := Option.bind_eq_some_iff.mp H
          obtain ⟨t177, A210, H⟩ := H
          try dsimp only at H
          have A21 := Aside0.mk A210
          clear A210
          by_cases c22 : 0 ≤ t177
          ·rw [if_pos c22] at H
           have c22b0 : decide (0 ≤ t177) = true := decide_eq_true c22
           clear c22
           by_cases c23 : t177 < (x7_2.length : Int)
           ·rw [if_pos c23] at H
            have c23b0 : decide (t177 < (x7_2.length : Int)) = true := decide_eq_true c23
            clear c23
            obtain ⟨y179, hy179⟩ : ∃ y_ : List Int, y_ = (x7_2.set (t177 : Int).toNat (wrap64 ((rd x7_2 t177) + 1))) := ⟨_, rfl⟩
            replace H : (spec_l02Numbers.l1 k2 y179 t173 (wrap64 (x9_2 + 1))) = some r := by first | (rw [hy179]; with_reducible exact H) | (have H2_ := (Option.bind_some _ _).symm.trans H; rw [hy179]; with_reducible exact H2_) | (have H2_ := (Option.bind_some _ _).symm.trans H; with_reducible exact H2_) | with_reducible exact H | (rw [hy179]; exact H) | exact H
            have Ny179 := Aside0.mk hy179
            clear hy179
            have H' := Aside0.mk H
            clear H
            obtain ⟨Ao25, co25, eo25⟩ := Kd.R_slice HO_8.out
            subst eo25
            have p176 : 0 ≤ (x9_2 : Int) := of_decide_eq_true (by first | (with_reducible assumption) | assumption)
            have q176 : x9_2 < (t173.length : Int) := of_decide_eq_true (by first | (with_reducible assumption) | assumption)
            obtain ⟨ad176, e176, hx176_0⟩ := Kd.at_int (Kd.R_reads' HO_8.out).2.2 x9_2 p176 q176
            cases e176
            replace p176 := eq_true p176
            replace q176 := eq_true q176
            go_wp2_with (first | ((with_reducible refine gate_callee (f := 47) rfl ?_); refine cl_ (some 42) Tryz.func47 #[.int .i64 (rd t173 x9_2)] ?_; (with_reducible refine (spec_l02Dim.calls k2 (rd t173 x9_2) t177 _ A21.out).mono ?_); rintro e w' ⟨rfl, ⟨nd, rfl⟩⟩; refine ⟨_, rfl, ?_⟩; (try (rw [drewN_self wr]; generalize hq_ : World.drewN wr _ = wr; have n0_ : Aside0 (Kd.R (Kd.int .i64) 2 wr w.heap.size (fun k_ => some k_ ≠ (.slice (some ad176) t173.length co25 : Value).ownBlock) v171 x7_2) := ⟨by rw [← hq_]; exact (pR HO_7)⟩; have n1_ : Aside0 (Kd.R (Kd.int .i64) 2 wr w.heap.size (fun k_ => some k_ ≠ (v171 : Value).ownBlock) (.slice (some ad176) t173.length co25) t173) := ⟨by rw [← hq_]; exact (pR HO_8)⟩; have n2_ : Aside0 (wr.heap[gb167]? = some (.cells #[.int .i64 a0_0, .slice A0_1 l0_1.length c0_1] 26 (0, 0))) := ⟨by rw [← hq_]; exact (pB BK167)⟩; have n3_ : Aside0 (Below w.heap.size w wr) := ⟨by rw [← hq_]; exact (pH HB)⟩; clear HO_7 HO_8 BK167 HB hq_; have HO_7 := n0_; have HO_8 := n1_; have BK167 := n2_; have HB := n3_; clear n0_ n1_ n2_ n3_)); (try (have hcz26_0 : wr.cell? ⟨gb167, 0, none⟩ = some (.int .i64 a0_0) := cB BK167 0; have hcz26_1 : wr.cell? ⟨gb167, 1, none⟩ = some (.slice A0_1 l0_1.length c0_1) := cB BK167 1; have hfz26_0 := zB BK167 0; have hfz26_1 := zB BK167 1)); obtain ⟨Ao27, co27, eo27⟩ := Kd.R_slice HO_7.out; subst eo27; have p178 : 0 ≤ (t177 : Int) := of_decide_eq_true (by first | (with_reducible assumption) | assumption); have q178 : t177 < (x7_2.length : Int) := of_decide_eq_true (by first | (with_reducible assumption) | assumption); obtain ⟨ad178, e178, hx178_0⟩ := Kd.at_int (Kd.R_reads' HO_7.out).2.2 t177 p178 q178; cases e178; replace p178 := eq_true p178; replace q178 := eq_true q178; have p24 : 0 ≤ (t177 : Int) := of_decide_eq_true (by first | (with_reducible assumption) | assumption); have q24 : (t177 : Int) < ((x7_2.length : Int) : Int) := of_decide_eq_true (by first | (with_reducible assumption) | assumption); obtain ⟨go24, co24, eo24, gb24, gl24, cl24, HG24⟩ := Kd.R_form HO_7.out (by omega); (first | cases eo24 | (injection eo24 with ea_ en_ ec_; (first | subst ea_ | (injection ea_ with ea_; subst ea_)); subst ec_; clear en_)); have GB24 := Aside0.mk gb24; have GG24 := Aside0.mk HG24; clear gb24 gl24 HG24; (first | simp only [add_plain] at hx178_0 | skip); obtain ⟨hx24_0, hf24_0⟩ := Kd.R_celln 0 HO_7.out (t177 : Int) p24 q24; replace p24 := eq_true p24; replace q24 := eq_true q24; obtain ⟨hy28_, hz28_⟩ := Kd.R_celln 0 HO_7.out (t177 : Int) (of_decide_eq_true (by first | (with_reducible assumption) | assumption)) (of_decide_eq_true (by first | (with_reducible assumption) | assumption)); have HP28 := Kd.R_putg HO_7.out (t177 : Int) (wrap64 ((rd x7_2 t177) + 1))) | ((with_reducible refine gate_store (t := 2) (p := 46) rfl ?_); refine store_event (t := 2) (p := 46) (v := ?vo_w29) (w1 := (wr.setCell ⟨go24, (t177 : Int).toNat, none⟩ (.int .i64 (wrap64 ((rd x7_2 t177) + 1))))) ?hg ?ho ?hn ?hr ?_; (case ho => rfl); (case hg => rfl); (case hn => rfl); (case hr => first | (go_simp; done) | (go_simp; rfl)); intro w29 hw; have hg : wr.grownBy w29 (some go24) := (by rw [hw]; exact HP28.2); have hp_ : Kd.R (Kd.int .i64) 2 w29 w.heap.size (fun k_ => some k_ ≠ (.slice (some ad176) t173.length co25 : Value).ownBlock) (.slice (some ⟨go24, 0, none⟩) x7_2.length co27) y179 := (by rw [hw, Ny179.out]; exact HP28.1); clear HP28; have n0_ := Aside0.mk (hp_); have n1_ := Aside0.mk (Kd.R_after (v := (.slice (some ⟨go24, 0, none⟩) x7_2.length co27)) (v1 := (.slice (some ⟨go24, 0, none⟩) x7_2.length co27)) (ok := (fun _ => True)) (by (with_reducible repeat (first | apply Kd.R_alloc | apply Kd.R_drewN | apply Kd.R_drew)); exact Kd.R_mono HO_8.out (fun _ hk => ⟨trivial, hk⟩)) hg (.inl rfl)); have n2_ := Aside0.mk (blk_grown (g := gb167) (o := .cells #[.int .i64 a0_0, .slice A0_1 l0_1.length c0_1] 26 (0, 0)) (pB BK167) hg (Kd.R_ne HO_7.out BK167.out (by decide))); have n3_ := Aside0.mk ((by rw [hw]; exact below_set (HB.out) GB24.out : Below w.heap.size w w29)); clear HO_7; clear HO_8; clear BK167; clear HB; have HO_7 := n0_; have HO_8 := n1_; have BK167 := n2_; have HB := n3_; clear n0_ n1_ n2_ n3_; clear hg hw hp_))
            go_roundg k2
            case measure => have := HK1.out; have := HK2.out; omega
            case rel => exact ⟨(y179), (wrap64 (x9_2 + 1)), (by first | rfl | (simp; done) | (simp [*]; done)), H', ⟨by have := HK1.out; have := HK2.out; omega⟩, ⟨by (with_reducible repeat (first | apply Kd.R_alloc | apply Kd.R_drewN | apply Kd.R_drew)); exact HO_7.out⟩, ⟨by (with_reducible repeat (first | apply Kd.R_alloc | apply Kd.R_drewN | apply Kd.R_drew)); exact Kd.R_mono HO_8.out (fun _ hk => hk.2)⟩, ⟨pB BK167⟩, ⟨pH HB⟩⟩
           ·rw [if_neg c23] at H
            exact absurd H (by simp)
          ·rw [if_neg c22] at H
           exact absurd H (by simp)
         ·rw [if_neg c20] at H
          exact absurd H (by simp)
        ·rw [if_neg c19] at H
         have c19b0 : decide (x9_2 < (t173.length : Int)) = false := decide_eq_false c19
         clear c19
         obtain rfl := Option.some.inj H
         obtain ⟨Ao30, co30, eo30⟩ := Kd.R_slice HO_8.out
         subst eo30
         go_wp2
         go_ret
         exact ⟨_, by first | rfl | (simp [errW_none, errW_some] <;> rfl) | (simp only [← hji9]; first | rfl | (simp [errW_none, errW_some] <;> rfl)) | (simp [*, errW_none, errW_some] <;> rfl) | (exfalso; simp_all), by (with_reducible repeat (first | apply Kd.R_alloc | apply Kd.R_drewN | apply Kd.R_drew)); exact Kd.R_mono HO_7.out (fun _ hk => trivial), pH HB⟩
     ·rw [if_neg c11] at H
      exact absurd H (by simp)
    ·rw [if_neg c10] at H
     exact absurd H (by simp)
end Go.Proofs.YtpnmifahfpmplaaGreat.QS
namespace Go.Proofs.YtpnmifahfpmplaaGreat.Pu
open Go.RowKit Kp Ext QS Im YtpnmifahfpmplaaGreatW.PrintWords YtpnmifahfpmplaaGreatW.PrintLast YtpnmifahfpmplaaGreatW.PrintMore
def cntL (D : Nat) (l : List Int) : List Int := (List.range D).map fun j => ((l.filter fun x => onesZ x == ((j + 1 : Nat) : Int)).length : Int)
theorem cntL_len (D : Nat) (l : List Int) : (cntL D l).length = D := by simp [cntL]
theorem cntL_at {D j : Nat} (l : List Int) (h : j < D) : (cntL D l)[j]? = some ((l.filter fun x => onesZ x == ((j + 1 : Nat) : Int)).length : Int) := by simp [cntL, h]
theorem cntL_nil (D : Nat) : cntL D [] = List.replicate D 0 := by
  refine List.ext_getElem? fun j => ?_
  rcases Nat.lt_or_ge j D with h | h
  · rw [cntL_at [] h]; simp [h]
  · rw [List.getElem?_eq_none (by rw [cntL_len]; exact h), List.getElem?_eq_none (by simp; exact h)]
theorem cntL_snoc {D d : Nat} (l : List Int) (x : Int) (hd : d < D) (hx : onesZ x = ((d + 1 : Nat) : Int)) : (cntL D l).set d ((cntL D l)[d]?.getD 0 + 1) = cntL D (l ++ [x]) := by
  refine List.ext_getElem? fun j => ?_
  rcases Nat.lt_or_ge j D with h | h
  · rw [cntL_at (l ++ [x]) h, List.filter_append, List.length_append, cntL_at l hd]
    by_cases e : d = j
    · subst e
      rw [List.getElem?_set_self (by rw [cntL_len]; exact h)]
      simp [hx]
    · rw [List.getElem?_set_ne e, cntL_at l h]
      have : (onesZ x == ((j + 1 : Nat) : Int)) = false := by rw [hx]; simp; omega
      rw [List.filter_cons_of_neg (a := x) (l := []) (by rw [this]; exact Bool.false_ne_true), List.filter_nil]; simp
  · rw [List.getElem?_eq_none (by rw [List.length_set, cntL_len]; exact h), List.getElem?_eq_none (by rw [cntL_len]; exact h)]
theorem cntL_le {D d : Nat} (l : List Int) : (cntL D l)[d]?.getD 0 ≤ (l.length : Int) ∧ 0 ≤ (cntL D l)[d]?.getD 0 := by
  rcases Nat.lt_or_ge d D with h | h
  · rw [cntL_at l h]
    have := List.length_filter_le (fun x => onesZ x == ((d + 1 : Nat) : Int)) l
    simp only [Option.getD_some]; omega
  · rw [List.getElem?_eq_none (by rw [cntL_len]; exact h)]; simp
theorem ones1_all : ((List.range 64).all fun f => f == 0 || decide (1 ≤ onesZ (f : Int))) = true := by decide +kernel
theorem ones1 {x : Int} (h : 1 ≤ x ∧ x ≤ 63) : 1 ≤ onesZ x := by
  obtain ⟨m, rfl⟩ := Int.eq_ofNat_of_zero_le (show 0 ≤ x by omega)
  have h2 := List.all_eq_true.1 ones1_all m (List.mem_range.2 (by omega))
  have h0 : (m == 0) = false := by simp; omega
  rw [h0, Bool.false_or] at h2
  exact of_decide_eq_true h2
theorem foldmx_ge (g : Int → Int) : ∀ (l : List Int) (a : Int), a ≤ l.foldl (fun a x => max a (g x)) a ∧ ∀ x ∈ l, g x ≤ l.foldl (fun a x => max a (g x)) a
  | [], a => ⟨Int.le_refl _, fun x hx => by cases hx⟩
  | x :: l, a => by
    rw [List.foldl_cons]
    obtain ⟨h1, h2⟩ := foldmx_ge g l (max a (g x))
    refine ⟨by have := Int.le_max_left a (g x); omega, fun y hy => ?_⟩
    rcases List.mem_cons.1 hy with rfl | hy
    · have := Int.le_max_right a (g y); omega
    · exact h2 y hy
theorem foldmx_hit (g : Int → Int) : ∀ (l : List Int) (a : Int), l.foldl (fun a x => max a (g x)) a = a ∨ ∃ x ∈ l, g x = l.foldl (fun a x => max a (g x)) a
  | [], a => .inl rfl
  | x :: l, a => by
    rw [List.foldl_cons]
    rcases foldmx_hit g l (max a (g x)) with h | ⟨y, hy, h⟩
    · rw [h]
      rcases Int.le_total a (g x) with h1 | h1
      · rw [Int.max_eq_right h1]
        exact .inr ⟨x, by simp, rfl⟩
      · rw [Int.max_eq_left h1]
        exact .inl rfl
    · exact .inr ⟨y, by simp [hy], h⟩
theorem dim_rng (l : List Int) : -1 ≤ dimL l ∧ dimL l ≤ 5 ∧ ∀ x ∈ l, onesZ x ≤ dimL l + 1 := by
  obtain ⟨h1, h2⟩ := foldmx_ge (fun x => onesZ x - 1) l (-1)
  refine ⟨h1, ?_, fun x hx => ?_⟩
  · rcases foldmx_hit (fun x => onesZ x - 1) l (-1) with h | ⟨x, _, h⟩
    · unfold dimL; omega
    · have h3 : onesZ x - 1 = dimL l := h
      have := ones_le x
      omega
  · have := h2 x hx
    have h3 : onesZ x - 1 ≤ dimL l := this
    omega
theorem ev_dim2 {x : Int} (h1 : 1 ≤ x) (h2 : x ≤ 63) : Ev (fun k => spec_l02Dim.f k x) (onesZ x - 1) := by
  have := ones_le x
  unfold spec_l02Dim.f
  refine Ev.bind (ev_ones (by omega) (by omega)) ?_
  have h : wrap64 (onesZ x - 1) = onesZ x - 1 := w64 (by have := ones1 ⟨h1, h2⟩; omega) (by omega)
  rw [h]
  exact Ev.now _
theorem num_l1 (D : Nat) (l : List Int) (hr : ∀ x ∈ l, (1 ≤ x ∧ x ≤ 63) ∧ 1 ≤ onesZ x ∧ onesZ x ≤ (D : Int)) (hm : l.length ≤ 1048576) :
    ∀ d (i : Nat), l.length - i = d → i ≤ l.length → Ev (fun k => spec_l02Numbers.l1 k (cntL D (l.take i)) l (i : Int)) (cntL D l) := by
  intro d
  induction d with
  | zero =>
    intro i hd hi
    rw [List.take_of_length_le (by omega)]
    refine Ev.step (f := fun k => some (cntL D l)) (fun k => ?_) (Ev.now _)
    simp only [spec_l02Numbers.l1]; rw [if_neg (by omega)]
  | succ d ih =>
    intro i hd hi
    have hi' : i < l.length := by omega
    obtain ⟨hx, hx1, hx2⟩ := hr _ (List.getElem_mem hi')
    obtain ⟨e, he⟩ : ∃ e : Nat, onesZ l[i] = ((e + 1 : Nat) : Int) := ⟨(onesZ l[i]).toNat - 1, by omega⟩
    have heD : e < D := by omega
    have hle := cntL_le (D := D) (d := e) (l.take i)
    rw [List.length_take] at hle
    have hlen := cntL_len D (l.take i)
    refine Ev.step (f := fun k => (spec_l02Dim.f k l[i]).bind fun t => if 0 ≤ t then (if t < ((cntL D (l.take i)).length : Int) then spec_l02Numbers.l1 k ((cntL D (l.take i)).set t.toNat (wrap64 (rd (cntL D (l.take i)) t + 1))) l ((i + 1 : Nat) : Int) else none) else none) (fun k => ?_) ?_
    · simp only [spec_l02Numbers.l1]
      rw [if_pos (by omega), if_pos (by omega), rd_at hi', succ64 (by omega)]
    · refine Ev.bind (ev_dim2 hx.1 hx.2) ?_
      rw [he, show ((e + 1 : Nat) : Int) - 1 = (e : Int) by omega]
      simp only [if_pos (show (0 : Int) ≤ (e : Int) by omega), if_pos (show (e : Int) < ((cntL D (l.take i)).length : Int) by omega), Int.toNat_natCast]
      have hrd : rd (cntL D (l.take i)) (e : Int) = (cntL D (l.take i))[e]?.getD 0 := by rw [rd_at (by omega), List.getElem?_eq_getElem (by omega)]; rfl
      rw [hrd, w64 (by omega) (by omega), cntL_snoc (l.take i) l[i] heD he, ← List.take_succ_eq_append_getElem hi']
      exact ih (i + 1) (by omega) (by omega)
theorem num_l0 {n : Int} {xs : List Int} (hi : isC n xs = true) {l : List Pr} (hl : l.length ≤ 1048576) : ∀ d (i : Nat) (a : Int), xs.length - i = d → i ≤ xs.length → (xs.drop i).foldl (fun a x => max a (onesZ x - 1)) a = dimL xs → -1 ≤ a ∧ a ≤ 5 → Ev (fun k => spec_l02Numbers.l0 k l a (i : Int) n xs) (cntL (dimL xs + 1).toNat (critL xs l)) := by
  have hs := isC_small hi
  have h63 := isC_63 hi
  obtain ⟨d1, d2, d3⟩ := dim_rng xs
  intro d
  induction d with
  | zero =>
    intro i a hd hil hf ha
    rw [List.drop_eq_nil_of_le (by omega)] at hf
    have hf' : a = dimL xs := hf
    subst hf'
    have hcl : (critL xs l).length ≤ xs.length := List.length_filter_le _ _
    have hcm : ∀ x ∈ critL xs l, x ∈ xs := fun x hx => (List.mem_filter.1 hx).1
    obtain ⟨D, hD⟩ := Int.eq_ofNat_of_zero_le (show 0 ≤ dimL xs + 1 by omega)
    refine Ev.step (f := fun k => (spec_l02Critical.f k n xs l).bind fun t => spec_l02Numbers.l1 k (List.replicate D 0) t 0) (fun k => ?_) ?_
    · simp only [spec_l02Numbers.l0]
      rw [if_neg (by omega), w64 (by omega) (by omega), hD, if_pos (by omega), if_pos (by omega), Int.toNat_natCast]
    · refine Ev.bind (ev_crit n (by omega) hl) ?_
      rw [hD, Int.toNat_natCast]
      have := num_l1 D (critL xs l) (fun x hx => ⟨h63 x (hcm x hx), ones1 (h63 x (hcm x hx)), by have := d3 x (hcm x hx); omega⟩) (by omega) _ 0 rfl (Nat.zero_le _)
      rw [List.take_zero, cntL_nil] at this
      exact this
  | succ d ih =>
    intro i a hd hil hf ha
    have hi' : i < xs.length := by omega
    have hx := h63 _ (List.getElem_mem hi')
    have h1 := ones_le xs[i]
    have h2 := ones1 hx
    rw [List.drop_eq_getElem_cons hi', List.foldl_cons] at hf
    refine Ev.step (f := fun k => (spec_l02Dim.f k xs[i]).bind fun t => spec_l02Numbers.l0 k l (mx a t) ((i + 1 : Nat) : Int) n xs) (fun k => ?_) (Ev.bind (ev_dim2 hx.1 hx.2) ?_)
    · simp only [spec_l02Numbers.l0]
      rw [if_pos (by omega), if_pos (by omega), rd_at hi', succ64 (by omega)]
    · rw [show mx a (onesZ xs[i] - 1) = max a (onesZ xs[i] - 1) by unfold mx; split <;> omega]
      exact ih (i + 1) _ (by omega) (by omega) hf (by omega)
theorem ev_numbers {n : Int} {xs : List Int} (hi : isC n xs = true) {l : List Pr} (hl : l.length ≤ 1048576) : Ev (fun k => spec_l02Numbers.f k n xs l) (cntL (dimL xs + 1).toNat (critL xs l)) := by
  unfold spec_l02Numbers.f
  exact num_l0 hi hl _ 0 (-1) rfl (Nat.zero_le _) rfl (by omega)
def sumG (g : Int → Int) : List Int → Int
  | [] => 0
  | x :: l => g x + sumG g l
theorem sumG_app (g : Int → Int) : ∀ (a b : List Int), sumG g (a ++ b) = sumG g a + sumG g b
  | [], b => by simp [sumG]
  | x :: a, b => by rw [List.cons_append, sumG, sumG, sumG_app g a b]; omega
theorem sumG_perm (g : Int → Int) {a b : List Int} (h : a.Perm b) : sumG g a = sumG g b := by
  induction h with
  | nil => rfl
  | cons x _ ih => rw [sumG, sumG, ih]
  | swap x y l => simp only [sumG]; omega
  | trans _ _ h1 h2 => exact h1.trans h2
theorem sumG_add (g h : Int → Int) : ∀ (l : List Int), sumG (fun x => g x + h x) l = sumG g l + sumG h l
  | [] => rfl
  | x :: l => by simp only [sumG]; rw [sumG_add g h l]; omega
theorem sumG_congr {g h : Int → Int} : ∀ {l : List Int}, (∀ x ∈ l, g x = h x) → sumG g l = sumG h l
  | [], _ => rfl
  | x :: l, hx => by simp only [sumG]; rw [hx x (by simp), sumG_congr fun y hy => hx y (by simp [hy])]
def flatP (l : List Pr) : List Int := l.flatMap fun p => [p.f0, p.f1]
theorem mem_flat {l : List Pr} {x : Int} : x ∈ flatP l ↔ l.any (hasF x) = true := by
  unfold flatP hasF
  rw [List.mem_flatMap, List.any_eq_true]
  constructor
  · rintro ⟨q, hq, h⟩; exact ⟨q, hq, by simpa using h⟩
  · rintro ⟨q, hq, h⟩; exact ⟨q, hq, by simpa using h⟩
theorem pairB_of {xs : List Int} {p : Pr} (h : pairB xs p = true) : p.f0 ∈ xs ∧ p.f1 ∈ xs ∧ onesZ p.f1 = onesZ p.f0 + 1 := by
  unfold pairB at h
  simp only [Bool.and_eq_true, decide_eq_true_eq, beq_iff_eq] at h
  exact ⟨h.1, h.2.1, h.2.2.2⟩
theorem flat_nodup {xs : List Int} {l : List Pr} (h : pairingB xs l = true) : (flatP l).Nodup := by
  have key : ∀ i, i ≤ l.length → (flatP (l.take i)).Nodup := by
    intro i
    induction i with
    | zero => intro _; simp [flatP]
    | succ i ih =>
      intro hi
      have hi' : i < l.length := by omega
      obtain ⟨h1, h2, _⟩ := pairing_at h hi'
      have h3 := pairB_of h1
      rw [List.take_succ_eq_append_getElem hi', flatP, List.flatMap_append, List.nodup_append]
      refine ⟨ih (by omega), by simp; intro e; rw [e] at h3; omega, fun a ha b hb => ?_⟩
      rintro rfl
      obtain ⟨q, hq, hqa⟩ := List.any_eq_true.1 (mem_flat.1 ha)
      have h4 := h2 q hq
      simp only [List.flatMap_cons, List.flatMap_nil, List.append_nil, List.mem_cons, List.not_mem_nil, or_false] at hb
      rcases hb with rfl | rfl
      · rw [h4.1] at hqa; cases hqa
      · rw [h4.2] at hqa; cases hqa
  have := key l.length (Nat.le_refl _)
  rwa [List.take_length] at this
theorem xs_nodup {n : Int} {xs : List Int} (hi : isC n xs = true) : xs.Nodup := (ascB_asc (isC_of hi).2.1).imp fun h => by omega
theorem critP_flat (l : List Pr) (x : Int) : critP l x = !decide (x ∈ flatP l) := by
  rw [Bool.eq_iff_iff, Bool.not_eq_true', decide_eq_false_iff_not, mem_flat]
  unfold critP hasF
  rw [Bool.not_eq_true', Bool.not_eq_true, show (fun p : Pr => p.f0 == x || p.f1 == x) = (fun p : Pr => x == p.f0 || x == p.f1) from funext fun p => by rw [Bool.beq_comm (a := p.f0), Bool.beq_comm (a := p.f1)]]
theorem crit_perm {n : Int} {xs : List Int} (hi : isC n xs = true) {l : List Pr} (h : pairingB xs l = true) : xs.Perm (critL xs l ++ flatP l) := by
  have hf := flat_nodup h
  have hx := xs_nodup hi
  have hm : ∀ y ∈ flatP l, y ∈ xs := fun y hy => by
    obtain ⟨q, hq, h1⟩ := List.any_eq_true.1 (mem_flat.1 hy)
    obtain ⟨i, hi', rfl⟩ := List.getElem_of_mem hq
    have h3 := pairB_of (pairing_at h hi').1
    unfold hasF at h1
    simp only [Bool.or_eq_true, beq_iff_eq] at h1
    rcases h1 with rfl | rfl
    · exact h3.1
    · exact h3.2.1
  rw [List.perm_iff_count]
  intro a
  rw [List.count_append, List.Nodup.count hx, List.Nodup.count (show (critL xs l).Nodup from hx.filter _), List.Nodup.count hf]
  unfold critL
  simp only [List.mem_filter, critP_flat, Bool.not_eq_true', decide_eq_false_iff_not]
  by_cases h1 : a ∈ xs
  · by_cases h2 : a ∈ flatP l <;> simp [h1, h2]
  · have h2 : a ∉ flatP l := fun h2 => h1 (hm a h2)
    simp [h1, h2]
theorem flatP_len (l : List Pr) : (flatP l).length = 2 * l.length := by
  induction l with
  | nil => rfl
  | cons p l ih => rw [flatP, List.flatMap_cons, List.length_append]; rw [flatP] at ih; rw [ih]; simp; omega
theorem crit_len {n : Int} {xs : List Int} (hi : isC n xs = true) {l : List Pr} (h : pairingB xs l = true) : (critL xs l).length + 2 * l.length = xs.length := by
  have := (crit_perm hi h).length_eq
  rw [List.length_append, flatP_len] at this
  omega
def altZ : List Int → Int
  | [] => 0
  | a :: l => a - altZ l
def sgnZ (x : Int) : Int := 2 * (onesZ x % 2) - 1
def eulZ (xs : List Int) : Int := sumG sgnZ xs
theorem altZ_snoc : ∀ (l : List Int) (a : Int), altZ (l ++ [a]) = altZ l + (if l.length % 2 = 0 then a else -a)
  | [], a => by simp [altZ]
  | b :: l, a => by
    rw [List.cons_append, altZ, altZ, altZ_snoc l a, List.length_cons]
    split <;> split <;> omega
theorem cntL_snocD (D : Nat) (m : List Int) : cntL (D + 1) m = cntL D m ++ [((m.filter fun x => onesZ x == ((D + 1 : Nat) : Int)).length : Int)] := by
  unfold cntL
  rw [List.range_succ, List.map_append]
  rfl
theorem len_sumG (p : Int → Bool) : ∀ (m : List Int), ((m.filter p).length : Int) = sumG (fun x => if p x = true then 1 else 0) m
  | [] => rfl
  | x :: m => by
    rw [List.filter_cons, sumG, ← len_sumG p m]
    split <;> simp <;> omega
theorem sum_cnt (D : Nat) (m : List Int) : (cntL D m).foldl (· + ·) 0 = sumG (fun x => if 1 ≤ onesZ x ∧ onesZ x ≤ (D : Int) then 1 else 0) m := by
  induction D with
  | zero =>
    rw [show cntL 0 m = [] from rfl, List.foldl_nil]
    rw [sumG_congr (h := fun _ => 0) fun x _ => by split <;> omega]
    induction m with
    | nil => rfl
    | cons x m ih => rw [sumG, ← ih]; rfl
  | succ D ih =>
    rw [cntL_snocD, List.foldl_append, ih, List.foldl_cons, List.foldl_nil, len_sumG, ← sumG_add]
    refine sumG_congr fun x _ => ?_
    simp only [beq_iff_eq]
    split <;> split <;> split <;> omega
theorem alt_cnt (D : Nat) (m : List Int) : altZ (cntL D m) = sumG (fun x => if 1 ≤ onesZ x ∧ onesZ x ≤ (D : Int) then sgnZ x else 0) m := by
  induction D with
  | zero =>
    rw [show cntL 0 m = [] from rfl, altZ]
    rw [sumG_congr (h := fun _ => 0) fun x _ => by split <;> omega]
    induction m with
    | nil => rfl
    | cons x m ih => rw [sumG, ← ih]; rfl
  | succ D ih =>
    have e : (if (cntL D m).length % 2 = 0 then ((m.filter fun x => onesZ x == ((D + 1 : Nat) : Int)).length : Int) else -((m.filter fun x => onesZ x == ((D + 1 : Nat) : Int)).length : Int)) = sumG (fun x => if onesZ x = ((D + 1 : Nat) : Int) then sgnZ x else 0) m := by
      rw [cntL_len, len_sumG]
      clear ih
      induction m with
      | nil => simp [sumG]
      | cons x m ih =>
        simp only [sumG]
        rw [← ih]
        simp only [beq_iff_eq]
        unfold sgnZ
        split <;> split <;> omega
    rw [cntL_snocD, altZ_snoc, ih, e, ← sumG_add]
    refine sumG_congr fun x _ => ?_
    split <;> split <;> split <;> omega
theorem crit_sum {n : Int} {xs : List Int} (hi : isC n xs = true) (l : List Pr) : (cntL (dimL xs + 1).toNat (critL xs l)).foldl (· + ·) 0 = ((critL xs l).length : Int) := by
  obtain ⟨d1, d2, d3⟩ := dim_rng xs
  have h63 := isC_63 hi
  rw [sum_cnt, sumG_congr (h := fun _ => 1) fun x hx => by
    have hx' := (List.mem_filter.1 hx).1
    have h1 := ones1 (h63 x hx')
    have h2 := d3 x hx'
    rw [if_pos (by omega)]]
  generalize critL xs l = m
  induction m with
  | nil => rfl
  | cons x m ih => rw [sumG, ih, List.length_cons]; omega
theorem crit_euler {n : Int} {xs : List Int} (hi : isC n xs = true) {l : List Pr} (h : pairingB xs l = true) : altZ (cntL (dimL xs + 1).toNat (critL xs l)) = eulZ xs := by
  obtain ⟨d1, d2, d3⟩ := dim_rng xs
  have h63 := isC_63 hi
  rw [alt_cnt, sumG_congr (h := sgnZ) fun x hx => by
    have hx' := (List.mem_filter.1 hx).1
    have h1 := ones1 (h63 x hx')
    have h2 := d3 x hx'
    rw [if_pos (by omega)]]
  unfold eulZ
  rw [sumG_perm sgnZ (crit_perm hi h), sumG_app]
  have h0 : sumG sgnZ (flatP l) = 0 := by
    have hm : ∀ p ∈ l, onesZ p.f1 = onesZ p.f0 + 1 := fun q hq => by
      obtain ⟨i, hi', rfl⟩ := List.getElem_of_mem hq
      exact (pairB_of (pairing_at h hi').1).2.2
    clear h
    induction l with
    | nil => rfl
    | cons p l ih =>
      have h1 := hm p (by simp)
      rw [flatP, List.flatMap_cons, sumG_app, show sumG sgnZ (List.flatMap (fun p => [p.f0, p.f1]) l) = 0 from ih fun q hq => hm q (by simp [hq])]
      simp only [sumG, sgnZ]
      omega
  omega
def cycL (xs : List Int) (l : List Pr) : List Int := xs.filter fun x => loopB l x
theorem loop_low {l : List Pr} (hl : l.length ≤ 1048576) (hr : FacesP l) {x : Int} (h : loopB l x = true) : ∃ q ∈ l, q.f0 = x := by
  have h1 := (loopB_iff hl hr x).1 h
  have h2 : ∃ y, y ∈ nextZ l x := by cases h1 with
    | one h => exact ⟨_, h⟩
    | more h _ => exact ⟨_, h⟩
  obtain ⟨y, hy⟩ := h2
  unfold nextZ at hy
  by_cases h3 : highZ l x = 0
  · rw [if_pos h3] at hy; cases hy
  · unfold highZ at h3
    cases hq : l.find? (fun q => q.f0 == x) with
    | none => rw [hq] at h3; exact absurd rfl h3
    | some q => exact ⟨q, List.mem_of_find?_eq_some hq, by simpa using List.find?_some hq⟩
theorem loop_next {l : List Pr} (hl : l.length ≤ 1048576) (hr : FacesP l) {x : Int} (h : loopB l x = true) : ∃ y, y ≠ x ∧ loopB l y = true := by
  have h1 := (loopB_iff hl hr x).1 h
  have hn : ∀ {a y : Int}, y ∈ nextZ l a → y ≠ a := fun hy => by
    unfold nextZ at hy
    split at hy
    · cases hy
    · have := (List.mem_filter.1 hy).2
      simpa using this
  cases h1 with
  | one h => exact absurd rfl (hn h)
  | more h h2 => exact ⟨_, hn h, (loopB_iff hl hr _).2 (h2.snoc h)⟩
theorem acyc_iff {n : Int} {xs : List Int} (hi : isC n xs = true) {l : List Pr} (h : pairingB xs l = true) : acycB l = decide ((cycL xs l).length = 0) ∧ (cycL xs l).length ≠ 1 := by
  have hl := pairing_len hi h
  have hr := facesP_of hi h
  have hx := xs_nodup hi
  have hin : ∀ x, loopB l x = true → x ∈ cycL xs l := fun x hx => by
    obtain ⟨q, hq, rfl⟩ := loop_low (by omega) hr hx
    obtain ⟨i, hi', rfl⟩ := List.getElem_of_mem hq
    exact List.mem_filter.2 ⟨(pairB_of (pairing_at h hi').1).1, hx⟩
  constructor
  · rw [Bool.eq_iff_iff, decide_eq_true_eq, List.length_eq_zero_iff]
    unfold acycB
    constructor
    · intro h1
      refine List.eq_nil_iff_forall_not_mem.2 fun x hx => ?_
      have h2 := (List.mem_filter.1 hx).2
      obtain ⟨q, hq, rfl⟩ := loop_low (by omega) hr h2
      have := List.all_eq_true.1 h1 q hq
      rw [h2] at this
      cases this
    · intro h1
      refine List.all_eq_true.2 fun q hq => ?_
      cases h2 : loopB l q.f0 with
      | false => rfl
      | true => have := hin _ h2; rw [h1] at this; cases this
  · intro h1
    obtain ⟨x, hx1⟩ := List.length_eq_one_iff.1 h1
    have hxm : x ∈ cycL xs l := by rw [hx1]; simp
    obtain ⟨y, hy, hy2⟩ := loop_next (by omega) hr (List.mem_filter.1 hxm).2
    have := hin y hy2
    rw [hx1] at this
    simp at this
    exact hy this
end Go.Proofs.YtpnmifahfpmplaaGreat.Pu
namespace Go.Proofs.YtpnmifahfpmplaaGreat.Im
open Go.RowKit Go.Shelf Kp Ext Cw YtpnmifahfpmplaaGreatW.PrintWords YtpnmifahfpmplaaGreatW.PrintLast YtpnmifahfpmplaaGreatW.PrintMore
def okCyc (xs : List Int) (l : List Pr) : Bool := decide (xs.length ≤ 1048576) && xs.all fun x => (bfs l 1000 [] [x]).isSome
theorem okCyc_at {xs : List Int} {l : List Pr} (h : okCyc xs l = true) {x : Int} (hx : x ∈ xs) : ∃ M, bfs l 1000 [] [x] = some M ∧ loopB l x = getM M x := by
  unfold okCyc at h
  obtain ⟨M, hM⟩ := Option.isSome_iff_exists.1 (List.all_eq_true.1 (Bool.and_eq_true _ _ ▸ h).2 x hx)
  exact ⟨M, hM, by unfold loopB; rw [hM]; rfl⟩
set_option maxRecDepth 100000 in
set_option maxHeartbeats 1000000 in
theorem onCycles1_f (b : Nat) (A : Option Addr) (c : Nat) (l : List Pr) (xs : List Int) (w : World) (hb : Boxed w b 27 (.slice A l.length c)) (hr : Kd.C k57 w A l.length l) (hc : l.length ≤ c) (ho : okCyc xs l = true) :
    FnB Tryz.prog (.func (.func 59) #[] #[.pointer (some ⟨b, 0, none⟩)]) (fun x => x ∈ xs) (fun x => !loopB l x) w := by
  refine ⟨_, _, _, rfl, enters_of Tryz.func59 (by kernel_rfl) rfl, fun W x hW hx => ?_⟩
  obtain ⟨M, hM, hv⟩ := okCyc_at ho hx
  have HV := Aside0.mk hv
  have HE := Aside0.mk (fun W' (h' : Below W.heap.size W W') => behind_c 1000 A c l x M W' (Kd.C_below hr (hW.trans (h'.mono hW.size))) hc hM)
  have hx0 : W.cell? ⟨b, 0, none⟩ = some (.slice A l.length c) := pw_cell_below hW hb.cell
  clear hr hc hM hv hx hW hb
  show Calls Tryz.prog 59 #[.int .i64 x, .pointer (some ⟨b, 0, none⟩)] W fun e w' => e = .returned (.bool (!loopB l x)) ∧ Below W.heap.size W w'
  go_enter Tryz.func59, Tryz.ntmps59
  go_wp2_with (go_at_call 58; refine (HE.out _ (Below.refl _ _)).mono ?_; rintro e w1 ⟨b1, rfl, hm, hb1, hbl⟩; have HL := Aside0.mk hbl; have hl := lookB (x := x) hm HV.out.symm; clear hm hb1 hbl HE)
  go_ret
  exact ⟨rfl, HL.out⟩
set_option maxRecDepth 100000 in
theorem onCycles_c (n : Int) (A : Option Addr) (c : Nat) (xs : List Int) (A1 : Option Addr) (c1 : Nat) (l : List Pr) (w : World) (hr : RC w A xs.length xs) (hc : xs.length ≤ c) (hr1 : Kd.C k57 w A1 l.length l) (hc1 : l.length ≤ c1) (ho : okCyc xs l = true) :
    Calls Tryz.prog 33 #[.agg #[.int .i64 n, .slice A xs.length c], .slice A1 l.length c1] w fun e w' => ∃ v, e = .returned v ∧ RO w' w.heap.size v (xs.filter fun x => loopB l x) ∧ Below w.heap.size w w' := by
  have hl : xs.length ≤ 1048576 := by unfold okCyc at ho; exact of_decide_eq_true (Bool.and_eq_true _ _ ▸ ho).1
  have HB1 := Aside0.mk (below_alloc (below_alloc (Below.refl w.heap.size w) (.cells #[.int .i64 n, .slice A xs.length c] 26)) (.cells #[.slice A1 l.length c1] 27))
  have hbx : Boxed ((w.alloc (.cells #[.int .i64 n, .slice A xs.length c] 26)).alloc (.cells #[.slice A1 l.length c1] 27)) (w.heap.size + 1) 27 (.slice A1 l.length c1) := by simpa using Boxed.new (w.alloc (.cells #[.int .i64 n, .slice A xs.length c] 26)) 27 (.slice A1 l.length c1)
  have HF := Aside0.mk (onCycles1_f _ A1 c1 l xs _ hbx (Kd.C_below hr1 HB1.out) hc1 ho)
  have HX := Aside0.mk ((CxAt.new w n A xs.length c).below (below_alloc (Below.refl _ _) (.cells #[.slice A1 l.length c1] 27)))
  have hx1 := HX.out.c1
  have HR := Aside0.mk (Kd.C_below hr HB1.out)
  have HC := Aside0.mk hc
  clear hr hc hr1 hc1 ho hbx
  go_enter Tryz.func33, Tryz.ntmps33
  go_wp2_with (first
    | (go_at_call 40; refine (clone_c A xs.length c xs _ HR.out (by omega)).mono ?_; rintro e w1 ⟨v1, rfl, hv, hb⟩; have HV := Aside0.mk hv; have HB2 := Aside0.mk hb; clear hv hb)
    | (go_at_call 39; refine (deleteFunc_c _ v1 xs _ (fun x => x ∈ xs) (fun x => !loopB l x) _ HB2.out HV.out (by omega) HF.out (fun x hx => hx)).mono ?_; rintro e w2 ⟨v2, rfl, ho, hb⟩; have HO := Aside0.mk ho; have HB3 := Aside0.mk hb; clear ho hb))
  go_ret
  have HO2 := HO.out
  simp only [Bool.not_not] at HO2
  exact ⟨_, rfl, Kd.R_lower HO2 HB1.out.size, below_in HB1.out HB3.out⟩
end Go.Proofs.YtpnmifahfpmplaaGreat.Im
namespace Go.Proofs.YtpnmifahfpmplaaGreat.Ext
open Go.RowKit Im Kp YtpnmifahfpmplaaGreatW.PrintWords YtpnmifahfpmplaaGreatW.PrintLast YtpnmifahfpmplaaGreatW.PrintMore
def slices_ContainsFunc_impl_Pair_impl_Pair.f (l0 : List S57) (a1 : Pred) : Option (Bool) := if l0.length ≤ 1099511627776 ∧ a1.sort = 2 ∧ okDomP a1 l0 = true then some (l0.any a1.pP) else none
theorem slices_ContainsFunc_impl_Pair_impl_Pair.calls (A0 : Option Addr) (c0 : Nat) (l0 : List S57) (F1 : Value) (a1 : Pred) (r : Bool) (w : World) (hr0 : Kd.C k57 w A0 l0.length l0) (_hc0 : l0.length ≤ c0) (hq1 : FnOk F1 a1 w) (h : slices_ContainsFunc_impl_Pair_impl_Pair.f l0 a1 = some r) :
    Calls Tryz.prog 42 #[.slice A0 l0.length c0, F1] w fun e w' => e = .returned (.bool r) ∧ Below w.heap.size w w' := by
  unfold slices_ContainsFunc_impl_Pair_impl_Pair.f at h
  by_cases hl : l0.length ≤ 1099511627776 ∧ a1.sort = 2 ∧ okDomP a1 l0 = true
  · rw [if_pos hl] at h
    have hd := Option.some.inj h
    have := containsPair_c A0 c0 l0 F1 a1.domP a1.pP w hr0 (hq1.2.2 hl.2.1) (okDomP_mem hl.2.2) hl.1
    rw [hd] at this
    exact this
  · rw [if_neg hl] at h; cases h
def impl_Complex_isPairing.f (a0_0 : Int) (l0_1 : List Int) (l1 : List S57) : Option (Bool) := if isC a0_0 l0_1 = true ∧ l1.length ≤ 1099511627776 then some (pairingB l0_1 l1) else none
theorem impl_Complex_isPairing.calls (a0_0 : Int) (A0_1 : Option Addr) (c0_1 : Nat) (l0_1 : List Int) (A1 : Option Addr) (c1 : Nat) (l1 : List S57) (r : Bool) (w : World) (hr0_1 : Kd.C (Kd.int .i64) w A0_1 l0_1.length l0_1) (_hc0_1 : l0_1.length ≤ c0_1) (hr1 : Kd.C k57 w A1 l1.length l1) (_hc1 : l1.length ≤ c1) (h : impl_Complex_isPairing.f a0_0 l0_1 l1 = some r) :
    Calls Tryz.prog 28 #[.agg #[.int .i64 a0_0, .slice A0_1 l0_1.length c0_1], .slice A1 l1.length c1] w fun e w' => e = .returned (.bool r) ∧ Below w.heap.size w w' := by
  unfold impl_Complex_isPairing.f at h
  by_cases hl : isC a0_0 l0_1 = true ∧ l1.length ≤ 1099511627776
  · rw [if_pos hl] at h
    have hd := Option.some.inj h
    have := isPairing_c a0_0 A0_1 c0_1 l0_1 A1 c1 l1 w hr0_1 _hc0_1 hl.1 hr1 hl.2
    rw [hd] at this
    exact this
  · rw [if_neg hl] at h; cases h
def impl_Complex_isAcyclic.f (a0_0 : Int) (l0_1 : List Int) (l1 : List S57) : Option (Bool) := if okBfs l1 = true then some (acycB l1) else none
theorem impl_Complex_isAcyclic.calls (a0_0 : Int) (A0_1 : Option Addr) (c0_1 : Nat) (l0_1 : List Int) (A1 : Option Addr) (c1 : Nat) (l1 : List S57) (r : Bool) (w : World) (hr0_1 : Kd.C (Kd.int .i64) w A0_1 l0_1.length l0_1) (_hc0_1 : l0_1.length ≤ c0_1) (hr1 : Kd.C k57 w A1 l1.length l1) (_hc1 : l1.length ≤ c1) (h : impl_Complex_isAcyclic.f a0_0 l0_1 l1 = some r) :
    Calls Tryz.prog 31 #[.agg #[.int .i64 a0_0, .slice A0_1 l0_1.length c0_1], .slice A1 l1.length c1] w fun e w' => e = .returned (.bool r) ∧ Below w.heap.size w w' := by
  unfold impl_Complex_isAcyclic.f at h
  by_cases hl : okBfs l1 = true
  · rw [if_pos hl] at h
    have hd := Option.some.inj h
    have := isAcyclic_c a0_0 A0_1 c0_1 l0_1 A1 c1 l1 w hr1 _hc1 hl
    rw [hd] at this
    exact this
  · rw [if_neg hl] at h; cases h
end Go.Proofs.YtpnmifahfpmplaaGreat.Ext
namespace Go.Proofs.YtpnmifahfpmplaaGreat.Ext
open Go.RowKit Im  YtpnmifahfpmplaaGreatW.PrintWords YtpnmifahfpmplaaGreatW.PrintLast YtpnmifahfpmplaaGreatW.PrintMore
def impl_Complex_dimension.f (a0_0 : Int) (l0_1 : List Int) : Option (Int) := if isC a0_0 l0_1 = true then some (dimL l0_1) else none
theorem impl_Complex_dimension.calls (a0_0 : Int) (A0_1 : Option Addr) (c0_1 : Nat) (l0_1 : List Int) (r : Int) (w : World) (hr0_1 : Kd.C (Kd.int .i64) w A0_1 l0_1.length l0_1) (_hc0_1 : l0_1.length ≤ c0_1) (h : impl_Complex_dimension.f a0_0 l0_1 = some r) :
    Calls Tryz.prog 45 #[.agg #[.int .i64 a0_0, .slice A0_1 l0_1.length c0_1]] w fun e w' => e = .returned (.int .i64 r) ∧ Below w.heap.size w w' := by
  unfold impl_Complex_dimension.f at h
  by_cases hl : isC a0_0 l0_1 = true
  · rw [if_pos hl] at h
    have hd := Option.some.inj h
    rw [← hd]
    exact dimension_c a0_0 A0_1 c0_1 l0_1 w hr0_1 _hc0_1 hl
  · rw [if_neg hl] at h; cases h
end Go.Proofs.YtpnmifahfpmplaaGreat.Ext
namespace Go.Proofs.YtpnmifahfpmplaaGreat.Ext
open Go.RowKit Im Kp YtpnmifahfpmplaaGreatW.PrintWords YtpnmifahfpmplaaGreatW.PrintLast YtpnmifahfpmplaaGreatW.PrintMore
def impl_Complex_onCycles.f (a0_0 : Int) (l0_1 : List Int) (l1 : List S57) : Option (List Int) := if okCyc l0_1 l1 = true then some (l0_1.filter fun x => loopB l1 x) else none
theorem impl_Complex_onCycles.calls (a0_0 : Int) (A0_1 : Option Addr) (c0_1 : Nat) (l0_1 : List Int) (A1 : Option Addr) (c1 : Nat) (l1 : List S57) (r : List Int) (w : World) (hr0_1 : Kd.C (Kd.int .i64) w A0_1 l0_1.length l0_1) (_hc0_1 : l0_1.length ≤ c0_1) (hr1 : Kd.C k57 w A1 l1.length l1) (_hc1 : l1.length ≤ c1) (h : impl_Complex_onCycles.f a0_0 l0_1 l1 = some r) :
    Calls Tryz.prog 33 #[.agg #[.int .i64 a0_0, .slice A0_1 l0_1.length c0_1], .slice A1 l1.length c1] w fun e w' => ∃ v0_ : Value, e = .returned (v0_) ∧ Kd.R (Kd.int .i64) 2 w' w.heap.size (fun _ => True) v0_ r ∧ Below w.heap.size w w' := by
  unfold impl_Complex_onCycles.f at h
  by_cases hl : okCyc l0_1 l1 = true
  · rw [if_pos hl] at h
    have hd := Option.some.inj h
    have := onCycles_c a0_0 A0_1 c0_1 l0_1 A1 c1 l1 w hr0_1 _hc0_1 hr1 _hc1 hl
    rw [hd] at this
    exact this
  · rw [if_neg hl] at h; cases h
end Go.Proofs.YtpnmifahfpmplaaGreat.Ext
