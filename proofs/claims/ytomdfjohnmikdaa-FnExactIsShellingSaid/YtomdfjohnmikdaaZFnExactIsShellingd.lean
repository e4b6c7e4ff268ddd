/- Words and lemmas for FnExactIsShelling, part 4: what the row's text comes to. -/
import Derived.Test.YtomdfjohnmikdaaZFnExactIsShellingc
namespace Go.Proofs.Ytomdfjohnmikdaa.QS
open Go.Proofs.Ytomdfjohnmikdaa.Cw Go.Proofs.Ytomdfjohnmikdaa.Kp Go.Proofs.Ytomdfjohnmikdaa.Ext Go.RowKit Go.Proofs.YtomdfjohnmikdaaW.PrintWords Go.Proofs.YtomdfjohnmikdaaW.PrintLast Go.Proofs.YtomdfjohnmikdaaW.PrintMore
attribute [local go_sem] max2_int min2_int max_two min_two max_three min_three max_four min_four   -- for this text's walks alone
set_option linter.unusedVariables false
set_option linter.unusedSimpArgs false
mutual
def spec_l07Shelling.l0 : Nat → List Int → List Int → List Int → Int → Option (Bool × List Int)
 | 0, _, _, _, _ => none
 | k + 1, x1, x6, x7, x8 => if x8 < (x1.length : Int) then (spec_l07Shelling.l1 k x1 x6 x7 x8 false 0) else (some (true, x7))
def spec_l07Shelling.l1 : Nat → List Int → List Int → List Int → Int → Bool → Int → Option (Bool × List Int)
 | 0, _, _, _, _, _, _ => none
 | k + 1, x1, x6, x7, x8, x9, x10 => if x10 < (x6.length : Int) then (if x9 = true then (spec_l07Shelling.l1 k x1 x6 x7 x8 true (wrap64 (x10 + 1))) else (if 0 ≤ x10 then (if 0 ≤ x8 then (if x8 < (x1.length : Int) then (spec_l07Shelling.l1 k x1 x6 x7 x8 ((rd x6 x10) == (rd x1 x8)) (wrap64 (x10 + 1))) else (none)) else (none)) else (none))) else (spec_l07Shelling.l2 k x1 x6 x7 x8 x9 0)
def spec_l07Shelling.l2 : Nat → List Int → List Int → List Int → Int → Bool → Int → Option (Bool × List Int)
 | 0, _, _, _, _, _, _ => none
 | k + 1, x1, x6, x7, x8, x9, x11 => if x11 < x8 then (if x9 = true then (if 0 ≤ x11 then (if x11 < (x1.length : Int) then (if 0 ≤ x8 then (if x8 < (x1.length : Int) then (spec_l07Shelling.l2 k x1 x6 x7 x8 ((rd x1 x11) != (rd x1 x8)) (wrap64 (x11 + 1))) else (none)) else (none)) else (none)) else (none)) else (spec_l07Shelling.l2 k x1 x6 x7 x8 false (wrap64 (x11 + 1)))) else (if 0 ≤ x8 then (if x8 ≤ (x1.length : Int) then (if x8 < (x1.length : Int) then ((spec_l07Goes.f k (x1.take (x8 : Int).toNat) (rd x1 x8)).bind fun bt665 => (if x9 = true then (if bt665.1 = true then (if x7.length < 17592186044416 then (spec_l07Shelling.l0 k x1 x6 (x7 ++ [bt665.2]) (wrap64 (x8 + 1))) else (none)) else (some (false, x7))) else (some (false, x7)))) else (none)) else (none)) else (none))
end
def spec_l07Shelling.f (k : Nat) (a0_0 : Int) (l0_1 : List Int) (l1 : List Int) : Option (Bool × List Int) := (spec_l01Facets.f k a0_0 l0_1).bind fun t653 => ((some (([] : List Int) : List Int)).bind fun y656 => (if (l1.length : Int) = (t653.length : Int) then (spec_l07Shelling.l0 k l1 t653 y656 0) else (some (false, y656))))
set_option maxHeartbeats 8000000 in
set_option maxRecDepth 100000 in
theorem spec_l07Shelling.calls (k : Nat) (a0_0 : Int) (A0_1 : Option Addr) (c0_1 : Nat) (l0_1 : List Int) (A1 : Option Addr) (c1 : Nat) (l1 : List Int) (r1 : Bool) (r2 : List Int) (w : World) (hr0_1 : Kd.C (Kd.int .i64) w A0_1 l0_1.length l0_1) (hc0_1 : l0_1.length ≤ c0_1) (hr1 : Kd.C (Kd.int .i64) w A1 l1.length l1) (hc1 : l1.length ≤ c1) (h : spec_l07Shelling.f k a0_0 l0_1 l1 = some (r1, r2)) :
  Calls Try.prog 87 #[.agg #[.int .i64 a0_0, .slice A0_1 l0_1.length c0_1], .slice A1 l1.length c1] w fun e w' => ∃ v1_ : Value, e = .returned (.tuple #[.bool r1, v1_]) ∧ Kd.R (Kd.int .i64) 2 w' w.heap.size (fun _ => True) v1_ r2 ∧ Below w.heap.size w w' := by
 have hu28 := Try.underlying28
 have HR0_1 := Aside0.mk hr0_1
 have HC0_1 := Aside0.mk hc0_1
 clear hr0_1 hc0_1
 have HR1 := Aside0.mk hr1
 have HC1 := Aside0.mk hc1
 clear hr1 hc1
 have HB := Aside0.mk (Below.refl w.heap.size w)
 have H : ((spec_l01Facets.f k a0_0 l0_1).bind fun t653 => ((some (([] : List Int) : List Int)).bind fun y656 => (if (l1.length : Int) = (t653.length : Int) then (spec_l07Shelling.l0 k l1 t653 y656 0) else (some (false, y656))))) = some (r1, r2) := h
 clear h
 replace H := Option.bind_eq_some_iff.mp H
 obtain ⟨t653, A30, H⟩ := H
 try dsimp only at H
 have A3 := Aside0.mk A30
 clear A30
 obtain ⟨y656, hy656⟩ : ∃ y_ : List Int, y_ = (([] : List Int)) := ⟨_, rfl⟩
 replace H : (if (l1.length : Int) = (t653.length : Int) then (spec_l07Shelling.l0 k l1 t653 y656 0) else (some (false, y656))) = some (r1, r2) := by first | (rw [hy656]; with_reducible exact H) | (have H2_ := (Option.bind_some _ _).symm.trans H; rw [hy656]; with_reducible exact H2_) | (have H2_ := (Option.bind_some _ _).symm.trans H; with_reducible exact H2_) | with_reducible exact H | (rw [hy656]; exact H) | exact H
 have Ny656 := Aside0.mk hy656
 clear hy656
 by_cases c4 : (l1.length : Int) = (t653.length : Int)
 ·rw [if_pos c4] at H
  have c4b0 : ((l1.length : Int) == (t653.length : Int)) = true := beq_iff_eq.mpr c4
  have c4b1 : ((l1.length : Int) != (t653.length : Int)) = false := bne_eq_false_iff_eq.mpr c4
  have c4b2 : (l1.length == t653.length) = true := by first | simpa using c4 | (simp at c4 ⊢; omega)
  clear c4
  have H' := Aside0.mk H
  clear H
  go_enter Try.func87, Try.ntmps87
  go_wp2_with (first | ((with_reducible refine gate_dst (N := 2) rfl ?_); refine box_event ?hg (N := 2) ?hd (cs := #[.int .i64 a0_0, .slice A0_1 l0_1.length c0_1]) (t := 28) ?hr ?_; (case hd => rfl); (case hg => rfl); (case hr => first | (go_simp; done) | (go_simp; rfl)); intro gb652 hg w5 hbox hb; have BK652 := Aside0.mk (hbox); have GW652 := gH HB hg; have GE652 := gH HB hg; replace HB := sH HB hb; clear hb hbox hg; have hcz6_0 : w5.cell? ⟨gb652, 0, none⟩ = some (.int .i64 a0_0) := cB BK652 0; have hcz6_1 : w5.cell? ⟨gb652, 1, none⟩ = some (.slice A0_1 l0_1.length c0_1) := cB BK652 1; have hfz6_0 := zB BK652 0; have hfz6_1 := zB BK652 1) | (go_at_call 81; (with_reducible refine (spec_l01Facets.calls k a0_0 _ _ l0_1 t653 _ ?side1 ?side2 A3.out).mono ?_); (case side1 => exact pC ((Kd.C_below HR0_1.out HB.out))); (case side2 => exact HC0_1.out); rintro e w7 ⟨v654, rfl, ho0, hb⟩; have HO655 := Aside0.mk (Kd.R_lower ho0 (below_size (pH HB))); replace BK652 := sB BK652 hb; replace HB := sH HB hb; (try clear hb); (try clear hi); (try clear ho0)) | ((with_reducible refine gate_dst (N := 16) rfl ?_); refine Kd.R_lit (Kd.int .i64) _ 2 ?hg (N := 16) ?hd (xs := ([] : List Int)) (inner := []) (ok := fun _ => True) (okp := fun _ => True) ?hr ?hp (fun _ hk => hk) trivial (Below.refl _ _) (Nat.le_refl _) (by simp) ?_; (case hd => rfl); (case hg => rfl); (case hr => first | (go_simp; done) | (go_simp; rfl)); (case hp => exact (Reps.none _ _)); intro v657 w8 ho9 hb hg_ hnew_; clear hg_ hnew_; (first | rw [← Ny656.out] at ho9 | (simp only [Int.reduceToNat] at ho9; rw [← Ny656.out] at ho9)); have HO658 := Aside0.mk (Kd.R_lower (Kd.R_new' ho9 (Kd.R_lt (pR HO655))) (below_size (pH HB))); replace HO655 := Aside0.mk (Kd.R_elder' (pR HO655) (Kd.R_base ho9) hb); replace BK652 := sB BK652 hb; replace HB := sH HB hb; clear hb ho9; obtain ⟨Ao10, co10, eo10⟩ := Kd.R_slice HO655.out; subst eo10))
  repeat (go_quiet (first | ((with_reducible refine gate_dst (N := 2) rfl ?_); refine box_event ?hg (N := 2) ?hd (cs := #[.int .i64 a0_0, .slice A0_1 l0_1.length c0_1]) (t := 28) ?hr ?_; (case hd => rfl); (case hg => rfl); (case hr => first | (go_simp; done) | (go_simp; rfl)); intro gb652 hg w5 hbox hb; have BK652 := Aside0.mk (hbox); have GW652 := gH HB hg; have GE652 := gH HB hg; replace HB := sH HB hb; clear hb hbox hg; have hcz6_0 : w5.cell? ⟨gb652, 0, none⟩ = some (.int .i64 a0_0) := cB BK652 0; have hcz6_1 : w5.cell? ⟨gb652, 1, none⟩ = some (.slice A0_1 l0_1.length c0_1) := cB BK652 1; have hfz6_0 := zB BK652 0; have hfz6_1 := zB BK652 1) | (go_at_call 81; (with_reducible refine (spec_l01Facets.calls k a0_0 _ _ l0_1 t653 _ ?side1 ?side2 A3.out).mono ?_); (case side1 => exact pC ((Kd.C_below HR0_1.out HB.out))); (case side2 => exact HC0_1.out); rintro e w7 ⟨v654, rfl, ho0, hb⟩; have HO655 := Aside0.mk (Kd.R_lower ho0 (below_size (pH HB))); replace BK652 := sB BK652 hb; replace HB := sH HB hb; (try clear hb); (try clear hi); (try clear ho0)) | ((with_reducible refine gate_dst (N := 16) rfl ?_); refine Kd.R_lit (Kd.int .i64) _ 2 ?hg (N := 16) ?hd (xs := ([] : List Int)) (inner := []) (ok := fun _ => True) (okp := fun _ => True) ?hr ?hp (fun _ hk => hk) trivial (Below.refl _ _) (Nat.le_refl _) (by simp) ?_; (case hd => rfl); (case hg => rfl); (case hr => first | (go_simp; done) | (go_simp; rfl)); (case hp => exact (Reps.none _ _)); intro v657 w8 ho9 hb hg_ hnew_; clear hg_ hnew_; (first | rw [← Ny656.out] at ho9 | (simp only [Int.reduceToNat] at ho9; rw [← Ny656.out] at ho9)); have HO658 := Aside0.mk (Kd.R_lower (Kd.R_new' ho9 (Kd.R_lt (pR HO655))) (below_size (pH HB))); replace HO655 := Aside0.mk (Kd.R_elder' (pR HO655) (Kd.R_base ho9) hb); replace BK652 := sB BK652 hb; replace HB := sH HB hb; clear hb ho9; obtain ⟨Ao10, co10, eo10⟩ := Kd.R_slice HO655.out; subst eo10)); try go_wp2_with (first | ((with_reducible refine gate_dst (N := 2) rfl ?_); refine box_event ?hg (N := 2) ?hd (cs := #[.int .i64 a0_0, .slice A0_1 l0_1.length c0_1]) (t := 28) ?hr ?_; (case hd => rfl); (case hg => rfl); (case hr => first | (go_simp; done) | (go_simp; rfl)); intro gb652 hg w5 hbox hb; have BK652 := Aside0.mk (hbox); have GW652 := gH HB hg; have GE652 := gH HB hg; replace HB := sH HB hb; clear hb hbox hg; have hcz6_0 : w5.cell? ⟨gb652, 0, none⟩ = some (.int .i64 a0_0) := cB BK652 0; have hcz6_1 : w5.cell? ⟨gb652, 1, none⟩ = some (.slice A0_1 l0_1.length c0_1) := cB BK652 1; have hfz6_0 := zB BK652 0; have hfz6_1 := zB BK652 1) | (go_at_call 81; (with_reducible refine (spec_l01Facets.calls k a0_0 _ _ l0_1 t653 _ ?side1 ?side2 A3.out).mono ?_); (case side1 => exact pC ((Kd.C_below HR0_1.out HB.out))); (case side2 => exact HC0_1.out); rintro e w7 ⟨v654, rfl, ho0, hb⟩; have HO655 := Aside0.mk (Kd.R_lower ho0 (below_size (pH HB))); replace BK652 := sB BK652 hb; replace HB := sH HB hb; (try clear hb); (try clear hi); (try clear ho0)) | ((with_reducible refine gate_dst (N := 16) rfl ?_); refine Kd.R_lit (Kd.int .i64) _ 2 ?hg (N := 16) ?hd (xs := ([] : List Int)) (inner := []) (ok := fun _ => True) (okp := fun _ => True) ?hr ?hp (fun _ hk => hk) trivial (Below.refl _ _) (Nat.le_refl _) (by simp) ?_; (case hd => rfl); (case hg => rfl); (case hr => first | (go_simp; done) | (go_simp; rfl)); (case hp => exact (Reps.none _ _)); intro v657 w8 ho9 hb hg_ hnew_; clear hg_ hnew_; (first | rw [← Ny656.out] at ho9 | (simp only [Int.reduceToNat] at ho9; rw [← Ny656.out] at ho9)); have HO658 := Aside0.mk (Kd.R_lower (Kd.R_new' ho9 (Kd.R_lt (pR HO655))) (below_size (pH HB))); replace HO655 := Aside0.mk (Kd.R_elder' (pR HO655) (Kd.R_base ho9) hb); replace BK652 := sB BK652 hb; replace HB := sH HB hb; clear hb ho9; obtain ⟨Ao10, co10, eo10⟩ := Kd.R_slice HO655.out; subst eo10)))
  go_loopg [7, 8] k (fun kq v7 v8 w' => ∃ (x7_1 : List Int) (x8_1 : Int), v8 = .int .i64 x8_1 ∧ Aside0 (spec_l07Shelling.l0 kq l1 t653 x7_1 x8_1 = some (r1, r2)) ∧ Aside0 (kq ≤ k) ∧ Aside0 (Kd.R (Kd.int .i64) 2 w' w.heap.size (fun k_ => some k_ ≠ (v7 : Value).ownBlock) (.slice Ao10 t653.length co10) t653) ∧ Aside0 (Kd.R (Kd.int .i64) 2 w' w.heap.size (fun k_ => some k_ ≠ ((.slice Ao10 t653.length co10) : Value).ownBlock) v7 x7_1) ∧ Aside0 (w'.heap[gb652]? = some (.cells #[.int .i64 a0_0, (.slice A0_1 l0_1.length c0_1)] 28 (0, 0))) ∧ Aside0 (Below w.heap.size w w'))
  case atStart => exact ⟨(y656), (0), (by first | rfl | (simp; done) | (simp [*]; done)), H', ⟨Nat.le_refl _⟩, ⟨by (with_reducible repeat (first | apply Kd.R_alloc | apply Kd.R_drewN | apply Kd.R_drew)); exact Kd.R_mono HO655.out (fun _ hk => hk.2)⟩, ⟨by (with_reducible repeat (first | apply Kd.R_alloc | apply Kd.R_drewN | apply Kd.R_drew)); exact Kd.R_mono HO658.out (fun _ hk => hk.2)⟩, ⟨pB BK652⟩, ⟨pH HB⟩⟩
  case round =>
   clear H'
   try clear c1
   try clear p2
   try clear c4
   try clear c4b0
   try clear c4b1
   try clear c4b2
   try clear c8
   try clear hcz6_0
   try clear hcz6_1
   try clear hfz6_0
   try clear hfz6_1
   obtain ⟨x7_1, x8_1, rfl, HA, HK1, HO_6, HO_7, BK652, HB⟩ := hrel
   cases gk with
   | zero => exact absurd HA.out (by simp [spec_l07Shelling.l0])
   | succ k1 =>
    have H := HA.out
    clear HA
    simp only [spec_l07Shelling.l0] at H
    by_cases c11 : x8_1 < (l1.length : Int)
    ·rw [if_pos c11] at H
     have c11b0 : decide (x8_1 < (l1.length : Int)) = true := decide_eq_true c11
     clear c11
     have H' := Aside0.mk H
     clear H
     go_wp2
     repeat (go_quiet (fail); try go_wp2)
     go_loopg [9, 10] k1 (fun kq v9 v10 w' => ∃ (x9_2 : Bool) (x10_2 : Int), v9 = .bool x9_2 ∧ v10 = .int .i64 x10_2 ∧ Aside0 (spec_l07Shelling.l1 kq l1 t653 x7_1 x8_1 x9_2 x10_2 = some (r1, r2)) ∧ Aside0 (kq ≤ k1) ∧ Aside0 (Kd.R (Kd.int .i64) 2 w' w.heap.size (fun k_ => some k_ ≠ (u7 : Value).ownBlock) (.slice Ao10 t653.length co10) t653) ∧ Aside0 (Kd.R (Kd.int .i64) 2 w' w.heap.size (fun k_ => some k_ ≠ ((.slice Ao10 t653.length co10) : Value).ownBlock) u7 x7_1) ∧ Aside0 (w'.heap[gb652]? = some (.cells #[.int .i64 a0_0, (.slice A0_1 l0_1.length c0_1)] 28 (0, 0))) ∧ Aside0 (Below w.heap.size w w'))
     case atStart => exact ⟨(false), (0), (by first | rfl | (simp; done) | (simp [*]; done)), (by first | rfl | (simp; done) | (simp [*]; done)), H', ⟨Nat.le_refl _⟩, ⟨by (with_reducible repeat (first | apply Kd.R_alloc | apply Kd.R_drewN | apply Kd.R_drew)); exact HO_6.out⟩, ⟨by (with_reducible repeat (first | apply Kd.R_alloc | apply Kd.R_drewN | apply Kd.R_drew)); exact HO_7.out⟩, ⟨pB BK652⟩, ⟨pH HB⟩⟩
     case round =>
      clear H'
      try clear c1
      try clear p2
      try clear c4
      try clear c4b0
      try clear c4b1
      try clear c4b2
      try clear c8
      try clear c11
      try clear c11b0
      try clear hcz6_0
      try clear hcz6_1
      try clear hfz6_0
      try clear hfz6_1
      try clear p2
      obtain ⟨x9_2, x10_2, rfl, rfl, HA, HK2, HO_6, HO_7, BK652, HB⟩ := hrel
      cases gk with
      | zero => exact absurd HA.out (by simp [spec_l07Shelling.l1])
      | succ k2 =>
       have H := HA.out
       clear HA
       simp only [spec_l07Shelling.l1] at H
       by_cases c12 : x10_2 < (t653.length : Int)
       ·rw [if_pos c12] at H
        have c12b0 : decide (x10_2 < (t653.length : Int)) = true := decide_eq_true c12
        clear c12
        by_cases c13 : x9_2 = true
        ·subst c13
         have H1 : (spec_l07Shelling.l1 k2 l1 t653 x7_1 x8_1 true (wrap64 (x10_2 + 1))) = some (r1, r2) := by rw [if_pos rfl] at H; exact H
         clear H
         have H := H1
         clear H1
         have H' := Aside0.mk H
         clear H
         go_wp2
         repeat (go_quiet (fail); try go_wp2)
         go_roundg k2
         case measure => have := HK1.out; have := HK2.out; omega
         case rel => exact ⟨(true), (wrap64 (x10_2 + 1)), (by first | rfl | (simp; done) | (simp [*]; done)), (by first | rfl | (simp; done) | (simp [*]; done)), H', ⟨by have := HK1.out; have := HK2.out; omega⟩, ⟨by (with_reducible repeat (first | apply Kd.R_alloc | apply Kd.R_drewN | apply Kd.R_drew)); exact HO_6.out⟩, ⟨by (with_reducible repeat (first | apply Kd.R_alloc | apply Kd.R_drewN | apply Kd.R_drew)); exact HO_7.out⟩, ⟨pB BK652⟩, ⟨pH HB⟩⟩
        ·replace c13 := Bool.eq_false_iff.mpr c13
         subst c13
         have H1 : (if 0 ≤ x10_2 then (if 0 ≤ x8_1 then (if x8_1 < (l1.length : Int) then (spec_l07Shelling.l1 k2 l1 t653 x7_1 x8_1 ((rd t653 x10_2) == (rd l1 x8_1)) (wrap64 (x10_2 + 1))) else (none)) else (none)) else (none)) = some (r1, r2) := by rw [if_neg (show ¬ (false = true) by decide)] at H; exact H
         clear H
         have H := H1
         clear H1
         by_cases c14 : 0 ≤ x10_2
         ·rw [if_pos c14] at H
          have c14b0 : decide (0 ≤ x10_2) = true := decide_eq_true c14
          clear c14
          by_cases c15 : 0 ≤ x8_1
          ·rw [if_pos c15] at H
           have c15b0 : decide (0 ≤ x8_1) = true := decide_eq_true c15
           clear c15
           by_cases c16 : x8_1 < (l1.length : Int)
           ·rw [if_pos c16] at H
            have c16b0 : decide (x8_1 < (l1.length : Int)) = true := decide_eq_true c16
            clear c16
            have H' := Aside0.mk H
            clear H
            have p659 : 0 ≤ (x10_2 : Int) := of_decide_eq_true (by first | (with_reducible assumption) | assumption)
            have q659 : x10_2 < (t653.length : Int) := of_decide_eq_true (by first | (with_reducible assumption) | assumption)
            obtain ⟨ad659, e659, hx659_0⟩ := Kd.at_int (Kd.R_reads' HO_6.out).2.2 x10_2 p659 q659
            cases e659
            replace p659 := eq_true p659
            replace q659 := eq_true q659
            have p660 : 0 ≤ (x8_1 : Int) := of_decide_eq_true (by first | (with_reducible assumption) | assumption)
            have q660 : x8_1 < (l1.length : Int) := of_decide_eq_true (by first | (with_reducible assumption) | assumption)
            obtain ⟨ad660, e660, hx660_0⟩ := Kd.at_int HR1.out x8_1 p660 q660
            cases e660
            replace hx660_0 := cH HB hx660_0
            replace p660 := eq_true p660
            replace q660 := eq_true q660
            go_wp2
            repeat (go_quiet (fail); try go_wp2)
            go_roundg k2
            case measure => have := HK1.out; have := HK2.out; omega
            case rel => exact ⟨(((rd t653 x10_2) == (rd l1 x8_1))), (wrap64 (x10_2 + 1)), (by first | rfl | (simp; done) | (simp [*]; done)), (by first | rfl | (simp; done) | (simp [*]; done)), H', ⟨by have := HK1.out; have := HK2.out; omega⟩, ⟨by (with_reducible repeat (first | apply Kd.R_alloc | apply Kd.R_drewN | apply Kd.R_drew)); exact HO_6.out⟩, ⟨by (with_reducible repeat (first | apply Kd.R_alloc | apply Kd.R_drewN | apply Kd.R_drew)); exact HO_7.out⟩, ⟨pB BK652⟩, ⟨pH HB⟩⟩
           ·rw [if_neg c16] at H
            exact absurd H (by simp)
          ·rw [if_neg c15] at H
           exact absurd H (by simp)
         ·rw [if_neg c14] at H
          exact absurd H (by simp)
       ·rw [if_neg c12] at H
        have c12b0 : decide (x10_2 < (t653.length : Int)) = false := decide_eq_false c12
        clear c12
        have H' := Aside0.mk H
        clear H
        go_wp2
        repeat (go_quiet (fail); try go_wp2)
        go_loopg [9, 11] k2 (fun kq v9 v11 w' => ∃ (x9_3 : Bool) (x11_3 : Int), v9 = .bool x9_3 ∧ v11 = .int .i64 x11_3 ∧ Aside0 (spec_l07Shelling.l2 kq l1 t653 x7_1 x8_1 x9_3 x11_3 = some (r1, r2)) ∧ Aside0 (kq ≤ k2) ∧ Aside0 (Kd.R (Kd.int .i64) 2 w' w.heap.size (fun k_ => some k_ ≠ (u7 : Value).ownBlock) (.slice Ao10 t653.length co10) t653) ∧ Aside0 (Kd.R (Kd.int .i64) 2 w' w.heap.size (fun k_ => some k_ ≠ ((.slice Ao10 t653.length co10) : Value).ownBlock) u7 x7_1) ∧ Aside0 (w'.heap[gb652]? = some (.cells #[.int .i64 a0_0, (.slice A0_1 l0_1.length c0_1)] 28 (0, 0))) ∧ Aside0 (Below w.heap.size w w'))
        case atStart => exact ⟨(x9_2), (0), (by first | rfl | (simp; done) | (simp [*]; done)), (by first | rfl | (simp; done) | (simp [*]; done)), H', ⟨Nat.le_refl _⟩, ⟨by (with_reducible repeat (first | apply Kd.R_alloc | apply Kd.R_drewN | apply Kd.R_drew)); exact HO_6.out⟩, ⟨by (with_reducible repeat (first | apply Kd.R_alloc | apply Kd.R_drewN | apply Kd.R_drew)); exact HO_7.out⟩, ⟨pB BK652⟩, ⟨pH HB⟩⟩
        case round =>
         clear H'
         try clear c1
         try clear p2
         try clear c4
         try clear c4b0
         try clear c4b1
         try clear c4b2
         try clear p6
         try clear q6
         try clear hx6
         try clear c8
         try clear c11
         try clear c11b0
         try clear c12
         try clear c12b0
         try clear c13
         try clear c14
         try clear c14b0
         try clear c15
         try clear c15b0
         try clear c16
         try clear c16b0
         try clear hcz6_0
         try clear hcz6_1
         try clear hfz6_0
         try clear hfz6_1
         try clear hx659_0
         try clear hx660_0
         try clear p2
         try clear p659
         try clear p660
         try clear q659
         try clear q660
         obtain ⟨x9_3, x11_3, rfl, rfl, HA, HK3, HO_6, HO_7, BK652, HB⟩ := hrel
         cases gk with
         | zero => exact absurd HA.out (by simp [spec_l07Shelling.l2])
         | succ k3 =>
          have H := HA.out
          clear HA
          simp only [spec_l07Shelling.l2] at H
          by_cases c17 : x11_3 < x8_1
          ·rw [if_pos c17] at H
           have c17b0 : decide (x11_3 < x8_1) = true := decide_eq_true c17
           clear c17
           by_cases c18 : x9_3 = true
           ·subst c18
            have H1 : (if 0 ≤ x11_3 then (if x11_3 < (l1.length : Int) then (if 0 ≤ x8_1 then (if x8_1 < (l1.length : Int) then (spec_l07Shelling.l2 k3 l1 t653 x7_1 x8_1 ((rd l1 x11_3) != (rd l1 x8_1)) (wrap64 (x11_3 + 1))) else (none)) else (none)) else (none)) else (none)) = some (r1, r2) := by rw [if_pos rfl] at H; exact H
            clear H
            have H := H1
            clear H1
            by_cases c19 : 0 ≤ x11_3
            ·rw [if_pos c19] at H
             have c19b0 : decide (0 ≤ x11_3) = true := decide_eq_true c19
             clear c19
             by_cases c20 : x11_3 < (l1.length : Int)
             ·rw [if_pos c20] at H
              have c20b0 : decide (x11_3 < (l1.length : Int)) = true := decide_eq_true c20
              clear c20
              by_cases c21 : 0 ≤ x8_1
              ·rw [if_pos c21] at H
               have c21b0 : decide (0 ≤ x8_1) = true := decide_eq_true c21
               clear c21
               by_cases c22 : x8_1 < (l1.length : Int)
               ·rw [if_pos c22] at H
                have c22b0 : decide (x8_1 < (l1.length : Int)) = true := decide_eq_true c22
                clear c22
                have H' := Aside0.mk H
                clear H
                have p661 : 0 ≤ (x11_3 : Int) := of_decide_eq_true (by first | (with_reducible assumption) | assumption)
                have q661 : x11_3 < (l1.length : Int) := of_decide_eq_true (by first | (with_reducible assumption) | assumption)
                obtain ⟨ad661, e661, hx661_0⟩ := Kd.at_int HR1.out x11_3 p661 q661
                cases e661
                replace hx661_0 := cH HB hx661_0
                replace p661 := eq_true p661
                replace q661 := eq_true q661
                have p662 : 0 ≤ (x8_1 : Int) := of_decide_eq_true (by first | (with_reducible assumption) | assumption)
                have q662 : x8_1 < (l1.length : Int) := of_decide_eq_true (by first | (with_reducible assumption) | assumption)
                obtain ⟨ad662, e662, hx662_0⟩ := Kd.at_int HR1.out x8_1 p662 q662
                obtain rfl : ad661 = ad662 := (by injection e662)
                replace hx662_0 := cH HB hx662_0
                replace p662 := eq_true p662
                replace q662 := eq_true q662
                go_wp2
                repeat (go_quiet (fail); try go_wp2)
                go_roundg k3
                case measure => have := HK1.out; have := HK2.out; have := HK3.out; omega
                case rel => exact ⟨(((rd l1 x11_3) != (rd l1 x8_1))), (wrap64 (x11_3 + 1)), (by first | rfl | (simp; done) | (simp [*]; done)), (by first | rfl | (simp; done) | (simp [*]; done)), H', ⟨by have := HK1.out; have := HK2.out; have := HK3.out; omega⟩, ⟨by (with_reducible repeat (first | apply Kd.R_alloc | apply Kd.R_drewN | apply Kd.R_drew)); exact HO_6.out⟩, ⟨by (with_reducible repeat (first | apply Kd.R_alloc | apply Kd.R_drewN | apply Kd.R_drew)); exact HO_7.out⟩, ⟨pB BK652⟩, ⟨pH HB⟩⟩
               ·rw [if_neg c22] at H
                exact absurd H (by simp)
              ·rw [if_neg c21] at H
               exact absurd H (by simp)
             ·rw [if_neg c20] at H
              exact absurd H (by simp)
            ·rw [if_neg c19] at H
             exact absurd H (by simp)
           ·replace c18 := Bool.eq_false_iff.mpr c18
            subst c18
            have H1 : (spec_l07Shelling.l2 k3 l1 t653 x7_1 x8_1 false (wrap64 (x11_3 + 1))) = some (r1, r2) := by rw [if_neg (show ¬ (false = true) by decide)] at H; exact H
            clear H
            have H := H1
            clear H1
            have H' := Aside0.mk H
            clear H
            go_wp2
            repeat (go_quiet (fail); try go_wp2)
            go_roundg k3
            case measure => have := HK1.out; have := HK2.out; have := HK3.out; omega
            case rel => exact ⟨(false), (wrap64 (x11_3 + 1)), (by first | rfl | (simp; done) | (simp [*]; done)), (by first | rfl | (simp; done) | (simp [*]; done)), H', ⟨by have := HK1.out; have := HK2.out; have := HK3.out; omega⟩, ⟨by (with_reducible repeat (first | apply Kd.R_alloc | apply Kd.R_drewN | apply Kd.R_drew)); exact HO_6.out⟩, ⟨by (with_reducible repeat (first | apply Kd.R_alloc | apply Kd.R_drewN | apply Kd.R_drew)); exact HO_7.out⟩, ⟨pB BK652⟩, ⟨pH HB⟩⟩
          ·rw [if_neg c17] at H
           have c17b0 : decide (x11_3 < x8_1) = false := decide_eq_false c17
           clear c17
           by_cases c23 : 0 ≤ x8_1
           ·rw [if_pos c23] at H
            have c23b0 := eq_true c23
            have c23b1 : decide (0 ≤ x8_1) = true := decide_eq_true c23
            clear c23
            by_cases c24 : x8_1 ≤ (l1.length : Int)
            ·rw [if_pos c24] at H
             have c24b0 := eq_true c24
             have c24b1 : decide (x8_1 ≤ (l1.length : Int)) = true := decide_eq_true c24
             clear c24
             by_cases c25 : x8_1 < (l1.length : Int)
             ·rw [if_pos c25] at H
              have c25b0 : decide (x8_1 < (l1.length : Int)) = true := decide_eq_true c25
              clear c25
              replace H := Option.bind_eq_some_iff.mp H
              obtain ⟨⟨t665, t666⟩, A260, H⟩ := H
              try dsimp only at H
              have A26 := Aside0.mk A260
              clear A260
              by_cases c27 : x9_3 = true
              ·subst c27
               have H1 : (if t665 = true then (if x7_1.length < 17592186044416 then (spec_l07Shelling.l0 k3 l1 t653 (x7_1 ++ [t666]) (wrap64 (x8_1 + 1))) else (none)) else (some (false, x7_1))) = some (r1, r2) := by rw [if_pos rfl] at H; exact H
               clear H
               have H := H1
               clear H1
               by_cases c28 : t665 = true
               ·subst c28
                have H1 : (if x7_1.length < 17592186044416 then (spec_l07Shelling.l0 k3 l1 t653 (x7_1 ++ [t666]) (wrap64 (x8_1 + 1))) else (none)) = some (r1, r2) := by rw [if_pos rfl] at H; exact H
                clear H
                have H := H1
                clear H1
                by_cases c29 : x7_1.length < 17592186044416
                ·rw [if_pos c29] at H
                 have LMc29 := Aside0.mk c29
                 clear c29
                 obtain ⟨y667, hy667⟩ : ∃ y_ : List Int, y_ = (x7_1 ++ [t666]) := ⟨_, rfl⟩
                 replace H : (spec_l07Shelling.l0 k3 l1 t653 y667 (wrap64 (x8_1 + 1))) = some (r1, r2) := by first | (rw [hy667]; with_reducible exact H) | (have H2_ := (Option.bind_some _ _).symm.trans H; rw [hy667]; with_reducible exact H2_) | (have H2_ := (Option.bind_some _ _).symm.trans H; with_reducible exact H2_) | with_reducible exact H | (rw [hy667]; exact H) | exact H
                 have Ny667 := Aside0.mk hy667
                 clear hy667
                 have H' := Aside0.mk H
                 clear H
                 obtain ⟨i030, hi030, _, hsz30, _⟩ := info_parts info2
                 obtain ⟨hcut30, hA30, hC30⟩ := print_take_of (P := Try.prog) (Value.int .i64) 0 22 2 .i64 Try.underlying22 hi030 hsz30 A1 c1 l1 x8_1 (of_decide_eq_true (by first | (with_reducible assumption) | assumption)) (of_decide_eq_true (by first | (with_reducible assumption) | assumption)) HC1.out
                 have HR663 := Aside0.mk (Kd.C_of_reads (h1 := fun _ => rfl) (hA30 _ (Kd.reads_of_C HR1.out)))
                 have HC663 := Aside0.mk hC30
                 clear hA30 hC30 hi030 hsz30
                 have p664 : 0 ≤ (x8_1 : Int) := of_decide_eq_true (by first | (with_reducible assumption) | assumption)
                 have q664 : x8_1 < (l1.length : Int) := of_decide_eq_true (by first | (with_reducible assumption) | assumption)
                 obtain ⟨ad664, e664, hx664_0⟩ := Kd.at_int HR1.out x8_1 p664 q664
                 cases e664
                 replace hx664_0 := cH HB hx664_0
                 replace p664 := eq_true p664
                 replace q664 := eq_true q664
                 (try go_upto_region 16 with fail)
                 refine st_ 13 (S := fun w' => w'.cell? (ad664.add (x8_1).toNat) = some (.int .i64 (rd l1 x8_1))) (ds := []) hx664_0 (fun hHeld => ?_)
                 refine with_tabW (T := (true, [([], []), ([], []), ([0, 1], [0, 1]), ([], []), ([], []), ([3, 4], [3, 4]), ([5], [5]), ([2, 6], [2, 6]), ([7], [7]), ([8], [8]), ([8], [8]), ([9, 7, 0, 1, 2, 3, 4, 5, 6, 7, 8, 9], [9]), ([10, 11, 0, 1, 2, 3, 4, 5, 6, 7, 8, 9, 10, 11], [10])])) (B := [0, 0, 3, 0, 0, 24, 56, 127, 255, 511, 511, 1023, 4095]) (by kernel_rfl) (by kernel_rfl) (fun HT_ HW_ => ?_)
                 refine pd_ 0 65 1 HT_ ?_
                 refine pd_ 1 66 3 HT_ ?_
                 refine pd_ 2 67 7 HT_ ?_
                 refine pd_ 3 68 15 HT_ ?_
                 refine pd_ 4 69 31 HT_ ?_
                 refine pd_ 5 70 63 HT_ ?_
                 refine tk_ 6 71 127 HT_ HW_ hHeld ?_
                 refine on_ 7 (some 72) 255 HT_ (fun K hK => ?_)
                 refine ca_ Try.func131 #[.slice (some ad664) (x8_1 : Int).toNat c1, .int .i64 (rd l1 x8_1)] ?_
                 (have hl_ : (x8_1 : Int).toNat = (l1.take (x8_1 : Int).toNat).length := by rw [List.length_take]; have := of_eq_true q664; omega); rw [show (Value.slice (some ad664) (x8_1 : Int).toNat c1) = Value.slice (some ad664) (l1.take (x8_1 : Int).toNat).length c1 from by rw [← hl_]]; clear hl_; refine (spec_l07Goes.calls k3 _ _ (l1.take (x8_1 : Int).toNat) (rd l1 x8_1) true t666 _ ?side1 ?side2 A26.out).mono ?_; (case side1 => exact pC ((Kd.C_below HR663.out HB.out))); (case side2 => exact HC663.out); rintro e w' ⟨rfl, ⟨nd, rfl⟩⟩
                 refine ⟨_, rfl, ?_⟩
                 refine hK.out _ _ hHeld (fun hHeld => ?_)
                 clear hK K
                 refine nm_ ?_
                 refine pd_ 8 64 511 HT_ ?_
                 refine pd_ 9 73 1023 HT_ ?_
                 refine pd_ 10 74 2047 HT_ ?_
                 refine pd_ 11 12 4095 HT_ ?_
                 refine pd_ 12 13 8191 HT_ ?_
                 refine dn_ HT_ ?_
                 go_wp2_with (first | ((with_reducible refine gate_builtin (b := .append) (xs := #[.tmp 82, .tmp 84]) rfl ?_); at_builtin; refine Kd.R_append (Kd.int .i64) (w0 := w) w.heap.size rfl (.tmp 82) (.tmp 84) 22 2 (.int .i64 0) 8 rfl Try.underlying22 info2 rfl (by decide) (by omega) u7 x7_1 t666 [.int .i64 t666] (fun k_ => some k_ ≠ (.slice Ao10 t653.length co10 : Value).ownBlock) (fun _ => False) rfl rfl ?aP (fun _ hk => hk.elim) ?aF ?aO ?aB ?aS ?aL ?_; (case aP => exact rfl); (case aB => exact (pH HB)); (case aF => exact (fun k_ hk => Kd.fresh' (Kd.R_lt (pR HO_6)) k_ hk)); (case aO => exact (pR HO_7)); (case aS => exact (below_size (pH HB))); (case aL => have := LMc29.out; omega); intro v668 w31 ho hb hg hat; rw [← Ny667.out] at ho; have n0_ := Aside0.mk (Kd.R_after (ok := (fun _ => True)) (by (with_reducible repeat (first | apply Kd.R_alloc | apply Kd.R_drewN | apply Kd.R_drew)); exact Kd.R_mono HO_6.out (fun _ hk => ⟨trivial, hk⟩)) hg hat); have n1_ := Aside0.mk (blk_grown (g := gb652) (o := .cells #[.int .i64 a0_0, .slice A0_1 l0_1.length c0_1] 28 (0, 0)) (pB BK652) hg (Kd.R_ne HO_7.out BK652.out (by decide))); have n2_ := Aside0.mk (hb); have n3_ := Aside0.mk (ho); clear HO_6; clear BK652; clear HB; clear HO_7; have HO_6 := n0_; have BK652 := n1_; have HB := n2_; have HO669 := n3_; clear n0_ n1_ n2_ n3_; clear ho hb hg hat))
                 go_roundg k3
                 case measure => have := HK1.out; have := HK2.out; have := HK3.out; omega
                 case rel => exact ⟨(y667), (wrap64 (x8_1 + 1)), (by first | rfl | (simp; done) | (simp [*]; done)), H', ⟨by have := HK1.out; have := HK2.out; have := HK3.out; omega⟩, ⟨by (with_reducible repeat (first | apply Kd.R_alloc | apply Kd.R_drewN | apply Kd.R_drew)); exact Kd.R_mono HO_6.out (fun _ hk => hk.2)⟩, ⟨by (with_reducible repeat (first | apply Kd.R_alloc | apply Kd.R_drewN | apply Kd.R_drew)); exact HO669.out⟩, ⟨pB BK652⟩, ⟨pH HB⟩⟩
                ·rw [if_neg c29] at H
                 exact absurd H (by simp)
               ·replace c28 := Bool.eq_false_iff.mpr c28
                subst c28
                have H1 : (some (false, x7_1)) = some (r1, r2) := by rw [if_neg (show ¬ (false = true) by decide)] at H; exact H
                clear H
                have H := H1
                clear H1
                simp only [Option.some.injEq, Prod.mk.injEq] at H
                obtain ⟨rfl, rfl⟩ := H
                obtain ⟨i032, hi032, _, hsz32, _⟩ := info_parts info2
                obtain ⟨hcut32, hA32, hC32⟩ := print_take_of (P := Try.prog) (Value.int .i64) 0 22 2 .i64 Try.underlying22 hi032 hsz32 A1 c1 l1 x8_1 (of_decide_eq_true (by first | (with_reducible assumption) | assumption)) (of_decide_eq_true (by first | (with_reducible assumption) | assumption)) HC1.out
                have HR663 := Aside0.mk (Kd.C_of_reads (h1 := fun _ => rfl) (hA32 _ (Kd.reads_of_C HR1.out)))
                have HC663 := Aside0.mk hC32
                clear hA32 hC32 hi032 hsz32
                have p664 : 0 ≤ (x8_1 : Int) := of_decide_eq_true (by first | (with_reducible assumption) | assumption)
                have q664 : x8_1 < (l1.length : Int) := of_decide_eq_true (by first | (with_reducible assumption) | assumption)
                obtain ⟨ad664, e664, hx664_0⟩ := Kd.at_int HR1.out x8_1 p664 q664
                cases e664
                replace hx664_0 := cH HB hx664_0
                replace p664 := eq_true p664
                replace q664 := eq_true q664
                (try go_upto_region 16 with fail)
                refine st_ 13 (S := fun w' => w'.cell? (ad664.add (x8_1).toNat) = some (.int .i64 (rd l1 x8_1))) (ds := []) hx664_0 (fun hHeld => ?_)
                refine with_tabW (T := (true, [([], []), ([], []), ([0, 1], [0, 1]), ([], []), ([], []), ([3, 4], [3, 4]), ([5], [5]), ([2, 6], [2, 6]), ([7], [7]), ([8], [8]), ([8], [8]), ([9, 7, 0, 1, 2, 3, 4, 5, 6, 7, 8, 9], [9]), ([10, 11, 0, 1, 2, 3, 4, 5, 6, 7, 8, 9, 10, 11], [10])])) (B := [0, 0, 3, 0, 0, 24, 56, 127, 255, 511, 511, 1023, 4095]) (by kernel_rfl) (by kernel_rfl) (fun HT_ HW_ => ?_)
                refine pd_ 0 65 1 HT_ ?_
                refine pd_ 1 66 3 HT_ ?_
                refine pd_ 2 67 7 HT_ ?_
                refine pd_ 3 68 15 HT_ ?_
                refine pd_ 4 69 31 HT_ ?_
                refine pd_ 5 70 63 HT_ ?_
                refine tk_ 6 71 127 HT_ HW_ hHeld ?_
                refine on_ 7 (some 72) 255 HT_ (fun K hK => ?_)
                refine ca_ Try.func131 #[.slice (some ad664) (x8_1 : Int).toNat c1, .int .i64 (rd l1 x8_1)] ?_
                (have hl_ : (x8_1 : Int).toNat = (l1.take (x8_1 : Int).toNat).length := by rw [List.length_take]; have := of_eq_true q664; omega); rw [show (Value.slice (some ad664) (x8_1 : Int).toNat c1) = Value.slice (some ad664) (l1.take (x8_1 : Int).toNat).length c1 from by rw [← hl_]]; clear hl_; refine (spec_l07Goes.calls k3 _ _ (l1.take (x8_1 : Int).toNat) (rd l1 x8_1) false t666 _ ?side1 ?side2 A26.out).mono ?_; (case side1 => exact pC ((Kd.C_below HR663.out HB.out))); (case side2 => exact HC663.out); rintro e w' ⟨rfl, ⟨nd, rfl⟩⟩
                refine ⟨_, rfl, ?_⟩
                refine hK.out _ _ hHeld (fun hHeld => ?_)
                clear hK K
                refine nm_ ?_
                refine pd_ 8 64 511 HT_ ?_
                refine pd_ 9 73 1023 HT_ ?_
                refine pd_ 10 74 2047 HT_ ?_
                refine pd_ 11 12 4095 HT_ ?_
                refine pd_ 12 13 8191 HT_ ?_
                refine dn_ HT_ ?_
                go_wp2
                go_ret2
                exact ⟨_, by first | rfl | (simp [errW_none, errW_some] <;> rfl) | (simp [*, errW_none, errW_some] <;> rfl) | (exfalso; simp_all), by (with_reducible repeat (first | apply Kd.R_alloc | apply Kd.R_drewN | apply Kd.R_drew)); exact Kd.R_mono HO_7.out (fun _ hk => trivial), pH HB⟩
              ·replace c27 := Bool.eq_false_iff.mpr c27
               subst c27
               have H1 : (some (false, x7_1)) = some (r1, r2) := by rw [if_neg (show ¬ (false = true) by decide)] at H; exact H
               clear H
               have H := H1
               clear H1
               simp only [Option.some.injEq, Prod.mk.injEq] at H
               obtain ⟨rfl, rfl⟩ := H
               obtain ⟨i033, hi033, _, hsz33, _⟩ := info_parts info2
               obtain ⟨hcut33, hA33, hC33⟩ := print_take_of (P := Try.prog) (Value.int .i64) 0 22 2 .i64 Try.underlying22 hi033 hsz33 A1 c1 l1 x8_1 (of_decide_eq_true (by first | (with_reducible assumption) | assumption)) (of_decide_eq_true (by first | (with_reducible assumption) | assumption)) HC1.out
               have HR663 := Aside0.mk (Kd.C_of_reads (h1 := fun _ => rfl) (hA33 _ (Kd.reads_of_C HR1.out)))
               have HC663 := Aside0.mk hC33
               clear hA33 hC33 hi033 hsz33
               have p664 : 0 ≤ (x8_1 : Int) := of_decide_eq_true (by first | (with_reducible assumption) | assumption)
               have q664 : x8_1 < (l1.length : Int) := of_decide_eq_true (by first | (with_reducible assumption) | assumption)
               obtain ⟨ad664, e664, hx664_0⟩ := Kd.at_int HR1.out x8_1 p664 q664
               cases e664
               replace hx664_0 := cH HB hx664_0
               replace p664 := eq_true p664
               replace q664 := eq_true q664
               (try go_upto_region 16 with fail)
               refine st_ 13 (S := fun w' => w'.cell? (ad664.add (x8_1).toNat) = some (.int .i64 (rd l1 x8_1))) (ds := []) hx664_0 (fun hHeld => ?_)
               refine with_tabW (T := (true, [([], []), ([], []), ([0, 1], [0, 1]), ([], []), ([], []), ([3, 4], [3, 4]), ([5], [5]), ([2, 6], [2, 6]), ([7], [7]), ([8], [8]), ([8], [8]), ([9, 7, 0, 1, 2, 3, 4, 5, 6, 7, 8, 9], [9]), ([10, 11, 0, 1, 2, 3, 4, 5, 6, 7, 8, 9, 10, 11], [10])])) (B := [0, 0, 3, 0, 0, 24, 56, 127, 255, 511, 511, 1023, 4095]) (by kernel_rfl) (by kernel_rfl) (fun HT_ HW_ => ?_)
               refine pd_ 0 65 1 HT_ ?_
               refine pd_ 1 66 3 HT_ ?_
               refine pd_ 2 67 7 HT_ ?_
               refine pd_ 3 68 15 HT_ ?_
               refine pd_ 4 69 31 HT_ ?_
               refine pd_ 5 70 63 HT_ ?_
               refine tk_ 6 71 127 HT_ HW_ hHeld ?_
               refine on_ 7 (some 72) 255 HT_ (fun K hK => ?_)
               refine ca_ Try.func131 #[.slice (some ad664) (x8_1 : Int).toNat c1, .int .i64 (rd l1 x8_1)] ?_
               (have hl_ : (x8_1 : Int).toNat = (l1.take (x8_1 : Int).toNat).length := by rw [List.length_take]; have := of_eq_true q664; omega); rw [show (Value.slice (some ad664) (x8_1 : Int).toNat c1) = Value.slice (some ad664) (l1.take (x8_1 : Int).toNat).length c1 from by rw [← hl_]]; clear hl_; refine (spec_l07Goes.calls k3 _ _ (l1.take (x8_1 : Int).toNat) (rd l1 x8_1) t665 t666 _ ?side1 ?side2 A26.out).mono ?_; (case side1 => exact pC ((Kd.C_below HR663.out HB.out))); (case side2 => exact HC663.out); rintro e w' ⟨rfl, ⟨nd, rfl⟩⟩
               refine ⟨_, rfl, ?_⟩
               refine hK.out _ _ hHeld (fun hHeld => ?_)
               clear hK K
               refine nm_ ?_
               refine pd_ 8 64 511 HT_ ?_
               refine pd_ 9 73 1023 HT_ ?_
               refine pd_ 10 74 2047 HT_ ?_
               refine pd_ 11 12 4095 HT_ ?_
               refine pd_ 12 13 8191 HT_ ?_
               refine dn_ HT_ ?_
               go_wp2
               go_ret2
               exact ⟨_, by first | rfl | (simp [errW_none, errW_some] <;> rfl) | (simp [*, errW_none, errW_some] <;> rfl) | (exfalso; simp_all), by (with_reducible repeat (first | apply Kd.R_alloc | apply Kd.R_drewN | apply Kd.R_drew)); exact Kd.R_mono HO_7.out (fun _ hk => trivial), pH HB⟩
             ·rw [if_neg c25] at H
              exact absurd H (by simp)
            ·rw [if_neg c24] at H
             exact absurd H (by simp)
           ·rw [if_neg c23] at H
            exact absurd H (by simp)
    ·rw [if_neg c11] at H
     have c11b0 : decide (x8_1 < (l1.length : Int)) = false := decide_eq_false c11
     clear c11
     simp only [Option.some.injEq, Prod.mk.injEq] at H
     obtain ⟨rfl, rfl⟩ := H
     go_wp2
     repeat (go_quiet (fail); try go_wp2)
     go_ret2
     exact ⟨_, by first | rfl | (simp [errW_none, errW_some] <;> rfl) | (simp [*, errW_none, errW_some] <;> rfl) | (exfalso; simp_all), by (with_reducible repeat (first | apply Kd.R_alloc | apply Kd.R_drewN | apply Kd.R_drew)); exact Kd.R_mono HO_7.out (fun _ hk => trivial), pH HB⟩
 ·rw [if_neg c4] at H
  have c4b0 : ((l1.length : Int) == (t653.length : Int)) = false := beq_eq_false_iff_ne.mpr c4
  have c4b1 : ((l1.length : Int) != (t653.length : Int)) = true := bne_iff_ne.mpr c4
  have c4b2 : (l1.length == t653.length) = false := by first | simpa using c4 | (simp at c4 ⊢; omega)
  simp only [Option.some.injEq, Prod.mk.injEq] at H
  obtain ⟨rfl, rfl⟩ := H
  go_enter Try.func87, Try.ntmps87
  go_wp2_with (first | ((with_reducible refine gate_dst (N := 2) rfl ?_); refine box_event ?hg (N := 2) ?hd (cs := #[.int .i64 a0_0, .slice A0_1 l0_1.length c0_1]) (t := 28) ?hr ?_; (case hd => rfl); (case hg => rfl); (case hr => first | (go_simp; done) | (go_simp; rfl)); intro gb652 hg w34 hbox hb; have BK652 := Aside0.mk (hbox); have GW652 := gH HB hg; have GE652 := gH HB hg; replace HB := sH HB hb; clear hb hbox hg; have hcz35_0 : w34.cell? ⟨gb652, 0, none⟩ = some (.int .i64 a0_0) := cB BK652 0; have hcz35_1 : w34.cell? ⟨gb652, 1, none⟩ = some (.slice A0_1 l0_1.length c0_1) := cB BK652 1; have hfz35_0 := zB BK652 0; have hfz35_1 := zB BK652 1) | (go_at_call 81; (with_reducible refine (spec_l01Facets.calls k a0_0 _ _ l0_1 t653 _ ?side1 ?side2 A3.out).mono ?_); (case side1 => exact pC ((Kd.C_below HR0_1.out HB.out))); (case side2 => exact HC0_1.out); rintro e w36 ⟨v654, rfl, ho0, hb⟩; have HO655 := Aside0.mk (Kd.R_lower ho0 (below_size (pH HB))); replace BK652 := sB BK652 hb; replace HB := sH HB hb; (try clear hb); (try clear hi); (try clear ho0)) | ((with_reducible refine gate_dst (N := 16) rfl ?_); refine Kd.R_lit (Kd.int .i64) _ 2 ?hg (N := 16) ?hd (xs := ([] : List Int)) (inner := []) (ok := fun _ => True) (okp := fun _ => True) ?hr ?hp (fun _ hk => hk) trivial (Below.refl _ _) (Nat.le_refl _) (by simp) ?_; (case hd => rfl); (case hg => rfl); (case hr => first | (go_simp; done) | (go_simp; rfl)); (case hp => exact (Reps.none _ _)); intro v657 w37 ho38 hb hg_ hnew_; clear hg_ hnew_; (first | rw [← Ny656.out] at ho38 | (simp only [Int.reduceToNat] at ho38; rw [← Ny656.out] at ho38)); have HO658 := Aside0.mk (Kd.R_lower (Kd.R_new' ho38 (Kd.R_lt (pR HO655))) (below_size (pH HB))); replace HO655 := Aside0.mk (Kd.R_elder' (pR HO655) (Kd.R_base ho38) hb); replace BK652 := sB BK652 hb; replace HB := sH HB hb; clear hb ho38; obtain ⟨Ao39, co39, eo39⟩ := Kd.R_slice HO655.out; subst eo39))
  repeat (go_quiet (first | ((with_reducible refine gate_dst (N := 2) rfl ?_); refine box_event ?hg (N := 2) ?hd (cs := #[.int .i64 a0_0, .slice A0_1 l0_1.length c0_1]) (t := 28) ?hr ?_; (case hd => rfl); (case hg => rfl); (case hr => first | (go_simp; done) | (go_simp; rfl)); intro gb652 hg w34 hbox hb; have BK652 := Aside0.mk (hbox); have GW652 := gH HB hg; have GE652 := gH HB hg; replace HB := sH HB hb; clear hb hbox hg; have hcz35_0 : w34.cell? ⟨gb652, 0, none⟩ = some (.int .i64 a0_0) := cB BK652 0; have hcz35_1 : w34.cell? ⟨gb652, 1, none⟩ = some (.slice A0_1 l0_1.length c0_1) := cB BK652 1; have hfz35_0 := zB BK652 0; have hfz35_1 := zB BK652 1) | (go_at_call 81; (with_reducible refine (spec_l01Facets.calls k a0_0 _ _ l0_1 t653 _ ?side1 ?side2 A3.out).mono ?_); (case side1 => exact pC ((Kd.C_below HR0_1.out HB.out))); (case side2 => exact HC0_1.out); rintro e w36 ⟨v654, rfl, ho0, hb⟩; have HO655 := Aside0.mk (Kd.R_lower ho0 (below_size (pH HB))); replace BK652 := sB BK652 hb; replace HB := sH HB hb; (try clear hb); (try clear hi); (try clear ho0)) | ((with_reducible refine gate_dst (N := 16) rfl ?_); refine Kd.R_lit (Kd.int .i64) _ 2 ?hg (N := 16) ?hd (xs := ([] : List Int)) (inner := []) (ok := fun _ => True) (okp := fun _ => True) ?hr ?hp (fun _ hk => hk) trivial (Below.refl _ _) (Nat.le_refl _) (by simp) ?_; (case hd => rfl); (case hg => rfl); (case hr => first | (go_simp; done) | (go_simp; rfl)); (case hp => exact (Reps.none _ _)); intro v657 w37 ho38 hb hg_ hnew_; clear hg_ hnew_; (first | rw [← Ny656.out] at ho38 | (simp only [Int.reduceToNat] at ho38; rw [← Ny656.out] at ho38)); have HO658 := Aside0.mk (Kd.R_lower (Kd.R_new' ho38 (Kd.R_lt (pR HO655))) (below_size (pH HB))); replace HO655 := Aside0.mk (Kd.R_elder' (pR HO655) (Kd.R_base ho38) hb); replace BK652 := sB BK652 hb; replace HB := sH HB hb; clear hb ho38; obtain ⟨Ao39, co39, eo39⟩ := Kd.R_slice HO655.out; subst eo39)); try go_wp2_with (first | ((with_reducible refine gate_dst (N := 2) rfl ?_); refine box_event ?hg (N := 2) ?hd (cs := #[.int .i64 a0_0, .slice A0_1 l0_1.length c0_1]) (t := 28) ?hr ?_; (case hd => rfl); (case hg => rfl); (case hr => first | (go_simp; done) | (go_simp; rfl)); intro gb652 hg w34 hbox hb; have BK652 := Aside0.mk (hbox); have GW652 := gH HB hg; have GE652 := gH HB hg; replace HB := sH HB hb; clear hb hbox hg; have hcz35_0 : w34.cell? ⟨gb652, 0, none⟩ = some (.int .i64 a0_0) := cB BK652 0; have hcz35_1 : w34.cell? ⟨gb652, 1, none⟩ = some (.slice A0_1 l0_1.length c0_1) := cB BK652 1; have hfz35_0 := zB BK652 0; have hfz35_1 := zB BK652 1) | (go_at_call 81; (with_reducible refine (spec_l01Facets.calls k a0_0 _ _ l0_1 t653 _ ?side1 ?side2 A3.out).mono ?_); (case side1 => exact pC ((Kd.C_below HR0_1.out HB.out))); (case side2 => exact HC0_1.out); rintro e w36 ⟨v654, rfl, ho0, hb⟩; have HO655 := Aside0.mk (Kd.R_lower ho0 (below_size (pH HB))); replace BK652 := sB BK652 hb; replace HB := sH HB hb; (try clear hb); (try clear hi); (try clear ho0)) | ((with_reducible refine gate_dst (N := 16) rfl ?_); refine Kd.R_lit (Kd.int .i64) _ 2 ?hg (N := 16) ?hd (xs := ([] : List Int)) (inner := []) (ok := fun _ => True) (okp := fun _ => True) ?hr ?hp (fun _ hk => hk) trivial (Below.refl _ _) (Nat.le_refl _) (by simp) ?_; (case hd => rfl); (case hg => rfl); (case hr => first | (go_simp; done) | (go_simp; rfl)); (case hp => exact (Reps.none _ _)); intro v657 w37 ho38 hb hg_ hnew_; clear hg_ hnew_; (first | rw [← Ny656.out] at ho38 | (simp only [Int.reduceToNat] at ho38; rw [← Ny656.out] at ho38)); have HO658 := Aside0.mk (Kd.R_lower (Kd.R_new' ho38 (Kd.R_lt (pR HO655))) (below_size (pH HB))); replace HO655 := Aside0.mk (Kd.R_elder' (pR HO655) (Kd.R_base ho38) hb); replace BK652 := sB BK652 hb; replace HB := sH HB hb; clear hb ho38; obtain ⟨Ao39, co39, eo39⟩ := Kd.R_slice HO655.out; subst eo39)))
  go_ret2
  exact ⟨_, by first | rfl | (simp [errW_none, errW_some] <;> rfl) | (simp [*, errW_none, errW_some] <;> rfl) | (exfalso; simp_all), by (with_reducible repeat (first | apply Kd.R_alloc | apply Kd.R_drewN | apply Kd.R_drew)); exact Kd.R_mono HO658.out (fun _ hk => trivial), pH HB⟩
end Go.Proofs.Ytomdfjohnmikdaa.QS
namespace Go.Proofs.Ytomdfjohnmikdaa.QS
open Go.Proofs.Ytomdfjohnmikdaa.Cw Go.Proofs.Ytomdfjohnmikdaa.Kp Go.Proofs.Ytomdfjohnmikdaa.Ext Go.RowKit Go.Proofs.YtomdfjohnmikdaaW.PrintWords Go.Proofs.YtomdfjohnmikdaaW.PrintLast Go.Proofs.YtomdfjohnmikdaaW.PrintMore
attribute [local go_sem] max2_int min2_int max_two min_two max_three min_three max_four min_four   -- for this text's walks alone
set_option linter.unusedVariables false
set_option linter.unusedSimpArgs false
def spec_IsShelling.f (k : Nat) (a0_0 : Int) (l0_1 : List Int) (l1 : List Int) : Option (Bool × Int) := (spec_l01Is.f k a0_0 l0_1).bind fun t671 => (if t671 = true then ((spec_l07Pure.f k a0_0 l0_1).bind fun t672 => (if t672 = true then ((spec_l07Shelling.f k a0_0 l0_1 l1).bind fun bt673 => (some (bt673.1, 0))) else (some (false, 5)))) else (some (false, 1)))
set_option maxHeartbeats 8000000 in
set_option maxRecDepth 100000 in
theorem spec_IsShelling.calls (k : Nat) (a0_0 : Int) (A0_1 : Option Addr) (c0_1 : Nat) (l0_1 : List Int) (A1 : Option Addr) (c1 : Nat) (l1 : List Int) (r1 : Bool) (r2 : Int) (w : World) (hr0_1 : Kd.C (Kd.int .i64) w A0_1 l0_1.length l0_1) (hc0_1 : l0_1.length ≤ c0_1) (hr1 : Kd.C (Kd.int .i64) w A1 l1.length l1) (hc1 : l1.length ≤ c1) (h : spec_IsShelling.f k a0_0 l0_1 l1 = some (r1, r2)) :
  Calls Try.prog 36 #[.agg #[.int .i64 a0_0, .slice A0_1 l0_1.length c0_1], .slice A1 l1.length c1] w fun e w' => e = .returned (.tuple #[.bool r1, .int .i64 r2]) ∧ Below w.heap.size w w' := by
 have hu28 := Try.underlying28
 have HR0_1 := Aside0.mk hr0_1
 have HC0_1 := Aside0.mk hc0_1
 clear hr0_1 hc0_1
 have HR1 := Aside0.mk hr1
 have HC1 := Aside0.mk hc1
 clear hr1 hc1
 have HB := Aside0.mk (Below.refl w.heap.size w)
 have H : ((spec_l01Is.f k a0_0 l0_1).bind fun t671 => (if t671 = true then ((spec_l07Pure.f k a0_0 l0_1).bind fun t672 => (if t672 = true then ((spec_l07Shelling.f k a0_0 l0_1 l1).bind fun bt673 => (some (bt673.1, 0))) else (some (false, 5)))) else (some (false, 1)))) = some (r1, r2) := h
 clear h
 replace H := Option.bind_eq_some_iff.mp H
 obtain ⟨t671, A30, H⟩ := H
 try dsimp only at H
 have A3 := Aside0.mk A30
 clear A30
 by_cases c4 : t671 = true
 ·subst c4
  have H1 : ((spec_l07Pure.f k a0_0 l0_1).bind fun t672 => (if t672 = true then ((spec_l07Shelling.f k a0_0 l0_1 l1).bind fun bt673 => (some (bt673.1, 0))) else (some (false, 5)))) = some (r1, r2) := by rw [if_pos rfl] at H; exact H
  clear H
  have H := H1
  clear H1
  replace H := Option.bind_eq_some_iff.mp H
  obtain ⟨t672, A50, H⟩ := H
  try dsimp only at H
  have A5 := Aside0.mk A50
  clear A50
  by_cases c6 : t672 = true
  ·subst c6
   have H1 : ((spec_l07Shelling.f k a0_0 l0_1 l1).bind fun bt673 => (some (bt673.1, 0))) = some (r1, r2) := by rw [if_pos rfl] at H; exact H
   clear H
   have H := H1
   clear H1
   replace H := Option.bind_eq_some_iff.mp H
   obtain ⟨⟨t673, t674⟩, A70, H⟩ := H
   try dsimp only at H
   have A7 := Aside0.mk A70
   clear A70
   simp only [Option.some.injEq, Prod.mk.injEq] at H
   obtain ⟨rfl, rfl⟩ := H
   go_enter Try.func36, Try.ntmps36
   go_wp2_with (first | ((with_reducible refine gate_dst (N := 2) rfl ?_); refine box_event ?hg (N := 2) ?hd (cs := #[.int .i64 a0_0, .slice A0_1 l0_1.length c0_1]) (t := 28) ?hr ?_; (case hd => rfl); (case hg => rfl); (case hr => first | (go_simp; done) | (go_simp; rfl)); intro gb670 hg w8 hbox hb; have BK670 := Aside0.mk (hbox); have GW670 := gH HB hg; have GE670 := gH HB hg; replace HB := sH HB hb; clear hb hbox hg; have hcz9_0 : w8.cell? ⟨gb670, 0, none⟩ = some (.int .i64 a0_0) := cB BK670 0; have hcz9_1 : w8.cell? ⟨gb670, 1, none⟩ = some (.slice A0_1 l0_1.length c0_1) := cB BK670 1; have hfz9_0 := zB BK670 0; have hfz9_1 := zB BK670 1) | ((with_reducible refine gate_callee (f := 50) rfl ?_); refine cl_ (some 10) Try.func50 #[.agg #[.int .i64 a0_0, .slice A0_1 l0_1.length c0_1]] ?_; (with_reducible refine (spec_l01Is.calls k a0_0 _ _ l0_1 true _ ?side1 ?side2 A3.out).mono ?_); (case side1 => exact pC ((Kd.C_below HR0_1.out HB.out))); (case side2 => exact HC0_1.out); rintro e w10 ⟨rfl, hb⟩; refine ⟨_, rfl, ?_⟩; replace BK670 := sB BK670 hb; replace HB := sH HB hb; (try clear hb); (try clear hi); have hcz11_0 : w10.cell? ⟨gb670, 0, none⟩ = some (.int .i64 a0_0) := cB BK670 0; have hcz11_1 : w10.cell? ⟨gb670, 1, none⟩ = some (.slice A0_1 l0_1.length c0_1) := cB BK670 1; have hfz11_0 := zB BK670 0; have hfz11_1 := zB BK670 1) | ((with_reducible refine gate_callee (f := 80) rfl ?_); refine cl_ (some 14) Try.func80 #[.agg #[.int .i64 a0_0, .slice A0_1 l0_1.length c0_1]] ?_; (with_reducible refine (spec_l07Pure.calls k a0_0 _ _ l0_1 true _ ?side1 ?side2 A5.out).mono ?_); (case side1 => exact pC ((Kd.C_below HR0_1.out HB.out))); (case side2 => exact HC0_1.out); rintro e w12 ⟨rfl, hb⟩; refine ⟨_, rfl, ?_⟩; replace BK670 := sB BK670 hb; replace HB := sH HB hb; (try clear hb); (try clear hi); have hcz13_0 : w12.cell? ⟨gb670, 0, none⟩ = some (.int .i64 a0_0) := cB BK670 0; have hcz13_1 : w12.cell? ⟨gb670, 1, none⟩ = some (.slice A0_1 l0_1.length c0_1) := cB BK670 1; have hfz13_0 := zB BK670 0; have hfz13_1 := zB BK670 1) | ((with_reducible refine gate_callee (f := 87) rfl ?_); refine cl_ (some 19) Try.func87 #[.agg #[.int .i64 a0_0, .slice A0_1 l0_1.length c0_1], .slice A1 l1.length c1] ?_; (with_reducible refine (spec_l07Shelling.calls k a0_0 _ _ l0_1 _ _ l1 t673 t674 _ ?side1 ?side2 ?side3 ?side4 A7.out).mono ?_); (case side1 => exact pC ((Kd.C_below HR0_1.out HB.out))); (case side2 => exact HC0_1.out); (case side3 => exact pC ((Kd.C_below HR1.out HB.out))); (case side4 => exact HC1.out); rintro e w14 ⟨v675, rfl, ho0, hb⟩; refine ⟨_, rfl, ?_⟩; have HO676 := Aside0.mk (Kd.R_lower ho0 (below_size (pH HB))); replace BK670 := sB BK670 hb; replace HB := sH HB hb; (try clear hb); (try clear hi); (try clear ho0)))
   go_ret2
   exact ⟨by first | rfl | (simp [errW_none, errW_some] <;> rfl) | (simp [*, errW_none, errW_some] <;> rfl) | (exfalso; simp_all), pH HB⟩
  ·replace c6 := Bool.eq_false_iff.mpr c6
   subst c6
   have H1 : (some (false, 5)) = some (r1, r2) := by rw [if_neg (show ¬ (false = true) by decide)] at H; exact H
   clear H
   have H := H1
   clear H1
   simp only [Option.some.injEq, Prod.mk.injEq] at H
   obtain ⟨rfl, rfl⟩ := H
   go_enter Try.func36, Try.ntmps36
   go_wp2_with (first | ((with_reducible refine gate_dst (N := 2) rfl ?_); refine box_event ?hg (N := 2) ?hd (cs := #[.int .i64 a0_0, .slice A0_1 l0_1.length c0_1]) (t := 28) ?hr ?_; (case hd => rfl); (case hg => rfl); (case hr => first | (go_simp; done) | (go_simp; rfl)); intro gb670 hg w15 hbox hb; have BK670 := Aside0.mk (hbox); have GW670 := gH HB hg; have GE670 := gH HB hg; replace HB := sH HB hb; clear hb hbox hg; have hcz16_0 : w15.cell? ⟨gb670, 0, none⟩ = some (.int .i64 a0_0) := cB BK670 0; have hcz16_1 : w15.cell? ⟨gb670, 1, none⟩ = some (.slice A0_1 l0_1.length c0_1) := cB BK670 1; have hfz16_0 := zB BK670 0; have hfz16_1 := zB BK670 1) | ((with_reducible refine gate_callee (f := 50) rfl ?_); refine cl_ (some 10) Try.func50 #[.agg #[.int .i64 a0_0, .slice A0_1 l0_1.length c0_1]] ?_; (with_reducible refine (spec_l01Is.calls k a0_0 _ _ l0_1 true _ ?side1 ?side2 A3.out).mono ?_); (case side1 => exact pC ((Kd.C_below HR0_1.out HB.out))); (case side2 => exact HC0_1.out); rintro e w17 ⟨rfl, hb⟩; refine ⟨_, rfl, ?_⟩; replace BK670 := sB BK670 hb; replace HB := sH HB hb; (try clear hb); (try clear hi); have hcz18_0 : w17.cell? ⟨gb670, 0, none⟩ = some (.int .i64 a0_0) := cB BK670 0; have hcz18_1 : w17.cell? ⟨gb670, 1, none⟩ = some (.slice A0_1 l0_1.length c0_1) := cB BK670 1; have hfz18_0 := zB BK670 0; have hfz18_1 := zB BK670 1) | ((with_reducible refine gate_callee (f := 80) rfl ?_); refine cl_ (some 14) Try.func80 #[.agg #[.int .i64 a0_0, .slice A0_1 l0_1.length c0_1]] ?_; (with_reducible refine (spec_l07Pure.calls k a0_0 _ _ l0_1 false _ ?side1 ?side2 A5.out).mono ?_); (case side1 => exact pC ((Kd.C_below HR0_1.out HB.out))); (case side2 => exact HC0_1.out); rintro e w19 ⟨rfl, hb⟩; refine ⟨_, rfl, ?_⟩; replace BK670 := sB BK670 hb; replace HB := sH HB hb; (try clear hb); (try clear hi)))
   go_ret2
   exact ⟨by first | rfl | (simp [errW_none, errW_some] <;> rfl) | (simp [*, errW_none, errW_some] <;> rfl) | (exfalso; simp_all), pH HB⟩
 ·replace c4 := Bool.eq_false_iff.mpr c4
  subst c4
  have H1 : (some (false, 1)) = some (r1, r2) := by rw [if_neg (show ¬ (false = true) by decide)] at H; exact H
  clear H
  have H := H1
  clear H1
  simp only [Option.some.injEq, Prod.mk.injEq] at H
  obtain ⟨rfl, rfl⟩ := H
  go_enter Try.func36, Try.ntmps36
  go_wp2_with (first | ((with_reducible refine gate_dst (N := 2) rfl ?_); refine box_event ?hg (N := 2) ?hd (cs := #[.int .i64 a0_0, .slice A0_1 l0_1.length c0_1]) (t := 28) ?hr ?_; (case hd => rfl); (case hg => rfl); (case hr => first | (go_simp; done) | (go_simp; rfl)); intro gb670 hg w20 hbox hb; have BK670 := Aside0.mk (hbox); have GW670 := gH HB hg; have GE670 := gH HB hg; replace HB := sH HB hb; clear hb hbox hg; have hcz21_0 : w20.cell? ⟨gb670, 0, none⟩ = some (.int .i64 a0_0) := cB BK670 0; have hcz21_1 : w20.cell? ⟨gb670, 1, none⟩ = some (.slice A0_1 l0_1.length c0_1) := cB BK670 1; have hfz21_0 := zB BK670 0; have hfz21_1 := zB BK670 1) | ((with_reducible refine gate_callee (f := 50) rfl ?_); refine cl_ (some 10) Try.func50 #[.agg #[.int .i64 a0_0, .slice A0_1 l0_1.length c0_1]] ?_; (with_reducible refine (spec_l01Is.calls k a0_0 _ _ l0_1 false _ ?side1 ?side2 A3.out).mono ?_); (case side1 => exact pC ((Kd.C_below HR0_1.out HB.out))); (case side2 => exact HC0_1.out); rintro e w22 ⟨rfl, hb⟩; refine ⟨_, rfl, ?_⟩; replace BK670 := sB BK670 hb; replace HB := sH HB hb; (try clear hb); (try clear hi)))
  go_ret2
  exact ⟨by first | rfl | (simp [errW_none, errW_some] <;> rfl) | (simp [*, errW_none, errW_some] <;> rfl) | (exfalso; simp_all), pH HB⟩
end Go.Proofs.Ytomdfjohnmikdaa.QS
namespace Go.Proofs.Ytomdfjohnmikdaa.QFnExactIsShelling
open Go.Proofs.Ytomdfjohnmikdaa.Cw Go.Proofs.Ytomdfjohnmikdaa.Kp Go.Proofs.Ytomdfjohnmikdaa.Ext Go.Proofs.Ytomdfjohnmikdaa.QS Go.RowKit Go.Proofs.YtomdfjohnmikdaaW.PrintWords Go.Proofs.YtomdfjohnmikdaaW.PrintLast Go.Proofs.YtomdfjohnmikdaaW.PrintMore
attribute [local go_sem] max2_int min2_int max_two min_two max_three min_three max_four min_four   -- for this text's walks alone
set_option linter.unusedVariables false
set_option linter.unusedSimpArgs false
theorem info2 : (Try.prog.info? 2).map (fun i => (i.zero, i.size, i.bytes)) = some (some (.int .i64 0), 1, 8) := by kernel_rfl
end Go.Proofs.Ytomdfjohnmikdaa.QFnExactIsShelling
namespace Go.Proofs.Ytomdfjohnmikdaa.QFnExactIsShelling
open Go.Proofs.Ytomdfjohnmikdaa.Cw Go.Proofs.Ytomdfjohnmikdaa.Kp Go.Proofs.Ytomdfjohnmikdaa.Ext Go.Proofs.Ytomdfjohnmikdaa.QS Go.RowKit Go.Proofs.YtomdfjohnmikdaaW.PrintWords Go.Proofs.YtomdfjohnmikdaaW.PrintLast Go.Proofs.YtomdfjohnmikdaaW.PrintMore
attribute [local go_sem] max2_int min2_int max_two min_two max_three min_three max_four min_four   -- for this text's walks alone
set_option linter.unusedVariables false
set_option linter.unusedSimpArgs false
noncomputable def laws_FnExactIsShelling.f (k : Nat) (a0_0 : Int) (l0_1 : List Int) (l1 : List Int) : Option (Bool) := if (l1.length : Int) > 1048576 then (some true) else ((laws_szComplex.f a0_0 l0_1 1048576).bind fun t200 => (if t200 < 0 then (some true) else ((laws_toComplex.f k a0_0 l0_1).bind fun bt201 => ((laws_toInt64S.f k l1).bind fun t205 => ((spec_IsShelling.f k bt201.1 bt201.2 t205).bind fun bt208 => ((laws_toComplex.f k a0_0 l0_1).bind fun bt210 => ((laws_toInt64S.f k l1).bind fun t215 => ((impl_IsShelling.f bt210.1 bt210.2 t215).bind fun bt218 => (if (bt218.1 != bt208.1) = true then (none) else (if bt218.2 = bt208.2 then ((laws_toComplex.f k a0_0 l0_1).bind fun bt220 => ((laws_eqComplex.f k bt210.1 bt210.2 bt220.1 bt220.2).bind fun t224 => (if t224 = true then ((laws_toInt64S.f k l1).bind fun t225 => ((laws_eqInt64S.f k t215 t225).bind fun t228 => (if t228 = true then (some true) else (none)))) else (none)))) else (none)))))))))))
set_option maxHeartbeats 8000000 in
set_option maxRecDepth 100000 in
theorem laws_FnExactIsShelling.calls (k : Nat) (a0_0 : Int) (A0_1 : Option Addr) (c0_1 : Nat) (l0_1 : List Int) (A1 : Option Addr) (c1 : Nat) (l1 : List Int) (r : Bool) (w : World) (hr0_1 : Kd.C (Kd.int .i64) w A0_1 l0_1.length l0_1) (hc0_1 : l0_1.length ≤ c0_1) (hr1 : Kd.C (Kd.int .i64) w A1 l1.length l1) (hc1 : l1.length ≤ c1) (h : laws_FnExactIsShelling.f k a0_0 l0_1 l1 = some r) :
  Calls Try.prog 8 #[.agg #[.int .i64 a0_0, .slice A0_1 l0_1.length c0_1], .slice A1 l1.length c1] w fun e w' => e = .returned (.bool r) ∧ Below w.heap.size w w' := by
 have hu24 := Try.underlying24
 have hu28 := Try.underlying28
 have HR0_1 := Aside0.mk hr0_1
 have HC0_1 := Aside0.mk hc0_1
 clear hr0_1 hc0_1
 have HR1 := Aside0.mk hr1
 have HC1 := Aside0.mk hc1
 clear hr1 hc1
 have HB := Aside0.mk (Below.refl w.heap.size w)
 have H : (if (l1.length : Int) > 1048576 then (some true) else ((laws_szComplex.f a0_0 l0_1 1048576).bind fun t200 => (if t200 < 0 then (some true) else ((laws_toComplex.f k a0_0 l0_1).bind fun bt201 => ((laws_toInt64S.f k l1).bind fun t205 => ((spec_IsShelling.f k bt201.1 bt201.2 t205).bind fun bt208 => ((laws_toComplex.f k a0_0 l0_1).bind fun bt210 => ((laws_toInt64S.f k l1).bind fun t215 => ((impl_IsShelling.f bt210.1 bt210.2 t215).bind fun bt218 => (if (bt218.1 != bt208.1) = true then (none) else (if bt218.2 = bt208.2 then ((laws_toComplex.f k a0_0 l0_1).bind fun bt220 => ((laws_eqComplex.f k bt210.1 bt210.2 bt220.1 bt220.2).bind fun t224 => (if t224 = true then ((laws_toInt64S.f k l1).bind fun t225 => ((laws_eqInt64S.f k t215 t225).bind fun t228 => (if t228 = true then (some true) else (none)))) else (none)))) else (none)))))))))))) = some r := h
 clear h
 by_cases c3 : (l1.length : Int) > 1048576
 ·rw [if_pos c3] at H
  have c3b0 : decide (1048576 < (l1.length : Int)) = true := decide_eq_true c3
  have c3b1 : decide (1048576 < l1.length) = true := decide_eq_true (by omega)
  clear c3
  obtain rfl := Option.some.inj H
  go_enter Try.func8, Try.ntmps8
  go_wp2_with (first | ((with_reducible refine gate_dst (N := 2) rfl ?_); refine box_event ?hg (N := 2) ?hd (cs := #[.int .i64 a0_0, .slice A0_1 l0_1.length c0_1]) (t := 24) ?hr ?_; (case hd => rfl); (case hg => rfl); (case hr => first | (go_simp; done) | (go_simp; rfl)); intro gb199 hg w4 hbox hb; have BK199 := Aside0.mk (hbox); have GW199 := gH HB hg; have GE199 := gH HB hg; replace HB := sH HB hb; clear hb hbox hg))
  go_ret
  exact ⟨by first | rfl | (simp [errW_none, errW_some] <;> rfl) | (simp [*, errW_none, errW_some] <;> rfl) | (exfalso; simp_all), pH HB⟩
 ·rw [if_neg c3] at H
  have c3b0 : decide (1048576 < (l1.length : Int)) = false := decide_eq_false c3
  have c3b1 : decide (1048576 < l1.length) = false := decide_eq_false (by omega)
  clear c3
  replace H := Option.bind_eq_some_iff.mp H
  obtain ⟨t200, A50, H⟩ := H
  try dsimp only at H
  have A5 := Aside0.mk A50
  clear A50
  by_cases c6 : t200 < 0
  ·rw [if_pos c6] at H
   have c6b0 : decide (t200 < 0) = true := decide_eq_true c6
   clear c6
   obtain rfl := Option.some.inj H
   go_enter Try.func8, Try.ntmps8
   go_wp2_with (first | ((with_reducible refine gate_dst (N := 2) rfl ?_); refine box_event ?hg (N := 2) ?hd (cs := #[.int .i64 a0_0, .slice A0_1 l0_1.length c0_1]) (t := 24) ?hr ?_; (case hd => rfl); (case hg => rfl); (case hr => first | (go_simp; done) | (go_simp; rfl)); intro gb199 hg w7 hbox hb; have BK199 := Aside0.mk (hbox); have GW199 := gH HB hg; have GE199 := gH HB hg; replace HB := sH HB hb; clear hb hbox hg; have hcz8_0 : w7.cell? ⟨gb199, 0, none⟩ = some (.int .i64 a0_0) := cB BK199 0; have hcz8_1 : w7.cell? ⟨gb199, 1, none⟩ = some (.slice A0_1 l0_1.length c0_1) := cB BK199 1; have hfz8_0 := zB BK199 0; have hfz8_1 := zB BK199 1) | ((with_reducible refine gate_callee (f := 13) rfl ?_); refine cl_ (some 17) Try.func13 #[.agg #[.int .i64 a0_0, .slice A0_1 l0_1.length c0_1], .int .i64 1048576] ?_; (with_reducible refine (laws_szComplex.calls a0_0 _ _ l0_1 1048576 t200 _ ?side1 ?side2 A5.out).mono ?_); (case side1 => exact pC ((Kd.C_below HR0_1.out HB.out))); (case side2 => exact HC0_1.out); rintro e w9 ⟨rfl, hb⟩; refine ⟨_, rfl, ?_⟩; replace BK199 := sB BK199 hb; replace HB := sH HB hb; (try clear hb); (try clear hi)))
   go_ret
   exact ⟨by first | rfl | (simp [errW_none, errW_some] <;> rfl) | (simp [*, errW_none, errW_some] <;> rfl) | (exfalso; simp_all), pH HB⟩
  ·rw [if_neg c6] at H
   have c6b0 : decide (t200 < 0) = false := decide_eq_false c6
   clear c6
   replace H := Option.bind_eq_some_iff.mp H
   obtain ⟨⟨t201, t202⟩, A100, H⟩ := H
   try dsimp only at H
   have A10 := Aside0.mk A100
   clear A100
   replace H := Option.bind_eq_some_iff.mp H
   obtain ⟨t205, A110, H⟩ := H
   try dsimp only at H
   have A11 := Aside0.mk A110
   clear A110
   replace H := Option.bind_eq_some_iff.mp H
   obtain ⟨⟨t208, t209⟩, A120, H⟩ := H
   try dsimp only at H
   have A12 := Aside0.mk A120
   clear A120
   replace H := Option.bind_eq_some_iff.mp H
   obtain ⟨⟨t210, t211⟩, A130, H⟩ := H
   try dsimp only at H
   have A13 := Aside0.mk A130
   clear A130
   replace H := Option.bind_eq_some_iff.mp H
   obtain ⟨t215, A140, H⟩ := H
   try dsimp only at H
   have A14 := Aside0.mk A140
   clear A140
   replace H := Option.bind_eq_some_iff.mp H
   obtain ⟨⟨t218, t219⟩, A150, H⟩ := H
   try dsimp only at H
   have A15 := Aside0.mk A150
   clear A150
   by_cases c16 : (t218 != t208) = true
   ·rw [if_pos c16] at H
    exact absurd H (by simp)
   ·rw [if_neg c16] at H
    have c16b0 : (t218 != t208) = false := by simpa using c16
    (try (have c16b1 : decide (t218 = t208) = true := by simpa using c16))
    (try (have c16b2 : (t218 == t208) = true := by simpa using c16))
    clear c16
    by_cases c17 : t219 = t209
    ·rw [if_pos c17] at H
     have c17b0 : (t219 == t209) = true := beq_iff_eq.mpr c17
     have c17b1 : (t219 != t209) = false := bne_eq_false_iff_eq.mpr c17
     clear c17
     replace H := Option.bind_eq_some_iff.mp H
     obtain ⟨⟨t220, t221⟩, A180, H⟩ := H
     try dsimp only at H
     have A18 := Aside0.mk A180
     clear A180
     replace H := Option.bind_eq_some_iff.mp H
     obtain ⟨t224, A190, H⟩ := H
     try dsimp only at H
     have A19 := Aside0.mk A190
     clear A190
     by_cases c20 : t224 = true
     ·subst c20
      have H1 : ((laws_toInt64S.f k l1).bind fun t225 => ((laws_eqInt64S.f k t215 t225).bind fun t228 => (if t228 = true then (some true) else (none)))) = some r := by rw [if_pos rfl] at H; exact H
      clear H
      have H := H1
      clear H1
      replace H := Option.bind_eq_some_iff.mp H
      obtain ⟨t225, A210, H⟩ := H
      try dsimp only at H
      have A21 := Aside0.mk A210
      clear A210
      replace H := Option.bind_eq_some_iff.mp H
      obtain ⟨t228, A220, H⟩ := H
      try dsimp only at H
      have A22 := Aside0.mk A220
      clear A220
      by_cases c23 : t228 = true
      ·subst c23
       have H1 : (some true) = some r := by rw [if_pos rfl] at H; exact H
       clear H
       have H := H1
       clear H1
       obtain rfl := Option.some.inj H
       go_enter Try.func8, Try.ntmps8
       try go_wp2_with (first | ((with_reducible refine gate_dst (N := 2) rfl ?_); refine box_event ?hg (N := 2) ?hd (cs := #[.int .i64 a0_0, .slice A0_1 l0_1.length c0_1]) (t := 24) ?hr ?_; (case hd => rfl); (case hg => rfl); (case hr => first | (go_simp; done) | (go_simp; rfl)); intro gb199 hg w24 hbox hb; have BK199 := Aside0.mk (hbox); have GW199 := gH HB hg; have GE199 := gH HB hg; replace HB := sH HB hb; clear hb hbox hg; have hcz25_0 : w24.cell? ⟨gb199, 0, none⟩ = some (.int .i64 a0_0) := cB BK199 0; have hcz25_1 : w24.cell? ⟨gb199, 1, none⟩ = some (.slice A0_1 l0_1.length c0_1) := cB BK199 1; have hfz25_0 := zB BK199 0; have hfz25_1 := zB BK199 1) | ((with_reducible refine gate_callee (f := 13) rfl ?_); refine cl_ (some 17) Try.func13 #[.agg #[.int .i64 a0_0, .slice A0_1 l0_1.length c0_1], .int .i64 1048576] ?_; (with_reducible refine (laws_szComplex.calls a0_0 _ _ l0_1 1048576 t200 _ ?side1 ?side2 A5.out).mono ?_); (case side1 => exact pC ((Kd.C_below HR0_1.out HB.out))); (case side2 => exact HC0_1.out); rintro e w26 ⟨rfl, hb⟩; refine ⟨_, rfl, ?_⟩; replace BK199 := sB BK199 hb; replace HB := sH HB hb; (try clear hb); (try clear hi); have hcz27_0 : w26.cell? ⟨gb199, 0, none⟩ = some (.int .i64 a0_0) := cB BK199 0; have hcz27_1 : w26.cell? ⟨gb199, 1, none⟩ = some (.slice A0_1 l0_1.length c0_1) := cB BK199 1; have hfz27_0 := zB BK199 0; have hfz27_1 := zB BK199 1) | ((with_reducible refine gate_callee (f := 15) rfl ?_); refine cl_ (some 22) Try.func15 #[.agg #[.int .i64 a0_0, .slice A0_1 l0_1.length c0_1]] ?_; (with_reducible refine (laws_toComplex.calls k a0_0 _ _ l0_1 t201 t202 _ ?side1 ?side2 A10.out).mono ?_); (case side1 => exact pC ((Kd.C_below HR0_1.out HB.out))); (case side2 => exact HC0_1.out); rintro e w28 ⟨v203, rfl, ho0, hb⟩; refine ⟨_, rfl, ?_⟩; have HO204 := Aside0.mk (Kd.R_lower ho0 (below_size (pH HB))); replace BK199 := sB BK199 hb; replace HB := sH HB hb; (try clear hb); (try clear hi); (try clear ho0)) | ((with_reducible refine gate_callee (f := 16) rfl ?_); refine cl_ (some 24) Try.func16 #[.slice A1 l1.length c1] ?_; (with_reducible refine (laws_toInt64S.calls k _ _ l1 t205 _ ?side1 ?side2 A11.out).mono ?_); (case side1 => exact pC ((Kd.C_below HR1.out HB.out))); (case side2 => exact HC1.out); rintro e w29 ⟨v206, rfl, ho0, hb⟩; refine ⟨_, rfl, ?_⟩; have HO207 := Aside0.mk (Kd.R_lower (Kd.R_new' ho0 (Kd.R_lt (pR HO204))) (below_size (pH HB))); replace HO204 := Aside0.mk (Kd.R_elder' (pR HO204) (Kd.R_base ho0) hb); replace BK199 := sB BK199 hb; replace HB := sH HB hb; (try clear hb); (try clear hi); (try clear ho0); obtain ⟨Ao30, co30, eo30⟩ := Kd.R_slice HO204.out; subst eo30; obtain ⟨Ao31, co31, eo31⟩ := Kd.R_slice HO207.out; subst eo31) | ((with_reducible refine gate_callee (f := 36) rfl ?_); refine cl_ (some 25) Try.func36 #[.agg #[.int .i64 t201, .slice Ao30 t202.length co30], .slice Ao31 t205.length co31] ?_; (with_reducible refine (spec_IsShelling.calls k t201 _ _ t202 _ _ t205 t208 t209 _ ?side1 ?side2 ?side3 ?side4 A12.out).mono ?_); (case side1 => exact pC ((Kd.R_reads' HO204.out).2.2)); (case side2 => exact (Kd.R_reads' HO204.out).2.1); (case side3 => exact pC ((Kd.R_reads' HO207.out).2.2)); (case side4 => exact (Kd.R_reads' HO207.out).2.1); rintro e w32 ⟨rfl, hb⟩; refine ⟨_, rfl, ?_⟩; replace HO204 := sR HO204 hb; replace HO207 := sR HO207 hb; replace BK199 := sB BK199 hb; replace HB := sH HB hb; (try clear hb); (try clear hi); have hcz33_0 : w32.cell? ⟨gb199, 0, none⟩ = some (.int .i64 a0_0) := cB BK199 0; have hcz33_1 : w32.cell? ⟨gb199, 1, none⟩ = some (.slice A0_1 l0_1.length c0_1) := cB BK199 1; have hfz33_0 := zB BK199 0; have hfz33_1 := zB BK199 1) | ((with_reducible refine gate_callee (f := 15) rfl ?_); refine cl_ (some 29) Try.func15 #[.agg #[.int .i64 a0_0, .slice A0_1 l0_1.length c0_1]] ?_; (with_reducible refine (laws_toComplex.calls k a0_0 _ _ l0_1 t210 t211 _ ?side1 ?side2 A13.out).mono ?_); (case side1 => exact pC ((Kd.C_below HR0_1.out HB.out))); (case side2 => exact HC0_1.out); rintro e w34 ⟨v212, rfl, ho0, hb⟩; refine ⟨_, rfl, ?_⟩; have HO213 := Aside0.mk (Kd.R_lower (Kd.R_new' (Kd.R_new' ho0 (Kd.R_lt (pR HO204))) (Kd.R_lt (pR HO207))) (below_size (pH HB))); replace HO204 := Aside0.mk (Kd.R_elder' (pR HO204) (Kd.R_base ho0) hb); replace HO207 := Aside0.mk (Kd.R_elder' (pR HO207) (Kd.R_base ho0) hb); replace BK199 := sB BK199 hb; replace HB := sH HB hb; (try clear hb); (try clear hi); (try clear ho0)) | ((with_reducible refine gate_dst (N := 8) rfl ?_); refine box_event ?hg (N := 8) ?hd (cs := #[.int .i64 0, .slice none 0 0]) (t := 28) ?hr ?_; (case hd => rfl); (case hg => rfl); (case hr => first | (go_simp; done) | (go_simp; rfl)); intro gb214 hg w35 hbox hb; replace HO204 := sR HO204 hb; replace HO207 := sR HO207 hb; replace HO213 := sR HO213 hb; have BK214 := Aside0.mk (hbox); have GW214 := gH HB hg; have GE214 := gH HB hg; replace HB := sH HB hb; have NB199_214 := nB BK199 hg; have NB214_199 := oB BK199 hg; replace BK199 := sB BK199 hb; clear hb hbox hg; (try have hnb36 := NB214_199.out); (try have hnc36 := NB199_214.out); have hcz37_0 : w35.cell? ⟨gb214, 0, none⟩ = some (.int .i64 0) := cB BK214 0; have hcz37_1 : w35.cell? ⟨gb214, 1, none⟩ = some (.slice none 0 0) := cB BK214 1; have hfz37_0 := zB BK214 0; have hfz37_1 := zB BK214 1; obtain ⟨Ao38, co38, eo38⟩ := Kd.R_slice HO213.out; subst eo38) | ((with_reducible refine gate_callee (f := 16) rfl ?_); refine cl_ (some 31) Try.func16 #[.slice A1 l1.length c1] ?_; (with_reducible refine (laws_toInt64S.calls k _ _ l1 t215 _ ?side1 ?side2 A14.out).mono ?_); (case side1 => exact Kd.C_below HR1.out (pH HB)); (case side2 => exact HC1.out); rintro e w39 ⟨v216, rfl, ho0, hb⟩; refine ⟨_, rfl, ?_⟩; have n0_ := Aside0.mk (Kd.R_elder' (by (with_reducible repeat (first | apply Kd.R_alloc | apply Kd.R_drewN | apply Kd.R_drew)); exact (Kd.R_mono (Kd.R_far (p := ⟨gb214, 1, none⟩) (Kd.R_far (p := ⟨gb214, 0, none⟩) (Kd.R_types HO204.out BK214.out (by decide)) (fun _ hk => hk.2) (.int .i64 t210)) (fun _ hk => hk.2) (.slice Ao38 t211.length co38)) (fun _ h_ => h_.1))) (Kd.R_base ho0) hb); have n1_ := Aside0.mk (Kd.R_elder' (by (with_reducible repeat (first | apply Kd.R_alloc | apply Kd.R_drewN | apply Kd.R_drew)); exact (Kd.R_mono (Kd.R_far (p := ⟨gb214, 1, none⟩) (Kd.R_far (p := ⟨gb214, 0, none⟩) (Kd.R_types HO207.out BK214.out (by decide)) (fun _ hk => hk.2) (.int .i64 t210)) (fun _ hk => hk.2) (.slice Ao38 t211.length co38)) (fun _ h_ => h_.1))) (Kd.R_base ho0) hb); have n2_ := Aside0.mk (Kd.R_elder' (by (with_reducible repeat (first | apply Kd.R_alloc | apply Kd.R_drewN | apply Kd.R_drew)); exact (Kd.R_mono (Kd.R_far (p := ⟨gb214, 1, none⟩) (Kd.R_far (p := ⟨gb214, 0, none⟩) (Kd.R_types HO213.out BK214.out (by decide)) (fun _ hk => hk.2) (.int .i64 t210)) (fun _ hk => hk.2) (.slice Ao38 t211.length co38)) (fun _ h_ => h_.1))) (Kd.R_base ho0) hb); have n3_ := Aside0.mk (Kd.R_lower (Kd.R_new' (Kd.R_new' (Kd.R_new' ho0 (Kd.R_lt (by (with_reducible repeat (first | apply Kd.R_alloc | apply Kd.R_drewN | apply Kd.R_drew)); exact (Kd.R_mono (Kd.R_far (p := ⟨gb214, 1, none⟩) (Kd.R_far (p := ⟨gb214, 0, none⟩) (Kd.R_types HO204.out BK214.out (by decide)) (fun _ hk => hk.2) (.int .i64 t210)) (fun _ hk => hk.2) (.slice Ao38 t211.length co38)) (fun _ h_ => h_.1))))) (Kd.R_lt (by (with_reducible repeat (first | apply Kd.R_alloc | apply Kd.R_drewN | apply Kd.R_drew)); exact (Kd.R_mono (Kd.R_far (p := ⟨gb214, 1, none⟩) (Kd.R_far (p := ⟨gb214, 0, none⟩) (Kd.R_types HO207.out BK214.out (by decide)) (fun _ hk => hk.2) (.int .i64 t210)) (fun _ hk => hk.2) (.slice Ao38 t211.length co38)) (fun _ h_ => h_.1))))) (Kd.R_lt (by (with_reducible repeat (first | apply Kd.R_alloc | apply Kd.R_drewN | apply Kd.R_drew)); exact (Kd.R_mono (Kd.R_far (p := ⟨gb214, 1, none⟩) (Kd.R_far (p := ⟨gb214, 0, none⟩) (Kd.R_types HO213.out BK214.out (by decide)) (fun _ hk => hk.2) (.int .i64 t210)) (fun _ hk => hk.2) (.slice Ao38 t211.length co38)) (fun _ h_ => h_.1))))) (below_size (pH HB))); have n4_ := Aside0.mk (blk_below (g := gb199) (o := .cells #[.int .i64 a0_0, .slice A0_1 l0_1.length c0_1] 24 (0, 0)) (by (with_reducible repeat (first | refine blk_drewN ?_ _ | refine blk_drew ?_ | refine blk_alloc ?_ _)); refine blk_far ?_ NB199_214.out _; (with_reducible repeat (first | refine blk_drewN ?_ _ | refine blk_drew ?_ | refine blk_alloc ?_ _)); refine blk_far ?_ NB199_214.out _; (with_reducible repeat (first | refine blk_drewN ?_ _ | refine blk_drew ?_ | refine blk_alloc ?_ _)); exact BK199.out) hb); have n5_ := Aside0.mk (blk_below (g := gb214) (o := .cells #[.int .i64 t210, .slice Ao38 t211.length co38] 28 (0, 0)) (by (with_reducible repeat (first | refine blk_drewN ?_ _ | refine blk_drew ?_ | refine blk_alloc ?_ _)); refine blk_put (cs := #[.int .i64 t210, .slice none 0 0]) ?_ 1 _ rfl; (with_reducible repeat (first | refine blk_drewN ?_ _ | refine blk_drew ?_ | refine blk_alloc ?_ _)); refine blk_put (cs := #[.int .i64 0, .slice none 0 0]) ?_ 0 _ rfl; (with_reducible repeat (first | refine blk_drewN ?_ _ | refine blk_drew ?_ | refine blk_alloc ?_ _)); exact BK214.out) hb); have n6_ := sH HB hb; clear HO204; clear HO207; clear HO213; clear BK199; clear BK214; clear HB; have HO204 := n0_; have HO207 := n1_; have HO213 := n2_; have HO217 := n3_; have BK199 := n4_; have BK214 := n5_; have HB := n6_; clear n0_ n1_ n2_ n3_ n4_ n5_ n6_; (try clear hb); (try clear hi); (try clear ho0); have hcz40_0 : w39.cell? ⟨gb214, 0, none⟩ = some (.int .i64 t210) := cB BK214 0; have hcz40_1 : w39.cell? ⟨gb214, 1, none⟩ = some (.slice Ao38 t211.length co38) := cB BK214 1; have hfz40_0 := zB BK214 0; have hfz40_1 := zB BK214 1; obtain ⟨Ao41, co41, eo41⟩ := Kd.R_slice HO217.out; subst eo41) | ((with_reducible refine gate_callee (f := 37) rfl ?_); refine cl_ (some 35) Try.func37 #[.agg #[.int .i64 t210, .slice Ao38 t211.length co38], .slice Ao41 t215.length co41] ?_; (with_reducible refine (impl_IsShelling.calls t210 _ _ t211 _ _ t215 t218 t219 _ ?side1 ?side2 ?side3 ?side4 A15.out).mono ?_); (case side1 => exact pC ((Kd.R_reads' HO213.out).2.2)); (case side2 => exact (Kd.R_reads' HO213.out).2.1); (case side3 => exact pC ((Kd.R_reads' HO217.out).2.2)); (case side4 => exact (Kd.R_reads' HO217.out).2.1); rintro e w42 ⟨rfl, hb⟩; refine ⟨_, rfl, ?_⟩; replace HO204 := sR HO204 hb; replace HO207 := sR HO207 hb; replace HO213 := sR HO213 hb; replace HO217 := sR HO217 hb; replace BK199 := sB BK199 hb; replace BK214 := sB BK214 hb; replace HB := sH HB hb; (try clear hb); (try clear hi)))
       replace HO204 := Aside0.mk (Kd.R_drew HO204.out)
       replace HO207 := Aside0.mk (Kd.R_drew HO207.out)
       replace HO213 := Aside0.mk (Kd.R_drew HO213.out)
       replace HO217 := Aside0.mk (Kd.R_drew HO217.out)
       replace BK199 := dB BK199
       replace BK214 := dB BK214
       replace HB := dH HB
       refine st_ 5 (S := fun w' => w'.cell? ⟨gb214, 0, none⟩ = some (.int .i64 t210) ∧ w'.cell? ⟨gb214, 1, none⟩ = some (.slice Ao38 t211.length co38) ∧ w'.cell? ⟨gb199, 0, none⟩ = some (.int .i64 a0_0) ∧ w'.cell? ⟨gb199, 1, none⟩ = some (.slice A0_1 l0_1.length c0_1)) (ds := []) ⟨cB BK214 0, cB BK214 1, cB BK199 0, cB BK199 1⟩ (fun hHeld => ?_)
       generalize w42.drew = w43 at HO204 HO207 HO213 HO217 BK199 BK214 HB hHeld ⊢
       refine take_ (i := 0) (N := some 46) (v := ?_) (a' := ?_) (mB 5 1) rfl rfl (by kernel_rfl) (fun _ _ _ h => h) (Or.inl ⟨by rfl, ?_⟩) hHeld ?_ ?_
       rotate_left
       ·rintro w' ⟨s0, s1, s2, s3⟩
        go_simp
        with_reducible rfl
       rotate_left
       ·simp only [Act.put, List.setIfInBounds_toArray, List.set_cons_zero, List.set_cons_succ, i64_w, i32_w]
        rfl
       refine take_ (i := 1) (N := some 47) (v := ?_) (a' := ?_) (mB 5 3) rfl rfl (by kernel_rfl) (fun _ _ _ h => h) (Or.inl ⟨by rfl, ?_⟩) hHeld ?_ ?_
       rotate_left
       ·rintro w' ⟨s0, s1, s2, s3⟩
        go_simp
        with_reducible rfl
       rotate_left
       ·simp only [Act.put, List.setIfInBounds_toArray, List.set_cons_zero, List.set_cons_succ, i64_w, i32_w]
        rfl
       refine one_ (i := 2) (N := some 48) (mB 5 7) rfl rfl (by kernel_rfl) (by decide) (fun K hK => ?_)
       refine ca_ Try.func15 #[.agg #[.int .i64 a0_0, .slice A0_1 l0_1.length c0_1]] ?_
       with_reducible refine (laws_toComplex.calls k a0_0 _ _ l0_1 t220 t221 _ ?side1 ?side2 A18.out).mono ?_
       (case side1 => exact pC ((Kd.C_below HR0_1.out HB.out)))
       (case side2 => exact HC0_1.out)
       rintro e w44 ⟨v222, rfl, ho0, hb⟩
       refine ⟨_, rfl, ?_⟩
       have HO223 := Aside0.mk (Kd.R_lower (Kd.R_new' (Kd.R_new' (Kd.R_new' (Kd.R_new' ho0 (Kd.R_lt (pR HO204))) (Kd.R_lt (pR HO207))) (Kd.R_lt (pR HO213))) (Kd.R_lt (pR HO217))) (below_size (pH HB)))
       replace HO204 := Aside0.mk (Kd.R_elder' (pR HO204) (Kd.R_base ho0) hb)
       replace HO207 := Aside0.mk (Kd.R_elder' (pR HO207) (Kd.R_base ho0) hb)
       replace HO213 := Aside0.mk (Kd.R_elder' (pR HO213) (Kd.R_base ho0) hb)
       replace HO217 := Aside0.mk (Kd.R_elder' (pR HO217) (Kd.R_base ho0) hb)
       replace BK199 := sB BK199 hb
       replace BK214 := sB BK214 hb
       replace HB := sH HB hb
       (try clear hb)
       (try clear hb2)
       (try clear hk)
       (try clear hi)
       (try clear ho0)
       obtain ⟨Ao45, co45, eo45⟩ := Kd.R_slice HO223.out
       (first | subst eo45 | (injection eo45 with f1_ f2_ f3_; have f4_ := f1_.symm; have f5_ := f3_.symm; clear f1_ f2_ f3_; subst f4_; subst f5_))
       refine hK.out _ _ ⟨cB BK214 0, cB BK214 1, cB BK199 0, cB BK199 1⟩ (fun hHeld => ?_)
       clear hK K
       refine nm_ ?_
       refine one_ (i := 3) (N := some 49) (mB 5 15) rfl rfl (by kernel_rfl) (by decide) (fun K hK => ?_)
       refine ca_ Try.func19 #[.agg #[.int .i64 t210, .slice Ao38 t211.length co38], .agg #[.int .i64 t220, .slice Ao45 t221.length co45]] ?_
       with_reducible refine (laws_eqComplex.calls k t210 _ _ t211 t220 _ _ t221 true _ ?side1 ?side2 ?side3 ?side4 A19.out).mono ?_
       (case side1 => exact pC ((Kd.R_reads' HO213.out).2.2))
       (case side2 => exact (Kd.R_reads' HO213.out).2.1)
       (case side3 => exact pC ((Kd.R_reads' HO223.out).2.2))
       (case side4 => exact (Kd.R_reads' HO223.out).2.1)
       rintro e w46 ⟨rfl, hb⟩
       refine ⟨_, rfl, ?_⟩
       replace HO204 := sR HO204 hb
       replace HO207 := sR HO207 hb
       replace HO213 := sR HO213 hb
       replace HO217 := sR HO217 hb
       replace HO223 := sR HO223 hb
       replace BK199 := sB BK199 hb
       replace BK214 := sB BK214 hb
       replace HB := sH HB hb
       (try clear hb)
       (try clear hb2)
       (try clear hk)
       (try clear hi)
       refine hK.out _ _ ⟨cB BK214 0, cB BK214 1, cB BK199 0, cB BK199 1⟩ (fun hHeld => ?_)
       clear hK K
       refine nm_ ?_
       refine pure_ (i := 4) (N := some 50) (v := ?_) (a' := ?_) (mB 5 31) rfl rfl (by kernel_rfl) (fun _ _ _ h => h) (Or.inl ⟨by rfl, ?_⟩) ?_ ?_
       rotate_left
       ·intro w'
        go_simp
        with_reducible rfl
       rotate_left
       ·simp only [Act.put, List.setIfInBounds_toArray, List.set_cons_zero, List.set_cons_succ, i64_w, i32_w]
        rfl
       refine done_ (by kernel_rfl) ?_
       try go_wp2_with (first | ((with_reducible refine gate_callee (f := 16) rfl ?_); refine cl_ (some 53) Try.func16 #[.slice A1 l1.length c1] ?_; (with_reducible refine (laws_toInt64S.calls k _ _ l1 t225 _ ?side1 ?side2 A21.out).mono ?_); (case side1 => exact pC ((Kd.C_below HR1.out HB.out))); (case side2 => exact HC1.out); rintro e w47 ⟨v226, rfl, ho0, hb⟩; refine ⟨_, rfl, ?_⟩; have HO227 := Aside0.mk (Kd.R_lower (Kd.R_new' (Kd.R_new' (Kd.R_new' (Kd.R_new' (Kd.R_new' ho0 (Kd.R_lt (pR HO204))) (Kd.R_lt (pR HO207))) (Kd.R_lt (pR HO213))) (Kd.R_lt (pR HO217))) (Kd.R_lt (pR HO223))) (below_size (pH HB))); replace HO204 := Aside0.mk (Kd.R_elder' (pR HO204) (Kd.R_base ho0) hb); replace HO207 := Aside0.mk (Kd.R_elder' (pR HO207) (Kd.R_base ho0) hb); replace HO213 := Aside0.mk (Kd.R_elder' (pR HO213) (Kd.R_base ho0) hb); replace HO217 := Aside0.mk (Kd.R_elder' (pR HO217) (Kd.R_base ho0) hb); replace HO223 := Aside0.mk (Kd.R_elder' (pR HO223) (Kd.R_base ho0) hb); replace BK199 := sB BK199 hb; replace BK214 := sB BK214 hb; replace HB := sH HB hb; (try clear hb); (try clear hi); (try clear ho0); have nD_ := Aside0.mk (Kd.R_mono (ok' := fun k_ => some k_ ≠ (.slice Ao41 t215.length co41 : Value).ownBlock ∧ some k_ ≠ (v226 : Value).ownBlock) HO213.out (fun k_ hk => ⟨hk.1.1.2, hk.2⟩)); clear HO213; have HO213 := nD_; clear nD_; have nD_ := Aside0.mk (Kd.R_mono (ok' := fun k_ => some k_ ≠ (.slice Ao38 t211.length co38 : Value).ownBlock ∧ some k_ ≠ (v226 : Value).ownBlock) HO217.out (fun k_ hk => ⟨hk.1.1.2, hk.2⟩)); clear HO217; have HO217 := nD_; clear nD_; have nD_ := Aside0.mk (Kd.R_mono (ok' := fun k_ => some k_ ≠ (.slice Ao38 t211.length co38 : Value).ownBlock ∧ some k_ ≠ (.slice Ao41 t215.length co41 : Value).ownBlock) HO227.out (fun k_ hk => ⟨hk.1.1.2, hk.1.2⟩)); clear HO227; have HO227 := nD_; clear nD_; clear HO204 HO207 HO223; obtain ⟨Ao48, co48, eo48⟩ := Kd.R_slice HO227.out; subst eo48) | ((with_reducible refine gate_callee (f := 18) rfl ?_); refine cl_ (some 54) Try.func18 #[.slice Ao41 t215.length co41, .slice Ao48 t225.length co48] ?_; (with_reducible refine (laws_eqInt64S.calls k _ _ t215 _ _ t225 true _ ?side1 ?side2 ?side3 ?side4 A22.out).mono ?_); (case side1 => exact pC ((Kd.R_reads' HO217.out).2.2)); (case side2 => exact (Kd.R_reads' HO217.out).2.1); (case side3 => exact pC ((Kd.R_reads' HO227.out).2.2)); (case side4 => exact (Kd.R_reads' HO227.out).2.1); rintro e w' ⟨rfl, ⟨nd, rfl⟩⟩; refine ⟨_, rfl, ?_⟩))
       go_ret
       exact ⟨by first | rfl | (simp [errW_none, errW_some] <;> rfl) | (simp [*, errW_none, errW_some] <;> rfl) | (exfalso; simp_all), pH HB⟩
      ·replace c23 := Bool.eq_false_iff.mpr c23
       subst c23
       have H1 : (none) = some r := by rw [if_neg (show ¬ (false = true) by decide)] at H; exact H
       clear H
       have H := H1
       clear H1
       exact absurd H (by simp)
     ·replace c20 := Bool.eq_false_iff.mpr c20
      subst c20
      have H1 : (none) = some r := by rw [if_neg (show ¬ (false = true) by decide)] at H; exact H
      clear H
      have H := H1
      clear H1
      exact absurd H (by simp)
    ·rw [if_neg c17] at H
     exact absurd H (by simp)
end Go.Proofs.Ytomdfjohnmikdaa.QFnExactIsShelling
namespace Go.Proofs.Ytomdfjohnmikdaa.QS
open Go.Proofs.Ytomdfjohnmikdaa.Cw Go.Proofs.Ytomdfjohnmikdaa.Kp Go.Proofs.Ytomdfjohnmikdaa.Ext Go.RowKit Go.Proofs.YtomdfjohnmikdaaW.PrintWords Go.Proofs.YtomdfjohnmikdaaW.PrintLast Go.Proofs.YtomdfjohnmikdaaW.PrintMore
attribute [local go_sem] max2_int min2_int max_two min_two max_three min_three max_four min_four   -- for this text's walks alone
set_option linter.unusedVariables false
set_option linter.unusedSimpArgs false
end Go.Proofs.Ytomdfjohnmikdaa.QS
namespace Go.Proofs.Ytomdfjohnmikdaa.Pu
set_option linter.unusedVariables false
set_option linter.unusedSimpArgs false
open Go.RowKit Go.Proofs.Ytomdfjohnmikdaa.Ext Go.Proofs.Ytomdfjohnmikdaa.QS Go.Proofs.Ytomdfjohnmikdaa.Im Go.Proofs.YtomdfjohnmikdaaW.PrintWords Go.Proofs.YtomdfjohnmikdaaW.PrintLast Go.Proofs.YtomdfjohnmikdaaW.PrintMore
def newB (fs ls : List Int) (m : Nat) : Bool := (fs.any fun g => g == ls.getD m 0) && (ls.take m).all fun g => g != ls.getD m 0
def goM (ls : List Int) (m : Nat) : Bool × Int := goesB (ls.take m) (ls.getD m 0)
def specLoop (fs ls : List Int) : Nat → Nat → List Int → Bool × List Int
  | 0, _, acc => (true, acc)
  | d + 1, i, acc => if newB fs ls i = true then (if (goM ls i).1 = true then specLoop fs ls d (i + 1) (acc ++ [(goM ls i).2]) else (false, acc)) else (false, acc)
theorem getD_lt {l : List Int} {i : Nat} (h : i < l.length) : l.getD i 0 = l[i] := by rw [List.getD_eq_getElem?_getD, List.getElem?_eq_getElem h]; rfl
section
variable {fs ls acc : List Int} {i : Nat} {D : Bool → Bool × List Int}
theorem sh_l2 (hl : ls.length ≤ 1048576) (hi : i < ls.length) (ha : acc.length ≤ 1048576) (hF : D false = (false, acc)) (hT : (goM ls i).1 = true → Ev (fun k => spec_l07Shelling.l0 k ls fs (acc ++ [(goM ls i).2]) ((i + 1 : Nat) : Int)) (D true)) (hT2 : (goM ls i).1 = false → D true = (false, acc)) :
    ∀ d (j : Nat) (b : Bool), i - j = d → j ≤ i → Ev (fun k => spec_l07Shelling.l2 k ls fs acc (i : Int) b (j : Int)) (D (b && ((ls.take i).drop j).all fun g => g != ls.getD i 0)) := by
  intro d
  induction d with
  | zero =>
    intro j b hd hj
    obtain rfl : j = i := by omega
    rw [List.drop_eq_nil_of_le (by rw [List.length_take]; omega), List.all_nil, Bool.and_true]
    refine Ev.step (fun k => ?_) (f := fun k => (spec_l07Goes.f k (ls.take j) ls[j]).bind fun bt => if b = true then (if bt.1 = true then spec_l07Shelling.l0 k ls fs (acc ++ [bt.2]) ((j + 1 : Nat) : Int) else some (false, acc)) else some (false, acc)) ?_
    · simp only [spec_l07Shelling.l2]
      rw [if_neg (by omega), if_pos (by omega), if_pos (by omega), if_pos (by omega), rd_at' hi, Int.toNat_natCast, show wrap64 ((j : Int) + 1) = ((j + 1 : Nat) : Int) by rw [w64' (by omega) (by omega)]; omega]
      simp only [if_pos (show acc.length < 17592186044416 by omega)]
    · refine Ev.bind (ev_goes (by rw [List.length_take]; omega) _) ?_
      have hg : goesB (ls.take j) ls[j] = goM ls j := by unfold goM; rw [getD_lt hi]
      rw [hg]
      cases b with
      | false => simp only [Bool.false_eq_true, if_false]; rw [hF]; exact Ev.now _
      | true =>
        simp only [if_true]
        cases hg1 : (goM ls j).1 with
        | true => simp only [if_true]; exact hT hg1
        | false => simp only [Bool.false_eq_true, if_false]; rw [hT2 hg1]; exact Ev.now _
  | succ d ih =>
    intro j b hd hj
    have hj' : j < ls.length := by omega
    have hjt : j < (ls.take i).length := by rw [List.length_take]; omega
    have hw : wrap64 ((j : Int) + 1) = ((j + 1 : Nat) : Int) := by rw [w64' (by omega) (by omega)]; omega
    rw [List.drop_eq_getElem_cons hjt, List.all_cons, List.getElem_take]
    cases b with
    | true =>
      have := ih (j + 1) (ls[j] != ls[i]) (by omega) (by omega)
      rw [getD_lt hi] at this ⊢
      rw [Bool.true_and]
      refine Ev.step (fun k => ?_) this
      simp only [spec_l07Shelling.l2]
      rw [if_pos (by omega), if_pos trivial, if_pos (by omega), if_pos (by omega), if_pos (by omega), if_pos (by omega), rd_at' hj', rd_at' hi, hw]
    | false =>
      have := ih (j + 1) false (by omega) (by omega)
      rw [Bool.false_and] at this ⊢
      refine Ev.step (fun k => ?_) this
      simp only [spec_l07Shelling.l2]
      rw [if_pos (by omega), if_neg Bool.false_ne_true, hw]
theorem sh_l1 (hfl : fs.length ≤ 1048576) (hl : ls.length ≤ 1048576) (hi : i < ls.length) (ha : acc.length ≤ 1048576) (hF : D false = (false, acc)) (hT : (goM ls i).1 = true → Ev (fun k => spec_l07Shelling.l0 k ls fs (acc ++ [(goM ls i).2]) ((i + 1 : Nat) : Int)) (D true)) (hT2 : (goM ls i).1 = false → D true = (false, acc)) :
    ∀ d (j : Nat) (b : Bool), fs.length - j = d → j ≤ fs.length → Ev (fun k => spec_l07Shelling.l1 k ls fs acc (i : Int) b (j : Int)) (D ((b || (fs.drop j).any fun g => g == ls.getD i 0) && (ls.take i).all fun g => g != ls.getD i 0)) := by
  intro d
  induction d with
  | zero =>
    intro j b hd hj
    rw [List.drop_eq_nil_of_le (by omega), List.any_nil, Bool.or_false]
    have := sh_l2 (fs := fs) hl hi ha hF hT hT2 _ 0 b rfl (Nat.zero_le _)
    rw [List.drop_zero] at this
    refine Ev.step (fun k => ?_) this
    simp only [spec_l07Shelling.l1]
    rw [if_neg (by omega)]
    rfl
  | succ d ih =>
    intro j b hd hj
    have hj' : j < fs.length := by omega
    have hw : wrap64 ((j : Int) + 1) = ((j + 1 : Nat) : Int) := by rw [w64' (by omega) (by omega)]; omega
    rw [List.drop_eq_getElem_cons hj', List.any_cons]
    cases b with
    | true =>
      have := ih (j + 1) true (by omega) (by omega)
      rw [Bool.true_or] at this ⊢
      refine Ev.step (fun k => ?_) this
      simp only [spec_l07Shelling.l1]
      rw [if_pos (by omega), if_pos trivial, hw]
    | false =>
      have := ih (j + 1) (fs[j] == ls[i]) (by omega) (by omega)
      rw [getD_lt hi] at this ⊢
      rw [Bool.false_or]
      refine Ev.step (fun k => ?_) this
      simp only [spec_l07Shelling.l1]
      rw [if_pos (by omega), if_neg Bool.false_ne_true, if_pos (by omega), if_pos (by omega), if_pos (by omega), rd_at' hj', rd_at' hi, hw]
end
theorem sh_l0 {fs ls : List Int} (hfl : fs.length ≤ 1048576) (hl : ls.length ≤ 1048576) : ∀ d (i : Nat) (acc : List Int), ls.length - i = d → i ≤ ls.length → acc.length ≤ i → Ev (fun k => spec_l07Shelling.l0 k ls fs acc (i : Int)) (specLoop fs ls d i acc) := by
  intro d
  induction d with
  | zero =>
    intro i acc hd hi ha
    refine Ev.step (f := fun k => some (true, acc)) (fun k => ?_) (Ev.now _)
    simp only [spec_l07Shelling.l0]
    rw [if_neg (by omega)]
  | succ d ih =>
    intro i acc hd hi ha
    have hi' : i < ls.length := by omega
    have := sh_l1 (fs := fs) (ls := ls) (acc := acc) (i := i) (D := fun b => if b = true then (if (goM ls i).1 = true then specLoop fs ls d (i + 1) (acc ++ [(goM ls i).2]) else (false, acc)) else (false, acc)) hfl hl hi' (by omega) (if_neg Bool.false_ne_true)
      (fun hg => by simp only [if_true, hg]; exact ih (i + 1) _ (by omega) (by omega) (by rw [List.length_append, List.length_singleton]; omega))
      (fun hg => by simp only [if_true, hg, Bool.false_eq_true, if_false]) _ 0 false rfl (Nat.zero_le _)
    rw [List.drop_zero, Bool.false_or] at this
    refine Ev.step (fun k => ?_) this
    simp only [spec_l07Shelling.l0]
    rw [if_pos (by omega)]
    rfl
def specSh (fs ls : List Int) : Bool × List Int := if ls.length = fs.length then specLoop fs ls ls.length 0 [] else (false, [])
theorem ev_shelling {n : Int} {xs ls : List Int} (hi : isC n xs = true) (hx : xs.length ≤ 1048576) (hl : ls.length ≤ 1048576) : Ev (fun k => spec_l07Shelling.f k n xs ls) (specSh (facetsL xs) ls) := by
  unfold spec_l07Shelling.f
  refine Ev.bind (ev_facets hi) ?_
  have hfl : (facetsL xs).length ≤ 1048576 := Nat.le_trans (List.length_filter_le _ _) hx
  simp only [Option.bind_some]
  unfold specSh
  by_cases h : ls.length = (facetsL xs).length
  · rw [if_pos h]
    simp only [if_pos (show (ls.length : Int) = ((facetsL xs).length : Int) by omega)]
    exact sh_l0 hfl hl _ 0 [] rfl (Nat.zero_le _) (Nat.zero_le _)
  · rw [if_neg h]
    simp only [if_neg (show ¬ (ls.length : Int) = ((facetsL xs).length : Int) by omega)]
    exact Ev.now _
theorem loop_ok (fs ls : List Int) : ∀ d i acc, (specLoop fs ls d i acc).1 = (List.range' i d).all (fun m => newB fs ls m && (goM ls m).1) ∧ ((specLoop fs ls d i acc).1 = true → (specLoop fs ls d i acc).2 = acc ++ (List.range' i d).map fun m => (goM ls m).2)
  | 0, i, acc => by simp [specLoop]
  | d + 1, i, acc => by
    rw [List.range'_succ, List.all_cons, List.map_cons]
    unfold specLoop
    cases h1 : newB fs ls i with
    | false => simp
    | true =>
      cases h2 : (goM ls i).1 with
      | false => simp
      | true =>
        simp only [if_true, Bool.true_and]
        obtain ⟨a, b⟩ := loop_ok fs ls d (i + 1) (acc ++ [(goM ls i).2])
        exact ⟨a, fun h => by rw [b h]; simp⟩
theorem sub_asc : ∀ {b a : List Int}, a.Pairwise (· < ·) → b.Pairwise (· < ·) → (∀ x ∈ a, x ∈ b) → a.Sublist b
  | [], a, _, _, h => by
    cases a with
    | nil => exact List.Sublist.refl _
    | cons x a => exact absurd (h x (by simp)) (by simp)
  | y :: b, [], _, _, _ => List.nil_sublist _
  | y :: b, x :: a, ha, hb, h => by
    obtain ⟨ha1, ha2⟩ := List.pairwise_cons.1 ha
    obtain ⟨hb1, hb2⟩ := List.pairwise_cons.1 hb
    rcases List.mem_cons.1 (h x (by simp)) with rfl | hx
    · refine List.Sublist.cons_cons _ (sub_asc ha2 hb2 fun z hz => ?_)
      rcases List.mem_cons.1 (h z (by simp [hz])) with rfl | h3
      · exact absurd (ha1 _ hz) (by omega)
      · exact h3
    · refine List.Sublist.cons _ (sub_asc ha hb2 fun z hz => ?_)
      have hyx := hb1 x hx
      rcases List.mem_cons.1 (h z hz) with rfl | h3
      · rcases List.mem_cons.1 hz with rfl | h4
        · omega
        · have := ha1 _ h4; omega
      · exact h3
theorem sortL_pw (ls : List Int) : (sortL ls).Pairwise (· ≤ ·) := by
  have := List.pairwise_mergeSort (le := fun x y : Int => decide (x ≤ y)) (fun a b c => by simp; omega) (fun a b => by simp; omega) ls
  exact this.imp fun h => by simpa using h
theorem nodup_iff (ls : List Int) : ls.Nodup ↔ ∀ m, m < ls.length → ∀ g ∈ ls.take m, g ≠ ls.getD m 0 := by
  unfold List.Nodup
  rw [List.pairwise_iff_getElem]
  constructor
  · intro h m hm g hg
    obtain ⟨j, hj, rfl⟩ := List.mem_iff_getElem.1 hg
    rw [List.length_take] at hj
    rw [List.getElem_take, getD_lt hm]
    exact h j m (by omega) hm (by omega)
  · intro h i j hi hj hij
    have := h j hj ls[i] (List.mem_iff_getElem.2 ⟨i, by rw [List.length_take]; omega, by rw [List.getElem_take]⟩)
    rwa [getD_lt hj] at this
theorem sort_iff {fs ls : List Int} (hf : fs.Pairwise (· < ·)) : (sortL ls = fs) ↔ (ls.length = fs.length ∧ ∀ m, m < ls.length → newB fs ls m = true) := by
  have hperm : (sortL ls).Perm ls := List.mergeSort_perm _ _
  constructor
  · intro h
    refine ⟨by rw [← h]; exact hperm.length_eq.symm, fun m hm => ?_⟩
    have hnd : ls.Nodup := hperm.nodup_iff.1 (by rw [h]; exact hf.imp fun h => by omega)
    unfold newB
    rw [Bool.and_eq_true]
    refine ⟨List.any_eq_true.2 ⟨ls.getD m 0, ?_, by simp⟩, List.all_eq_true.2 fun g hg => ?_⟩
    · rw [← h, getD_lt hm]; exact sort_mem.2 (List.getElem_mem hm)
    · simpa using (nodup_iff ls).1 hnd m hm g hg
  · rintro ⟨hlen, h⟩
    have hnd : ls.Nodup := (nodup_iff ls).2 fun m hm g hg => by
      have := h m hm
      unfold newB at this
      rw [Bool.and_eq_true] at this
      simpa using List.all_eq_true.1 this.2 g hg
    have hsn : (sortL ls).Nodup := hperm.nodup_iff.2 hnd
    have hlt : (sortL ls).Pairwise (· < ·) := by
      refine ((sortL_pw ls).and hsn).imp ?_
      rintro a b ⟨h1, h2⟩
      omega
    refine (sub_asc hlt hf fun x hx => ?_).eq_of_length (by rw [hperm.length_eq, hlen])
    obtain ⟨m, hm, rfl⟩ := List.mem_iff_getElem.1 (sort_mem.1 hx)
    have := h m hm
    unfold newB at this
    rw [Bool.and_eq_true] at this
    obtain ⟨g, hg, he⟩ := List.any_eq_true.1 this.1
    rw [getD_lt hm] at he
    rwa [← eq_of_beq he]
theorem sh_same {n : Int} {xs ls : List Int} (hi : isC n xs = true) : (specSh (facetsL xs) ls).1 = shOkB xs ls := by
  have hasc : (facetsL xs).Pairwise (· < ·) := List.Pairwise.filter _ (ascB_asc (isC_of hi).2.1)
  have hf63 : ∀ x ∈ facetsL xs, 0 ≤ x ∧ x ≤ 63 := fun x hx => by have := isC_63 hi x (List.mem_filter.1 hx).1; omega
  unfold specSh shOkB
  generalize facetsL xs = fs at hasc hf63 ⊢
  by_cases hs : sortL ls = fs
  · obtain ⟨hlen, hnew⟩ := (sort_iff hasc).1 hs
    have hls : ∀ x ∈ ls, 0 ≤ x ∧ x ≤ 63 := fun x hx => hf63 x (by rw [← hs]; exact sort_mem.2 hx)
    rw [if_pos hlen, (loop_ok fs ls ls.length 0 []).1, beq_iff_eq.2 hs, Bool.true_and]
    unfold nextsB
    rw [List.range_eq_range']
    refine all_congr_mem' fun m hm => ?_
    have hm' : m < ls.length := by have := List.mem_range'_1.1 hm; omega
    rw [hnew m hm', Bool.true_and]
    unfold goM
    exact goes_next (hls _ (by rw [getD_lt hm']; exact List.getElem_mem hm')) (fun x hx => hls x (List.mem_of_mem_take hx))
  · rw [beq_eq_false_iff_ne.2 hs, Bool.false_and]
    split
    · rename_i hlen
      rw [(loop_ok fs ls ls.length 0 []).1, Bool.eq_false_iff]
      intro h
      refine hs ((sort_iff hasc).2 ⟨hlen, fun m hm => ?_⟩)
      have := List.all_eq_true.1 h m (List.mem_range'_1.2 (by omega))
      rw [Bool.and_eq_true] at this
      exact this.1
    · rfl
def isShF (n : Int) (xs ls : List Int) : Bool × Int := if isC n xs = true then (if pureB xs = true then (shOkB xs ls, 0) else (false, 5)) else (false, 1)
theorem ev_isSh (n : Int) {xs ls : List Int} (hx : xs.length ≤ 1048576) (hl : ls.length ≤ 1048576) : Ev (fun k => spec_IsShelling.f k n xs ls) (isShF n xs ls) := by
  unfold spec_IsShelling.f isShF
  refine Ev.bind (ev_is n (by simp only [maxLen]; omega)) ?_
  cases hi : isC n xs with
  | false => simp only [Bool.false_eq_true, if_false]; exact Ev.now _
  | true =>
    simp only [if_true]
    refine Ev.bind (ev_pure hi) ?_
    cases hp : pureB xs with
    | false => simp only [Bool.false_eq_true, if_false]; exact Ev.now _
    | true =>
      simp only [if_true]
      have := ev_shelling hi hx hl
      refine Ev.bind this ?_
      rw [sh_same hi]
      exact Ev.now _
end Go.Proofs.Ytomdfjohnmikdaa.Pu
namespace Go.Proofs.Ytomdfjohnmikdaa.Pu
set_option linter.unusedVariables false
set_option linter.unusedSimpArgs false
open Go.RowKit Go.Proofs.Ytomdfjohnmikdaa.Ext Go.Proofs.Ytomdfjohnmikdaa.QS Go.Proofs.Ytomdfjohnmikdaa.Im Go.Proofs.Ytomdfjohnmikdaa.QFnExactIsShelling Go.Proofs.YtomdfjohnmikdaaW.PrintWords Go.Proofs.YtomdfjohnmikdaaW.PrintLast Go.Proofs.YtomdfjohnmikdaaW.PrintMore
theorem impl_isSh (n : Int) {xs ls : List Int} (hx : xs.length ≤ 1048576) (hl : ls.length ≤ 1048576) : QN.impl_IsShelling.f n xs ls = some (isShF n xs ls) := by
  unfold QN.impl_IsShelling.f QN.impl_pureCode.f isShF
  have hcode : impl_complexCode.f n xs (fnp 127) = some (codeOf (isC n xs) true) := by unfold impl_complexCode.f; rw [if_pos ⟨by omega, fun _ => rfl⟩]; rfl
  rw [hcode, Option.bind_some]
  cases hi : isC n xs with
  | false => rfl
  | true =>
    unfold impl_Complex_isPure.f impl_Complex_isShelling.f
    rw [if_pos hi, if_pos (And.intro hi hl)]
    cases pureB xs <;> rfl
theorem FnExactIsShelling (n0 : Int) (l0 : List Int) (_ : (Lit.int .i64 n0).wf = true) (hm0 : l0.length ≤ maxLen) (_ : ∀ x ∈ l0, (Lit.int .i64 x).wf = true) (l1 : List Int) (hm1 : l1.length ≤ maxLen) (hw1 : ∀ x ∈ l1, (Lit.int .i64 x).wf = true) : ∃ k, laws_FnExactIsShelling.f k n0 l0 l1 = some true := by
  rcases Nat.lt_or_ge 1048576 l1.length with hl1 | hl1
  · refine ⟨0, ?_⟩
    unfold laws_FnExactIsShelling.f
    rw [if_pos (by omega)]
  rcases Nat.lt_or_ge 1048576 l0.length with hl | hl
  · refine ⟨0, ?_⟩
    unfold laws_FnExactIsShelling.f
    rw [if_neg (by omega), sz_big hm0 hl]
    rfl
  · apply Ev.rounds
    obtain ⟨t, ht, ht0⟩ := sz_ok (n := n0) hl
    have hS := ev_isSh n0 hl hl1
    have hI : impl_IsShelling.f n0 l0 l1 = some (isShF n0 l0 l1) := impl_isSh n0 hl hl1
    generalize isShF n0 l0 l1 = D at hS hI
    obtain ⟨r1, r2⟩ := D
    unfold laws_FnExactIsShelling.f
    simp only [if_neg (show ¬ (l1.length : Int) > 1048576 by omega), ht, Option.bind_some, if_neg ht0]
    refine Ev.bind (ev_toComplex hl) ?_
    refine Ev.bind (ev_toInt hl1) ?_
    refine Ev.bind hS ?_
    refine Ev.bind (ev_toComplex hl) ?_
    refine Ev.bind (ev_toInt hl1) ?_
    simp only [hI, Option.bind_some]
    simp only [bne_self_eq_false, Bool.false_eq_true, if_false, if_true]
    refine Ev.bind (ev_toComplex hl) ?_
    refine Ev.bind (ev_eqComplex hl) ?_
    simp only [if_true]
    refine Ev.bind (ev_toInt hl1) ?_
    refine Ev.bind (ev_eqInt hl1) ?_
    simp only [if_true]
    exact Ev.now _
end Go.Proofs.Ytomdfjohnmikdaa.Pu
