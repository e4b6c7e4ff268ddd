/- Words and lemmas for FnExactCancelFaces, part 6: what the row's text comes to. -/
import Derived.Test.YtdnbmobdiidfmaaGreatZFnExactCancelFacese
set_option linter.unusedVariables false
set_option linter.unusedSimpArgs false
namespace Go.Proofs.YtdnbmobdiidfmaaGreat.QFnExactCancelFaces
open Cw Kp Ext QS Go.RowKit YtdnbmobdiidfmaaGreatW.PrintWords YtdnbmobdiidfmaaGreatW.PrintLast YtdnbmobdiidfmaaGreatW.PrintMore
attribute [local go_sem] max2_int min2_int max_two min_two max_three min_three max_four min_four   -- for this text's walks alone
theorem info2 : (Tryz.prog.info? 2).map (fun i => (i.zero, i.size, i.bytes)) = some (some (.int .i64 0), 1, 8) := by kernel_rfl
theorem info4 : (Tryz.prog.info? 4).map (fun i => (i.zero, i.size, i.bytes)) = some (some (.bool false), 1, 1) := by kernel_rfl
theorem info45 : (Tryz.prog.info? 45).map (fun i => (i.zero, i.size, i.bytes)) = some (some (.agg #[(.int .i64 0), (.int .i64 0)]), 2, 16) := by kernel_rfl
def laws_FnExactCancelFaces.f (k : Nat) (a0_0 : Int) (l0_1 : List Int) (l1 : List (S44)) (a2 : Int) (a3 : Int) : Option (Bool) := (laws_szComplex.f a0_0 l0_1 1048576).bind fun t337 => (if t337 < 0 then (some true) else ((laws_szPairS.f l1 t337).bind fun t338 => (if t338 < 0 then (some true) else ((laws_toComplex.f k a0_0 l0_1).bind fun bt339 => ((laws_toPairS.f k l1).bind fun t343 => ((spec_CancelFaces.f k bt339.1 bt339.2 t343 a2 a3).bind fun bt346 => ((laws_toComplex.f k a0_0 l0_1).bind fun bt350 => ((laws_toPairS.f k l1).bind fun t355 => ((impl_CancelFaces.f bt350.1 bt350.2 t355 a2 a3).bind fun bt358 => ((laws_eqPairS.f k bt358.1 bt346.1).bind fun t362 => (if t362 = true then (if bt358.2 = bt346.2 then ((laws_toComplex.f k a0_0 l0_1).bind fun bt363 => ((laws_eqComplex.f k bt350.1 bt350.2 bt363.1 bt363.2).bind fun t367 => (if t367 = true then ((laws_toPairS.f k l1).bind fun t368 => ((laws_eqPairS.f k t355 t368).bind fun t371 => (if t371 = true then ((laws_markComplex.f k bt350.1 bt350.2 1).bind fun bt372 => ((laws_markPairS.f t355 bt372.1).bind fun bt374 => (if bt374.1 < 0 then (none) else ((laws_eqPairS.f k bt358.1 bt346.1).bind fun t376 => (if t376 = true then ((laws_markPairS.f bt358.1 1).bind fun bt377 => ((laws_heldPairS.f bt377.2 1).bind fun t379 => (if t379 < 0 then (none) else (if t379 = bt377.1 then ((laws_toComplex.f k a0_0 l0_1).bind fun bt380 => ((laws_toPairS.f k l1).bind fun t384 => ((impl_CancelFaces.f bt380.1 bt380.2 t384 a2 a3).bind fun bt387 => ((laws_eqPairS.f k bt387.1 bt346.1).bind fun t391 => (if t391 = true then (if bt387.2 = bt346.2 then ((laws_heldPairS.f bt377.2 1).bind fun t392 => (if t392 < 0 then (none) else (if t392 = bt377.1 then (some true) else (none)))) else (none)) else (none)))))) else (none))))) else (none)))))) else (none)))) else (none)))) else (none)) else (none))))))))))))
set_option maxHeartbeats 8000000 in
set_option maxRecDepth 100000 in
theorem laws_FnExactCancelFaces.calls (k : Nat) (a0_0 : Int) (A0_1 : Option Addr) (c0_1 : Nat) (l0_1 : List Int) (A1 : Option Addr) (c1 : Nat) (l1 : List (S44)) (a2 : Int) (a3 : Int) (r : Bool) (w : World) (hr0_1 : Kd.C (Kd.int .i64) w A0_1 l0_1.length l0_1) (hc0_1 : l0_1.length ≤ c0_1) (hr1 : Kd.C k44 w A1 l1.length l1) (hc1 : l1.length ≤ c1) (h : laws_FnExactCancelFaces.f k a0_0 l0_1 l1 a2 a3 = some r) :
  Calls Tryz.prog 3 #[.agg #[.int .i64 a0_0, .slice A0_1 l0_1.length c0_1], .slice A1 l1.length c1, .int .i64 a2, .int .i64 a3] w fun e w' => e = .returned (.bool r) ∧ Below w.heap.size w w' := by
 have hu24 := Tryz.underlying24
 have hu31 := Tryz.underlying31
 have HR0_1 := Aside0.mk hr0_1
 have HC0_1 := Aside0.mk hc0_1
 clear hr0_1 hc0_1
 have HR1 := Aside0.mk hr1
 have HC1 := Aside0.mk hc1
 clear hr1 hc1
 have HB := Aside0.mk (Below.refl w.heap.size w)
 have H : ((laws_szComplex.f a0_0 l0_1 1048576).bind fun t337 => (if t337 < 0 then (some true) else ((laws_szPairS.f l1 t337).bind fun t338 => (if t338 < 0 then (some true) else ((laws_toComplex.f k a0_0 l0_1).bind fun bt339 => ((laws_toPairS.f k l1).bind fun t343 => ((spec_CancelFaces.f k bt339.1 bt339.2 t343 a2 a3).bind fun bt346 => ((laws_toComplex.f k a0_0 l0_1).bind fun bt350 => ((laws_toPairS.f k l1).bind fun t355 => ((impl_CancelFaces.f bt350.1 bt350.2 t355 a2 a3).bind fun bt358 => ((laws_eqPairS.f k bt358.1 bt346.1).bind fun t362 => (if t362 = true then (if bt358.2 = bt346.2 then ((laws_toComplex.f k a0_0 l0_1).bind fun bt363 => ((laws_eqComplex.f k bt350.1 bt350.2 bt363.1 bt363.2).bind fun t367 => (if t367 = true then ((laws_toPairS.f k l1).bind fun t368 => ((laws_eqPairS.f k t355 t368).bind fun t371 => (if t371 = true then ((laws_markComplex.f k bt350.1 bt350.2 1).bind fun bt372 => ((laws_markPairS.f t355 bt372.1).bind fun bt374 => (if bt374.1 < 0 then (none) else ((laws_eqPairS.f k bt358.1 bt346.1).bind fun t376 => (if t376 = true then ((laws_markPairS.f bt358.1 1).bind fun bt377 => ((laws_heldPairS.f bt377.2 1).bind fun t379 => (if t379 < 0 then (none) else (if t379 = bt377.1 then ((laws_toComplex.f k a0_0 l0_1).bind fun bt380 => ((laws_toPairS.f k l1).bind fun t384 => ((impl_CancelFaces.f bt380.1 bt380.2 t384 a2 a3).bind fun bt387 => ((laws_eqPairS.f k bt387.1 bt346.1).bind fun t391 => (if t391 = true then (if bt387.2 = bt346.2 then ((laws_heldPairS.f bt377.2 1).bind fun t392 => (if t392 < 0 then (none) else (if t392 = bt377.1 then (some true) else (none)))) else (none)) else (none)))))) else (none))))) else (none)))))) else (none)))) else (none)))) else (none)) else (none))))))))))))) = some r := h
 clear h
 replace H := Option.bind_eq_some_iff.mp H
 obtain ⟨t337, A50, H⟩ := H
 try dsimp only at H
 have A5 := Aside0.mk A50
 clear A50
 by_cases c6 : t337 < 0
 ·rw [if_pos c6] at H
  have c6b0 : decide (t337 < 0) = true := decide_eq_true c6
  clear c6
  obtain rfl := Option.some.inj H
  go_enter Tryz.func3, Tryz.ntmps3
  go_wp2_with (first | ((with_reducible refine gate_dst (N := 4) rfl ?_); refine box_event ?hg (N := 4) ?hd (cs := #[.int .i64 a0_0, .slice A0_1 l0_1.length c0_1]) (t := 24) ?hr ?_; (case hd => rfl); (case hg => rfl); (case hr => first | (go_simp; done) | (go_simp; rfl)); intro gb336 hg w7 hbox hb; have BK336 := Aside0.mk (hbox); have GW336 := gH HB hg; have GE336 := gH HB hg; replace HB := sH HB hb; clear hb hbox hg; have hcz8_0 : w7.cell? ⟨gb336, 0, none⟩ = some (.int .i64 a0_0) := cB BK336 0; have hcz8_1 : w7.cell? ⟨gb336, 1, none⟩ = some (.slice A0_1 l0_1.length c0_1) := cB BK336 1; have hfz8_0 := zB BK336 0; have hfz8_1 := zB BK336 1) | ((with_reducible refine gate_callee (f := 4) rfl ?_); refine cl_ (some 23) Tryz.func4 #[.agg #[.int .i64 a0_0, .slice A0_1 l0_1.length c0_1], .int .i64 1048576] ?_; (with_reducible refine (laws_szComplex.calls a0_0 _ _ l0_1 1048576 t337 _ ?side1 ?side2 A5.out).mono ?_); (case side1 => exact pC ((Kd.C_below HR0_1.out HB.out))); (case side2 => exact HC0_1.out); rintro e w9 ⟨rfl, hb⟩; refine ⟨_, rfl, ?_⟩; replace BK336 := sB BK336 hb; replace HB := sH HB hb; (try clear hb); (try clear hi)))
  go_ret
  exact ⟨by first | rfl | (simp [errW_none, errW_some] <;> rfl) | (simp [*, errW_none, errW_some] <;> rfl) | (exfalso; simp_all), pH HB⟩
 ·rw [if_neg c6] at H
  have c6b0 : decide (t337 < 0) = false := decide_eq_false c6
  clear c6
  replace H := Option.bind_eq_some_iff.mp H
  obtain ⟨t338, A100, H⟩ := H
  try dsimp only at H
  have A10 := Aside0.mk A100
  clear A100
  by_cases c11 : t338 < 0
  ·rw [if_pos c11] at H
   have c11b0 : decide (t338 < 0) = true := decide_eq_true c11
   clear c11
   obtain rfl := Option.some.inj H
   go_enter Tryz.func3, Tryz.ntmps3
   go_wp2_with (first | ((with_reducible refine gate_dst (N := 4) rfl ?_); refine box_event ?hg (N := 4) ?hd (cs := #[.int .i64 a0_0, .slice A0_1 l0_1.length c0_1]) (t := 24) ?hr ?_; (case hd => rfl); (case hg => rfl); (case hr => first | (go_simp; done) | (go_simp; rfl)); intro gb336 hg w12 hbox hb; have BK336 := Aside0.mk (hbox); have GW336 := gH HB hg; have GE336 := gH HB hg; replace HB := sH HB hb; clear hb hbox hg; have hcz13_0 : w12.cell? ⟨gb336, 0, none⟩ = some (.int .i64 a0_0) := cB BK336 0; have hcz13_1 : w12.cell? ⟨gb336, 1, none⟩ = some (.slice A0_1 l0_1.length c0_1) := cB BK336 1; have hfz13_0 := zB BK336 0; have hfz13_1 := zB BK336 1) | ((with_reducible refine gate_callee (f := 4) rfl ?_); refine cl_ (some 23) Tryz.func4 #[.agg #[.int .i64 a0_0, .slice A0_1 l0_1.length c0_1], .int .i64 1048576] ?_; (with_reducible refine (laws_szComplex.calls a0_0 _ _ l0_1 1048576 t337 _ ?side1 ?side2 A5.out).mono ?_); (case side1 => exact pC ((Kd.C_below HR0_1.out HB.out))); (case side2 => exact HC0_1.out); rintro e w14 ⟨rfl, hb⟩; refine ⟨_, rfl, ?_⟩; replace BK336 := sB BK336 hb; replace HB := sH HB hb; (try clear hb); (try clear hi)) | ((with_reducible refine gate_callee (f := 5) rfl ?_); refine cl_ (some 28) Tryz.func5 #[.slice A1 l1.length c1, .int .i64 t337] ?_; (with_reducible refine (laws_szPairS.calls _ _ l1 t337 t338 _ ?side1 ?side2 A10.out).mono ?_); (case side1 => exact pC ((Kd.C_below HR1.out HB.out))); (case side2 => exact HC1.out); rintro e w' ⟨rfl, ⟨nd, rfl⟩⟩; refine ⟨_, rfl, ?_⟩))
   go_ret
   exact ⟨by first | rfl | (simp [errW_none, errW_some] <;> rfl) | (simp [*, errW_none, errW_some] <;> rfl) | (exfalso; simp_all), pH HB⟩
  ·rw [if_neg c11] at H
   have c11b0 : decide (t338 < 0) = false := decide_eq_false c11
   clear c11
   replace H := Option.bind_eq_some_iff.mp H
   obtain ⟨⟨t339, t340⟩, A150, H⟩ := H
   try dsimp only at H
   have A15 := Aside0.mk A150
   clear A150
   replace H := Option.bind_eq_some_iff.mp H
   obtain ⟨t343, A160, H⟩ := H
   try dsimp only at H
   have A16 := Aside0.mk A160
   clear A160
   replace H := Option.bind_eq_some_iff.mp H
   obtain ⟨⟨t346, t349⟩, A170, H⟩ := H
   try dsimp only at H
   have A17 := Aside0.mk A170
   clear A170
   replace H := Option.bind_eq_some_iff.mp H
   obtain ⟨⟨t350, t351⟩, A180, H⟩ := H
   try dsimp only at H
   have A18 := Aside0.mk A180
   clear A180
   replace H := Option.bind_eq_some_iff.mp H
   obtain ⟨t355, A190, H⟩ := H
   try dsimp only at H
   have A19 := Aside0.mk A190
   clear A190
   replace H := Option.bind_eq_some_iff.mp H
   obtain ⟨⟨t358, t361⟩, A200, H⟩ := H
   try dsimp only at H
   have A20 := Aside0.mk A200
   clear A200
   replace H := Option.bind_eq_some_iff.mp H
   obtain ⟨t362, A210, H⟩ := H
   try dsimp only at H
   have A21 := Aside0.mk A210
   clear A210
   by_cases c22 : t362 = true
   ·subst c22
    have H1 : (if t361 = t349 then ((laws_toComplex.f k a0_0 l0_1).bind fun bt363 => ((laws_eqComplex.f k t350 t351 bt363.1 bt363.2).bind fun t367 => (if t367 = true then ((laws_toPairS.f k l1).bind fun t368 => ((laws_eqPairS.f k t355 t368).bind fun t371 => (if t371 = true then ((laws_markComplex.f k t350 t351 1).bind fun bt372 => ((laws_markPairS.f t355 bt372.1).bind fun bt374 => (if bt374.1 < 0 then (none) else ((laws_eqPairS.f k t358 t346).bind fun t376 => (if t376 = true then ((laws_markPairS.f t358 1).bind fun bt377 => ((laws_heldPairS.f bt377.2 1).bind fun t379 => (if t379 < 0 then (none) else (if t379 = bt377.1 then ((laws_toComplex.f k a0_0 l0_1).bind fun bt380 => ((laws_toPairS.f k l1).bind fun t384 => ((impl_CancelFaces.f bt380.1 bt380.2 t384 a2 a3).bind fun bt387 => ((laws_eqPairS.f k bt387.1 t346).bind fun t391 => (if t391 = true then (if bt387.2 = t349 then ((laws_heldPairS.f bt377.2 1).bind fun t392 => (if t392 < 0 then (none) else (if t392 = bt377.1 then (some true) else (none)))) else (none)) else (none)))))) else (none))))) else (none)))))) else (none)))) else (none)))) else (none)) = some r := by rw [if_pos rfl] at H; exact H
    clear H
    have H := H1
    clear H1
    by_cases c23 : t361 = t349
    ·rw [if_pos c23] at H
     have c23b0 : (t361 == t349) = true := beq_iff_eq.mpr c23
     have c23b1 : (t361 != t349) = false := bne_eq_false_iff_eq.mpr c23
     clear c23
     replace H := Option.bind_eq_some_iff.mp H
     obtain ⟨⟨t363, t364⟩, A240, H⟩ := H
     try dsimp only at H
     have A24 := Aside0.mk A240
     clear A240
     replace H := Option.bind_eq_some_iff.mp H
     obtain ⟨t367, A250, H⟩ := H
     try dsimp only at H
     have A25 := Aside0.mk A250
     clear A250
     by_cases c26 : t367 = true
     ·subst c26
      have H1 : ((laws_toPairS.f k l1).bind fun t368 => ((laws_eqPairS.f k t355 t368).bind fun t371 => (if t371 = true then ((laws_markComplex.f k t350 t351 1).bind fun bt372 => ((laws_markPairS.f t355 bt372.1).bind fun bt374 => (if bt374.1 < 0 then (none) else ((laws_eqPairS.f k t358 t346).bind fun t376 => (if t376 = true then ((laws_markPairS.f t358 1).bind fun bt377 => ((laws_heldPairS.f bt377.2 1).bind fun t379 => (if t379 < 0 then (none) else (if t379 = bt377.1 then ((laws_toComplex.f k a0_0 l0_1).bind fun bt380 => ((laws_toPairS.f k l1).bind fun t384 => ((impl_CancelFaces.f bt380.1 bt380.2 t384 a2 a3).bind fun bt387 => ((laws_eqPairS.f k bt387.1 t346).bind fun t391 => (if t391 = true then (if bt387.2 = t349 then ((laws_heldPairS.f bt377.2 1).bind fun t392 => (if t392 < 0 then (none) else (if t392 = bt377.1 then (some true) else (none)))) else (none)) else (none)))))) else (none))))) else (none)))))) else (none)))) = some r := by rw [if_pos rfl] at H; exact H
      clear H
      have H := H1
      clear H1
      replace H := Option.bind_eq_some_iff.mp H
      obtain ⟨t368, A270, H⟩ := H
      try dsimp only at H
      have A27 := Aside0.mk A270
      clear A270
      replace H := Option.bind_eq_some_iff.mp H
      obtain ⟨t371, A280, H⟩ := H
      try dsimp only at H
      have A28 := Aside0.mk A280
      clear A280
      by_cases c29 : t371 = true
      ·subst c29
       have H1 : ((laws_markComplex.f k t350 t351 1).bind fun bt372 => ((laws_markPairS.f t355 bt372.1).bind fun bt374 => (if bt374.1 < 0 then (none) else ((laws_eqPairS.f k t358 t346).bind fun t376 => (if t376 = true then ((laws_markPairS.f t358 1).bind fun bt377 => ((laws_heldPairS.f bt377.2 1).bind fun t379 => (if t379 < 0 then (none) else (if t379 = bt377.1 then ((laws_toComplex.f k a0_0 l0_1).bind fun bt380 => ((laws_toPairS.f k l1).bind fun t384 => ((impl_CancelFaces.f bt380.1 bt380.2 t384 a2 a3).bind fun bt387 => ((laws_eqPairS.f k bt387.1 t346).bind fun t391 => (if t391 = true then (if bt387.2 = t349 then ((laws_heldPairS.f bt377.2 1).bind fun t392 => (if t392 < 0 then (none) else (if t392 = bt377.1 then (some true) else (none)))) else (none)) else (none)))))) else (none))))) else (none)))))) = some r := by rw [if_pos rfl] at H; exact H
       clear H
       have H := H1
       clear H1
       replace H := Option.bind_eq_some_iff.mp H
       obtain ⟨⟨t372, t373⟩, A300, H⟩ := H
       try dsimp only at H
       have A30 := Aside0.mk A300
       clear A300
       replace H := Option.bind_eq_some_iff.mp H
       obtain ⟨⟨t374, t375⟩, A310, H⟩ := H
       try dsimp only at H
       have A31 := Aside0.mk A310
       clear A310
       by_cases c32 : t374 < 0
       ·rw [if_pos c32] at H
        exact absurd H (by simp)
       ·rw [if_neg c32] at H
        have c32b0 : decide (t374 < 0) = false := decide_eq_false c32
        clear c32
        replace H := Option.bind_eq_some_iff.mp H
        obtain ⟨t376, A330, H⟩ := H
        try dsimp only at H
        have A33 := Aside0.mk A330
        clear A330
        by_cases c34 : t376 = true
        ·subst c34
         have H1 : ((laws_markPairS.f t358 1).bind fun bt377 => ((laws_heldPairS.f bt377.2 1).bind fun t379 => (if t379 < 0 then (none) else (if t379 = bt377.1 then ((laws_toComplex.f k a0_0 l0_1).bind fun bt380 => ((laws_toPairS.f k l1).bind fun t384 => ((impl_CancelFaces.f bt380.1 bt380.2 t384 a2 a3).bind fun bt387 => ((laws_eqPairS.f k bt387.1 t346).bind fun t391 => (if t391 = true then (if bt387.2 = t349 then ((laws_heldPairS.f bt377.2 1).bind fun t392 => (if t392 < 0 then (none) else (if t392 = bt377.1 then (some true) else (none)))) else (none)) else (none)))))) else (none))))) = some r := by rw [if_pos rfl] at H; exact H
         clear H
         have H := H1
         clear H1
         replace H := Option.bind_eq_some_iff.mp H
         obtain ⟨⟨t377, t378⟩, A350, H⟩ := H
         try dsimp only at H
         have A35 := Aside0.mk A350
         clear A350
         replace H := Option.bind_eq_some_iff.mp H
         obtain ⟨t379, A360, H⟩ := H
         try dsimp only at H
         have A36 := Aside0.mk A360
         clear A360
         by_cases c37 : t379 < 0
         ·rw [if_pos c37] at H
          exact absurd H (by simp)
         ·rw [if_neg c37] at H
          have c37b0 : decide (t379 < 0) = false := decide_eq_false c37
          clear c37
          by_cases c38 : t379 = t377
          ·rw [if_pos c38] at H
           have c38b0 : (t379 == t377) = true := beq_iff_eq.mpr c38
           have c38b1 : (t379 != t377) = false := bne_eq_false_iff_eq.mpr c38
           clear c38
           replace H := Option.bind_eq_some_iff.mp H
           obtain ⟨⟨t380, t381⟩, A390, H⟩ := H
           try dsimp only at H
           have A39 := Aside0.mk A390
           clear A390
           replace H := Option.bind_eq_some_iff.mp H
           obtain ⟨t384, A400, H⟩ := H
           try dsimp only at H
           have A40 := Aside0.mk A400
           clear A400
           replace H := Option.bind_eq_some_iff.mp H
           obtain ⟨⟨t387, t390⟩, A410, H⟩ := H
           try dsimp only at H
           have A41 := Aside0.mk A410
           clear A410
           replace H := Option.bind_eq_some_iff.mp H
           obtain ⟨t391, A420, H⟩ := H
           try dsimp only at H
           have A42 := Aside0.mk A420
           clear A420
           by_cases c43 : t391 = true
           ·subst c43
            have H1 : (if t390 = t349 then ((laws_heldPairS.f t378 1).bind fun t392 => (if t392 < 0 then (none) else (if t392 = t377 then (some true) else (none)))) else (none)) = some r := by rw [if_pos rfl] at H; exact H
            clear H
            have H := H1
            clear H1
            by_cases c44 : t390 = t349
            ·rw [if_pos c44] at H
             have c44b0 : (t390 == t349) = true := beq_iff_eq.mpr c44
             have c44b1 : (t390 != t349) = false := bne_eq_false_iff_eq.mpr c44
             clear c44
             replace H := Option.bind_eq_some_iff.mp H
             obtain ⟨t392, A450, H⟩ := H
             try dsimp only at H
             have A45 := Aside0.mk A450
             clear A450
             by_cases c46 : t392 < 0
             ·rw [if_pos c46] at H
              exact absurd H (by simp)
             ·rw [if_neg c46] at H
              have c46b0 : decide (t392 < 0) = false := decide_eq_false c46
              clear c46
              by_cases c47 : t392 = t377
              ·rw [if_pos c47] at H
               have c47b0 : (t392 == t377) = true := beq_iff_eq.mpr c47
               have c47b1 : (t392 != t377) = false := bne_eq_false_iff_eq.mpr c47
               clear c47
               obtain rfl := Option.some.inj H
               go_enter Tryz.func3, Tryz.ntmps3
               try go_wp2_with (first | ((with_reducible refine gate_dst (N := 4) rfl ?_); refine box_event ?hg (N := 4) ?hd (cs := #[.int .i64 a0_0, .slice A0_1 l0_1.length c0_1]) (t := 24) ?hr ?_; (case hd => rfl); (case hg => rfl); (case hr => first | (go_simp; done) | (go_simp; rfl)); intro gb336 hg w48 hbox hb; have BK336 := Aside0.mk (hbox); have GW336 := gH HB hg; have GE336 := gH HB hg; replace HB := sH HB hb; clear hb hbox hg; have hcz49_0 : w48.cell? ⟨gb336, 0, none⟩ = some (.int .i64 a0_0) := cB BK336 0; have hcz49_1 : w48.cell? ⟨gb336, 1, none⟩ = some (.slice A0_1 l0_1.length c0_1) := cB BK336 1; have hfz49_0 := zB BK336 0; have hfz49_1 := zB BK336 1) | ((with_reducible refine gate_callee (f := 4) rfl ?_); refine cl_ (some 23) Tryz.func4 #[.agg #[.int .i64 a0_0, .slice A0_1 l0_1.length c0_1], .int .i64 1048576] ?_; (with_reducible refine (laws_szComplex.calls a0_0 _ _ l0_1 1048576 t337 _ ?side1 ?side2 A5.out).mono ?_); (case side1 => exact pC ((Kd.C_below HR0_1.out HB.out))); (case side2 => exact HC0_1.out); rintro e w50 ⟨rfl, hb⟩; refine ⟨_, rfl, ?_⟩; replace BK336 := sB BK336 hb; replace HB := sH HB hb; (try clear hb); (try clear hi)) | ((with_reducible refine gate_callee (f := 5) rfl ?_); refine cl_ (some 28) Tryz.func5 #[.slice A1 l1.length c1, .int .i64 t337] ?_; (with_reducible refine (laws_szPairS.calls _ _ l1 t337 t338 _ ?side1 ?side2 A10.out).mono ?_); (case side1 => exact pC ((Kd.C_below HR1.out HB.out))); (case side2 => exact HC1.out); rintro e w' ⟨rfl, ⟨nd, rfl⟩⟩; refine ⟨_, rfl, ?_⟩; (try (rw [drewN_self w50]; generalize hq_ : World.drewN w50 _ = w50; have n0_ : Aside0 (w50.heap[gb336]? = some (.cells #[.int .i64 a0_0, .slice A0_1 l0_1.length c0_1] 24 (0, 0))) := ⟨by rw [← hq_]; exact (pB BK336)⟩; have n1_ : Aside0 (Below w.heap.size w w50) := ⟨by rw [← hq_]; exact (pH HB)⟩; clear BK336 HB hq_; have BK336 := n0_; have HB := n1_; clear n0_ n1_)); (try (have hcz51_0 : w50.cell? ⟨gb336, 0, none⟩ = some (.int .i64 a0_0) := cB BK336 0; have hcz51_1 : w50.cell? ⟨gb336, 1, none⟩ = some (.slice A0_1 l0_1.length c0_1) := cB BK336 1; have hfz51_0 := zB BK336 0; have hfz51_1 := zB BK336 1)); have hcz52_0 : w50.cell? ⟨gb336, 0, none⟩ = some (.int .i64 a0_0) := cB BK336 0; have hcz52_1 : w50.cell? ⟨gb336, 1, none⟩ = some (.slice A0_1 l0_1.length c0_1) := cB BK336 1; have hfz52_0 := zB BK336 0; have hfz52_1 := zB BK336 1) | ((with_reducible refine gate_callee (f := 7) rfl ?_); refine cl_ (some 33) Tryz.func7 #[.agg #[.int .i64 a0_0, .slice A0_1 l0_1.length c0_1]] ?_; (with_reducible refine (laws_toComplex.calls k a0_0 _ _ l0_1 t339 t340 _ ?side1 ?side2 A15.out).mono ?_); (case side1 => exact pC ((Kd.C_below HR0_1.out HB.out))); (case side2 => exact HC0_1.out); rintro e w53 ⟨v341, rfl, ho0, hb⟩; refine ⟨_, rfl, ?_⟩; have HO342 := Aside0.mk (Kd.R_lower ho0 (below_size (pH HB))); replace BK336 := sB BK336 hb; replace HB := sH HB hb; (try clear hb); (try clear hi); (try clear ho0)) | ((with_reducible refine gate_callee (f := 8) rfl ?_); refine cl_ (some 35) Tryz.func8 #[.slice A1 l1.length c1] ?_; (with_reducible refine (laws_toPairS.calls k _ _ l1 t343 _ ?side1 ?side2 A16.out).mono ?_); (case side1 => exact pC ((Kd.C_below HR1.out HB.out))); (case side2 => exact HC1.out); rintro e w54 ⟨v344, rfl, ho0, hb⟩; refine ⟨_, rfl, ?_⟩; replace HO342 := sR HO342 hb; have HO345 := Aside0.mk (Kd.R_lower ho0 (below_size (pH HB))); replace BK336 := sB BK336 hb; replace HB := sH HB hb; (try clear hb); (try clear hi); (try clear ho0); obtain ⟨Ao55, co55, eo55⟩ := Kd.R_slice HO342.out; subst eo55; obtain ⟨Ao56, co56, eo56⟩ := Kd.R_slice HO345.out; subst eo56) | ((with_reducible refine gate_callee (f := 6) rfl ?_); refine cl_ (some 38) Tryz.func6 #[.agg #[.int .i64 t339, .slice Ao55 t340.length co55], .slice Ao56 t343.length co56, .int .i64 a2, .int .i64 a3] ?_; (with_reducible refine (spec_CancelFaces.calls k t339 _ _ t340 _ _ t343 a2 a3 t346 t349 _ ?side1 ?side2 ?side3 ?side4 A17.out).mono ?_); (case side1 => exact pC ((Kd.R_reads' HO342.out).2.2)); (case side2 => exact (Kd.R_reads' HO342.out).2.1); (case side3 => exact pC ((Kd.R_reads' HO345.out).2.2)); (case side4 => exact (Kd.R_reads' HO345.out).2.1); rintro e w57 ⟨v347, rfl, ho0, hb⟩; refine ⟨_, rfl, ?_⟩; replace HO342 := sR HO342 hb; have HO348 := Aside0.mk (Kd.R_lower (Kd.R_new' ho0 (Kd.R_lt (pR HO345))) (below_size (pH HB))); replace HO345 := Aside0.mk (Kd.R_elder' (pR HO345) (Kd.R_base ho0) hb); replace BK336 := sB BK336 hb; replace HB := sH HB hb; (try clear hb); (try clear hi); (try clear ho0); have hcz58_0 : w57.cell? ⟨gb336, 0, none⟩ = some (.int .i64 a0_0) := cB BK336 0; have hcz58_1 : w57.cell? ⟨gb336, 1, none⟩ = some (.slice A0_1 l0_1.length c0_1) := cB BK336 1; have hfz58_0 := zB BK336 0; have hfz58_1 := zB BK336 1) | ((with_reducible refine gate_callee (f := 7) rfl ?_); refine cl_ (some 42) Tryz.func7 #[.agg #[.int .i64 a0_0, .slice A0_1 l0_1.length c0_1]] ?_; (with_reducible refine (laws_toComplex.calls k a0_0 _ _ l0_1 t350 t351 _ ?side1 ?side2 A18.out).mono ?_); (case side1 => exact pC ((Kd.C_below HR0_1.out HB.out))); (case side2 => exact HC0_1.out); rintro e w59 ⟨v352, rfl, ho0, hb⟩; refine ⟨_, rfl, ?_⟩; replace HO345 := sR HO345 hb; replace HO348 := sR HO348 hb; have HO353 := Aside0.mk (Kd.R_lower (Kd.R_new' ho0 (Kd.R_lt (pR HO342))) (below_size (pH HB))); replace HO342 := Aside0.mk (Kd.R_elder' (pR HO342) (Kd.R_base ho0) hb); replace BK336 := sB BK336 hb; replace HB := sH HB hb; (try clear hb); (try clear hi); (try clear ho0)) | ((with_reducible refine gate_dst (N := 12) rfl ?_); refine box_event ?hg (N := 12) ?hd (cs := #[.int .i64 0, .slice none 0 0]) (t := 31) ?hr ?_; (case hd => rfl); (case hg => rfl); (case hr => first | (go_simp; done) | (go_simp; rfl)); intro gb354 hg w60 hbox hb; replace HO342 := sR HO342 hb; replace HO345 := sR HO345 hb; replace HO348 := sR HO348 hb; replace HO353 := sR HO353 hb; have BK354 := Aside0.mk (hbox); have GW354 := gH HB hg; have GE354 := gH HB hg; replace HB := sH HB hb; have NB336_354 := nB BK336 hg; have NB354_336 := oB BK336 hg; replace BK336 := sB BK336 hb; clear hb hbox hg; (try have hnb61 := NB354_336.out); (try have hnc61 := NB336_354.out); have hcz62_0 : w60.cell? ⟨gb354, 0, none⟩ = some (.int .i64 0) := cB BK354 0; have hcz62_1 : w60.cell? ⟨gb354, 1, none⟩ = some (.slice none 0 0) := cB BK354 1; have hfz62_0 := zB BK354 0; have hfz62_1 := zB BK354 1; obtain ⟨Ao63, co63, eo63⟩ := Kd.R_slice HO353.out; subst eo63) | ((with_reducible refine gate_callee (f := 8) rfl ?_); refine cl_ (some 44) Tryz.func8 #[.slice A1 l1.length c1] ?_; (with_reducible refine (laws_toPairS.calls k _ _ l1 t355 _ ?side1 ?side2 A19.out).mono ?_); (case side1 => exact Kd.C_below HR1.out (pH HB)); (case side2 => exact HC1.out); rintro e w64 ⟨v356, rfl, ho0, hb⟩; refine ⟨_, rfl, ?_⟩; have n0_ := Aside0.mk (Kd.R_below (by (with_reducible repeat (first | apply Kd.R_alloc | apply Kd.R_drewN | apply Kd.R_drew)); exact (Kd.R_mono (Kd.R_far (p := ⟨gb354, 1, none⟩) (Kd.R_far (p := ⟨gb354, 0, none⟩) (Kd.R_types HO342.out BK354.out (by decide)) (fun _ hk => hk.2) (.int .i64 t350)) (fun _ hk => hk.2) (.slice Ao63 t351.length co63)) (fun _ h_ => h_.1))) hb); have n1_ := Aside0.mk (Kd.R_elder' (by (with_reducible repeat (first | apply Kd.R_alloc | apply Kd.R_drewN | apply Kd.R_drew)); exact (Kd.R_mono (Kd.R_far (p := ⟨gb354, 1, none⟩) (Kd.R_far (p := ⟨gb354, 0, none⟩) (Kd.R_types HO345.out BK354.out (by decide)) (fun _ hk => hk.2) (.int .i64 t350)) (fun _ hk => hk.2) (.slice Ao63 t351.length co63)) (fun _ h_ => h_.1))) (Kd.R_base ho0) hb); have n2_ := Aside0.mk (Kd.R_elder' (by (with_reducible repeat (first | apply Kd.R_alloc | apply Kd.R_drewN | apply Kd.R_drew)); exact (Kd.R_mono (Kd.R_far (p := ⟨gb354, 1, none⟩) (Kd.R_far (p := ⟨gb354, 0, none⟩) (Kd.R_types HO348.out BK354.out (by decide)) (fun _ hk => hk.2) (.int .i64 t350)) (fun _ hk => hk.2) (.slice Ao63 t351.length co63)) (fun _ h_ => h_.1))) (Kd.R_base ho0) hb); have n3_ := Aside0.mk (Kd.R_below (by (with_reducible repeat (first | apply Kd.R_alloc | apply Kd.R_drewN | apply Kd.R_drew)); exact (Kd.R_mono (Kd.R_far (p := ⟨gb354, 1, none⟩) (Kd.R_far (p := ⟨gb354, 0, none⟩) (Kd.R_types HO353.out BK354.out (by decide)) (fun _ hk => hk.2) (.int .i64 t350)) (fun _ hk => hk.2) (.slice Ao63 t351.length co63)) (fun _ h_ => h_.1))) hb); have n4_ := Aside0.mk (Kd.R_lower (Kd.R_new' (Kd.R_new' ho0 (Kd.R_lt (by (with_reducible repeat (first | apply Kd.R_alloc | apply Kd.R_drewN | apply Kd.R_drew)); exact (Kd.R_mono (Kd.R_far (p := ⟨gb354, 1, none⟩) (Kd.R_far (p := ⟨gb354, 0, none⟩) (Kd.R_types HO345.out BK354.out (by decide)) (fun _ hk => hk.2) (.int .i64 t350)) (fun _ hk => hk.2) (.slice Ao63 t351.length co63)) (fun _ h_ => h_.1))))) (Kd.R_lt (by (with_reducible repeat (first | apply Kd.R_alloc | apply Kd.R_drewN | apply Kd.R_drew)); exact (Kd.R_mono (Kd.R_far (p := ⟨gb354, 1, none⟩) (Kd.R_far (p := ⟨gb354, 0, none⟩) (Kd.R_types HO348.out BK354.out (by decide)) (fun _ hk => hk.2) (.int .i64 t350)) (fun _ hk => hk.2) (.slice Ao63 t351.length co63)) (fun _ h_ => h_.1))))) (below_size (pH HB))); have n5_ := Aside0.mk (blk_below (g := gb336) (o := .cells #[.int .i64 a0_0, .slice A0_1 l0_1.length c0_1] 24 (0, 0)) (by (with_reducible repeat (first | refine blk_drewN ?_ _ | refine blk_drew ?_ | refine blk_alloc ?_ _)); refine blk_far ?_ NB336_354.out _; (with_reducible repeat (first | refine blk_drewN ?_ _ | refine blk_drew ?_ | refine blk_alloc ?_ _)); refine blk_far ?_ NB336_354.out _; (with_reducible repeat (first | refine blk_drewN ?_ _ | refine blk_drew ?_ | refine blk_alloc ?_ _)); exact BK336.out) hb); have n6_ := Aside0.mk (blk_below (g := gb354) (o := .cells #[.int .i64 t350, .slice Ao63 t351.length co63] 31 (0, 0)) (by (with_reducible repeat (first | refine blk_drewN ?_ _ | refine blk_drew ?_ | refine blk_alloc ?_ _)); refine blk_put (cs := #[.int .i64 t350, .slice none 0 0]) ?_ 1 _ rfl; (with_reducible repeat (first | refine blk_drewN ?_ _ | refine blk_drew ?_ | refine blk_alloc ?_ _)); refine blk_put (cs := #[.int .i64 0, .slice none 0 0]) ?_ 0 _ rfl; (with_reducible repeat (first | refine blk_drewN ?_ _ | refine blk_drew ?_ | refine blk_alloc ?_ _)); exact BK354.out) hb); have n7_ := sH HB hb; clear HO342; clear HO345; clear HO348; clear HO353; clear BK336; clear BK354; clear HB; have HO342 := n0_; have HO345 := n1_; have HO348 := n2_; have HO353 := n3_; have HO357 := n4_; have BK336 := n5_; have BK354 := n6_; have HB := n7_; clear n0_ n1_ n2_ n3_ n4_ n5_ n6_ n7_; (try clear hb); (try clear hi); (try clear ho0); have hcz65_0 : w64.cell? ⟨gb354, 0, none⟩ = some (.int .i64 t350) := cB BK354 0; have hcz65_1 : w64.cell? ⟨gb354, 1, none⟩ = some (.slice Ao63 t351.length co63) := cB BK354 1; have hfz65_0 := zB BK354 0; have hfz65_1 := zB BK354 1; obtain ⟨Ao66, co66, eo66⟩ := Kd.R_slice HO357.out; subst eo66) | ((with_reducible refine gate_callee (f := 9) rfl ?_); refine cl_ (some 50) Tryz.func9 #[.agg #[.int .i64 t350, .slice Ao63 t351.length co63], .slice Ao66 t355.length co66, .int .i64 a2, .int .i64 a3] ?_; (with_reducible refine (impl_CancelFaces.calls t350 _ _ t351 _ _ t355 a2 a3 t358 t361 _ ?side1 ?side2 ?side3 ?side4 A20.out).mono ?_); (case side1 => exact pC ((Kd.R_reads' HO353.out).2.2)); (case side2 => exact (Kd.R_reads' HO353.out).2.1); (case side3 => exact pC ((Kd.R_reads' HO357.out).2.2)); (case side4 => exact (Kd.R_reads' HO357.out).2.1); rintro e w67 ⟨v359, rfl, ho0, hb⟩; refine ⟨_, rfl, ?_⟩; replace HO342 := sR HO342 hb; replace HO353 := sR HO353 hb; have HO360 := Aside0.mk (Kd.R_lower (Kd.R_new' (Kd.R_new' (Kd.R_new' ho0 (Kd.R_lt (pR HO345))) (Kd.R_lt (pR HO348))) (Kd.R_lt (pR HO357))) (below_size (pH HB))); replace HO345 := Aside0.mk (Kd.R_elder' (pR HO345) (Kd.R_base ho0) hb); replace HO348 := Aside0.mk (Kd.R_elder' (pR HO348) (Kd.R_base ho0) hb); replace HO357 := Aside0.mk (Kd.R_elder' (pR HO357) (Kd.R_base ho0) hb); replace BK336 := sB BK336 hb; replace BK354 := sB BK354 hb; replace HB := sH HB hb; (try clear hb); (try clear hi); (try clear ho0); obtain ⟨Ao68, co68, eo68⟩ := Kd.R_slice HO360.out; subst eo68; obtain ⟨Ao69, co69, eo69⟩ := Kd.R_slice HO348.out; subst eo69) | ((with_reducible refine gate_callee (f := 10) rfl ?_); refine cl_ (some 55) Tryz.func10 #[.slice Ao68 t358.length co68, .slice Ao69 t346.length co69] ?_; (with_reducible refine (laws_eqPairS.calls k _ _ t358 _ _ t346 true _ ?side1 ?side2 ?side3 ?side4 A21.out).mono ?_); (case side1 => exact pC ((Kd.R_reads' HO360.out).2.2)); (case side2 => exact (Kd.R_reads' HO360.out).2.1); (case side3 => exact pC ((Kd.R_reads' HO348.out).2.2)); (case side4 => exact (Kd.R_reads' HO348.out).2.1); rintro e w70 ⟨rfl, hb⟩; refine ⟨_, rfl, ?_⟩; replace HO342 := sR HO342 hb; replace HO345 := sR HO345 hb; replace HO348 := sR HO348 hb; replace HO353 := sR HO353 hb; replace HO357 := sR HO357 hb; replace HO360 := sR HO360 hb; replace BK336 := sB BK336 hb; replace BK354 := sB BK354 hb; replace HB := sH HB hb; (try clear hb); (try clear hi)))
               replace HO342 := Aside0.mk (Kd.R_drew HO342.out)
               replace HO345 := Aside0.mk (Kd.R_drew HO345.out)
               replace HO348 := Aside0.mk (Kd.R_drew HO348.out)
               replace HO353 := Aside0.mk (Kd.R_drew HO353.out)
               replace HO357 := Aside0.mk (Kd.R_drew HO357.out)
               replace HO360 := Aside0.mk (Kd.R_drew HO360.out)
               replace BK336 := dB BK336
               replace BK354 := dB BK354
               replace HB := dH HB
               refine st_ 5 (S := fun w' => w'.cell? ⟨gb354, 0, none⟩ = some (.int .i64 t350) ∧ w'.cell? ⟨gb354, 1, none⟩ = some (.slice Ao63 t351.length co63) ∧ w'.cell? ⟨gb336, 0, none⟩ = some (.int .i64 a0_0) ∧ w'.cell? ⟨gb336, 1, none⟩ = some (.slice A0_1 l0_1.length c0_1)) (ds := []) ⟨cB BK354 0, cB BK354 1, cB BK336 0, cB BK336 1⟩ (fun hHeld => ?_)
               generalize w70.drew = w71 at HO342 HO345 HO348 HO353 HO357 HO360 BK336 BK354 HB hHeld ⊢
               refine take_ (i := 0) (N := some 62) (v := ?_) (a' := ?_) (mB 5 1) rfl rfl (by kernel_rfl) (fun _ _ _ h => h) (Or.inl ⟨by rfl, ?_⟩) hHeld ?_ ?_
               rotate_left
               ·rintro w' ⟨s0, s1, s2, s3⟩
                go_simp
                with_reducible rfl
               rotate_left
               ·simp only [Act.put, List.setIfInBounds_toArray, List.set_cons_zero, List.set_cons_succ, i64_w, i32_w]
                rfl
               refine take_ (i := 1) (N := some 63) (v := ?_) (a' := ?_) (mB 5 3) rfl rfl (by kernel_rfl) (fun _ _ _ h => h) (Or.inl ⟨by rfl, ?_⟩) hHeld ?_ ?_
               rotate_left
               ·rintro w' ⟨s0, s1, s2, s3⟩
                go_simp
                with_reducible rfl
               rotate_left
               ·simp only [Act.put, List.setIfInBounds_toArray, List.set_cons_zero, List.set_cons_succ, i64_w, i32_w]
                rfl
               refine one_ (i := 2) (N := some 64) (mB 5 7) rfl rfl (by kernel_rfl) (by decide) (fun K hK => ?_)
               refine ca_ Tryz.func7 #[.agg #[.int .i64 a0_0, .slice A0_1 l0_1.length c0_1]] ?_
               with_reducible refine (laws_toComplex.calls k a0_0 _ _ l0_1 t363 t364 _ ?side1 ?side2 A24.out).mono ?_
               (case side1 => exact pC ((Kd.C_below HR0_1.out HB.out)))
               (case side2 => exact HC0_1.out)
               rintro e w72 ⟨v365, rfl, ho0, hb⟩
               refine ⟨_, rfl, ?_⟩
               replace HO345 := sR HO345 hb
               replace HO348 := sR HO348 hb
               replace HO357 := sR HO357 hb
               replace HO360 := sR HO360 hb
               have HO366 := Aside0.mk (Kd.R_lower (Kd.R_new' (Kd.R_new' ho0 (Kd.R_lt (pR HO342))) (Kd.R_lt (pR HO353))) (below_size (pH HB)))
               replace HO342 := Aside0.mk (Kd.R_elder' (pR HO342) (Kd.R_base ho0) hb)
               replace HO353 := Aside0.mk (Kd.R_elder' (pR HO353) (Kd.R_base ho0) hb)
               replace BK336 := sB BK336 hb
               replace BK354 := sB BK354 hb
               replace HB := sH HB hb
               (try clear hb)
               (try clear hb2)
               (try clear hk)
               (try clear hi)
               (try clear ho0)
               obtain ⟨Ao73, co73, eo73⟩ := Kd.R_slice HO366.out
               (first | subst eo73 | (injection eo73 with f1_ f2_ f3_; have f4_ := f1_.symm; have f5_ := f3_.symm; clear f1_ f2_ f3_; subst f4_; subst f5_))
               refine hK.out _ _ ⟨cB BK354 0, cB BK354 1, cB BK336 0, cB BK336 1⟩ (fun hHeld => ?_)
               clear hK K
               refine nm_ ?_
               refine one_ (i := 3) (N := some 65) (mB 5 15) rfl rfl (by kernel_rfl) (by decide) (fun K hK => ?_)
               refine ca_ Tryz.func11 #[.agg #[.int .i64 t350, .slice Ao63 t351.length co63], .agg #[.int .i64 t363, .slice Ao73 t364.length co73]] ?_
               with_reducible refine (laws_eqComplex.calls k t350 _ _ t351 t363 _ _ t364 true _ ?side1 ?side2 ?side3 ?side4 A25.out).mono ?_
               (case side1 => exact pC ((Kd.R_reads' HO353.out).2.2))
               (case side2 => exact (Kd.R_reads' HO353.out).2.1)
               (case side3 => exact pC ((Kd.R_reads' HO366.out).2.2))
               (case side4 => exact (Kd.R_reads' HO366.out).2.1)
               rintro e w74 ⟨rfl, hb⟩
               refine ⟨_, rfl, ?_⟩
               replace HO342 := sR HO342 hb
               replace HO345 := sR HO345 hb
               replace HO348 := sR HO348 hb
               replace HO353 := sR HO353 hb
               replace HO357 := sR HO357 hb
               replace HO360 := sR HO360 hb
               replace HO366 := sR HO366 hb
               replace BK336 := sB BK336 hb
               replace BK354 := sB BK354 hb
               replace HB := sH HB hb
               (try clear hb)
               (try clear hb2)
               (try clear hk)
               (try clear hi)
               refine hK.out _ _ ⟨cB BK354 0, cB BK354 1, cB BK336 0, cB BK336 1⟩ (fun hHeld => ?_)
               clear hK K
               refine nm_ ?_
               refine pure_ (i := 4) (N := some 66) (v := ?_) (a' := ?_) (mB 5 31) rfl rfl (by kernel_rfl) (fun _ _ _ h => h) (Or.inl ⟨by rfl, ?_⟩) ?_ ?_
               rotate_left
               ·intro w'
                go_simp
                with_reducible rfl
               rotate_left
               ·simp only [Act.put, List.setIfInBounds_toArray, List.set_cons_zero, List.set_cons_succ, i64_w, i32_w]
                rfl
               refine done_ (by kernel_rfl) ?_
               try go_wp2_with (first | ((with_reducible refine gate_callee (f := 8) rfl ?_); refine cl_ (some 69) Tryz.func8 #[.slice A1 l1.length c1] ?_; (with_reducible refine (laws_toPairS.calls k _ _ l1 t368 _ ?side1 ?side2 A27.out).mono ?_); (case side1 => exact pC ((Kd.C_below HR1.out HB.out))); (case side2 => exact HC1.out); rintro e w75 ⟨v369, rfl, ho0, hb⟩; refine ⟨_, rfl, ?_⟩; replace HO342 := sR HO342 hb; replace HO353 := sR HO353 hb; replace HO366 := sR HO366 hb; have HO370 := Aside0.mk (Kd.R_lower (Kd.R_new' (Kd.R_new' (Kd.R_new' (Kd.R_new' ho0 (Kd.R_lt (pR HO345))) (Kd.R_lt (pR HO348))) (Kd.R_lt (pR HO357))) (Kd.R_lt (pR HO360))) (below_size (pH HB))); replace HO345 := Aside0.mk (Kd.R_elder' (pR HO345) (Kd.R_base ho0) hb); replace HO348 := Aside0.mk (Kd.R_elder' (pR HO348) (Kd.R_base ho0) hb); replace HO357 := Aside0.mk (Kd.R_elder' (pR HO357) (Kd.R_base ho0) hb); replace HO360 := Aside0.mk (Kd.R_elder' (pR HO360) (Kd.R_base ho0) hb); replace BK336 := sB BK336 hb; replace BK354 := sB BK354 hb; replace HB := sH HB hb; (try clear hb); (try clear hi); (try clear ho0); have nD_ := Aside0.mk (Kd.R_mono (ok' := fun k_ => some k_ ≠ (.slice Ao66 t355.length co66 : Value).ownBlock ∧ some k_ ≠ (.slice Ao68 t358.length co68 : Value).ownBlock ∧ some k_ ≠ (v369 : Value).ownBlock) HO348.out (fun k_ hk => ⟨hk.1.1.2, ⟨hk.1.2, hk.2⟩⟩)); clear HO348; have HO348 := nD_; clear nD_; have nD_ := Aside0.mk (Kd.R_mono (ok' := fun k_ => True) HO353.out (fun k_ hk => trivial)); clear HO353; have HO353 := nD_; clear nD_; have nD_ := Aside0.mk (Kd.R_mono (ok' := fun k_ => some k_ ≠ (.slice Ao69 t346.length co69 : Value).ownBlock ∧ some k_ ≠ (.slice Ao68 t358.length co68 : Value).ownBlock ∧ some k_ ≠ (v369 : Value).ownBlock) HO357.out (fun k_ hk => ⟨hk.1.1.2, ⟨hk.1.2, hk.2⟩⟩)); clear HO357; have HO357 := nD_; clear nD_; have nD_ := Aside0.mk (Kd.R_mono (ok' := fun k_ => some k_ ≠ (.slice Ao69 t346.length co69 : Value).ownBlock ∧ some k_ ≠ (.slice Ao66 t355.length co66 : Value).ownBlock ∧ some k_ ≠ (v369 : Value).ownBlock) HO360.out (fun k_ hk => ⟨hk.1.1.2, ⟨hk.1.2, hk.2⟩⟩)); clear HO360; have HO360 := nD_; clear nD_; have nD_ := Aside0.mk (Kd.R_mono (ok' := fun k_ => some k_ ≠ (.slice Ao69 t346.length co69 : Value).ownBlock ∧ some k_ ≠ (.slice Ao66 t355.length co66 : Value).ownBlock ∧ some k_ ≠ (.slice Ao68 t358.length co68 : Value).ownBlock) HO370.out (fun k_ hk => ⟨hk.1.1.2, ⟨hk.1.2, hk.2⟩⟩)); clear HO370; have HO370 := nD_; clear nD_; clear HO342 HO345 HO366; obtain ⟨Ao76, co76, eo76⟩ := Kd.R_slice HO370.out; subst eo76) | ((with_reducible refine gate_callee (f := 10) rfl ?_); refine cl_ (some 70) Tryz.func10 #[.slice Ao66 t355.length co66, .slice Ao76 t368.length co76] ?_; (with_reducible refine (laws_eqPairS.calls k _ _ t355 _ _ t368 true _ ?side1 ?side2 ?side3 ?side4 A28.out).mono ?_); (case side1 => exact pC ((Kd.R_reads' HO357.out).2.2)); (case side2 => exact (Kd.R_reads' HO357.out).2.1); (case side3 => exact pC ((Kd.R_reads' HO370.out).2.2)); (case side4 => exact (Kd.R_reads' HO370.out).2.1); rintro e w77 ⟨rfl, hb⟩; refine ⟨_, rfl, ?_⟩; replace HO348 := sR HO348 hb; replace HO353 := sR HO353 hb; replace HO357 := sR HO357 hb; replace HO360 := sR HO360 hb; replace HO370 := sR HO370 hb; replace BK336 := sB BK336 hb; replace BK354 := sB BK354 hb; replace HB := sH HB hb; (try clear hb); (try clear hi); have nD_ := Aside0.mk (Kd.R_mono (ok' := fun k_ => some k_ ≠ (.slice Ao66 t355.length co66 : Value).ownBlock ∧ some k_ ≠ (.slice Ao68 t358.length co68 : Value).ownBlock) HO348.out (fun k_ hk => ⟨hk.1, hk.2.1⟩)); clear HO348; have HO348 := nD_; clear nD_; have nD_ := Aside0.mk (Kd.R_mono (ok' := fun k_ => some k_ ≠ (.slice Ao69 t346.length co69 : Value).ownBlock ∧ some k_ ≠ (.slice Ao68 t358.length co68 : Value).ownBlock) HO357.out (fun k_ hk => ⟨hk.1, hk.2.1⟩)); clear HO357; have HO357 := nD_; clear nD_; have nD_ := Aside0.mk (Kd.R_mono (ok' := fun k_ => some k_ ≠ (.slice Ao69 t346.length co69 : Value).ownBlock ∧ some k_ ≠ (.slice Ao66 t355.length co66 : Value).ownBlock) HO360.out (fun k_ hk => ⟨hk.1, hk.2.1⟩)); clear HO360; have HO360 := nD_; clear nD_; clear HO370; have hcz78_0 : w77.cell? ⟨gb354, 0, none⟩ = some (.int .i64 t350) := cB BK354 0; have hcz78_1 : w77.cell? ⟨gb354, 1, none⟩ = some (.slice Ao63 t351.length co63) := cB BK354 1; have hfz78_0 := zB BK354 0; have hfz78_1 := zB BK354 1) | ((with_reducible refine gate_callee (f := 12) rfl ?_); refine cl_ (some 74) Tryz.func12 #[.agg #[.int .i64 t350, .slice Ao63 t351.length co63], .int .i64 1] ?_; (with_reducible refine (laws_markComplex.calls k t350 (fun k_ => some k_ = (.slice Ao63 t351.length co63 : Value).ownBlock) (.slice Ao63 t351.length co63) t351 1 t372 t373 w _ ?side1 ?side2 A30.out).mono ?_); (case side1 => repeat (first | (with_reducible first | exact HB.out | apply below_alloc | apply pw_below_drewN | apply below_drew1 | refine below_set ?_ GE336.out | refine below_set ?_ GE354.out) | exact HB.out)); (case side2 => exact Kd.R_tight rfl HO353.out); rintro e w79 ⟨rfl, hy0, hb, hkp⟩; refine ⟨_, rfl, ?_⟩; replace BK336 := Aside0.mk (blk_kept (pB BK336) hkp (fun hs_ => (fun e_ => (Kd.R_ne HO353.out BK336.out (by decide)) e_) hs_)); replace HO348 := Aside0.mk (Kd.R_mono (ok' := fun k_ => some k_ ≠ (.slice Ao66 t355.length co66 : Value).ownBlock ∧ some k_ ≠ (.slice Ao68 t358.length co68 : Value).ownBlock) (Kd.R_keptB ((Kd.R_apart' HO348.out (Kd.R_typed HO353.out) (by decide))) hkp (fun k_ hk_ hs_ => (hk_.2) hs_)) (fun k_ hk_ => ⟨hk_.1.1.1, hk_.1.1.2⟩)); replace BK354 := Aside0.mk (blk_kept (pB BK354) hkp (fun hs_ => (fun e_ => (Kd.R_ne HO353.out BK354.out (by decide)) e_) hs_)); replace HO357 := Aside0.mk (Kd.R_mono (ok' := fun k_ => some k_ ≠ (.slice Ao69 t346.length co69 : Value).ownBlock ∧ some k_ ≠ (.slice Ao68 t358.length co68 : Value).ownBlock) (Kd.R_keptB ((Kd.R_apart' HO357.out (Kd.R_typed HO353.out) (by decide))) hkp (fun k_ hk_ hs_ => (hk_.2) hs_)) (fun k_ hk_ => ⟨hk_.1.1.1, hk_.1.1.2⟩)); replace HO360 := Aside0.mk (Kd.R_mono (ok' := fun k_ => some k_ ≠ (.slice Ao69 t346.length co69 : Value).ownBlock ∧ some k_ ≠ (.slice Ao66 t355.length co66 : Value).ownBlock) (Kd.R_keptB ((Kd.R_apart' HO360.out (Kd.R_typed HO353.out) (by decide))) hkp (fun k_ hk_ hs_ => (hk_.2) hs_)) (fun k_ hk_ => ⟨hk_.1.1.1, hk_.1.1.2⟩)); replace HO353 := Aside0.mk (Kd.R_reok rfl hy0 (fun k_ e_ => HO353.out.1 k_ e_)); replace HB := Aside0.mk (hb); (try clear hb); (try clear hkp); (try clear hy0)) | ((with_reducible refine gate_callee (f := 13) rfl ?_); refine cl_ (some 77) Tryz.func13 #[.slice Ao66 t355.length co66, .int .i64 t372] ?_; (with_reducible refine (laws_markPairS.calls (fun k_ => some k_ = (.slice Ao66 t355.length co66 : Value).ownBlock) (.slice Ao66 t355.length co66) t355 t372 t374 t375 w _ ?side1 ?side2 A31.out).mono ?_); (case side1 => repeat (first | (with_reducible first | exact HB.out | apply below_alloc | apply pw_below_drewN | apply below_drew1 | refine below_set ?_ GE336.out | refine below_set ?_ GE354.out) | exact HB.out)); (case side2 => exact Kd.R_tight rfl HO357.out); rintro e w80 ⟨rfl, hy0, hb, hkp⟩; refine ⟨_, rfl, ?_⟩; replace BK336 := Aside0.mk (blk_kept (pB BK336) hkp (fun hs_ => (fun e_ => (Kd.R_ne HO357.out BK336.out (by decide)) e_) hs_)); replace HO348 := Aside0.mk (Kd.R_mono (ok' := fun k_ => some k_ ≠ (.slice Ao66 t355.length co66 : Value).ownBlock ∧ some k_ ≠ (.slice Ao68 t358.length co68 : Value).ownBlock) (Kd.R_keptB (HO348.out) hkp (fun k_ hk_ hs_ => (hk_.1) hs_)) (fun k_ hk_ => ⟨hk_.1.1, hk_.1.2⟩)); replace HO353 := Aside0.mk (Kd.R_mono (ok' := fun k_ => True) (Kd.R_keptB ((Kd.R_apart' HO353.out (Kd.R_typed HO357.out) (by decide))) hkp (fun k_ hk_ hs_ => (hk_.2) hs_)) (fun k_ hk_ => trivial)); replace BK354 := Aside0.mk (blk_kept (pB BK354) hkp (fun hs_ => (fun e_ => (Kd.R_ne HO357.out BK354.out (by decide)) e_) hs_)); replace HO357 := Aside0.mk (Kd.R_reok rfl hy0 (fun k_ e_ => HO357.out.1 k_ e_)); replace HO360 := Aside0.mk (Kd.R_mono (ok' := fun k_ => some k_ ≠ (.slice Ao69 t346.length co69 : Value).ownBlock ∧ some k_ ≠ (.slice Ao66 t355.length co66 : Value).ownBlock) (Kd.R_keptB (HO360.out) hkp (fun k_ hk_ hs_ => (hk_.2) hs_)) (fun k_ hk_ => ⟨hk_.1.1, hk_.1.2⟩)); replace HB := Aside0.mk (hb); (try clear hb); (try clear hkp); (try clear hy0); have nD_ := Aside0.mk (Kd.R_mono (ok' := fun k_ => some k_ ≠ (.slice Ao68 t358.length co68 : Value).ownBlock) HO348.out (fun k_ hk => hk.2)); clear HO348; have HO348 := nD_; clear nD_; have nD_ := Aside0.mk (Kd.R_mono (ok' := fun k_ => some k_ ≠ (.slice Ao69 t346.length co69 : Value).ownBlock) HO360.out (fun k_ hk => hk.1)); clear HO360; have HO360 := nD_; clear nD_; clear HO357) | (go_at_call 10; (with_reducible refine (laws_eqPairS.calls k _ _ t358 _ _ t346 true _ ?side1 ?side2 ?side3 ?side4 A33.out).mono ?_); (case side1 => exact pC ((Kd.R_reads' HO360.out).2.2)); (case side2 => exact (Kd.R_reads' HO360.out).2.1); (case side3 => exact pC ((Kd.R_reads' HO348.out).2.2)); (case side4 => exact (Kd.R_reads' HO348.out).2.1); rintro e w81 ⟨rfl, hb⟩; replace HO348 := sR HO348 hb; replace HO353 := sR HO353 hb; replace HO360 := sR HO360 hb; replace BK336 := sB BK336 hb; replace BK354 := sB BK354 hb; replace HB := sH HB hb; (try clear hb); (try clear hi)) | ((with_reducible refine gate_callee (f := 13) rfl ?_); refine cl_ (some 93) Tryz.func13 #[.slice Ao68 t358.length co68, .int .i64 1] ?_; (with_reducible refine (laws_markPairS.calls (fun k_ => some k_ = (.slice Ao68 t358.length co68 : Value).ownBlock) (.slice Ao68 t358.length co68) t358 1 t377 t378 w _ ?side1 ?side2 A35.out).mono ?_); (case side1 => repeat (first | (with_reducible first | exact HB.out | apply below_alloc | apply pw_below_drewN | apply below_drew1 | refine below_set ?_ GE336.out | refine below_set ?_ GE354.out) | exact HB.out)); (case side2 => exact Kd.R_tight rfl HO360.out); rintro e w82 ⟨rfl, hy0, hb, hkp⟩; refine ⟨_, rfl, ?_⟩; replace BK336 := Aside0.mk (blk_kept (pB BK336) hkp (fun hs_ => (fun e_ => (Kd.R_ne HO360.out BK336.out (by decide)) e_) hs_)); replace HO348 := Aside0.mk (Kd.R_mono (ok' := fun k_ => some k_ ≠ (.slice Ao68 t358.length co68 : Value).ownBlock) (Kd.R_keptB (HO348.out) hkp (fun k_ hk_ hs_ => (hk_) hs_)) (fun k_ hk_ => hk_.1)); replace HO353 := Aside0.mk (Kd.R_mono (ok' := fun k_ => True) (Kd.R_keptB ((Kd.R_apart' HO353.out (Kd.R_typed HO360.out) (by decide))) hkp (fun k_ hk_ hs_ => (hk_.2) hs_)) (fun k_ hk_ => trivial)); replace BK354 := Aside0.mk (blk_kept (pB BK354) hkp (fun hs_ => (fun e_ => (Kd.R_ne HO360.out BK354.out (by decide)) e_) hs_)); replace HO360 := Aside0.mk (Kd.R_reok rfl hy0 (fun k_ e_ => HO360.out.1 k_ e_)); replace HB := Aside0.mk (hb); (try clear hb); (try clear hkp); (try clear hy0)) | ((with_reducible refine gate_callee (f := 14) rfl ?_); refine cl_ (some 96) Tryz.func14 #[.slice Ao68 t378.length co68, .int .i64 1] (hargs := by (try simp only [List.map_toArray, List.map_cons, List.map_nil]); first | done | (rw [show t378.length = t358.length from (Kd.R_reads' HO360.out).1.symm] <;> rfl) | rfl | (simp only [List.length_drop, List.length_take]; rfl)) ?_; (with_reducible refine (laws_heldPairS.calls _ _ t378 1 t379 _ ?side1 ?side2 A36.out).mono ?_); (case side1 => exact pC ((Kd.R_reads' HO360.out).2.2)); (case side2 => rw [show t378.length = t358.length from (Kd.R_reads' HO360.out).1.symm]; exact (Kd.R_reads' HO360.out).2.1); rintro e w83 ⟨rfl, hb⟩; refine ⟨_, rfl, ?_⟩; replace HO348 := sR HO348 hb; replace HO353 := sR HO353 hb; replace HO360 := sR HO360 hb; replace BK336 := sB BK336 hb; replace BK354 := sB BK354 hb; replace HB := sH HB hb; (try clear hb); (try clear hi); have hcz84_0 : w83.cell? ⟨gb336, 0, none⟩ = some (.int .i64 a0_0) := cB BK336 0; have hcz84_1 : w83.cell? ⟨gb336, 1, none⟩ = some (.slice A0_1 l0_1.length c0_1) := cB BK336 1; have hfz84_0 := zB BK336 0; have hfz84_1 := zB BK336 1) | ((with_reducible refine gate_callee (f := 7) rfl ?_); refine cl_ (some 104) Tryz.func7 #[.agg #[.int .i64 a0_0, .slice A0_1 l0_1.length c0_1]] ?_; (with_reducible refine (laws_toComplex.calls k a0_0 _ _ l0_1 t380 t381 _ ?side1 ?side2 A39.out).mono ?_); (case side1 => exact pC ((Kd.C_below HR0_1.out HB.out))); (case side2 => exact HC0_1.out); rintro e w85 ⟨v382, rfl, ho0, hb⟩; refine ⟨_, rfl, ?_⟩; replace HO348 := sR HO348 hb; replace HO360 := sR HO360 hb; have HO383 := Aside0.mk (Kd.R_lower (Kd.R_new' ho0 (Kd.R_lt (pR HO353))) (below_size (pH HB))); replace HO353 := Aside0.mk (Kd.R_elder' (pR HO353) (Kd.R_base ho0) hb); replace BK336 := sB BK336 hb; replace BK354 := sB BK354 hb; replace HB := sH HB hb; (try clear hb); (try clear hi); (try clear ho0)) | ((with_reducible refine gate_callee (f := 8) rfl ?_); refine cl_ (some 106) Tryz.func8 #[.slice A1 l1.length c1] ?_; (with_reducible refine (laws_toPairS.calls k _ _ l1 t384 _ ?side1 ?side2 A40.out).mono ?_); (case side1 => exact pC ((Kd.C_below HR1.out HB.out))); (case side2 => exact HC1.out); rintro e w86 ⟨v385, rfl, ho0, hb⟩; refine ⟨_, rfl, ?_⟩; replace HO353 := sR HO353 hb; replace HO383 := sR HO383 hb; have HO386 := Aside0.mk (Kd.R_lower (Kd.R_new' (Kd.R_new' ho0 (Kd.R_lt (pR HO348))) (Kd.R_lt (pR HO360))) (below_size (pH HB))); replace HO348 := Aside0.mk (Kd.R_elder' (pR HO348) (Kd.R_base ho0) hb); replace HO360 := Aside0.mk (Kd.R_elder' (pR HO360) (Kd.R_base ho0) hb); replace BK336 := sB BK336 hb; replace BK354 := sB BK354 hb; replace HB := sH HB hb; (try clear hb); (try clear hi); (try clear ho0); obtain ⟨Ao87, co87, eo87⟩ := Kd.R_slice HO383.out; subst eo87; obtain ⟨Ao88, co88, eo88⟩ := Kd.R_slice HO386.out; subst eo88) | ((with_reducible refine gate_callee (f := 9) rfl ?_); refine cl_ (some 109) Tryz.func9 #[.agg #[.int .i64 t380, .slice Ao87 t381.length co87], .slice Ao88 t384.length co88, .int .i64 a2, .int .i64 a3] ?_; (with_reducible refine (impl_CancelFaces.calls t380 _ _ t381 _ _ t384 a2 a3 t387 t390 _ ?side1 ?side2 ?side3 ?side4 A41.out).mono ?_); (case side1 => exact pC ((Kd.R_reads' HO383.out).2.2)); (case side2 => exact (Kd.R_reads' HO383.out).2.1); (case side3 => exact pC ((Kd.R_reads' HO386.out).2.2)); (case side4 => exact (Kd.R_reads' HO386.out).2.1); rintro e w89 ⟨v388, rfl, ho0, hb⟩; refine ⟨_, rfl, ?_⟩; replace HO353 := sR HO353 hb; replace HO383 := sR HO383 hb; have HO389 := Aside0.mk (Kd.R_lower (Kd.R_new' (Kd.R_new' (Kd.R_new' ho0 (Kd.R_lt (pR HO348))) (Kd.R_lt (pR HO360))) (Kd.R_lt (pR HO386))) (below_size (pH HB))); replace HO348 := Aside0.mk (Kd.R_elder' (pR HO348) (Kd.R_base ho0) hb); replace HO360 := Aside0.mk (Kd.R_elder' (pR HO360) (Kd.R_base ho0) hb); replace HO386 := Aside0.mk (Kd.R_elder' (pR HO386) (Kd.R_base ho0) hb); replace BK336 := sB BK336 hb; replace BK354 := sB BK354 hb; replace HB := sH HB hb; (try clear hb); (try clear hi); (try clear ho0); have nD_ := Aside0.mk (Kd.R_mono (ok' := fun k_ => some k_ ≠ (.slice Ao68 t358.length co68 : Value).ownBlock ∧ some k_ ≠ (v388 : Value).ownBlock) HO348.out (fun k_ hk => ⟨hk.1.1, hk.2⟩)); clear HO348; have HO348 := nD_; clear nD_; have nD_ := Aside0.mk (Kd.R_mono (ok' := fun k_ => True) HO353.out (fun k_ hk => trivial)); clear HO353; have HO353 := nD_; clear nD_; have nD_ := Aside0.mk (Kd.R_mono (ok' := fun k_ => some k_ ≠ (.slice Ao69 t346.length co69 : Value).ownBlock ∧ some k_ ≠ (v388 : Value).ownBlock) HO360.out (fun k_ hk => ⟨hk.1.1, hk.2⟩)); clear HO360; have HO360 := nD_; clear nD_; have nD_ := Aside0.mk (Kd.R_mono (ok' := fun k_ => some k_ ≠ (.slice Ao69 t346.length co69 : Value).ownBlock ∧ some k_ ≠ (.slice Ao68 t358.length co68 : Value).ownBlock) HO389.out (fun k_ hk => ⟨hk.1.1.2, hk.1.2⟩)); clear HO389; have HO389 := nD_; clear nD_; clear HO383 HO386; obtain ⟨Ao90, co90, eo90⟩ := Kd.R_slice HO389.out; subst eo90) | ((with_reducible refine gate_callee (f := 10) rfl ?_); refine cl_ (some 114) Tryz.func10 #[.slice Ao90 t387.length co90, .slice Ao69 t346.length co69] ?_; (with_reducible refine (laws_eqPairS.calls k _ _ t387 _ _ t346 true _ ?side1 ?side2 ?side3 ?side4 A42.out).mono ?_); (case side1 => exact pC ((Kd.R_reads' HO389.out).2.2)); (case side2 => exact (Kd.R_reads' HO389.out).2.1); (case side3 => exact pC ((Kd.R_reads' HO348.out).2.2)); (case side4 => exact (Kd.R_reads' HO348.out).2.1); rintro e w91 ⟨rfl, hb⟩; refine ⟨_, rfl, ?_⟩; replace HO348 := sR HO348 hb; replace HO353 := sR HO353 hb; replace HO360 := sR HO360 hb; replace HO389 := sR HO389 hb; replace BK336 := sB BK336 hb; replace BK354 := sB BK354 hb; replace HB := sH HB hb; (try clear hb); (try clear hi); have nD_ := Aside0.mk (Kd.R_mono (ok' := fun k_ => True) HO360.out (fun k_ hk => trivial)); clear HO360; have HO360 := nD_; clear nD_; clear HO348 HO389) | ((with_reducible refine gate_callee (f := 14) rfl ?_); refine cl_ (some 123) Tryz.func14 #[.slice Ao68 t378.length co68, .int .i64 1] (hargs := by (try simp only [List.map_toArray, List.map_cons, List.map_nil]); first | done | (rw [show t378.length = t358.length from (Kd.R_reads' HO360.out).1.symm] <;> rfl) | rfl | (simp only [List.length_drop, List.length_take]; rfl)) ?_; (with_reducible refine (laws_heldPairS.calls _ _ t378 1 t392 _ ?side1 ?side2 A45.out).mono ?_); (case side1 => exact pC ((Kd.R_reads' HO360.out).2.2)); (case side2 => rw [show t378.length = t358.length from (Kd.R_reads' HO360.out).1.symm]; exact (Kd.R_reads' HO360.out).2.1); rintro e w92 ⟨rfl, hb⟩; refine ⟨_, rfl, ?_⟩; replace HO353 := sR HO353 hb; replace HO360 := sR HO360 hb; replace BK336 := sB BK336 hb; replace BK354 := sB BK354 hb; replace HB := sH HB hb; (try clear hb); (try clear hi); clear HO360))
               go_ret
               exact ⟨by first | rfl | (simp [errW_none, errW_some] <;> rfl) | (simp [*, errW_none, errW_some] <;> rfl) | (exfalso; simp_all), pH HB⟩
              ·rw [if_neg c47] at H
               exact absurd H (by simp)
            ·rw [if_neg c44] at H
             exact absurd H (by simp)
           ·replace c43 := Bool.eq_false_iff.mpr c43
            subst c43
            have H1 : (none) = some r := by rw [if_neg (show ¬ (false = true) by decide)] at H; exact H
            clear H
            have H := H1
            clear H1
            exact absurd H (by simp)
          ·rw [if_neg c38] at H
           exact absurd H (by simp)
        ·replace c34 := Bool.eq_false_iff.mpr c34
         subst c34
         have H1 : (none) = some r := by rw [if_neg (show ¬ (false = true) by decide)] at H; exact H
         clear H
         have H := H1
         clear H1
         exact absurd H (by simp)
      ·replace c29 := Bool.eq_false_iff.mpr c29
       subst c29
       have H1 : (none) = some r := by rw [if_neg (show ¬ (false = true) by decide)] at H; exact H
       clear H
       have H := H1
       clear H1
       exact absurd H (by simp)
     ·replace c26 := Bool.eq_false_iff.mpr c26
      subst c26
      have H1 : (none) = some r := by rw [if_neg (show ¬ (false = true) by decide)] at H; exact H
      clear H
      have H := H1
      clear H1
      exact absurd H (by simp)
    ·rw [if_neg c23] at H
     exact absurd H (by simp)
   ·replace c22 := Bool.eq_false_iff.mpr c22
    subst c22
    have H1 : (none) = some r := by rw [if_neg (show ¬ (false = true) by decide)] at H; exact H
    clear H
    have H := H1
    clear H1
    exact absurd H (by simp)
end Go.Proofs.YtdnbmobdiidfmaaGreat.QFnExactCancelFaces
namespace Go.Proofs.YtdnbmobdiidfmaaGreat.Pu
open Go.RowKit Kp Ext QS YtdnbmobdiidfmaaGreatW.PrintWords YtdnbmobdiidfmaaGreatW.PrintLast YtdnbmobdiidfmaaGreatW.PrintMore
theorem eqPair_loop (l : List Pr) (hl : l.length ≤ 1048576) : ∀ d (i : Nat), l.length - i = d → i ≤ l.length → Ev (fun k => laws_eqPairS.l0 k l l i) true := by
  intro d
  induction d with
  | zero =>
    intro i hd hi
    refine Ev.step (f := fun k => some true) (fun k => ?_) (Ev.now _)
    simp only [laws_eqPairS.l0]; rw [if_neg (by omega)]
  | succ d ih =>
    intro i hd hi
    refine Ev.step (fun k => ?_) (ih (i + 1) (by omega) (by omega))
    simp only [laws_eqPairS.l0]
    rw [if_pos (by omega), if_pos (by omega), if_pos (by omega), show wrap64 ((i : Int) + 1) = ((i + 1 : Nat) : Int) by rw [w64 (by omega) (by omega)]; omega]
    simp [laws_eqPair.f]
theorem ev_eqPairs {l : List Pr} (hl : l.length ≤ 1048576) : Ev (fun k => laws_eqPairS.f k l l) true := by
  unfold laws_eqPairS.f
  simp only [if_true]
  exact eqPair_loop l hl _ 0 rfl (Nat.zero_le _)
theorem markL_len (n : Nat) (a : Int) : (markL n a).length = n := by simp [markL]
theorem ev_markPairs {l : List Pr} {a : Int} (hl : l.length ≤ 1048576) (ha : 0 ≤ a ∧ a ≤ 1073741824) : Ev (fun _ => laws_markPairS.f l a) (a + 2 * (l.length : Int), markL l.length a) := by
  unfold laws_markPairS.f
  rw [if_pos ⟨ha.1, ha.2, by omega⟩]
  exact Ev.now _
theorem held_markL (n : Nat) (a : Int) : heldPr (markL n a) a = a + 2 * (n : Int) := by
  rw [heldPr_yes, markL_len]
  intro i hi
  rw [markL_len] at hi
  simp [okPr, markL, markAt, hi, List.getD_eq_getElem?_getD]
theorem ev_heldPairs {n : Nat} {a : Int} (hl : n ≤ 1048576) (ha : 0 ≤ a ∧ a ≤ 1073741824) : Ev (fun _ => laws_heldPairS.f (markL n a) a) (a + 2 * (n : Int)) := by
  unfold laws_heldPairS.f
  rw [if_pos ⟨ha.1, ha.2, by rw [markL_len]; omega⟩, held_markL]
  exact Ev.now _
def toPr (q : S44) : Pr := ⟨q.f0, q.f1⟩
theorem sz_prs {l : List S44} (hm : l.length ≤ maxLen) {b : Int} (h0 : 0 ≤ b) (h1 : b ≤ 1048576) : laws_szPairS.f l b = some (if b < (l.length : Int) then -1 else b - l.length) := by
  unfold laws_szPairS.f
  simp only [maxLen] at hm
  rw [w64 (by omega) (by omega)]
  by_cases h : b < (l.length : Int)
  · rw [if_pos (by omega), if_pos h]
  · rw [if_neg (by omega), if_neg h]
theorem rdA_at {l : List S44} {i : Nat} (h : i < l.length) : rd_T44 l (i : Int) = l[i] := by unfold rd_T44; rw [List.getD_eq_getElem?_getD, Int.toNat_natCast, List.getElem?_eq_getElem h]; rfl
theorem toPair_loop (l : List S44) (hl : l.length ≤ 1048576) : ∀ d (i : Nat) (x3 : List Pr), l.length - i = d → i ≤ l.length → x3.length = l.length → (∀ j, j < i → x3[j]? = (l[j]?).map toPr) → Ev (fun k => laws_toPairS.l0 k l x3 i) (l.map toPr) := by
  intro d
  induction d with
  | zero =>
    intro i x3 hd hi hx hj
    have he : x3 = l.map toPr := by
      apply List.ext_getElem?
      intro j
      rw [List.getElem?_map]
      rcases Nat.lt_or_ge j i with h | h
      · exact hj j h
      · rw [List.getElem?_eq_none (by omega), List.getElem?_eq_none (by omega)]; rfl
    refine Ev.step (f := fun _ => some x3) (fun k => ?_) (by rw [he]; exact Ev.now _)
    simp only [laws_toPairS.l0]; rw [if_neg (by omega)]
  | succ d ih =>
    intro i x3 hd hi hx hj
    have hi' : i < l.length := by omega
    refine Ev.step (f := fun k => laws_toPairS.l0 k l (x3.set i (toPr l[i])) ((i + 1 : Nat) : Int)) (fun k => ?_) (ih (i + 1) (x3.set i (toPr l[i])) (by omega) (by omega) (by simpa using hx) (fun j hji => ?_))
    · simp only [laws_toPairS.l0]
      rw [if_pos (by omega), if_pos (by omega), rdA_at hi', show wrap64 ((i : Int) + 1) = ((i + 1 : Nat) : Int) by rw [w64 (by omega) (by omega)]; omega]
      simp only [laws_toPair.f, Option.bind_some]
      rw [if_pos (by omega), Int.toNat_natCast]
      rfl
    · rw [List.getElem?_set]
      by_cases h : i = j
      · subst h
        rw [if_pos rfl, if_pos (by omega), List.getElem?_eq_getElem hi']; rfl
      · rw [if_neg h]
        exact hj j (by omega)
theorem ev_toPairs {l : List S44} (hl : l.length ≤ 1048576) : Ev (fun k => laws_toPairS.f k l) (l.map toPr) := by
  unfold laws_toPairS.f
  simp only [show (0 : Int) ≤ (l.length : Int) by omega, if_true, show ((l.length : Int)).toNat ≤ 17592186044416 by omega]
  exact toPair_loop l hl _ 0 _ rfl (Nat.zero_le _) (by simp) (fun j hj => absurd hj (Nat.not_lt_zero _))
end Go.Proofs.YtdnbmobdiidfmaaGreat.Pu
namespace Go.Proofs.YtdnbmobdiidfmaaGreat.Pu
open Go.RowKit Kp Ext QS Im QFnExactCancelFaces YtdnbmobdiidfmaaGreatW.PrintWords YtdnbmobdiidfmaaGreatW.PrintLast YtdnbmobdiidfmaaGreatW.PrintMore
theorem fold_swap_len : ∀ (prs out : List Pr), (prs.foldl swapP out).length ≤ out.length + prs.length
  | [], out => Nat.le_refl _
  | p :: prs, out => by
    have h1 := fold_swap_len prs (swapP out p)
    have h2 := swap_len out p
    rw [List.foldl_cons, List.length_cons]
    omega
theorem way_len (l : List Pr) (a : Int) : ∀ (m : Nat) (x : Int), (wayW l a m x).length ≤ m
  | 0, x => by simp [wayW]
  | m + 1, x => by
    rw [wayW]
    split
    · simp
    · split
      · rename_i y _
        have := way_len l a m y
        rw [List.length_cons]; omega
      · simp
theorem cancel_len (n : Int) (xs : List Int) {l : List Pr} (hl : l.length ≤ 1048576) (b a : Int) : (cancelI n xs l b a).1.length ≤ 1048576 := by
  unfold cancelI
  split
  · rename_i h
    obtain ⟨hi, hp, _⟩ := gcode_zero hl h
    have hll := pairing_len hi hp
    split
    · have h1 := fold_swap_len (prsOf l b (wayI l b a)) l
      have h2 : (wayI l b a).length ≤ 64 := way_len l a 64 _
      rw [prs_len] at h1
      exact Nat.le_trans h1 (by omega)
    · simp
  · simp
theorem FnExactCancelFaces (n0 : Int) (l0 : List Int) (_ : (Lit.int .i64 n0).wf = true) (hm0 : l0.length ≤ maxLen) (_ : ∀ x ∈ l0, (Lit.int .i64 x).wf = true) (l1 : List S44) (hm1 : l1.length ≤ maxLen) (hw1 : ∀ x ∈ l1, (Lit.int .i64 x.f0).wf = true ∧ (Lit.int .i64 x.f1).wf = true) (a2 : Int) (_ : (Lit.int .i64 a2).wf = true) (a3 : Int) (_ : (Lit.int .i64 a3).wf = true) : ∃ k, laws_FnExactCancelFaces.f k n0 l0 l1 a2 a3 = some true := by
  apply Ev.rounds
  unfold laws_FnExactCancelFaces.f
  by_cases hb0 : (1048576 : Int) < (l0.length : Int)
  · simp only [sz_cx hm0 (show (0 : Int) ≤ (1048576 : Int) by omega) (show (1048576 : Int) ≤ 1048576 by omega), Option.bind_some, if_pos hb0, show ((-1 : Int) < 0) = True by simp, if_true]
    exact Ev.now _
  simp only [sz_cx hm0 (show (0 : Int) ≤ (1048576 : Int) by omega) (show (1048576 : Int) ≤ 1048576 by omega), Option.bind_some, if_neg hb0, if_neg (show ¬ ((1048576 : Int) - (l0.length : Int) < 0) by omega)]
  by_cases hb1 : ((1048576 : Int) - (l0.length : Int)) < (l1.length : Int)
  · simp only [sz_prs hm1 (show (0 : Int) ≤ ((1048576 : Int) - (l0.length : Int)) by omega) (show ((1048576 : Int) - (l0.length : Int)) ≤ 1048576 by omega), Option.bind_some, if_pos hb1, show ((-1 : Int) < 0) = True by simp, if_true]
    exact Ev.now _
  simp only [sz_prs hm1 (show (0 : Int) ≤ ((1048576 : Int) - (l0.length : Int)) by omega) (show ((1048576 : Int) - (l0.length : Int)) ≤ 1048576 by omega), Option.bind_some, if_neg hb1, if_neg (show ¬ (((1048576 : Int) - (l0.length : Int)) - (l1.length : Int) < 0) by omega)]
  have hl0 : l0.length ≤ 1048576 := by omega
  have hl1 : l1.length ≤ 1048576 := by omega
  have hT := ev_toPairs hl1
  have hq1 : (l1.map toPr).length ≤ 1048576 := by simpa using hl1
  generalize l1.map toPr = q1 at hT hq1
  have hR0 := cancel_len n0 l0 hq1 a2 a3
  have hS := ev_specCF n0 hl0 hq1 a2 a3
  have hI : impl_CancelFaces.f n0 l0 q1 a2 a3 = some (cancelI n0 l0 q1 a2 a3) := by unfold impl_CancelFaces.f; rw [if_pos ⟨hl0, hq1⟩]
  obtain ⟨D, hD⟩ : ∃ D, cancelI n0 l0 q1 a2 a3 = D := ⟨_, rfl⟩
  rw [hD] at hR0 hS hI
  obtain ⟨r1, r2⟩ := D
  simp only at hR0
  have hca0 : 0 ≤ (1 : Int) ∧ (1 : Int) ≤ 1073741824 := by omega
  have hca1 : 0 ≤ 1 + (l0.length : Int) ∧ 1 + (l0.length : Int) ≤ 1073741824 := by omega
  have hna1 : ¬ (1 + (l0.length : Int) < 0) := by omega
  have hca2 : 0 ≤ 1 + (l0.length : Int) + 2 * (q1.length : Int) ∧ 1 + (l0.length : Int) + 2 * (q1.length : Int) ≤ 1073741824 := by omega
  have hna2 : ¬ (1 + (l0.length : Int) + 2 * (q1.length : Int) < 0) := by omega
  have hco0 : 0 ≤ (1 : Int) ∧ (1 : Int) ≤ 1073741824 := by omega
  have hco1 : 0 ≤ 1 + 2 * (r1.length : Int) ∧ 1 + 2 * (r1.length : Int) ≤ 1073741824 := by omega
  have hno1 : ¬ (1 + 2 * (r1.length : Int) < 0) := by omega
  repeat (first
      | (exact Ev.now _)
      | (refine Ev.bind (ev_toComplex hl0) ?_)
      | (refine Ev.bind hT ?_)
      | (refine Ev.bind hS ?_)
      | (refine Ev.bind (ev_eqPairs hR0) ?_)
      | (refine Ev.bind (ev_eqComplex hl0) ?_)
      | (refine Ev.bind (ev_eqPairs hq1) ?_)
      | (refine Ev.bind (ev_markComplex hl0 hca0) ?_)
      | (refine Ev.bind (ev_markPairs hq1 hca1) ?_)
      | (refine Ev.bind (ev_markPairs hR0 hco0) ?_)
      | (refine Ev.bind (ev_heldPairs hR0 hco0) ?_)
      | (simp only [hI, Option.bind_some, if_true, bne_self_eq_false, Bool.false_eq_true, if_false, if_neg hna1, if_neg hna2, if_neg hno1]))
end Go.Proofs.YtdnbmobdiidfmaaGreat.Pu
