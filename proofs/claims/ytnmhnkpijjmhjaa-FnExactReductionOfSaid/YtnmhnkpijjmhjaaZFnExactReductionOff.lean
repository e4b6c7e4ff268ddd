/- Words and lemmas for FnExactReductionOf, part 6: what the row's text comes to. -/
import Derived.Test.YtnmhnkpijjmhjaaZFnExactReductionOfe
namespace Go.Proofs.Ytnmhnkpijjmhjaa.QS
open Go.Proofs.Ytnmhnkpijjmhjaa.Kp Go.Proofs.Ytnmhnkpijjmhjaa.Ext Go.RowKit Go.Proofs.YtnmhnkpijjmhjaaW.PrintWords Go.Proofs.YtnmhnkpijjmhjaaW.PrintLast Go.Proofs.YtnmhnkpijjmhjaaW.PrintMore
attribute [local go_sem] max2_int min2_int max_two min_two max_three min_three max_four min_four   -- for this text's walks alone
set_option linter.unusedVariables false
set_option linter.unusedSimpArgs false
def laws_toComplex.f (k : Nat) (a0_0 : Int) (l0_1 : List Int) : Option (Int × List Int) := (laws_toInt64S.f k l0_1).bind fun t111 => (some (a0_0, t111))
set_option maxHeartbeats 8000000 in
set_option maxRecDepth 100000 in
theorem laws_toComplex.calls (k : Nat) (a0_0 : Int) (A0_1 : Option Addr) (c0_1 : Nat) (l0_1 : List Int) (r1 : Int) (r2 : List Int) (w : World) (hr0_1 : Kd.C (Kd.int .i64) w A0_1 l0_1.length l0_1) (hc0_1 : l0_1.length ≤ c0_1) (h : laws_toComplex.f k a0_0 l0_1 = some (r1, r2)) :
    Calls Try.prog 17 #[.agg #[.int .i64 a0_0, .slice A0_1 l0_1.length c0_1]] w fun e w' => ∃ v1_ : Value, e = .returned (.agg #[.int .i64 r1, v1_]) ∧ Kd.R (Kd.int .i64) 2 w' w.heap.size (fun _ => True) v1_ r2 ∧ Below w.heap.size w w' := by
  have hu24 := Try.underlying24
  have hu26 := Try.underlying26
  have HR0_1 := Aside0.mk hr0_1
  have HC0_1 := Aside0.mk hc0_1
  clear hr0_1 hc0_1
  have HB := Aside0.mk (Below.refl w.heap.size w)
  have H : ((laws_toInt64S.f k l0_1).bind fun t111 => (some (a0_0, t111))) = some (r1, r2) := h
  clear h
  replace H := Option.bind_eq_some_iff.mp H
  obtain ⟨t111, A20, H⟩ := H
  replace H : (some (a0_0, t111)) = some (r1, r2) := H
  have A2 := Aside0.mk A20
  clear A20
  simp only [Option.some.injEq, Prod.mk.injEq] at H
  obtain ⟨rfl, rfl⟩ := H
  go_enter Try.func17, Try.ntmps17
  go_wp2_with (first | ((with_reducible refine gate_dst (N := 1) rfl ?_); refine box_event ?hg (N := 1) ?hd (cs := #[.int .i64 a0_0, .slice A0_1 l0_1.length c0_1]) (t := 24) ?hr ?_; (case hd => rfl); (case hg => rfl); (case hr => first | (go_simp; done) | (go_simp; rfl)); intro gb108 hg w3 hbox hb; have n0_ := Aside0.mk (below_step (by repeat (first | (with_reducible first | exact HB.out | apply below_alloc | apply pw_below_drewN | apply below_drew1) | exact HB.out)) hb); have n1_ := Aside0.mk (hbox); have n2_ := Aside0.mk ((by rw [hg]; exact (below_size (by repeat (first | (with_reducible first | exact HB.out | apply below_alloc | apply pw_below_drewN | apply below_drew1) | exact HB.out))) : w.heap.size ≤ gb108)); have n3_ := Aside0.mk ((by rw [hg]; exact (below_size (by repeat (first | (with_reducible first | exact HB.out | apply below_alloc | apply pw_below_drewN | apply below_drew1) | exact HB.out))) : w.heap.size ≤ gb108)); clear HB; have HB := n0_; have BK108 := n1_; have GW108 := n2_; have GE108 := n3_; clear n0_ n1_ n2_ n3_; clear hb hbox hg) | ((with_reducible refine gate_dst (N := 2) rfl ?_); refine box_event ?hg (N := 2) ?hd (cs := #[.int .i64 0, .slice none 0 0]) (t := 26) ?hr ?_; (case hd => rfl); (case hg => rfl); (case hr => first | (go_simp; done) | (go_simp; rfl)); intro gb109 hg w4 hbox hb; have n0_ := Aside0.mk (blk_below (g := gb108) (o := .cells #[.int .i64 a0_0, .slice A0_1 l0_1.length c0_1] 24 (0, 0)) (by (with_reducible repeat (first | refine blk_drewN ?_ _ | refine blk_drew ?_ | refine blk_alloc ?_ _)); exact BK108.out) hb); have n1_ := Aside0.mk (below_step (by repeat (first | (with_reducible first | exact HB.out | apply below_alloc | apply pw_below_drewN | apply below_drew1 | refine below_set ?_ GE108.out) | exact HB.out)) hb); have n2_ := Aside0.mk (hbox); have n3_ := Aside0.mk ((by rw [hg]; exact (below_size (by repeat (first | (with_reducible first | exact HB.out | apply below_alloc | apply pw_below_drewN | apply below_drew1 | refine below_set ?_ GE108.out) | exact HB.out))) : w.heap.size ≤ gb109)); have n4_ := Aside0.mk ((by rw [hg]; exact (below_size (by repeat (first | (with_reducible first | exact HB.out | apply below_alloc | apply pw_below_drewN | apply below_drew1 | refine below_set ?_ GE108.out) | exact HB.out))) : w.heap.size ≤ gb109)); have n5_ := Aside0.mk ((by rw [hg]; exact Nat.ne_of_lt (blk_lt (g := gb108) (o := .cells #[.int .i64 a0_0, .slice A0_1 l0_1.length c0_1] 24 (0, 0)) (by (with_reducible repeat (first | refine blk_drewN ?_ _ | refine blk_drew ?_ | refine blk_alloc ?_ _)); exact BK108.out)) : gb108 ≠ gb109)); have n6_ := Aside0.mk ((by rw [hg]; exact Nat.ne_of_gt (blk_lt (g := gb108) (o := .cells #[.int .i64 a0_0, .slice A0_1 l0_1.length c0_1] 24 (0, 0)) (by (with_reducible repeat (first | refine blk_drewN ?_ _ | refine blk_drew ?_ | refine blk_alloc ?_ _)); exact BK108.out)) : gb109 ≠ gb108)); clear BK108; clear HB; have BK108 := n0_; have HB := n1_; have BK109 := n2_; have GW109 := n3_; have GE109 := n4_; have NB108_109 := n5_; have NB109_108 := n6_; clear n0_ n1_ n2_ n3_ n4_ n5_ n6_; clear hb hbox hg) | ((with_reducible refine gate_dst (N := 3) rfl ?_); refine box_event ?hg (N := 3) ?hd (cs := #[.int .i64 0, .slice none 0 0]) (t := 26) ?hr ?_; (case hd => rfl); (case hg => rfl); (case hr => first | (go_simp; done) | (go_simp; rfl)); intro gb110 hg w5 hbox hb; have n0_ := Aside0.mk (blk_below (g := gb108) (o := .cells #[.int .i64 a0_0, .slice A0_1 l0_1.length c0_1] 24 (0, 0)) (by (with_reducible repeat (first | refine blk_drewN ?_ _ | refine blk_drew ?_ | refine blk_alloc ?_ _)); exact BK108.out) hb); have n1_ := Aside0.mk (blk_below (g := gb109) (o := .cells #[.int .i64 0, .slice none 0 0] 26 (0, 0)) (by (with_reducible repeat (first | refine blk_drewN ?_ _ | refine blk_drew ?_ | refine blk_alloc ?_ _)); exact BK109.out) hb); have n2_ := Aside0.mk (below_step (by repeat (first | (with_reducible first | exact HB.out | apply below_alloc | apply pw_below_drewN | apply below_drew1 | refine below_set ?_ GE108.out | refine below_set ?_ GE109.out) | exact HB.out)) hb); have n3_ := Aside0.mk (hbox); have n4_ := Aside0.mk ((by rw [hg]; exact (below_size (by repeat (first | (with_reducible first | exact HB.out | apply below_alloc | apply pw_below_drewN | apply below_drew1 | refine below_set ?_ GE108.out | refine below_set ?_ GE109.out) | exact HB.out))) : w.heap.size ≤ gb110)); have n5_ := Aside0.mk ((by rw [hg]; exact (below_size (by repeat (first | (with_reducible first | exact HB.out | apply below_alloc | apply pw_below_drewN | apply below_drew1 | refine below_set ?_ GE108.out | refine below_set ?_ GE109.out) | exact HB.out))) : w.heap.size ≤ gb110)); have n6_ := Aside0.mk ((by rw [hg]; exact Nat.ne_of_lt (blk_lt (g := gb108) (o := .cells #[.int .i64 a0_0, .slice A0_1 l0_1.length c0_1] 24 (0, 0)) (by (with_reducible repeat (first | refine blk_drewN ?_ _ | refine blk_drew ?_ | refine blk_alloc ?_ _)); exact BK108.out)) : gb108 ≠ gb110)); have n7_ := Aside0.mk ((by rw [hg]; exact Nat.ne_of_gt (blk_lt (g := gb108) (o := .cells #[.int .i64 a0_0, .slice A0_1 l0_1.length c0_1] 24 (0, 0)) (by (with_reducible repeat (first | refine blk_drewN ?_ _ | refine blk_drew ?_ | refine blk_alloc ?_ _)); exact BK108.out)) : gb110 ≠ gb108)); have n8_ := Aside0.mk ((by rw [hg]; exact Nat.ne_of_lt (blk_lt (g := gb109) (o := .cells #[.int .i64 0, .slice none 0 0] 26 (0, 0)) (by (with_reducible repeat (first | refine blk_drewN ?_ _ | refine blk_drew ?_ | refine blk_alloc ?_ _)); exact BK109.out)) : gb109 ≠ gb110)); have n9_ := Aside0.mk ((by rw [hg]; exact Nat.ne_of_gt (blk_lt (g := gb109) (o := .cells #[.int .i64 0, .slice none 0 0] 26 (0, 0)) (by (with_reducible repeat (first | refine blk_drewN ?_ _ | refine blk_drew ?_ | refine blk_alloc ?_ _)); exact BK109.out)) : gb110 ≠ gb109)); clear BK108; clear BK109; clear HB; have BK108 := n0_; have BK109 := n1_; have HB := n2_; have BK110 := n3_; have GW110 := n4_; have GE110 := n5_; have NB108_110 := n6_; have NB110_108 := n7_; have NB109_110 := n8_; have NB110_109 := n9_; clear n0_ n1_ n2_ n3_ n4_ n5_ n6_ n7_ n8_ n9_; clear hb hbox hg; have hnb6 := NB108_109.out; have hnc6 := NB109_108.out; have hnb7 := NB108_110.out; have hnc7 := NB110_108.out; have hcz8_0 : w5.cell? ⟨gb108, 0, none⟩ = some (.int .i64 a0_0) := (blk_cell BK108.out 0).trans rfl; have hcz8_1 : w5.cell? ⟨gb108, 1, none⟩ = some (.slice A0_1 l0_1.length c0_1) := (blk_cell BK108.out 1).trans rfl; have hfz8_0 := blk_frozen BK108.out 0; have hfz8_1 := blk_frozen BK108.out 1; have hnb9 := NB110_109.out; have hnc9 := NB109_110.out; have hcz10_0 : w5.cell? ⟨gb110, 0, none⟩ = some (.int .i64 0) := (blk_cell BK110.out 0).trans rfl; have hcz10_1 : w5.cell? ⟨gb110, 1, none⟩ = some (.slice none 0 0) := (blk_cell BK110.out 1).trans rfl; have hfz10_0 := blk_frozen BK110.out 0; have hfz10_1 := blk_frozen BK110.out 1) | ((with_reducible refine gate_callee (f := 43) rfl ?_); refine goesL_ (some 9) rfl rfl Try.func43 (by kernel_rfl) rfl #[.slice A0_1 l0_1.length c0_1] rfl (by (try simp only [List.map_toArray, List.map_cons, List.map_nil]); first | done | rfl | (simp only [List.length_drop, List.length_take]; rfl)) ?_; (with_reducible refine (laws_toInt64S.calls k _ _ l0_1 t111 _ ?side1 ?side2 A2.out).mono ?_); (case side1 => exact Kd.C_below HR0_1.out (by repeat (first | (with_reducible first | exact HB.out | apply below_alloc | apply pw_below_drewN | apply below_drew1 | refine below_set ?_ GE108.out | refine below_set ?_ GE109.out | refine below_set ?_ GE110.out) | exact HB.out))); (case side2 => exact HC0_1.out); rintro e w11 ⟨v112, rfl, ho0, hb⟩; refine ⟨_, rfl, ?_⟩; have n0_ := Aside0.mk (Kd.R_lower ho0 (below_size (by repeat (first | (with_reducible first | exact HB.out | apply below_alloc | apply pw_below_drewN | apply below_drew1 | refine below_set ?_ GE108.out | refine below_set ?_ GE109.out | refine below_set ?_ GE110.out) | exact HB.out)))); have n1_ := Aside0.mk (blk_below (g := gb108) (o := .cells #[.int .i64 a0_0, .slice A0_1 l0_1.length c0_1] 24 (0, 0)) (by (with_reducible repeat (first | refine blk_drewN ?_ _ | refine blk_drew ?_ | refine blk_alloc ?_ _)); refine blk_far ?_ NB108_110.out _; (with_reducible repeat (first | refine blk_drewN ?_ _ | refine blk_drew ?_ | refine blk_alloc ?_ _)); exact BK108.out) hb); have n2_ := Aside0.mk (blk_below (g := gb109) (o := .cells #[.int .i64 0, .slice none 0 0] 26 (0, 0)) (by (with_reducible repeat (first | refine blk_drewN ?_ _ | refine blk_drew ?_ | refine blk_alloc ?_ _)); refine blk_far ?_ NB109_110.out _; (with_reducible repeat (first | refine blk_drewN ?_ _ | refine blk_drew ?_ | refine blk_alloc ?_ _)); exact BK109.out) hb); have n3_ := Aside0.mk (blk_below (g := gb110) (o := .cells #[.int .i64 a0_0, .slice none 0 0] 26 (0, 0)) (by (with_reducible repeat (first | refine blk_drewN ?_ _ | refine blk_drew ?_ | refine blk_alloc ?_ _)); refine blk_put (cs := #[.int .i64 0, .slice none 0 0]) ?_ 0 _ rfl; (with_reducible repeat (first | refine blk_drewN ?_ _ | refine blk_drew ?_ | refine blk_alloc ?_ _)); exact BK110.out) hb); have n4_ := Aside0.mk (below_step (by repeat (first | (with_reducible first | exact HB.out | apply below_alloc | apply pw_below_drewN | apply below_drew1 | refine below_set ?_ GE108.out | refine below_set ?_ GE109.out | refine below_set ?_ GE110.out) | exact HB.out)) hb); clear BK108; clear BK109; clear BK110; clear HB; have HO113 := n0_; have BK108 := n1_; have BK109 := n2_; have BK110 := n3_; have HB := n4_; clear n0_ n1_ n2_ n3_ n4_; (try clear hb); (try clear hb2); (try clear hk); (try clear hi); (try clear ho0); obtain ⟨Ao12, co12, eo12⟩ := Kd.R_slice HO113.out; subst eo12; have hcz13_0 : w11.cell? ⟨gb110, 0, none⟩ = some (.int .i64 a0_0) := (blk_cell BK110.out 0).trans rfl; have hcz13_1 : w11.cell? ⟨gb110, 1, none⟩ = some (.slice none 0 0) := (blk_cell BK110.out 1).trans rfl; have hfz13_0 := blk_frozen BK110.out 0; have hfz13_1 := blk_frozen BK110.out 1; have hcz14_0 : w11.cell? ⟨gb109, 0, none⟩ = some (.int .i64 0) := (blk_cell BK109.out 0).trans rfl; have hcz14_1 : w11.cell? ⟨gb109, 1, none⟩ = some (.slice none 0 0) := (blk_cell BK109.out 1).trans rfl; have hfz14_0 := blk_frozen BK109.out 0; have hfz14_1 := blk_frozen BK109.out 1))
  refine bodyPost_ret (results_cell_row rfl _ _ gb109 26 #[.int .i64 a0_0, .slice Ao12 t111.length co12] (0, 0) _ rfl (by (with_reducible repeat (first | refine blk_drewN ?_ _ | refine blk_drew ?_ | refine blk_alloc ?_ _)); refine blk_put (cs := #[.int .i64 a0_0, .slice none 0 0]) ?_ 1 _ rfl; (with_reducible repeat (first | refine blk_drewN ?_ _ | refine blk_drew ?_ | refine blk_alloc ?_ _)); refine blk_put (cs := #[.int .i64 0, .slice none 0 0]) ?_ 0 _ rfl; (with_reducible repeat (first | refine blk_drewN ?_ _ | refine blk_drew ?_ | refine blk_alloc ?_ _)); refine blk_far ?_ NB109_110.out _; (with_reducible repeat (first | refine blk_drewN ?_ _ | refine blk_drew ?_ | refine blk_alloc ?_ _)); exact BK109.out) Try.underlying26 rfl (by kernel_rfl)) rfl ?_
  exact ⟨_, by first | rfl | (simp [errW_none, errW_some] <;> rfl) | (simp [*, errW_none, errW_some] <;> rfl), by (with_reducible repeat (first | apply Kd.R_alloc | apply Kd.R_drewN | apply Kd.R_drew)); exact Kd.R_mono (Kd.R_far (p := ⟨gb109, 1, none⟩) (Kd.R_far (p := ⟨gb109, 0, none⟩) (Kd.R_far (p := ⟨gb110, 1, none⟩) (Kd.R_types (Kd.R_types HO113.out BK110.out (by decide)) BK109.out (by decide)) (fun _ hk => hk.1.2) (.slice Ao12 t111.length co12)) (fun _ hk => hk.2) (.int .i64 a0_0)) (fun _ hk => hk.2) (.slice Ao12 t111.length co12)) (fun _ hk => trivial), by repeat (first | (with_reducible first | exact HB.out | apply below_alloc | apply pw_below_drewN | apply below_drew1 | refine below_set ?_ GE108.out | refine below_set ?_ GE109.out | refine below_set ?_ GE110.out) | exact HB.out)⟩
end Go.Proofs.Ytnmhnkpijjmhjaa.QS
namespace Go.Proofs.Ytnmhnkpijjmhjaa.QFnExactReductionOf
open Go.Proofs.Ytnmhnkpijjmhjaa.Kp Go.Proofs.Ytnmhnkpijjmhjaa.Ext Go.Proofs.Ytnmhnkpijjmhjaa.QS Go.RowKit Go.Proofs.YtnmhnkpijjmhjaaW.PrintWords Go.Proofs.YtnmhnkpijjmhjaaW.PrintLast Go.Proofs.YtnmhnkpijjmhjaaW.PrintMore
attribute [local go_sem] max2_int min2_int max_two min_two max_three min_three max_four min_four   -- for this text's walks alone
set_option linter.unusedVariables false
set_option linter.unusedSimpArgs false
theorem info2 : (Try.prog.info? 2).map (fun i => (i.zero, i.size, i.bytes)) = some (some (.int .i64 0), 1, 8) := by kernel_rfl
theorem info76 : (Try.prog.info? 76).map (fun i => (i.zero, i.size, i.bytes)) = some (some (.agg #[(.int .i64 0), (.int .i64 0)]), 2, 16) := by kernel_rfl
end Go.Proofs.Ytnmhnkpijjmhjaa.QFnExactReductionOf
namespace Go.Proofs.Ytnmhnkpijjmhjaa.QFnExactReductionOf
open Go.Proofs.Ytnmhnkpijjmhjaa.Kp Go.Proofs.Ytnmhnkpijjmhjaa.Ext Go.Proofs.Ytnmhnkpijjmhjaa.QS Go.RowKit Go.Proofs.YtnmhnkpijjmhjaaW.PrintWords Go.Proofs.YtnmhnkpijjmhjaaW.PrintLast Go.Proofs.YtnmhnkpijjmhjaaW.PrintMore
attribute [local go_sem] max2_int min2_int max_two min_two max_three min_three max_four min_four   -- for this text's walks alone
set_option linter.unusedVariables false
set_option linter.unusedSimpArgs false
end Go.Proofs.Ytnmhnkpijjmhjaa.QFnExactReductionOf
namespace Go.Proofs.Ytnmhnkpijjmhjaa.QFnExactReductionOf
open Go.Proofs.Ytnmhnkpijjmhjaa.Kp Go.Proofs.Ytnmhnkpijjmhjaa.Ext Go.Proofs.Ytnmhnkpijjmhjaa.QS Go.RowKit Go.Proofs.YtnmhnkpijjmhjaaW.PrintWords Go.Proofs.YtnmhnkpijjmhjaaW.PrintLast Go.Proofs.YtnmhnkpijjmhjaaW.PrintMore
attribute [local go_sem] max2_int min2_int max_two min_two max_three min_three max_four min_four   -- for this text's walks alone
set_option linter.unusedVariables false
set_option linter.unusedSimpArgs false
def laws_FnExactReductionOf.f (k : Nat) (a0_0 : Int) (l0_1 : List Int) : Option (Bool) := (laws_szComplex.f a0_0 l0_1 1048576).bind fun t252 => (if t252 < 0 then (some true) else ((laws_toComplex.f k a0_0 l0_1).bind fun bt253 => ((spec_ReductionOf.f k bt253.1 bt253.2).bind fun bt257 => ((laws_toComplex.f k a0_0 l0_1).bind fun bt264 => ((impl_ReductionOf.f bt264.1 bt264.2).bind fun bt269 => ((laws_eqPairS.f k bt269.1 bt257.1).bind fun t276 => (if t276 = true then ((laws_eqInt64S.f k bt269.2.1 bt257.2.1).bind fun t277 => (if t277 = true then (if bt269.2.2 = bt257.2.2 then ((laws_toComplex.f k a0_0 l0_1).bind fun bt278 => ((laws_eqComplex.f k bt264.1 bt264.2 bt278.1 bt278.2).bind fun t282 => (if t282 = true then ((laws_markComplex.f k bt264.1 bt264.2 1).bind fun bt283 => (if bt283.1 < 0 then (none) else ((laws_eqPairS.f k bt269.1 bt257.1).bind fun t285 => (if t285 = true then ((laws_eqInt64S.f k bt269.2.1 bt257.2.1).bind fun t286 => (if t286 = true then ((laws_markPairS.f bt269.1 1).bind fun bt287 => ((laws_markInt64S.f k bt269.2.1 bt287.1).bind fun bt289 => ((laws_heldPairS.f bt287.2 1).bind fun t291 => (if t291 < 0 then (none) else ((laws_heldInt64S.f k bt289.2 t291).bind fun t292 => (if t292 < 0 then (none) else (if t292 = bt289.1 then ((laws_toComplex.f k a0_0 l0_1).bind fun bt293 => ((impl_ReductionOf.f bt293.1 bt293.2).bind fun bt297 => ((laws_eqPairS.f k bt297.1 bt257.1).bind fun t304 => (if t304 = true then ((laws_eqInt64S.f k bt297.2.1 bt257.2.1).bind fun t305 => (if t305 = true then (if bt297.2.2 = bt257.2.2 then ((laws_heldPairS.f bt287.2 1).bind fun t306 => (if t306 < 0 then (none) else ((laws_heldInt64S.f k bt289.2 t306).bind fun t307 => (if t307 < 0 then (none) else (if t307 = bt289.1 then (some true) else (none)))))) else (none)) else (none))) else (none))))) else (none)))))))) else (none))) else (none))))) else (none)))) else (none)) else (none))) else (none))))))))
set_option maxHeartbeats 8000000 in
set_option maxRecDepth 100000 in
theorem laws_FnExactReductionOf.calls (k : Nat) (a0_0 : Int) (A0_1 : Option Addr) (c0_1 : Nat) (l0_1 : List Int) (r : Bool) (w : World) (hr0_1 : Kd.C (Kd.int .i64) w A0_1 l0_1.length l0_1) (hc0_1 : l0_1.length ≤ c0_1) (h : laws_FnExactReductionOf.f k a0_0 l0_1 = some r) :
    Calls Try.prog 9 #[.agg #[.int .i64 a0_0, .slice A0_1 l0_1.length c0_1]] w fun e w' => e = .returned (.bool r) ∧ Below w.heap.size w w' := by
  have hu24 := Try.underlying24
  have hu26 := Try.underlying26
  have HR0_1 := Aside0.mk hr0_1
  have HC0_1 := Aside0.mk hc0_1
  clear hr0_1 hc0_1
  have HB := Aside0.mk (Below.refl w.heap.size w)
  have H : ((laws_szComplex.f a0_0 l0_1 1048576).bind fun t252 => (if t252 < 0 then (some true) else ((laws_toComplex.f k a0_0 l0_1).bind fun bt253 => ((spec_ReductionOf.f k bt253.1 bt253.2).bind fun bt257 => ((laws_toComplex.f k a0_0 l0_1).bind fun bt264 => ((impl_ReductionOf.f bt264.1 bt264.2).bind fun bt269 => ((laws_eqPairS.f k bt269.1 bt257.1).bind fun t276 => (if t276 = true then ((laws_eqInt64S.f k bt269.2.1 bt257.2.1).bind fun t277 => (if t277 = true then (if bt269.2.2 = bt257.2.2 then ((laws_toComplex.f k a0_0 l0_1).bind fun bt278 => ((laws_eqComplex.f k bt264.1 bt264.2 bt278.1 bt278.2).bind fun t282 => (if t282 = true then ((laws_markComplex.f k bt264.1 bt264.2 1).bind fun bt283 => (if bt283.1 < 0 then (none) else ((laws_eqPairS.f k bt269.1 bt257.1).bind fun t285 => (if t285 = true then ((laws_eqInt64S.f k bt269.2.1 bt257.2.1).bind fun t286 => (if t286 = true then ((laws_markPairS.f bt269.1 1).bind fun bt287 => ((laws_markInt64S.f k bt269.2.1 bt287.1).bind fun bt289 => ((laws_heldPairS.f bt287.2 1).bind fun t291 => (if t291 < 0 then (none) else ((laws_heldInt64S.f k bt289.2 t291).bind fun t292 => (if t292 < 0 then (none) else (if t292 = bt289.1 then ((laws_toComplex.f k a0_0 l0_1).bind fun bt293 => ((impl_ReductionOf.f bt293.1 bt293.2).bind fun bt297 => ((laws_eqPairS.f k bt297.1 bt257.1).bind fun t304 => (if t304 = true then ((laws_eqInt64S.f k bt297.2.1 bt257.2.1).bind fun t305 => (if t305 = true then (if bt297.2.2 = bt257.2.2 then ((laws_heldPairS.f bt287.2 1).bind fun t306 => (if t306 < 0 then (none) else ((laws_heldInt64S.f k bt289.2 t306).bind fun t307 => (if t307 < 0 then (none) else (if t307 = bt289.1 then (some true) else (none)))))) else (none)) else (none))) else (none))))) else (none)))))))) else (none))) else (none))))) else (none)))) else (none)) else (none))) else (none))))))))) = some r := h
  clear h
  replace H := Option.bind_eq_some_iff.mp H
  obtain ⟨t252, A20, H⟩ := H
  replace H : (if t252 < 0 then (some true) else ((laws_toComplex.f k a0_0 l0_1).bind fun bt253 => ((spec_ReductionOf.f k bt253.1 bt253.2).bind fun bt257 => ((laws_toComplex.f k a0_0 l0_1).bind fun bt264 => ((impl_ReductionOf.f bt264.1 bt264.2).bind fun bt269 => ((laws_eqPairS.f k bt269.1 bt257.1).bind fun t276 => (if t276 = true then ((laws_eqInt64S.f k bt269.2.1 bt257.2.1).bind fun t277 => (if t277 = true then (if bt269.2.2 = bt257.2.2 then ((laws_toComplex.f k a0_0 l0_1).bind fun bt278 => ((laws_eqComplex.f k bt264.1 bt264.2 bt278.1 bt278.2).bind fun t282 => (if t282 = true then ((laws_markComplex.f k bt264.1 bt264.2 1).bind fun bt283 => (if bt283.1 < 0 then (none) else ((laws_eqPairS.f k bt269.1 bt257.1).bind fun t285 => (if t285 = true then ((laws_eqInt64S.f k bt269.2.1 bt257.2.1).bind fun t286 => (if t286 = true then ((laws_markPairS.f bt269.1 1).bind fun bt287 => ((laws_markInt64S.f k bt269.2.1 bt287.1).bind fun bt289 => ((laws_heldPairS.f bt287.2 1).bind fun t291 => (if t291 < 0 then (none) else ((laws_heldInt64S.f k bt289.2 t291).bind fun t292 => (if t292 < 0 then (none) else (if t292 = bt289.1 then ((laws_toComplex.f k a0_0 l0_1).bind fun bt293 => ((impl_ReductionOf.f bt293.1 bt293.2).bind fun bt297 => ((laws_eqPairS.f k bt297.1 bt257.1).bind fun t304 => (if t304 = true then ((laws_eqInt64S.f k bt297.2.1 bt257.2.1).bind fun t305 => (if t305 = true then (if bt297.2.2 = bt257.2.2 then ((laws_heldPairS.f bt287.2 1).bind fun t306 => (if t306 < 0 then (none) else ((laws_heldInt64S.f k bt289.2 t306).bind fun t307 => (if t307 < 0 then (none) else (if t307 = bt289.1 then (some true) else (none)))))) else (none)) else (none))) else (none))))) else (none)))))))) else (none))) else (none))))) else (none)))) else (none)) else (none))) else (none)))))))) = some r := H
  have A2 := Aside0.mk A20
  clear A20
  by_cases c3 : t252 < 0
  · rw [if_pos c3] at H
    have c3b0 : decide (t252 < 0) = true := decide_eq_true c3
    clear c3
    obtain rfl := Option.some.inj H
    go_enter Try.func9, Try.ntmps9
    go_wp2_with (first | ((with_reducible refine gate_dst (N := 1) rfl ?_); refine box_event ?hg (N := 1) ?hd (cs := #[.int .i64 a0_0, .slice A0_1 l0_1.length c0_1]) (t := 24) ?hr ?_; (case hd => rfl); (case hg => rfl); (case hr => first | (go_simp; done) | (go_simp; rfl)); intro gb251 hg w4 hbox hb; have n0_ := Aside0.mk (below_step (by repeat (first | (with_reducible first | exact HB.out | apply below_alloc | apply pw_below_drewN | apply below_drew1) | exact HB.out)) hb); have n1_ := Aside0.mk (hbox); have n2_ := Aside0.mk ((by rw [hg]; exact (below_size (by repeat (first | (with_reducible first | exact HB.out | apply below_alloc | apply pw_below_drewN | apply below_drew1) | exact HB.out))) : w.heap.size ≤ gb251)); have n3_ := Aside0.mk ((by rw [hg]; exact (below_size (by repeat (first | (with_reducible first | exact HB.out | apply below_alloc | apply pw_below_drewN | apply below_drew1) | exact HB.out))) : w.heap.size ≤ gb251)); clear HB; have HB := n0_; have BK251 := n1_; have GW251 := n2_; have GE251 := n3_; clear n0_ n1_ n2_ n3_; clear hb hbox hg; have hcz5_0 : w4.cell? ⟨gb251, 0, none⟩ = some (.int .i64 a0_0) := (blk_cell BK251.out 0).trans rfl; have hcz5_1 : w4.cell? ⟨gb251, 1, none⟩ = some (.slice A0_1 l0_1.length c0_1) := (blk_cell BK251.out 1).trans rfl; have hfz5_0 := blk_frozen BK251.out 0; have hfz5_1 := blk_frozen BK251.out 1) | ((with_reducible refine gate_callee (f := 15) rfl ?_); refine goesL_ (some 19) rfl rfl Try.func15 (by kernel_rfl) rfl #[.agg #[.int .i64 a0_0, .slice A0_1 l0_1.length c0_1], .int .i64 1048576] rfl (by (try simp only [List.map_toArray, List.map_cons, List.map_nil]); first | done | rfl | (simp only [List.length_drop, List.length_take]; rfl)) ?_; (with_reducible refine (laws_szComplex.calls a0_0 _ _ l0_1 1048576 t252 _ ?side1 ?side2 A2.out).mono ?_); (case side1 => repeat (first | exact (Kd.C_below HR0_1.out HB.out) | (with_reducible refine Kd.C_alloc ?_ _) | (with_reducible refine Kd.C_drewN ?_ _) | (with_reducible refine Kd.C_drew ?_))); (case side2 => exact HC0_1.out); rintro e w6 ⟨rfl, hb⟩; refine ⟨_, rfl, ?_⟩; have n0_ := Aside0.mk (blk_below (g := gb251) (o := .cells #[.int .i64 a0_0, .slice A0_1 l0_1.length c0_1] 24 (0, 0)) (by (with_reducible repeat (first | refine blk_drewN ?_ _ | refine blk_drew ?_ | refine blk_alloc ?_ _)); exact BK251.out) hb); have n1_ := Aside0.mk (below_step (by repeat (first | (with_reducible first | exact HB.out | apply below_alloc | apply pw_below_drewN | apply below_drew1 | refine below_set ?_ GE251.out) | exact HB.out)) hb); clear BK251; clear HB; have BK251 := n0_; have HB := n1_; clear n0_ n1_; (try clear hb); (try clear hb2); (try clear hk); (try clear hi)))
    go_ret
    exact ⟨by first | rfl | (simp [errW_none, errW_some] <;> rfl) | (simp [*, errW_none, errW_some] <;> rfl), by repeat (first | (with_reducible first | exact HB.out | apply below_alloc | apply pw_below_drewN | apply below_drew1 | refine below_set ?_ GE251.out) | exact HB.out)⟩
  · rw [if_neg c3] at H
    have c3b0 : decide (t252 < 0) = false := decide_eq_false c3
    clear c3
    replace H := Option.bind_eq_some_iff.mp H
    obtain ⟨⟨t253, t254⟩, A70, H⟩ := H
    replace H : ((spec_ReductionOf.f k t253 t254).bind fun bt257 => ((laws_toComplex.f k a0_0 l0_1).bind fun bt264 => ((impl_ReductionOf.f bt264.1 bt264.2).bind fun bt269 => ((laws_eqPairS.f k bt269.1 bt257.1).bind fun t276 => (if t276 = true then ((laws_eqInt64S.f k bt269.2.1 bt257.2.1).bind fun t277 => (if t277 = true then (if bt269.2.2 = bt257.2.2 then ((laws_toComplex.f k a0_0 l0_1).bind fun bt278 => ((laws_eqComplex.f k bt264.1 bt264.2 bt278.1 bt278.2).bind fun t282 => (if t282 = true then ((laws_markComplex.f k bt264.1 bt264.2 1).bind fun bt283 => (if bt283.1 < 0 then (none) else ((laws_eqPairS.f k bt269.1 bt257.1).bind fun t285 => (if t285 = true then ((laws_eqInt64S.f k bt269.2.1 bt257.2.1).bind fun t286 => (if t286 = true then ((laws_markPairS.f bt269.1 1).bind fun bt287 => ((laws_markInt64S.f k bt269.2.1 bt287.1).bind fun bt289 => ((laws_heldPairS.f bt287.2 1).bind fun t291 => (if t291 < 0 then (none) else ((laws_heldInt64S.f k bt289.2 t291).bind fun t292 => (if t292 < 0 then (none) else (if t292 = bt289.1 then ((laws_toComplex.f k a0_0 l0_1).bind fun bt293 => ((impl_ReductionOf.f bt293.1 bt293.2).bind fun bt297 => ((laws_eqPairS.f k bt297.1 bt257.1).bind fun t304 => (if t304 = true then ((laws_eqInt64S.f k bt297.2.1 bt257.2.1).bind fun t305 => (if t305 = true then (if bt297.2.2 = bt257.2.2 then ((laws_heldPairS.f bt287.2 1).bind fun t306 => (if t306 < 0 then (none) else ((laws_heldInt64S.f k bt289.2 t306).bind fun t307 => (if t307 < 0 then (none) else (if t307 = bt289.1 then (some true) else (none)))))) else (none)) else (none))) else (none))))) else (none)))))))) else (none))) else (none))))) else (none)))) else (none)) else (none))) else (none)))))) = some r := H
    have A7 := Aside0.mk A70
    clear A70
    replace H := Option.bind_eq_some_iff.mp H
    obtain ⟨⟨t257, t260, t263⟩, A80, H⟩ := H
    replace H : ((laws_toComplex.f k a0_0 l0_1).bind fun bt264 => ((impl_ReductionOf.f bt264.1 bt264.2).bind fun bt269 => ((laws_eqPairS.f k bt269.1 t257).bind fun t276 => (if t276 = true then ((laws_eqInt64S.f k bt269.2.1 t260).bind fun t277 => (if t277 = true then (if bt269.2.2 = t263 then ((laws_toComplex.f k a0_0 l0_1).bind fun bt278 => ((laws_eqComplex.f k bt264.1 bt264.2 bt278.1 bt278.2).bind fun t282 => (if t282 = true then ((laws_markComplex.f k bt264.1 bt264.2 1).bind fun bt283 => (if bt283.1 < 0 then (none) else ((laws_eqPairS.f k bt269.1 t257).bind fun t285 => (if t285 = true then ((laws_eqInt64S.f k bt269.2.1 t260).bind fun t286 => (if t286 = true then ((laws_markPairS.f bt269.1 1).bind fun bt287 => ((laws_markInt64S.f k bt269.2.1 bt287.1).bind fun bt289 => ((laws_heldPairS.f bt287.2 1).bind fun t291 => (if t291 < 0 then (none) else ((laws_heldInt64S.f k bt289.2 t291).bind fun t292 => (if t292 < 0 then (none) else (if t292 = bt289.1 then ((laws_toComplex.f k a0_0 l0_1).bind fun bt293 => ((impl_ReductionOf.f bt293.1 bt293.2).bind fun bt297 => ((laws_eqPairS.f k bt297.1 t257).bind fun t304 => (if t304 = true then ((laws_eqInt64S.f k bt297.2.1 t260).bind fun t305 => (if t305 = true then (if bt297.2.2 = t263 then ((laws_heldPairS.f bt287.2 1).bind fun t306 => (if t306 < 0 then (none) else ((laws_heldInt64S.f k bt289.2 t306).bind fun t307 => (if t307 < 0 then (none) else (if t307 = bt289.1 then (some true) else (none)))))) else (none)) else (none))) else (none))))) else (none)))))))) else (none))) else (none))))) else (none)))) else (none)) else (none))) else (none))))) = some r := H
    have A8 := Aside0.mk A80
    clear A80
    replace H := Option.bind_eq_some_iff.mp H
    obtain ⟨⟨t264, t265⟩, A90, H⟩ := H
    replace H : ((impl_ReductionOf.f t264 t265).bind fun bt269 => ((laws_eqPairS.f k bt269.1 t257).bind fun t276 => (if t276 = true then ((laws_eqInt64S.f k bt269.2.1 t260).bind fun t277 => (if t277 = true then (if bt269.2.2 = t263 then ((laws_toComplex.f k a0_0 l0_1).bind fun bt278 => ((laws_eqComplex.f k t264 t265 bt278.1 bt278.2).bind fun t282 => (if t282 = true then ((laws_markComplex.f k t264 t265 1).bind fun bt283 => (if bt283.1 < 0 then (none) else ((laws_eqPairS.f k bt269.1 t257).bind fun t285 => (if t285 = true then ((laws_eqInt64S.f k bt269.2.1 t260).bind fun t286 => (if t286 = true then ((laws_markPairS.f bt269.1 1).bind fun bt287 => ((laws_markInt64S.f k bt269.2.1 bt287.1).bind fun bt289 => ((laws_heldPairS.f bt287.2 1).bind fun t291 => (if t291 < 0 then (none) else ((laws_heldInt64S.f k bt289.2 t291).bind fun t292 => (if t292 < 0 then (none) else (if t292 = bt289.1 then ((laws_toComplex.f k a0_0 l0_1).bind fun bt293 => ((impl_ReductionOf.f bt293.1 bt293.2).bind fun bt297 => ((laws_eqPairS.f k bt297.1 t257).bind fun t304 => (if t304 = true then ((laws_eqInt64S.f k bt297.2.1 t260).bind fun t305 => (if t305 = true then (if bt297.2.2 = t263 then ((laws_heldPairS.f bt287.2 1).bind fun t306 => (if t306 < 0 then (none) else ((laws_heldInt64S.f k bt289.2 t306).bind fun t307 => (if t307 < 0 then (none) else (if t307 = bt289.1 then (some true) else (none)))))) else (none)) else (none))) else (none))))) else (none)))))))) else (none))) else (none))))) else (none)))) else (none)) else (none))) else (none)))) = some r := H
    have A9 := Aside0.mk A90
    clear A90
    replace H := Option.bind_eq_some_iff.mp H
    obtain ⟨⟨t269, t272, t275⟩, A100, H⟩ := H
    replace H : ((laws_eqPairS.f k t269 t257).bind fun t276 => (if t276 = true then ((laws_eqInt64S.f k t272 t260).bind fun t277 => (if t277 = true then (if t275 = t263 then ((laws_toComplex.f k a0_0 l0_1).bind fun bt278 => ((laws_eqComplex.f k t264 t265 bt278.1 bt278.2).bind fun t282 => (if t282 = true then ((laws_markComplex.f k t264 t265 1).bind fun bt283 => (if bt283.1 < 0 then (none) else ((laws_eqPairS.f k t269 t257).bind fun t285 => (if t285 = true then ((laws_eqInt64S.f k t272 t260).bind fun t286 => (if t286 = true then ((laws_markPairS.f t269 1).bind fun bt287 => ((laws_markInt64S.f k t272 bt287.1).bind fun bt289 => ((laws_heldPairS.f bt287.2 1).bind fun t291 => (if t291 < 0 then (none) else ((laws_heldInt64S.f k bt289.2 t291).bind fun t292 => (if t292 < 0 then (none) else (if t292 = bt289.1 then ((laws_toComplex.f k a0_0 l0_1).bind fun bt293 => ((impl_ReductionOf.f bt293.1 bt293.2).bind fun bt297 => ((laws_eqPairS.f k bt297.1 t257).bind fun t304 => (if t304 = true then ((laws_eqInt64S.f k bt297.2.1 t260).bind fun t305 => (if t305 = true then (if bt297.2.2 = t263 then ((laws_heldPairS.f bt287.2 1).bind fun t306 => (if t306 < 0 then (none) else ((laws_heldInt64S.f k bt289.2 t306).bind fun t307 => (if t307 < 0 then (none) else (if t307 = bt289.1 then (some true) else (none)))))) else (none)) else (none))) else (none))))) else (none)))))))) else (none))) else (none))))) else (none)))) else (none)) else (none))) else (none))) = some r := H
    have A10 := Aside0.mk A100
    clear A100
    replace H := Option.bind_eq_some_iff.mp H
    obtain ⟨t276, A110, H⟩ := H
    replace H : (if t276 = true then ((laws_eqInt64S.f k t272 t260).bind fun t277 => (if t277 = true then (if t275 = t263 then ((laws_toComplex.f k a0_0 l0_1).bind fun bt278 => ((laws_eqComplex.f k t264 t265 bt278.1 bt278.2).bind fun t282 => (if t282 = true then ((laws_markComplex.f k t264 t265 1).bind fun bt283 => (if bt283.1 < 0 then (none) else ((laws_eqPairS.f k t269 t257).bind fun t285 => (if t285 = true then ((laws_eqInt64S.f k t272 t260).bind fun t286 => (if t286 = true then ((laws_markPairS.f t269 1).bind fun bt287 => ((laws_markInt64S.f k t272 bt287.1).bind fun bt289 => ((laws_heldPairS.f bt287.2 1).bind fun t291 => (if t291 < 0 then (none) else ((laws_heldInt64S.f k bt289.2 t291).bind fun t292 => (if t292 < 0 then (none) else (if t292 = bt289.1 then ((laws_toComplex.f k a0_0 l0_1).bind fun bt293 => ((impl_ReductionOf.f bt293.1 bt293.2).bind fun bt297 => ((laws_eqPairS.f k bt297.1 t257).bind fun t304 => (if t304 = true then ((laws_eqInt64S.f k bt297.2.1 t260).bind fun t305 => (if t305 = true then (if bt297.2.2 = t263 then ((laws_heldPairS.f bt287.2 1).bind fun t306 => (if t306 < 0 then (none) else ((laws_heldInt64S.f k bt289.2 t306).bind fun t307 => (if t307 < 0 then (none) else (if t307 = bt289.1 then (some true) else (none)))))) else (none)) else (none))) else (none))))) else (none)))))))) else (none))) else (none))))) else (none)))) else (none)) else (none))) else (none)) = some r := H
    have A11 := Aside0.mk A110
    clear A110
    by_cases c12 : t276 = true
    · subst c12
      have H1 : ((laws_eqInt64S.f k t272 t260).bind fun t277 => (if t277 = true then (if t275 = t263 then ((laws_toComplex.f k a0_0 l0_1).bind fun bt278 => ((laws_eqComplex.f k t264 t265 bt278.1 bt278.2).bind fun t282 => (if t282 = true then ((laws_markComplex.f k t264 t265 1).bind fun bt283 => (if bt283.1 < 0 then (none) else ((laws_eqPairS.f k t269 t257).bind fun t285 => (if t285 = true then ((laws_eqInt64S.f k t272 t260).bind fun t286 => (if t286 = true then ((laws_markPairS.f t269 1).bind fun bt287 => ((laws_markInt64S.f k t272 bt287.1).bind fun bt289 => ((laws_heldPairS.f bt287.2 1).bind fun t291 => (if t291 < 0 then (none) else ((laws_heldInt64S.f k bt289.2 t291).bind fun t292 => (if t292 < 0 then (none) else (if t292 = bt289.1 then ((laws_toComplex.f k a0_0 l0_1).bind fun bt293 => ((impl_ReductionOf.f bt293.1 bt293.2).bind fun bt297 => ((laws_eqPairS.f k bt297.1 t257).bind fun t304 => (if t304 = true then ((laws_eqInt64S.f k bt297.2.1 t260).bind fun t305 => (if t305 = true then (if bt297.2.2 = t263 then ((laws_heldPairS.f bt287.2 1).bind fun t306 => (if t306 < 0 then (none) else ((laws_heldInt64S.f k bt289.2 t306).bind fun t307 => (if t307 < 0 then (none) else (if t307 = bt289.1 then (some true) else (none)))))) else (none)) else (none))) else (none))))) else (none)))))))) else (none))) else (none))))) else (none)))) else (none)) else (none))) = some r := by rw [if_pos rfl] at H; exact H
      clear H
      have H := H1
      clear H1
      replace H := Option.bind_eq_some_iff.mp H
      obtain ⟨t277, A130, H⟩ := H
      replace H : (if t277 = true then (if t275 = t263 then ((laws_toComplex.f k a0_0 l0_1).bind fun bt278 => ((laws_eqComplex.f k t264 t265 bt278.1 bt278.2).bind fun t282 => (if t282 = true then ((laws_markComplex.f k t264 t265 1).bind fun bt283 => (if bt283.1 < 0 then (none) else ((laws_eqPairS.f k t269 t257).bind fun t285 => (if t285 = true then ((laws_eqInt64S.f k t272 t260).bind fun t286 => (if t286 = true then ((laws_markPairS.f t269 1).bind fun bt287 => ((laws_markInt64S.f k t272 bt287.1).bind fun bt289 => ((laws_heldPairS.f bt287.2 1).bind fun t291 => (if t291 < 0 then (none) else ((laws_heldInt64S.f k bt289.2 t291).bind fun t292 => (if t292 < 0 then (none) else (if t292 = bt289.1 then ((laws_toComplex.f k a0_0 l0_1).bind fun bt293 => ((impl_ReductionOf.f bt293.1 bt293.2).bind fun bt297 => ((laws_eqPairS.f k bt297.1 t257).bind fun t304 => (if t304 = true then ((laws_eqInt64S.f k bt297.2.1 t260).bind fun t305 => (if t305 = true then (if bt297.2.2 = t263 then ((laws_heldPairS.f bt287.2 1).bind fun t306 => (if t306 < 0 then (none) else ((laws_heldInt64S.f k bt289.2 t306).bind fun t307 => (if t307 < 0 then (none) else (if t307 = bt289.1 then (some true) else (none)))))) else (none)) else (none))) else (none))))) else (none)))))))) else (none))) else (none))))) else (none)))) else (none)) else (none)) = some r := H
      have A13 := Aside0.mk A130
      clear A130
      by_cases c14 : t277 = true
      · subst c14
        have H1 : (if t275 = t263 then ((laws_toComplex.f k a0_0 l0_1).bind fun bt278 => ((laws_eqComplex.f k t264 t265 bt278.1 bt278.2).bind fun t282 => (if t282 = true then ((laws_markComplex.f k t264 t265 1).bind fun bt283 => (if bt283.1 < 0 then (none) else ((laws_eqPairS.f k t269 t257).bind fun t285 => (if t285 = true then ((laws_eqInt64S.f k t272 t260).bind fun t286 => (if t286 = true then ((laws_markPairS.f t269 1).bind fun bt287 => ((laws_markInt64S.f k t272 bt287.1).bind fun bt289 => ((laws_heldPairS.f bt287.2 1).bind fun t291 => (if t291 < 0 then (none) else ((laws_heldInt64S.f k bt289.2 t291).bind fun t292 => (if t292 < 0 then (none) else (if t292 = bt289.1 then ((laws_toComplex.f k a0_0 l0_1).bind fun bt293 => ((impl_ReductionOf.f bt293.1 bt293.2).bind fun bt297 => ((laws_eqPairS.f k bt297.1 t257).bind fun t304 => (if t304 = true then ((laws_eqInt64S.f k bt297.2.1 t260).bind fun t305 => (if t305 = true then (if bt297.2.2 = t263 then ((laws_heldPairS.f bt287.2 1).bind fun t306 => (if t306 < 0 then (none) else ((laws_heldInt64S.f k bt289.2 t306).bind fun t307 => (if t307 < 0 then (none) else (if t307 = bt289.1 then (some true) else (none)))))) else (none)) else (none))) else (none))))) else (none)))))))) else (none))) else (none))))) else (none)))) else (none)) = some r := by rw [if_pos rfl] at H; exact H
        clear H
        have H := H1
        clear H1
        by_cases c15 : t275 = t263
        · rw [if_pos c15] at H
          have c15b0 : (t275 == t263) = true := beq_iff_eq.mpr c15
          have c15b1 : (t275 != t263) = false := bne_eq_false_iff_eq.mpr c15
          clear c15
          replace H := Option.bind_eq_some_iff.mp H
          obtain ⟨⟨t278, t279⟩, A160, H⟩ := H
          replace H : ((laws_eqComplex.f k t264 t265 t278 t279).bind fun t282 => (if t282 = true then ((laws_markComplex.f k t264 t265 1).bind fun bt283 => (if bt283.1 < 0 then (none) else ((laws_eqPairS.f k t269 t257).bind fun t285 => (if t285 = true then ((laws_eqInt64S.f k t272 t260).bind fun t286 => (if t286 = true then ((laws_markPairS.f t269 1).bind fun bt287 => ((laws_markInt64S.f k t272 bt287.1).bind fun bt289 => ((laws_heldPairS.f bt287.2 1).bind fun t291 => (if t291 < 0 then (none) else ((laws_heldInt64S.f k bt289.2 t291).bind fun t292 => (if t292 < 0 then (none) else (if t292 = bt289.1 then ((laws_toComplex.f k a0_0 l0_1).bind fun bt293 => ((impl_ReductionOf.f bt293.1 bt293.2).bind fun bt297 => ((laws_eqPairS.f k bt297.1 t257).bind fun t304 => (if t304 = true then ((laws_eqInt64S.f k bt297.2.1 t260).bind fun t305 => (if t305 = true then (if bt297.2.2 = t263 then ((laws_heldPairS.f bt287.2 1).bind fun t306 => (if t306 < 0 then (none) else ((laws_heldInt64S.f k bt289.2 t306).bind fun t307 => (if t307 < 0 then (none) else (if t307 = bt289.1 then (some true) else (none)))))) else (none)) else (none))) else (none))))) else (none)))))))) else (none))) else (none))))) else (none))) = some r := H
          have A16 := Aside0.mk A160
          clear A160
          replace H := Option.bind_eq_some_iff.mp H
          obtain ⟨t282, A170, H⟩ := H
          replace H : (if t282 = true then ((laws_markComplex.f k t264 t265 1).bind fun bt283 => (if bt283.1 < 0 then (none) else ((laws_eqPairS.f k t269 t257).bind fun t285 => (if t285 = true then ((laws_eqInt64S.f k t272 t260).bind fun t286 => (if t286 = true then ((laws_markPairS.f t269 1).bind fun bt287 => ((laws_markInt64S.f k t272 bt287.1).bind fun bt289 => ((laws_heldPairS.f bt287.2 1).bind fun t291 => (if t291 < 0 then (none) else ((laws_heldInt64S.f k bt289.2 t291).bind fun t292 => (if t292 < 0 then (none) else (if t292 = bt289.1 then ((laws_toComplex.f k a0_0 l0_1).bind fun bt293 => ((impl_ReductionOf.f bt293.1 bt293.2).bind fun bt297 => ((laws_eqPairS.f k bt297.1 t257).bind fun t304 => (if t304 = true then ((laws_eqInt64S.f k bt297.2.1 t260).bind fun t305 => (if t305 = true then (if bt297.2.2 = t263 then ((laws_heldPairS.f bt287.2 1).bind fun t306 => (if t306 < 0 then (none) else ((laws_heldInt64S.f k bt289.2 t306).bind fun t307 => (if t307 < 0 then (none) else (if t307 = bt289.1 then (some true) else (none)))))) else (none)) else (none))) else (none))))) else (none)))))))) else (none))) else (none))))) else (none)) = some r := H
          have A17 := Aside0.mk A170
          clear A170
          by_cases c18 : t282 = true
          · subst c18
            have H1 : ((laws_markComplex.f k t264 t265 1).bind fun bt283 => (if bt283.1 < 0 then (none) else ((laws_eqPairS.f k t269 t257).bind fun t285 => (if t285 = true then ((laws_eqInt64S.f k t272 t260).bind fun t286 => (if t286 = true then ((laws_markPairS.f t269 1).bind fun bt287 => ((laws_markInt64S.f k t272 bt287.1).bind fun bt289 => ((laws_heldPairS.f bt287.2 1).bind fun t291 => (if t291 < 0 then (none) else ((laws_heldInt64S.f k bt289.2 t291).bind fun t292 => (if t292 < 0 then (none) else (if t292 = bt289.1 then ((laws_toComplex.f k a0_0 l0_1).bind fun bt293 => ((impl_ReductionOf.f bt293.1 bt293.2).bind fun bt297 => ((laws_eqPairS.f k bt297.1 t257).bind fun t304 => (if t304 = true then ((laws_eqInt64S.f k bt297.2.1 t260).bind fun t305 => (if t305 = true then (if bt297.2.2 = t263 then ((laws_heldPairS.f bt287.2 1).bind fun t306 => (if t306 < 0 then (none) else ((laws_heldInt64S.f k bt289.2 t306).bind fun t307 => (if t307 < 0 then (none) else (if t307 = bt289.1 then (some true) else (none)))))) else (none)) else (none))) else (none))))) else (none)))))))) else (none))) else (none))))) = some r := by rw [if_pos rfl] at H; exact H
            clear H
            have H := H1
            clear H1
            replace H := Option.bind_eq_some_iff.mp H
            obtain ⟨⟨t283, t284⟩, A190, H⟩ := H
            replace H : (if t283 < 0 then (none) else ((laws_eqPairS.f k t269 t257).bind fun t285 => (if t285 = true then ((laws_eqInt64S.f k t272 t260).bind fun t286 => (if t286 = true then ((laws_markPairS.f t269 1).bind fun bt287 => ((laws_markInt64S.f k t272 bt287.1).bind fun bt289 => ((laws_heldPairS.f bt287.2 1).bind fun t291 => (if t291 < 0 then (none) else ((laws_heldInt64S.f k bt289.2 t291).bind fun t292 => (if t292 < 0 then (none) else (if t292 = bt289.1 then ((laws_toComplex.f k a0_0 l0_1).bind fun bt293 => ((impl_ReductionOf.f bt293.1 bt293.2).bind fun bt297 => ((laws_eqPairS.f k bt297.1 t257).bind fun t304 => (if t304 = true then ((laws_eqInt64S.f k bt297.2.1 t260).bind fun t305 => (if t305 = true then (if bt297.2.2 = t263 then ((laws_heldPairS.f bt287.2 1).bind fun t306 => (if t306 < 0 then (none) else ((laws_heldInt64S.f k bt289.2 t306).bind fun t307 => (if t307 < 0 then (none) else (if t307 = bt289.1 then (some true) else (none)))))) else (none)) else (none))) else (none))))) else (none)))))))) else (none))) else (none)))) = some r := H
            have A19 := Aside0.mk A190
            clear A190
            by_cases c20 : t283 < 0
            · rw [if_pos c20] at H
              exact absurd H (by simp)
            · rw [if_neg c20] at H
              have c20b0 : decide (t283 < 0) = false := decide_eq_false c20
              clear c20
              replace H := Option.bind_eq_some_iff.mp H
              obtain ⟨t285, A210, H⟩ := H
              replace H : (if t285 = true then ((laws_eqInt64S.f k t272 t260).bind fun t286 => (if t286 = true then ((laws_markPairS.f t269 1).bind fun bt287 => ((laws_markInt64S.f k t272 bt287.1).bind fun bt289 => ((laws_heldPairS.f bt287.2 1).bind fun t291 => (if t291 < 0 then (none) else ((laws_heldInt64S.f k bt289.2 t291).bind fun t292 => (if t292 < 0 then (none) else (if t292 = bt289.1 then ((laws_toComplex.f k a0_0 l0_1).bind fun bt293 => ((impl_ReductionOf.f bt293.1 bt293.2).bind fun bt297 => ((laws_eqPairS.f k bt297.1 t257).bind fun t304 => (if t304 = true then ((laws_eqInt64S.f k bt297.2.1 t260).bind fun t305 => (if t305 = true then (if bt297.2.2 = t263 then ((laws_heldPairS.f bt287.2 1).bind fun t306 => (if t306 < 0 then (none) else ((laws_heldInt64S.f k bt289.2 t306).bind fun t307 => (if t307 < 0 then (none) else (if t307 = bt289.1 then (some true) else (none)))))) else (none)) else (none))) else (none))))) else (none)))))))) else (none))) else (none)) = some r := H
              have A21 := Aside0.mk A210
              clear A210
              by_cases c22 : t285 = true
              · subst c22
                have H1 : ((laws_eqInt64S.f k t272 t260).bind fun t286 => (if t286 = true then ((laws_markPairS.f t269 1).bind fun bt287 => ((laws_markInt64S.f k t272 bt287.1).bind fun bt289 => ((laws_heldPairS.f bt287.2 1).bind fun t291 => (if t291 < 0 then (none) else ((laws_heldInt64S.f k bt289.2 t291).bind fun t292 => (if t292 < 0 then (none) else (if t292 = bt289.1 then ((laws_toComplex.f k a0_0 l0_1).bind fun bt293 => ((impl_ReductionOf.f bt293.1 bt293.2).bind fun bt297 => ((laws_eqPairS.f k bt297.1 t257).bind fun t304 => (if t304 = true then ((laws_eqInt64S.f k bt297.2.1 t260).bind fun t305 => (if t305 = true then (if bt297.2.2 = t263 then ((laws_heldPairS.f bt287.2 1).bind fun t306 => (if t306 < 0 then (none) else ((laws_heldInt64S.f k bt289.2 t306).bind fun t307 => (if t307 < 0 then (none) else (if t307 = bt289.1 then (some true) else (none)))))) else (none)) else (none))) else (none))))) else (none)))))))) else (none))) = some r := by rw [if_pos rfl] at H; exact H
                clear H
                have H := H1
                clear H1
                replace H := Option.bind_eq_some_iff.mp H
                obtain ⟨t286, A230, H⟩ := H
                replace H : (if t286 = true then ((laws_markPairS.f t269 1).bind fun bt287 => ((laws_markInt64S.f k t272 bt287.1).bind fun bt289 => ((laws_heldPairS.f bt287.2 1).bind fun t291 => (if t291 < 0 then (none) else ((laws_heldInt64S.f k bt289.2 t291).bind fun t292 => (if t292 < 0 then (none) else (if t292 = bt289.1 then ((laws_toComplex.f k a0_0 l0_1).bind fun bt293 => ((impl_ReductionOf.f bt293.1 bt293.2).bind fun bt297 => ((laws_eqPairS.f k bt297.1 t257).bind fun t304 => (if t304 = true then ((laws_eqInt64S.f k bt297.2.1 t260).bind fun t305 => (if t305 = true then (if bt297.2.2 = t263 then ((laws_heldPairS.f bt287.2 1).bind fun t306 => (if t306 < 0 then (none) else ((laws_heldInt64S.f k bt289.2 t306).bind fun t307 => (if t307 < 0 then (none) else (if t307 = bt289.1 then (some true) else (none)))))) else (none)) else (none))) else (none))))) else (none)))))))) else (none)) = some r := H
                have A23 := Aside0.mk A230
                clear A230
                by_cases c24 : t286 = true
                · subst c24
                  have H1 : ((laws_markPairS.f t269 1).bind fun bt287 => ((laws_markInt64S.f k t272 bt287.1).bind fun bt289 => ((laws_heldPairS.f bt287.2 1).bind fun t291 => (if t291 < 0 then (none) else ((laws_heldInt64S.f k bt289.2 t291).bind fun t292 => (if t292 < 0 then (none) else (if t292 = bt289.1 then ((laws_toComplex.f k a0_0 l0_1).bind fun bt293 => ((impl_ReductionOf.f bt293.1 bt293.2).bind fun bt297 => ((laws_eqPairS.f k bt297.1 t257).bind fun t304 => (if t304 = true then ((laws_eqInt64S.f k bt297.2.1 t260).bind fun t305 => (if t305 = true then (if bt297.2.2 = t263 then ((laws_heldPairS.f bt287.2 1).bind fun t306 => (if t306 < 0 then (none) else ((laws_heldInt64S.f k bt289.2 t306).bind fun t307 => (if t307 < 0 then (none) else (if t307 = bt289.1 then (some true) else (none)))))) else (none)) else (none))) else (none))))) else (none)))))))) = some r := by rw [if_pos rfl] at H; exact H
                  clear H
                  have H := H1
                  clear H1
                  replace H := Option.bind_eq_some_iff.mp H
                  obtain ⟨⟨t287, t288⟩, A250, H⟩ := H
                  replace H : ((laws_markInt64S.f k t272 t287).bind fun bt289 => ((laws_heldPairS.f t288 1).bind fun t291 => (if t291 < 0 then (none) else ((laws_heldInt64S.f k bt289.2 t291).bind fun t292 => (if t292 < 0 then (none) else (if t292 = bt289.1 then ((laws_toComplex.f k a0_0 l0_1).bind fun bt293 => ((impl_ReductionOf.f bt293.1 bt293.2).bind fun bt297 => ((laws_eqPairS.f k bt297.1 t257).bind fun t304 => (if t304 = true then ((laws_eqInt64S.f k bt297.2.1 t260).bind fun t305 => (if t305 = true then (if bt297.2.2 = t263 then ((laws_heldPairS.f t288 1).bind fun t306 => (if t306 < 0 then (none) else ((laws_heldInt64S.f k bt289.2 t306).bind fun t307 => (if t307 < 0 then (none) else (if t307 = bt289.1 then (some true) else (none)))))) else (none)) else (none))) else (none))))) else (none))))))) = some r := H
                  have A25 := Aside0.mk A250
                  clear A250
                  replace H := Option.bind_eq_some_iff.mp H
                  obtain ⟨⟨t289, t290⟩, A260, H⟩ := H
                  replace H : ((laws_heldPairS.f t288 1).bind fun t291 => (if t291 < 0 then (none) else ((laws_heldInt64S.f k t290 t291).bind fun t292 => (if t292 < 0 then (none) else (if t292 = t289 then ((laws_toComplex.f k a0_0 l0_1).bind fun bt293 => ((impl_ReductionOf.f bt293.1 bt293.2).bind fun bt297 => ((laws_eqPairS.f k bt297.1 t257).bind fun t304 => (if t304 = true then ((laws_eqInt64S.f k bt297.2.1 t260).bind fun t305 => (if t305 = true then (if bt297.2.2 = t263 then ((laws_heldPairS.f t288 1).bind fun t306 => (if t306 < 0 then (none) else ((laws_heldInt64S.f k t290 t306).bind fun t307 => (if t307 < 0 then (none) else (if t307 = t289 then (some true) else (none)))))) else (none)) else (none))) else (none))))) else (none)))))) = some r := H
                  have A26 := Aside0.mk A260
                  clear A260
                  replace H := Option.bind_eq_some_iff.mp H
                  obtain ⟨t291, A270, H⟩ := H
                  replace H : (if t291 < 0 then (none) else ((laws_heldInt64S.f k t290 t291).bind fun t292 => (if t292 < 0 then (none) else (if t292 = t289 then ((laws_toComplex.f k a0_0 l0_1).bind fun bt293 => ((impl_ReductionOf.f bt293.1 bt293.2).bind fun bt297 => ((laws_eqPairS.f k bt297.1 t257).bind fun t304 => (if t304 = true then ((laws_eqInt64S.f k bt297.2.1 t260).bind fun t305 => (if t305 = true then (if bt297.2.2 = t263 then ((laws_heldPairS.f t288 1).bind fun t306 => (if t306 < 0 then (none) else ((laws_heldInt64S.f k t290 t306).bind fun t307 => (if t307 < 0 then (none) else (if t307 = t289 then (some true) else (none)))))) else (none)) else (none))) else (none))))) else (none))))) = some r := H
                  have A27 := Aside0.mk A270
                  clear A270
                  by_cases c28 : t291 < 0
                  · rw [if_pos c28] at H
                    exact absurd H (by simp)
                  · rw [if_neg c28] at H
                    have c28b0 : decide (t291 < 0) = false := decide_eq_false c28
                    clear c28
                    replace H := Option.bind_eq_some_iff.mp H
                    obtain ⟨t292, A290, H⟩ := H
                    replace H : (if t292 < 0 then (none) else (if t292 = t289 then ((laws_toComplex.f k a0_0 l0_1).bind fun bt293 => ((impl_ReductionOf.f bt293.1 bt293.2).bind fun bt297 => ((laws_eqPairS.f k bt297.1 t257).bind fun t304 => (if t304 = true then ((laws_eqInt64S.f k bt297.2.1 t260).bind fun t305 => (if t305 = true then (if bt297.2.2 = t263 then ((laws_heldPairS.f t288 1).bind fun t306 => (if t306 < 0 then (none) else ((laws_heldInt64S.f k t290 t306).bind fun t307 => (if t307 < 0 then (none) else (if t307 = t289 then (some true) else (none)))))) else (none)) else (none))) else (none))))) else (none))) = some r := H
                    have A29 := Aside0.mk A290
                    clear A290
                    by_cases c30 : t292 < 0
                    · rw [if_pos c30] at H
                      exact absurd H (by simp)
                    · rw [if_neg c30] at H
                      have c30b0 : decide (t292 < 0) = false := decide_eq_false c30
                      clear c30
                      by_cases c31 : t292 = t289
                      · rw [if_pos c31] at H
                        have c31b0 : (t292 == t289) = true := beq_iff_eq.mpr c31
                        have c31b1 : (t292 != t289) = false := bne_eq_false_iff_eq.mpr c31
                        clear c31
                        replace H := Option.bind_eq_some_iff.mp H
                        obtain ⟨⟨t293, t294⟩, A320, H⟩ := H
                        replace H : ((impl_ReductionOf.f t293 t294).bind fun bt297 => ((laws_eqPairS.f k bt297.1 t257).bind fun t304 => (if t304 = true then ((laws_eqInt64S.f k bt297.2.1 t260).bind fun t305 => (if t305 = true then (if bt297.2.2 = t263 then ((laws_heldPairS.f t288 1).bind fun t306 => (if t306 < 0 then (none) else ((laws_heldInt64S.f k t290 t306).bind fun t307 => (if t307 < 0 then (none) else (if t307 = t289 then (some true) else (none)))))) else (none)) else (none))) else (none)))) = some r := H
                        have A32 := Aside0.mk A320
                        clear A320
                        replace H := Option.bind_eq_some_iff.mp H
                        obtain ⟨⟨t297, t300, t303⟩, A330, H⟩ := H
                        replace H : ((laws_eqPairS.f k t297 t257).bind fun t304 => (if t304 = true then ((laws_eqInt64S.f k t300 t260).bind fun t305 => (if t305 = true then (if t303 = t263 then ((laws_heldPairS.f t288 1).bind fun t306 => (if t306 < 0 then (none) else ((laws_heldInt64S.f k t290 t306).bind fun t307 => (if t307 < 0 then (none) else (if t307 = t289 then (some true) else (none)))))) else (none)) else (none))) else (none))) = some r := H
                        have A33 := Aside0.mk A330
                        clear A330
                        replace H := Option.bind_eq_some_iff.mp H
                        obtain ⟨t304, A340, H⟩ := H
                        replace H : (if t304 = true then ((laws_eqInt64S.f k t300 t260).bind fun t305 => (if t305 = true then (if t303 = t263 then ((laws_heldPairS.f t288 1).bind fun t306 => (if t306 < 0 then (none) else ((laws_heldInt64S.f k t290 t306).bind fun t307 => (if t307 < 0 then (none) else (if t307 = t289 then (some true) else (none)))))) else (none)) else (none))) else (none)) = some r := H
                        have A34 := Aside0.mk A340
                        clear A340
                        by_cases c35 : t304 = true
                        · subst c35
                          have H1 : ((laws_eqInt64S.f k t300 t260).bind fun t305 => (if t305 = true then (if t303 = t263 then ((laws_heldPairS.f t288 1).bind fun t306 => (if t306 < 0 then (none) else ((laws_heldInt64S.f k t290 t306).bind fun t307 => (if t307 < 0 then (none) else (if t307 = t289 then (some true) else (none)))))) else (none)) else (none))) = some r := by rw [if_pos rfl] at H; exact H
                          clear H
                          have H := H1
                          clear H1
                          replace H := Option.bind_eq_some_iff.mp H
                          obtain ⟨t305, A360, H⟩ := H
                          replace H : (if t305 = true then (if t303 = t263 then ((laws_heldPairS.f t288 1).bind fun t306 => (if t306 < 0 then (none) else ((laws_heldInt64S.f k t290 t306).bind fun t307 => (if t307 < 0 then (none) else (if t307 = t289 then (some true) else (none)))))) else (none)) else (none)) = some r := H
                          have A36 := Aside0.mk A360
                          clear A360
                          by_cases c37 : t305 = true
                          · subst c37
                            have H1 : (if t303 = t263 then ((laws_heldPairS.f t288 1).bind fun t306 => (if t306 < 0 then (none) else ((laws_heldInt64S.f k t290 t306).bind fun t307 => (if t307 < 0 then (none) else (if t307 = t289 then (some true) else (none)))))) else (none)) = some r := by rw [if_pos rfl] at H; exact H
                            clear H
                            have H := H1
                            clear H1
                            by_cases c38 : t303 = t263
                            · rw [if_pos c38] at H
                              have c38b0 : (t303 == t263) = true := beq_iff_eq.mpr c38
                              have c38b1 : (t303 != t263) = false := bne_eq_false_iff_eq.mpr c38
                              clear c38
                              replace H := Option.bind_eq_some_iff.mp H
                              obtain ⟨t306, A390, H⟩ := H
                              replace H : (if t306 < 0 then (none) else ((laws_heldInt64S.f k t290 t306).bind fun t307 => (if t307 < 0 then (none) else (if t307 = t289 then (some true) else (none))))) = some r := H
                              have A39 := Aside0.mk A390
                              clear A390
                              by_cases c40 : t306 < 0
                              · rw [if_pos c40] at H
                                exact absurd H (by simp)
                              · rw [if_neg c40] at H
                                have c40b0 : decide (t306 < 0) = false := decide_eq_false c40
                                clear c40
                                replace H := Option.bind_eq_some_iff.mp H
                                obtain ⟨t307, A410, H⟩ := H
                                replace H : (if t307 < 0 then (none) else (if t307 = t289 then (some true) else (none))) = some r := H
                                have A41 := Aside0.mk A410
                                clear A410
                                by_cases c42 : t307 < 0
                                · rw [if_pos c42] at H
                                  exact absurd H (by simp)
                                · rw [if_neg c42] at H
                                  have c42b0 : decide (t307 < 0) = false := decide_eq_false c42
                                  clear c42
                                  by_cases c43 : t307 = t289
                                  · rw [if_pos c43] at H
                                    have c43b0 : (t307 == t289) = true := beq_iff_eq.mpr c43
                                    have c43b1 : (t307 != t289) = false := bne_eq_false_iff_eq.mpr c43
                                    clear c43
                                    obtain rfl := Option.some.inj H
                                    go_enter Try.func9, Try.ntmps9
                                    try go_wp2_with (first | ((with_reducible refine gate_dst (N := 1) rfl ?_); refine box_event ?hg (N := 1) ?hd (cs := #[.int .i64 a0_0, .slice A0_1 l0_1.length c0_1]) (t := 24) ?hr ?_; (case hd => rfl); (case hg => rfl); (case hr => first | (go_simp; done) | (go_simp; rfl)); intro gb251 hg w44 hbox hb; have n0_ := Aside0.mk (below_step (by repeat (first | (with_reducible first | exact HB.out | apply below_alloc | apply pw_below_drewN | apply below_drew1) | exact HB.out)) hb); have n1_ := Aside0.mk (hbox); have n2_ := Aside0.mk ((by rw [hg]; exact (below_size (by repeat (first | (with_reducible first | exact HB.out | apply below_alloc | apply pw_below_drewN | apply below_drew1) | exact HB.out))) : w.heap.size ≤ gb251)); have n3_ := Aside0.mk ((by rw [hg]; exact (below_size (by repeat (first | (with_reducible first | exact HB.out | apply below_alloc | apply pw_below_drewN | apply below_drew1) | exact HB.out))) : w.heap.size ≤ gb251)); clear HB; have HB := n0_; have BK251 := n1_; have GW251 := n2_; have GE251 := n3_; clear n0_ n1_ n2_ n3_; clear hb hbox hg; have hcz45_0 : w44.cell? ⟨gb251, 0, none⟩ = some (.int .i64 a0_0) := (blk_cell BK251.out 0).trans rfl; have hcz45_1 : w44.cell? ⟨gb251, 1, none⟩ = some (.slice A0_1 l0_1.length c0_1) := (blk_cell BK251.out 1).trans rfl; have hfz45_0 := blk_frozen BK251.out 0; have hfz45_1 := blk_frozen BK251.out 1) | ((with_reducible refine gate_callee (f := 15) rfl ?_); refine goesL_ (some 19) rfl rfl Try.func15 (by kernel_rfl) rfl #[.agg #[.int .i64 a0_0, .slice A0_1 l0_1.length c0_1], .int .i64 1048576] rfl (by (try simp only [List.map_toArray, List.map_cons, List.map_nil]); first | done | rfl | (simp only [List.length_drop, List.length_take]; rfl)) ?_; (with_reducible refine (laws_szComplex.calls a0_0 _ _ l0_1 1048576 t252 _ ?side1 ?side2 A2.out).mono ?_); (case side1 => repeat (first | exact (Kd.C_below HR0_1.out HB.out) | (with_reducible refine Kd.C_alloc ?_ _) | (with_reducible refine Kd.C_drewN ?_ _) | (with_reducible refine Kd.C_drew ?_))); (case side2 => exact HC0_1.out); rintro e w46 ⟨rfl, hb⟩; refine ⟨_, rfl, ?_⟩; have n0_ := Aside0.mk (blk_below (g := gb251) (o := .cells #[.int .i64 a0_0, .slice A0_1 l0_1.length c0_1] 24 (0, 0)) (by (with_reducible repeat (first | refine blk_drewN ?_ _ | refine blk_drew ?_ | refine blk_alloc ?_ _)); exact BK251.out) hb); have n1_ := Aside0.mk (below_step (by repeat (first | (with_reducible first | exact HB.out | apply below_alloc | apply pw_below_drewN | apply below_drew1 | refine below_set ?_ GE251.out) | exact HB.out)) hb); clear BK251; clear HB; have BK251 := n0_; have HB := n1_; clear n0_ n1_; (try clear hb); (try clear hb2); (try clear hk); (try clear hi); have hcz47_0 : w46.cell? ⟨gb251, 0, none⟩ = some (.int .i64 a0_0) := (blk_cell BK251.out 0).trans rfl; have hcz47_1 : w46.cell? ⟨gb251, 1, none⟩ = some (.slice A0_1 l0_1.length c0_1) := (blk_cell BK251.out 1).trans rfl; have hfz47_0 := blk_frozen BK251.out 0; have hfz47_1 := blk_frozen BK251.out 1) | ((with_reducible refine gate_callee (f := 17) rfl ?_); refine goesL_ (some 24) rfl rfl Try.func17 (by kernel_rfl) rfl #[.agg #[.int .i64 a0_0, .slice A0_1 l0_1.length c0_1]] rfl (by (try simp only [List.map_toArray, List.map_cons, List.map_nil]); first | done | rfl | (simp only [List.length_drop, List.length_take]; rfl)) ?_; (with_reducible refine (laws_toComplex.calls k a0_0 _ _ l0_1 t253 t254 _ ?side1 ?side2 A7.out).mono ?_); (case side1 => repeat (first | exact (Kd.C_below HR0_1.out HB.out) | (with_reducible refine Kd.C_alloc ?_ _) | (with_reducible refine Kd.C_drewN ?_ _) | (with_reducible refine Kd.C_drew ?_))); (case side2 => exact HC0_1.out); rintro e w48 ⟨v255, rfl, ho0, hb⟩; refine ⟨_, rfl, ?_⟩; have n0_ := Aside0.mk (Kd.R_lower ho0 (below_size (by repeat (first | (with_reducible first | exact HB.out | apply below_alloc | apply pw_below_drewN | apply below_drew1 | refine below_set ?_ GE251.out) | exact HB.out)))); have n1_ := Aside0.mk (blk_below (g := gb251) (o := .cells #[.int .i64 a0_0, .slice A0_1 l0_1.length c0_1] 24 (0, 0)) (by (with_reducible repeat (first | refine blk_drewN ?_ _ | refine blk_drew ?_ | refine blk_alloc ?_ _)); exact BK251.out) hb); have n2_ := Aside0.mk (below_step (by repeat (first | (with_reducible first | exact HB.out | apply below_alloc | apply pw_below_drewN | apply below_drew1 | refine below_set ?_ GE251.out) | exact HB.out)) hb); clear BK251; clear HB; have HO256 := n0_; have BK251 := n1_; have HB := n2_; clear n0_ n1_ n2_; (try clear hb); (try clear hb2); (try clear hk); (try clear hi); (try clear ho0); obtain ⟨Ao49, co49, eo49⟩ := Kd.R_slice HO256.out; subst eo49) | ((with_reducible refine gate_callee (f := 38) rfl ?_); refine goesL_ (some 25) rfl rfl Try.func38 (by kernel_rfl) rfl #[.agg #[.int .i64 t253, .slice Ao49 t254.length co49]] rfl (by (try simp only [List.map_toArray, List.map_cons, List.map_nil]); first | done | rfl | (simp only [List.length_drop, List.length_take]; rfl)) ?_; (with_reducible refine (spec_ReductionOf.calls k t253 _ _ t254 t257 t260 t263 _ ?side1 ?side2 A8.out).mono ?_); (case side1 => repeat (first | exact (Kd.R_reads' HO256.out).2.2 | (with_reducible refine Kd.C_alloc ?_ _) | (with_reducible refine Kd.C_drewN ?_ _) | (with_reducible refine Kd.C_drew ?_))); (case side2 => exact (Kd.R_reads' HO256.out).2.1); rintro e w50 ⟨v258, v261, rfl, ho0, ho1, hb⟩; refine ⟨_, rfl, ?_⟩; have n0_ := Aside0.mk (Kd.R_elder' (by (with_reducible repeat (first | apply Kd.R_alloc | apply Kd.R_drewN | apply Kd.R_drew)); exact HO256.out) (Kd.R_base ho1) hb); have n1_ := Aside0.mk (Kd.R_lower ho0 (below_size (by repeat (first | (with_reducible first | exact HB.out | apply below_alloc | apply pw_below_drewN | apply below_drew1 | refine below_set ?_ GE251.out) | exact HB.out)))); have n2_ := Aside0.mk (Kd.R_lower (Kd.R_new' ho1 (Kd.R_lt (by (with_reducible repeat (first | apply Kd.R_alloc | apply Kd.R_drewN | apply Kd.R_drew)); exact HO256.out))) (below_size (by repeat (first | (with_reducible first | exact HB.out | apply below_alloc | apply pw_below_drewN | apply below_drew1 | refine below_set ?_ GE251.out) | exact HB.out)))); have n3_ := Aside0.mk (blk_below (g := gb251) (o := .cells #[.int .i64 a0_0, .slice A0_1 l0_1.length c0_1] 24 (0, 0)) (by (with_reducible repeat (first | refine blk_drewN ?_ _ | refine blk_drew ?_ | refine blk_alloc ?_ _)); exact BK251.out) hb); have n4_ := Aside0.mk (below_step (by repeat (first | (with_reducible first | exact HB.out | apply below_alloc | apply pw_below_drewN | apply below_drew1 | refine below_set ?_ GE251.out) | exact HB.out)) hb); clear HO256; clear BK251; clear HB; have HO256 := n0_; have HO259 := n1_; have HO262 := n2_; have BK251 := n3_; have HB := n4_; clear n0_ n1_ n2_ n3_ n4_; (try clear hb); (try clear hb2); (try clear hk); (try clear hi); (try clear ho0); (try clear ho1); have hcz51_0 : w50.cell? ⟨gb251, 0, none⟩ = some (.int .i64 a0_0) := (blk_cell BK251.out 0).trans rfl; have hcz51_1 : w50.cell? ⟨gb251, 1, none⟩ = some (.slice A0_1 l0_1.length c0_1) := (blk_cell BK251.out 1).trans rfl; have hfz51_0 := blk_frozen BK251.out 0; have hfz51_1 := blk_frozen BK251.out 1) | ((with_reducible refine gate_callee (f := 17) rfl ?_); refine goesL_ (some 30) rfl rfl Try.func17 (by kernel_rfl) rfl #[.agg #[.int .i64 a0_0, .slice A0_1 l0_1.length c0_1]] rfl (by (try simp only [List.map_toArray, List.map_cons, List.map_nil]); first | done | rfl | (simp only [List.length_drop, List.length_take]; rfl)) ?_; (with_reducible refine (laws_toComplex.calls k a0_0 _ _ l0_1 t264 t265 _ ?side1 ?side2 A9.out).mono ?_); (case side1 => repeat (first | exact (Kd.C_below HR0_1.out HB.out) | (with_reducible refine Kd.C_alloc ?_ _) | (with_reducible refine Kd.C_drewN ?_ _) | (with_reducible refine Kd.C_drew ?_))); (case side2 => exact HC0_1.out); rintro e w52 ⟨v266, rfl, ho0, hb⟩; refine ⟨_, rfl, ?_⟩; have n0_ := Aside0.mk (Kd.R_elder' (by (with_reducible repeat (first | apply Kd.R_alloc | apply Kd.R_drewN | apply Kd.R_drew)); exact HO256.out) (Kd.R_base ho0) hb); have n1_ := Aside0.mk (Kd.R_below (by (with_reducible repeat (first | apply Kd.R_alloc | apply Kd.R_drewN | apply Kd.R_drew)); exact HO259.out) hb); have n2_ := Aside0.mk (Kd.R_elder' (by (with_reducible repeat (first | apply Kd.R_alloc | apply Kd.R_drewN | apply Kd.R_drew)); exact HO262.out) (Kd.R_base ho0) hb); have n3_ := Aside0.mk (Kd.R_lower (Kd.R_new' (Kd.R_new' ho0 (Kd.R_lt (by (with_reducible repeat (first | apply Kd.R_alloc | apply Kd.R_drewN | apply Kd.R_drew)); exact HO256.out))) (Kd.R_lt (by (with_reducible repeat (first | apply Kd.R_alloc | apply Kd.R_drewN | apply Kd.R_drew)); exact HO262.out))) (below_size (by repeat (first | (with_reducible first | exact HB.out | apply below_alloc | apply pw_below_drewN | apply below_drew1 | refine below_set ?_ GE251.out) | exact HB.out)))); have n4_ := Aside0.mk (blk_below (g := gb251) (o := .cells #[.int .i64 a0_0, .slice A0_1 l0_1.length c0_1] 24 (0, 0)) (by (with_reducible repeat (first | refine blk_drewN ?_ _ | refine blk_drew ?_ | refine blk_alloc ?_ _)); exact BK251.out) hb); have n5_ := Aside0.mk (below_step (by repeat (first | (with_reducible first | exact HB.out | apply below_alloc | apply pw_below_drewN | apply below_drew1 | refine below_set ?_ GE251.out) | exact HB.out)) hb); clear HO256; clear HO259; clear HO262; clear BK251; clear HB; have HO256 := n0_; have HO259 := n1_; have HO262 := n2_; have HO267 := n3_; have BK251 := n4_; have HB := n5_; clear n0_ n1_ n2_ n3_ n4_ n5_; (try clear hb); (try clear hb2); (try clear hk); (try clear hi); (try clear ho0)) | ((with_reducible refine gate_dst (N := 7) rfl ?_); refine box_event ?hg (N := 7) ?hd (cs := #[.int .i64 0, .slice none 0 0]) (t := 26) ?hr ?_; (case hd => rfl); (case hg => rfl); (case hr => first | (go_simp; done) | (go_simp; rfl)); intro gb268 hg w53 hbox hb; have n0_ := Aside0.mk (Kd.R_below (by (with_reducible repeat (first | apply Kd.R_alloc | apply Kd.R_drewN | apply Kd.R_drew)); exact HO256.out) hb); have n1_ := Aside0.mk (Kd.R_below (by (with_reducible repeat (first | apply Kd.R_alloc | apply Kd.R_drewN | apply Kd.R_drew)); exact HO259.out) hb); have n2_ := Aside0.mk (Kd.R_below (by (with_reducible repeat (first | apply Kd.R_alloc | apply Kd.R_drewN | apply Kd.R_drew)); exact HO262.out) hb); have n3_ := Aside0.mk (Kd.R_below (by (with_reducible repeat (first | apply Kd.R_alloc | apply Kd.R_drewN | apply Kd.R_drew)); exact HO267.out) hb); have n4_ := Aside0.mk (blk_below (g := gb251) (o := .cells #[.int .i64 a0_0, .slice A0_1 l0_1.length c0_1] 24 (0, 0)) (by (with_reducible repeat (first | refine blk_drewN ?_ _ | refine blk_drew ?_ | refine blk_alloc ?_ _)); exact BK251.out) hb); have n5_ := Aside0.mk (below_step (by repeat (first | (with_reducible first | exact HB.out | apply below_alloc | apply pw_below_drewN | apply below_drew1 | refine below_set ?_ GE251.out) | exact HB.out)) hb); have n6_ := Aside0.mk (hbox); have n7_ := Aside0.mk ((by rw [hg]; exact (below_size (by repeat (first | (with_reducible first | exact HB.out | apply below_alloc | apply pw_below_drewN | apply below_drew1 | refine below_set ?_ GE251.out) | exact HB.out))) : w.heap.size ≤ gb268)); have n8_ := Aside0.mk ((by rw [hg]; exact (below_size (by repeat (first | (with_reducible first | exact HB.out | apply below_alloc | apply pw_below_drewN | apply below_drew1 | refine below_set ?_ GE251.out) | exact HB.out))) : w.heap.size ≤ gb268)); have n9_ := Aside0.mk ((by rw [hg]; exact Nat.ne_of_lt (blk_lt (g := gb251) (o := .cells #[.int .i64 a0_0, .slice A0_1 l0_1.length c0_1] 24 (0, 0)) (by (with_reducible repeat (first | refine blk_drewN ?_ _ | refine blk_drew ?_ | refine blk_alloc ?_ _)); exact BK251.out)) : gb251 ≠ gb268)); have n10_ := Aside0.mk ((by rw [hg]; exact Nat.ne_of_gt (blk_lt (g := gb251) (o := .cells #[.int .i64 a0_0, .slice A0_1 l0_1.length c0_1] 24 (0, 0)) (by (with_reducible repeat (first | refine blk_drewN ?_ _ | refine blk_drew ?_ | refine blk_alloc ?_ _)); exact BK251.out)) : gb268 ≠ gb251)); clear HO256; clear HO259; clear HO262; clear HO267; clear BK251; clear HB; have HO256 := n0_; have HO259 := n1_; have HO262 := n2_; have HO267 := n3_; have BK251 := n4_; have HB := n5_; have BK268 := n6_; have GW268 := n7_; have GE268 := n8_; have NB251_268 := n9_; have NB268_251 := n10_; clear n0_ n1_ n2_ n3_ n4_ n5_ n6_ n7_ n8_ n9_ n10_; clear hb hbox hg; (try have hnb54 := NB268_251.out); (try have hnc54 := NB251_268.out); have hcz55_0 : w53.cell? ⟨gb268, 0, none⟩ = some (.int .i64 0) := (blk_cell BK268.out 0).trans rfl; have hcz55_1 : w53.cell? ⟨gb268, 1, none⟩ = some (.slice none 0 0) := (blk_cell BK268.out 1).trans rfl; have hfz55_0 := blk_frozen BK268.out 0; have hfz55_1 := blk_frozen BK268.out 1; obtain ⟨Ao56, co56, eo56⟩ := Kd.R_slice HO267.out; subst eo56) | ((with_reducible refine gate_callee (f := 39) rfl ?_); refine goesL_ (some 33) rfl rfl Try.func39 (by kernel_rfl) rfl #[.agg #[.int .i64 t264, .slice Ao56 t265.length co56]] rfl (by (try simp only [List.map_toArray, List.map_cons, List.map_nil]); first | done | rfl | (simp only [List.length_drop, List.length_take]; rfl)) ?_; (with_reducible refine (impl_ReductionOf.calls t264 _ _ t265 t269 t272 t275 _ ?side1 ?side2 A10.out).mono ?_); (case side1 => refine (Kd.R_reads' (e := 2) (base := w.heap.size) (ok := fun k_ => ((True ∧ some k_ ≠ (.slice Ao49 t254.length co49 : Value).ownBlock) ∧ some k_ ≠ (v261 : Value).ownBlock)) (n := t265.length) (c := co56) ?_).2.2; exact (by (with_reducible repeat (first | apply Kd.R_alloc | apply Kd.R_drewN | apply Kd.R_drew)); exact (Kd.R_mono (Kd.R_far (p := ⟨gb268, 1, none⟩) (Kd.R_far (p := ⟨gb268, 0, none⟩) (Kd.R_types HO267.out BK268.out (by decide)) (fun _ hk => hk.2) (.int .i64 t264)) (fun _ hk => hk.2) (.slice Ao56 t265.length co56)) (fun _ h_ => h_.1)))); (case side2 => exact (Kd.R_reads' HO267.out).2.1); rintro e w57 ⟨v270, v273, rfl, ho0, ho1, hb⟩; refine ⟨_, rfl, ?_⟩; have n0_ := Aside0.mk (Kd.R_elder' (by (with_reducible repeat (first | apply Kd.R_alloc | apply Kd.R_drewN | apply Kd.R_drew)); exact (Kd.R_mono (Kd.R_far (p := ⟨gb268, 1, none⟩) (Kd.R_far (p := ⟨gb268, 0, none⟩) (Kd.R_types HO256.out BK268.out (by decide)) (fun _ hk => hk.2) (.int .i64 t264)) (fun _ hk => hk.2) (.slice Ao56 t265.length co56)) (fun _ h_ => h_.1))) (Kd.R_base ho1) hb); have n1_ := Aside0.mk (Kd.R_elder' (by (with_reducible repeat (first | apply Kd.R_alloc | apply Kd.R_drewN | apply Kd.R_drew)); exact (Kd.R_mono (Kd.R_far (p := ⟨gb268, 1, none⟩) (Kd.R_far (p := ⟨gb268, 0, none⟩) (Kd.R_types HO259.out BK268.out (by decide)) (fun _ hk => hk.2) (.int .i64 t264)) (fun _ hk => hk.2) (.slice Ao56 t265.length co56)) (fun _ h_ => h_.1))) (Kd.R_base ho0) hb); have n2_ := Aside0.mk (Kd.R_elder' (by (with_reducible repeat (first | apply Kd.R_alloc | apply Kd.R_drewN | apply Kd.R_drew)); exact (Kd.R_mono (Kd.R_far (p := ⟨gb268, 1, none⟩) (Kd.R_far (p := ⟨gb268, 0, none⟩) (Kd.R_types HO262.out BK268.out (by decide)) (fun _ hk => hk.2) (.int .i64 t264)) (fun _ hk => hk.2) (.slice Ao56 t265.length co56)) (fun _ h_ => h_.1))) (Kd.R_base ho1) hb); have n3_ := Aside0.mk (Kd.R_elder' (by (with_reducible repeat (first | apply Kd.R_alloc | apply Kd.R_drewN | apply Kd.R_drew)); exact (Kd.R_mono (Kd.R_far (p := ⟨gb268, 1, none⟩) (Kd.R_far (p := ⟨gb268, 0, none⟩) (Kd.R_types HO267.out BK268.out (by decide)) (fun _ hk => hk.2) (.int .i64 t264)) (fun _ hk => hk.2) (.slice Ao56 t265.length co56)) (fun _ h_ => h_.1))) (Kd.R_base ho1) hb); have n4_ := Aside0.mk (Kd.R_lower (Kd.R_new' ho0 (Kd.R_lt (by (with_reducible repeat (first | apply Kd.R_alloc | apply Kd.R_drewN | apply Kd.R_drew)); exact (Kd.R_mono (Kd.R_far (p := ⟨gb268, 1, none⟩) (Kd.R_far (p := ⟨gb268, 0, none⟩) (Kd.R_types HO259.out BK268.out (by decide)) (fun _ hk => hk.2) (.int .i64 t264)) (fun _ hk => hk.2) (.slice Ao56 t265.length co56)) (fun _ h_ => h_.1))))) (below_size (by repeat (first | (with_reducible first | exact HB.out | apply below_alloc | apply pw_below_drewN | apply below_drew1 | refine below_set ?_ GE251.out | refine below_set ?_ GE268.out) | exact HB.out)))); have n5_ := Aside0.mk (Kd.R_lower (Kd.R_new' (Kd.R_new' (Kd.R_new' ho1 (Kd.R_lt (by (with_reducible repeat (first | apply Kd.R_alloc | apply Kd.R_drewN | apply Kd.R_drew)); exact (Kd.R_mono (Kd.R_far (p := ⟨gb268, 1, none⟩) (Kd.R_far (p := ⟨gb268, 0, none⟩) (Kd.R_types HO256.out BK268.out (by decide)) (fun _ hk => hk.2) (.int .i64 t264)) (fun _ hk => hk.2) (.slice Ao56 t265.length co56)) (fun _ h_ => h_.1))))) (Kd.R_lt (by (with_reducible repeat (first | apply Kd.R_alloc | apply Kd.R_drewN | apply Kd.R_drew)); exact (Kd.R_mono (Kd.R_far (p := ⟨gb268, 1, none⟩) (Kd.R_far (p := ⟨gb268, 0, none⟩) (Kd.R_types HO262.out BK268.out (by decide)) (fun _ hk => hk.2) (.int .i64 t264)) (fun _ hk => hk.2) (.slice Ao56 t265.length co56)) (fun _ h_ => h_.1))))) (Kd.R_lt (by (with_reducible repeat (first | apply Kd.R_alloc | apply Kd.R_drewN | apply Kd.R_drew)); exact (Kd.R_mono (Kd.R_far (p := ⟨gb268, 1, none⟩) (Kd.R_far (p := ⟨gb268, 0, none⟩) (Kd.R_types HO267.out BK268.out (by decide)) (fun _ hk => hk.2) (.int .i64 t264)) (fun _ hk => hk.2) (.slice Ao56 t265.length co56)) (fun _ h_ => h_.1))))) (below_size (by repeat (first | (with_reducible first | exact HB.out | apply below_alloc | apply pw_below_drewN | apply below_drew1 | refine below_set ?_ GE251.out | refine below_set ?_ GE268.out) | exact HB.out)))); have n6_ := Aside0.mk (blk_below (g := gb251) (o := .cells #[.int .i64 a0_0, .slice A0_1 l0_1.length c0_1] 24 (0, 0)) (by (with_reducible repeat (first | refine blk_drewN ?_ _ | refine blk_drew ?_ | refine blk_alloc ?_ _)); refine blk_far ?_ NB251_268.out _; (with_reducible repeat (first | refine blk_drewN ?_ _ | refine blk_drew ?_ | refine blk_alloc ?_ _)); refine blk_far ?_ NB251_268.out _; (with_reducible repeat (first | refine blk_drewN ?_ _ | refine blk_drew ?_ | refine blk_alloc ?_ _)); exact BK251.out) hb); have n7_ := Aside0.mk (blk_below (g := gb268) (o := .cells #[.int .i64 t264, .slice Ao56 t265.length co56] 26 (0, 0)) (by (with_reducible repeat (first | refine blk_drewN ?_ _ | refine blk_drew ?_ | refine blk_alloc ?_ _)); refine blk_put (cs := #[.int .i64 t264, .slice none 0 0]) ?_ 1 _ rfl; (with_reducible repeat (first | refine blk_drewN ?_ _ | refine blk_drew ?_ | refine blk_alloc ?_ _)); refine blk_put (cs := #[.int .i64 0, .slice none 0 0]) ?_ 0 _ rfl; (with_reducible repeat (first | refine blk_drewN ?_ _ | refine blk_drew ?_ | refine blk_alloc ?_ _)); exact BK268.out) hb); have n8_ := Aside0.mk (below_step (by repeat (first | (with_reducible first | exact HB.out | apply below_alloc | apply pw_below_drewN | apply below_drew1 | refine below_set ?_ GE251.out | refine below_set ?_ GE268.out) | exact HB.out)) hb); clear HO256; clear HO259; clear HO262; clear HO267; clear BK251; clear BK268; clear HB; have HO256 := n0_; have HO259 := n1_; have HO262 := n2_; have HO267 := n3_; have HO271 := n4_; have HO274 := n5_; have BK251 := n6_; have BK268 := n7_; have HB := n8_; clear n0_ n1_ n2_ n3_ n4_ n5_ n6_ n7_ n8_; (try clear hb); (try clear hb2); (try clear hk); (try clear hi); (try clear ho0); (try clear ho1); obtain ⟨Ao58, co58, eo58⟩ := Kd.R_slice HO271.out; subst eo58; obtain ⟨Ao59, co59, eo59⟩ := Kd.R_slice HO259.out; subst eo59) | ((with_reducible refine gate_callee (f := 20) rfl ?_); refine goesL_ (some 39) rfl rfl Try.func20 (by kernel_rfl) rfl #[.slice Ao58 t269.length co58, .slice Ao59 t257.length co59] rfl (by (try simp only [List.map_toArray, List.map_cons, List.map_nil]); first | done | rfl | (simp only [List.length_drop, List.length_take]; rfl)) ?_; (with_reducible refine (laws_eqPairS.calls k _ _ t269 _ _ t257 true _ ?side1 ?side2 ?side3 ?side4 A11.out).mono ?_); (case side1 => repeat (first | exact (Kd.R_reads' HO271.out).2.2 | (with_reducible refine Kd.C_alloc ?_ _) | (with_reducible refine Kd.C_drewN ?_ _) | (with_reducible refine Kd.C_drew ?_))); (case side2 => exact (Kd.R_reads' HO271.out).2.1); (case side3 => repeat (first | exact (Kd.R_reads' HO259.out).2.2 | (with_reducible refine Kd.C_alloc ?_ _) | (with_reducible refine Kd.C_drewN ?_ _) | (with_reducible refine Kd.C_drew ?_))); (case side4 => exact (Kd.R_reads' HO259.out).2.1); rintro e w60 ⟨rfl, hb⟩; refine ⟨_, rfl, ?_⟩; have n0_ := Aside0.mk (Kd.R_below (by (with_reducible repeat (first | apply Kd.R_alloc | apply Kd.R_drewN | apply Kd.R_drew)); exact HO256.out) hb); have n1_ := Aside0.mk (Kd.R_below (by (with_reducible repeat (first | apply Kd.R_alloc | apply Kd.R_drewN | apply Kd.R_drew)); exact HO259.out) hb); have n2_ := Aside0.mk (Kd.R_below (by (with_reducible repeat (first | apply Kd.R_alloc | apply Kd.R_drewN | apply Kd.R_drew)); exact HO262.out) hb); have n3_ := Aside0.mk (Kd.R_below (by (with_reducible repeat (first | apply Kd.R_alloc | apply Kd.R_drewN | apply Kd.R_drew)); exact HO267.out) hb); have n4_ := Aside0.mk (Kd.R_below (by (with_reducible repeat (first | apply Kd.R_alloc | apply Kd.R_drewN | apply Kd.R_drew)); exact HO271.out) hb); have n5_ := Aside0.mk (Kd.R_below (by (with_reducible repeat (first | apply Kd.R_alloc | apply Kd.R_drewN | apply Kd.R_drew)); exact HO274.out) hb); have n6_ := Aside0.mk (blk_below (g := gb251) (o := .cells #[.int .i64 a0_0, .slice A0_1 l0_1.length c0_1] 24 (0, 0)) (by (with_reducible repeat (first | refine blk_drewN ?_ _ | refine blk_drew ?_ | refine blk_alloc ?_ _)); exact BK251.out) hb); have n7_ := Aside0.mk (blk_below (g := gb268) (o := .cells #[.int .i64 t264, .slice Ao56 t265.length co56] 26 (0, 0)) (by (with_reducible repeat (first | refine blk_drewN ?_ _ | refine blk_drew ?_ | refine blk_alloc ?_ _)); exact BK268.out) hb); have n8_ := Aside0.mk (below_step (by repeat (first | (with_reducible first | exact HB.out | apply below_alloc | apply pw_below_drewN | apply below_drew1 | refine below_set ?_ GE251.out | refine below_set ?_ GE268.out) | exact HB.out)) hb); clear HO256; clear HO259; clear HO262; clear HO267; clear HO271; clear HO274; clear BK251; clear BK268; clear HB; have HO256 := n0_; have HO259 := n1_; have HO262 := n2_; have HO267 := n3_; have HO271 := n4_; have HO274 := n5_; have BK251 := n6_; have BK268 := n7_; have HB := n8_; clear n0_ n1_ n2_ n3_ n4_ n5_ n6_ n7_ n8_; (try clear hb); (try clear hb2); (try clear hk); (try clear hi); obtain ⟨Ao61, co61, eo61⟩ := Kd.R_slice HO274.out; subst eo61; obtain ⟨Ao62, co62, eo62⟩ := Kd.R_slice HO262.out; subst eo62) | (go_at_call 33; (with_reducible refine (laws_eqInt64S.calls k _ _ t272 _ _ t260 true _ ?side1 ?side2 ?side3 ?side4 A13.out).mono ?_); (case side1 => repeat (first | exact (Kd.R_reads' HO274.out).2.2 | (with_reducible refine Kd.C_alloc ?_ _) | (with_reducible refine Kd.C_drewN ?_ _) | (with_reducible refine Kd.C_drew ?_))); (case side2 => exact (Kd.R_reads' HO274.out).2.1); (case side3 => repeat (first | exact (Kd.R_reads' HO262.out).2.2 | (with_reducible refine Kd.C_alloc ?_ _) | (with_reducible refine Kd.C_drewN ?_ _) | (with_reducible refine Kd.C_drew ?_))); (case side4 => exact (Kd.R_reads' HO262.out).2.1); rintro e w' ⟨rfl, ⟨nd, rfl⟩⟩))
                                    (try (rw [drewN_self w60]; generalize hq_ : World.drewN w60 _ = w60; have n0_ : Aside0 (Kd.R (Kd.int .i64) 2 w60 w.heap.size (fun k_ => some k_ ≠ (.slice Ao62 t260.length co62 : Value).ownBlock ∧ some k_ ≠ (.slice Ao56 t265.length co56 : Value).ownBlock ∧ some k_ ≠ (.slice Ao61 t272.length co61 : Value).ownBlock) (.slice Ao49 t254.length co49) t254) := ⟨by rw [← hq_]; exact (by (with_reducible repeat (first | apply Kd.R_alloc | apply Kd.R_drewN | apply Kd.R_drew)); exact Kd.R_mono HO256.out (fun _ hk => ⟨hk.1.1.2, ⟨hk.1.2, hk.2⟩⟩))⟩; have n1_ : Aside0 (Kd.R k76 76 w60 w.heap.size (fun k_ => some k_ ≠ (.slice Ao58 t269.length co58 : Value).ownBlock) (.slice Ao59 t257.length co59) t257) := ⟨by rw [← hq_]; exact (by (with_reducible repeat (first | apply Kd.R_alloc | apply Kd.R_drewN | apply Kd.R_drew)); exact Kd.R_mono HO259.out (fun _ hk => hk.2))⟩; have n2_ : Aside0 (Kd.R (Kd.int .i64) 2 w60 w.heap.size (fun k_ => some k_ ≠ (.slice Ao49 t254.length co49 : Value).ownBlock ∧ some k_ ≠ (.slice Ao56 t265.length co56 : Value).ownBlock ∧ some k_ ≠ (.slice Ao61 t272.length co61 : Value).ownBlock) (.slice Ao62 t260.length co62) t260) := ⟨by rw [← hq_]; exact (by (with_reducible repeat (first | apply Kd.R_alloc | apply Kd.R_drewN | apply Kd.R_drew)); exact Kd.R_mono HO262.out (fun _ hk => ⟨hk.1.1.2, ⟨hk.1.2, hk.2⟩⟩))⟩; have n3_ : Aside0 (Kd.R (Kd.int .i64) 2 w60 w.heap.size (fun k_ => some k_ ≠ (.slice Ao49 t254.length co49 : Value).ownBlock ∧ some k_ ≠ (.slice Ao62 t260.length co62 : Value).ownBlock ∧ some k_ ≠ (.slice Ao61 t272.length co61 : Value).ownBlock) (.slice Ao56 t265.length co56) t265) := ⟨by rw [← hq_]; exact (by (with_reducible repeat (first | apply Kd.R_alloc | apply Kd.R_drewN | apply Kd.R_drew)); exact Kd.R_mono HO267.out (fun _ hk => ⟨hk.1.1.2, ⟨hk.1.2, hk.2⟩⟩))⟩; have n4_ : Aside0 (Kd.R k76 76 w60 w.heap.size (fun k_ => some k_ ≠ (.slice Ao59 t257.length co59 : Value).ownBlock) (.slice Ao58 t269.length co58) t269) := ⟨by rw [← hq_]; exact (by (with_reducible repeat (first | apply Kd.R_alloc | apply Kd.R_drewN | apply Kd.R_drew)); exact Kd.R_mono HO271.out (fun _ hk => hk.2))⟩; have n5_ : Aside0 (Kd.R (Kd.int .i64) 2 w60 w.heap.size (fun k_ => some k_ ≠ (.slice Ao49 t254.length co49 : Value).ownBlock ∧ some k_ ≠ (.slice Ao62 t260.length co62 : Value).ownBlock ∧ some k_ ≠ (.slice Ao56 t265.length co56 : Value).ownBlock) (.slice Ao61 t272.length co61) t272) := ⟨by rw [← hq_]; exact (by (with_reducible repeat (first | apply Kd.R_alloc | apply Kd.R_drewN | apply Kd.R_drew)); exact Kd.R_mono HO274.out (fun _ hk => ⟨hk.1.1.2, ⟨hk.1.2, hk.2⟩⟩))⟩; have n6_ : Aside0 (w60.heap[gb251]? = some (.cells #[.int .i64 a0_0, .slice A0_1 l0_1.length c0_1] 24 (0, 0))) := ⟨by rw [← hq_]; exact (by (with_reducible repeat (first | refine blk_drewN ?_ _ | refine blk_drew ?_ | refine blk_alloc ?_ _)); exact BK251.out)⟩; have n7_ : Aside0 (w60.heap[gb268]? = some (.cells #[.int .i64 t264, .slice Ao56 t265.length co56] 26 (0, 0))) := ⟨by rw [← hq_]; exact (by (with_reducible repeat (first | refine blk_drewN ?_ _ | refine blk_drew ?_ | refine blk_alloc ?_ _)); exact BK268.out)⟩; have n8_ : Aside0 (Below w.heap.size w w60) := ⟨by rw [← hq_]; exact (by repeat (first | (with_reducible first | exact HB.out | apply below_alloc | apply pw_below_drewN | apply below_drew1 | refine below_set ?_ GE251.out | refine below_set ?_ GE268.out) | exact HB.out))⟩; clear HO256 HO259 HO262 HO267 HO271 HO274 BK251 BK268 HB hq_; have HO256 := n0_; have HO259 := n1_; have HO262 := n2_; have HO267 := n3_; have HO271 := n4_; have HO274 := n5_; have BK251 := n6_; have BK268 := n7_; have HB := n8_; clear n0_ n1_ n2_ n3_ n4_ n5_ n6_ n7_ n8_))
                                    (try (have hcz63_0 : w60.cell? ⟨gb251, 0, none⟩ = some (.int .i64 a0_0) := (blk_cell BK251.out 0).trans rfl; have hcz63_1 : w60.cell? ⟨gb251, 1, none⟩ = some (.slice A0_1 l0_1.length c0_1) := (blk_cell BK251.out 1).trans rfl; have hfz63_0 := blk_frozen BK251.out 0; have hfz63_1 := blk_frozen BK251.out 1))
                                    (try (have hcz64_0 : w60.cell? ⟨gb268, 0, none⟩ = some (.int .i64 t264) := (blk_cell BK268.out 0).trans rfl; have hcz64_1 : w60.cell? ⟨gb268, 1, none⟩ = some (.slice Ao56 t265.length co56) := (blk_cell BK268.out 1).trans rfl; have hfz64_0 := blk_frozen BK268.out 0; have hfz64_1 := blk_frozen BK268.out 1))
                                    have n0_ := Aside0.mk (Kd.R_drew HO256.out)
                                    have n1_ := Aside0.mk (Kd.R_drew HO259.out)
                                    have n2_ := Aside0.mk (Kd.R_drew HO262.out)
                                    have n3_ := Aside0.mk (Kd.R_drew HO267.out)
                                    have n4_ := Aside0.mk (Kd.R_drew HO271.out)
                                    have n5_ := Aside0.mk (Kd.R_drew HO274.out)
                                    have n6_ := Aside0.mk (blk_drew BK251.out)
                                    have n7_ := Aside0.mk (blk_drew BK268.out)
                                    have n8_ := Aside0.mk (below_drew1 HB.out)
                                    clear HO256
                                    clear HO259
                                    clear HO262
                                    clear HO267
                                    clear HO271
                                    clear HO274
                                    clear BK251
                                    clear BK268
                                    clear HB
                                    have HO256 := n0_
                                    have HO259 := n1_
                                    have HO262 := n2_
                                    have HO267 := n3_
                                    have HO271 := n4_
                                    have HO274 := n5_
                                    have BK251 := n6_
                                    have BK268 := n7_
                                    have HB := n8_
                                    clear n0_ n1_ n2_ n3_ n4_ n5_ n6_ n7_ n8_
                                    refine start_ (n := 5) (S := fun w' => w'.cell? ⟨gb268, 0, none⟩ = some (.int .i64 t264) ∧ w'.cell? ⟨gb268, 1, none⟩ = some (.slice Ao56 t265.length co56) ∧ w'.cell? ⟨gb251, 0, none⟩ = some (.int .i64 a0_0) ∧ w'.cell? ⟨gb251, 1, none⟩ = some (.slice A0_1 l0_1.length c0_1)) (ds := []) #[false, false, false, false, false] (by kernel_rfl) rfl rfl ⟨(blk_cell BK268.out 0).trans rfl, (blk_cell BK268.out 1).trans rfl, (blk_cell BK251.out 0).trans rfl, (blk_cell BK251.out 1).trans rfl⟩ (fun hHeld => ?_)
                                    generalize w60.drew = w65 at HO256 HO259 HO262 HO267 HO271 HO274 BK251 BK268 HB hHeld ⊢
                                    refine take_ (i := 0) (N := some 52) (v := ?_) (a' := ?_) #[true, false, false, false, false] rfl rfl (by kernel_rfl) (fun _ _ _ h => h) (Or.inl ⟨by rfl, ?_⟩) hHeld ?_ ?_
                                    rotate_left
                                    · rintro w' ⟨s0, s1, s2, s3⟩
                                      go_simp
                                      with_reducible rfl
                                    rotate_left
                                    · simp only [Act.put, List.setIfInBounds_toArray, List.set_cons_zero, List.set_cons_succ, i64_w, i32_w]
                                      rfl
                                    refine take_ (i := 1) (N := some 53) (v := ?_) (a' := ?_) #[true, true, false, false, false] rfl rfl (by kernel_rfl) (fun _ _ _ h => h) (Or.inl ⟨by rfl, ?_⟩) hHeld ?_ ?_
                                    rotate_left
                                    · rintro w' ⟨s0, s1, s2, s3⟩
                                      go_simp
                                      with_reducible rfl
                                    rotate_left
                                    · simp only [Act.put, List.setIfInBounds_toArray, List.set_cons_zero, List.set_cons_succ, i64_w, i32_w]
                                      rfl
                                    refine one_ (i := 2) (N := some 54) #[true, true, true, false, false] rfl rfl (by kernel_rfl) (by decide) (fun K hK => ?_)
                                    refine goes_ Try.func17 (by kernel_rfl) rfl #[.agg #[.int .i64 a0_0, .slice A0_1 l0_1.length c0_1]] (by rfl) rfl rfl (by (try simp only [List.map_toArray, List.map_cons, List.map_nil]); first | done | rfl | (simp only [List.length_drop, List.length_take]; rfl)) ?_
                                    with_reducible refine (laws_toComplex.calls k a0_0 _ _ l0_1 t278 t279 _ ?side1 ?side2 A16.out).mono ?_
                                    (case side1 => repeat (first | exact (Kd.C_below HR0_1.out HB.out) | (with_reducible refine Kd.C_alloc ?_ _) | (with_reducible refine Kd.C_drewN ?_ _) | (with_reducible refine Kd.C_drew ?_)))
                                    (case side2 => exact HC0_1.out)
                                    rintro e w66 ⟨v280, rfl, ho0, hb⟩
                                    refine ⟨_, rfl, ?_⟩
                                    have n0_ := Aside0.mk (Kd.R_elder' (by (with_reducible repeat (first | apply Kd.R_alloc | apply Kd.R_drewN | apply Kd.R_drew)); exact HO256.out) (Kd.R_base ho0) hb)
                                    have n1_ := Aside0.mk (Kd.R_below (by (with_reducible repeat (first | apply Kd.R_alloc | apply Kd.R_drewN | apply Kd.R_drew)); exact HO259.out) hb)
                                    have n2_ := Aside0.mk (Kd.R_elder' (by (with_reducible repeat (first | apply Kd.R_alloc | apply Kd.R_drewN | apply Kd.R_drew)); exact HO262.out) (Kd.R_base ho0) hb)
                                    have n3_ := Aside0.mk (Kd.R_elder' (by (with_reducible repeat (first | apply Kd.R_alloc | apply Kd.R_drewN | apply Kd.R_drew)); exact HO267.out) (Kd.R_base ho0) hb)
                                    have n4_ := Aside0.mk (Kd.R_below (by (with_reducible repeat (first | apply Kd.R_alloc | apply Kd.R_drewN | apply Kd.R_drew)); exact HO271.out) hb)
                                    have n5_ := Aside0.mk (Kd.R_elder' (by (with_reducible repeat (first | apply Kd.R_alloc | apply Kd.R_drewN | apply Kd.R_drew)); exact HO274.out) (Kd.R_base ho0) hb)
                                    have n6_ := Aside0.mk (Kd.R_lower (Kd.R_new' (Kd.R_new' (Kd.R_new' (Kd.R_new' ho0 (Kd.R_lt (by (with_reducible repeat (first | apply Kd.R_alloc | apply Kd.R_drewN | apply Kd.R_drew)); exact HO256.out))) (Kd.R_lt (by (with_reducible repeat (first | apply Kd.R_alloc | apply Kd.R_drewN | apply Kd.R_drew)); exact HO262.out))) (Kd.R_lt (by (with_reducible repeat (first | apply Kd.R_alloc | apply Kd.R_drewN | apply Kd.R_drew)); exact HO267.out))) (Kd.R_lt (by (with_reducible repeat (first | apply Kd.R_alloc | apply Kd.R_drewN | apply Kd.R_drew)); exact HO274.out))) (below_size (by repeat (first | (with_reducible first | exact HB.out | apply below_alloc | apply pw_below_drewN | apply below_drew1 | refine below_set ?_ GE251.out | refine below_set ?_ GE268.out) | exact HB.out))))
                                    have n7_ := Aside0.mk (blk_below (g := gb251) (o := .cells #[.int .i64 a0_0, .slice A0_1 l0_1.length c0_1] 24 (0, 0)) (by (with_reducible repeat (first | refine blk_drewN ?_ _ | refine blk_drew ?_ | refine blk_alloc ?_ _)); exact BK251.out) hb)
                                    have n8_ := Aside0.mk (blk_below (g := gb268) (o := .cells #[.int .i64 t264, .slice Ao56 t265.length co56] 26 (0, 0)) (by (with_reducible repeat (first | refine blk_drewN ?_ _ | refine blk_drew ?_ | refine blk_alloc ?_ _)); exact BK268.out) hb)
                                    have n9_ := Aside0.mk (below_step (by repeat (first | (with_reducible first | exact HB.out | apply below_alloc | apply pw_below_drewN | apply below_drew1 | refine below_set ?_ GE251.out | refine below_set ?_ GE268.out) | exact HB.out)) hb)
                                    clear HO256
                                    clear HO259
                                    clear HO262
                                    clear HO267
                                    clear HO271
                                    clear HO274
                                    clear BK251
                                    clear BK268
                                    clear HB
                                    have HO256 := n0_
                                    have HO259 := n1_
                                    have HO262 := n2_
                                    have HO267 := n3_
                                    have HO271 := n4_
                                    have HO274 := n5_
                                    have HO281 := n6_
                                    have BK251 := n7_
                                    have BK268 := n8_
                                    have HB := n9_
                                    clear n0_ n1_ n2_ n3_ n4_ n5_ n6_ n7_ n8_ n9_
                                    (try clear hb)
                                    (try clear hb2)
                                    (try clear hk)
                                    (try clear hi)
                                    (try clear ho0)
                                    obtain ⟨Ao67, co67, eo67⟩ := Kd.R_slice HO281.out
                                    (first | subst eo67 | (injection eo67 with f1_ f2_ f3_; have f4_ := f1_.symm; have f5_ := f3_.symm; clear f1_ f2_ f3_; subst f4_; subst f5_))
                                    refine hK.out _ _ ⟨(blk_cell BK268.out 0).trans rfl, (blk_cell BK268.out 1).trans rfl, (blk_cell BK251.out 0).trans rfl, (blk_cell BK251.out 1).trans rfl⟩ (fun hHeld => ?_)
                                    clear hK K
                                    refine norm_ (a' := ?_) ?_ ?_
                                    rotate_left
                                    · show Act.put _ (some 54) _ = _
                                      simp only [Act.put, List.setIfInBounds_toArray, List.set_cons_zero, List.set_cons_succ, i64_w, i32_w]
                                      rfl
                                    refine one_ (i := 3) (N := some 55) #[true, true, true, true, false] rfl rfl (by kernel_rfl) (by decide) (fun K hK => ?_)
                                    refine goes_ Try.func19 (by kernel_rfl) rfl #[.agg #[.int .i64 t264, .slice Ao56 t265.length co56], .agg #[.int .i64 t278, .slice Ao67 t279.length co67]] (by rfl) rfl rfl (by (try simp only [List.map_toArray, List.map_cons, List.map_nil]); first | done | rfl | (simp only [List.length_drop, List.length_take]; rfl)) ?_
                                    with_reducible refine (laws_eqComplex.calls k t264 _ _ t265 t278 _ _ t279 true _ ?side1 ?side2 ?side3 ?side4 A17.out).mono ?_
                                    (case side1 => repeat (first | exact (Kd.R_reads' HO267.out).2.2 | (with_reducible refine Kd.C_alloc ?_ _) | (with_reducible refine Kd.C_drewN ?_ _) | (with_reducible refine Kd.C_drew ?_)))
                                    (case side2 => exact (Kd.R_reads' HO267.out).2.1)
                                    (case side3 => repeat (first | exact (Kd.R_reads' HO281.out).2.2 | (with_reducible refine Kd.C_alloc ?_ _) | (with_reducible refine Kd.C_drewN ?_ _) | (with_reducible refine Kd.C_drew ?_)))
                                    (case side4 => exact (Kd.R_reads' HO281.out).2.1)
                                    rintro e w68 ⟨rfl, hb⟩
                                    refine ⟨_, rfl, ?_⟩
                                    have n0_ := Aside0.mk (Kd.R_below (by (with_reducible repeat (first | apply Kd.R_alloc | apply Kd.R_drewN | apply Kd.R_drew)); exact HO256.out) hb)
                                    have n1_ := Aside0.mk (Kd.R_below (by (with_reducible repeat (first | apply Kd.R_alloc | apply Kd.R_drewN | apply Kd.R_drew)); exact HO259.out) hb)
                                    have n2_ := Aside0.mk (Kd.R_below (by (with_reducible repeat (first | apply Kd.R_alloc | apply Kd.R_drewN | apply Kd.R_drew)); exact HO262.out) hb)
                                    have n3_ := Aside0.mk (Kd.R_below (by (with_reducible repeat (first | apply Kd.R_alloc | apply Kd.R_drewN | apply Kd.R_drew)); exact HO267.out) hb)
                                    have n4_ := Aside0.mk (Kd.R_below (by (with_reducible repeat (first | apply Kd.R_alloc | apply Kd.R_drewN | apply Kd.R_drew)); exact HO271.out) hb)
                                    have n5_ := Aside0.mk (Kd.R_below (by (with_reducible repeat (first | apply Kd.R_alloc | apply Kd.R_drewN | apply Kd.R_drew)); exact HO274.out) hb)
                                    have n6_ := Aside0.mk (Kd.R_below (by (with_reducible repeat (first | apply Kd.R_alloc | apply Kd.R_drewN | apply Kd.R_drew)); exact HO281.out) hb)
                                    have n7_ := Aside0.mk (blk_below (g := gb251) (o := .cells #[.int .i64 a0_0, .slice A0_1 l0_1.length c0_1] 24 (0, 0)) (by (with_reducible repeat (first | refine blk_drewN ?_ _ | refine blk_drew ?_ | refine blk_alloc ?_ _)); exact BK251.out) hb)
                                    have n8_ := Aside0.mk (blk_below (g := gb268) (o := .cells #[.int .i64 t264, .slice Ao56 t265.length co56] 26 (0, 0)) (by (with_reducible repeat (first | refine blk_drewN ?_ _ | refine blk_drew ?_ | refine blk_alloc ?_ _)); exact BK268.out) hb)
                                    have n9_ := Aside0.mk (below_step (by repeat (first | (with_reducible first | exact HB.out | apply below_alloc | apply pw_below_drewN | apply below_drew1 | refine below_set ?_ GE251.out | refine below_set ?_ GE268.out) | exact HB.out)) hb)
                                    clear HO256
                                    clear HO259
                                    clear HO262
                                    clear HO267
                                    clear HO271
                                    clear HO274
                                    clear HO281
                                    clear BK251
                                    clear BK268
                                    clear HB
                                    have HO256 := n0_
                                    have HO259 := n1_
                                    have HO262 := n2_
                                    have HO267 := n3_
                                    have HO271 := n4_
                                    have HO274 := n5_
                                    have HO281 := n6_
                                    have BK251 := n7_
                                    have BK268 := n8_
                                    have HB := n9_
                                    clear n0_ n1_ n2_ n3_ n4_ n5_ n6_ n7_ n8_ n9_
                                    (try clear hb)
                                    (try clear hb2)
                                    (try clear hk)
                                    (try clear hi)
                                    refine hK.out _ _ ⟨(blk_cell BK268.out 0).trans rfl, (blk_cell BK268.out 1).trans rfl, (blk_cell BK251.out 0).trans rfl, (blk_cell BK251.out 1).trans rfl⟩ (fun hHeld => ?_)
                                    clear hK K
                                    refine norm_ (a' := ?_) ?_ ?_
                                    rotate_left
                                    · show Act.put _ (some 55) _ = _
                                      simp only [Act.put, List.setIfInBounds_toArray, List.set_cons_zero, List.set_cons_succ, i64_w, i32_w]
                                      rfl
                                    refine pure_ (i := 4) (N := some 56) (v := ?_) (a' := ?_) #[true, true, true, true, true] rfl rfl (by kernel_rfl) (fun _ _ _ h => h) (Or.inl ⟨by rfl, ?_⟩) ?_ ?_
                                    rotate_left
                                    · intro w'
                                      go_simp
                                      with_reducible rfl
                                    rotate_left
                                    · simp only [Act.put, List.setIfInBounds_toArray, List.set_cons_zero, List.set_cons_succ, i64_w, i32_w]
                                      rfl
                                    refine done_ (by kernel_rfl) ?_
                                    have hcz69_0 : w68.cell? ⟨gb268, 0, none⟩ = some (.int .i64 t264) := (blk_cell BK268.out 0).trans rfl
                                    have hcz69_1 : w68.cell? ⟨gb268, 1, none⟩ = some (.slice Ao56 t265.length co56) := (blk_cell BK268.out 1).trans rfl
                                    have hfz69_0 := blk_frozen BK268.out 0
                                    have hfz69_1 := blk_frozen BK268.out 1
                                    try go_wp2_with (first | ((with_reducible refine gate_callee (f := 21) rfl ?_); refine goesL_ (some 59) rfl rfl Try.func21 (by kernel_rfl) rfl #[.agg #[.int .i64 t264, .slice Ao56 t265.length co56], .int .i64 1] rfl (by (try simp only [List.map_toArray, List.map_cons, List.map_nil]); first | done | rfl | (simp only [List.length_drop, List.length_take]; rfl)) ?_; (with_reducible refine (laws_markComplex.calls k t264 (fun k_ => some k_ = (.slice Ao56 t265.length co56 : Value).ownBlock) (.slice Ao56 t265.length co56) t265 1 t283 t284 w _ ?side1 ?side2 A19.out).mono ?_); (case side1 => repeat (first | (with_reducible first | exact HB.out | apply below_alloc | apply pw_below_drewN | apply below_drew1 | refine below_set ?_ GE251.out | refine below_set ?_ GE268.out) | exact HB.out)); (case side2 => exact Kd.R_tight rfl HO267.out); rintro e w70 ⟨rfl, hy0, hb, hkp⟩; refine ⟨_, rfl, ?_⟩; have n0_ := Aside0.mk (blk_kept (by (with_reducible repeat (first | refine blk_drewN ?_ _ | refine blk_drew ?_ | refine blk_alloc ?_ _)); exact BK251.out) hkp (fun hs_ => (fun e_ => (Kd.R_ne HO267.out BK251.out (by decide)) e_) hs_)); have n1_ := Aside0.mk (Kd.R_mono (ok' := fun k_ => some k_ ≠ (.slice Ao62 t260.length co62 : Value).ownBlock ∧ some k_ ≠ (.slice Ao56 t265.length co56 : Value).ownBlock ∧ some k_ ≠ (.slice Ao61 t272.length co61 : Value).ownBlock ∧ some k_ ≠ (.slice Ao67 t279.length co67 : Value).ownBlock) (Kd.R_keptB (HO256.out) hkp (fun k_ hk_ hs_ => (hk_.1.2.1) hs_)) (fun k_ hk_ => ⟨hk_.1.1.1, hk_.1.1.2.1, hk_.1.1.2.2, hk_.1.2⟩)); have n2_ := Aside0.mk (Kd.R_mono (ok' := fun k_ => some k_ ≠ (.slice Ao58 t269.length co58 : Value).ownBlock) (Kd.R_keptB ((Kd.R_apart' HO259.out (Kd.R_typed HO267.out) (by decide))) hkp (fun k_ hk_ hs_ => (hk_.2) hs_)) (fun k_ hk_ => hk_.1.1)); have n3_ := Aside0.mk (Kd.R_mono (ok' := fun k_ => some k_ ≠ (.slice Ao49 t254.length co49 : Value).ownBlock ∧ some k_ ≠ (.slice Ao56 t265.length co56 : Value).ownBlock ∧ some k_ ≠ (.slice Ao61 t272.length co61 : Value).ownBlock ∧ some k_ ≠ (.slice Ao67 t279.length co67 : Value).ownBlock) (Kd.R_keptB (HO262.out) hkp (fun k_ hk_ hs_ => (hk_.1.2.1) hs_)) (fun k_ hk_ => ⟨hk_.1.1.1, hk_.1.1.2.1, hk_.1.1.2.2, hk_.1.2⟩)); have n4_ := Aside0.mk (Kd.R_reok rfl hy0 (fun k_ e_ => HO267.out.1 k_ e_)); have n5_ := Aside0.mk (blk_kept (by (with_reducible repeat (first | refine blk_drewN ?_ _ | refine blk_drew ?_ | refine blk_alloc ?_ _)); exact BK268.out) hkp (fun hs_ => (fun e_ => (Kd.R_ne HO267.out BK268.out (by decide)) e_) hs_)); have n6_ := Aside0.mk (Kd.R_mono (ok' := fun k_ => some k_ ≠ (.slice Ao59 t257.length co59 : Value).ownBlock) (Kd.R_keptB ((Kd.R_apart' HO271.out (Kd.R_typed HO267.out) (by decide))) hkp (fun k_ hk_ hs_ => (hk_.2) hs_)) (fun k_ hk_ => hk_.1.1)); have n7_ := Aside0.mk (Kd.R_mono (ok' := fun k_ => some k_ ≠ (.slice Ao49 t254.length co49 : Value).ownBlock ∧ some k_ ≠ (.slice Ao62 t260.length co62 : Value).ownBlock ∧ some k_ ≠ (.slice Ao56 t265.length co56 : Value).ownBlock ∧ some k_ ≠ (.slice Ao67 t279.length co67 : Value).ownBlock) (Kd.R_keptB (HO274.out) hkp (fun k_ hk_ hs_ => (hk_.1.2.2) hs_)) (fun k_ hk_ => ⟨hk_.1.1.1, hk_.1.1.2.1, hk_.1.1.2.2, hk_.1.2⟩)); have n8_ := Aside0.mk (Kd.R_mono (ok' := fun k_ => some k_ ≠ (.slice Ao49 t254.length co49 : Value).ownBlock ∧ some k_ ≠ (.slice Ao62 t260.length co62 : Value).ownBlock ∧ some k_ ≠ (.slice Ao56 t265.length co56 : Value).ownBlock ∧ some k_ ≠ (.slice Ao61 t272.length co61 : Value).ownBlock) (Kd.R_keptB (HO281.out) hkp (fun k_ hk_ hs_ => (hk_.1.2) hs_)) (fun k_ hk_ => ⟨hk_.1.1.1.1.2, hk_.1.1.1.2, hk_.1.1.2, hk_.1.2⟩)); have n9_ := Aside0.mk (hb); clear BK251; clear HO256; clear HO259; clear HO262; clear HO267; clear BK268; clear HO271; clear HO274; clear HO281; clear HB; have BK251 := n0_; have HO256 := n1_; have HO259 := n2_; have HO262 := n3_; have HO267 := n4_; have BK268 := n5_; have HO271 := n6_; have HO274 := n7_; have HO281 := n8_; have HB := n9_; clear n0_ n1_ n2_ n3_ n4_ n5_ n6_ n7_ n8_ n9_; (try clear hb); (try clear hkp); (try clear hy0); have nD_ := Aside0.mk (Kd.R_mono (ok' := fun k_ => some k_ ≠ (.slice Ao56 t265.length co56 : Value).ownBlock ∧ some k_ ≠ (.slice Ao61 t272.length co61 : Value).ownBlock) HO262.out (fun k_ hk => ⟨hk.2.1, hk.2.2.1⟩)); clear HO262; have HO262 := nD_; clear nD_; have nD_ := Aside0.mk (Kd.R_mono (ok' := fun k_ => some k_ ≠ (.slice Ao62 t260.length co62 : Value).ownBlock ∧ some k_ ≠ (.slice Ao61 t272.length co61 : Value).ownBlock) HO267.out (fun k_ hk => ⟨hk.1.2.1, hk.1.2.2⟩)); clear HO267; have HO267 := nD_; clear nD_; have nD_ := Aside0.mk (Kd.R_mono (ok' := fun k_ => some k_ ≠ (.slice Ao62 t260.length co62 : Value).ownBlock ∧ some k_ ≠ (.slice Ao56 t265.length co56 : Value).ownBlock) HO274.out (fun k_ hk => ⟨hk.2.1, hk.2.2.1⟩)); clear HO274; have HO274 := nD_; clear nD_; clear HO256 HO281) | (go_at_call 20; (with_reducible refine (laws_eqPairS.calls k _ _ t269 _ _ t257 true _ ?side1 ?side2 ?side3 ?side4 A21.out).mono ?_); (case side1 => repeat (first | exact (Kd.R_reads' HO271.out).2.2 | (with_reducible refine Kd.C_alloc ?_ _) | (with_reducible refine Kd.C_drewN ?_ _) | (with_reducible refine Kd.C_drew ?_))); (case side2 => exact (Kd.R_reads' HO271.out).2.1); (case side3 => repeat (first | exact (Kd.R_reads' HO259.out).2.2 | (with_reducible refine Kd.C_alloc ?_ _) | (with_reducible refine Kd.C_drewN ?_ _) | (with_reducible refine Kd.C_drew ?_))); (case side4 => exact (Kd.R_reads' HO259.out).2.1); rintro e w71 ⟨rfl, hb⟩; have n0_ := Aside0.mk (Kd.R_below (by (with_reducible repeat (first | apply Kd.R_alloc | apply Kd.R_drewN | apply Kd.R_drew)); exact HO259.out) hb); have n1_ := Aside0.mk (Kd.R_below (by (with_reducible repeat (first | apply Kd.R_alloc | apply Kd.R_drewN | apply Kd.R_drew)); exact HO262.out) hb); have n2_ := Aside0.mk (Kd.R_below (by (with_reducible repeat (first | apply Kd.R_alloc | apply Kd.R_drewN | apply Kd.R_drew)); exact HO267.out) hb); have n3_ := Aside0.mk (Kd.R_below (by (with_reducible repeat (first | apply Kd.R_alloc | apply Kd.R_drewN | apply Kd.R_drew)); exact HO271.out) hb); have n4_ := Aside0.mk (Kd.R_below (by (with_reducible repeat (first | apply Kd.R_alloc | apply Kd.R_drewN | apply Kd.R_drew)); exact HO274.out) hb); have n5_ := Aside0.mk (blk_below (g := gb251) (o := .cells #[.int .i64 a0_0, .slice A0_1 l0_1.length c0_1] 24 (0, 0)) (by (with_reducible repeat (first | refine blk_drewN ?_ _ | refine blk_drew ?_ | refine blk_alloc ?_ _)); exact BK251.out) hb); have n6_ := Aside0.mk (blk_below (g := gb268) (o := .cells #[.int .i64 t264, .slice Ao56 t265.length co56] 26 (0, 0)) (by (with_reducible repeat (first | refine blk_drewN ?_ _ | refine blk_drew ?_ | refine blk_alloc ?_ _)); exact BK268.out) hb); have n7_ := Aside0.mk (below_step (by repeat (first | (with_reducible first | exact HB.out | apply below_alloc | apply pw_below_drewN | apply below_drew1 | refine below_set ?_ GE251.out | refine below_set ?_ GE268.out) | exact HB.out)) hb); clear HO259; clear HO262; clear HO267; clear HO271; clear HO274; clear BK251; clear BK268; clear HB; have HO259 := n0_; have HO262 := n1_; have HO267 := n2_; have HO271 := n3_; have HO274 := n4_; have BK251 := n5_; have BK268 := n6_; have HB := n7_; clear n0_ n1_ n2_ n3_ n4_ n5_ n6_ n7_; (try clear hb); (try clear hb2); (try clear hk); (try clear hi)) | (go_at_call 33; (with_reducible refine (laws_eqInt64S.calls k _ _ t272 _ _ t260 true _ ?side1 ?side2 ?side3 ?side4 A23.out).mono ?_); (case side1 => repeat (first | exact (Kd.R_reads' HO274.out).2.2 | (with_reducible refine Kd.C_alloc ?_ _) | (with_reducible refine Kd.C_drewN ?_ _) | (with_reducible refine Kd.C_drew ?_))); (case side2 => exact (Kd.R_reads' HO274.out).2.1); (case side3 => repeat (first | exact (Kd.R_reads' HO262.out).2.2 | (with_reducible refine Kd.C_alloc ?_ _) | (with_reducible refine Kd.C_drewN ?_ _) | (with_reducible refine Kd.C_drew ?_))); (case side4 => exact (Kd.R_reads' HO262.out).2.1); rintro e w' ⟨rfl, ⟨nd, rfl⟩⟩) | ((with_reducible refine gate_callee (f := 22) rfl ?_); refine goesL_ (some 81) rfl rfl Try.func22 (by kernel_rfl) rfl #[.slice Ao58 t269.length co58, .int .i64 1] rfl (by (try simp only [List.map_toArray, List.map_cons, List.map_nil]); first | done | rfl | (simp only [List.length_drop, List.length_take]; rfl)) ?_; (with_reducible refine (laws_markPairS.calls (fun k_ => some k_ = (.slice Ao58 t269.length co58 : Value).ownBlock) (.slice Ao58 t269.length co58) t269 1 t287 t288 w _ ?side1 ?side2 A25.out).mono ?_); (case side1 => repeat (first | (with_reducible first | exact HB.out | apply below_alloc | apply pw_below_drewN | apply below_drew1 | refine below_set ?_ GE251.out | refine below_set ?_ GE268.out) | exact HB.out)); (case side2 => exact Kd.R_tight rfl HO271.out); rintro e w72 ⟨rfl, hy0, hb, hkp⟩; refine ⟨_, rfl, ?_⟩; have n0_ := Aside0.mk (blk_kept (by (with_reducible repeat (first | refine blk_drewN ?_ _ | refine blk_drew ?_ | refine blk_alloc ?_ _)); exact BK251.out) hkp (fun hs_ => (fun e_ => (Kd.R_ne HO271.out BK251.out (by decide)) e_) hs_)); have n1_ := Aside0.mk (Kd.R_mono (ok' := fun k_ => some k_ ≠ (.slice Ao58 t269.length co58 : Value).ownBlock) (Kd.R_keptB (HO259.out) hkp (fun k_ hk_ hs_ => (hk_) hs_)) (fun k_ hk_ => hk_.1)); have n2_ := Aside0.mk (Kd.R_mono (ok' := fun k_ => some k_ ≠ (.slice Ao56 t265.length co56 : Value).ownBlock ∧ some k_ ≠ (.slice Ao61 t272.length co61 : Value).ownBlock) (Kd.R_keptB ((Kd.R_apart' HO262.out (Kd.R_typed HO271.out) (by decide))) hkp (fun k_ hk_ hs_ => (hk_.2) hs_)) (fun k_ hk_ => ⟨hk_.1.1.1, hk_.1.1.2⟩)); have n3_ := Aside0.mk (Kd.R_mono (ok' := fun k_ => some k_ ≠ (.slice Ao62 t260.length co62 : Value).ownBlock ∧ some k_ ≠ (.slice Ao61 t272.length co61 : Value).ownBlock) (Kd.R_keptB ((Kd.R_apart' HO267.out (Kd.R_typed HO271.out) (by decide))) hkp (fun k_ hk_ hs_ => (hk_.2) hs_)) (fun k_ hk_ => ⟨hk_.1.1.1, hk_.1.1.2⟩)); have n4_ := Aside0.mk (blk_kept (by (with_reducible repeat (first | refine blk_drewN ?_ _ | refine blk_drew ?_ | refine blk_alloc ?_ _)); exact BK268.out) hkp (fun hs_ => (fun e_ => (Kd.R_ne HO271.out BK268.out (by decide)) e_) hs_)); have n5_ := Aside0.mk (Kd.R_reok rfl hy0 (fun k_ e_ => HO271.out.1 k_ e_)); have n6_ := Aside0.mk (Kd.R_mono (ok' := fun k_ => some k_ ≠ (.slice Ao62 t260.length co62 : Value).ownBlock ∧ some k_ ≠ (.slice Ao56 t265.length co56 : Value).ownBlock) (Kd.R_keptB ((Kd.R_apart' HO274.out (Kd.R_typed HO271.out) (by decide))) hkp (fun k_ hk_ hs_ => (hk_.2) hs_)) (fun k_ hk_ => ⟨hk_.1.1.1, hk_.1.1.2⟩)); have n7_ := Aside0.mk (hb); clear BK251; clear HO259; clear HO262; clear HO267; clear BK268; clear HO271; clear HO274; clear HB; have BK251 := n0_; have HO259 := n1_; have HO262 := n2_; have HO267 := n3_; have BK268 := n4_; have HO271 := n5_; have HO274 := n6_; have HB := n7_; clear n0_ n1_ n2_ n3_ n4_ n5_ n6_ n7_; (try clear hb); (try clear hkp); (try clear hy0)) | ((with_reducible refine gate_callee (f := 34) rfl ?_); refine goesL_ (some 84) rfl rfl Try.func34 (by kernel_rfl) rfl #[.slice Ao61 t272.length co61, .int .i64 t287] rfl (by (try simp only [List.map_toArray, List.map_cons, List.map_nil]); first | done | rfl | (simp only [List.length_drop, List.length_take]; rfl)) ?_; (with_reducible refine (laws_markInt64S.calls k (fun k_ => some k_ = (.slice Ao61 t272.length co61 : Value).ownBlock) (.slice Ao61 t272.length co61) t272 t287 t289 t290 w _ ?side1 ?side2 A26.out).mono ?_); (case side1 => repeat (first | (with_reducible first | exact HB.out | apply below_alloc | apply pw_below_drewN | apply below_drew1 | refine below_set ?_ GE251.out | refine below_set ?_ GE268.out) | exact HB.out)); (case side2 => exact Kd.R_tight rfl HO274.out); rintro e w73 ⟨rfl, hy0, hb, hkp⟩; refine ⟨_, rfl, ?_⟩; have n0_ := Aside0.mk (blk_kept (by (with_reducible repeat (first | refine blk_drewN ?_ _ | refine blk_drew ?_ | refine blk_alloc ?_ _)); exact BK251.out) hkp (fun hs_ => (fun e_ => (Kd.R_ne HO274.out BK251.out (by decide)) e_) hs_)); have n1_ := Aside0.mk (Kd.R_mono (ok' := fun k_ => some k_ ≠ (.slice Ao58 t269.length co58 : Value).ownBlock) (Kd.R_keptB ((Kd.R_apart' HO259.out (Kd.R_typed HO274.out) (by decide))) hkp (fun k_ hk_ hs_ => (hk_.2) hs_)) (fun k_ hk_ => hk_.1.1)); have n2_ := Aside0.mk (Kd.R_mono (ok' := fun k_ => some k_ ≠ (.slice Ao56 t265.length co56 : Value).ownBlock ∧ some k_ ≠ (.slice Ao61 t272.length co61 : Value).ownBlock) (Kd.R_keptB (HO262.out) hkp (fun k_ hk_ hs_ => (hk_.2) hs_)) (fun k_ hk_ => ⟨hk_.1.1, hk_.1.2⟩)); have n3_ := Aside0.mk (Kd.R_mono (ok' := fun k_ => some k_ ≠ (.slice Ao62 t260.length co62 : Value).ownBlock ∧ some k_ ≠ (.slice Ao61 t272.length co61 : Value).ownBlock) (Kd.R_keptB (HO267.out) hkp (fun k_ hk_ hs_ => (hk_.2) hs_)) (fun k_ hk_ => ⟨hk_.1.1, hk_.1.2⟩)); have n4_ := Aside0.mk (blk_kept (by (with_reducible repeat (first | refine blk_drewN ?_ _ | refine blk_drew ?_ | refine blk_alloc ?_ _)); exact BK268.out) hkp (fun hs_ => (fun e_ => (Kd.R_ne HO274.out BK268.out (by decide)) e_) hs_)); have n5_ := Aside0.mk (Kd.R_mono (ok' := fun k_ => some k_ ≠ (.slice Ao59 t257.length co59 : Value).ownBlock) (Kd.R_keptB ((Kd.R_apart' HO271.out (Kd.R_typed HO274.out) (by decide))) hkp (fun k_ hk_ hs_ => (hk_.2) hs_)) (fun k_ hk_ => hk_.1.1)); have n6_ := Aside0.mk (Kd.R_reok rfl hy0 (fun k_ e_ => HO274.out.1 k_ e_)); have n7_ := Aside0.mk (hb); clear BK251; clear HO259; clear HO262; clear HO267; clear BK268; clear HO271; clear HO274; clear HB; have BK251 := n0_; have HO259 := n1_; have HO262 := n2_; have HO267 := n3_; have BK268 := n4_; have HO271 := n5_; have HO274 := n6_; have HB := n7_; clear n0_ n1_ n2_ n3_ n4_ n5_ n6_ n7_; (try clear hb); (try clear hkp); (try clear hy0)) | ((with_reducible refine gate_callee (f := 24) rfl ?_); refine goesL_ (some 87) rfl rfl Try.func24 (by kernel_rfl) rfl #[.slice Ao58 t288.length co58, .int .i64 1] rfl (by (try simp only [List.map_toArray, List.map_cons, List.map_nil]); first | done | (rw [show t288.length = t269.length from (Kd.R_reads' HO271.out).1.symm] <;> rfl) | rfl | (simp only [List.length_drop, List.length_take]; rfl)) ?_; (with_reducible refine (laws_heldPairS.calls _ _ t288 1 t291 _ ?side1 ?side2 A27.out).mono ?_); (case side1 => repeat (first | exact (Kd.R_reads' HO271.out).2.2 | (with_reducible refine Kd.C_alloc ?_ _) | (with_reducible refine Kd.C_drewN ?_ _) | (with_reducible refine Kd.C_drew ?_))); (case side2 => rw [show t288.length = t269.length from (Kd.R_reads' HO271.out).1.symm]; exact (Kd.R_reads' HO271.out).2.1); rintro e w74 ⟨rfl, hb⟩; refine ⟨_, rfl, ?_⟩; have n0_ := Aside0.mk (Kd.R_below (by (with_reducible repeat (first | apply Kd.R_alloc | apply Kd.R_drewN | apply Kd.R_drew)); exact HO259.out) hb); have n1_ := Aside0.mk (Kd.R_below (by (with_reducible repeat (first | apply Kd.R_alloc | apply Kd.R_drewN | apply Kd.R_drew)); exact HO262.out) hb); have n2_ := Aside0.mk (Kd.R_below (by (with_reducible repeat (first | apply Kd.R_alloc | apply Kd.R_drewN | apply Kd.R_drew)); exact HO267.out) hb); have n3_ := Aside0.mk (Kd.R_below (by (with_reducible repeat (first | apply Kd.R_alloc | apply Kd.R_drewN | apply Kd.R_drew)); exact HO271.out) hb); have n4_ := Aside0.mk (Kd.R_below (by (with_reducible repeat (first | apply Kd.R_alloc | apply Kd.R_drewN | apply Kd.R_drew)); exact HO274.out) hb); have n5_ := Aside0.mk (blk_below (g := gb251) (o := .cells #[.int .i64 a0_0, .slice A0_1 l0_1.length c0_1] 24 (0, 0)) (by (with_reducible repeat (first | refine blk_drewN ?_ _ | refine blk_drew ?_ | refine blk_alloc ?_ _)); exact BK251.out) hb); have n6_ := Aside0.mk (blk_below (g := gb268) (o := .cells #[.int .i64 t264, .slice Ao56 t265.length co56] 26 (0, 0)) (by (with_reducible repeat (first | refine blk_drewN ?_ _ | refine blk_drew ?_ | refine blk_alloc ?_ _)); exact BK268.out) hb); have n7_ := Aside0.mk (below_step (by repeat (first | (with_reducible first | exact HB.out | apply below_alloc | apply pw_below_drewN | apply below_drew1 | refine below_set ?_ GE251.out | refine below_set ?_ GE268.out) | exact HB.out)) hb); clear HO259; clear HO262; clear HO267; clear HO271; clear HO274; clear BK251; clear BK268; clear HB; have HO259 := n0_; have HO262 := n1_; have HO267 := n2_; have HO271 := n3_; have HO274 := n4_; have BK251 := n5_; have BK268 := n6_; have HB := n7_; clear n0_ n1_ n2_ n3_ n4_ n5_ n6_ n7_; (try clear hb); (try clear hb2); (try clear hk); (try clear hi)) | ((with_reducible refine gate_callee (f := 35) rfl ?_); refine goesL_ (some 92) rfl rfl Try.func35 (by kernel_rfl) rfl #[.slice Ao61 t290.length co61, .int .i64 t291] rfl (by (try simp only [List.map_toArray, List.map_cons, List.map_nil]); first | done | (rw [show t290.length = t272.length from (Kd.R_reads' HO274.out).1.symm] <;> rfl) | rfl | (simp only [List.length_drop, List.length_take]; rfl)) ?_; (with_reducible refine (laws_heldInt64S.calls k _ _ t290 t291 t292 _ ?side1 ?side2 A29.out).mono ?_); (case side1 => repeat (first | exact (Kd.R_reads' HO274.out).2.2 | (with_reducible refine Kd.C_alloc ?_ _) | (with_reducible refine Kd.C_drewN ?_ _) | (with_reducible refine Kd.C_drew ?_))); (case side2 => rw [show t290.length = t272.length from (Kd.R_reads' HO274.out).1.symm]; exact (Kd.R_reads' HO274.out).2.1); rintro e w' ⟨rfl, ⟨nd, rfl⟩⟩; refine ⟨_, rfl, ?_⟩; have hcz75_0 : w74.cell? ⟨gb251, 0, none⟩ = some (.int .i64 a0_0) := (blk_cell BK251.out 0).trans rfl; have hcz75_1 : w74.cell? ⟨gb251, 1, none⟩ = some (.slice A0_1 l0_1.length c0_1) := (blk_cell BK251.out 1).trans rfl; have hfz75_0 := blk_frozen BK251.out 0; have hfz75_1 := blk_frozen BK251.out 1) | ((with_reducible refine gate_callee (f := 17) rfl ?_); refine goesL_ (some 100) rfl rfl Try.func17 (by kernel_rfl) rfl #[.agg #[.int .i64 a0_0, .slice A0_1 l0_1.length c0_1]] rfl (by (try simp only [List.map_toArray, List.map_cons, List.map_nil]); first | done | rfl | (simp only [List.length_drop, List.length_take]; rfl)) ?_; (with_reducible refine (laws_toComplex.calls k a0_0 _ _ l0_1 t293 t294 _ ?side1 ?side2 A32.out).mono ?_); (case side1 => repeat (first | exact (Kd.C_below HR0_1.out (by repeat (first | (with_reducible first | exact HB.out | apply below_alloc | apply pw_below_drewN | apply below_drew1 | refine below_set ?_ GE251.out | refine below_set ?_ GE268.out) | exact HB.out))) | (with_reducible refine Kd.C_alloc ?_ _) | (with_reducible refine Kd.C_drewN ?_ _) | (with_reducible refine Kd.C_drew ?_))); (case side2 => exact HC0_1.out); rintro e w76 ⟨v295, rfl, ho0, hb⟩; refine ⟨_, rfl, ?_⟩; have n0_ := Aside0.mk (Kd.R_below (by (with_reducible repeat (first | apply Kd.R_alloc | apply Kd.R_drewN | apply Kd.R_drew)); exact HO259.out) hb); have n1_ := Aside0.mk (Kd.R_elder' (by (with_reducible repeat (first | apply Kd.R_alloc | apply Kd.R_drewN | apply Kd.R_drew)); exact HO262.out) (Kd.R_base ho0) hb); have n2_ := Aside0.mk (Kd.R_elder' (by (with_reducible repeat (first | apply Kd.R_alloc | apply Kd.R_drewN | apply Kd.R_drew)); exact HO267.out) (Kd.R_base ho0) hb); have n3_ := Aside0.mk (Kd.R_below (by (with_reducible repeat (first | apply Kd.R_alloc | apply Kd.R_drewN | apply Kd.R_drew)); exact HO271.out) hb); have n4_ := Aside0.mk (Kd.R_elder' (by (with_reducible repeat (first | apply Kd.R_alloc | apply Kd.R_drewN | apply Kd.R_drew)); exact HO274.out) (Kd.R_base ho0) hb); have n5_ := Aside0.mk (Kd.R_lower (Kd.R_new' (Kd.R_new' (Kd.R_new' ho0 (Kd.R_lt (by (with_reducible repeat (first | apply Kd.R_alloc | apply Kd.R_drewN | apply Kd.R_drew)); exact HO262.out))) (Kd.R_lt (by (with_reducible repeat (first | apply Kd.R_alloc | apply Kd.R_drewN | apply Kd.R_drew)); exact HO267.out))) (Kd.R_lt (by (with_reducible repeat (first | apply Kd.R_alloc | apply Kd.R_drewN | apply Kd.R_drew)); exact HO274.out))) (below_size (by repeat (first | (with_reducible first | exact HB.out | apply below_alloc | apply pw_below_drewN | apply below_drew1 | refine below_set ?_ GE251.out | refine below_set ?_ GE268.out) | exact HB.out)))); have n6_ := Aside0.mk (blk_below (g := gb251) (o := .cells #[.int .i64 a0_0, .slice A0_1 l0_1.length c0_1] 24 (0, 0)) (by (with_reducible repeat (first | refine blk_drewN ?_ _ | refine blk_drew ?_ | refine blk_alloc ?_ _)); exact BK251.out) hb); have n7_ := Aside0.mk (blk_below (g := gb268) (o := .cells #[.int .i64 t264, .slice Ao56 t265.length co56] 26 (0, 0)) (by (with_reducible repeat (first | refine blk_drewN ?_ _ | refine blk_drew ?_ | refine blk_alloc ?_ _)); exact BK268.out) hb); have n8_ := Aside0.mk (below_step (by repeat (first | (with_reducible first | exact HB.out | apply below_alloc | apply pw_below_drewN | apply below_drew1 | refine below_set ?_ GE251.out | refine below_set ?_ GE268.out) | exact HB.out)) hb); clear HO259; clear HO262; clear HO267; clear HO271; clear HO274; clear BK251; clear BK268; clear HB; have HO259 := n0_; have HO262 := n1_; have HO267 := n2_; have HO271 := n3_; have HO274 := n4_; have HO296 := n5_; have BK251 := n6_; have BK268 := n7_; have HB := n8_; clear n0_ n1_ n2_ n3_ n4_ n5_ n6_ n7_ n8_; (try clear hb); (try clear hb2); (try clear hk); (try clear hi); (try clear ho0); obtain ⟨Ao77, co77, eo77⟩ := Kd.R_slice HO296.out; subst eo77) | ((with_reducible refine gate_callee (f := 39) rfl ?_); refine goesL_ (some 101) rfl rfl Try.func39 (by kernel_rfl) rfl #[.agg #[.int .i64 t293, .slice Ao77 t294.length co77]] rfl (by (try simp only [List.map_toArray, List.map_cons, List.map_nil]); first | done | rfl | (simp only [List.length_drop, List.length_take]; rfl)) ?_; (with_reducible refine (impl_ReductionOf.calls t293 _ _ t294 t297 t300 t303 _ ?side1 ?side2 A33.out).mono ?_); (case side1 => repeat (first | exact (Kd.R_reads' HO296.out).2.2 | (with_reducible refine Kd.C_alloc ?_ _) | (with_reducible refine Kd.C_drewN ?_ _) | (with_reducible refine Kd.C_drew ?_))); (case side2 => exact (Kd.R_reads' HO296.out).2.1); rintro e w78 ⟨v298, v301, rfl, ho0, ho1, hb⟩; refine ⟨_, rfl, ?_⟩; have n0_ := Aside0.mk (Kd.R_elder' (by (with_reducible repeat (first | apply Kd.R_alloc | apply Kd.R_drewN | apply Kd.R_drew)); exact HO259.out) (Kd.R_base ho0) hb); have n1_ := Aside0.mk (Kd.R_elder' (by (with_reducible repeat (first | apply Kd.R_alloc | apply Kd.R_drewN | apply Kd.R_drew)); exact HO262.out) (Kd.R_base ho1) hb); have n2_ := Aside0.mk (Kd.R_elder' (by (with_reducible repeat (first | apply Kd.R_alloc | apply Kd.R_drewN | apply Kd.R_drew)); exact HO267.out) (Kd.R_base ho1) hb); have n3_ := Aside0.mk (Kd.R_elder' (by (with_reducible repeat (first | apply Kd.R_alloc | apply Kd.R_drewN | apply Kd.R_drew)); exact HO271.out) (Kd.R_base ho0) hb); have n4_ := Aside0.mk (Kd.R_elder' (by (with_reducible repeat (first | apply Kd.R_alloc | apply Kd.R_drewN | apply Kd.R_drew)); exact HO274.out) (Kd.R_base ho1) hb); have n5_ := Aside0.mk (Kd.R_elder' (by (with_reducible repeat (first | apply Kd.R_alloc | apply Kd.R_drewN | apply Kd.R_drew)); exact HO296.out) (Kd.R_base ho1) hb); have n6_ := Aside0.mk (Kd.R_lower (Kd.R_new' (Kd.R_new' ho0 (Kd.R_lt (by (with_reducible repeat (first | apply Kd.R_alloc | apply Kd.R_drewN | apply Kd.R_drew)); exact HO259.out))) (Kd.R_lt (by (with_reducible repeat (first | apply Kd.R_alloc | apply Kd.R_drewN | apply Kd.R_drew)); exact HO271.out))) (below_size (by repeat (first | (with_reducible first | exact HB.out | apply below_alloc | apply pw_below_drewN | apply below_drew1 | refine below_set ?_ GE251.out | refine below_set ?_ GE268.out) | exact HB.out)))); have n7_ := Aside0.mk (Kd.R_lower (Kd.R_new' (Kd.R_new' (Kd.R_new' (Kd.R_new' ho1 (Kd.R_lt (by (with_reducible repeat (first | apply Kd.R_alloc | apply Kd.R_drewN | apply Kd.R_drew)); exact HO262.out))) (Kd.R_lt (by (with_reducible repeat (first | apply Kd.R_alloc | apply Kd.R_drewN | apply Kd.R_drew)); exact HO267.out))) (Kd.R_lt (by (with_reducible repeat (first | apply Kd.R_alloc | apply Kd.R_drewN | apply Kd.R_drew)); exact HO274.out))) (Kd.R_lt (by (with_reducible repeat (first | apply Kd.R_alloc | apply Kd.R_drewN | apply Kd.R_drew)); exact HO296.out))) (below_size (by repeat (first | (with_reducible first | exact HB.out | apply below_alloc | apply pw_below_drewN | apply below_drew1 | refine below_set ?_ GE251.out | refine below_set ?_ GE268.out) | exact HB.out)))); have n8_ := Aside0.mk (blk_below (g := gb251) (o := .cells #[.int .i64 a0_0, .slice A0_1 l0_1.length c0_1] 24 (0, 0)) (by (with_reducible repeat (first | refine blk_drewN ?_ _ | refine blk_drew ?_ | refine blk_alloc ?_ _)); exact BK251.out) hb); have n9_ := Aside0.mk (blk_below (g := gb268) (o := .cells #[.int .i64 t264, .slice Ao56 t265.length co56] 26 (0, 0)) (by (with_reducible repeat (first | refine blk_drewN ?_ _ | refine blk_drew ?_ | refine blk_alloc ?_ _)); exact BK268.out) hb); have n10_ := Aside0.mk (below_step (by repeat (first | (with_reducible first | exact HB.out | apply below_alloc | apply pw_below_drewN | apply below_drew1 | refine below_set ?_ GE251.out | refine below_set ?_ GE268.out) | exact HB.out)) hb); clear HO259; clear HO262; clear HO267; clear HO271; clear HO274; clear HO296; clear BK251; clear BK268; clear HB; have HO259 := n0_; have HO262 := n1_; have HO267 := n2_; have HO271 := n3_; have HO274 := n4_; have HO296 := n5_; have HO299 := n6_; have HO302 := n7_; have BK251 := n8_; have BK268 := n9_; have HB := n10_; clear n0_ n1_ n2_ n3_ n4_ n5_ n6_ n7_ n8_ n9_ n10_; (try clear hb); (try clear hb2); (try clear hk); (try clear hi); (try clear ho0); (try clear ho1); have nD_ := Aside0.mk (Kd.R_mono (ok' := fun k_ => some k_ ≠ (.slice Ao56 t265.length co56 : Value).ownBlock ∧ some k_ ≠ (.slice Ao61 t272.length co61 : Value).ownBlock ∧ some k_ ≠ (v301 : Value).ownBlock) HO262.out (fun k_ hk => ⟨hk.1.1.1, ⟨hk.1.1.2, hk.2⟩⟩)); clear HO262; have HO262 := nD_; clear nD_; have nD_ := Aside0.mk (Kd.R_mono (ok' := fun k_ => some k_ ≠ (.slice Ao62 t260.length co62 : Value).ownBlock ∧ some k_ ≠ (.slice Ao61 t272.length co61 : Value).ownBlock ∧ some k_ ≠ (v301 : Value).ownBlock) HO267.out (fun k_ hk => ⟨hk.1.1.1, ⟨hk.1.1.2, hk.2⟩⟩)); clear HO267; have HO267 := nD_; clear nD_; have nD_ := Aside0.mk (Kd.R_mono (ok' := fun k_ => some k_ ≠ (.slice Ao62 t260.length co62 : Value).ownBlock ∧ some k_ ≠ (.slice Ao56 t265.length co56 : Value).ownBlock ∧ some k_ ≠ (v301 : Value).ownBlock) HO274.out (fun k_ hk => ⟨hk.1.1.1, ⟨hk.1.1.2, hk.2⟩⟩)); clear HO274; have HO274 := nD_; clear nD_; have nD_ := Aside0.mk (Kd.R_mono (ok' := fun k_ => some k_ ≠ (.slice Ao62 t260.length co62 : Value).ownBlock ∧ some k_ ≠ (.slice Ao56 t265.length co56 : Value).ownBlock ∧ some k_ ≠ (.slice Ao61 t272.length co61 : Value).ownBlock) HO302.out (fun k_ hk => ⟨hk.1.1.1.2, ⟨hk.1.1.2, hk.1.2⟩⟩)); clear HO302; have HO302 := nD_; clear nD_; clear HO296; obtain ⟨Ao79, co79, eo79⟩ := Kd.R_slice HO299.out; subst eo79) | ((with_reducible refine gate_callee (f := 20) rfl ?_); refine goesL_ (some 107) rfl rfl Try.func20 (by kernel_rfl) rfl #[.slice Ao79 t297.length co79, .slice Ao59 t257.length co59] rfl (by (try simp only [List.map_toArray, List.map_cons, List.map_nil]); first | done | rfl | (simp only [List.length_drop, List.length_take]; rfl)) ?_; (with_reducible refine (laws_eqPairS.calls k _ _ t297 _ _ t257 true _ ?side1 ?side2 ?side3 ?side4 A34.out).mono ?_); (case side1 => repeat (first | exact (Kd.R_reads' HO299.out).2.2 | (with_reducible refine Kd.C_alloc ?_ _) | (with_reducible refine Kd.C_drewN ?_ _) | (with_reducible refine Kd.C_drew ?_))); (case side2 => exact (Kd.R_reads' HO299.out).2.1); (case side3 => repeat (first | exact (Kd.R_reads' HO259.out).2.2 | (with_reducible refine Kd.C_alloc ?_ _) | (with_reducible refine Kd.C_drewN ?_ _) | (with_reducible refine Kd.C_drew ?_))); (case side4 => exact (Kd.R_reads' HO259.out).2.1); rintro e w80 ⟨rfl, hb⟩; refine ⟨_, rfl, ?_⟩; have n0_ := Aside0.mk (Kd.R_below (by (with_reducible repeat (first | apply Kd.R_alloc | apply Kd.R_drewN | apply Kd.R_drew)); exact HO259.out) hb); have n1_ := Aside0.mk (Kd.R_below (by (with_reducible repeat (first | apply Kd.R_alloc | apply Kd.R_drewN | apply Kd.R_drew)); exact HO262.out) hb); have n2_ := Aside0.mk (Kd.R_below (by (with_reducible repeat (first | apply Kd.R_alloc | apply Kd.R_drewN | apply Kd.R_drew)); exact HO267.out) hb); have n3_ := Aside0.mk (Kd.R_below (by (with_reducible repeat (first | apply Kd.R_alloc | apply Kd.R_drewN | apply Kd.R_drew)); exact HO271.out) hb); have n4_ := Aside0.mk (Kd.R_below (by (with_reducible repeat (first | apply Kd.R_alloc | apply Kd.R_drewN | apply Kd.R_drew)); exact HO274.out) hb); have n5_ := Aside0.mk (Kd.R_below (by (with_reducible repeat (first | apply Kd.R_alloc | apply Kd.R_drewN | apply Kd.R_drew)); exact HO299.out) hb); have n6_ := Aside0.mk (Kd.R_below (by (with_reducible repeat (first | apply Kd.R_alloc | apply Kd.R_drewN | apply Kd.R_drew)); exact HO302.out) hb); have n7_ := Aside0.mk (blk_below (g := gb251) (o := .cells #[.int .i64 a0_0, .slice A0_1 l0_1.length c0_1] 24 (0, 0)) (by (with_reducible repeat (first | refine blk_drewN ?_ _ | refine blk_drew ?_ | refine blk_alloc ?_ _)); exact BK251.out) hb); have n8_ := Aside0.mk (blk_below (g := gb268) (o := .cells #[.int .i64 t264, .slice Ao56 t265.length co56] 26 (0, 0)) (by (with_reducible repeat (first | refine blk_drewN ?_ _ | refine blk_drew ?_ | refine blk_alloc ?_ _)); exact BK268.out) hb); have n9_ := Aside0.mk (below_step (by repeat (first | (with_reducible first | exact HB.out | apply below_alloc | apply pw_below_drewN | apply below_drew1 | refine below_set ?_ GE251.out | refine below_set ?_ GE268.out) | exact HB.out)) hb); clear HO259; clear HO262; clear HO267; clear HO271; clear HO274; clear HO299; clear HO302; clear BK251; clear BK268; clear HB; have HO259 := n0_; have HO262 := n1_; have HO267 := n2_; have HO271 := n3_; have HO274 := n4_; have HO299 := n5_; have HO302 := n6_; have BK251 := n7_; have BK268 := n8_; have HB := n9_; clear n0_ n1_ n2_ n3_ n4_ n5_ n6_ n7_ n8_ n9_; (try clear hb); (try clear hb2); (try clear hk); (try clear hi); have nD_ := Aside0.mk (Kd.R_mono (ok' := fun k_ => True) HO271.out (fun k_ hk => trivial)); clear HO271; have HO271 := nD_; clear nD_; clear HO259 HO299; obtain ⟨Ao81, co81, eo81⟩ := Kd.R_slice HO302.out; subst eo81) | (go_at_call 33; (with_reducible refine (laws_eqInt64S.calls k _ _ t300 _ _ t260 true _ ?side1 ?side2 ?side3 ?side4 A36.out).mono ?_); (case side1 => repeat (first | exact (Kd.R_reads' HO302.out).2.2 | (with_reducible refine Kd.C_alloc ?_ _) | (with_reducible refine Kd.C_drewN ?_ _) | (with_reducible refine Kd.C_drew ?_))); (case side2 => exact (Kd.R_reads' HO302.out).2.1); (case side3 => repeat (first | exact (Kd.R_reads' HO262.out).2.2 | (with_reducible refine Kd.C_alloc ?_ _) | (with_reducible refine Kd.C_drewN ?_ _) | (with_reducible refine Kd.C_drew ?_))); (case side4 => exact (Kd.R_reads' HO262.out).2.1); rintro e w' ⟨rfl, ⟨nd, rfl⟩⟩) | ((with_reducible refine gate_callee (f := 24) rfl ?_); refine goesL_ (some 122) rfl rfl Try.func24 (by kernel_rfl) rfl #[.slice Ao58 t288.length co58, .int .i64 1] rfl (by (try simp only [List.map_toArray, List.map_cons, List.map_nil]); first | done | (rw [show t288.length = t269.length from (Kd.R_reads' HO271.out).1.symm] <;> rfl) | rfl | (simp only [List.length_drop, List.length_take]; rfl)) ?_; (with_reducible refine (laws_heldPairS.calls _ _ t288 1 t306 _ ?side1 ?side2 A39.out).mono ?_); (case side1 => repeat (first | exact (Kd.R_reads' HO271.out).2.2 | (with_reducible refine Kd.C_alloc ?_ _) | (with_reducible refine Kd.C_drewN ?_ _) | (with_reducible refine Kd.C_drew ?_))); (case side2 => rw [show t288.length = t269.length from (Kd.R_reads' HO271.out).1.symm]; exact (Kd.R_reads' HO271.out).2.1); rintro e w82 ⟨rfl, hb⟩; refine ⟨_, rfl, ?_⟩; have n0_ := Aside0.mk (Kd.R_below (by (with_reducible repeat (first | apply Kd.R_alloc | apply Kd.R_drewN | apply Kd.R_drew)); exact HO262.out) hb); have n1_ := Aside0.mk (Kd.R_below (by (with_reducible repeat (first | apply Kd.R_alloc | apply Kd.R_drewN | apply Kd.R_drew)); exact HO267.out) hb); have n2_ := Aside0.mk (Kd.R_below (by (with_reducible repeat (first | apply Kd.R_alloc | apply Kd.R_drewN | apply Kd.R_drew)); exact HO271.out) hb); have n3_ := Aside0.mk (Kd.R_below (by (with_reducible repeat (first | apply Kd.R_alloc | apply Kd.R_drewN | apply Kd.R_drew)); exact HO274.out) hb); have n4_ := Aside0.mk (Kd.R_below (by (with_reducible repeat (first | apply Kd.R_alloc | apply Kd.R_drewN | apply Kd.R_drew)); exact HO302.out) hb); have n5_ := Aside0.mk (blk_below (g := gb251) (o := .cells #[.int .i64 a0_0, .slice A0_1 l0_1.length c0_1] 24 (0, 0)) (by (with_reducible repeat (first | refine blk_drewN ?_ _ | refine blk_drew ?_ | refine blk_alloc ?_ _)); exact BK251.out) hb); have n6_ := Aside0.mk (blk_below (g := gb268) (o := .cells #[.int .i64 t264, .slice Ao56 t265.length co56] 26 (0, 0)) (by (with_reducible repeat (first | refine blk_drewN ?_ _ | refine blk_drew ?_ | refine blk_alloc ?_ _)); exact BK268.out) hb); have n7_ := Aside0.mk (below_step (by repeat (first | (with_reducible first | exact HB.out | apply below_alloc | apply pw_below_drewN | apply below_drew1 | refine below_set ?_ GE251.out | refine below_set ?_ GE268.out) | exact HB.out)) hb); clear HO262; clear HO267; clear HO271; clear HO274; clear HO302; clear BK251; clear BK268; clear HB; have HO262 := n0_; have HO267 := n1_; have HO271 := n2_; have HO274 := n3_; have HO302 := n4_; have BK251 := n5_; have BK268 := n6_; have HB := n7_; clear n0_ n1_ n2_ n3_ n4_ n5_ n6_ n7_; (try clear hb); (try clear hb2); (try clear hk); (try clear hi); have nD_ := Aside0.mk (Kd.R_mono (ok' := fun k_ => some k_ ≠ (.slice Ao61 t272.length co61 : Value).ownBlock) HO267.out (fun k_ hk => hk.2.1)); clear HO267; have HO267 := nD_; clear nD_; have nD_ := Aside0.mk (Kd.R_mono (ok' := fun k_ => some k_ ≠ (.slice Ao56 t265.length co56 : Value).ownBlock) HO274.out (fun k_ hk => hk.2.1)); clear HO274; have HO274 := nD_; clear nD_; clear HO262 HO271 HO302) | ((with_reducible refine gate_callee (f := 35) rfl ?_); refine goesL_ (some 127) rfl rfl Try.func35 (by kernel_rfl) rfl #[.slice Ao61 t290.length co61, .int .i64 t306] rfl (by (try simp only [List.map_toArray, List.map_cons, List.map_nil]); first | done | (rw [show t290.length = t272.length from (Kd.R_reads' HO274.out).1.symm] <;> rfl) | rfl | (simp only [List.length_drop, List.length_take]; rfl)) ?_; (with_reducible refine (laws_heldInt64S.calls k _ _ t290 t306 t307 _ ?side1 ?side2 A41.out).mono ?_); (case side1 => repeat (first | exact (Kd.R_reads' HO274.out).2.2 | (with_reducible refine Kd.C_alloc ?_ _) | (with_reducible refine Kd.C_drewN ?_ _) | (with_reducible refine Kd.C_drew ?_))); (case side2 => rw [show t290.length = t272.length from (Kd.R_reads' HO274.out).1.symm]; exact (Kd.R_reads' HO274.out).2.1); rintro e w' ⟨rfl, ⟨nd, rfl⟩⟩; refine ⟨_, rfl, ?_⟩))
                                    go_ret
                                    exact ⟨by first | rfl | (simp [errW_none, errW_some] <;> rfl) | (simp [*, errW_none, errW_some] <;> rfl), by repeat (first | (with_reducible first | exact HB.out | apply below_alloc | apply pw_below_drewN | apply below_drew1 | refine below_set ?_ GE251.out | refine below_set ?_ GE268.out) | exact HB.out)⟩
                                  · rw [if_neg c43] at H
                                    exact absurd H (by simp)
                            · rw [if_neg c38] at H
                              exact absurd H (by simp)
                          · replace c37 := Bool.eq_false_iff.mpr c37
                            subst c37
                            have H1 : (none) = some r := by rw [if_neg (show ¬ (false = true) by decide)] at H; exact H
                            clear H
                            have H := H1
                            clear H1
                            exact absurd H (by simp)
                        · replace c35 := Bool.eq_false_iff.mpr c35
                          subst c35
                          have H1 : (none) = some r := by rw [if_neg (show ¬ (false = true) by decide)] at H; exact H
                          clear H
                          have H := H1
                          clear H1
                          exact absurd H (by simp)
                      · rw [if_neg c31] at H
                        exact absurd H (by simp)
                · replace c24 := Bool.eq_false_iff.mpr c24
                  subst c24
                  have H1 : (none) = some r := by rw [if_neg (show ¬ (false = true) by decide)] at H; exact H
                  clear H
                  have H := H1
                  clear H1
                  exact absurd H (by simp)
              · replace c22 := Bool.eq_false_iff.mpr c22
                subst c22
                have H1 : (none) = some r := by rw [if_neg (show ¬ (false = true) by decide)] at H; exact H
                clear H
                have H := H1
                clear H1
                exact absurd H (by simp)
          · replace c18 := Bool.eq_false_iff.mpr c18
            subst c18
            have H1 : (none) = some r := by rw [if_neg (show ¬ (false = true) by decide)] at H; exact H
            clear H
            have H := H1
            clear H1
            exact absurd H (by simp)
        · rw [if_neg c15] at H
          exact absurd H (by simp)
      · replace c14 := Bool.eq_false_iff.mpr c14
        subst c14
        have H1 : (none) = some r := by rw [if_neg (show ¬ (false = true) by decide)] at H; exact H
        clear H
        have H := H1
        clear H1
        exact absurd H (by simp)
    · replace c12 := Bool.eq_false_iff.mpr c12
      subst c12
      have H1 : (none) = some r := by rw [if_neg (show ¬ (false = true) by decide)] at H; exact H
      clear H
      have H := H1
      clear H1
      exact absurd H (by simp)
end Go.Proofs.Ytnmhnkpijjmhjaa.QFnExactReductionOf
namespace Go.Proofs.Ytnmhnkpijjmhjaa.QS
open Go.Proofs.Ytnmhnkpijjmhjaa.Kp Go.Proofs.Ytnmhnkpijjmhjaa.Ext Go.RowKit Go.Proofs.YtnmhnkpijjmhjaaW.PrintWords Go.Proofs.YtnmhnkpijjmhjaaW.PrintLast Go.Proofs.YtnmhnkpijjmhjaaW.PrintMore
attribute [local go_sem] max2_int min2_int max_two min_two max_three min_three max_four min_four   -- for this text's walks alone
set_option linter.unusedVariables false
set_option linter.unusedSimpArgs false
end Go.Proofs.Ytnmhnkpijjmhjaa.QS
namespace Go.Proofs.Ytnmhnkpijjmhjaa.Pu
set_option linter.unusedVariables false
set_option linter.unusedSimpArgs false
open Go.RowKit Go.Proofs.Ytnmhnkpijjmhjaa.QS Go.Proofs.YtnmhnkpijjmhjaaW.PrintWords Go.Proofs.YtnmhnkpijjmhjaaW.PrintLast Go.Proofs.YtnmhnkpijjmhjaaW.PrintMore
theorem w64 {x : Int} (h1 : -9223372036854775808 ≤ x) (h2 : x ≤ 9223372036854775807) : wrap64 x = x := by unfold wrap64; omega
theorem rd_at {l : List Int} {i : Nat} (h : i < l.length) : rd l (i : Int) = l[i] := by simp [rd, List.getD_eq_getElem?_getD, List.getElem?_eq_getElem h]
theorem sz_big {n : Int} {l : List Int} (hm : l.length ≤ maxLen) (h : 1048576 < l.length) : laws_szComplex.f n l 1048576 = some (-1) := by
  unfold laws_szComplex.f laws_szInt64S.f
  simp only [maxLen] at hm
  rw [w64 (by omega) (by omega), if_pos (by omega)]
  rfl
theorem sz_ok {n : Int} {l : List Int} (h : l.length ≤ 1048576) : ∃ t, laws_szComplex.f n l 1048576 = some t ∧ ¬ t < 0 := by
  unfold laws_szComplex.f laws_szInt64S.f
  rw [w64 (by omega) (by omega), if_neg (by omega)]
  refine ⟨1048576 - l.length, ?_, by omega⟩
  simp only [Option.bind_some]
  rw [if_neg (by omega)]
theorem toInt_loop (l : List Int) (hl : l.length ≤ 1048576) : ∀ d (i : Nat) (x3 : List Int) k, l.length - i = d → d < k → i ≤ l.length → x3.length = l.length → (∀ j, j < i → x3[j]? = l[j]?) → laws_toInt64S.l0 k l x3 i = some l := by
  intro d
  induction d with
  | zero =>
    intro i x3 k hd hk hi hx hj
    obtain ⟨k, rfl⟩ : ∃ m, k = m + 1 := ⟨k - 1, by omega⟩
    simp only [laws_toInt64S.l0]
    rw [if_neg (by omega)]
    congr 1
    apply List.ext_getElem?
    intro j
    rcases Nat.lt_or_ge j i with h | h
    · exact hj j h
    · rw [List.getElem?_eq_none (by omega), List.getElem?_eq_none (by omega)]
  | succ d ih =>
    intro i x3 k hd hk hi hx hj
    obtain ⟨k, rfl⟩ : ∃ m, k = m + 1 := ⟨k - 1, by omega⟩
    simp only [laws_toInt64S.l0]
    rw [if_pos (by omega), if_pos (by omega), if_pos (by omega), w64 (by omega) (by omega)]
    refine ih (i + 1) _ k (by omega) (by omega) (by omega) (by simpa using hx) (fun j hji => ?_)
    rw [Int.toNat_natCast, List.getElem?_set]
    split
    · rename_i h
      subst h
      rw [if_pos (by omega), rd_at (by omega), List.getElem?_eq_getElem (by omega)]
    · exact hj j (by omega)
theorem ev_toInt {l : List Int} (hl : l.length ≤ 1048576) : Ev (fun k => laws_toInt64S.f k l) l := by
  refine ⟨l.length + 1, fun k hk => ?_⟩
  dsimp only
  unfold laws_toInt64S.f
  rw [if_pos (by omega), if_pos (by omega)]
  exact toInt_loop l hl l.length 0 _ k (by omega) (by omega) (by omega) (by simp) (fun j hj => absurd hj (Nat.not_lt_zero _))
theorem ev_toComplex {n : Int} {l : List Int} (hl : l.length ≤ 1048576) : Ev (fun k => laws_toComplex.f k n l) (n, l) := by
  unfold laws_toComplex.f
  exact Ev.bind (f := fun _ t => some (n, t)) (ev_toInt hl) (Ev.now _)
theorem eqInt_loop (l : List Int) (hl : l.length ≤ 1048576) : ∀ d (i : Nat) k, l.length - i = d → d < k → i ≤ l.length → laws_eqInt64S.l0 k l l i = some true := by
  intro d
  induction d with
  | zero =>
    intro i k hd hk hi
    obtain ⟨k, rfl⟩ : ∃ m, k = m + 1 := ⟨k - 1, by omega⟩
    simp only [laws_eqInt64S.l0]
    rw [if_neg (by omega)]
  | succ d ih =>
    intro i k hd hk hi
    obtain ⟨k, rfl⟩ : ∃ m, k = m + 1 := ⟨k - 1, by omega⟩
    simp only [laws_eqInt64S.l0]
    rw [if_pos (by omega), if_pos (by omega), if_pos (by omega), if_pos trivial, w64 (by omega) (by omega)]
    exact ih (i + 1) k (by omega) (by omega) (by omega)
theorem ev_eqInt {l : List Int} (hl : l.length ≤ 1048576) : Ev (fun k => laws_eqInt64S.f k l l) true := by
  refine ⟨l.length + 1, fun k hk => ?_⟩
  dsimp only
  unfold laws_eqInt64S.f
  rw [if_pos rfl]
  exact eqInt_loop l hl l.length 0 k (by omega) (by omega) (by omega)
theorem ev_eqComplex {n : Int} {l : List Int} (hl : l.length ≤ 1048576) : Ev (fun k => laws_eqComplex.f k n l n l) true := by
  unfold laws_eqComplex.f
  simp only [if_true]
  exact Ev.bind (f := fun _ t => if t = true then some true else some false) (ev_eqInt hl) (by simp only [if_true]; exact Ev.now _)
def marks (m : Nat) (a : Int) : List Int := (List.range m).map fun j : Nat => a + (j : Int)
theorem marks_len (m : Nat) (a : Int) : (marks m a).length = m := by simp [marks]
theorem marks_at {m : Nat} {a : Int} {j : Nat} (h : j < m) : (marks m a)[j]? = some (a + (j : Int)) := by simp [marks, h]
theorem mark_loop (n : Nat) (hl : n ≤ 1048576) (a : Int) (ha : 0 ≤ a ∧ a ≤ 1073741824) : ∀ d (i : Nat) (x0 : List Int) k, n - i = d → d < k → i ≤ n → x0.length = n → (∀ j, j < i → x0[j]? = some (a + (j : Int))) → laws_markInt64S.l0 k x0 (a + (i : Int)) i = some (a + (n : Int), marks n a) := by
  intro d
  induction d with
  | zero =>
    intro i x0 k hd hk hi hx hj
    obtain ⟨k, rfl⟩ : ∃ m, k = m + 1 := ⟨k - 1, by omega⟩
    simp only [laws_markInt64S.l0]
    rw [if_neg (by omega), show i = n by omega]
    congr 2
    apply List.ext_getElem?
    intro j
    rcases Nat.lt_or_ge j n with h | h
    · rw [hj j (by omega), marks_at h]
    · rw [List.getElem?_eq_none (by omega), List.getElem?_eq_none (by rw [marks_len]; omega)]
  | succ d ih =>
    intro i x0 k hd hk hi hx hj
    obtain ⟨k, rfl⟩ : ∃ m, k = m + 1 := ⟨k - 1, by omega⟩
    simp only [laws_markInt64S.l0]
    rw [if_pos (by omega), if_pos (by omega), w64 (by omega) (by omega), w64 (by omega) (by omega)]
    have := ih (i + 1) (x0.set (i : Int).toNat (a + i)) k (by omega) (by omega) (by omega) (by simpa using hx) (fun j hji => ?_)
    · rw [show ((i + 1 : Nat) : Int) = (i : Int) + 1 by omega, show a + ((i : Int) + 1) = a + (i : Int) + 1 by omega] at this
      exact this
    · rw [Int.toNat_natCast, List.getElem?_set]
      split
      · rename_i h
        subst h
        rw [if_pos (by omega)]
      · exact hj j (by omega)
theorem ev_mark {l : List Int} (hl : l.length ≤ 1048576) {a : Int} (ha : 0 ≤ a ∧ a ≤ 1073741824) : Ev (fun k => laws_markInt64S.f k l a) (a + (l.length : Int), marks l.length a) := by
  refine ⟨l.length + 1, fun k hk => ?_⟩
  dsimp only
  unfold laws_markInt64S.f
  have := mark_loop l.length hl a ha l.length 0 l k (by omega) (by omega) (by omega) rfl (fun j hj => absurd hj (Nat.not_lt_zero _))
  rw [show a + ((0 : Nat) : Int) = a by omega] at this
  exact this
theorem ev_markComplex {n : Int} {l : List Int} (hl : l.length ≤ 1048576) {a : Int} (ha : 0 ≤ a ∧ a ≤ 1073741824) : Ev (fun k => laws_markComplex.f k n l a) (a + (l.length : Int), marks l.length a) := by
  unfold laws_markComplex.f
  exact Ev.bind (f := fun _ t => some (t.1, t.2)) (ev_mark hl ha) (Ev.now _)
theorem held_loop (n : Nat) (hl : n ≤ 1048576) (a : Int) (ha : 0 ≤ a ∧ a ≤ 1073741824) : ∀ d (i : Nat) k, n - i = d → d < k → i ≤ n → laws_heldInt64S.l0 k (marks n a) (a + (i : Int)) i = some (a + (n : Int)) := by
  intro d
  induction d with
  | zero =>
    intro i k hd hk hi
    obtain ⟨k, rfl⟩ : ∃ m, k = m + 1 := ⟨k - 1, by omega⟩
    simp only [laws_heldInt64S.l0]
    rw [marks_len, if_neg (by omega), show i = n by omega]
  | succ d ih =>
    intro i k hd hk hi
    obtain ⟨k, rfl⟩ : ∃ m, k = m + 1 := ⟨k - 1, by omega⟩
    simp only [laws_heldInt64S.l0]
    have h0 : rd (marks n a) (i : Int) = a + (i : Int) := by
      rw [rd_at (by rw [marks_len]; omega)]
      have := marks_at (m := n) (a := a) (j := i) (by omega)
      rw [List.getElem?_eq_getElem (by rw [marks_len]; omega)] at this
      exact Option.some.inj this
    rw [marks_len, if_pos (by omega), if_pos (by omega), if_pos h0, w64 (by omega) (by omega), w64 (by omega) (by omega)]
    have := ih (i + 1) k (by omega) (by omega) (by omega)
    rw [show ((i + 1 : Nat) : Int) = (i : Int) + 1 by omega, show a + ((i : Int) + 1) = a + (i : Int) + 1 by omega] at this
    exact this
theorem ev_held {n : Nat} (hl : n ≤ 1048576) {a : Int} (ha : 0 ≤ a ∧ a ≤ 1073741824) : Ev (fun k => laws_heldInt64S.f k (marks n a) a) (a + (n : Int)) := by
  refine ⟨n + 1, fun k hk => ?_⟩
  dsimp only
  unfold laws_heldInt64S.f
  have := held_loop n hl a ha n 0 k (by omega) (by omega) (by omega)
  rw [show a + ((0 : Nat) : Int) = a by omega] at this
  exact this
end Go.Proofs.Ytnmhnkpijjmhjaa.Pu
namespace Go.Proofs.Ytnmhnkpijjmhjaa.Pu
set_option linter.unusedVariables false
set_option linter.unusedSimpArgs false
open Go.RowKit Go.Proofs.Ytnmhnkpijjmhjaa.QS Go.Proofs.Ytnmhnkpijjmhjaa.Im Go.Proofs.YtnmhnkpijjmhjaaW.PrintWords Go.Proofs.YtnmhnkpijjmhjaaW.PrintLast Go.Proofs.YtnmhnkpijjmhjaaW.PrintMore
theorem in_eq (a b c : Int) : spec_l01In.f a b c = some (withinB a b c) := by
  unfold spec_l01In.f withinB
  by_cases h : a ≥ b
  · rw [if_pos h, decide_eq_true (show b ≤ a by omega)]; rfl
  · rw [if_neg h, decide_eq_false (show ¬ b ≤ a by omega)]; rfl
theorem all_eq {n : Int} (h1 : 1 ≤ n) (h6 : n ≤ 6) : spec_l01All.f n = some (fullZ n) := by
  obtain rfl | rfl | rfl | rfl | rfl | rfl : n = 1 ∨ n = 2 ∨ n = 3 ∨ n = 4 ∨ n = 5 ∨ n = 6 := by omega
  all_goals decide +kernel
theorem below_all : ((List.range 64).all fun f => f == 0 || spec_l01Below.f 70 (f : Int) == some (bordersL (f : Int))) = true := by decide +kernel
theorem ev_below {f : Int} (h1 : 1 ≤ f) (h2 : f ≤ 63) : Ev (fun k => spec_l01Below.f k f) (bordersL f) := by
  obtain ⟨m, rfl⟩ := Int.eq_ofNat_of_zero_le (show 0 ≤ f by omega)
  have h := List.all_eq_true.1 below_all m (List.mem_range.2 (by omega))
  have h0 : (m == 0) = false := by simp; omega
  rw [h0, Bool.false_or] at h
  exact Ev.of (fun k => spec_l01Below.mono _ k) (k := 70) (by simpa using h)
theorem has_loop (n x : Int) (l : List Int) (hl : l.length ≤ maxLen) : ∀ d (i : Nat) k, l.length - i = d → d < k → i ≤ l.length → spec_l01Has.l0 k x i n l = some (decide (x ∈ l.drop i)) := by
  simp only [maxLen] at hl
  intro d
  induction d with
  | zero =>
    intro i k hd hk hi
    obtain ⟨k, rfl⟩ : ∃ m, k = m + 1 := ⟨k - 1, by omega⟩
    simp only [spec_l01Has.l0]
    rw [if_neg (by omega), List.drop_eq_nil_of_le (by omega)]
    rfl
  | succ d ih =>
    intro i k hd hk hi
    obtain ⟨k, rfl⟩ : ∃ m, k = m + 1 := ⟨k - 1, by omega⟩
    simp only [spec_l01Has.l0]
    rw [if_pos (by omega), if_pos (by omega), rd_at (show i < l.length by omega), List.drop_eq_getElem_cons (show i < l.length by omega)]
    by_cases hx : l[i] = x
    · rw [if_pos hx, hx]; simp
    · rw [if_neg hx, w64 (by omega) (by omega)]
      have := ih (i + 1) k (by omega) (by omega) (by omega)
      rw [show ((i + 1 : Nat) : Int) = (i : Int) + 1 by omega] at this
      rw [this]
      exact congrArg some (decide_eq_decide.2 ⟨fun h => List.mem_cons.2 (Or.inr h), fun h => (List.mem_cons.1 h).resolve_left (Ne.symm hx)⟩)
theorem ev_has {l : List Int} (hl : l.length ≤ maxLen) (n x : Int) : Ev (fun k => spec_l01Has.f k n l x) (decide (x ∈ l)) := by
  refine ⟨l.length + 1, fun k hk => ?_⟩
  dsimp only
  unfold spec_l01Has.f
  have := has_loop n x l hl l.length 0 k (by omega) (by omega) (by omega)
  rwa [List.drop_zero] at this
theorem is_l2 (n : Int) (l b : List Int) (hl : l.length ≤ maxLen) (hb : b.length ≤ maxLen) (x4 : Int) (R : Bool) (hR : Ev (fun k => spec_l01Is.l1 k (wrap64 (x4 + 1)) n l) R) :
    ∀ d (j : Nat), b.length - j = d → j ≤ b.length → Ev (fun k => spec_l01Is.l2 k x4 b j n l) (((b.drop j).all fun y => decide (y ∈ l)) && R) := by
  simp only [maxLen] at hb
  intro d
  induction d with
  | zero =>
    intro j hd hj
    refine Ev.step (f := fun k => spec_l01Is.l1 k (wrap64 (x4 + 1)) n l) (fun k => ?_) ?_
    · simp only [spec_l01Is.l2]; rw [if_neg (by omega)]
    · rw [List.drop_eq_nil_of_le (by omega)]; exact hR
  | succ d ih =>
    intro j hd hj
    refine Ev.step (f := fun k => (spec_l01Has.f k n l b[j]).bind fun t => if t = true then spec_l01Is.l2 k x4 b ((j + 1 : Nat) : Int) n l else some false) (fun k => ?_) ?_
    · simp only [spec_l01Is.l2]
      rw [if_pos (by omega), if_pos (by omega), rd_at (show j < b.length by omega), w64 (by omega) (by omega), show ((j + 1 : Nat) : Int) = (j : Int) + 1 by omega]
    · refine Ev.bind (ev_has hl n b[j]) ?_
      rw [List.drop_eq_getElem_cons (show j < b.length by omega), List.all_cons]
      by_cases hm : b[j] ∈ l
      · rw [decide_eq_true hm]
        simp only [if_true, Bool.true_and]
        exact ih (j + 1) (by omega) (by omega)
      · rw [decide_eq_false hm]
        simp only [Bool.false_and]
        exact Ev.now _
theorem borders_len6 {f : Int} : (bordersL f).length ≤ 6 := by
  unfold bordersL
  refine Nat.le_trans (bordersOf_len _ _) ?_
  rw [upto_length]
  exact verts_len f
theorem is_l1 (n : Int) (l : List Int) (hl : l.length ≤ maxLen) (hr : ∀ x ∈ l, 1 ≤ x ∧ x ≤ 63) :
    ∀ d (i : Nat), l.length - i = d → i ≤ l.length → Ev (fun k => spec_l01Is.l1 k i n l) ((l.drop i).all fun f => (bordersL f).all fun y => decide (y ∈ l)) := by
  have hl' := hl
  simp only [maxLen] at hl'
  intro d
  induction d with
  | zero =>
    intro i hd hi
    refine Ev.step (f := fun k => some true) (fun k => ?_) ?_
    · simp only [spec_l01Is.l1]; rw [if_neg (by omega)]
    · rw [List.drop_eq_nil_of_le (by omega)]; exact Ev.now _
  | succ d ih =>
    intro i hd hi
    have hi' : i < l.length := by omega
    refine Ev.step (f := fun k => (spec_l01Below.f k l[i]).bind fun t => spec_l01Is.l2 k i t 0 n l) (fun k => ?_) ?_
    · simp only [spec_l01Is.l1]
      rw [if_pos (by omega), if_pos (by omega), rd_at hi']
    · have hx := hr l[i] (List.getElem_mem hi')
      refine Ev.bind (ev_below hx.1 hx.2) ?_
      have h1 := ih (i + 1) (by omega) (by omega)
      rw [show ((i + 1 : Nat) : Int) = wrap64 ((i : Int) + 1) by rw [w64 (by omega) (by omega)]; omega] at h1
      have h2 := is_l2 n l (bordersL l[i]) hl (by have := @borders_len6 l[i]; simp only [maxLen]; omega) i _ h1 _ 0 rfl (Nat.zero_le _)
      rw [List.drop_zero] at h2
      rw [List.drop_eq_getElem_cons hi', List.all_cons]
      exact h2
theorem is_l0 (n : Int) (h1 : 1 ≤ n) (h6 : n ≤ 6) (l : List Int) (hl : l.length ≤ maxLen) :
    ∀ d (i : Nat), l.length - i = d → i ≤ l.length → (∀ j, j < i → okAt n l j = true) → Ev (fun k => spec_l01Is.l0 k i n l) (ascB n l && closedB l) := by
  have hl' := hl
  simp only [maxLen] at hl'
  have hF := fullZ_le h1 h6
  intro d
  induction d with
  | zero =>
    intro i hd hi hj
    refine Ev.step (f := fun k => spec_l01Is.l1 k 0 n l) (fun k => ?_) ?_
    · simp only [spec_l01Is.l0]; rw [if_neg (by omega)]
    · have ha : ∀ j, j < l.length → okAt n l j = true := fun j h => hj j (by omega)
      rw [ascB_yes ha, Bool.true_and]
      have hr : ∀ x ∈ l, 1 ≤ x ∧ x ≤ 63 := by
        intro x hx
        obtain ⟨j, hj', rfl⟩ := List.mem_iff_getElem.1 hx
        have := ha j hj'
        simp only [okAt, withinB, Bool.and_eq_true, decide_eq_true_eq, List.getElem?_eq_getElem hj', Option.getD_some] at this
        omega
      have := is_l1 n l hl hr l.length 0 (by omega) (Nat.zero_le _)
      rw [List.drop_zero] at this
      exact this
  | succ d ih =>
    intro i hd hi hj
    have hi' : i < l.length := by omega
    refine Ev.step (f := fun k => if okAt n l i = true then spec_l01Is.l0 k ((i + 1 : Nat) : Int) n l else some false) (fun k => ?_) ?_
    · simp only [spec_l01Is.l0]
      rw [if_pos (by omega), if_pos (by omega), all_eq h1 h6]
      simp only [Option.bind_some, in_eq, rd_at hi']
      have hg : l[i]?.getD 0 = l[i] := by rw [List.getElem?_eq_getElem hi']; rfl
      unfold okAt
      rw [hg]
      rw [show wrap64 ((i : Int) + 1) = ((i + 1 : Nat) : Int) by rw [w64 (by omega) (by omega)]; omega]
      cases hw : withinB l[i] 1 (fullZ n) with
      | false => simp
      | true =>
        simp only [if_true, Bool.true_and]
        rcases Nat.eq_zero_or_pos i with hz | hz
        · subst hz; simp
        · have hp : l[i - 1]?.getD 0 = l[i - 1] := by rw [List.getElem?_eq_getElem (by omega)]; rfl
          have hb : (i == 0) = false := by simp; omega
          rw [if_pos (by omega), w64 (by omega) (by omega), if_pos (by omega), if_pos (by omega), hp, hb, Bool.false_or, show ((i : Int) - 1) = ((i - 1 : Nat) : Int) by omega, rd_at (show i - 1 < l.length by omega)]
          by_cases hle : l[i] ≤ l[i - 1]
          · rw [if_pos hle, decide_eq_false (by omega)]; simp
          · rw [if_neg hle, decide_eq_true (by omega)]; simp
    · cases ho : okAt n l i with
      | true =>
        simp only [if_true]
        exact ih (i + 1) (by omega) (by omega) (okAt_next hj ho)
      | false =>
        rw [ascB_no hi' ho]
        simp only [Bool.false_and]
        exact Ev.now _
/-- IsComplex, the reference's. -/
theorem ev_is (n : Int) {l : List Int} (hl : l.length ≤ maxLen) : Ev (fun k => spec_l01Is.f k n l) (isC n l) := by
  unfold spec_l01Is.f isC
  simp only [in_eq, Option.bind_some]
  cases hw : withinB n 1 6 with
  | false => simp only [Bool.false_and]; exact Ev.now _
  | true =>
    simp only [if_true, Bool.true_and]
    have hn : 1 ≤ n ∧ n ≤ 6 := by simpa [withinB] using hw
    exact is_l0 n hn.1 hn.2 l hl l.length 0 (by omega) (Nat.zero_le _) (fun j hj => absurd hj (Nat.not_lt_zero _))
end Go.Proofs.Ytnmhnkpijjmhjaa.Pu
namespace Go.Proofs.Ytnmhnkpijjmhjaa.QS
open Go.Proofs.Ytnmhnkpijjmhjaa.Kp Go.Proofs.Ytnmhnkpijjmhjaa.Ext Go.RowKit Go.Proofs.YtnmhnkpijjmhjaaW.PrintWords Go.Proofs.YtnmhnkpijjmhjaaW.PrintLast Go.Proofs.YtnmhnkpijjmhjaaW.PrintMore
attribute [local go_sem] max2_int min2_int max_two min_two max_three min_three max_four min_four   -- for this text's walks alone
set_option linter.unusedVariables false
set_option linter.unusedSimpArgs false
end Go.Proofs.Ytnmhnkpijjmhjaa.QS
namespace Go.Proofs.Ytnmhnkpijjmhjaa.QS
open Go.Proofs.Ytnmhnkpijjmhjaa.Kp Go.Proofs.Ytnmhnkpijjmhjaa.Ext Go.RowKit Go.Proofs.YtnmhnkpijjmhjaaW.PrintWords Go.Proofs.YtnmhnkpijjmhjaaW.PrintLast Go.Proofs.YtnmhnkpijjmhjaaW.PrintMore
attribute [local go_sem] max2_int min2_int max_two min_two max_three min_three max_four min_four   -- for this text's walks alone
set_option linter.unusedVariables false
set_option linter.unusedSimpArgs false
end Go.Proofs.Ytnmhnkpijjmhjaa.QS
namespace Go.Proofs.Ytnmhnkpijjmhjaa.Pu
set_option linter.unusedVariables false
set_option linter.unusedSimpArgs false
open Go.RowKit Go.Proofs.Ytnmhnkpijjmhjaa.QS Go.Proofs.Ytnmhnkpijjmhjaa.Im Go.Proofs.YtnmhnkpijjmhjaaW.PrintWords Go.Proofs.YtnmhnkpijjmhjaaW.PrintLast Go.Proofs.YtnmhnkpijjmhjaaW.PrintMore
theorem ones_all : ((List.range 64).all fun f => spec_l01Ones.f 8 (f : Int) == some (onesZ (f : Int))) = true := by decide +kernel
theorem ev_ones {x : Int} (h0 : 0 ≤ x) (h6 : x ≤ 63) : Ev (fun k => spec_l01Ones.f k x) (onesZ x) := by
  obtain ⟨m, rfl⟩ := Int.eq_ofNat_of_zero_le h0
  exact Ev.of (fun k => spec_l01Ones.mono _ k) (eq_of_beq (List.all_eq_true.1 ones_all m (List.mem_range.2 (by omega))))
theorem ones_le (x : Int) : 0 ≤ onesZ x ∧ onesZ x ≤ 6 := by
  have : (verts x).length ≤ 6 := verts_len x
  unfold onesZ; omega
end Go.Proofs.Ytnmhnkpijjmhjaa.Pu
namespace Go.Proofs.Ytnmhnkpijjmhjaa.QS
open Go.Proofs.Ytnmhnkpijjmhjaa.Kp Go.Proofs.Ytnmhnkpijjmhjaa.Ext Go.RowKit Go.Proofs.YtnmhnkpijjmhjaaW.PrintWords Go.Proofs.YtnmhnkpijjmhjaaW.PrintLast Go.Proofs.YtnmhnkpijjmhjaaW.PrintMore
attribute [local go_sem] max2_int min2_int max_two min_two max_three min_three max_four min_four   -- for this text's walks alone
set_option linter.unusedVariables false
set_option linter.unusedSimpArgs false
end Go.Proofs.Ytnmhnkpijjmhjaa.QS
namespace Go.Proofs.Ytnmhnkpijjmhjaa.Pu
set_option linter.unusedVariables false
set_option linter.unusedSimpArgs false
open Go.RowKit Go.Proofs.Ytnmhnkpijjmhjaa.QS Go.Proofs.Ytnmhnkpijjmhjaa.Im Go.Proofs.YtnmhnkpijjmhjaaW.PrintWords Go.Proofs.YtnmhnkpijjmhjaaW.PrintLast Go.Proofs.YtnmhnkpijjmhjaaW.PrintMore
theorem ev_dim {n : Int} {l : List Int} (hi : isC n l = true) : Ev (fun k => spec_l01Dim.f k n l) (dimL l) := by
  have hl := isC_len hi
  have hr := isC_63 hi
  have key : ∀ d (i : Nat) (a : Int), l.length - i = d → i ≤ l.length → Ev (fun k => spec_l01Dim.l0 k a i n l) ((l.drop i).foldl (fun a x => max a (onesZ x - 1)) a) := by
    intro d
    induction d with
    | zero =>
      intro i a hd hi
      rw [List.drop_eq_nil_of_le (by omega)]
      refine Ev.step (f := fun k => some a) (fun k => ?_) (Ev.now _)
      simp only [spec_l01Dim.l0]; rw [if_neg (by omega)]
    | succ d ih =>
      intro i a hd hi
      have hi' : i < l.length := by omega
      have hx := hr _ (List.getElem_mem hi')
      have h1 := ones_le l[i]
      rw [List.drop_eq_getElem_cons hi', List.foldl_cons]
      refine Ev.step (f := fun k => (spec_l01Ones.f k l[i]).bind fun t320 => (spec_l01Dim.l0 k (mx a (wrap64 (t320 - 1))) ((i + 1 : Nat) : Int) n l)) (fun k => ?_) ?_
      · simp only [spec_l01Dim.l0]
        rw [if_pos (by omega), if_pos (by omega), rd_at hi', show wrap64 ((i : Int) + 1) = ((i + 1 : Nat) : Int) by rw [w64 (by omega) (by omega)]; omega]
      · refine Ev.bind (ev_ones (by omega) (by omega)) ?_
        rw [w64 (by omega) (by omega), show mx a (onesZ l[i] - 1) = max a (onesZ l[i] - 1) by unfold mx; split <;> omega]
        exact ih (i + 1) _ (by omega) (by omega)
  exact key _ 0 (-1) rfl (Nat.zero_le _)
theorem ev_ofZ {n : Int} {l : List Int} (hi : isC n l = true) (j : Int) (hj : -10 ≤ j ∧ j ≤ 100) : Ev (fun k => spec_l01Of.f k n l j) (ofL l j) := by
  have hl := isC_len hi
  have hr := isC_63 hi
  have key : ∀ d (i : Nat) (acc : List Int), l.length - i = d → i ≤ l.length → acc.length ≤ i → Ev (fun k => spec_l01Of.l0 k j acc i n l) (acc ++ (l.drop i).filter fun x => onesZ x - 1 == j) := by
    intro d
    induction d with
    | zero =>
      intro i acc hd hi ha
      rw [List.drop_eq_nil_of_le (by omega), List.filter_nil, List.append_nil]
      refine Ev.step (f := fun k => some acc) (fun k => ?_) (Ev.now _)
      simp only [spec_l01Of.l0]; rw [if_neg (by omega)]
    | succ d ih =>
      intro i acc hd hi ha
      have hi' : i < l.length := by omega
      have hx := hr _ (List.getElem_mem hi')
      have hwj : wrap64 (j + 1) = j + 1 := w64 (by omega) (by omega)
      rw [List.drop_eq_getElem_cons hi']
      refine Ev.step (f := fun k => (spec_l01Ones.f k l[i]).bind fun t326 => (if t326 = j + 1 then (spec_l01Of.l0 k j (acc ++ [l[i]]) ((i + 1 : Nat) : Int) n l) else (spec_l01Of.l0 k j acc ((i + 1 : Nat) : Int) n l))) (fun k => ?_) ?_
      · simp only [spec_l01Of.l0]
        rw [if_pos (by omega), if_pos (by omega), rd_at hi', show wrap64 ((i : Int) + 1) = ((i + 1 : Nat) : Int) by rw [w64 (by omega) (by omega)]; omega, hwj]
        simp only [if_pos (show acc.length < 17592186044416 by omega)]
      · refine Ev.bind (ev_ones (by omega) (by omega)) ?_
        by_cases ho : onesZ l[i] = j + 1
        · simp only [if_pos ho]
          rw [List.filter_cons_of_pos (by simp [ho])]
          have := ih (i + 1) (acc ++ [l[i]]) (by omega) (by omega) (by rw [List.length_append]; simp; omega)
          rw [List.append_assoc] at this
          exact this
        · simp only [if_neg ho]
          rw [List.filter_cons_of_neg (by simp; omega)]
          exact ih (i + 1) acc (by omega) (by omega) (by omega)
  have := key _ 0 [] rfl (Nat.zero_le _) (by simp)
  rw [List.drop_zero, List.nil_append] at this
  exact this
end Go.Proofs.Ytnmhnkpijjmhjaa.Pu
namespace Go.Proofs.Ytnmhnkpijjmhjaa.QS
open Go.Proofs.Ytnmhnkpijjmhjaa.Kp Go.Proofs.Ytnmhnkpijjmhjaa.Ext Go.RowKit Go.Proofs.YtnmhnkpijjmhjaaW.PrintWords Go.Proofs.YtnmhnkpijjmhjaaW.PrintLast Go.Proofs.YtnmhnkpijjmhjaaW.PrintMore
attribute [local go_sem] max2_int min2_int max_two min_two max_three min_three max_four min_four   -- for this text's walks alone
set_option linter.unusedVariables false
set_option linter.unusedSimpArgs false
end Go.Proofs.Ytnmhnkpijjmhjaa.QS
namespace Go.Proofs.Ytnmhnkpijjmhjaa.Pu
set_option linter.unusedVariables false
set_option linter.unusedSimpArgs false
open Go.RowKit Go.Proofs.Ytnmhnkpijjmhjaa.QS Go.Proofs.Ytnmhnkpijjmhjaa.Im Go.Proofs.YtnmhnkpijjmhjaaW.PrintWords Go.Proofs.YtnmhnkpijjmhjaaW.PrintLast Go.Proofs.YtnmhnkpijjmhjaaW.PrintMore
def freeR : Int → List Int → Int
  | q, [] => q
  | q, y :: r => if q > 0 then 0 else freeR y r
theorem free_loop (n v : Int) (l : List Int) (hl : l.length ≤ 64) : ∀ d (i : Nat) (q : Int), l.length - i = d → i ≤ l.length →
    Ev (fun k => spec_l05Free.l0 k v q i n l) (freeR q ((l.drop i).filter (upP v))) := by
  intro d
  induction d with
  | zero =>
    intro i q hd hi
    rw [List.drop_eq_nil_of_le (by omega), List.filter_nil]
    refine Ev.step (f := fun k => some q) (fun k => ?_) (Ev.now _)
    simp only [spec_l05Free.l0]; rw [if_neg (by omega)]
  | succ d ih =>
    intro i q hd hi
    have hi' : i < l.length := by omega
    have hn := ih (i + 1)
    rw [List.drop_eq_getElem_cons hi']
    have hw : wrap64 ((i : Int) + 1) = ((i + 1 : Nat) : Int) := by rw [w64 (by omega) (by omega)]; omega
    have h0 : Ev (fun k => spec_l05Free.j1 k v q i (upP v l[i]) n l) (freeR q ((l[i] :: l.drop (i + 1)).filter (upP v))) := by
      cases hu : upP v l[i] with
      | false =>
        rw [List.filter_cons_of_neg (by simp [hu])]
        refine Ev.step (f := fun k => spec_l05Free.l0 k v q ((i + 1 : Nat) : Int) n l) (fun k => ?_) (hn q (by omega) (by omega))
        simp only [spec_l05Free.j1]; rw [hw]; rfl
      | true =>
        rw [List.filter_cons_of_pos (by simp [hu]), freeR]
        by_cases hq : q > 0
        · rw [if_pos hq]
          refine Ev.step (f := fun k => some 0) (fun k => ?_) (Ev.now _)
          simp only [spec_l05Free.j1]; rw [if_pos trivial, if_pos hq]
        · rw [if_neg hq]
          refine Ev.step (f := fun k => spec_l05Free.l0 k v l[i] ((i + 1 : Nat) : Int) n l) (fun k => ?_) (hn l[i] (by omega) (by omega))
          simp only [spec_l05Free.j1]; rw [if_pos trivial, if_neg hq, if_pos (by omega), if_pos (by omega), rd_at hi', hw]
    refine Ev.step (f := fun k => spec_l05Free.j1 k v q i (upP v l[i]) n l) (fun k => ?_) h0
    simp only [spec_l05Free.l0]
    rw [if_pos (by omega), if_pos (by omega), rd_at hi']
    unfold upP
    by_cases hc : Go.bits .and .i64 l[i] v = v
    · rw [if_pos hc, hc]; first | rfl | simp
    · rw [if_neg hc, show (Go.bits .and .i64 l[i] v == v) = false from beq_eq_false_iff_ne.2 hc]; rfl
theorem ev_free {n v : Int} {l : List Int} (h : isC n l = true) (hv : v ∈ l) : Ev (fun k => spec_l05Free.f k n l v) (freeR 0 (aroundL l v)) := by
  have := free_loop n v l (isC_len h) _ 0 0 rfl (Nat.zero_le _)
  rw [List.drop_zero, ← around_up h hv] at this
  exact this
theorem freeR_one {M : List Int} (hp : ∀ x ∈ M, 0 < x) : freeR 0 M = if (M.length : Int) = 1 then M[0]?.getD 0 else 0 := by
  match M, hp with
  | [], _ => rfl
  | [y], _ => rfl
  | y :: z :: r, hp =>
    have := hp y (by simp)
    simp only [freeR, List.length_cons]
    rw [if_neg (by omega), if_pos this, if_neg (by omega)]
theorem around_pos {n v : Int} {l : List Int} (h : isC n l = true) : ∀ x ∈ aroundL l v, 0 < x := fun x hx => by
  have := isC_range h x (List.mem_filter.1 hx).1
  omega
end Go.Proofs.Ytnmhnkpijjmhjaa.Pu
namespace Go.Proofs.Ytnmhnkpijjmhjaa.Pu
set_option linter.unusedVariables false
set_option linter.unusedSimpArgs false
open Go.RowKit Go.Proofs.Ytnmhnkpijjmhjaa.QS Go.Proofs.Ytnmhnkpijjmhjaa.Im Go.Proofs.YtnmhnkpijjmhjaaW.PrintWords Go.Proofs.YtnmhnkpijjmhjaaW.PrintLast Go.Proofs.YtnmhnkpijjmhjaaW.PrintMore
theorem take_loop (n c : Int) (l : List Int) (hl : l.length ≤ 64) : ∀ d (i : Nat) (acc : List Int), l.length - i = d → i ≤ l.length → acc.length ≤ 100000 + i →
    Ev (fun k => spec_l01Take.l0 k c i n l n acc) (n, acc ++ (l.drop i).filter (outP c)) := by
  intro d
  induction d with
  | zero =>
    intro i acc hd hi ha
    rw [List.drop_eq_nil_of_le (by omega), List.filter_nil, List.append_nil]
    refine Ev.step (f := fun k => some (n, acc)) (fun k => ?_) (Ev.now _)
    simp only [spec_l01Take.l0]; rw [if_neg (by omega)]
  | succ d ih =>
    intro i acc hd hi ha
    have hi' : i < l.length := by omega
    rw [List.drop_eq_getElem_cons hi']
    by_cases hc : Go.bits .and .i64 l[i] c = c
    · refine Ev.step (f := fun k => spec_l01Take.l0 k c ((i + 1 : Nat) : Int) n l n acc) (fun k => ?_) ?_
      · simp only [spec_l01Take.l0]
        rw [if_pos (by omega), if_pos (by omega), rd_at hi', if_pos hc, w64 (by omega) (by omega), show ((i + 1 : Nat) : Int) = (i : Int) + 1 by omega]
      · rw [List.filter_cons_of_neg (by simp [outP, hc])]
        exact ih (i + 1) acc (by omega) (by omega) (by omega)
    · refine Ev.step (f := fun k => spec_l01Take.l0 k c ((i + 1 : Nat) : Int) n l n (acc ++ [l[i]])) (fun k => ?_) ?_
      · simp only [spec_l01Take.l0]
        rw [if_pos (by omega), if_pos (by omega), rd_at hi', if_neg hc, if_pos (by omega), w64 (by omega) (by omega), show ((i + 1 : Nat) : Int) = (i : Int) + 1 by omega]
      · rw [List.filter_cons_of_pos (by simp [outP, hc])]
        have := ih (i + 1) (acc ++ [l[i]]) (by omega) (by omega) (by rw [List.length_append]; simp; omega)
        rw [List.append_assoc] at this
        exact this
theorem ev_take {n : Int} {l : List Int} (h : isC n l = true) (c : Int) : Ev (fun k => spec_l01Take.f k n l c) (n, partL n l (outP c)) := by
  have := take_loop n c l (isC_len h) _ 0 [] rfl (Nat.zero_le _) (by simp)
  rw [List.drop_zero, List.nil_append] at this
  rw [partL_eq h]
  exact this
end Go.Proofs.Ytnmhnkpijjmhjaa.Pu
namespace Go.Proofs.Ytnmhnkpijjmhjaa.Pu
set_option linter.unusedVariables false
set_option linter.unusedSimpArgs false
open Go.RowKit Go.Proofs.Ytnmhnkpijjmhjaa.Kp Go.Proofs.Ytnmhnkpijjmhjaa.QS Go.Proofs.Ytnmhnkpijjmhjaa.Im Go.Proofs.YtnmhnkpijjmhjaaW.PrintWords Go.Proofs.YtnmhnkpijjmhjaaW.PrintLast Go.Proofs.YtnmhnkpijjmhjaaW.PrintMore
def firstR (o : Option Pr) : Int × Int × Bool := match o with
  | none => (0, 0, false)
  | some q => (q.f0, q.f1, true)
theorem first_loop {n : Int} {l : List Int} (hi : isC n l = true) (m : Int) {ll : List Int} (hl : ll.length ≤ maxLen) : ∀ d (i : Nat), l.length - i = d → i ≤ l.length →
    Ev (fun k => spec_l05First.l0 k i n l m ll) (firstR (((l.drop i).filterMap (onePr l)).find? (keepQ ll))) := by
  have hs := isC_len hi
  intro d
  induction d with
  | zero =>
    intro i hd hil
    rw [List.drop_eq_nil_of_le (by omega), List.filterMap_nil, List.find?_nil]
    refine Ev.step (f := fun k => some (0, 0, false)) (fun k => ?_) (Ev.now _)
    simp only [spec_l05First.l0]; rw [if_neg (by omega)]
  | succ d ih =>
    intro i hd hil
    have hi' : i < l.length := by omega
    have hw : wrap64 ((i : Int) + 1) = ((i + 1 : Nat) : Int) := by rw [w64 (by omega) (by omega)]; omega
    have hn := ih (i + 1) (by omega) (by omega)
    rw [List.drop_eq_getElem_cons hi']
    have hf := ev_free hi (List.getElem_mem hi')
    rw [freeR_one (around_pos hi)] at hf
    have hpos := around_pos hi (v := l[i])
    refine Ev.step (fun k => ?_) (Ev.bind (f := fun k t => if t > 0 then ((spec_l01Has.f k m ll l[i]).bind fun t379 => (if t379 = true then (spec_l05First.l0 k ((i + 1 : Nat) : Int) n l m ll) else ((spec_l01Has.f k m ll t).bind fun t380 => (if t380 = true then (spec_l05First.l0 k ((i + 1 : Nat) : Int) n l m ll) else (some (l[i], t, true)))))) else spec_l05First.l0 k ((i + 1 : Nat) : Int) n l m ll) hf ?_)
    · simp only [spec_l05First.l0]
      rw [if_pos (by omega), if_pos (by omega), rd_at hi', hw]
    · by_cases h1 : ((aroundL l l[i]).length : Int) = 1
      · have hg : rd (aroundL l l[i]) 0 = (aroundL l l[i])[0]?.getD 0 := by simp [rd, List.getD_eq_getElem?_getD]
        have hp : (aroundL l l[i])[0]?.getD 0 > 0 := by
          have hl0 : 0 < (aroundL l l[i]).length := by omega
          rw [List.getElem?_eq_getElem hl0]
          exact hpos _ (List.getElem_mem hl0)
        obtain ⟨g, hgg⟩ : ∃ g, (aroundL l l[i])[0]?.getD 0 = g := ⟨_, rfl⟩
        rw [hgg] at hg hp ⊢
        have he : onePr l l[i] = some ⟨l[i], g⟩ := by rw [onePr, if_pos h1, hg]
        rw [List.filterMap_cons_some he, if_pos h1]
        simp only [if_pos hp]
        refine Ev.bind (ev_has hl m l[i]) ?_
        by_cases h2 : l[i] ∈ ll
        · rw [List.find?_cons_of_neg (by simp [keepQ, h2])]
          simp only [h2, decide_true, if_true]
          exact hn
        · simp only [h2, decide_false, Bool.false_eq_true, if_false]
          refine Ev.bind (ev_has hl m g) ?_
          by_cases h3 : g ∈ ll
          · rw [List.find?_cons_of_neg (by simp [keepQ, h3])]
            simp only [h3, decide_true, if_true]
            exact hn
          · rw [List.find?_cons_of_pos (by simp [keepQ, h2, h3])]
            simp only [h3, decide_false, Bool.false_eq_true, if_false, firstR]
            exact Ev.now _
      · have he : onePr l l[i] = none := by rw [onePr, if_neg h1]
        rw [List.filterMap_cons_none he, if_neg h1]
        simp only [show ¬ ((0 : Int) > 0) by omega, if_false]
        exact hn
theorem ev_first {n : Int} {l : List Int} (hi : isC n l = true) (m : Int) {ll : List Int} (hl : ll.length ≤ maxLen) : Ev (fun k => spec_l05First.f k n l m ll) (firstR ((freeL l).find? (keepQ ll))) := by
  have := first_loop hi m hl _ 0 rfl (Nat.zero_le _)
  rw [List.drop_zero] at this
  exact this
theorem colR_loop (n m : Int) {ll : List Int} (hl : ll.length ≤ maxLen) : ∀ d (xs : List Int) (acc : List Pr), isC n xs = true → xs.length ≤ d → acc.length + xs.length ≤ 1000 →
    Ev (fun k => spec_l05Collapse.l0 k acc n xs m ll) (n, (colG (keepQ ll) n (d + 1) xs acc).1, (colG (keepQ ll) n (d + 1) xs acc).2) := by
  intro d
  induction d with
  | zero =>
    intro xs acc hi hd ha
    obtain rfl : xs = [] := List.eq_nil_of_length_eq_zero (by omega)
    refine Ev.step (fun k => ?_) (Ev.bind (f := fun k (t : Int × Int × Bool) => if t.2.2 = true then ((spec_l01Take.f k n [] t.1).bind fun bt395 => (if acc.length < 8796093022208 then (spec_l05Collapse.l0 k (acc ++ [⟨t.1, t.2.1⟩]) bt395.1 bt395.2 m ll) else none)) else some (n, [], acc)) (ev_first hi m hl) ?_)
    · simp only [spec_l05Collapse.l0]
    · exact Ev.now _
  | succ d ih =>
    intro xs acc hi hd ha
    refine Ev.step (fun k => ?_) (Ev.bind (f := fun k (t : Int × Int × Bool) => if t.2.2 = true then ((spec_l01Take.f k n xs t.1).bind fun bt395 => (if acc.length < 8796093022208 then (spec_l05Collapse.l0 k (acc ++ [⟨t.1, t.2.1⟩]) bt395.1 bt395.2 m ll) else none)) else some (n, xs, acc)) (ev_first hi m hl) ?_)
    · simp only [spec_l05Collapse.l0]
    · rw [colG]
      cases hq : (freeL xs).find? (keepQ ll) with
      | none => exact Ev.now _
      | some q =>
        obtain ⟨c1, c2, c3⟩ := col_step hi (List.mem_of_find?_eq_some hq)
        simp only [firstR, if_true]
        refine Ev.bind (ev_take hi q.f0) ?_
        rw [← c1]
        simp only [if_pos (show acc.length < 8796093022208 by omega)]
        exact ih _ (acc ++ [q]) c2 (by omega) (by simp; omega)
theorem ev_copy (n : Int) {l : List Int} (h : l.length ≤ 1048576) : spec_l01Copy.f n l = some (n, l) := by
  unfold spec_l01Copy.f spec_l01Own.f
  simp only [Option.bind_some, List.length_nil, List.nil_append]
  rw [if_pos (by omega)]
  rfl
theorem ev_collapseR {n : Int} {l : List Int} (hi : isC n l = true) (m : Int) {ll : List Int} (hl : ll.length ≤ maxLen) :
    Ev (fun k => spec_l05Collapse.f k n l m ll) (n, (colG (keepQ ll) n (l.length + 1) l []).1, (colG (keepQ ll) n (l.length + 1) l []).2) := by
  have hs := isC_len hi
  unfold spec_l05Collapse.f
  rw [ev_copy n (by omega)]
  exact colR_loop n m hl _ l [] hi (Nat.le_refl _) (by simp; omega)
theorem keepQ_nil : keepQ [] = fun _ => true := by
  funext q
  simp [keepQ]
end Go.Proofs.Ytnmhnkpijjmhjaa.Pu
namespace Go.Proofs.Ytnmhnkpijjmhjaa.Pu
set_option linter.unusedVariables false
set_option linter.unusedSimpArgs false
open Go.RowKit Go.Proofs.Ytnmhnkpijjmhjaa.Kp Go.Proofs.Ytnmhnkpijjmhjaa.Ext Go.Proofs.Ytnmhnkpijjmhjaa.QS Go.Proofs.YtnmhnkpijjmhjaaW.PrintWords Go.Proofs.YtnmhnkpijjmhjaaW.PrintLast Go.Proofs.YtnmhnkpijjmhjaaW.PrintMore
theorem eqPair_loop (l : List Pr) (hl : l.length ≤ 1048576) : ∀ d (i : Nat), l.length - i = d → i ≤ l.length → Ev (fun k => laws_eqPairS.l0 k l l i) true := by
  intro d
  induction d with
  | zero =>
    intro i hd hi
    refine Ev.step (f := fun k => some true) (fun k => ?_) (Ev.now _)
    simp only [laws_eqPairS.l0]; rw [if_neg (by omega)]
  | succ d ih =>
    intro i hd hi
    refine Ev.step (fun k => ?_) (ih (i + 1) (by omega) (by omega))
    simp only [laws_eqPairS.l0]
    rw [if_pos (by omega), if_pos (by omega), if_pos (by omega), show wrap64 ((i : Int) + 1) = ((i + 1 : Nat) : Int) by rw [w64 (by omega) (by omega)]; omega]
    simp [laws_eqPair.f]
theorem ev_eqPairs {l : List Pr} (hl : l.length ≤ 1048576) : Ev (fun k => laws_eqPairS.f k l l) true := by
  unfold laws_eqPairS.f
  simp only [if_true]
  exact eqPair_loop l hl _ 0 rfl (Nat.zero_le _)
theorem markL_len (n : Nat) (a : Int) : (markL n a).length = n := by simp [markL]
theorem ev_markPairs {l : List Pr} {a : Int} (hl : l.length ≤ 1048576) (ha : 0 ≤ a ∧ a ≤ 1073741824) : Ev (fun _ => laws_markPairS.f l a) (a + 2 * (l.length : Int), markL l.length a) := by
  unfold laws_markPairS.f
  rw [if_pos ⟨ha.1, ha.2, by omega⟩]
  exact Ev.now _
theorem held_markL (n : Nat) (a : Int) : heldPr (markL n a) a = a + 2 * (n : Int) := by
  rw [heldPr_yes, markL_len]
  intro i hi
  rw [markL_len] at hi
  simp [okPr, markL, markAt, hi, List.getD_eq_getElem?_getD]
theorem ev_heldPairs {n : Nat} {a : Int} (hl : n ≤ 1048576) (ha : 0 ≤ a ∧ a ≤ 1073741824) : Ev (fun _ => laws_heldPairS.f (markL n a) a) (a + 2 * (n : Int)) := by
  unfold laws_heldPairS.f
  rw [if_pos ⟨ha.1, ha.2, by rw [markL_len]; omega⟩, held_markL]
  exact Ev.now _
end Go.Proofs.Ytnmhnkpijjmhjaa.Pu
namespace Go.Proofs.Ytnmhnkpijjmhjaa.Pu
set_option linter.unusedVariables false
set_option linter.unusedSimpArgs false
open Go.RowKit Go.Proofs.Ytnmhnkpijjmhjaa.Kp Go.Proofs.Ytnmhnkpijjmhjaa.QS Go.Proofs.Ytnmhnkpijjmhjaa.Im Go.Proofs.Ytnmhnkpijjmhjaa.Ext Go.Proofs.Ytnmhnkpijjmhjaa.QFnExactReductionOf Go.Proofs.YtnmhnkpijjmhjaaW.PrintWords Go.Proofs.YtnmhnkpijjmhjaaW.PrintLast Go.Proofs.YtnmhnkpijjmhjaaW.PrintMore
theorem col_red (n : Int) : ∀ d (xs : List Int) (acc : List Pr), isC n xs = true → xs.length ≤ d →
    isC n (colG (fun _ => true) n (d + 1) xs acc).1 = true ∧ freeL (colG (fun _ => true) n (d + 1) xs acc).1 = [] ∧
    (colG (fun _ => true) n (d + 1) xs acc).2.length + (colG (fun _ => true) n (d + 1) xs acc).1.length ≤ acc.length + xs.length ∧ (colG (fun _ => true) n (d + 1) xs acc).1.length ≤ xs.length ∧
    ∀ F (p : List Pr) (c : List Int), xs.length < F → ∃ F', (colG (fun _ => true) n (d + 1) xs acc).1.length < F' ∧ redG n F xs (p ++ acc) c = redG n F' (colG (fun _ => true) n (d + 1) xs acc).1 (p ++ (colG (fun _ => true) n (d + 1) xs acc).2) c := by
  intro d
  induction d with
  | zero =>
    intro xs acc hi hd
    obtain rfl : xs = [] := List.eq_nil_of_length_eq_zero (by omega)
    have h0 : colG (fun _ => true) n (0 + 1) [] acc = ([], acc) := rfl
    rw [h0]
    exact ⟨hi, rfl, Nat.le_refl _, Nat.le_refl _, fun F p c hF => ⟨F, hF, rfl⟩⟩
  | succ d ih =>
    intro xs acc hi hd
    rw [colG]
    cases hq : freeL xs with
    | nil =>
      rw [List.find?_nil]
      exact ⟨hi, hq, Nat.le_refl _, Nat.le_refl _, fun F p c hF => ⟨F, hF, rfl⟩⟩
    | cons q r =>
      rw [List.find?_cons_of_pos rfl]
      obtain ⟨_, c2, c3⟩ := col_step hi (q := q) (by rw [hq]; simp)
      obtain ⟨i1, i2, i3, i4, i5⟩ := ih (partL n xs (offP [q.f0, q.f1])) (acc ++ [q]) c2 (by omega)
      simp only
      rw [List.length_append, List.length_cons, List.length_nil] at i3
      refine ⟨i1, i2, by omega, by omega, fun F p c hF => ?_⟩
      obtain ⟨G, rfl⟩ : ∃ G, F = G + 1 := ⟨F - 1, by omega⟩
      obtain ⟨F', g1, g2⟩ := i5 G p c (by omega)
      refine ⟨F', g1, ?_⟩
      have hx : xs ≠ [] := by
        intro h
        rw [h] at hq
        cases hq
      rw [← g2, redG, if_neg hx, hq, ← List.append_assoc]
theorem copyR (n : Int) {l : List Int} (h : l.length ≤ 1048576) : spec_l01Copy.f n l = some (n, l) := by
  unfold spec_l01Copy.f spec_l01Own.f
  simp only [Option.bind_some, List.length_nil, List.nil_append]
  rw [if_pos (by omega)]
  rfl
theorem red_s (n : Int) : ∀ D (xs : List Int) (p : List Pr) (c : List Int) (F : Nat), isC n xs = true → xs.length ≤ D → xs.length < F → p.length + c.length + xs.length ≤ 1000 →
    Ev (fun k => spec_ReductionOf.l0 k p c n xs) ((redG n F xs p c).1, (redG n F xs p c).2, 0) := by
  intro D
  induction D with
  | zero =>
    intro xs p c F hi hd hF hb
    obtain rfl : xs = [] := List.eq_nil_of_length_eq_zero (by omega)
    obtain ⟨G, rfl⟩ : ∃ G, F = G + 1 := ⟨F - 1, by simp at hF; omega⟩
    refine Ev.step (f := fun k => some (p, c, 0)) (fun k => ?_) (Ev.now _)
    simp only [spec_ReductionOf.l0]
    rw [if_neg (by simp)]
  | succ D ih =>
    intro xs p c F hi hd hF hb
    by_cases hx : xs = []
    · subst hx
      obtain ⟨G, rfl⟩ : ∃ G, F = G + 1 := ⟨F - 1, by simp at hF; omega⟩
      refine Ev.step (f := fun k => some (p, c, 0)) (fun k => ?_) (Ev.now _)
      simp only [spec_ReductionOf.l0]
      rw [if_neg (by simp)]
    · have hpos : 0 < xs.length := List.length_pos_iff.2 hx
      have hcol := ev_collapseR hi 0 (ll := []) (by simp)
      rw [keepQ_nil] at hcol
      obtain ⟨i1, i2, i3, i4, i5⟩ := col_red n xs.length xs [] hi (Nat.le_refl _)
      obtain ⟨F', g1, g2⟩ := i5 F p c hF
      rw [List.append_nil] at g2
      rw [g2]
      generalize colG (fun _ => true) n (xs.length + 1) xs [] = Y at hcol i1 i2 i3 i4 g1 ⊢
      obtain ⟨ys, more⟩ := Y
      simp only [List.length_nil] at i1 i2 i3 i4 g1 hcol ⊢
      have hys := isC_len i1
      have hcap : p.length + more.length < 8796093022208 := by omega
      refine Ev.step (fun k => ?_) (Ev.bind (f := fun k (t : Int × List Int × List Pr) => if p.length + t.2.2.length < 8796093022208 then ((some (p ++ t.2.2 : List Pr)).bind fun y447 => ((spec_l01Dim.f k t.1 t.2.1).bind fun t450 => ((spec_l01Of.f k t.1 t.2.1 t450).bind fun t451 => (if (t451.length : Int) > 0 then (if 0 ≤ (wrap64 ((t451.length : Int) - 1)) then (if (wrap64 ((t451.length : Int) - 1)) < (t451.length : Int) then (if c.length < 17592186044416 then ((spec_l01Take.f k t.1 t.2.1 (rd t451 (wrap64 ((t451.length : Int) - 1)))).bind fun bt458 => (spec_ReductionOf.l0 k y447 (c ++ [rd t451 (wrap64 ((t451.length : Int) - 1))]) bt458.1 bt458.2)) else (none)) else (none)) else (none)) else (spec_ReductionOf.l0 k y447 c t.1 t.2.1))))) else (none)) hcol ?_)
      · simp only [spec_ReductionOf.l0]
        rw [if_pos (by omega)]
      · simp only [if_pos hcap, Option.bind_some]
        have hdl := dimL_le ys
        refine Ev.bind (ev_dim i1) ?_
        refine Ev.bind (ev_ofZ i1 (dimL ys) (by omega)) ?_
        by_cases hy : ys = []
        · subst hy
          obtain ⟨G, rfl⟩ : ∃ G, F' = G + 1 := ⟨F' - 1, by simp at g1; omega⟩
          have h0 : ofL [] (dimL []) = [] := rfl
          simp only [h0, List.length_nil, Int.natCast_zero, show ¬ ((0 : Int) > 0) by omega, if_false]
          refine Ev.step (f := fun k => some (p ++ more, c, 0)) (fun k => ?_) (Ev.now _)
          simp only [spec_ReductionOf.l0]
          rw [if_neg (by simp)]
        · obtain ⟨t1, t2, t3, t4⟩ := top_step i1 hy
          have htn := top_ne hy
          have htl : (ofL ys (dimL ys)).length ≤ 1000 := Nat.le_trans (List.length_filter_le _ _) (by omega)
          obtain ⟨⟨q1, q2⟩, q3⟩ := rd_last htn htl
          have htp : ((ofL ys (dimL ys)).length : Int) > 0 := by
            have := List.length_pos_iff.2 htn
            omega
          have hcl : c.length < 17592186044416 := by omega
          simp only [if_pos htp, if_pos q1, if_pos q2, q3, if_pos hcl]
          rw [show lastZ (ofL ys (dimL ys)) = topZ ys from rfl]
          refine Ev.bind (ev_take i1 (topZ ys)) ?_
          rw [← t2]
          obtain ⟨G, rfl⟩ : ∃ G, F' = G + 1 := ⟨F' - 1, by omega⟩
          rw [redG, if_neg hy, i2]
          exact ih (partL n ys (offP [topZ ys])) (p ++ more) (c ++ [topZ ys]) G t3 (by omega) (by omega) (by simp; omega)
theorem ev_spec (n : Int) {l : List Int} (hl : l.length ≤ maxLen) : Ev (fun k => spec_ReductionOf.f k n l) (redF n l) := by
  unfold spec_ReductionOf.f
  refine Ev.bind (ev_is n hl) ?_
  unfold redF
  cases hi : isC n l with
  | false => simp only [Bool.false_eq_true, if_false]; exact Ev.now _
  | true =>
    have hs := isC_len hi
    simp only [if_true, copyR n (show l.length ≤ 1048576 by omega), Option.bind_some]
    exact red_s n _ l [] [] _ hi (Nat.le_refl _) (Nat.lt_succ_self _) (by simp; omega)
theorem pure_len (n : Int) (l : List Int) : (redF n l).1.length ≤ 1048576 ∧ (redF n l).2.1.length ≤ 1048576 := by
  unfold redF
  split
  · rename_i hi
    have hs := isC_len hi
    obtain ⟨h1, h2⟩ := red_bound n (l.length + 1) l [] [] hi
    simp only [List.length_nil] at h1 h2
    exact ⟨by simp only; omega, by simp only; omega⟩
  · simp
theorem FnExactReductionOf (n0 : Int) (l0 : List Int) (_ : (Lit.int .i64 n0).wf = true) (hm0 : l0.length ≤ maxLen) (_ : ∀ x ∈ l0, (Lit.int .i64 x).wf = true) : ∃ k, laws_FnExactReductionOf.f k n0 l0 = some true := by
  rcases Nat.lt_or_ge 1048576 l0.length with hl | hl0
  · refine ⟨0, ?_⟩
    unfold laws_FnExactReductionOf.f
    rw [sz_big hm0 hl]
    rfl
  · apply Ev.rounds
    obtain ⟨t0, ht0, hz0⟩ := sz_ok (n := n0) hl0
    have hS := ev_spec n0 hm0
    have hI : impl_ReductionOf.f n0 l0 = some (redF n0 l0) := by unfold impl_ReductionOf.f; rw [if_pos (by omega)]
    have hR := pure_len n0 l0
    generalize redF n0 l0 = D at hS hI hR
    obtain ⟨r1, r2, r3⟩ := D
    simp only at hR
    obtain ⟨hR0, hR1⟩ := hR
    have hca0 : 0 ≤ (1 : Int) ∧ (1 : Int) ≤ 1073741824 := by omega
    have hca1 : 0 ≤ 1 + (l0.length : Int) ∧ 1 + (l0.length : Int) ≤ 1073741824 := by omega
    have hna1 : ¬ (1 + (l0.length : Int) < 0) := by omega
    have hco0 : 0 ≤ (1 : Int) ∧ (1 : Int) ≤ 1073741824 := by omega
    have hco1 : 0 ≤ 1 + 2 * (r1.length : Int) ∧ 1 + 2 * (r1.length : Int) ≤ 1073741824 := by omega
    have hno1 : ¬ (1 + 2 * (r1.length : Int) < 0) := by omega
    have hco2 : 0 ≤ 1 + 2 * (r1.length : Int) + (r2.length : Int) ∧ 1 + 2 * (r1.length : Int) + (r2.length : Int) ≤ 1073741824 := by omega
    have hno2 : ¬ (1 + 2 * (r1.length : Int) + (r2.length : Int) < 0) := by omega
    unfold laws_FnExactReductionOf.f
    rw [ht0]
    simp only [Option.bind_some, if_neg hz0]
    repeat (first
      | (exact Ev.now _)
      | (refine Ev.bind (ev_toComplex hl0) ?_)
      | (refine Ev.bind hS ?_)
      | (refine Ev.bind (ev_eqPairs hR0) ?_)
      | (refine Ev.bind (ev_eqInt hR1) ?_)
      | (refine Ev.bind (ev_eqComplex hl0) ?_)
      | (refine Ev.bind (ev_markComplex hl0 hca0) ?_)
      | (refine Ev.bind (ev_markPairs hR0 hco0) ?_)
      | (refine Ev.bind (ev_mark hR1 hco1) ?_)
      | (refine Ev.bind (ev_heldPairs hR0 hco0) ?_)
      | (refine Ev.bind (ev_held hR1 hco1) ?_)
      | (simp only [hI, Option.bind_some, if_true, bne_self_eq_false, Bool.false_eq_true, if_false, if_neg hna1, if_neg hno1, if_neg hno2]))
end Go.Proofs.Ytnmhnkpijjmhjaa.Pu
