/- Words and lemmas for FnExactFlipOf, part 7: what the row's text comes to. -/
import Derived.Test.YtnmhnkpijjmhjaaZFnExactFlipOff
namespace Go.Proofs.Ytnmhnkpijjmhjaa.QFnExactFlipOf
open Go.Proofs.Ytnmhnkpijjmhjaa.Kp Go.Proofs.Ytnmhnkpijjmhjaa.Ext Go.Proofs.Ytnmhnkpijjmhjaa.QS Go.RowKit Go.Proofs.YtnmhnkpijjmhjaaW.PrintWords Go.Proofs.YtnmhnkpijjmhjaaW.PrintLast Go.Proofs.YtnmhnkpijjmhjaaW.PrintMore
attribute [local go_sem] max2_int min2_int max_two min_two max_three min_three max_four min_four   -- for this text's walks alone
set_option linter.unusedVariables false
set_option linter.unusedSimpArgs false
theorem info2 : (Try.prog.info? 2).map (fun i => (i.zero, i.size, i.bytes)) = some (some (.int .i64 0), 1, 8) := by kernel_rfl
end Go.Proofs.Ytnmhnkpijjmhjaa.QFnExactFlipOf
namespace Go.Proofs.Ytnmhnkpijjmhjaa.QFnExactFlipOf
open Go.Proofs.Ytnmhnkpijjmhjaa.Kp Go.Proofs.Ytnmhnkpijjmhjaa.Ext Go.Proofs.Ytnmhnkpijjmhjaa.QS Go.RowKit Go.Proofs.YtnmhnkpijjmhjaaW.PrintWords Go.Proofs.YtnmhnkpijjmhjaaW.PrintLast Go.Proofs.YtnmhnkpijjmhjaaW.PrintMore
attribute [local go_sem] max2_int min2_int max_two min_two max_three min_three max_four min_four   -- for this text's walks alone
set_option linter.unusedVariables false
set_option linter.unusedSimpArgs false
def laws_FnExactFlipOf.f (k : Nat) (a0_0 : Int) (l0_1 : List Int) (a1 : Int) : Option (Bool) := (laws_szComplex.f a0_0 l0_1 1048576).bind fun t223 => (if t223 < 0 then (some true) else ((laws_toComplex.f k a0_0 l0_1).bind fun bt224 => ((spec_FlipOf.f k bt224.1 bt224.2 a1).bind fun bt228 => ((laws_toComplex.f k a0_0 l0_1).bind fun bt234 => ((impl_FlipOf.f bt234.1 bt234.2 a1).bind fun bt239 => ((laws_eqComplex.f k bt239.1 bt239.2.1 bt228.1 bt228.2.1).bind fun t245 => (if t245 = true then (if bt239.2.2 = bt228.2.2 then ((laws_toComplex.f k a0_0 l0_1).bind fun bt246 => ((laws_eqComplex.f k bt234.1 bt234.2 bt246.1 bt246.2).bind fun t250 => (if t250 = true then ((laws_markComplex.f k bt234.1 bt234.2 1).bind fun bt251 => (if bt251.1 < 0 then (none) else ((laws_eqComplex.f k bt239.1 bt239.2.1 bt228.1 bt228.2.1).bind fun t253 => (if t253 = true then ((laws_markComplex.f k bt239.1 bt239.2.1 1).bind fun bt254 => ((laws_heldComplex.f k bt239.1 bt254.2 1).bind fun t256 => (if t256 < 0 then (none) else (if t256 = bt254.1 then ((laws_toComplex.f k a0_0 l0_1).bind fun bt257 => ((impl_FlipOf.f bt257.1 bt257.2 a1).bind fun bt261 => ((laws_eqComplex.f k bt261.1 bt261.2.1 bt228.1 bt228.2.1).bind fun t267 => (if t267 = true then (if bt261.2.2 = bt228.2.2 then ((laws_heldComplex.f k bt239.1 bt254.2 1).bind fun t268 => (if t268 < 0 then (none) else (if t268 = bt254.1 then (some true) else (none)))) else (none)) else (none))))) else (none))))) else (none))))) else (none)))) else (none)) else (none))))))))
set_option maxHeartbeats 8000000 in
set_option maxRecDepth 100000 in
theorem laws_FnExactFlipOf.calls (k : Nat) (a0_0 : Int) (A0_1 : Option Addr) (c0_1 : Nat) (l0_1 : List Int) (a1 : Int) (r : Bool) (w : World) (hr0_1 : Kd.C (Kd.int .i64) w A0_1 l0_1.length l0_1) (hc0_1 : l0_1.length ≤ c0_1) (h : laws_FnExactFlipOf.f k a0_0 l0_1 a1 = some r) :
    Calls Try.prog 6 #[.agg #[.int .i64 a0_0, .slice A0_1 l0_1.length c0_1], .int .i64 a1] w fun e w' => e = .returned (.bool r) ∧ Below w.heap.size w w' := by
  have hu24 := Try.underlying24
  have hu26 := Try.underlying26
  have HR0_1 := Aside0.mk hr0_1
  have HC0_1 := Aside0.mk hc0_1
  clear hr0_1 hc0_1
  have HB := Aside0.mk (Below.refl w.heap.size w)
  have H : ((laws_szComplex.f a0_0 l0_1 1048576).bind fun t223 => (if t223 < 0 then (some true) else ((laws_toComplex.f k a0_0 l0_1).bind fun bt224 => ((spec_FlipOf.f k bt224.1 bt224.2 a1).bind fun bt228 => ((laws_toComplex.f k a0_0 l0_1).bind fun bt234 => ((impl_FlipOf.f bt234.1 bt234.2 a1).bind fun bt239 => ((laws_eqComplex.f k bt239.1 bt239.2.1 bt228.1 bt228.2.1).bind fun t245 => (if t245 = true then (if bt239.2.2 = bt228.2.2 then ((laws_toComplex.f k a0_0 l0_1).bind fun bt246 => ((laws_eqComplex.f k bt234.1 bt234.2 bt246.1 bt246.2).bind fun t250 => (if t250 = true then ((laws_markComplex.f k bt234.1 bt234.2 1).bind fun bt251 => (if bt251.1 < 0 then (none) else ((laws_eqComplex.f k bt239.1 bt239.2.1 bt228.1 bt228.2.1).bind fun t253 => (if t253 = true then ((laws_markComplex.f k bt239.1 bt239.2.1 1).bind fun bt254 => ((laws_heldComplex.f k bt239.1 bt254.2 1).bind fun t256 => (if t256 < 0 then (none) else (if t256 = bt254.1 then ((laws_toComplex.f k a0_0 l0_1).bind fun bt257 => ((impl_FlipOf.f bt257.1 bt257.2 a1).bind fun bt261 => ((laws_eqComplex.f k bt261.1 bt261.2.1 bt228.1 bt228.2.1).bind fun t267 => (if t267 = true then (if bt261.2.2 = bt228.2.2 then ((laws_heldComplex.f k bt239.1 bt254.2 1).bind fun t268 => (if t268 < 0 then (none) else (if t268 = bt254.1 then (some true) else (none)))) else (none)) else (none))))) else (none))))) else (none))))) else (none)))) else (none)) else (none))))))))) = some r := h
  clear h
  replace H := Option.bind_eq_some_iff.mp H
  obtain ⟨t223, A30, H⟩ := H
  replace H : (if t223 < 0 then (some true) else ((laws_toComplex.f k a0_0 l0_1).bind fun bt224 => ((spec_FlipOf.f k bt224.1 bt224.2 a1).bind fun bt228 => ((laws_toComplex.f k a0_0 l0_1).bind fun bt234 => ((impl_FlipOf.f bt234.1 bt234.2 a1).bind fun bt239 => ((laws_eqComplex.f k bt239.1 bt239.2.1 bt228.1 bt228.2.1).bind fun t245 => (if t245 = true then (if bt239.2.2 = bt228.2.2 then ((laws_toComplex.f k a0_0 l0_1).bind fun bt246 => ((laws_eqComplex.f k bt234.1 bt234.2 bt246.1 bt246.2).bind fun t250 => (if t250 = true then ((laws_markComplex.f k bt234.1 bt234.2 1).bind fun bt251 => (if bt251.1 < 0 then (none) else ((laws_eqComplex.f k bt239.1 bt239.2.1 bt228.1 bt228.2.1).bind fun t253 => (if t253 = true then ((laws_markComplex.f k bt239.1 bt239.2.1 1).bind fun bt254 => ((laws_heldComplex.f k bt239.1 bt254.2 1).bind fun t256 => (if t256 < 0 then (none) else (if t256 = bt254.1 then ((laws_toComplex.f k a0_0 l0_1).bind fun bt257 => ((impl_FlipOf.f bt257.1 bt257.2 a1).bind fun bt261 => ((laws_eqComplex.f k bt261.1 bt261.2.1 bt228.1 bt228.2.1).bind fun t267 => (if t267 = true then (if bt261.2.2 = bt228.2.2 then ((laws_heldComplex.f k bt239.1 bt254.2 1).bind fun t268 => (if t268 < 0 then (none) else (if t268 = bt254.1 then (some true) else (none)))) else (none)) else (none))))) else (none))))) else (none))))) else (none)))) else (none)) else (none)))))))) = some r := H
  have A3 := Aside0.mk A30
  clear A30
  by_cases c4 : t223 < 0
  · rw [if_pos c4] at H
    have c4b0 : decide (t223 < 0) = true := decide_eq_true c4
    clear c4
    obtain rfl := Option.some.inj H
    go_enter Try.func6, Try.ntmps6
    go_wp2_with (first | ((with_reducible refine gate_dst (N := 2) rfl ?_); refine box_event ?hg (N := 2) ?hd (cs := #[.int .i64 a0_0, .slice A0_1 l0_1.length c0_1]) (t := 24) ?hr ?_; (case hd => rfl); (case hg => rfl); (case hr => first | (go_simp; done) | (go_simp; rfl)); intro gb222 hg w5 hbox hb; have n0_ := Aside0.mk (below_step (by repeat (first | (with_reducible first | exact HB.out | apply below_alloc | apply pw_below_drewN | apply below_drew1) | exact HB.out)) hb); have n1_ := Aside0.mk (hbox); have n2_ := Aside0.mk ((by rw [hg]; exact (below_size (by repeat (first | (with_reducible first | exact HB.out | apply below_alloc | apply pw_below_drewN | apply below_drew1) | exact HB.out))) : w.heap.size ≤ gb222)); have n3_ := Aside0.mk ((by rw [hg]; exact (below_size (by repeat (first | (with_reducible first | exact HB.out | apply below_alloc | apply pw_below_drewN | apply below_drew1) | exact HB.out))) : w.heap.size ≤ gb222)); clear HB; have HB := n0_; have BK222 := n1_; have GW222 := n2_; have GE222 := n3_; clear n0_ n1_ n2_ n3_; clear hb hbox hg; have hcz6_0 : w5.cell? ⟨gb222, 0, none⟩ = some (.int .i64 a0_0) := (blk_cell BK222.out 0).trans rfl; have hcz6_1 : w5.cell? ⟨gb222, 1, none⟩ = some (.slice A0_1 l0_1.length c0_1) := (blk_cell BK222.out 1).trans rfl; have hfz6_0 := blk_frozen BK222.out 0; have hfz6_1 := blk_frozen BK222.out 1) | ((with_reducible refine gate_callee (f := 15) rfl ?_); refine goesL_ (some 18) rfl rfl Try.func15 (by kernel_rfl) rfl #[.agg #[.int .i64 a0_0, .slice A0_1 l0_1.length c0_1], .int .i64 1048576] rfl (by (try simp only [List.map_toArray, List.map_cons, List.map_nil]); first | done | rfl | (simp only [List.length_drop, List.length_take]; rfl)) ?_; (with_reducible refine (laws_szComplex.calls a0_0 _ _ l0_1 1048576 t223 _ ?side1 ?side2 A3.out).mono ?_); (case side1 => repeat (first | exact (Kd.C_below HR0_1.out HB.out) | (with_reducible refine Kd.C_alloc ?_ _) | (with_reducible refine Kd.C_drewN ?_ _) | (with_reducible refine Kd.C_drew ?_))); (case side2 => exact HC0_1.out); rintro e w7 ⟨rfl, hb⟩; refine ⟨_, rfl, ?_⟩; have n0_ := Aside0.mk (blk_below (g := gb222) (o := .cells #[.int .i64 a0_0, .slice A0_1 l0_1.length c0_1] 24 (0, 0)) (by (with_reducible repeat (first | refine blk_drewN ?_ _ | refine blk_drew ?_ | refine blk_alloc ?_ _)); exact BK222.out) hb); have n1_ := Aside0.mk (below_step (by repeat (first | (with_reducible first | exact HB.out | apply below_alloc | apply pw_below_drewN | apply below_drew1 | refine below_set ?_ GE222.out) | exact HB.out)) hb); clear BK222; clear HB; have BK222 := n0_; have HB := n1_; clear n0_ n1_; (try clear hb); (try clear hb2); (try clear hk); (try clear hi)))
    go_ret
    exact ⟨by first | rfl | (simp [errW_none, errW_some] <;> rfl) | (simp [*, errW_none, errW_some] <;> rfl), by repeat (first | (with_reducible first | exact HB.out | apply below_alloc | apply pw_below_drewN | apply below_drew1 | refine below_set ?_ GE222.out) | exact HB.out)⟩
  · rw [if_neg c4] at H
    have c4b0 : decide (t223 < 0) = false := decide_eq_false c4
    clear c4
    replace H := Option.bind_eq_some_iff.mp H
    obtain ⟨⟨t224, t225⟩, A80, H⟩ := H
    replace H : ((spec_FlipOf.f k t224 t225 a1).bind fun bt228 => ((laws_toComplex.f k a0_0 l0_1).bind fun bt234 => ((impl_FlipOf.f bt234.1 bt234.2 a1).bind fun bt239 => ((laws_eqComplex.f k bt239.1 bt239.2.1 bt228.1 bt228.2.1).bind fun t245 => (if t245 = true then (if bt239.2.2 = bt228.2.2 then ((laws_toComplex.f k a0_0 l0_1).bind fun bt246 => ((laws_eqComplex.f k bt234.1 bt234.2 bt246.1 bt246.2).bind fun t250 => (if t250 = true then ((laws_markComplex.f k bt234.1 bt234.2 1).bind fun bt251 => (if bt251.1 < 0 then (none) else ((laws_eqComplex.f k bt239.1 bt239.2.1 bt228.1 bt228.2.1).bind fun t253 => (if t253 = true then ((laws_markComplex.f k bt239.1 bt239.2.1 1).bind fun bt254 => ((laws_heldComplex.f k bt239.1 bt254.2 1).bind fun t256 => (if t256 < 0 then (none) else (if t256 = bt254.1 then ((laws_toComplex.f k a0_0 l0_1).bind fun bt257 => ((impl_FlipOf.f bt257.1 bt257.2 a1).bind fun bt261 => ((laws_eqComplex.f k bt261.1 bt261.2.1 bt228.1 bt228.2.1).bind fun t267 => (if t267 = true then (if bt261.2.2 = bt228.2.2 then ((laws_heldComplex.f k bt239.1 bt254.2 1).bind fun t268 => (if t268 < 0 then (none) else (if t268 = bt254.1 then (some true) else (none)))) else (none)) else (none))))) else (none))))) else (none))))) else (none)))) else (none)) else (none)))))) = some r := H
    have A8 := Aside0.mk A80
    clear A80
    replace H := Option.bind_eq_some_iff.mp H
    obtain ⟨⟨t228, t229, t232⟩, A90, H⟩ := H
    replace H : ((laws_toComplex.f k a0_0 l0_1).bind fun bt234 => ((impl_FlipOf.f bt234.1 bt234.2 a1).bind fun bt239 => ((laws_eqComplex.f k bt239.1 bt239.2.1 t228 t229).bind fun t245 => (if t245 = true then (if bt239.2.2 = t232 then ((laws_toComplex.f k a0_0 l0_1).bind fun bt246 => ((laws_eqComplex.f k bt234.1 bt234.2 bt246.1 bt246.2).bind fun t250 => (if t250 = true then ((laws_markComplex.f k bt234.1 bt234.2 1).bind fun bt251 => (if bt251.1 < 0 then (none) else ((laws_eqComplex.f k bt239.1 bt239.2.1 t228 t229).bind fun t253 => (if t253 = true then ((laws_markComplex.f k bt239.1 bt239.2.1 1).bind fun bt254 => ((laws_heldComplex.f k bt239.1 bt254.2 1).bind fun t256 => (if t256 < 0 then (none) else (if t256 = bt254.1 then ((laws_toComplex.f k a0_0 l0_1).bind fun bt257 => ((impl_FlipOf.f bt257.1 bt257.2 a1).bind fun bt261 => ((laws_eqComplex.f k bt261.1 bt261.2.1 t228 t229).bind fun t267 => (if t267 = true then (if bt261.2.2 = t232 then ((laws_heldComplex.f k bt239.1 bt254.2 1).bind fun t268 => (if t268 < 0 then (none) else (if t268 = bt254.1 then (some true) else (none)))) else (none)) else (none))))) else (none))))) else (none))))) else (none)))) else (none)) else (none))))) = some r := H
    have A9 := Aside0.mk A90
    clear A90
    replace H := Option.bind_eq_some_iff.mp H
    obtain ⟨⟨t234, t235⟩, A100, H⟩ := H
    replace H : ((impl_FlipOf.f t234 t235 a1).bind fun bt239 => ((laws_eqComplex.f k bt239.1 bt239.2.1 t228 t229).bind fun t245 => (if t245 = true then (if bt239.2.2 = t232 then ((laws_toComplex.f k a0_0 l0_1).bind fun bt246 => ((laws_eqComplex.f k t234 t235 bt246.1 bt246.2).bind fun t250 => (if t250 = true then ((laws_markComplex.f k t234 t235 1).bind fun bt251 => (if bt251.1 < 0 then (none) else ((laws_eqComplex.f k bt239.1 bt239.2.1 t228 t229).bind fun t253 => (if t253 = true then ((laws_markComplex.f k bt239.1 bt239.2.1 1).bind fun bt254 => ((laws_heldComplex.f k bt239.1 bt254.2 1).bind fun t256 => (if t256 < 0 then (none) else (if t256 = bt254.1 then ((laws_toComplex.f k a0_0 l0_1).bind fun bt257 => ((impl_FlipOf.f bt257.1 bt257.2 a1).bind fun bt261 => ((laws_eqComplex.f k bt261.1 bt261.2.1 t228 t229).bind fun t267 => (if t267 = true then (if bt261.2.2 = t232 then ((laws_heldComplex.f k bt239.1 bt254.2 1).bind fun t268 => (if t268 < 0 then (none) else (if t268 = bt254.1 then (some true) else (none)))) else (none)) else (none))))) else (none))))) else (none))))) else (none)))) else (none)) else (none)))) = some r := H
    have A10 := Aside0.mk A100
    clear A100
    replace H := Option.bind_eq_some_iff.mp H
    obtain ⟨⟨t239, t240, t243⟩, A110, H⟩ := H
    replace H : ((laws_eqComplex.f k t239 t240 t228 t229).bind fun t245 => (if t245 = true then (if t243 = t232 then ((laws_toComplex.f k a0_0 l0_1).bind fun bt246 => ((laws_eqComplex.f k t234 t235 bt246.1 bt246.2).bind fun t250 => (if t250 = true then ((laws_markComplex.f k t234 t235 1).bind fun bt251 => (if bt251.1 < 0 then (none) else ((laws_eqComplex.f k t239 t240 t228 t229).bind fun t253 => (if t253 = true then ((laws_markComplex.f k t239 t240 1).bind fun bt254 => ((laws_heldComplex.f k t239 bt254.2 1).bind fun t256 => (if t256 < 0 then (none) else (if t256 = bt254.1 then ((laws_toComplex.f k a0_0 l0_1).bind fun bt257 => ((impl_FlipOf.f bt257.1 bt257.2 a1).bind fun bt261 => ((laws_eqComplex.f k bt261.1 bt261.2.1 t228 t229).bind fun t267 => (if t267 = true then (if bt261.2.2 = t232 then ((laws_heldComplex.f k t239 bt254.2 1).bind fun t268 => (if t268 < 0 then (none) else (if t268 = bt254.1 then (some true) else (none)))) else (none)) else (none))))) else (none))))) else (none))))) else (none)))) else (none)) else (none))) = some r := H
    have A11 := Aside0.mk A110
    clear A110
    replace H := Option.bind_eq_some_iff.mp H
    obtain ⟨t245, A120, H⟩ := H
    replace H : (if t245 = true then (if t243 = t232 then ((laws_toComplex.f k a0_0 l0_1).bind fun bt246 => ((laws_eqComplex.f k t234 t235 bt246.1 bt246.2).bind fun t250 => (if t250 = true then ((laws_markComplex.f k t234 t235 1).bind fun bt251 => (if bt251.1 < 0 then (none) else ((laws_eqComplex.f k t239 t240 t228 t229).bind fun t253 => (if t253 = true then ((laws_markComplex.f k t239 t240 1).bind fun bt254 => ((laws_heldComplex.f k t239 bt254.2 1).bind fun t256 => (if t256 < 0 then (none) else (if t256 = bt254.1 then ((laws_toComplex.f k a0_0 l0_1).bind fun bt257 => ((impl_FlipOf.f bt257.1 bt257.2 a1).bind fun bt261 => ((laws_eqComplex.f k bt261.1 bt261.2.1 t228 t229).bind fun t267 => (if t267 = true then (if bt261.2.2 = t232 then ((laws_heldComplex.f k t239 bt254.2 1).bind fun t268 => (if t268 < 0 then (none) else (if t268 = bt254.1 then (some true) else (none)))) else (none)) else (none))))) else (none))))) else (none))))) else (none)))) else (none)) else (none)) = some r := H
    have A12 := Aside0.mk A120
    clear A120
    by_cases c13 : t245 = true
    · subst c13
      have H1 : (if t243 = t232 then ((laws_toComplex.f k a0_0 l0_1).bind fun bt246 => ((laws_eqComplex.f k t234 t235 bt246.1 bt246.2).bind fun t250 => (if t250 = true then ((laws_markComplex.f k t234 t235 1).bind fun bt251 => (if bt251.1 < 0 then (none) else ((laws_eqComplex.f k t239 t240 t228 t229).bind fun t253 => (if t253 = true then ((laws_markComplex.f k t239 t240 1).bind fun bt254 => ((laws_heldComplex.f k t239 bt254.2 1).bind fun t256 => (if t256 < 0 then (none) else (if t256 = bt254.1 then ((laws_toComplex.f k a0_0 l0_1).bind fun bt257 => ((impl_FlipOf.f bt257.1 bt257.2 a1).bind fun bt261 => ((laws_eqComplex.f k bt261.1 bt261.2.1 t228 t229).bind fun t267 => (if t267 = true then (if bt261.2.2 = t232 then ((laws_heldComplex.f k t239 bt254.2 1).bind fun t268 => (if t268 < 0 then (none) else (if t268 = bt254.1 then (some true) else (none)))) else (none)) else (none))))) else (none))))) else (none))))) else (none)))) else (none)) = some r := by rw [if_pos rfl] at H; exact H
      clear H
      have H := H1
      clear H1
      by_cases c14 : t243 = t232
      · rw [if_pos c14] at H
        have c14b0 : (t243 == t232) = true := beq_iff_eq.mpr c14
        have c14b1 : (t243 != t232) = false := bne_eq_false_iff_eq.mpr c14
        clear c14
        replace H := Option.bind_eq_some_iff.mp H
        obtain ⟨⟨t246, t247⟩, A150, H⟩ := H
        replace H : ((laws_eqComplex.f k t234 t235 t246 t247).bind fun t250 => (if t250 = true then ((laws_markComplex.f k t234 t235 1).bind fun bt251 => (if bt251.1 < 0 then (none) else ((laws_eqComplex.f k t239 t240 t228 t229).bind fun t253 => (if t253 = true then ((laws_markComplex.f k t239 t240 1).bind fun bt254 => ((laws_heldComplex.f k t239 bt254.2 1).bind fun t256 => (if t256 < 0 then (none) else (if t256 = bt254.1 then ((laws_toComplex.f k a0_0 l0_1).bind fun bt257 => ((impl_FlipOf.f bt257.1 bt257.2 a1).bind fun bt261 => ((laws_eqComplex.f k bt261.1 bt261.2.1 t228 t229).bind fun t267 => (if t267 = true then (if bt261.2.2 = t232 then ((laws_heldComplex.f k t239 bt254.2 1).bind fun t268 => (if t268 < 0 then (none) else (if t268 = bt254.1 then (some true) else (none)))) else (none)) else (none))))) else (none))))) else (none))))) else (none))) = some r := H
        have A15 := Aside0.mk A150
        clear A150
        replace H := Option.bind_eq_some_iff.mp H
        obtain ⟨t250, A160, H⟩ := H
        replace H : (if t250 = true then ((laws_markComplex.f k t234 t235 1).bind fun bt251 => (if bt251.1 < 0 then (none) else ((laws_eqComplex.f k t239 t240 t228 t229).bind fun t253 => (if t253 = true then ((laws_markComplex.f k t239 t240 1).bind fun bt254 => ((laws_heldComplex.f k t239 bt254.2 1).bind fun t256 => (if t256 < 0 then (none) else (if t256 = bt254.1 then ((laws_toComplex.f k a0_0 l0_1).bind fun bt257 => ((impl_FlipOf.f bt257.1 bt257.2 a1).bind fun bt261 => ((laws_eqComplex.f k bt261.1 bt261.2.1 t228 t229).bind fun t267 => (if t267 = true then (if bt261.2.2 = t232 then ((laws_heldComplex.f k t239 bt254.2 1).bind fun t268 => (if t268 < 0 then (none) else (if t268 = bt254.1 then (some true) else (none)))) else (none)) else (none))))) else (none))))) else (none))))) else (none)) = some r := H
        have A16 := Aside0.mk A160
        clear A160
        by_cases c17 : t250 = true
        · subst c17
          have H1 : ((laws_markComplex.f k t234 t235 1).bind fun bt251 => (if bt251.1 < 0 then (none) else ((laws_eqComplex.f k t239 t240 t228 t229).bind fun t253 => (if t253 = true then ((laws_markComplex.f k t239 t240 1).bind fun bt254 => ((laws_heldComplex.f k t239 bt254.2 1).bind fun t256 => (if t256 < 0 then (none) else (if t256 = bt254.1 then ((laws_toComplex.f k a0_0 l0_1).bind fun bt257 => ((impl_FlipOf.f bt257.1 bt257.2 a1).bind fun bt261 => ((laws_eqComplex.f k bt261.1 bt261.2.1 t228 t229).bind fun t267 => (if t267 = true then (if bt261.2.2 = t232 then ((laws_heldComplex.f k t239 bt254.2 1).bind fun t268 => (if t268 < 0 then (none) else (if t268 = bt254.1 then (some true) else (none)))) else (none)) else (none))))) else (none))))) else (none))))) = some r := by rw [if_pos rfl] at H; exact H
          clear H
          have H := H1
          clear H1
          replace H := Option.bind_eq_some_iff.mp H
          obtain ⟨⟨t251, t252⟩, A180, H⟩ := H
          replace H : (if t251 < 0 then (none) else ((laws_eqComplex.f k t239 t240 t228 t229).bind fun t253 => (if t253 = true then ((laws_markComplex.f k t239 t240 1).bind fun bt254 => ((laws_heldComplex.f k t239 bt254.2 1).bind fun t256 => (if t256 < 0 then (none) else (if t256 = bt254.1 then ((laws_toComplex.f k a0_0 l0_1).bind fun bt257 => ((impl_FlipOf.f bt257.1 bt257.2 a1).bind fun bt261 => ((laws_eqComplex.f k bt261.1 bt261.2.1 t228 t229).bind fun t267 => (if t267 = true then (if bt261.2.2 = t232 then ((laws_heldComplex.f k t239 bt254.2 1).bind fun t268 => (if t268 < 0 then (none) else (if t268 = bt254.1 then (some true) else (none)))) else (none)) else (none))))) else (none))))) else (none)))) = some r := H
          have A18 := Aside0.mk A180
          clear A180
          by_cases c19 : t251 < 0
          · rw [if_pos c19] at H
            exact absurd H (by simp)
          · rw [if_neg c19] at H
            have c19b0 : decide (t251 < 0) = false := decide_eq_false c19
            clear c19
            replace H := Option.bind_eq_some_iff.mp H
            obtain ⟨t253, A200, H⟩ := H
            replace H : (if t253 = true then ((laws_markComplex.f k t239 t240 1).bind fun bt254 => ((laws_heldComplex.f k t239 bt254.2 1).bind fun t256 => (if t256 < 0 then (none) else (if t256 = bt254.1 then ((laws_toComplex.f k a0_0 l0_1).bind fun bt257 => ((impl_FlipOf.f bt257.1 bt257.2 a1).bind fun bt261 => ((laws_eqComplex.f k bt261.1 bt261.2.1 t228 t229).bind fun t267 => (if t267 = true then (if bt261.2.2 = t232 then ((laws_heldComplex.f k t239 bt254.2 1).bind fun t268 => (if t268 < 0 then (none) else (if t268 = bt254.1 then (some true) else (none)))) else (none)) else (none))))) else (none))))) else (none)) = some r := H
            have A20 := Aside0.mk A200
            clear A200
            by_cases c21 : t253 = true
            · subst c21
              have H1 : ((laws_markComplex.f k t239 t240 1).bind fun bt254 => ((laws_heldComplex.f k t239 bt254.2 1).bind fun t256 => (if t256 < 0 then (none) else (if t256 = bt254.1 then ((laws_toComplex.f k a0_0 l0_1).bind fun bt257 => ((impl_FlipOf.f bt257.1 bt257.2 a1).bind fun bt261 => ((laws_eqComplex.f k bt261.1 bt261.2.1 t228 t229).bind fun t267 => (if t267 = true then (if bt261.2.2 = t232 then ((laws_heldComplex.f k t239 bt254.2 1).bind fun t268 => (if t268 < 0 then (none) else (if t268 = bt254.1 then (some true) else (none)))) else (none)) else (none))))) else (none))))) = some r := by rw [if_pos rfl] at H; exact H
              clear H
              have H := H1
              clear H1
              replace H := Option.bind_eq_some_iff.mp H
              obtain ⟨⟨t254, t255⟩, A220, H⟩ := H
              replace H : ((laws_heldComplex.f k t239 t255 1).bind fun t256 => (if t256 < 0 then (none) else (if t256 = t254 then ((laws_toComplex.f k a0_0 l0_1).bind fun bt257 => ((impl_FlipOf.f bt257.1 bt257.2 a1).bind fun bt261 => ((laws_eqComplex.f k bt261.1 bt261.2.1 t228 t229).bind fun t267 => (if t267 = true then (if bt261.2.2 = t232 then ((laws_heldComplex.f k t239 t255 1).bind fun t268 => (if t268 < 0 then (none) else (if t268 = t254 then (some true) else (none)))) else (none)) else (none))))) else (none)))) = some r := H
              have A22 := Aside0.mk A220
              clear A220
              replace H := Option.bind_eq_some_iff.mp H
              obtain ⟨t256, A230, H⟩ := H
              replace H : (if t256 < 0 then (none) else (if t256 = t254 then ((laws_toComplex.f k a0_0 l0_1).bind fun bt257 => ((impl_FlipOf.f bt257.1 bt257.2 a1).bind fun bt261 => ((laws_eqComplex.f k bt261.1 bt261.2.1 t228 t229).bind fun t267 => (if t267 = true then (if bt261.2.2 = t232 then ((laws_heldComplex.f k t239 t255 1).bind fun t268 => (if t268 < 0 then (none) else (if t268 = t254 then (some true) else (none)))) else (none)) else (none))))) else (none))) = some r := H
              have A23 := Aside0.mk A230
              clear A230
              by_cases c24 : t256 < 0
              · rw [if_pos c24] at H
                exact absurd H (by simp)
              · rw [if_neg c24] at H
                have c24b0 : decide (t256 < 0) = false := decide_eq_false c24
                clear c24
                by_cases c25 : t256 = t254
                · rw [if_pos c25] at H
                  have c25b0 : (t256 == t254) = true := beq_iff_eq.mpr c25
                  have c25b1 : (t256 != t254) = false := bne_eq_false_iff_eq.mpr c25
                  clear c25
                  replace H := Option.bind_eq_some_iff.mp H
                  obtain ⟨⟨t257, t258⟩, A260, H⟩ := H
                  replace H : ((impl_FlipOf.f t257 t258 a1).bind fun bt261 => ((laws_eqComplex.f k bt261.1 bt261.2.1 t228 t229).bind fun t267 => (if t267 = true then (if bt261.2.2 = t232 then ((laws_heldComplex.f k t239 t255 1).bind fun t268 => (if t268 < 0 then (none) else (if t268 = t254 then (some true) else (none)))) else (none)) else (none)))) = some r := H
                  have A26 := Aside0.mk A260
                  clear A260
                  replace H := Option.bind_eq_some_iff.mp H
                  obtain ⟨⟨t261, t262, t265⟩, A270, H⟩ := H
                  replace H : ((laws_eqComplex.f k t261 t262 t228 t229).bind fun t267 => (if t267 = true then (if t265 = t232 then ((laws_heldComplex.f k t239 t255 1).bind fun t268 => (if t268 < 0 then (none) else (if t268 = t254 then (some true) else (none)))) else (none)) else (none))) = some r := H
                  have A27 := Aside0.mk A270
                  clear A270
                  replace H := Option.bind_eq_some_iff.mp H
                  obtain ⟨t267, A280, H⟩ := H
                  replace H : (if t267 = true then (if t265 = t232 then ((laws_heldComplex.f k t239 t255 1).bind fun t268 => (if t268 < 0 then (none) else (if t268 = t254 then (some true) else (none)))) else (none)) else (none)) = some r := H
                  have A28 := Aside0.mk A280
                  clear A280
                  by_cases c29 : t267 = true
                  · subst c29
                    have H1 : (if t265 = t232 then ((laws_heldComplex.f k t239 t255 1).bind fun t268 => (if t268 < 0 then (none) else (if t268 = t254 then (some true) else (none)))) else (none)) = some r := by rw [if_pos rfl] at H; exact H
                    clear H
                    have H := H1
                    clear H1
                    by_cases c30 : t265 = t232
                    · rw [if_pos c30] at H
                      have c30b0 : (t265 == t232) = true := beq_iff_eq.mpr c30
                      have c30b1 : (t265 != t232) = false := bne_eq_false_iff_eq.mpr c30
                      clear c30
                      replace H := Option.bind_eq_some_iff.mp H
                      obtain ⟨t268, A310, H⟩ := H
                      replace H : (if t268 < 0 then (none) else (if t268 = t254 then (some true) else (none))) = some r := H
                      have A31 := Aside0.mk A310
                      clear A310
                      by_cases c32 : t268 < 0
                      · rw [if_pos c32] at H
                        exact absurd H (by simp)
                      · rw [if_neg c32] at H
                        have c32b0 : decide (t268 < 0) = false := decide_eq_false c32
                        clear c32
                        by_cases c33 : t268 = t254
                        · rw [if_pos c33] at H
                          have c33b0 : (t268 == t254) = true := beq_iff_eq.mpr c33
                          have c33b1 : (t268 != t254) = false := bne_eq_false_iff_eq.mpr c33
                          clear c33
                          obtain rfl := Option.some.inj H
                          go_enter Try.func6, Try.ntmps6
                          try go_wp2_with (first | ((with_reducible refine gate_dst (N := 2) rfl ?_); refine box_event ?hg (N := 2) ?hd (cs := #[.int .i64 a0_0, .slice A0_1 l0_1.length c0_1]) (t := 24) ?hr ?_; (case hd => rfl); (case hg => rfl); (case hr => first | (go_simp; done) | (go_simp; rfl)); intro gb222 hg w34 hbox hb; have n0_ := Aside0.mk (below_step (by repeat (first | (with_reducible first | exact HB.out | apply below_alloc | apply pw_below_drewN | apply below_drew1) | exact HB.out)) hb); have n1_ := Aside0.mk (hbox); have n2_ := Aside0.mk ((by rw [hg]; exact (below_size (by repeat (first | (with_reducible first | exact HB.out | apply below_alloc | apply pw_below_drewN | apply below_drew1) | exact HB.out))) : w.heap.size ≤ gb222)); have n3_ := Aside0.mk ((by rw [hg]; exact (below_size (by repeat (first | (with_reducible first | exact HB.out | apply below_alloc | apply pw_below_drewN | apply below_drew1) | exact HB.out))) : w.heap.size ≤ gb222)); clear HB; have HB := n0_; have BK222 := n1_; have GW222 := n2_; have GE222 := n3_; clear n0_ n1_ n2_ n3_; clear hb hbox hg; have hcz35_0 : w34.cell? ⟨gb222, 0, none⟩ = some (.int .i64 a0_0) := (blk_cell BK222.out 0).trans rfl; have hcz35_1 : w34.cell? ⟨gb222, 1, none⟩ = some (.slice A0_1 l0_1.length c0_1) := (blk_cell BK222.out 1).trans rfl; have hfz35_0 := blk_frozen BK222.out 0; have hfz35_1 := blk_frozen BK222.out 1) | ((with_reducible refine gate_callee (f := 15) rfl ?_); refine goesL_ (some 18) rfl rfl Try.func15 (by kernel_rfl) rfl #[.agg #[.int .i64 a0_0, .slice A0_1 l0_1.length c0_1], .int .i64 1048576] rfl (by (try simp only [List.map_toArray, List.map_cons, List.map_nil]); first | done | rfl | (simp only [List.length_drop, List.length_take]; rfl)) ?_; (with_reducible refine (laws_szComplex.calls a0_0 _ _ l0_1 1048576 t223 _ ?side1 ?side2 A3.out).mono ?_); (case side1 => repeat (first | exact (Kd.C_below HR0_1.out HB.out) | (with_reducible refine Kd.C_alloc ?_ _) | (with_reducible refine Kd.C_drewN ?_ _) | (with_reducible refine Kd.C_drew ?_))); (case side2 => exact HC0_1.out); rintro e w36 ⟨rfl, hb⟩; refine ⟨_, rfl, ?_⟩; have n0_ := Aside0.mk (blk_below (g := gb222) (o := .cells #[.int .i64 a0_0, .slice A0_1 l0_1.length c0_1] 24 (0, 0)) (by (with_reducible repeat (first | refine blk_drewN ?_ _ | refine blk_drew ?_ | refine blk_alloc ?_ _)); exact BK222.out) hb); have n1_ := Aside0.mk (below_step (by repeat (first | (with_reducible first | exact HB.out | apply below_alloc | apply pw_below_drewN | apply below_drew1 | refine below_set ?_ GE222.out) | exact HB.out)) hb); clear BK222; clear HB; have BK222 := n0_; have HB := n1_; clear n0_ n1_; (try clear hb); (try clear hb2); (try clear hk); (try clear hi); have hcz37_0 : w36.cell? ⟨gb222, 0, none⟩ = some (.int .i64 a0_0) := (blk_cell BK222.out 0).trans rfl; have hcz37_1 : w36.cell? ⟨gb222, 1, none⟩ = some (.slice A0_1 l0_1.length c0_1) := (blk_cell BK222.out 1).trans rfl; have hfz37_0 := blk_frozen BK222.out 0; have hfz37_1 := blk_frozen BK222.out 1) | ((with_reducible refine gate_callee (f := 17) rfl ?_); refine goesL_ (some 23) rfl rfl Try.func17 (by kernel_rfl) rfl #[.agg #[.int .i64 a0_0, .slice A0_1 l0_1.length c0_1]] rfl (by (try simp only [List.map_toArray, List.map_cons, List.map_nil]); first | done | rfl | (simp only [List.length_drop, List.length_take]; rfl)) ?_; (with_reducible refine (laws_toComplex.calls k a0_0 _ _ l0_1 t224 t225 _ ?side1 ?side2 A8.out).mono ?_); (case side1 => repeat (first | exact (Kd.C_below HR0_1.out HB.out) | (with_reducible refine Kd.C_alloc ?_ _) | (with_reducible refine Kd.C_drewN ?_ _) | (with_reducible refine Kd.C_drew ?_))); (case side2 => exact HC0_1.out); rintro e w38 ⟨v226, rfl, ho0, hb⟩; refine ⟨_, rfl, ?_⟩; have n0_ := Aside0.mk (Kd.R_lower ho0 (below_size (by repeat (first | (with_reducible first | exact HB.out | apply below_alloc | apply pw_below_drewN | apply below_drew1 | refine below_set ?_ GE222.out) | exact HB.out)))); have n1_ := Aside0.mk (blk_below (g := gb222) (o := .cells #[.int .i64 a0_0, .slice A0_1 l0_1.length c0_1] 24 (0, 0)) (by (with_reducible repeat (first | refine blk_drewN ?_ _ | refine blk_drew ?_ | refine blk_alloc ?_ _)); exact BK222.out) hb); have n2_ := Aside0.mk (below_step (by repeat (first | (with_reducible first | exact HB.out | apply below_alloc | apply pw_below_drewN | apply below_drew1 | refine below_set ?_ GE222.out) | exact HB.out)) hb); clear BK222; clear HB; have HO227 := n0_; have BK222 := n1_; have HB := n2_; clear n0_ n1_ n2_; (try clear hb); (try clear hb2); (try clear hk); (try clear hi); (try clear ho0); obtain ⟨Ao39, co39, eo39⟩ := Kd.R_slice HO227.out; subst eo39) | ((with_reducible refine gate_callee (f := 29) rfl ?_); refine goesL_ (some 25) rfl rfl Try.func29 (by kernel_rfl) rfl #[.agg #[.int .i64 t224, .slice Ao39 t225.length co39], .int .i64 a1] rfl (by (try simp only [List.map_toArray, List.map_cons, List.map_nil]); first | done | rfl | (simp only [List.length_drop, List.length_take]; rfl)) ?_; (with_reducible refine (spec_FlipOf.calls k t224 _ _ t225 a1 t228 t229 t232 _ ?side1 ?side2 A9.out).mono ?_); (case side1 => repeat (first | exact (Kd.R_reads' HO227.out).2.2 | (with_reducible refine Kd.C_alloc ?_ _) | (with_reducible refine Kd.C_drewN ?_ _) | (with_reducible refine Kd.C_drew ?_))); (case side2 => exact (Kd.R_reads' HO227.out).2.1); rintro e w40 ⟨v230, rfl, ho0, hb⟩; refine ⟨_, rfl, ?_⟩; have n0_ := Aside0.mk (Kd.R_elder' (by (with_reducible repeat (first | apply Kd.R_alloc | apply Kd.R_drewN | apply Kd.R_drew)); exact HO227.out) (Kd.R_base ho0) hb); have n1_ := Aside0.mk (Kd.R_lower (Kd.R_new' ho0 (Kd.R_lt (by (with_reducible repeat (first | apply Kd.R_alloc | apply Kd.R_drewN | apply Kd.R_drew)); exact HO227.out))) (below_size (by repeat (first | (with_reducible first | exact HB.out | apply below_alloc | apply pw_below_drewN | apply below_drew1 | refine below_set ?_ GE222.out) | exact HB.out)))); have n2_ := Aside0.mk (blk_below (g := gb222) (o := .cells #[.int .i64 a0_0, .slice A0_1 l0_1.length c0_1] 24 (0, 0)) (by (with_reducible repeat (first | refine blk_drewN ?_ _ | refine blk_drew ?_ | refine blk_alloc ?_ _)); exact BK222.out) hb); have n3_ := Aside0.mk (below_step (by repeat (first | (with_reducible first | exact HB.out | apply below_alloc | apply pw_below_drewN | apply below_drew1 | refine below_set ?_ GE222.out) | exact HB.out)) hb); clear HO227; clear BK222; clear HB; have HO227 := n0_; have HO231 := n1_; have BK222 := n2_; have HB := n3_; clear n0_ n1_ n2_ n3_; (try clear hb); (try clear hb2); (try clear hk); (try clear hi); (try clear ho0)) | ((with_reducible refine gate_dst (N := 6) rfl ?_); refine box_event ?hg (N := 6) ?hd (cs := #[.int .i64 0, .slice none 0 0]) (t := 26) ?hr ?_; (case hd => rfl); (case hg => rfl); (case hr => first | (go_simp; done) | (go_simp; rfl)); intro gb233 hg w41 hbox hb; have n0_ := Aside0.mk (Kd.R_below (by (with_reducible repeat (first | apply Kd.R_alloc | apply Kd.R_drewN | apply Kd.R_drew)); exact HO227.out) hb); have n1_ := Aside0.mk (Kd.R_below (by (with_reducible repeat (first | apply Kd.R_alloc | apply Kd.R_drewN | apply Kd.R_drew)); exact HO231.out) hb); have n2_ := Aside0.mk (blk_below (g := gb222) (o := .cells #[.int .i64 a0_0, .slice A0_1 l0_1.length c0_1] 24 (0, 0)) (by (with_reducible repeat (first | refine blk_drewN ?_ _ | refine blk_drew ?_ | refine blk_alloc ?_ _)); exact BK222.out) hb); have n3_ := Aside0.mk (below_step (by repeat (first | (with_reducible first | exact HB.out | apply below_alloc | apply pw_below_drewN | apply below_drew1 | refine below_set ?_ GE222.out) | exact HB.out)) hb); have n4_ := Aside0.mk (hbox); have n5_ := Aside0.mk ((by rw [hg]; exact (below_size (by repeat (first | (with_reducible first | exact HB.out | apply below_alloc | apply pw_below_drewN | apply below_drew1 | refine below_set ?_ GE222.out) | exact HB.out))) : w.heap.size ≤ gb233)); have n6_ := Aside0.mk ((by rw [hg]; exact (below_size (by repeat (first | (with_reducible first | exact HB.out | apply below_alloc | apply pw_below_drewN | apply below_drew1 | refine below_set ?_ GE222.out) | exact HB.out))) : w.heap.size ≤ gb233)); have n7_ := Aside0.mk ((by rw [hg]; exact Nat.ne_of_lt (blk_lt (g := gb222) (o := .cells #[.int .i64 a0_0, .slice A0_1 l0_1.length c0_1] 24 (0, 0)) (by (with_reducible repeat (first | refine blk_drewN ?_ _ | refine blk_drew ?_ | refine blk_alloc ?_ _)); exact BK222.out)) : gb222 ≠ gb233)); have n8_ := Aside0.mk ((by rw [hg]; exact Nat.ne_of_gt (blk_lt (g := gb222) (o := .cells #[.int .i64 a0_0, .slice A0_1 l0_1.length c0_1] 24 (0, 0)) (by (with_reducible repeat (first | refine blk_drewN ?_ _ | refine blk_drew ?_ | refine blk_alloc ?_ _)); exact BK222.out)) : gb233 ≠ gb222)); clear HO227; clear HO231; clear BK222; clear HB; have HO227 := n0_; have HO231 := n1_; have BK222 := n2_; have HB := n3_; have BK233 := n4_; have GW233 := n5_; have GE233 := n6_; have NB222_233 := n7_; have NB233_222 := n8_; clear n0_ n1_ n2_ n3_ n4_ n5_ n6_ n7_ n8_; clear hb hbox hg; have hnb42 := NB233_222.out; have hnc42 := NB222_233.out; have hcz43_0 : w41.cell? ⟨gb233, 0, none⟩ = some (.int .i64 0) := (blk_cell BK233.out 0).trans rfl; have hcz43_1 : w41.cell? ⟨gb233, 1, none⟩ = some (.slice none 0 0) := (blk_cell BK233.out 1).trans rfl; have hfz43_0 := blk_frozen BK233.out 0; have hfz43_1 := blk_frozen BK233.out 1; obtain ⟨Ao44, co44, eo44⟩ := Kd.R_slice HO231.out; subst eo44; have hcz45_0 : w41.cell? ⟨gb222, 0, none⟩ = some (.int .i64 a0_0) := (blk_cell BK222.out 0).trans rfl; have hcz45_1 : w41.cell? ⟨gb222, 1, none⟩ = some (.slice A0_1 l0_1.length c0_1) := (blk_cell BK222.out 1).trans rfl; have hfz45_0 := blk_frozen BK222.out 0; have hfz45_1 := blk_frozen BK222.out 1) | ((with_reducible refine gate_callee (f := 17) rfl ?_); refine goesL_ (some 29) rfl rfl Try.func17 (by kernel_rfl) rfl #[.agg #[.int .i64 a0_0, .slice A0_1 l0_1.length c0_1]] rfl (by (try simp only [List.map_toArray, List.map_cons, List.map_nil]); first | done | rfl | (simp only [List.length_drop, List.length_take]; rfl)) ?_; (with_reducible refine (laws_toComplex.calls k a0_0 _ _ l0_1 t234 t235 _ ?side1 ?side2 A10.out).mono ?_); (case side1 => exact Kd.C_below HR0_1.out (by repeat (first | (with_reducible first | exact HB.out | apply below_alloc | apply pw_below_drewN | apply below_drew1 | refine below_set ?_ GE222.out | refine below_set ?_ GE233.out) | exact HB.out))); (case side2 => exact HC0_1.out); rintro e w46 ⟨v236, rfl, ho0, hb⟩; refine ⟨_, rfl, ?_⟩; have n0_ := Aside0.mk (Kd.R_elder' (by (with_reducible repeat (first | apply Kd.R_alloc | apply Kd.R_drewN | apply Kd.R_drew)); exact (Kd.R_mono (Kd.R_far (p := ⟨gb233, 1, none⟩) (Kd.R_far (p := ⟨gb233, 0, none⟩) (Kd.R_types HO227.out BK233.out (by decide)) (fun _ hk => hk.2) (.int .i64 t228)) (fun _ hk => hk.2) (.slice Ao44 t229.length co44)) (fun _ h_ => h_.1))) (Kd.R_base ho0) hb); have n1_ := Aside0.mk (Kd.R_elder' (by (with_reducible repeat (first | apply Kd.R_alloc | apply Kd.R_drewN | apply Kd.R_drew)); exact (Kd.R_mono (Kd.R_far (p := ⟨gb233, 1, none⟩) (Kd.R_far (p := ⟨gb233, 0, none⟩) (Kd.R_types HO231.out BK233.out (by decide)) (fun _ hk => hk.2) (.int .i64 t228)) (fun _ hk => hk.2) (.slice Ao44 t229.length co44)) (fun _ h_ => h_.1))) (Kd.R_base ho0) hb); have n2_ := Aside0.mk (Kd.R_lower (Kd.R_new' (Kd.R_new' ho0 (Kd.R_lt (by (with_reducible repeat (first | apply Kd.R_alloc | apply Kd.R_drewN | apply Kd.R_drew)); exact (Kd.R_mono (Kd.R_far (p := ⟨gb233, 1, none⟩) (Kd.R_far (p := ⟨gb233, 0, none⟩) (Kd.R_types HO227.out BK233.out (by decide)) (fun _ hk => hk.2) (.int .i64 t228)) (fun _ hk => hk.2) (.slice Ao44 t229.length co44)) (fun _ h_ => h_.1))))) (Kd.R_lt (by (with_reducible repeat (first | apply Kd.R_alloc | apply Kd.R_drewN | apply Kd.R_drew)); exact (Kd.R_mono (Kd.R_far (p := ⟨gb233, 1, none⟩) (Kd.R_far (p := ⟨gb233, 0, none⟩) (Kd.R_types HO231.out BK233.out (by decide)) (fun _ hk => hk.2) (.int .i64 t228)) (fun _ hk => hk.2) (.slice Ao44 t229.length co44)) (fun _ h_ => h_.1))))) (below_size (by repeat (first | (with_reducible first | exact HB.out | apply below_alloc | apply pw_below_drewN | apply below_drew1 | refine below_set ?_ GE222.out | refine below_set ?_ GE233.out) | exact HB.out)))); have n3_ := Aside0.mk (blk_below (g := gb222) (o := .cells #[.int .i64 a0_0, .slice A0_1 l0_1.length c0_1] 24 (0, 0)) (by (with_reducible repeat (first | refine blk_drewN ?_ _ | refine blk_drew ?_ | refine blk_alloc ?_ _)); refine blk_far ?_ NB222_233.out _; (with_reducible repeat (first | refine blk_drewN ?_ _ | refine blk_drew ?_ | refine blk_alloc ?_ _)); refine blk_far ?_ NB222_233.out _; (with_reducible repeat (first | refine blk_drewN ?_ _ | refine blk_drew ?_ | refine blk_alloc ?_ _)); exact BK222.out) hb); have n4_ := Aside0.mk (blk_below (g := gb233) (o := .cells #[.int .i64 t228, .slice Ao44 t229.length co44] 26 (0, 0)) (by (with_reducible repeat (first | refine blk_drewN ?_ _ | refine blk_drew ?_ | refine blk_alloc ?_ _)); refine blk_put (cs := #[.int .i64 t228, .slice none 0 0]) ?_ 1 _ rfl; (with_reducible repeat (first | refine blk_drewN ?_ _ | refine blk_drew ?_ | refine blk_alloc ?_ _)); refine blk_put (cs := #[.int .i64 0, .slice none 0 0]) ?_ 0 _ rfl; (with_reducible repeat (first | refine blk_drewN ?_ _ | refine blk_drew ?_ | refine blk_alloc ?_ _)); exact BK233.out) hb); have n5_ := Aside0.mk (below_step (by repeat (first | (with_reducible first | exact HB.out | apply below_alloc | apply pw_below_drewN | apply below_drew1 | refine below_set ?_ GE222.out | refine below_set ?_ GE233.out) | exact HB.out)) hb); clear HO227; clear HO231; clear BK222; clear BK233; clear HB; have HO227 := n0_; have HO231 := n1_; have HO237 := n2_; have BK222 := n3_; have BK233 := n4_; have HB := n5_; clear n0_ n1_ n2_ n3_ n4_ n5_; (try clear hb); (try clear hb2); (try clear hk); (try clear hi); (try clear ho0)) | ((with_reducible refine gate_dst (N := 8) rfl ?_); refine box_event ?hg (N := 8) ?hd (cs := #[.int .i64 0, .slice none 0 0]) (t := 26) ?hr ?_; (case hd => rfl); (case hg => rfl); (case hr => first | (go_simp; done) | (go_simp; rfl)); intro gb238 hg w47 hbox hb; have n0_ := Aside0.mk (Kd.R_below (by (with_reducible repeat (first | apply Kd.R_alloc | apply Kd.R_drewN | apply Kd.R_drew)); exact HO227.out) hb); have n1_ := Aside0.mk (Kd.R_below (by (with_reducible repeat (first | apply Kd.R_alloc | apply Kd.R_drewN | apply Kd.R_drew)); exact HO231.out) hb); have n2_ := Aside0.mk (Kd.R_below (by (with_reducible repeat (first | apply Kd.R_alloc | apply Kd.R_drewN | apply Kd.R_drew)); exact HO237.out) hb); have n3_ := Aside0.mk (blk_below (g := gb222) (o := .cells #[.int .i64 a0_0, .slice A0_1 l0_1.length c0_1] 24 (0, 0)) (by (with_reducible repeat (first | refine blk_drewN ?_ _ | refine blk_drew ?_ | refine blk_alloc ?_ _)); exact BK222.out) hb); have n4_ := Aside0.mk (blk_below (g := gb233) (o := .cells #[.int .i64 t228, .slice Ao44 t229.length co44] 26 (0, 0)) (by (with_reducible repeat (first | refine blk_drewN ?_ _ | refine blk_drew ?_ | refine blk_alloc ?_ _)); exact BK233.out) hb); have n5_ := Aside0.mk (below_step (by repeat (first | (with_reducible first | exact HB.out | apply below_alloc | apply pw_below_drewN | apply below_drew1 | refine below_set ?_ GE222.out | refine below_set ?_ GE233.out) | exact HB.out)) hb); have n6_ := Aside0.mk (hbox); have n7_ := Aside0.mk ((by rw [hg]; exact (below_size (by repeat (first | (with_reducible first | exact HB.out | apply below_alloc | apply pw_below_drewN | apply below_drew1 | refine below_set ?_ GE222.out | refine below_set ?_ GE233.out) | exact HB.out))) : w.heap.size ≤ gb238)); have n8_ := Aside0.mk ((by rw [hg]; exact (below_size (by repeat (first | (with_reducible first | exact HB.out | apply below_alloc | apply pw_below_drewN | apply below_drew1 | refine below_set ?_ GE222.out | refine below_set ?_ GE233.out) | exact HB.out))) : w.heap.size ≤ gb238)); have n9_ := Aside0.mk ((by rw [hg]; exact Nat.ne_of_lt (blk_lt (g := gb222) (o := .cells #[.int .i64 a0_0, .slice A0_1 l0_1.length c0_1] 24 (0, 0)) (by (with_reducible repeat (first | refine blk_drewN ?_ _ | refine blk_drew ?_ | refine blk_alloc ?_ _)); exact BK222.out)) : gb222 ≠ gb238)); have n10_ := Aside0.mk ((by rw [hg]; exact Nat.ne_of_gt (blk_lt (g := gb222) (o := .cells #[.int .i64 a0_0, .slice A0_1 l0_1.length c0_1] 24 (0, 0)) (by (with_reducible repeat (first | refine blk_drewN ?_ _ | refine blk_drew ?_ | refine blk_alloc ?_ _)); exact BK222.out)) : gb238 ≠ gb222)); have n11_ := Aside0.mk ((by rw [hg]; exact Nat.ne_of_lt (blk_lt (g := gb233) (o := .cells #[.int .i64 t228, .slice Ao44 t229.length co44] 26 (0, 0)) (by (with_reducible repeat (first | refine blk_drewN ?_ _ | refine blk_drew ?_ | refine blk_alloc ?_ _)); exact BK233.out)) : gb233 ≠ gb238)); have n12_ := Aside0.mk ((by rw [hg]; exact Nat.ne_of_gt (blk_lt (g := gb233) (o := .cells #[.int .i64 t228, .slice Ao44 t229.length co44] 26 (0, 0)) (by (with_reducible repeat (first | refine blk_drewN ?_ _ | refine blk_drew ?_ | refine blk_alloc ?_ _)); exact BK233.out)) : gb238 ≠ gb233)); clear HO227; clear HO231; clear HO237; clear BK222; clear BK233; clear HB; have HO227 := n0_; have HO231 := n1_; have HO237 := n2_; have BK222 := n3_; have BK233 := n4_; have HB := n5_; have BK238 := n6_; have GW238 := n7_; have GE238 := n8_; have NB222_238 := n9_; have NB238_222 := n10_; have NB233_238 := n11_; have NB238_233 := n12_; clear n0_ n1_ n2_ n3_ n4_ n5_ n6_ n7_ n8_ n9_ n10_ n11_ n12_; clear hb hbox hg; have hnb48 := NB238_222.out; have hnc48 := NB222_238.out; have hnb49 := NB238_233.out; have hnc49 := NB233_238.out; have hcz50_0 : w47.cell? ⟨gb238, 0, none⟩ = some (.int .i64 0) := (blk_cell BK238.out 0).trans rfl; have hcz50_1 : w47.cell? ⟨gb238, 1, none⟩ = some (.slice none 0 0) := (blk_cell BK238.out 1).trans rfl; have hfz50_0 := blk_frozen BK238.out 0; have hfz50_1 := blk_frozen BK238.out 1; obtain ⟨Ao51, co51, eo51⟩ := Kd.R_slice HO237.out; subst eo51) | ((with_reducible refine gate_callee (f := 30) rfl ?_); refine goesL_ (some 33) rfl rfl Try.func30 (by kernel_rfl) rfl #[.agg #[.int .i64 t234, .slice Ao51 t235.length co51], .int .i64 a1] rfl (by (try simp only [List.map_toArray, List.map_cons, List.map_nil]); first | done | rfl | (simp only [List.length_drop, List.length_take]; rfl)) ?_; (with_reducible refine (impl_FlipOf.calls t234 _ _ t235 a1 t239 t240 t243 _ ?side1 ?side2 A11.out).mono ?_); (case side1 => refine (Kd.R_reads' (e := 2) (base := w.heap.size) (ok := fun k_ => ((True ∧ some k_ ≠ (.slice Ao39 t225.length co39 : Value).ownBlock) ∧ some k_ ≠ (.slice Ao44 t229.length co44 : Value).ownBlock)) (n := t235.length) (c := co51) ?_).2.2; exact (by (with_reducible repeat (first | apply Kd.R_alloc | apply Kd.R_drewN | apply Kd.R_drew)); exact (Kd.R_mono (Kd.R_far (p := ⟨gb238, 1, none⟩) (Kd.R_far (p := ⟨gb238, 0, none⟩) (Kd.R_types HO237.out BK238.out (by decide)) (fun _ hk => hk.2) (.int .i64 t234)) (fun _ hk => hk.2) (.slice Ao51 t235.length co51)) (fun _ h_ => h_.1)))); (case side2 => exact (Kd.R_reads' HO237.out).2.1); rintro e w52 ⟨v241, rfl, ho0, hb⟩; refine ⟨_, rfl, ?_⟩; have n0_ := Aside0.mk (Kd.R_elder' (by (with_reducible repeat (first | apply Kd.R_alloc | apply Kd.R_drewN | apply Kd.R_drew)); exact (Kd.R_mono (Kd.R_far (p := ⟨gb238, 1, none⟩) (Kd.R_far (p := ⟨gb238, 0, none⟩) (Kd.R_types HO227.out BK238.out (by decide)) (fun _ hk => hk.2) (.int .i64 t234)) (fun _ hk => hk.2) (.slice Ao51 t235.length co51)) (fun _ h_ => h_.1))) (Kd.R_base ho0) hb); have n1_ := Aside0.mk (Kd.R_elder' (by (with_reducible repeat (first | apply Kd.R_alloc | apply Kd.R_drewN | apply Kd.R_drew)); exact (Kd.R_mono (Kd.R_far (p := ⟨gb238, 1, none⟩) (Kd.R_far (p := ⟨gb238, 0, none⟩) (Kd.R_types HO231.out BK238.out (by decide)) (fun _ hk => hk.2) (.int .i64 t234)) (fun _ hk => hk.2) (.slice Ao51 t235.length co51)) (fun _ h_ => h_.1))) (Kd.R_base ho0) hb); have n2_ := Aside0.mk (Kd.R_elder' (by (with_reducible repeat (first | apply Kd.R_alloc | apply Kd.R_drewN | apply Kd.R_drew)); exact (Kd.R_mono (Kd.R_far (p := ⟨gb238, 1, none⟩) (Kd.R_far (p := ⟨gb238, 0, none⟩) (Kd.R_types HO237.out BK238.out (by decide)) (fun _ hk => hk.2) (.int .i64 t234)) (fun _ hk => hk.2) (.slice Ao51 t235.length co51)) (fun _ h_ => h_.1))) (Kd.R_base ho0) hb); have n3_ := Aside0.mk (Kd.R_lower (Kd.R_new' (Kd.R_new' (Kd.R_new' ho0 (Kd.R_lt (by (with_reducible repeat (first | apply Kd.R_alloc | apply Kd.R_drewN | apply Kd.R_drew)); exact (Kd.R_mono (Kd.R_far (p := ⟨gb238, 1, none⟩) (Kd.R_far (p := ⟨gb238, 0, none⟩) (Kd.R_types HO227.out BK238.out (by decide)) (fun _ hk => hk.2) (.int .i64 t234)) (fun _ hk => hk.2) (.slice Ao51 t235.length co51)) (fun _ h_ => h_.1))))) (Kd.R_lt (by (with_reducible repeat (first | apply Kd.R_alloc | apply Kd.R_drewN | apply Kd.R_drew)); exact (Kd.R_mono (Kd.R_far (p := ⟨gb238, 1, none⟩) (Kd.R_far (p := ⟨gb238, 0, none⟩) (Kd.R_types HO231.out BK238.out (by decide)) (fun _ hk => hk.2) (.int .i64 t234)) (fun _ hk => hk.2) (.slice Ao51 t235.length co51)) (fun _ h_ => h_.1))))) (Kd.R_lt (by (with_reducible repeat (first | apply Kd.R_alloc | apply Kd.R_drewN | apply Kd.R_drew)); exact (Kd.R_mono (Kd.R_far (p := ⟨gb238, 1, none⟩) (Kd.R_far (p := ⟨gb238, 0, none⟩) (Kd.R_types HO237.out BK238.out (by decide)) (fun _ hk => hk.2) (.int .i64 t234)) (fun _ hk => hk.2) (.slice Ao51 t235.length co51)) (fun _ h_ => h_.1))))) (below_size (by repeat (first | (with_reducible first | exact HB.out | apply below_alloc | apply pw_below_drewN | apply below_drew1 | refine below_set ?_ GE222.out | refine below_set ?_ GE233.out | refine below_set ?_ GE238.out) | exact HB.out)))); have n4_ := Aside0.mk (blk_below (g := gb222) (o := .cells #[.int .i64 a0_0, .slice A0_1 l0_1.length c0_1] 24 (0, 0)) (by (with_reducible repeat (first | refine blk_drewN ?_ _ | refine blk_drew ?_ | refine blk_alloc ?_ _)); refine blk_far ?_ NB222_238.out _; (with_reducible repeat (first | refine blk_drewN ?_ _ | refine blk_drew ?_ | refine blk_alloc ?_ _)); refine blk_far ?_ NB222_238.out _; (with_reducible repeat (first | refine blk_drewN ?_ _ | refine blk_drew ?_ | refine blk_alloc ?_ _)); exact BK222.out) hb); have n5_ := Aside0.mk (blk_below (g := gb233) (o := .cells #[.int .i64 t228, .slice Ao44 t229.length co44] 26 (0, 0)) (by (with_reducible repeat (first | refine blk_drewN ?_ _ | refine blk_drew ?_ | refine blk_alloc ?_ _)); refine blk_far ?_ NB233_238.out _; (with_reducible repeat (first | refine blk_drewN ?_ _ | refine blk_drew ?_ | refine blk_alloc ?_ _)); refine blk_far ?_ NB233_238.out _; (with_reducible repeat (first | refine blk_drewN ?_ _ | refine blk_drew ?_ | refine blk_alloc ?_ _)); exact BK233.out) hb); have n6_ := Aside0.mk (blk_below (g := gb238) (o := .cells #[.int .i64 t234, .slice Ao51 t235.length co51] 26 (0, 0)) (by (with_reducible repeat (first | refine blk_drewN ?_ _ | refine blk_drew ?_ | refine blk_alloc ?_ _)); refine blk_put (cs := #[.int .i64 t234, .slice none 0 0]) ?_ 1 _ rfl; (with_reducible repeat (first | refine blk_drewN ?_ _ | refine blk_drew ?_ | refine blk_alloc ?_ _)); refine blk_put (cs := #[.int .i64 0, .slice none 0 0]) ?_ 0 _ rfl; (with_reducible repeat (first | refine blk_drewN ?_ _ | refine blk_drew ?_ | refine blk_alloc ?_ _)); exact BK238.out) hb); have n7_ := Aside0.mk (below_step (by repeat (first | (with_reducible first | exact HB.out | apply below_alloc | apply pw_below_drewN | apply below_drew1 | refine below_set ?_ GE222.out | refine below_set ?_ GE233.out | refine below_set ?_ GE238.out) | exact HB.out)) hb); clear HO227; clear HO231; clear HO237; clear BK222; clear BK233; clear BK238; clear HB; have HO227 := n0_; have HO231 := n1_; have HO237 := n2_; have HO242 := n3_; have BK222 := n4_; have BK233 := n5_; have BK238 := n6_; have HB := n7_; clear n0_ n1_ n2_ n3_ n4_ n5_ n6_ n7_; (try clear hb); (try clear hb2); (try clear hk); (try clear hi); (try clear ho0)) | ((with_reducible refine gate_dst (N := 9) rfl ?_); refine box_event ?hg (N := 9) ?hd (cs := #[.int .i64 0, .slice none 0 0]) (t := 26) ?hr ?_; (case hd => rfl); (case hg => rfl); (case hr => first | (go_simp; done) | (go_simp; rfl)); intro gb244 hg w53 hbox hb; have n0_ := Aside0.mk (Kd.R_below (by (with_reducible repeat (first | apply Kd.R_alloc | apply Kd.R_drewN | apply Kd.R_drew)); exact HO227.out) hb); have n1_ := Aside0.mk (Kd.R_below (by (with_reducible repeat (first | apply Kd.R_alloc | apply Kd.R_drewN | apply Kd.R_drew)); exact HO231.out) hb); have n2_ := Aside0.mk (Kd.R_below (by (with_reducible repeat (first | apply Kd.R_alloc | apply Kd.R_drewN | apply Kd.R_drew)); exact HO237.out) hb); have n3_ := Aside0.mk (Kd.R_below (by (with_reducible repeat (first | apply Kd.R_alloc | apply Kd.R_drewN | apply Kd.R_drew)); exact HO242.out) hb); have n4_ := Aside0.mk (blk_below (g := gb222) (o := .cells #[.int .i64 a0_0, .slice A0_1 l0_1.length c0_1] 24 (0, 0)) (by (with_reducible repeat (first | refine blk_drewN ?_ _ | refine blk_drew ?_ | refine blk_alloc ?_ _)); exact BK222.out) hb); have n5_ := Aside0.mk (blk_below (g := gb233) (o := .cells #[.int .i64 t228, .slice Ao44 t229.length co44] 26 (0, 0)) (by (with_reducible repeat (first | refine blk_drewN ?_ _ | refine blk_drew ?_ | refine blk_alloc ?_ _)); exact BK233.out) hb); have n6_ := Aside0.mk (blk_below (g := gb238) (o := .cells #[.int .i64 t234, .slice Ao51 t235.length co51] 26 (0, 0)) (by (with_reducible repeat (first | refine blk_drewN ?_ _ | refine blk_drew ?_ | refine blk_alloc ?_ _)); exact BK238.out) hb); have n7_ := Aside0.mk (below_step (by repeat (first | (with_reducible first | exact HB.out | apply below_alloc | apply pw_below_drewN | apply below_drew1 | refine below_set ?_ GE222.out | refine below_set ?_ GE233.out | refine below_set ?_ GE238.out) | exact HB.out)) hb); have n8_ := Aside0.mk (hbox); have n9_ := Aside0.mk ((by rw [hg]; exact (below_size (by repeat (first | (with_reducible first | exact HB.out | apply below_alloc | apply pw_below_drewN | apply below_drew1 | refine below_set ?_ GE222.out | refine below_set ?_ GE233.out | refine below_set ?_ GE238.out) | exact HB.out))) : w.heap.size ≤ gb244)); have n10_ := Aside0.mk ((by rw [hg]; exact (below_size (by repeat (first | (with_reducible first | exact HB.out | apply below_alloc | apply pw_below_drewN | apply below_drew1 | refine below_set ?_ GE222.out | refine below_set ?_ GE233.out | refine below_set ?_ GE238.out) | exact HB.out))) : w.heap.size ≤ gb244)); have n11_ := Aside0.mk ((by rw [hg]; exact Nat.ne_of_lt (blk_lt (g := gb222) (o := .cells #[.int .i64 a0_0, .slice A0_1 l0_1.length c0_1] 24 (0, 0)) (by (with_reducible repeat (first | refine blk_drewN ?_ _ | refine blk_drew ?_ | refine blk_alloc ?_ _)); exact BK222.out)) : gb222 ≠ gb244)); have n12_ := Aside0.mk ((by rw [hg]; exact Nat.ne_of_gt (blk_lt (g := gb222) (o := .cells #[.int .i64 a0_0, .slice A0_1 l0_1.length c0_1] 24 (0, 0)) (by (with_reducible repeat (first | refine blk_drewN ?_ _ | refine blk_drew ?_ | refine blk_alloc ?_ _)); exact BK222.out)) : gb244 ≠ gb222)); have n13_ := Aside0.mk ((by rw [hg]; exact Nat.ne_of_lt (blk_lt (g := gb233) (o := .cells #[.int .i64 t228, .slice Ao44 t229.length co44] 26 (0, 0)) (by (with_reducible repeat (first | refine blk_drewN ?_ _ | refine blk_drew ?_ | refine blk_alloc ?_ _)); exact BK233.out)) : gb233 ≠ gb244)); have n14_ := Aside0.mk ((by rw [hg]; exact Nat.ne_of_gt (blk_lt (g := gb233) (o := .cells #[.int .i64 t228, .slice Ao44 t229.length co44] 26 (0, 0)) (by (with_reducible repeat (first | refine blk_drewN ?_ _ | refine blk_drew ?_ | refine blk_alloc ?_ _)); exact BK233.out)) : gb244 ≠ gb233)); have n15_ := Aside0.mk ((by rw [hg]; exact Nat.ne_of_lt (blk_lt (g := gb238) (o := .cells #[.int .i64 t234, .slice Ao51 t235.length co51] 26 (0, 0)) (by (with_reducible repeat (first | refine blk_drewN ?_ _ | refine blk_drew ?_ | refine blk_alloc ?_ _)); exact BK238.out)) : gb238 ≠ gb244)); have n16_ := Aside0.mk ((by rw [hg]; exact Nat.ne_of_gt (blk_lt (g := gb238) (o := .cells #[.int .i64 t234, .slice Ao51 t235.length co51] 26 (0, 0)) (by (with_reducible repeat (first | refine blk_drewN ?_ _ | refine blk_drew ?_ | refine blk_alloc ?_ _)); exact BK238.out)) : gb244 ≠ gb238)); clear HO227; clear HO231; clear HO237; clear HO242; clear BK222; clear BK233; clear BK238; clear HB; have HO227 := n0_; have HO231 := n1_; have HO237 := n2_; have HO242 := n3_; have BK222 := n4_; have BK233 := n5_; have BK238 := n6_; have HB := n7_; have BK244 := n8_; have GW244 := n9_; have GE244 := n10_; have NB222_244 := n11_; have NB244_222 := n12_; have NB233_244 := n13_; have NB244_233 := n14_; have NB238_244 := n15_; have NB244_238 := n16_; clear n0_ n1_ n2_ n3_ n4_ n5_ n6_ n7_ n8_ n9_ n10_ n11_ n12_ n13_ n14_ n15_ n16_; clear hb hbox hg; have hnb54 := NB244_222.out; have hnc54 := NB222_244.out; have hnb55 := NB244_233.out; have hnc55 := NB233_244.out; have hnb56 := NB244_238.out; have hnc56 := NB238_244.out; have hcz57_0 : w53.cell? ⟨gb244, 0, none⟩ = some (.int .i64 0) := (blk_cell BK244.out 0).trans rfl; have hcz57_1 : w53.cell? ⟨gb244, 1, none⟩ = some (.slice none 0 0) := (blk_cell BK244.out 1).trans rfl; have hfz57_0 := blk_frozen BK244.out 0; have hfz57_1 := blk_frozen BK244.out 1; obtain ⟨Ao58, co58, eo58⟩ := Kd.R_slice HO242.out; subst eo58; have hcz59_0 : w53.cell? ⟨gb233, 0, none⟩ = some (.int .i64 t228) := (blk_cell BK233.out 0).trans rfl; have hcz59_1 : w53.cell? ⟨gb233, 1, none⟩ = some (.slice Ao44 t229.length co44) := (blk_cell BK233.out 1).trans rfl; have hfz59_0 := blk_frozen BK233.out 0; have hfz59_1 := blk_frozen BK233.out 1) | ((with_reducible refine gate_callee (f := 19) rfl ?_); refine goesL_ (some 38) rfl rfl Try.func19 (by kernel_rfl) rfl #[.agg #[.int .i64 t239, .slice Ao58 t240.length co58], .agg #[.int .i64 t228, .slice Ao44 t229.length co44]] rfl (by (try simp only [List.map_toArray, List.map_cons, List.map_nil]); first | done | rfl | (simp only [List.length_drop, List.length_take]; rfl)) ?_; (with_reducible refine (laws_eqComplex.calls k t239 _ _ t240 t228 _ _ t229 true _ ?side1 ?side2 ?side3 ?side4 A12.out).mono ?_); (case side1 => refine (Kd.R_reads' (e := 2) (base := w.heap.size) (ok := fun k_ => (((True ∧ some k_ ≠ (.slice Ao39 t225.length co39 : Value).ownBlock) ∧ some k_ ≠ (.slice Ao44 t229.length co44 : Value).ownBlock) ∧ some k_ ≠ (.slice Ao51 t235.length co51 : Value).ownBlock)) (n := t240.length) (c := co58) ?_).2.2; exact (by (with_reducible repeat (first | apply Kd.R_alloc | apply Kd.R_drewN | apply Kd.R_drew)); exact (Kd.R_mono (Kd.R_far (p := ⟨gb244, 1, none⟩) (Kd.R_far (p := ⟨gb244, 0, none⟩) (Kd.R_types HO242.out BK244.out (by decide)) (fun _ hk => hk.2) (.int .i64 t239)) (fun _ hk => hk.2) (.slice Ao58 t240.length co58)) (fun _ h_ => h_.1)))); (case side2 => exact (Kd.R_reads' HO242.out).2.1); (case side3 => refine (Kd.R_reads' (e := 2) (base := w.heap.size) (ok := fun k_ => (((True ∧ some k_ ≠ (.slice Ao39 t225.length co39 : Value).ownBlock) ∧ some k_ ≠ (.slice Ao51 t235.length co51 : Value).ownBlock) ∧ some k_ ≠ (.slice Ao58 t240.length co58 : Value).ownBlock)) (n := t229.length) (c := co44) ?_).2.2; exact (by (with_reducible repeat (first | apply Kd.R_alloc | apply Kd.R_drewN | apply Kd.R_drew)); exact (Kd.R_mono (Kd.R_far (p := ⟨gb244, 1, none⟩) (Kd.R_far (p := ⟨gb244, 0, none⟩) (Kd.R_types HO231.out BK244.out (by decide)) (fun _ hk => hk.2) (.int .i64 t239)) (fun _ hk => hk.2) (.slice Ao58 t240.length co58)) (fun _ h_ => h_.1)))); (case side4 => exact (Kd.R_reads' HO231.out).2.1); rintro e w60 ⟨rfl, hb⟩; refine ⟨_, rfl, ?_⟩; have n0_ := Aside0.mk (Kd.R_below (by (with_reducible repeat (first | apply Kd.R_alloc | apply Kd.R_drewN | apply Kd.R_drew)); exact (Kd.R_mono (Kd.R_far (p := ⟨gb244, 1, none⟩) (Kd.R_far (p := ⟨gb244, 0, none⟩) (Kd.R_types HO227.out BK244.out (by decide)) (fun _ hk => hk.2) (.int .i64 t239)) (fun _ hk => hk.2) (.slice Ao58 t240.length co58)) (fun _ h_ => h_.1))) hb); have n1_ := Aside0.mk (Kd.R_below (by (with_reducible repeat (first | apply Kd.R_alloc | apply Kd.R_drewN | apply Kd.R_drew)); exact (Kd.R_mono (Kd.R_far (p := ⟨gb244, 1, none⟩) (Kd.R_far (p := ⟨gb244, 0, none⟩) (Kd.R_types HO231.out BK244.out (by decide)) (fun _ hk => hk.2) (.int .i64 t239)) (fun _ hk => hk.2) (.slice Ao58 t240.length co58)) (fun _ h_ => h_.1))) hb); have n2_ := Aside0.mk (Kd.R_below (by (with_reducible repeat (first | apply Kd.R_alloc | apply Kd.R_drewN | apply Kd.R_drew)); exact (Kd.R_mono (Kd.R_far (p := ⟨gb244, 1, none⟩) (Kd.R_far (p := ⟨gb244, 0, none⟩) (Kd.R_types HO237.out BK244.out (by decide)) (fun _ hk => hk.2) (.int .i64 t239)) (fun _ hk => hk.2) (.slice Ao58 t240.length co58)) (fun _ h_ => h_.1))) hb); have n3_ := Aside0.mk (Kd.R_below (by (with_reducible repeat (first | apply Kd.R_alloc | apply Kd.R_drewN | apply Kd.R_drew)); exact (Kd.R_mono (Kd.R_far (p := ⟨gb244, 1, none⟩) (Kd.R_far (p := ⟨gb244, 0, none⟩) (Kd.R_types HO242.out BK244.out (by decide)) (fun _ hk => hk.2) (.int .i64 t239)) (fun _ hk => hk.2) (.slice Ao58 t240.length co58)) (fun _ h_ => h_.1))) hb); have n4_ := Aside0.mk (blk_below (g := gb222) (o := .cells #[.int .i64 a0_0, .slice A0_1 l0_1.length c0_1] 24 (0, 0)) (by (with_reducible repeat (first | refine blk_drewN ?_ _ | refine blk_drew ?_ | refine blk_alloc ?_ _)); refine blk_far ?_ NB222_244.out _; (with_reducible repeat (first | refine blk_drewN ?_ _ | refine blk_drew ?_ | refine blk_alloc ?_ _)); refine blk_far ?_ NB222_244.out _; (with_reducible repeat (first | refine blk_drewN ?_ _ | refine blk_drew ?_ | refine blk_alloc ?_ _)); exact BK222.out) hb); have n5_ := Aside0.mk (blk_below (g := gb233) (o := .cells #[.int .i64 t228, .slice Ao44 t229.length co44] 26 (0, 0)) (by (with_reducible repeat (first | refine blk_drewN ?_ _ | refine blk_drew ?_ | refine blk_alloc ?_ _)); refine blk_far ?_ NB233_244.out _; (with_reducible repeat (first | refine blk_drewN ?_ _ | refine blk_drew ?_ | refine blk_alloc ?_ _)); refine blk_far ?_ NB233_244.out _; (with_reducible repeat (first | refine blk_drewN ?_ _ | refine blk_drew ?_ | refine blk_alloc ?_ _)); exact BK233.out) hb); have n6_ := Aside0.mk (blk_below (g := gb238) (o := .cells #[.int .i64 t234, .slice Ao51 t235.length co51] 26 (0, 0)) (by (with_reducible repeat (first | refine blk_drewN ?_ _ | refine blk_drew ?_ | refine blk_alloc ?_ _)); refine blk_far ?_ NB238_244.out _; (with_reducible repeat (first | refine blk_drewN ?_ _ | refine blk_drew ?_ | refine blk_alloc ?_ _)); refine blk_far ?_ NB238_244.out _; (with_reducible repeat (first | refine blk_drewN ?_ _ | refine blk_drew ?_ | refine blk_alloc ?_ _)); exact BK238.out) hb); have n7_ := Aside0.mk (blk_below (g := gb244) (o := .cells #[.int .i64 t239, .slice Ao58 t240.length co58] 26 (0, 0)) (by (with_reducible repeat (first | refine blk_drewN ?_ _ | refine blk_drew ?_ | refine blk_alloc ?_ _)); refine blk_put (cs := #[.int .i64 t239, .slice none 0 0]) ?_ 1 _ rfl; (with_reducible repeat (first | refine blk_drewN ?_ _ | refine blk_drew ?_ | refine blk_alloc ?_ _)); refine blk_put (cs := #[.int .i64 0, .slice none 0 0]) ?_ 0 _ rfl; (with_reducible repeat (first | refine blk_drewN ?_ _ | refine blk_drew ?_ | refine blk_alloc ?_ _)); exact BK244.out) hb); have n8_ := Aside0.mk (below_step (by repeat (first | (with_reducible first | exact HB.out | apply below_alloc | apply pw_below_drewN | apply below_drew1 | refine below_set ?_ GE222.out | refine below_set ?_ GE233.out | refine below_set ?_ GE238.out | refine below_set ?_ GE244.out) | exact HB.out)) hb); clear HO227; clear HO231; clear HO237; clear HO242; clear BK222; clear BK233; clear BK238; clear BK244; clear HB; have HO227 := n0_; have HO231 := n1_; have HO237 := n2_; have HO242 := n3_; have BK222 := n4_; have BK233 := n5_; have BK238 := n6_; have BK244 := n7_; have HB := n8_; clear n0_ n1_ n2_ n3_ n4_ n5_ n6_ n7_ n8_; (try clear hb); (try clear hb2); (try clear hk); (try clear hi)))
                          have n0_ := Aside0.mk (Kd.R_drew HO227.out)
                          have n1_ := Aside0.mk (Kd.R_drew HO231.out)
                          have n2_ := Aside0.mk (Kd.R_drew HO237.out)
                          have n3_ := Aside0.mk (Kd.R_drew HO242.out)
                          have n4_ := Aside0.mk (blk_drew BK222.out)
                          have n5_ := Aside0.mk (blk_drew BK233.out)
                          have n6_ := Aside0.mk (blk_drew BK238.out)
                          have n7_ := Aside0.mk (blk_drew BK244.out)
                          have n8_ := Aside0.mk (below_drew1 HB.out)
                          clear HO227
                          clear HO231
                          clear HO237
                          clear HO242
                          clear BK222
                          clear BK233
                          clear BK238
                          clear BK244
                          clear HB
                          have HO227 := n0_
                          have HO231 := n1_
                          have HO237 := n2_
                          have HO242 := n3_
                          have BK222 := n4_
                          have BK233 := n5_
                          have BK238 := n6_
                          have BK244 := n7_
                          have HB := n8_
                          clear n0_ n1_ n2_ n3_ n4_ n5_ n6_ n7_ n8_
                          refine start_ (n := 5) (S := fun w' => w'.cell? ⟨gb238, 0, none⟩ = some (.int .i64 t234) ∧ w'.cell? ⟨gb238, 1, none⟩ = some (.slice Ao51 t235.length co51) ∧ w'.cell? ⟨gb222, 0, none⟩ = some (.int .i64 a0_0) ∧ w'.cell? ⟨gb222, 1, none⟩ = some (.slice A0_1 l0_1.length c0_1)) (ds := []) #[false, false, false, false, false] (by kernel_rfl) rfl rfl ⟨(blk_cell BK238.out 0).trans rfl, (blk_cell BK238.out 1).trans rfl, (blk_cell BK222.out 0).trans rfl, (blk_cell BK222.out 1).trans rfl⟩ (fun hHeld => ?_)
                          generalize w60.drew = w61 at HO227 HO231 HO237 HO242 BK222 BK233 BK238 BK244 HB hHeld ⊢
                          refine take_ (i := 0) (N := some 45) (v := ?_) (a' := ?_) #[true, false, false, false, false] rfl rfl (by kernel_rfl) (fun _ _ _ h => h) (Or.inl ⟨by rfl, ?_⟩) hHeld ?_ ?_
                          rotate_left
                          · rintro w' ⟨s0, s1, s2, s3⟩
                            go_simp
                            with_reducible rfl
                          rotate_left
                          · simp only [Act.put, List.setIfInBounds_toArray, List.set_cons_zero, List.set_cons_succ, i64_w, i32_w]
                            rfl
                          refine take_ (i := 1) (N := some 46) (v := ?_) (a' := ?_) #[true, true, false, false, false] rfl rfl (by kernel_rfl) (fun _ _ _ h => h) (Or.inl ⟨by rfl, ?_⟩) hHeld ?_ ?_
                          rotate_left
                          · rintro w' ⟨s0, s1, s2, s3⟩
                            go_simp
                            with_reducible rfl
                          rotate_left
                          · simp only [Act.put, List.setIfInBounds_toArray, List.set_cons_zero, List.set_cons_succ, i64_w, i32_w]
                            rfl
                          refine one_ (i := 2) (N := some 47) #[true, true, true, false, false] rfl rfl (by kernel_rfl) (by decide) (fun K hK => ?_)
                          refine goes_ Try.func17 (by kernel_rfl) rfl #[.agg #[.int .i64 a0_0, .slice A0_1 l0_1.length c0_1]] (by rfl) rfl rfl (by (try simp only [List.map_toArray, List.map_cons, List.map_nil]); first | done | rfl | (simp only [List.length_drop, List.length_take]; rfl)) ?_
                          with_reducible refine (laws_toComplex.calls k a0_0 _ _ l0_1 t246 t247 _ ?side1 ?side2 A15.out).mono ?_
                          (case side1 => repeat (first | exact (Kd.C_below HR0_1.out HB.out) | (with_reducible refine Kd.C_alloc ?_ _) | (with_reducible refine Kd.C_drewN ?_ _) | (with_reducible refine Kd.C_drew ?_)))
                          (case side2 => exact HC0_1.out)
                          rintro e w62 ⟨v248, rfl, ho0, hb⟩
                          refine ⟨_, rfl, ?_⟩
                          have n0_ := Aside0.mk (Kd.R_elder' (by (with_reducible repeat (first | apply Kd.R_alloc | apply Kd.R_drewN | apply Kd.R_drew)); exact HO227.out) (Kd.R_base ho0) hb)
                          have n1_ := Aside0.mk (Kd.R_elder' (by (with_reducible repeat (first | apply Kd.R_alloc | apply Kd.R_drewN | apply Kd.R_drew)); exact HO231.out) (Kd.R_base ho0) hb)
                          have n2_ := Aside0.mk (Kd.R_elder' (by (with_reducible repeat (first | apply Kd.R_alloc | apply Kd.R_drewN | apply Kd.R_drew)); exact HO237.out) (Kd.R_base ho0) hb)
                          have n3_ := Aside0.mk (Kd.R_elder' (by (with_reducible repeat (first | apply Kd.R_alloc | apply Kd.R_drewN | apply Kd.R_drew)); exact HO242.out) (Kd.R_base ho0) hb)
                          have n4_ := Aside0.mk (Kd.R_lower (Kd.R_new' (Kd.R_new' (Kd.R_new' (Kd.R_new' ho0 (Kd.R_lt (by (with_reducible repeat (first | apply Kd.R_alloc | apply Kd.R_drewN | apply Kd.R_drew)); exact HO227.out))) (Kd.R_lt (by (with_reducible repeat (first | apply Kd.R_alloc | apply Kd.R_drewN | apply Kd.R_drew)); exact HO231.out))) (Kd.R_lt (by (with_reducible repeat (first | apply Kd.R_alloc | apply Kd.R_drewN | apply Kd.R_drew)); exact HO237.out))) (Kd.R_lt (by (with_reducible repeat (first | apply Kd.R_alloc | apply Kd.R_drewN | apply Kd.R_drew)); exact HO242.out))) (below_size (by repeat (first | (with_reducible first | exact HB.out | apply below_alloc | apply pw_below_drewN | apply below_drew1 | refine below_set ?_ GE222.out | refine below_set ?_ GE233.out | refine below_set ?_ GE238.out | refine below_set ?_ GE244.out) | exact HB.out))))
                          have n5_ := Aside0.mk (blk_below (g := gb222) (o := .cells #[.int .i64 a0_0, .slice A0_1 l0_1.length c0_1] 24 (0, 0)) (by (with_reducible repeat (first | refine blk_drewN ?_ _ | refine blk_drew ?_ | refine blk_alloc ?_ _)); exact BK222.out) hb)
                          have n6_ := Aside0.mk (blk_below (g := gb233) (o := .cells #[.int .i64 t228, .slice Ao44 t229.length co44] 26 (0, 0)) (by (with_reducible repeat (first | refine blk_drewN ?_ _ | refine blk_drew ?_ | refine blk_alloc ?_ _)); exact BK233.out) hb)
                          have n7_ := Aside0.mk (blk_below (g := gb238) (o := .cells #[.int .i64 t234, .slice Ao51 t235.length co51] 26 (0, 0)) (by (with_reducible repeat (first | refine blk_drewN ?_ _ | refine blk_drew ?_ | refine blk_alloc ?_ _)); exact BK238.out) hb)
                          have n8_ := Aside0.mk (blk_below (g := gb244) (o := .cells #[.int .i64 t239, .slice Ao58 t240.length co58] 26 (0, 0)) (by (with_reducible repeat (first | refine blk_drewN ?_ _ | refine blk_drew ?_ | refine blk_alloc ?_ _)); exact BK244.out) hb)
                          have n9_ := Aside0.mk (below_step (by repeat (first | (with_reducible first | exact HB.out | apply below_alloc | apply pw_below_drewN | apply below_drew1 | refine below_set ?_ GE222.out | refine below_set ?_ GE233.out | refine below_set ?_ GE238.out | refine below_set ?_ GE244.out) | exact HB.out)) hb)
                          clear HO227
                          clear HO231
                          clear HO237
                          clear HO242
                          clear BK222
                          clear BK233
                          clear BK238
                          clear BK244
                          clear HB
                          have HO227 := n0_
                          have HO231 := n1_
                          have HO237 := n2_
                          have HO242 := n3_
                          have HO249 := n4_
                          have BK222 := n5_
                          have BK233 := n6_
                          have BK238 := n7_
                          have BK244 := n8_
                          have HB := n9_
                          clear n0_ n1_ n2_ n3_ n4_ n5_ n6_ n7_ n8_ n9_
                          (try clear hb)
                          (try clear hb2)
                          (try clear hk)
                          (try clear hi)
                          (try clear ho0)
                          obtain ⟨Ao63, co63, eo63⟩ := Kd.R_slice HO249.out
                          (first | subst eo63 | (injection eo63 with f1_ f2_ f3_; have f4_ := f1_.symm; have f5_ := f3_.symm; clear f1_ f2_ f3_; subst f4_; subst f5_))
                          refine hK.out _ _ ⟨(blk_cell BK238.out 0).trans rfl, (blk_cell BK238.out 1).trans rfl, (blk_cell BK222.out 0).trans rfl, (blk_cell BK222.out 1).trans rfl⟩ (fun hHeld => ?_)
                          clear hK K
                          refine norm_ (a' := ?_) ?_ ?_
                          rotate_left
                          · show Act.put _ (some 47) _ = _
                            simp only [Act.put, List.setIfInBounds_toArray, List.set_cons_zero, List.set_cons_succ, i64_w, i32_w]
                            rfl
                          refine one_ (i := 3) (N := some 48) #[true, true, true, true, false] rfl rfl (by kernel_rfl) (by decide) (fun K hK => ?_)
                          refine goes_ Try.func19 (by kernel_rfl) rfl #[.agg #[.int .i64 t234, .slice Ao51 t235.length co51], .agg #[.int .i64 t246, .slice Ao63 t247.length co63]] (by rfl) rfl rfl (by (try simp only [List.map_toArray, List.map_cons, List.map_nil]); first | done | rfl | (simp only [List.length_drop, List.length_take]; rfl)) ?_
                          with_reducible refine (laws_eqComplex.calls k t234 _ _ t235 t246 _ _ t247 true _ ?side1 ?side2 ?side3 ?side4 A16.out).mono ?_
                          (case side1 => repeat (first | exact (Kd.R_reads' HO237.out).2.2 | (with_reducible refine Kd.C_alloc ?_ _) | (with_reducible refine Kd.C_drewN ?_ _) | (with_reducible refine Kd.C_drew ?_)))
                          (case side2 => exact (Kd.R_reads' HO237.out).2.1)
                          (case side3 => repeat (first | exact (Kd.R_reads' HO249.out).2.2 | (with_reducible refine Kd.C_alloc ?_ _) | (with_reducible refine Kd.C_drewN ?_ _) | (with_reducible refine Kd.C_drew ?_)))
                          (case side4 => exact (Kd.R_reads' HO249.out).2.1)
                          rintro e w64 ⟨rfl, hb⟩
                          refine ⟨_, rfl, ?_⟩
                          have n0_ := Aside0.mk (Kd.R_below (by (with_reducible repeat (first | apply Kd.R_alloc | apply Kd.R_drewN | apply Kd.R_drew)); exact HO227.out) hb)
                          have n1_ := Aside0.mk (Kd.R_below (by (with_reducible repeat (first | apply Kd.R_alloc | apply Kd.R_drewN | apply Kd.R_drew)); exact HO231.out) hb)
                          have n2_ := Aside0.mk (Kd.R_below (by (with_reducible repeat (first | apply Kd.R_alloc | apply Kd.R_drewN | apply Kd.R_drew)); exact HO237.out) hb)
                          have n3_ := Aside0.mk (Kd.R_below (by (with_reducible repeat (first | apply Kd.R_alloc | apply Kd.R_drewN | apply Kd.R_drew)); exact HO242.out) hb)
                          have n4_ := Aside0.mk (Kd.R_below (by (with_reducible repeat (first | apply Kd.R_alloc | apply Kd.R_drewN | apply Kd.R_drew)); exact HO249.out) hb)
                          have n5_ := Aside0.mk (blk_below (g := gb222) (o := .cells #[.int .i64 a0_0, .slice A0_1 l0_1.length c0_1] 24 (0, 0)) (by (with_reducible repeat (first | refine blk_drewN ?_ _ | refine blk_drew ?_ | refine blk_alloc ?_ _)); exact BK222.out) hb)
                          have n6_ := Aside0.mk (blk_below (g := gb233) (o := .cells #[.int .i64 t228, .slice Ao44 t229.length co44] 26 (0, 0)) (by (with_reducible repeat (first | refine blk_drewN ?_ _ | refine blk_drew ?_ | refine blk_alloc ?_ _)); exact BK233.out) hb)
                          have n7_ := Aside0.mk (blk_below (g := gb238) (o := .cells #[.int .i64 t234, .slice Ao51 t235.length co51] 26 (0, 0)) (by (with_reducible repeat (first | refine blk_drewN ?_ _ | refine blk_drew ?_ | refine blk_alloc ?_ _)); exact BK238.out) hb)
                          have n8_ := Aside0.mk (blk_below (g := gb244) (o := .cells #[.int .i64 t239, .slice Ao58 t240.length co58] 26 (0, 0)) (by (with_reducible repeat (first | refine blk_drewN ?_ _ | refine blk_drew ?_ | refine blk_alloc ?_ _)); exact BK244.out) hb)
                          have n9_ := Aside0.mk (below_step (by repeat (first | (with_reducible first | exact HB.out | apply below_alloc | apply pw_below_drewN | apply below_drew1 | refine below_set ?_ GE222.out | refine below_set ?_ GE233.out | refine below_set ?_ GE238.out | refine below_set ?_ GE244.out) | exact HB.out)) hb)
                          clear HO227
                          clear HO231
                          clear HO237
                          clear HO242
                          clear HO249
                          clear BK222
                          clear BK233
                          clear BK238
                          clear BK244
                          clear HB
                          have HO227 := n0_
                          have HO231 := n1_
                          have HO237 := n2_
                          have HO242 := n3_
                          have HO249 := n4_
                          have BK222 := n5_
                          have BK233 := n6_
                          have BK238 := n7_
                          have BK244 := n8_
                          have HB := n9_
                          clear n0_ n1_ n2_ n3_ n4_ n5_ n6_ n7_ n8_ n9_
                          (try clear hb)
                          (try clear hb2)
                          (try clear hk)
                          (try clear hi)
                          refine hK.out _ _ ⟨(blk_cell BK238.out 0).trans rfl, (blk_cell BK238.out 1).trans rfl, (blk_cell BK222.out 0).trans rfl, (blk_cell BK222.out 1).trans rfl⟩ (fun hHeld => ?_)
                          clear hK K
                          refine norm_ (a' := ?_) ?_ ?_
                          rotate_left
                          · show Act.put _ (some 48) _ = _
                            simp only [Act.put, List.setIfInBounds_toArray, List.set_cons_zero, List.set_cons_succ, i64_w, i32_w]
                            rfl
                          refine pure_ (i := 4) (N := some 49) (v := ?_) (a' := ?_) #[true, true, true, true, true] rfl rfl (by kernel_rfl) (fun _ _ _ h => h) (Or.inl ⟨by rfl, ?_⟩) ?_ ?_
                          rotate_left
                          · intro w'
                            go_simp
                            with_reducible rfl
                          rotate_left
                          · simp only [Act.put, List.setIfInBounds_toArray, List.set_cons_zero, List.set_cons_succ, i64_w, i32_w]
                            rfl
                          refine done_ (by kernel_rfl) ?_
                          have hcz65_0 : w64.cell? ⟨gb238, 0, none⟩ = some (.int .i64 t234) := (blk_cell BK238.out 0).trans rfl
                          have hcz65_1 : w64.cell? ⟨gb238, 1, none⟩ = some (.slice Ao51 t235.length co51) := (blk_cell BK238.out 1).trans rfl
                          have hfz65_0 := blk_frozen BK238.out 0
                          have hfz65_1 := blk_frozen BK238.out 1
                          try go_wp2_with (first | ((with_reducible refine gate_callee (f := 21) rfl ?_); refine goesL_ (some 52) rfl rfl Try.func21 (by kernel_rfl) rfl #[.agg #[.int .i64 t234, .slice Ao51 t235.length co51], .int .i64 1] rfl (by (try simp only [List.map_toArray, List.map_cons, List.map_nil]); first | done | rfl | (simp only [List.length_drop, List.length_take]; rfl)) ?_; (with_reducible refine (laws_markComplex.calls k t234 (fun k_ => some k_ = (.slice Ao51 t235.length co51 : Value).ownBlock) (.slice Ao51 t235.length co51) t235 1 t251 t252 w _ ?side1 ?side2 A18.out).mono ?_); (case side1 => repeat (first | (with_reducible first | exact HB.out | apply below_alloc | apply pw_below_drewN | apply below_drew1 | refine below_set ?_ GE222.out | refine below_set ?_ GE233.out | refine below_set ?_ GE238.out | refine below_set ?_ GE244.out) | exact HB.out)); (case side2 => exact Kd.R_tight rfl HO237.out); rintro e w66 ⟨rfl, hy0, hb, hkp⟩; refine ⟨_, rfl, ?_⟩; have n0_ := Aside0.mk (blk_kept (by (with_reducible repeat (first | refine blk_drewN ?_ _ | refine blk_drew ?_ | refine blk_alloc ?_ _)); exact BK222.out) hkp (fun hs_ => (fun e_ => (Kd.R_ne HO237.out BK222.out (by decide)) e_) hs_)); have n1_ := Aside0.mk (Kd.R_mono (ok' := fun k_ => some k_ ≠ (.slice Ao44 t229.length co44 : Value).ownBlock ∧ some k_ ≠ (.slice Ao51 t235.length co51 : Value).ownBlock ∧ some k_ ≠ (.slice Ao58 t240.length co58 : Value).ownBlock ∧ some k_ ≠ (.slice Ao63 t247.length co63 : Value).ownBlock) (Kd.R_keptB (HO227.out) hkp (fun k_ hk_ hs_ => (hk_.1.1.2) hs_)) (fun k_ hk_ => ⟨hk_.1.1.1.1.2, hk_.1.1.1.2, hk_.1.1.2, hk_.1.2⟩)); have n2_ := Aside0.mk (Kd.R_mono (ok' := fun k_ => some k_ ≠ (.slice Ao39 t225.length co39 : Value).ownBlock ∧ some k_ ≠ (.slice Ao51 t235.length co51 : Value).ownBlock ∧ some k_ ≠ (.slice Ao58 t240.length co58 : Value).ownBlock ∧ some k_ ≠ (.slice Ao63 t247.length co63 : Value).ownBlock) (Kd.R_keptB (HO231.out) hkp (fun k_ hk_ hs_ => (hk_.1.1.2) hs_)) (fun k_ hk_ => ⟨hk_.1.1.1.1.2, hk_.1.1.1.2, hk_.1.1.2, hk_.1.2⟩)); have n3_ := Aside0.mk (blk_kept (by (with_reducible repeat (first | refine blk_drewN ?_ _ | refine blk_drew ?_ | refine blk_alloc ?_ _)); exact BK233.out) hkp (fun hs_ => (fun e_ => (Kd.R_ne HO237.out BK233.out (by decide)) e_) hs_)); have n4_ := Aside0.mk (Kd.R_reok rfl hy0 (fun k_ e_ => HO237.out.1 k_ e_)); have n5_ := Aside0.mk (blk_kept (by (with_reducible repeat (first | refine blk_drewN ?_ _ | refine blk_drew ?_ | refine blk_alloc ?_ _)); exact BK238.out) hkp (fun hs_ => (fun e_ => (Kd.R_ne HO237.out BK238.out (by decide)) e_) hs_)); have n6_ := Aside0.mk (Kd.R_mono (ok' := fun k_ => some k_ ≠ (.slice Ao39 t225.length co39 : Value).ownBlock ∧ some k_ ≠ (.slice Ao44 t229.length co44 : Value).ownBlock ∧ some k_ ≠ (.slice Ao51 t235.length co51 : Value).ownBlock ∧ some k_ ≠ (.slice Ao63 t247.length co63 : Value).ownBlock) (Kd.R_keptB (HO242.out) hkp (fun k_ hk_ hs_ => (hk_.1.2) hs_)) (fun k_ hk_ => ⟨hk_.1.1.1.1.2, hk_.1.1.1.2, hk_.1.1.2, hk_.1.2⟩)); have n7_ := Aside0.mk (blk_kept (by (with_reducible repeat (first | refine blk_drewN ?_ _ | refine blk_drew ?_ | refine blk_alloc ?_ _)); exact BK244.out) hkp (fun hs_ => (fun e_ => (Kd.R_ne HO237.out BK244.out (by decide)) e_) hs_)); have n8_ := Aside0.mk (Kd.R_mono (ok' := fun k_ => some k_ ≠ (.slice Ao39 t225.length co39 : Value).ownBlock ∧ some k_ ≠ (.slice Ao44 t229.length co44 : Value).ownBlock ∧ some k_ ≠ (.slice Ao51 t235.length co51 : Value).ownBlock ∧ some k_ ≠ (.slice Ao58 t240.length co58 : Value).ownBlock) (Kd.R_keptB (HO249.out) hkp (fun k_ hk_ hs_ => (hk_.1.2) hs_)) (fun k_ hk_ => ⟨hk_.1.1.1.1.2, hk_.1.1.1.2, hk_.1.1.2, hk_.1.2⟩)); have n9_ := Aside0.mk (hb); clear BK222; clear HO227; clear HO231; clear BK233; clear HO237; clear BK238; clear HO242; clear BK244; clear HO249; clear HB; have BK222 := n0_; have HO227 := n1_; have HO231 := n2_; have BK233 := n3_; have HO237 := n4_; have BK238 := n5_; have HO242 := n6_; have BK244 := n7_; have HO249 := n8_; have HB := n9_; clear n0_ n1_ n2_ n3_ n4_ n5_ n6_ n7_ n8_ n9_; (try clear hb); (try clear hkp); (try clear hy0); have nD_ := Aside0.mk (Kd.R_mono (ok' := fun k_ => some k_ ≠ (.slice Ao51 t235.length co51 : Value).ownBlock ∧ some k_ ≠ (.slice Ao58 t240.length co58 : Value).ownBlock) HO231.out (fun k_ hk => ⟨hk.2.1, hk.2.2.1⟩)); clear HO231; have HO231 := nD_; clear nD_; have nD_ := Aside0.mk (Kd.R_mono (ok' := fun k_ => some k_ ≠ (.slice Ao44 t229.length co44 : Value).ownBlock ∧ some k_ ≠ (.slice Ao58 t240.length co58 : Value).ownBlock) HO237.out (fun k_ hk => ⟨hk.1.1.2, hk.1.2⟩)); clear HO237; have HO237 := nD_; clear nD_; have nD_ := Aside0.mk (Kd.R_mono (ok' := fun k_ => some k_ ≠ (.slice Ao44 t229.length co44 : Value).ownBlock ∧ some k_ ≠ (.slice Ao51 t235.length co51 : Value).ownBlock) HO242.out (fun k_ hk => ⟨hk.2.1, hk.2.2.1⟩)); clear HO242; have HO242 := nD_; clear nD_; clear HO227 HO249; have hcz67_0 : w66.cell? ⟨gb244, 0, none⟩ = some (.int .i64 t239) := (blk_cell BK244.out 0).trans rfl; have hcz67_1 : w66.cell? ⟨gb244, 1, none⟩ = some (.slice Ao58 t240.length co58) := (blk_cell BK244.out 1).trans rfl; have hfz67_0 := blk_frozen BK244.out 0; have hfz67_1 := blk_frozen BK244.out 1; have hcz68_0 : w66.cell? ⟨gb233, 0, none⟩ = some (.int .i64 t228) := (blk_cell BK233.out 0).trans rfl; have hcz68_1 : w66.cell? ⟨gb233, 1, none⟩ = some (.slice Ao44 t229.length co44) := (blk_cell BK233.out 1).trans rfl; have hfz68_0 := blk_frozen BK233.out 0; have hfz68_1 := blk_frozen BK233.out 1) | (go_at_call 19; (with_reducible refine (laws_eqComplex.calls k t239 _ _ t240 t228 _ _ t229 true _ ?side1 ?side2 ?side3 ?side4 A20.out).mono ?_); (case side1 => repeat (first | exact (Kd.R_reads' HO242.out).2.2 | (with_reducible refine Kd.C_alloc ?_ _) | (with_reducible refine Kd.C_drewN ?_ _) | (with_reducible refine Kd.C_drew ?_))); (case side2 => exact (Kd.R_reads' HO242.out).2.1); (case side3 => repeat (first | exact (Kd.R_reads' HO231.out).2.2 | (with_reducible refine Kd.C_alloc ?_ _) | (with_reducible refine Kd.C_drewN ?_ _) | (with_reducible refine Kd.C_drew ?_))); (case side4 => exact (Kd.R_reads' HO231.out).2.1); rintro e w69 ⟨rfl, hb⟩; have n0_ := Aside0.mk (Kd.R_below (by (with_reducible repeat (first | apply Kd.R_alloc | apply Kd.R_drewN | apply Kd.R_drew)); exact HO231.out) hb); have n1_ := Aside0.mk (Kd.R_below (by (with_reducible repeat (first | apply Kd.R_alloc | apply Kd.R_drewN | apply Kd.R_drew)); exact HO237.out) hb); have n2_ := Aside0.mk (Kd.R_below (by (with_reducible repeat (first | apply Kd.R_alloc | apply Kd.R_drewN | apply Kd.R_drew)); exact HO242.out) hb); have n3_ := Aside0.mk (blk_below (g := gb222) (o := .cells #[.int .i64 a0_0, .slice A0_1 l0_1.length c0_1] 24 (0, 0)) (by (with_reducible repeat (first | refine blk_drewN ?_ _ | refine blk_drew ?_ | refine blk_alloc ?_ _)); exact BK222.out) hb); have n4_ := Aside0.mk (blk_below (g := gb233) (o := .cells #[.int .i64 t228, .slice Ao44 t229.length co44] 26 (0, 0)) (by (with_reducible repeat (first | refine blk_drewN ?_ _ | refine blk_drew ?_ | refine blk_alloc ?_ _)); exact BK233.out) hb); have n5_ := Aside0.mk (blk_below (g := gb238) (o := .cells #[.int .i64 t234, .slice Ao51 t235.length co51] 26 (0, 0)) (by (with_reducible repeat (first | refine blk_drewN ?_ _ | refine blk_drew ?_ | refine blk_alloc ?_ _)); exact BK238.out) hb); have n6_ := Aside0.mk (blk_below (g := gb244) (o := .cells #[.int .i64 t239, .slice Ao58 t240.length co58] 26 (0, 0)) (by (with_reducible repeat (first | refine blk_drewN ?_ _ | refine blk_drew ?_ | refine blk_alloc ?_ _)); exact BK244.out) hb); have n7_ := Aside0.mk (below_step (by repeat (first | (with_reducible first | exact HB.out | apply below_alloc | apply pw_below_drewN | apply below_drew1 | refine below_set ?_ GE222.out | refine below_set ?_ GE233.out | refine below_set ?_ GE238.out | refine below_set ?_ GE244.out) | exact HB.out)) hb); clear HO231; clear HO237; clear HO242; clear BK222; clear BK233; clear BK238; clear BK244; clear HB; have HO231 := n0_; have HO237 := n1_; have HO242 := n2_; have BK222 := n3_; have BK233 := n4_; have BK238 := n5_; have BK244 := n6_; have HB := n7_; clear n0_ n1_ n2_ n3_ n4_ n5_ n6_ n7_; (try clear hb); (try clear hb2); (try clear hk); (try clear hi); have hcz70_0 : w69.cell? ⟨gb244, 0, none⟩ = some (.int .i64 t239) := (blk_cell BK244.out 0).trans rfl; have hcz70_1 : w69.cell? ⟨gb244, 1, none⟩ = some (.slice Ao58 t240.length co58) := (blk_cell BK244.out 1).trans rfl; have hfz70_0 := blk_frozen BK244.out 0; have hfz70_1 := blk_frozen BK244.out 1) | ((with_reducible refine gate_callee (f := 21) rfl ?_); refine goesL_ (some 68) rfl rfl Try.func21 (by kernel_rfl) rfl #[.agg #[.int .i64 t239, .slice Ao58 t240.length co58], .int .i64 1] rfl (by (try simp only [List.map_toArray, List.map_cons, List.map_nil]); first | done | rfl | (simp only [List.length_drop, List.length_take]; rfl)) ?_; (with_reducible refine (laws_markComplex.calls k t239 (fun k_ => some k_ = (.slice Ao58 t240.length co58 : Value).ownBlock) (.slice Ao58 t240.length co58) t240 1 t254 t255 w _ ?side1 ?side2 A22.out).mono ?_); (case side1 => repeat (first | (with_reducible first | exact HB.out | apply below_alloc | apply pw_below_drewN | apply below_drew1 | refine below_set ?_ GE222.out | refine below_set ?_ GE233.out | refine below_set ?_ GE238.out | refine below_set ?_ GE244.out) | exact HB.out)); (case side2 => exact Kd.R_tight rfl HO242.out); rintro e w71 ⟨rfl, hy0, hb, hkp⟩; refine ⟨_, rfl, ?_⟩; have n0_ := Aside0.mk (blk_kept (by (with_reducible repeat (first | refine blk_drewN ?_ _ | refine blk_drew ?_ | refine blk_alloc ?_ _)); exact BK222.out) hkp (fun hs_ => (fun e_ => (Kd.R_ne HO242.out BK222.out (by decide)) e_) hs_)); have n1_ := Aside0.mk (Kd.R_mono (ok' := fun k_ => some k_ ≠ (.slice Ao51 t235.length co51 : Value).ownBlock ∧ some k_ ≠ (.slice Ao58 t240.length co58 : Value).ownBlock) (Kd.R_keptB (HO231.out) hkp (fun k_ hk_ hs_ => (hk_.2) hs_)) (fun k_ hk_ => ⟨hk_.1.1, hk_.1.2⟩)); have n2_ := Aside0.mk (blk_kept (by (with_reducible repeat (first | refine blk_drewN ?_ _ | refine blk_drew ?_ | refine blk_alloc ?_ _)); exact BK233.out) hkp (fun hs_ => (fun e_ => (Kd.R_ne HO242.out BK233.out (by decide)) e_) hs_)); have n3_ := Aside0.mk (Kd.R_mono (ok' := fun k_ => some k_ ≠ (.slice Ao44 t229.length co44 : Value).ownBlock ∧ some k_ ≠ (.slice Ao58 t240.length co58 : Value).ownBlock) (Kd.R_keptB (HO237.out) hkp (fun k_ hk_ hs_ => (hk_.2) hs_)) (fun k_ hk_ => ⟨hk_.1.1, hk_.1.2⟩)); have n4_ := Aside0.mk (blk_kept (by (with_reducible repeat (first | refine blk_drewN ?_ _ | refine blk_drew ?_ | refine blk_alloc ?_ _)); exact BK238.out) hkp (fun hs_ => (fun e_ => (Kd.R_ne HO242.out BK238.out (by decide)) e_) hs_)); have n5_ := Aside0.mk (Kd.R_reok rfl hy0 (fun k_ e_ => HO242.out.1 k_ e_)); have n6_ := Aside0.mk (blk_kept (by (with_reducible repeat (first | refine blk_drewN ?_ _ | refine blk_drew ?_ | refine blk_alloc ?_ _)); exact BK244.out) hkp (fun hs_ => (fun e_ => (Kd.R_ne HO242.out BK244.out (by decide)) e_) hs_)); have n7_ := Aside0.mk (hb); clear BK222; clear HO231; clear BK233; clear HO237; clear BK238; clear HO242; clear BK244; clear HB; have BK222 := n0_; have HO231 := n1_; have BK233 := n2_; have HO237 := n3_; have BK238 := n4_; have HO242 := n5_; have BK244 := n6_; have HB := n7_; clear n0_ n1_ n2_ n3_ n4_ n5_ n6_ n7_; (try clear hb); (try clear hkp); (try clear hy0); have hcz72_0 : w71.cell? ⟨gb244, 0, none⟩ = some (.int .i64 t239) := (blk_cell BK244.out 0).trans rfl; have hcz72_1 : w71.cell? ⟨gb244, 1, none⟩ = some (.slice Ao58 t240.length co58) := (blk_cell BK244.out 1).trans rfl; have hfz72_0 := blk_frozen BK244.out 0; have hfz72_1 := blk_frozen BK244.out 1) | ((with_reducible refine gate_callee (f := 23) rfl ?_); refine goesL_ (some 71) rfl rfl Try.func23 (by kernel_rfl) rfl #[.agg #[.int .i64 t239, .slice Ao58 t255.length co58], .int .i64 1] rfl (by (try simp only [List.map_toArray, List.map_cons, List.map_nil]); first | done | (rw [show t255.length = t240.length from (Kd.R_reads' HO242.out).1.symm] <;> rfl) | rfl | (simp only [List.length_drop, List.length_take]; rfl)) ?_; (with_reducible refine (laws_heldComplex.calls k t239 _ _ t255 1 t256 _ ?side1 ?side2 A23.out).mono ?_); (case side1 => repeat (first | exact (Kd.R_reads' HO242.out).2.2 | (with_reducible refine Kd.C_alloc ?_ _) | (with_reducible refine Kd.C_drewN ?_ _) | (with_reducible refine Kd.C_drew ?_))); (case side2 => rw [show t255.length = t240.length from (Kd.R_reads' HO242.out).1.symm]; exact (Kd.R_reads' HO242.out).2.1); rintro e w73 ⟨rfl, hb⟩; refine ⟨_, rfl, ?_⟩; have n0_ := Aside0.mk (Kd.R_below (by (with_reducible repeat (first | apply Kd.R_alloc | apply Kd.R_drewN | apply Kd.R_drew)); exact HO231.out) hb); have n1_ := Aside0.mk (Kd.R_below (by (with_reducible repeat (first | apply Kd.R_alloc | apply Kd.R_drewN | apply Kd.R_drew)); exact HO237.out) hb); have n2_ := Aside0.mk (Kd.R_below (by (with_reducible repeat (first | apply Kd.R_alloc | apply Kd.R_drewN | apply Kd.R_drew)); exact HO242.out) hb); have n3_ := Aside0.mk (blk_below (g := gb222) (o := .cells #[.int .i64 a0_0, .slice A0_1 l0_1.length c0_1] 24 (0, 0)) (by (with_reducible repeat (first | refine blk_drewN ?_ _ | refine blk_drew ?_ | refine blk_alloc ?_ _)); exact BK222.out) hb); have n4_ := Aside0.mk (blk_below (g := gb233) (o := .cells #[.int .i64 t228, .slice Ao44 t229.length co44] 26 (0, 0)) (by (with_reducible repeat (first | refine blk_drewN ?_ _ | refine blk_drew ?_ | refine blk_alloc ?_ _)); exact BK233.out) hb); have n5_ := Aside0.mk (blk_below (g := gb238) (o := .cells #[.int .i64 t234, .slice Ao51 t235.length co51] 26 (0, 0)) (by (with_reducible repeat (first | refine blk_drewN ?_ _ | refine blk_drew ?_ | refine blk_alloc ?_ _)); exact BK238.out) hb); have n6_ := Aside0.mk (blk_below (g := gb244) (o := .cells #[.int .i64 t239, .slice Ao58 t240.length co58] 26 (0, 0)) (by (with_reducible repeat (first | refine blk_drewN ?_ _ | refine blk_drew ?_ | refine blk_alloc ?_ _)); exact BK244.out) hb); have n7_ := Aside0.mk (below_step (by repeat (first | (with_reducible first | exact HB.out | apply below_alloc | apply pw_below_drewN | apply below_drew1 | refine below_set ?_ GE222.out | refine below_set ?_ GE233.out | refine below_set ?_ GE238.out | refine below_set ?_ GE244.out) | exact HB.out)) hb); clear HO231; clear HO237; clear HO242; clear BK222; clear BK233; clear BK238; clear BK244; clear HB; have HO231 := n0_; have HO237 := n1_; have HO242 := n2_; have BK222 := n3_; have BK233 := n4_; have BK238 := n5_; have BK244 := n6_; have HB := n7_; clear n0_ n1_ n2_ n3_ n4_ n5_ n6_ n7_; (try clear hb); (try clear hb2); (try clear hk); (try clear hi); have hcz74_0 : w73.cell? ⟨gb222, 0, none⟩ = some (.int .i64 a0_0) := (blk_cell BK222.out 0).trans rfl; have hcz74_1 : w73.cell? ⟨gb222, 1, none⟩ = some (.slice A0_1 l0_1.length c0_1) := (blk_cell BK222.out 1).trans rfl; have hfz74_0 := blk_frozen BK222.out 0; have hfz74_1 := blk_frozen BK222.out 1) | ((with_reducible refine gate_callee (f := 17) rfl ?_); refine goesL_ (some 79) rfl rfl Try.func17 (by kernel_rfl) rfl #[.agg #[.int .i64 a0_0, .slice A0_1 l0_1.length c0_1]] rfl (by (try simp only [List.map_toArray, List.map_cons, List.map_nil]); first | done | rfl | (simp only [List.length_drop, List.length_take]; rfl)) ?_; (with_reducible refine (laws_toComplex.calls k a0_0 _ _ l0_1 t257 t258 _ ?side1 ?side2 A26.out).mono ?_); (case side1 => repeat (first | exact (Kd.C_below HR0_1.out HB.out) | (with_reducible refine Kd.C_alloc ?_ _) | (with_reducible refine Kd.C_drewN ?_ _) | (with_reducible refine Kd.C_drew ?_))); (case side2 => exact HC0_1.out); rintro e w75 ⟨v259, rfl, ho0, hb⟩; refine ⟨_, rfl, ?_⟩; have n0_ := Aside0.mk (Kd.R_elder' (by (with_reducible repeat (first | apply Kd.R_alloc | apply Kd.R_drewN | apply Kd.R_drew)); exact HO231.out) (Kd.R_base ho0) hb); have n1_ := Aside0.mk (Kd.R_elder' (by (with_reducible repeat (first | apply Kd.R_alloc | apply Kd.R_drewN | apply Kd.R_drew)); exact HO237.out) (Kd.R_base ho0) hb); have n2_ := Aside0.mk (Kd.R_elder' (by (with_reducible repeat (first | apply Kd.R_alloc | apply Kd.R_drewN | apply Kd.R_drew)); exact HO242.out) (Kd.R_base ho0) hb); have n3_ := Aside0.mk (Kd.R_lower (Kd.R_new' (Kd.R_new' (Kd.R_new' ho0 (Kd.R_lt (by (with_reducible repeat (first | apply Kd.R_alloc | apply Kd.R_drewN | apply Kd.R_drew)); exact HO231.out))) (Kd.R_lt (by (with_reducible repeat (first | apply Kd.R_alloc | apply Kd.R_drewN | apply Kd.R_drew)); exact HO237.out))) (Kd.R_lt (by (with_reducible repeat (first | apply Kd.R_alloc | apply Kd.R_drewN | apply Kd.R_drew)); exact HO242.out))) (below_size (by repeat (first | (with_reducible first | exact HB.out | apply below_alloc | apply pw_below_drewN | apply below_drew1 | refine below_set ?_ GE222.out | refine below_set ?_ GE233.out | refine below_set ?_ GE238.out | refine below_set ?_ GE244.out) | exact HB.out)))); have n4_ := Aside0.mk (blk_below (g := gb222) (o := .cells #[.int .i64 a0_0, .slice A0_1 l0_1.length c0_1] 24 (0, 0)) (by (with_reducible repeat (first | refine blk_drewN ?_ _ | refine blk_drew ?_ | refine blk_alloc ?_ _)); exact BK222.out) hb); have n5_ := Aside0.mk (blk_below (g := gb233) (o := .cells #[.int .i64 t228, .slice Ao44 t229.length co44] 26 (0, 0)) (by (with_reducible repeat (first | refine blk_drewN ?_ _ | refine blk_drew ?_ | refine blk_alloc ?_ _)); exact BK233.out) hb); have n6_ := Aside0.mk (blk_below (g := gb238) (o := .cells #[.int .i64 t234, .slice Ao51 t235.length co51] 26 (0, 0)) (by (with_reducible repeat (first | refine blk_drewN ?_ _ | refine blk_drew ?_ | refine blk_alloc ?_ _)); exact BK238.out) hb); have n7_ := Aside0.mk (blk_below (g := gb244) (o := .cells #[.int .i64 t239, .slice Ao58 t240.length co58] 26 (0, 0)) (by (with_reducible repeat (first | refine blk_drewN ?_ _ | refine blk_drew ?_ | refine blk_alloc ?_ _)); exact BK244.out) hb); have n8_ := Aside0.mk (below_step (by repeat (first | (with_reducible first | exact HB.out | apply below_alloc | apply pw_below_drewN | apply below_drew1 | refine below_set ?_ GE222.out | refine below_set ?_ GE233.out | refine below_set ?_ GE238.out | refine below_set ?_ GE244.out) | exact HB.out)) hb); clear HO231; clear HO237; clear HO242; clear BK222; clear BK233; clear BK238; clear BK244; clear HB; have HO231 := n0_; have HO237 := n1_; have HO242 := n2_; have HO260 := n3_; have BK222 := n4_; have BK233 := n5_; have BK238 := n6_; have BK244 := n7_; have HB := n8_; clear n0_ n1_ n2_ n3_ n4_ n5_ n6_ n7_ n8_; (try clear hb); (try clear hb2); (try clear hk); (try clear hi); (try clear ho0); obtain ⟨Ao76, co76, eo76⟩ := Kd.R_slice HO260.out; subst eo76) | ((with_reducible refine gate_callee (f := 30) rfl ?_); refine goesL_ (some 81) rfl rfl Try.func30 (by kernel_rfl) rfl #[.agg #[.int .i64 t257, .slice Ao76 t258.length co76], .int .i64 a1] rfl (by (try simp only [List.map_toArray, List.map_cons, List.map_nil]); first | done | rfl | (simp only [List.length_drop, List.length_take]; rfl)) ?_; (with_reducible refine (impl_FlipOf.calls t257 _ _ t258 a1 t261 t262 t265 _ ?side1 ?side2 A27.out).mono ?_); (case side1 => repeat (first | exact (Kd.R_reads' HO260.out).2.2 | (with_reducible refine Kd.C_alloc ?_ _) | (with_reducible refine Kd.C_drewN ?_ _) | (with_reducible refine Kd.C_drew ?_))); (case side2 => exact (Kd.R_reads' HO260.out).2.1); rintro e w77 ⟨v263, rfl, ho0, hb⟩; refine ⟨_, rfl, ?_⟩; have n0_ := Aside0.mk (Kd.R_elder' (by (with_reducible repeat (first | apply Kd.R_alloc | apply Kd.R_drewN | apply Kd.R_drew)); exact HO231.out) (Kd.R_base ho0) hb); have n1_ := Aside0.mk (Kd.R_elder' (by (with_reducible repeat (first | apply Kd.R_alloc | apply Kd.R_drewN | apply Kd.R_drew)); exact HO237.out) (Kd.R_base ho0) hb); have n2_ := Aside0.mk (Kd.R_elder' (by (with_reducible repeat (first | apply Kd.R_alloc | apply Kd.R_drewN | apply Kd.R_drew)); exact HO242.out) (Kd.R_base ho0) hb); have n3_ := Aside0.mk (Kd.R_elder' (by (with_reducible repeat (first | apply Kd.R_alloc | apply Kd.R_drewN | apply Kd.R_drew)); exact HO260.out) (Kd.R_base ho0) hb); have n4_ := Aside0.mk (Kd.R_lower (Kd.R_new' (Kd.R_new' (Kd.R_new' (Kd.R_new' ho0 (Kd.R_lt (by (with_reducible repeat (first | apply Kd.R_alloc | apply Kd.R_drewN | apply Kd.R_drew)); exact HO231.out))) (Kd.R_lt (by (with_reducible repeat (first | apply Kd.R_alloc | apply Kd.R_drewN | apply Kd.R_drew)); exact HO237.out))) (Kd.R_lt (by (with_reducible repeat (first | apply Kd.R_alloc | apply Kd.R_drewN | apply Kd.R_drew)); exact HO242.out))) (Kd.R_lt (by (with_reducible repeat (first | apply Kd.R_alloc | apply Kd.R_drewN | apply Kd.R_drew)); exact HO260.out))) (below_size (by repeat (first | (with_reducible first | exact HB.out | apply below_alloc | apply pw_below_drewN | apply below_drew1 | refine below_set ?_ GE222.out | refine below_set ?_ GE233.out | refine below_set ?_ GE238.out | refine below_set ?_ GE244.out) | exact HB.out)))); have n5_ := Aside0.mk (blk_below (g := gb222) (o := .cells #[.int .i64 a0_0, .slice A0_1 l0_1.length c0_1] 24 (0, 0)) (by (with_reducible repeat (first | refine blk_drewN ?_ _ | refine blk_drew ?_ | refine blk_alloc ?_ _)); exact BK222.out) hb); have n6_ := Aside0.mk (blk_below (g := gb233) (o := .cells #[.int .i64 t228, .slice Ao44 t229.length co44] 26 (0, 0)) (by (with_reducible repeat (first | refine blk_drewN ?_ _ | refine blk_drew ?_ | refine blk_alloc ?_ _)); exact BK233.out) hb); have n7_ := Aside0.mk (blk_below (g := gb238) (o := .cells #[.int .i64 t234, .slice Ao51 t235.length co51] 26 (0, 0)) (by (with_reducible repeat (first | refine blk_drewN ?_ _ | refine blk_drew ?_ | refine blk_alloc ?_ _)); exact BK238.out) hb); have n8_ := Aside0.mk (blk_below (g := gb244) (o := .cells #[.int .i64 t239, .slice Ao58 t240.length co58] 26 (0, 0)) (by (with_reducible repeat (first | refine blk_drewN ?_ _ | refine blk_drew ?_ | refine blk_alloc ?_ _)); exact BK244.out) hb); have n9_ := Aside0.mk (below_step (by repeat (first | (with_reducible first | exact HB.out | apply below_alloc | apply pw_below_drewN | apply below_drew1 | refine below_set ?_ GE222.out | refine below_set ?_ GE233.out | refine below_set ?_ GE238.out | refine below_set ?_ GE244.out) | exact HB.out)) hb); clear HO231; clear HO237; clear HO242; clear HO260; clear BK222; clear BK233; clear BK238; clear BK244; clear HB; have HO231 := n0_; have HO237 := n1_; have HO242 := n2_; have HO260 := n3_; have HO264 := n4_; have BK222 := n5_; have BK233 := n6_; have BK238 := n7_; have BK244 := n8_; have HB := n9_; clear n0_ n1_ n2_ n3_ n4_ n5_ n6_ n7_ n8_ n9_; (try clear hb); (try clear hb2); (try clear hk); (try clear hi); (try clear ho0); have nD_ := Aside0.mk (Kd.R_mono (ok' := fun k_ => some k_ ≠ (.slice Ao51 t235.length co51 : Value).ownBlock ∧ some k_ ≠ (.slice Ao58 t240.length co58 : Value).ownBlock ∧ some k_ ≠ (v263 : Value).ownBlock) HO231.out (fun k_ hk => ⟨hk.1.1.1, ⟨hk.1.1.2, hk.2⟩⟩)); clear HO231; have HO231 := nD_; clear nD_; have nD_ := Aside0.mk (Kd.R_mono (ok' := fun k_ => some k_ ≠ (.slice Ao44 t229.length co44 : Value).ownBlock ∧ some k_ ≠ (.slice Ao58 t240.length co58 : Value).ownBlock ∧ some k_ ≠ (v263 : Value).ownBlock) HO237.out (fun k_ hk => ⟨hk.1.1.1, ⟨hk.1.1.2, hk.2⟩⟩)); clear HO237; have HO237 := nD_; clear nD_; have nD_ := Aside0.mk (Kd.R_mono (ok' := fun k_ => some k_ ≠ (.slice Ao44 t229.length co44 : Value).ownBlock ∧ some k_ ≠ (.slice Ao51 t235.length co51 : Value).ownBlock ∧ some k_ ≠ (v263 : Value).ownBlock) HO242.out (fun k_ hk => ⟨hk.1.1.1, ⟨hk.1.1.2, hk.2⟩⟩)); clear HO242; have HO242 := nD_; clear nD_; have nD_ := Aside0.mk (Kd.R_mono (ok' := fun k_ => some k_ ≠ (.slice Ao44 t229.length co44 : Value).ownBlock ∧ some k_ ≠ (.slice Ao51 t235.length co51 : Value).ownBlock ∧ some k_ ≠ (.slice Ao58 t240.length co58 : Value).ownBlock) HO264.out (fun k_ hk => ⟨hk.1.1.1.2, ⟨hk.1.1.2, hk.1.2⟩⟩)); clear HO264; have HO264 := nD_; clear nD_; clear HO260) | ((with_reducible refine gate_dst (N := 14) rfl ?_); refine box_event ?hg (N := 14) ?hd (cs := #[.int .i64 0, .slice none 0 0]) (t := 26) ?hr ?_; (case hd => rfl); (case hg => rfl); (case hr => first | (go_simp; done) | (go_simp; rfl)); intro gb266 hg w78 hbox hb; have n0_ := Aside0.mk (Kd.R_below (by (with_reducible repeat (first | apply Kd.R_alloc | apply Kd.R_drewN | apply Kd.R_drew)); exact HO231.out) hb); have n1_ := Aside0.mk (Kd.R_below (by (with_reducible repeat (first | apply Kd.R_alloc | apply Kd.R_drewN | apply Kd.R_drew)); exact HO237.out) hb); have n2_ := Aside0.mk (Kd.R_below (by (with_reducible repeat (first | apply Kd.R_alloc | apply Kd.R_drewN | apply Kd.R_drew)); exact HO242.out) hb); have n3_ := Aside0.mk (Kd.R_below (by (with_reducible repeat (first | apply Kd.R_alloc | apply Kd.R_drewN | apply Kd.R_drew)); exact HO264.out) hb); have n4_ := Aside0.mk (blk_below (g := gb222) (o := .cells #[.int .i64 a0_0, .slice A0_1 l0_1.length c0_1] 24 (0, 0)) (by (with_reducible repeat (first | refine blk_drewN ?_ _ | refine blk_drew ?_ | refine blk_alloc ?_ _)); exact BK222.out) hb); have n5_ := Aside0.mk (blk_below (g := gb233) (o := .cells #[.int .i64 t228, .slice Ao44 t229.length co44] 26 (0, 0)) (by (with_reducible repeat (first | refine blk_drewN ?_ _ | refine blk_drew ?_ | refine blk_alloc ?_ _)); exact BK233.out) hb); have n6_ := Aside0.mk (blk_below (g := gb238) (o := .cells #[.int .i64 t234, .slice Ao51 t235.length co51] 26 (0, 0)) (by (with_reducible repeat (first | refine blk_drewN ?_ _ | refine blk_drew ?_ | refine blk_alloc ?_ _)); exact BK238.out) hb); have n7_ := Aside0.mk (blk_below (g := gb244) (o := .cells #[.int .i64 t239, .slice Ao58 t240.length co58] 26 (0, 0)) (by (with_reducible repeat (first | refine blk_drewN ?_ _ | refine blk_drew ?_ | refine blk_alloc ?_ _)); exact BK244.out) hb); have n8_ := Aside0.mk (below_step (by repeat (first | (with_reducible first | exact HB.out | apply below_alloc | apply pw_below_drewN | apply below_drew1 | refine below_set ?_ GE222.out | refine below_set ?_ GE233.out | refine below_set ?_ GE238.out | refine below_set ?_ GE244.out) | exact HB.out)) hb); have n9_ := Aside0.mk (hbox); have n10_ := Aside0.mk ((by rw [hg]; exact (below_size (by repeat (first | (with_reducible first | exact HB.out | apply below_alloc | apply pw_below_drewN | apply below_drew1 | refine below_set ?_ GE222.out | refine below_set ?_ GE233.out | refine below_set ?_ GE238.out | refine below_set ?_ GE244.out) | exact HB.out))) : w.heap.size ≤ gb266)); have n11_ := Aside0.mk ((by rw [hg]; exact (below_size (by repeat (first | (with_reducible first | exact HB.out | apply below_alloc | apply pw_below_drewN | apply below_drew1 | refine below_set ?_ GE222.out | refine below_set ?_ GE233.out | refine below_set ?_ GE238.out | refine below_set ?_ GE244.out) | exact HB.out))) : w.heap.size ≤ gb266)); have n12_ := Aside0.mk ((by rw [hg]; exact Nat.ne_of_lt (blk_lt (g := gb222) (o := .cells #[.int .i64 a0_0, .slice A0_1 l0_1.length c0_1] 24 (0, 0)) (by (with_reducible repeat (first | refine blk_drewN ?_ _ | refine blk_drew ?_ | refine blk_alloc ?_ _)); exact BK222.out)) : gb222 ≠ gb266)); have n13_ := Aside0.mk ((by rw [hg]; exact Nat.ne_of_gt (blk_lt (g := gb222) (o := .cells #[.int .i64 a0_0, .slice A0_1 l0_1.length c0_1] 24 (0, 0)) (by (with_reducible repeat (first | refine blk_drewN ?_ _ | refine blk_drew ?_ | refine blk_alloc ?_ _)); exact BK222.out)) : gb266 ≠ gb222)); have n14_ := Aside0.mk ((by rw [hg]; exact Nat.ne_of_lt (blk_lt (g := gb233) (o := .cells #[.int .i64 t228, .slice Ao44 t229.length co44] 26 (0, 0)) (by (with_reducible repeat (first | refine blk_drewN ?_ _ | refine blk_drew ?_ | refine blk_alloc ?_ _)); exact BK233.out)) : gb233 ≠ gb266)); have n15_ := Aside0.mk ((by rw [hg]; exact Nat.ne_of_gt (blk_lt (g := gb233) (o := .cells #[.int .i64 t228, .slice Ao44 t229.length co44] 26 (0, 0)) (by (with_reducible repeat (first | refine blk_drewN ?_ _ | refine blk_drew ?_ | refine blk_alloc ?_ _)); exact BK233.out)) : gb266 ≠ gb233)); have n16_ := Aside0.mk ((by rw [hg]; exact Nat.ne_of_lt (blk_lt (g := gb238) (o := .cells #[.int .i64 t234, .slice Ao51 t235.length co51] 26 (0, 0)) (by (with_reducible repeat (first | refine blk_drewN ?_ _ | refine blk_drew ?_ | refine blk_alloc ?_ _)); exact BK238.out)) : gb238 ≠ gb266)); have n17_ := Aside0.mk ((by rw [hg]; exact Nat.ne_of_gt (blk_lt (g := gb238) (o := .cells #[.int .i64 t234, .slice Ao51 t235.length co51] 26 (0, 0)) (by (with_reducible repeat (first | refine blk_drewN ?_ _ | refine blk_drew ?_ | refine blk_alloc ?_ _)); exact BK238.out)) : gb266 ≠ gb238)); have n18_ := Aside0.mk ((by rw [hg]; exact Nat.ne_of_lt (blk_lt (g := gb244) (o := .cells #[.int .i64 t239, .slice Ao58 t240.length co58] 26 (0, 0)) (by (with_reducible repeat (first | refine blk_drewN ?_ _ | refine blk_drew ?_ | refine blk_alloc ?_ _)); exact BK244.out)) : gb244 ≠ gb266)); have n19_ := Aside0.mk ((by rw [hg]; exact Nat.ne_of_gt (blk_lt (g := gb244) (o := .cells #[.int .i64 t239, .slice Ao58 t240.length co58] 26 (0, 0)) (by (with_reducible repeat (first | refine blk_drewN ?_ _ | refine blk_drew ?_ | refine blk_alloc ?_ _)); exact BK244.out)) : gb266 ≠ gb244)); clear HO231; clear HO237; clear HO242; clear HO264; clear BK222; clear BK233; clear BK238; clear BK244; clear HB; have HO231 := n0_; have HO237 := n1_; have HO242 := n2_; have HO264 := n3_; have BK222 := n4_; have BK233 := n5_; have BK238 := n6_; have BK244 := n7_; have HB := n8_; have BK266 := n9_; have GW266 := n10_; have GE266 := n11_; have NB222_266 := n12_; have NB266_222 := n13_; have NB233_266 := n14_; have NB266_233 := n15_; have NB238_266 := n16_; have NB266_238 := n17_; have NB244_266 := n18_; have NB266_244 := n19_; clear n0_ n1_ n2_ n3_ n4_ n5_ n6_ n7_ n8_ n9_ n10_ n11_ n12_ n13_ n14_ n15_ n16_ n17_ n18_ n19_; clear hb hbox hg; have hnb79 := NB266_222.out; have hnc79 := NB222_266.out; have hnb80 := NB266_233.out; have hnc80 := NB233_266.out; have hnb81 := NB266_238.out; have hnc81 := NB238_266.out; have hnb82 := NB266_244.out; have hnc82 := NB244_266.out; have hcz83_0 : w78.cell? ⟨gb266, 0, none⟩ = some (.int .i64 0) := (blk_cell BK266.out 0).trans rfl; have hcz83_1 : w78.cell? ⟨gb266, 1, none⟩ = some (.slice none 0 0) := (blk_cell BK266.out 1).trans rfl; have hfz83_0 := blk_frozen BK266.out 0; have hfz83_1 := blk_frozen BK266.out 1; obtain ⟨Ao84, co84, eo84⟩ := Kd.R_slice HO264.out; subst eo84; have hcz85_0 : w78.cell? ⟨gb233, 0, none⟩ = some (.int .i64 t228) := (blk_cell BK233.out 0).trans rfl; have hcz85_1 : w78.cell? ⟨gb233, 1, none⟩ = some (.slice Ao44 t229.length co44) := (blk_cell BK233.out 1).trans rfl; have hfz85_0 := blk_frozen BK233.out 0; have hfz85_1 := blk_frozen BK233.out 1) | ((with_reducible refine gate_callee (f := 19) rfl ?_); refine goesL_ (some 86) rfl rfl Try.func19 (by kernel_rfl) rfl #[.agg #[.int .i64 t261, .slice Ao84 t262.length co84], .agg #[.int .i64 t228, .slice Ao44 t229.length co44]] rfl (by (try simp only [List.map_toArray, List.map_cons, List.map_nil]); first | done | rfl | (simp only [List.length_drop, List.length_take]; rfl)) ?_; (with_reducible refine (laws_eqComplex.calls k t261 _ _ t262 t228 _ _ t229 true _ ?side1 ?side2 ?side3 ?side4 A28.out).mono ?_); (case side1 => refine (Kd.R_reads' (e := 2) (base := w.heap.size) (ok := fun k_ => (some k_ ≠ (.slice Ao44 t229.length co44 : Value).ownBlock ∧ (some k_ ≠ (.slice Ao51 t235.length co51 : Value).ownBlock ∧ some k_ ≠ (.slice Ao58 t240.length co58 : Value).ownBlock))) (n := t262.length) (c := co84) ?_).2.2; exact (by (with_reducible repeat (first | apply Kd.R_alloc | apply Kd.R_drewN | apply Kd.R_drew)); exact (Kd.R_mono (Kd.R_far (p := ⟨gb266, 1, none⟩) (Kd.R_far (p := ⟨gb266, 0, none⟩) (Kd.R_types HO264.out BK266.out (by decide)) (fun _ hk => hk.2) (.int .i64 t261)) (fun _ hk => hk.2) (.slice Ao84 t262.length co84)) (fun _ h_ => h_.1)))); (case side2 => exact (Kd.R_reads' HO264.out).2.1); (case side3 => refine (Kd.R_reads' (e := 2) (base := w.heap.size) (ok := fun k_ => (some k_ ≠ (.slice Ao51 t235.length co51 : Value).ownBlock ∧ (some k_ ≠ (.slice Ao58 t240.length co58 : Value).ownBlock ∧ some k_ ≠ (.slice Ao84 t262.length co84 : Value).ownBlock))) (n := t229.length) (c := co44) ?_).2.2; exact (by (with_reducible repeat (first | apply Kd.R_alloc | apply Kd.R_drewN | apply Kd.R_drew)); exact (Kd.R_mono (Kd.R_far (p := ⟨gb266, 1, none⟩) (Kd.R_far (p := ⟨gb266, 0, none⟩) (Kd.R_types HO231.out BK266.out (by decide)) (fun _ hk => hk.2) (.int .i64 t261)) (fun _ hk => hk.2) (.slice Ao84 t262.length co84)) (fun _ h_ => h_.1)))); (case side4 => exact (Kd.R_reads' HO231.out).2.1); rintro e w86 ⟨rfl, hb⟩; refine ⟨_, rfl, ?_⟩; have n0_ := Aside0.mk (Kd.R_below (by (with_reducible repeat (first | apply Kd.R_alloc | apply Kd.R_drewN | apply Kd.R_drew)); exact (Kd.R_mono (Kd.R_far (p := ⟨gb266, 1, none⟩) (Kd.R_far (p := ⟨gb266, 0, none⟩) (Kd.R_types HO231.out BK266.out (by decide)) (fun _ hk => hk.2) (.int .i64 t261)) (fun _ hk => hk.2) (.slice Ao84 t262.length co84)) (fun _ h_ => h_.1))) hb); have n1_ := Aside0.mk (Kd.R_below (by (with_reducible repeat (first | apply Kd.R_alloc | apply Kd.R_drewN | apply Kd.R_drew)); exact (Kd.R_mono (Kd.R_far (p := ⟨gb266, 1, none⟩) (Kd.R_far (p := ⟨gb266, 0, none⟩) (Kd.R_types HO237.out BK266.out (by decide)) (fun _ hk => hk.2) (.int .i64 t261)) (fun _ hk => hk.2) (.slice Ao84 t262.length co84)) (fun _ h_ => h_.1))) hb); have n2_ := Aside0.mk (Kd.R_below (by (with_reducible repeat (first | apply Kd.R_alloc | apply Kd.R_drewN | apply Kd.R_drew)); exact (Kd.R_mono (Kd.R_far (p := ⟨gb266, 1, none⟩) (Kd.R_far (p := ⟨gb266, 0, none⟩) (Kd.R_types HO242.out BK266.out (by decide)) (fun _ hk => hk.2) (.int .i64 t261)) (fun _ hk => hk.2) (.slice Ao84 t262.length co84)) (fun _ h_ => h_.1))) hb); have n3_ := Aside0.mk (Kd.R_below (by (with_reducible repeat (first | apply Kd.R_alloc | apply Kd.R_drewN | apply Kd.R_drew)); exact (Kd.R_mono (Kd.R_far (p := ⟨gb266, 1, none⟩) (Kd.R_far (p := ⟨gb266, 0, none⟩) (Kd.R_types HO264.out BK266.out (by decide)) (fun _ hk => hk.2) (.int .i64 t261)) (fun _ hk => hk.2) (.slice Ao84 t262.length co84)) (fun _ h_ => h_.1))) hb); have n4_ := Aside0.mk (blk_below (g := gb222) (o := .cells #[.int .i64 a0_0, .slice A0_1 l0_1.length c0_1] 24 (0, 0)) (by (with_reducible repeat (first | refine blk_drewN ?_ _ | refine blk_drew ?_ | refine blk_alloc ?_ _)); refine blk_far ?_ NB222_266.out _; (with_reducible repeat (first | refine blk_drewN ?_ _ | refine blk_drew ?_ | refine blk_alloc ?_ _)); refine blk_far ?_ NB222_266.out _; (with_reducible repeat (first | refine blk_drewN ?_ _ | refine blk_drew ?_ | refine blk_alloc ?_ _)); exact BK222.out) hb); have n5_ := Aside0.mk (blk_below (g := gb233) (o := .cells #[.int .i64 t228, .slice Ao44 t229.length co44] 26 (0, 0)) (by (with_reducible repeat (first | refine blk_drewN ?_ _ | refine blk_drew ?_ | refine blk_alloc ?_ _)); refine blk_far ?_ NB233_266.out _; (with_reducible repeat (first | refine blk_drewN ?_ _ | refine blk_drew ?_ | refine blk_alloc ?_ _)); refine blk_far ?_ NB233_266.out _; (with_reducible repeat (first | refine blk_drewN ?_ _ | refine blk_drew ?_ | refine blk_alloc ?_ _)); exact BK233.out) hb); have n6_ := Aside0.mk (blk_below (g := gb238) (o := .cells #[.int .i64 t234, .slice Ao51 t235.length co51] 26 (0, 0)) (by (with_reducible repeat (first | refine blk_drewN ?_ _ | refine blk_drew ?_ | refine blk_alloc ?_ _)); refine blk_far ?_ NB238_266.out _; (with_reducible repeat (first | refine blk_drewN ?_ _ | refine blk_drew ?_ | refine blk_alloc ?_ _)); refine blk_far ?_ NB238_266.out _; (with_reducible repeat (first | refine blk_drewN ?_ _ | refine blk_drew ?_ | refine blk_alloc ?_ _)); exact BK238.out) hb); have n7_ := Aside0.mk (blk_below (g := gb244) (o := .cells #[.int .i64 t239, .slice Ao58 t240.length co58] 26 (0, 0)) (by (with_reducible repeat (first | refine blk_drewN ?_ _ | refine blk_drew ?_ | refine blk_alloc ?_ _)); refine blk_far ?_ NB244_266.out _; (with_reducible repeat (first | refine blk_drewN ?_ _ | refine blk_drew ?_ | refine blk_alloc ?_ _)); refine blk_far ?_ NB244_266.out _; (with_reducible repeat (first | refine blk_drewN ?_ _ | refine blk_drew ?_ | refine blk_alloc ?_ _)); exact BK244.out) hb); have n8_ := Aside0.mk (blk_below (g := gb266) (o := .cells #[.int .i64 t261, .slice Ao84 t262.length co84] 26 (0, 0)) (by (with_reducible repeat (first | refine blk_drewN ?_ _ | refine blk_drew ?_ | refine blk_alloc ?_ _)); refine blk_put (cs := #[.int .i64 t261, .slice none 0 0]) ?_ 1 _ rfl; (with_reducible repeat (first | refine blk_drewN ?_ _ | refine blk_drew ?_ | refine blk_alloc ?_ _)); refine blk_put (cs := #[.int .i64 0, .slice none 0 0]) ?_ 0 _ rfl; (with_reducible repeat (first | refine blk_drewN ?_ _ | refine blk_drew ?_ | refine blk_alloc ?_ _)); exact BK266.out) hb); have n9_ := Aside0.mk (below_step (by repeat (first | (with_reducible first | exact HB.out | apply below_alloc | apply pw_below_drewN | apply below_drew1 | refine below_set ?_ GE222.out | refine below_set ?_ GE233.out | refine below_set ?_ GE238.out | refine below_set ?_ GE244.out | refine below_set ?_ GE266.out) | exact HB.out)) hb); clear HO231; clear HO237; clear HO242; clear HO264; clear BK222; clear BK233; clear BK238; clear BK244; clear BK266; clear HB; have HO231 := n0_; have HO237 := n1_; have HO242 := n2_; have HO264 := n3_; have BK222 := n4_; have BK233 := n5_; have BK238 := n6_; have BK244 := n7_; have BK266 := n8_; have HB := n9_; clear n0_ n1_ n2_ n3_ n4_ n5_ n6_ n7_ n8_ n9_; (try clear hb); (try clear hb2); (try clear hk); (try clear hi); have hcz87_0 : w86.cell? ⟨gb244, 0, none⟩ = some (.int .i64 t239) := (blk_cell BK244.out 0).trans rfl; have hcz87_1 : w86.cell? ⟨gb244, 1, none⟩ = some (.slice Ao58 t240.length co58) := (blk_cell BK244.out 1).trans rfl; have hfz87_0 := blk_frozen BK244.out 0; have hfz87_1 := blk_frozen BK244.out 1) | ((with_reducible refine gate_callee (f := 23) rfl ?_); refine goesL_ (some 95) rfl rfl Try.func23 (by kernel_rfl) rfl #[.agg #[.int .i64 t239, .slice Ao58 t255.length co58], .int .i64 1] rfl (by (try simp only [List.map_toArray, List.map_cons, List.map_nil]); first | done | (rw [show t255.length = t240.length from (Kd.R_reads' HO242.out).1.symm] <;> rfl) | rfl | (simp only [List.length_drop, List.length_take]; rfl)) ?_; (with_reducible refine (laws_heldComplex.calls k t239 _ _ t255 1 t268 _ ?side1 ?side2 A31.out).mono ?_); (case side1 => repeat (first | exact (Kd.R_reads' HO242.out).2.2 | (with_reducible refine Kd.C_alloc ?_ _) | (with_reducible refine Kd.C_drewN ?_ _) | (with_reducible refine Kd.C_drew ?_))); (case side2 => rw [show t255.length = t240.length from (Kd.R_reads' HO242.out).1.symm]; exact (Kd.R_reads' HO242.out).2.1); rintro e w88 ⟨rfl, hb⟩; refine ⟨_, rfl, ?_⟩; have n0_ := Aside0.mk (Kd.R_below (by (with_reducible repeat (first | apply Kd.R_alloc | apply Kd.R_drewN | apply Kd.R_drew)); exact HO231.out) hb); have n1_ := Aside0.mk (Kd.R_below (by (with_reducible repeat (first | apply Kd.R_alloc | apply Kd.R_drewN | apply Kd.R_drew)); exact HO237.out) hb); have n2_ := Aside0.mk (Kd.R_below (by (with_reducible repeat (first | apply Kd.R_alloc | apply Kd.R_drewN | apply Kd.R_drew)); exact HO242.out) hb); have n3_ := Aside0.mk (Kd.R_below (by (with_reducible repeat (first | apply Kd.R_alloc | apply Kd.R_drewN | apply Kd.R_drew)); exact HO264.out) hb); have n4_ := Aside0.mk (blk_below (g := gb222) (o := .cells #[.int .i64 a0_0, .slice A0_1 l0_1.length c0_1] 24 (0, 0)) (by (with_reducible repeat (first | refine blk_drewN ?_ _ | refine blk_drew ?_ | refine blk_alloc ?_ _)); exact BK222.out) hb); have n5_ := Aside0.mk (blk_below (g := gb233) (o := .cells #[.int .i64 t228, .slice Ao44 t229.length co44] 26 (0, 0)) (by (with_reducible repeat (first | refine blk_drewN ?_ _ | refine blk_drew ?_ | refine blk_alloc ?_ _)); exact BK233.out) hb); have n6_ := Aside0.mk (blk_below (g := gb238) (o := .cells #[.int .i64 t234, .slice Ao51 t235.length co51] 26 (0, 0)) (by (with_reducible repeat (first | refine blk_drewN ?_ _ | refine blk_drew ?_ | refine blk_alloc ?_ _)); exact BK238.out) hb); have n7_ := Aside0.mk (blk_below (g := gb244) (o := .cells #[.int .i64 t239, .slice Ao58 t240.length co58] 26 (0, 0)) (by (with_reducible repeat (first | refine blk_drewN ?_ _ | refine blk_drew ?_ | refine blk_alloc ?_ _)); exact BK244.out) hb); have n8_ := Aside0.mk (blk_below (g := gb266) (o := .cells #[.int .i64 t261, .slice Ao84 t262.length co84] 26 (0, 0)) (by (with_reducible repeat (first | refine blk_drewN ?_ _ | refine blk_drew ?_ | refine blk_alloc ?_ _)); exact BK266.out) hb); have n9_ := Aside0.mk (below_step (by repeat (first | (with_reducible first | exact HB.out | apply below_alloc | apply pw_below_drewN | apply below_drew1 | refine below_set ?_ GE222.out | refine below_set ?_ GE233.out | refine below_set ?_ GE238.out | refine below_set ?_ GE244.out | refine below_set ?_ GE266.out) | exact HB.out)) hb); clear HO231; clear HO237; clear HO242; clear HO264; clear BK222; clear BK233; clear BK238; clear BK244; clear BK266; clear HB; have HO231 := n0_; have HO237 := n1_; have HO242 := n2_; have HO264 := n3_; have BK222 := n4_; have BK233 := n5_; have BK238 := n6_; have BK244 := n7_; have BK266 := n8_; have HB := n9_; clear n0_ n1_ n2_ n3_ n4_ n5_ n6_ n7_ n8_ n9_; (try clear hb); (try clear hb2); (try clear hk); (try clear hi)))
                          go_ret
                          exact ⟨by first | rfl | (simp [errW_none, errW_some] <;> rfl) | (simp [*, errW_none, errW_some] <;> rfl), by repeat (first | (with_reducible first | exact HB.out | apply below_alloc | apply pw_below_drewN | apply below_drew1 | refine below_set ?_ GE222.out | refine below_set ?_ GE233.out | refine below_set ?_ GE238.out | refine below_set ?_ GE244.out | refine below_set ?_ GE266.out) | exact HB.out)⟩
                        · rw [if_neg c33] at H
                          exact absurd H (by simp)
                    · rw [if_neg c30] at H
                      exact absurd H (by simp)
                  · replace c29 := Bool.eq_false_iff.mpr c29
                    subst c29
                    have H1 : (none) = some r := by rw [if_neg (show ¬ (false = true) by decide)] at H; exact H
                    clear H
                    have H := H1
                    clear H1
                    exact absurd H (by simp)
                · rw [if_neg c25] at H
                  exact absurd H (by simp)
            · replace c21 := Bool.eq_false_iff.mpr c21
              subst c21
              have H1 : (none) = some r := by rw [if_neg (show ¬ (false = true) by decide)] at H; exact H
              clear H
              have H := H1
              clear H1
              exact absurd H (by simp)
        · replace c17 := Bool.eq_false_iff.mpr c17
          subst c17
          have H1 : (none) = some r := by rw [if_neg (show ¬ (false = true) by decide)] at H; exact H
          clear H
          have H := H1
          clear H1
          exact absurd H (by simp)
      · rw [if_neg c14] at H
        exact absurd H (by simp)
    · replace c13 := Bool.eq_false_iff.mpr c13
      subst c13
      have H1 : (none) = some r := by rw [if_neg (show ¬ (false = true) by decide)] at H; exact H
      clear H
      have H := H1
      clear H1
      exact absurd H (by simp)
end Go.Proofs.Ytnmhnkpijjmhjaa.QFnExactFlipOf
namespace Go.Proofs.Ytnmhnkpijjmhjaa.Pu
set_option linter.unusedVariables false
set_option linter.unusedSimpArgs false
open Go.RowKit Go.Proofs.Ytnmhnkpijjmhjaa.QS Go.Proofs.YtnmhnkpijjmhjaaW.PrintWords Go.Proofs.YtnmhnkpijjmhjaaW.PrintLast Go.Proofs.YtnmhnkpijjmhjaaW.PrintMore
theorem w64 {x : Int} (h1 : -9223372036854775808 ≤ x) (h2 : x ≤ 9223372036854775807) : wrap64 x = x := by unfold wrap64; omega
theorem rd_at {l : List Int} {i : Nat} (h : i < l.length) : rd l (i : Int) = l[i] := by simp [rd, List.getD_eq_getElem?_getD, List.getElem?_eq_getElem h]
theorem sz_big {n : Int} {l : List Int} (hm : l.length ≤ maxLen) (h : 1048576 < l.length) : laws_szComplex.f n l 1048576 = some (-1) := by
  unfold laws_szComplex.f laws_szInt64S.f
  simp only [maxLen] at hm
  rw [w64 (by omega) (by omega), if_pos (by omega)]
  rfl
theorem sz_ok {n : Int} {l : List Int} (h : l.length ≤ 1048576) : ∃ t, laws_szComplex.f n l 1048576 = some t ∧ ¬ t < 0 := by
  unfold laws_szComplex.f laws_szInt64S.f
  rw [w64 (by omega) (by omega), if_neg (by omega)]
  refine ⟨1048576 - l.length, ?_, by omega⟩
  simp only [Option.bind_some]
  rw [if_neg (by omega)]
theorem toInt_loop (l : List Int) (hl : l.length ≤ 1048576) : ∀ d (i : Nat) (x3 : List Int) k, l.length - i = d → d < k → i ≤ l.length → x3.length = l.length → (∀ j, j < i → x3[j]? = l[j]?) → laws_toInt64S.l0 k l x3 i = some l := by
  intro d
  induction d with
  | zero =>
    intro i x3 k hd hk hi hx hj
    obtain ⟨k, rfl⟩ : ∃ m, k = m + 1 := ⟨k - 1, by omega⟩
    simp only [laws_toInt64S.l0]
    rw [if_neg (by omega)]
    congr 1
    apply List.ext_getElem?
    intro j
    rcases Nat.lt_or_ge j i with h | h
    · exact hj j h
    · rw [List.getElem?_eq_none (by omega), List.getElem?_eq_none (by omega)]
  | succ d ih =>
    intro i x3 k hd hk hi hx hj
    obtain ⟨k, rfl⟩ : ∃ m, k = m + 1 := ⟨k - 1, by omega⟩
    simp only [laws_toInt64S.l0]
    rw [if_pos (by omega), if_pos (by omega), if_pos (by omega), w64 (by omega) (by omega)]
    refine ih (i + 1) _ k (by omega) (by omega) (by omega) (by simpa using hx) (fun j hji => ?_)
    rw [Int.toNat_natCast, List.getElem?_set]
    split
    · rename_i h
      subst h
      rw [if_pos (by omega), rd_at (by omega), List.getElem?_eq_getElem (by omega)]
    · exact hj j (by omega)
theorem ev_toInt {l : List Int} (hl : l.length ≤ 1048576) : Ev (fun k => laws_toInt64S.f k l) l := by
  refine ⟨l.length + 1, fun k hk => ?_⟩
  dsimp only
  unfold laws_toInt64S.f
  rw [if_pos (by omega), if_pos (by omega)]
  exact toInt_loop l hl l.length 0 _ k (by omega) (by omega) (by omega) (by simp) (fun j hj => absurd hj (Nat.not_lt_zero _))
theorem ev_toComplex {n : Int} {l : List Int} (hl : l.length ≤ 1048576) : Ev (fun k => laws_toComplex.f k n l) (n, l) := by
  unfold laws_toComplex.f
  exact Ev.bind (f := fun _ t => some (n, t)) (ev_toInt hl) (Ev.now _)
theorem eqInt_loop (l : List Int) (hl : l.length ≤ 1048576) : ∀ d (i : Nat) k, l.length - i = d → d < k → i ≤ l.length → laws_eqInt64S.l0 k l l i = some true := by
  intro d
  induction d with
  | zero =>
    intro i k hd hk hi
    obtain ⟨k, rfl⟩ : ∃ m, k = m + 1 := ⟨k - 1, by omega⟩
    simp only [laws_eqInt64S.l0]
    rw [if_neg (by omega)]
  | succ d ih =>
    intro i k hd hk hi
    obtain ⟨k, rfl⟩ : ∃ m, k = m + 1 := ⟨k - 1, by omega⟩
    simp only [laws_eqInt64S.l0]
    rw [if_pos (by omega), if_pos (by omega), if_pos (by omega), if_pos trivial, w64 (by omega) (by omega)]
    exact ih (i + 1) k (by omega) (by omega) (by omega)
theorem ev_eqInt {l : List Int} (hl : l.length ≤ 1048576) : Ev (fun k => laws_eqInt64S.f k l l) true := by
  refine ⟨l.length + 1, fun k hk => ?_⟩
  dsimp only
  unfold laws_eqInt64S.f
  rw [if_pos rfl]
  exact eqInt_loop l hl l.length 0 k (by omega) (by omega) (by omega)
theorem ev_eqComplex {n : Int} {l : List Int} (hl : l.length ≤ 1048576) : Ev (fun k => laws_eqComplex.f k n l n l) true := by
  unfold laws_eqComplex.f
  simp only [if_true]
  exact Ev.bind (f := fun _ t => if t = true then some true else some false) (ev_eqInt hl) (by simp only [if_true]; exact Ev.now _)
def marks (m : Nat) (a : Int) : List Int := (List.range m).map fun j : Nat => a + (j : Int)
theorem marks_len (m : Nat) (a : Int) : (marks m a).length = m := by simp [marks]
theorem marks_at {m : Nat} {a : Int} {j : Nat} (h : j < m) : (marks m a)[j]? = some (a + (j : Int)) := by simp [marks, h]
theorem mark_loop (n : Nat) (hl : n ≤ 1048576) (a : Int) (ha : 0 ≤ a ∧ a ≤ 1073741824) : ∀ d (i : Nat) (x0 : List Int) k, n - i = d → d < k → i ≤ n → x0.length = n → (∀ j, j < i → x0[j]? = some (a + (j : Int))) → laws_markInt64S.l0 k x0 (a + (i : Int)) i = some (a + (n : Int), marks n a) := by
  intro d
  induction d with
  | zero =>
    intro i x0 k hd hk hi hx hj
    obtain ⟨k, rfl⟩ : ∃ m, k = m + 1 := ⟨k - 1, by omega⟩
    simp only [laws_markInt64S.l0]
    rw [if_neg (by omega), show i = n by omega]
    congr 2
    apply List.ext_getElem?
    intro j
    rcases Nat.lt_or_ge j n with h | h
    · rw [hj j (by omega), marks_at h]
    · rw [List.getElem?_eq_none (by omega), List.getElem?_eq_none (by rw [marks_len]; omega)]
  | succ d ih =>
    intro i x0 k hd hk hi hx hj
    obtain ⟨k, rfl⟩ : ∃ m, k = m + 1 := ⟨k - 1, by omega⟩
    simp only [laws_markInt64S.l0]
    rw [if_pos (by omega), if_pos (by omega), w64 (by omega) (by omega), w64 (by omega) (by omega)]
    have := ih (i + 1) (x0.set (i : Int).toNat (a + i)) k (by omega) (by omega) (by omega) (by simpa using hx) (fun j hji => ?_)
    · rw [show ((i + 1 : Nat) : Int) = (i : Int) + 1 by omega, show a + ((i : Int) + 1) = a + (i : Int) + 1 by omega] at this
      exact this
    · rw [Int.toNat_natCast, List.getElem?_set]
      split
      · rename_i h
        subst h
        rw [if_pos (by omega)]
      · exact hj j (by omega)
theorem ev_mark {l : List Int} (hl : l.length ≤ 1048576) {a : Int} (ha : 0 ≤ a ∧ a ≤ 1073741824) : Ev (fun k => laws_markInt64S.f k l a) (a + (l.length : Int), marks l.length a) := by
  refine ⟨l.length + 1, fun k hk => ?_⟩
  dsimp only
  unfold laws_markInt64S.f
  have := mark_loop l.length hl a ha l.length 0 l k (by omega) (by omega) (by omega) rfl (fun j hj => absurd hj (Nat.not_lt_zero _))
  rw [show a + ((0 : Nat) : Int) = a by omega] at this
  exact this
theorem ev_markComplex {n : Int} {l : List Int} (hl : l.length ≤ 1048576) {a : Int} (ha : 0 ≤ a ∧ a ≤ 1073741824) : Ev (fun k => laws_markComplex.f k n l a) (a + (l.length : Int), marks l.length a) := by
  unfold laws_markComplex.f
  exact Ev.bind (f := fun _ t => some (t.1, t.2)) (ev_mark hl ha) (Ev.now _)
theorem held_loop (n : Nat) (hl : n ≤ 1048576) (a : Int) (ha : 0 ≤ a ∧ a ≤ 1073741824) : ∀ d (i : Nat) k, n - i = d → d < k → i ≤ n → laws_heldInt64S.l0 k (marks n a) (a + (i : Int)) i = some (a + (n : Int)) := by
  intro d
  induction d with
  | zero =>
    intro i k hd hk hi
    obtain ⟨k, rfl⟩ : ∃ m, k = m + 1 := ⟨k - 1, by omega⟩
    simp only [laws_heldInt64S.l0]
    rw [marks_len, if_neg (by omega), show i = n by omega]
  | succ d ih =>
    intro i k hd hk hi
    obtain ⟨k, rfl⟩ : ∃ m, k = m + 1 := ⟨k - 1, by omega⟩
    simp only [laws_heldInt64S.l0]
    have h0 : rd (marks n a) (i : Int) = a + (i : Int) := by
      rw [rd_at (by rw [marks_len]; omega)]
      have := marks_at (m := n) (a := a) (j := i) (by omega)
      rw [List.getElem?_eq_getElem (by rw [marks_len]; omega)] at this
      exact Option.some.inj this
    rw [marks_len, if_pos (by omega), if_pos (by omega), if_pos h0, w64 (by omega) (by omega), w64 (by omega) (by omega)]
    have := ih (i + 1) k (by omega) (by omega) (by omega)
    rw [show ((i + 1 : Nat) : Int) = (i : Int) + 1 by omega, show a + ((i : Int) + 1) = a + (i : Int) + 1 by omega] at this
    exact this
theorem ev_held {n : Nat} (hl : n ≤ 1048576) {a : Int} (ha : 0 ≤ a ∧ a ≤ 1073741824) : Ev (fun k => laws_heldInt64S.f k (marks n a) a) (a + (n : Int)) := by
  refine ⟨n + 1, fun k hk => ?_⟩
  dsimp only
  unfold laws_heldInt64S.f
  have := held_loop n hl a ha n 0 k (by omega) (by omega) (by omega)
  rw [show a + ((0 : Nat) : Int) = a by omega] at this
  exact this
theorem ev_heldComplex {c : Int} {n : Nat} (hl : n ≤ 1048576) {a : Int} (ha : 0 ≤ a ∧ a ≤ 1073741824) : Ev (fun k => laws_heldComplex.f k c (marks n a) a) (a + (n : Int)) := by
  unfold laws_heldComplex.f
  exact Ev.bind (f := fun _ t => if t < 0 then some (-1) else some t) (ev_held hl ha) (by rw [if_neg (by omega)]; exact Ev.now _)
end Go.Proofs.Ytnmhnkpijjmhjaa.Pu
namespace Go.Proofs.Ytnmhnkpijjmhjaa.Pu
set_option linter.unusedVariables false
set_option linter.unusedSimpArgs false
open Go.RowKit Go.Proofs.Ytnmhnkpijjmhjaa.QS Go.Proofs.Ytnmhnkpijjmhjaa.Im Go.Proofs.YtnmhnkpijjmhjaaW.PrintWords Go.Proofs.YtnmhnkpijjmhjaaW.PrintLast Go.Proofs.YtnmhnkpijjmhjaaW.PrintMore
theorem in_eq (a b c : Int) : spec_l01In.f a b c = some (withinB a b c) := by
  unfold spec_l01In.f withinB
  by_cases h : a ≥ b
  · rw [if_pos h, decide_eq_true (show b ≤ a by omega)]; rfl
  · rw [if_neg h, decide_eq_false (show ¬ b ≤ a by omega)]; rfl
theorem all_eq {n : Int} (h1 : 1 ≤ n) (h6 : n ≤ 6) : spec_l01All.f n = some (fullZ n) := by
  obtain rfl | rfl | rfl | rfl | rfl | rfl : n = 1 ∨ n = 2 ∨ n = 3 ∨ n = 4 ∨ n = 5 ∨ n = 6 := by omega
  all_goals decide +kernel
theorem below_all : ((List.range 64).all fun f => f == 0 || spec_l01Below.f 70 (f : Int) == some (bordersL (f : Int))) = true := by decide +kernel
theorem ev_below {f : Int} (h1 : 1 ≤ f) (h2 : f ≤ 63) : Ev (fun k => spec_l01Below.f k f) (bordersL f) := by
  obtain ⟨m, rfl⟩ := Int.eq_ofNat_of_zero_le (show 0 ≤ f by omega)
  have h := List.all_eq_true.1 below_all m (List.mem_range.2 (by omega))
  have h0 : (m == 0) = false := by simp; omega
  rw [h0, Bool.false_or] at h
  exact Ev.of (fun k => spec_l01Below.mono _ k) (k := 70) (by simpa using h)
theorem has_loop (n x : Int) (l : List Int) (hl : l.length ≤ maxLen) : ∀ d (i : Nat) k, l.length - i = d → d < k → i ≤ l.length → spec_l01Has.l0 k x i n l = some (decide (x ∈ l.drop i)) := by
  simp only [maxLen] at hl
  intro d
  induction d with
  | zero =>
    intro i k hd hk hi
    obtain ⟨k, rfl⟩ : ∃ m, k = m + 1 := ⟨k - 1, by omega⟩
    simp only [spec_l01Has.l0]
    rw [if_neg (by omega), List.drop_eq_nil_of_le (by omega)]
    rfl
  | succ d ih =>
    intro i k hd hk hi
    obtain ⟨k, rfl⟩ : ∃ m, k = m + 1 := ⟨k - 1, by omega⟩
    simp only [spec_l01Has.l0]
    rw [if_pos (by omega), if_pos (by omega), rd_at (show i < l.length by omega), List.drop_eq_getElem_cons (show i < l.length by omega)]
    by_cases hx : l[i] = x
    · rw [if_pos hx, hx]; simp
    · rw [if_neg hx, w64 (by omega) (by omega)]
      have := ih (i + 1) k (by omega) (by omega) (by omega)
      rw [show ((i + 1 : Nat) : Int) = (i : Int) + 1 by omega] at this
      rw [this]
      exact congrArg some (decide_eq_decide.2 ⟨fun h => List.mem_cons.2 (Or.inr h), fun h => (List.mem_cons.1 h).resolve_left (Ne.symm hx)⟩)
theorem ev_has {l : List Int} (hl : l.length ≤ maxLen) (n x : Int) : Ev (fun k => spec_l01Has.f k n l x) (decide (x ∈ l)) := by
  refine ⟨l.length + 1, fun k hk => ?_⟩
  dsimp only
  unfold spec_l01Has.f
  have := has_loop n x l hl l.length 0 k (by omega) (by omega) (by omega)
  rwa [List.drop_zero] at this
theorem is_l2 (n : Int) (l b : List Int) (hl : l.length ≤ maxLen) (hb : b.length ≤ maxLen) (x4 : Int) (R : Bool) (hR : Ev (fun k => spec_l01Is.l1 k (wrap64 (x4 + 1)) n l) R) :
    ∀ d (j : Nat), b.length - j = d → j ≤ b.length → Ev (fun k => spec_l01Is.l2 k x4 b j n l) (((b.drop j).all fun y => decide (y ∈ l)) && R) := by
  simp only [maxLen] at hb
  intro d
  induction d with
  | zero =>
    intro j hd hj
    refine Ev.step (f := fun k => spec_l01Is.l1 k (wrap64 (x4 + 1)) n l) (fun k => ?_) ?_
    · simp only [spec_l01Is.l2]; rw [if_neg (by omega)]
    · rw [List.drop_eq_nil_of_le (by omega)]; exact hR
  | succ d ih =>
    intro j hd hj
    refine Ev.step (f := fun k => (spec_l01Has.f k n l b[j]).bind fun t => if t = true then spec_l01Is.l2 k x4 b ((j + 1 : Nat) : Int) n l else some false) (fun k => ?_) ?_
    · simp only [spec_l01Is.l2]
      rw [if_pos (by omega), if_pos (by omega), rd_at (show j < b.length by omega), w64 (by omega) (by omega), show ((j + 1 : Nat) : Int) = (j : Int) + 1 by omega]
    · refine Ev.bind (ev_has hl n b[j]) ?_
      rw [List.drop_eq_getElem_cons (show j < b.length by omega), List.all_cons]
      by_cases hm : b[j] ∈ l
      · rw [decide_eq_true hm]
        simp only [if_true, Bool.true_and]
        exact ih (j + 1) (by omega) (by omega)
      · rw [decide_eq_false hm]
        simp only [Bool.false_and]
        exact Ev.now _
theorem borders_len6 {f : Int} : (bordersL f).length ≤ 6 := by
  unfold bordersL
  refine Nat.le_trans (bordersOf_len _ _) ?_
  rw [upto_length]
  exact verts_len f
theorem is_l1 (n : Int) (l : List Int) (hl : l.length ≤ maxLen) (hr : ∀ x ∈ l, 1 ≤ x ∧ x ≤ 63) :
    ∀ d (i : Nat), l.length - i = d → i ≤ l.length → Ev (fun k => spec_l01Is.l1 k i n l) ((l.drop i).all fun f => (bordersL f).all fun y => decide (y ∈ l)) := by
  have hl' := hl
  simp only [maxLen] at hl'
  intro d
  induction d with
  | zero =>
    intro i hd hi
    refine Ev.step (f := fun k => some true) (fun k => ?_) ?_
    · simp only [spec_l01Is.l1]; rw [if_neg (by omega)]
    · rw [List.drop_eq_nil_of_le (by omega)]; exact Ev.now _
  | succ d ih =>
    intro i hd hi
    have hi' : i < l.length := by omega
    refine Ev.step (f := fun k => (spec_l01Below.f k l[i]).bind fun t => spec_l01Is.l2 k i t 0 n l) (fun k => ?_) ?_
    · simp only [spec_l01Is.l1]
      rw [if_pos (by omega), if_pos (by omega), rd_at hi']
    · have hx := hr l[i] (List.getElem_mem hi')
      refine Ev.bind (ev_below hx.1 hx.2) ?_
      have h1 := ih (i + 1) (by omega) (by omega)
      rw [show ((i + 1 : Nat) : Int) = wrap64 ((i : Int) + 1) by rw [w64 (by omega) (by omega)]; omega] at h1
      have h2 := is_l2 n l (bordersL l[i]) hl (by have := @borders_len6 l[i]; simp only [maxLen]; omega) i _ h1 _ 0 rfl (Nat.zero_le _)
      rw [List.drop_zero] at h2
      rw [List.drop_eq_getElem_cons hi', List.all_cons]
      exact h2
theorem is_l0 (n : Int) (h1 : 1 ≤ n) (h6 : n ≤ 6) (l : List Int) (hl : l.length ≤ maxLen) :
    ∀ d (i : Nat), l.length - i = d → i ≤ l.length → (∀ j, j < i → okAt n l j = true) → Ev (fun k => spec_l01Is.l0 k i n l) (ascB n l && closedB l) := by
  have hl' := hl
  simp only [maxLen] at hl'
  have hF := fullZ_le h1 h6
  intro d
  induction d with
  | zero =>
    intro i hd hi hj
    refine Ev.step (f := fun k => spec_l01Is.l1 k 0 n l) (fun k => ?_) ?_
    · simp only [spec_l01Is.l0]; rw [if_neg (by omega)]
    · have ha : ∀ j, j < l.length → okAt n l j = true := fun j h => hj j (by omega)
      rw [ascB_yes ha, Bool.true_and]
      have hr : ∀ x ∈ l, 1 ≤ x ∧ x ≤ 63 := by
        intro x hx
        obtain ⟨j, hj', rfl⟩ := List.mem_iff_getElem.1 hx
        have := ha j hj'
        simp only [okAt, withinB, Bool.and_eq_true, decide_eq_true_eq, List.getElem?_eq_getElem hj', Option.getD_some] at this
        omega
      have := is_l1 n l hl hr l.length 0 (by omega) (Nat.zero_le _)
      rw [List.drop_zero] at this
      exact this
  | succ d ih =>
    intro i hd hi hj
    have hi' : i < l.length := by omega
    refine Ev.step (f := fun k => if okAt n l i = true then spec_l01Is.l0 k ((i + 1 : Nat) : Int) n l else some false) (fun k => ?_) ?_
    · simp only [spec_l01Is.l0]
      rw [if_pos (by omega), if_pos (by omega), all_eq h1 h6]
      simp only [Option.bind_some, in_eq, rd_at hi']
      have hg : l[i]?.getD 0 = l[i] := by rw [List.getElem?_eq_getElem hi']; rfl
      unfold okAt
      rw [hg]
      rw [show wrap64 ((i : Int) + 1) = ((i + 1 : Nat) : Int) by rw [w64 (by omega) (by omega)]; omega]
      cases hw : withinB l[i] 1 (fullZ n) with
      | false => simp
      | true =>
        simp only [if_true, Bool.true_and]
        rcases Nat.eq_zero_or_pos i with hz | hz
        · subst hz; simp
        · have hp : l[i - 1]?.getD 0 = l[i - 1] := by rw [List.getElem?_eq_getElem (by omega)]; rfl
          have hb : (i == 0) = false := by simp; omega
          rw [if_pos (by omega), w64 (by omega) (by omega), if_pos (by omega), if_pos (by omega), hp, hb, Bool.false_or, show ((i : Int) - 1) = ((i - 1 : Nat) : Int) by omega, rd_at (show i - 1 < l.length by omega)]
          by_cases hle : l[i] ≤ l[i - 1]
          · rw [if_pos hle, decide_eq_false (by omega)]; simp
          · rw [if_neg hle, decide_eq_true (by omega)]; simp
    · cases ho : okAt n l i with
      | true =>
        simp only [if_true]
        exact ih (i + 1) (by omega) (by omega) (okAt_next hj ho)
      | false =>
        rw [ascB_no hi' ho]
        simp only [Bool.false_and]
        exact Ev.now _
/-- IsComplex, the reference's. -/
theorem ev_is (n : Int) {l : List Int} (hl : l.length ≤ maxLen) : Ev (fun k => spec_l01Is.f k n l) (isC n l) := by
  unfold spec_l01Is.f isC
  simp only [in_eq, Option.bind_some]
  cases hw : withinB n 1 6 with
  | false => simp only [Bool.false_and]; exact Ev.now _
  | true =>
    simp only [if_true, Bool.true_and]
    have hn : 1 ≤ n ∧ n ≤ 6 := by simpa [withinB] using hw
    exact is_l0 n hn.1 hn.2 l hl l.length 0 (by omega) (Nat.zero_le _) (fun j hj => absurd hj (Nat.not_lt_zero _))
end Go.Proofs.Ytnmhnkpijjmhjaa.Pu
namespace Go.Proofs.Ytnmhnkpijjmhjaa.QS
open Go.Proofs.Ytnmhnkpijjmhjaa.Kp Go.Proofs.Ytnmhnkpijjmhjaa.Ext Go.RowKit Go.Proofs.YtnmhnkpijjmhjaaW.PrintWords Go.Proofs.YtnmhnkpijjmhjaaW.PrintLast Go.Proofs.YtnmhnkpijjmhjaaW.PrintMore
attribute [local go_sem] max2_int min2_int max_two min_two max_three min_three max_four min_four   -- for this text's walks alone
set_option linter.unusedVariables false
set_option linter.unusedSimpArgs false
end Go.Proofs.Ytnmhnkpijjmhjaa.QS
namespace Go.Proofs.Ytnmhnkpijjmhjaa.QS
open Go.Proofs.Ytnmhnkpijjmhjaa.Kp Go.Proofs.Ytnmhnkpijjmhjaa.Ext Go.RowKit Go.Proofs.YtnmhnkpijjmhjaaW.PrintWords Go.Proofs.YtnmhnkpijjmhjaaW.PrintLast Go.Proofs.YtnmhnkpijjmhjaaW.PrintMore
attribute [local go_sem] max2_int min2_int max_two min_two max_three min_three max_four min_four   -- for this text's walks alone
set_option linter.unusedVariables false
set_option linter.unusedSimpArgs false
end Go.Proofs.Ytnmhnkpijjmhjaa.QS
namespace Go.Proofs.Ytnmhnkpijjmhjaa.Pu
set_option linter.unusedVariables false
set_option linter.unusedSimpArgs false
open Go.RowKit Go.Proofs.Ytnmhnkpijjmhjaa.QS Go.Proofs.Ytnmhnkpijjmhjaa.Im Go.Proofs.YtnmhnkpijjmhjaaW.PrintWords Go.Proofs.YtnmhnkpijjmhjaaW.PrintLast Go.Proofs.YtnmhnkpijjmhjaaW.PrintMore
theorem ones_all : ((List.range 64).all fun f => spec_l01Ones.f 8 (f : Int) == some (onesZ (f : Int))) = true := by decide +kernel
theorem ev_ones {x : Int} (h0 : 0 ≤ x) (h6 : x ≤ 63) : Ev (fun k => spec_l01Ones.f k x) (onesZ x) := by
  obtain ⟨m, rfl⟩ := Int.eq_ofNat_of_zero_le h0
  exact Ev.of (fun k => spec_l01Ones.mono _ k) (eq_of_beq (List.all_eq_true.1 ones_all m (List.mem_range.2 (by omega))))
theorem ones_le (x : Int) : 0 ≤ onesZ x ∧ onesZ x ≤ 6 := by
  have : (verts x).length ≤ 6 := verts_len x
  unfold onesZ; omega
end Go.Proofs.Ytnmhnkpijjmhjaa.Pu
namespace Go.Proofs.Ytnmhnkpijjmhjaa.QS
open Go.Proofs.Ytnmhnkpijjmhjaa.Kp Go.Proofs.Ytnmhnkpijjmhjaa.Ext Go.RowKit Go.Proofs.YtnmhnkpijjmhjaaW.PrintWords Go.Proofs.YtnmhnkpijjmhjaaW.PrintLast Go.Proofs.YtnmhnkpijjmhjaaW.PrintMore
attribute [local go_sem] max2_int min2_int max_two min_two max_three min_three max_four min_four   -- for this text's walks alone
set_option linter.unusedVariables false
set_option linter.unusedSimpArgs false
end Go.Proofs.Ytnmhnkpijjmhjaa.QS
namespace Go.Proofs.Ytnmhnkpijjmhjaa.QS
open Go.Proofs.Ytnmhnkpijjmhjaa.Kp Go.Proofs.Ytnmhnkpijjmhjaa.Ext Go.RowKit Go.Proofs.YtnmhnkpijjmhjaaW.PrintWords Go.Proofs.YtnmhnkpijjmhjaaW.PrintLast Go.Proofs.YtnmhnkpijjmhjaaW.PrintMore
attribute [local go_sem] max2_int min2_int max_two min_two max_three min_three max_four min_four   -- for this text's walks alone
set_option linter.unusedVariables false
set_option linter.unusedSimpArgs false
end Go.Proofs.Ytnmhnkpijjmhjaa.QS
namespace Go.Proofs.Ytnmhnkpijjmhjaa.QS
open Go.Proofs.Ytnmhnkpijjmhjaa.Kp Go.Proofs.Ytnmhnkpijjmhjaa.Ext Go.RowKit Go.Proofs.YtnmhnkpijjmhjaaW.PrintWords Go.Proofs.YtnmhnkpijjmhjaaW.PrintLast Go.Proofs.YtnmhnkpijjmhjaaW.PrintMore
attribute [local go_sem] max2_int min2_int max_two min_two max_three min_three max_four min_four   -- for this text's walks alone
set_option linter.unusedVariables false
set_option linter.unusedSimpArgs false
end Go.Proofs.Ytnmhnkpijjmhjaa.QS
namespace Go.Proofs.Ytnmhnkpijjmhjaa.Pu
set_option linter.unusedVariables false
set_option linter.unusedSimpArgs false
open Go.RowKit Go.Proofs.Ytnmhnkpijjmhjaa.QS Go.Proofs.Ytnmhnkpijjmhjaa.Im Go.Proofs.YtnmhnkpijjmhjaaW.PrintWords Go.Proofs.YtnmhnkpijjmhjaaW.PrintLast Go.Proofs.YtnmhnkpijjmhjaaW.PrintMore
theorem sub_all : ((List.range 64).all fun f => (List.range 64).all fun g => (Go.bits .andNot .i64 (f : Int) (g : Int) == 0) == (Go.bits .and .i64 (g : Int) (f : Int) == (f : Int))) = true := by decide +kernel
theorem sub_eq {f g : Int} (hf : 0 ≤ f ∧ f ≤ 63) (hg : 0 ≤ g ∧ g ≤ 63) : (Go.bits .andNot .i64 f g == 0) = (Go.bits .and .i64 g f == f) := by
  obtain ⟨a, rfl⟩ := Int.eq_ofNat_of_zero_le hf.1
  obtain ⟨b, rfl⟩ := Int.eq_ofNat_of_zero_le hg.1
  exact eq_of_beq (List.all_eq_true.1 (List.all_eq_true.1 sub_all a (List.mem_range.2 (by omega))) b (List.mem_range.2 (by omega)))
end Go.Proofs.Ytnmhnkpijjmhjaa.Pu
namespace Go.Proofs.Ytnmhnkpijjmhjaa.Pu
set_option linter.unusedVariables false
set_option linter.unusedSimpArgs false
open Go.RowKit Go.Proofs.Ytnmhnkpijjmhjaa.QS Go.Proofs.Ytnmhnkpijjmhjaa.Im Go.Proofs.YtnmhnkpijjmhjaaW.PrintWords Go.Proofs.YtnmhnkpijjmhjaaW.PrintLast Go.Proofs.YtnmhnkpijjmhjaaW.PrintMore
theorem take_loop (n c : Int) (l : List Int) (hl : l.length ≤ 64) : ∀ d (i : Nat) (acc : List Int), l.length - i = d → i ≤ l.length → acc.length ≤ 100000 + i →
    Ev (fun k => spec_l01Take.l0 k c i n l n acc) (n, acc ++ (l.drop i).filter (outP c)) := by
  intro d
  induction d with
  | zero =>
    intro i acc hd hi ha
    rw [List.drop_eq_nil_of_le (by omega), List.filter_nil, List.append_nil]
    refine Ev.step (f := fun k => some (n, acc)) (fun k => ?_) (Ev.now _)
    simp only [spec_l01Take.l0]; rw [if_neg (by omega)]
  | succ d ih =>
    intro i acc hd hi ha
    have hi' : i < l.length := by omega
    rw [List.drop_eq_getElem_cons hi']
    by_cases hc : Go.bits .and .i64 l[i] c = c
    · refine Ev.step (f := fun k => spec_l01Take.l0 k c ((i + 1 : Nat) : Int) n l n acc) (fun k => ?_) ?_
      · simp only [spec_l01Take.l0]
        rw [if_pos (by omega), if_pos (by omega), rd_at hi', if_pos hc, w64 (by omega) (by omega), show ((i + 1 : Nat) : Int) = (i : Int) + 1 by omega]
      · rw [List.filter_cons_of_neg (by simp [outP, hc])]
        exact ih (i + 1) acc (by omega) (by omega) (by omega)
    · refine Ev.step (f := fun k => spec_l01Take.l0 k c ((i + 1 : Nat) : Int) n l n (acc ++ [l[i]])) (fun k => ?_) ?_
      · simp only [spec_l01Take.l0]
        rw [if_pos (by omega), if_pos (by omega), rd_at hi', if_neg hc, if_pos (by omega), w64 (by omega) (by omega), show ((i + 1 : Nat) : Int) = (i : Int) + 1 by omega]
      · rw [List.filter_cons_of_pos (by simp [outP, hc])]
        have := ih (i + 1) (acc ++ [l[i]]) (by omega) (by omega) (by rw [List.length_append]; simp; omega)
        rw [List.append_assoc] at this
        exact this
theorem ev_take {n : Int} {l : List Int} (h : isC n l = true) (c : Int) : Ev (fun k => spec_l01Take.f k n l c) (n, partL n l (outP c)) := by
  have := take_loop n c l (isC_len h) _ 0 [] rfl (Nat.zero_le _) (by simp)
  rw [List.drop_zero, List.nil_append] at this
  rw [partL_eq h]
  exact this
end Go.Proofs.Ytnmhnkpijjmhjaa.Pu
namespace Go.Proofs.Ytnmhnkpijjmhjaa.QS
open Go.Proofs.Ytnmhnkpijjmhjaa.Kp Go.Proofs.Ytnmhnkpijjmhjaa.Ext Go.RowKit Go.Proofs.YtnmhnkpijjmhjaaW.PrintWords Go.Proofs.YtnmhnkpijjmhjaaW.PrintLast Go.Proofs.YtnmhnkpijjmhjaaW.PrintMore
attribute [local go_sem] max2_int min2_int max_two min_two max_three min_three max_four min_four   -- for this text's walks alone
set_option linter.unusedVariables false
set_option linter.unusedSimpArgs false
end Go.Proofs.Ytnmhnkpijjmhjaa.QS
namespace Go.Proofs.Ytnmhnkpijjmhjaa.Pu
set_option linter.unusedVariables false
set_option linter.unusedSimpArgs false
open Go.RowKit Go.Proofs.Ytnmhnkpijjmhjaa.QS Go.Proofs.Ytnmhnkpijjmhjaa.Im Go.Proofs.YtnmhnkpijjmhjaaW.PrintWords Go.Proofs.YtnmhnkpijjmhjaaW.PrintLast Go.Proofs.YtnmhnkpijjmhjaaW.PrintMore
theorem ev_face (n v : Int) {l : List Int} (hl : l.length ≤ maxLen) : Ev (fun k => spec_l01Face.f k n l v) (codeOf (isC n l) (decide (v ∈ l))) := by
  unfold spec_l01Face.f
  refine Ev.bind (ev_is n hl) ?_
  unfold codeOf
  cases hi : isC n l with
  | false => simp only [Bool.false_eq_true, if_false]; exact Ev.now _
  | true =>
    simp only [if_true]
    refine Ev.bind (ev_has hl n v) ?_
    by_cases hv : v ∈ l
    · rw [decide_eq_true hv]; simp only [if_true]; exact Ev.now _
    · rw [decide_eq_false hv]; simp only [Bool.false_eq_true, if_false]; exact Ev.now _
end Go.Proofs.Ytnmhnkpijjmhjaa.Pu
namespace Go.Proofs.Ytnmhnkpijjmhjaa.Pu
set_option linter.unusedVariables false
set_option linter.unusedSimpArgs false
open Go.RowKit Go.Proofs.Ytnmhnkpijjmhjaa.QS Go.Proofs.Ytnmhnkpijjmhjaa.Im Go.Proofs.YtnmhnkpijjmhjaaW.PrintWords Go.Proofs.YtnmhnkpijjmhjaaW.PrintLast Go.Proofs.YtnmhnkpijjmhjaaW.PrintMore
theorem missing_l1 (n : Int) (l b : List Int) (hl : l.length ≤ maxLen) (hb : b.length ≤ 6) (x3 : List Int) (h3 : x3.length ≤ 64) (x4 : Int) (R : List Int) :
    ∀ d (j : Nat) (q : Bool), b.length - j = d → j ≤ b.length → Ev (fun k => spec_l07Missing.l0 k (if q && (b.drop j).all fun y => decide (y ∈ l) then x3 ++ [x4] else x3) (wrap64 (x4 + 1)) n l) R → Ev (fun k => spec_l07Missing.l1 k x3 x4 q b j n l) R := by
  intro d
  induction d with
  | zero =>
    intro j q hd hj hR
    rw [List.drop_eq_nil_of_le (by omega), List.all_nil, Bool.and_true] at hR
    cases q with
    | false =>
      refine Ev.step (f := fun k => spec_l07Missing.l0 k x3 (wrap64 (x4 + 1)) n l) (fun k => ?_) hR
      simp only [spec_l07Missing.l1]; rw [if_neg (by omega)]; rfl
    | true =>
      refine Ev.step (f := fun k => spec_l07Missing.l0 k (x3 ++ [x4]) (wrap64 (x4 + 1)) n l) (fun k => ?_) hR
      simp only [spec_l07Missing.l1]; rw [if_neg (by omega), if_pos trivial, if_pos (by omega)]
  | succ d ih =>
    intro j q hd hj hR
    rw [List.drop_eq_getElem_cons (show j < b.length by omega), List.all_cons, ← Bool.and_assoc] at hR
    cases q with
    | false =>
      refine Ev.step (f := fun k => spec_l07Missing.l1 k x3 x4 false b ((j + 1 : Nat) : Int) n l) (fun k => ?_) ?_
      · simp only [spec_l07Missing.l1]
        rw [if_pos (by omega), w64 (by omega) (by omega), show ((j + 1 : Nat) : Int) = (j : Int) + 1 by omega]; rfl
      · exact ih (j + 1) false (by omega) (by omega) (by simpa using hR)
    | true =>
      refine Ev.step (f := fun k => (spec_l01Has.f k n l b[j]).bind fun t => spec_l07Missing.l1 k x3 x4 t b ((j + 1 : Nat) : Int) n l) (fun k => ?_) ?_
      · simp only [spec_l07Missing.l1]
        rw [if_pos (by omega), if_pos trivial, if_pos (by omega), rd_at (show j < b.length by omega), w64 (by omega) (by omega), show ((j + 1 : Nat) : Int) = (j : Int) + 1 by omega]
      · refine Ev.bind (ev_has hl n b[j]) ?_
        exact ih (j + 1) _ (by omega) (by omega) (by simpa using hR)
theorem missing_loop {n : Int} (h1 : 1 ≤ n) (h6 : n ≤ 6) {l : List Int} (hl : l.length ≤ maxLen) : ∀ d (i : Nat), 2 ^ n.toNat - i = d → 1 ≤ i → i ≤ 2 ^ n.toNat →
    Ev (fun k => spec_l07Missing.l0 k (thoseUpto (missP l) i) i n l) (missL n l) := by
  have hF := fullZ_le h1 h6
  have hk := full_nat h1 h6
  intro d
  induction d with
  | zero =>
    intro i hd hi1 hi
    refine Ev.step (f := fun k => some (thoseUpto (missP l) i)) (fun k => ?_) ?_
    · simp only [spec_l07Missing.l0, all_eq h1 h6, Option.bind_some]; rw [if_neg (by omega)]
    · have : missL n l = thoseUpto (missP l) i := by
        have e : i = 2 ^ n.toNat := by omega
        subst e; rfl
      rw [this]; exact Ev.now _
  | succ d ih =>
    intro i hd hi1 hi
    refine Ev.step (f := fun k => (spec_l01Has.f k n l (i : Int)).bind fun t180 => (if t180 = true then (spec_l07Missing.l0 k (thoseUpto (missP l) i) (wrap64 ((i : Int) + 1)) n l) else ((spec_l01Below.f k (i : Int)).bind fun t181 => (spec_l07Missing.l1 k (thoseUpto (missP l) i) (i : Int) true t181 0 n l)))) (fun k => ?_) ?_
    · simp only [spec_l07Missing.l0, all_eq h1 h6, Option.bind_some]
      rw [if_pos (by omega)]
    · refine Ev.bind (ev_has hl n (i : Int)) ?_
      have hn := ih (i + 1) (by omega) (by omega) (by omega)
      rw [show ((i + 1 : Nat) : Int) = wrap64 ((i : Int) + 1) by rw [w64 (by omega) (by omega)]; omega] at hn
      by_cases hm : (i : Int) ∈ l
      · rw [decide_eq_true hm]
        simp only [if_true]
        rw [thoseUpto_no hi1 (by simp [missP, hm])] at hn
        exact hn
      · rw [decide_eq_false hm]
        simp only [Bool.false_eq_true, if_false]
        refine Ev.bind (ev_below (by omega) (by omega)) ?_
        refine missing_l1 n l _ hl borders_len6 _ (Nat.le_trans (thoseUpto_len _ _) (by omega)) _ _ _ 0 true rfl (Nat.zero_le _) ?_
        rw [List.drop_zero, Bool.true_and]
        have hp : missP l (i : Int) = (bordersL (i : Int)).all fun y => decide (y ∈ l) := by simp [missP, hm]
        cases hq : (bordersL (i : Int)).all fun y => decide (y ∈ l) with
        | true =>
          simp only [if_true]
          rw [thoseUpto_yes hi1 (by rw [hp]; exact hq)] at hn
          exact hn
        | false =>
          simp only [Bool.false_eq_true, if_false]
          rw [thoseUpto_no hi1 (by rw [hp]; exact hq)] at hn
          exact hn
theorem ev_miss {n : Int} {l : List Int} (hi : isC n l = true) (hl : l.length ≤ maxLen) : Ev (fun k => spec_l07Missing.f k n l) (missL n l) := by
  obtain ⟨⟨h1, h6⟩, _, _⟩ := isC_of hi
  exact missing_loop h1 h6 hl _ 1 rfl (Nat.le_refl _) (Nat.one_le_two_pow)
end Go.Proofs.Ytnmhnkpijjmhjaa.Pu
namespace Go.Proofs.Ytnmhnkpijjmhjaa.Pu
set_option linter.unusedVariables false
set_option linter.unusedSimpArgs false
open Go.RowKit Go.Proofs.Ytnmhnkpijjmhjaa.Kp Go.Proofs.Ytnmhnkpijjmhjaa.QS Go.Proofs.Ytnmhnkpijjmhjaa.Im Go.Proofs.Ytnmhnkpijjmhjaa.Ext Go.Proofs.Ytnmhnkpijjmhjaa.QFnExactFlipOf Go.Proofs.YtnmhnkpijjmhjaaW.PrintWords Go.Proofs.YtnmhnkpijjmhjaaW.PrintLast Go.Proofs.YtnmhnkpijjmhjaaW.PrintMore
theorem isIn_flip : ((List.range 64).all fun f => (List.range 64).all fun s => (Go.bits .andNot .i64 (f : Int) (s : Int) == 0) == (Go.bits .and .i64 (f : Int) (s : Int) == (f : Int))) = true := by decide +kernel
theorem isIn_flip' {f s : Int} (hf : 0 ≤ f ∧ f ≤ 63) (hs : 0 ≤ s ∧ s ≤ 63) : (Go.bits .andNot .i64 f s == 0) = (Go.bits .and .i64 f s == f) := by
  obtain ⟨a, rfl⟩ := Int.eq_ofNat_of_zero_le hf.1
  obtain ⟨b, rfl⟩ := Int.eq_ofNat_of_zero_le hs.1
  exact eq_of_beq (List.all_eq_true.1 (List.all_eq_true.1 isIn_flip a (List.mem_range.2 (by omega))) b (List.mem_range.2 (by omega)))
theorem comm_all : ((List.range 64).all fun f => (List.range 64).all fun s => decide (Go.bits .and .i64 (f : Int) (s : Int) = Go.bits .and .i64 (s : Int) (f : Int)) && decide (Go.bits .or .i64 (f : Int) (s : Int) = Go.bits .or .i64 (s : Int) (f : Int)) && decide (0 ≤ Go.bits .or .i64 (f : Int) (s : Int) ∧ Go.bits .or .i64 (f : Int) (s : Int) ≤ 63)) = true := by decide +kernel
theorem comm {f s : Int} (hf : 0 ≤ f ∧ f ≤ 63) (hs : 0 ≤ s ∧ s ≤ 63) : Go.bits .and .i64 f s = Go.bits .and .i64 s f ∧ Go.bits .or .i64 f s = Go.bits .or .i64 s f ∧ (0 ≤ Go.bits .or .i64 f s ∧ Go.bits .or .i64 f s ≤ 63) := by
  obtain ⟨a, rfl⟩ := Int.eq_ofNat_of_zero_le hf.1
  obtain ⟨b, rfl⟩ := Int.eq_ofNat_of_zero_le hs.1
  have := List.all_eq_true.1 (List.all_eq_true.1 comm_all a (List.mem_range.2 (by omega))) b (List.mem_range.2 (by omega))
  simp only [Bool.and_eq_true, decide_eq_true_eq] at this
  exact ⟨this.1.1, this.1.2, this.2⟩
theorem link_loop {n : Int} {l : List Int} (hi : isC n l = true) {f : Int} (hf : 0 ≤ f ∧ f ≤ 63) : ∀ d (i : Nat) (acc : List Int), l.length - i = d → i ≤ l.length → acc.length ≤ i →
    Ev (fun k => spec_l01Link.l0 k f i n l n acc) (n, acc ++ (l.drop i).filter (linkP l f)) := by
  have hs := isC_len hi
  intro d
  induction d with
  | zero =>
    intro i acc hd hi1 ha
    rw [List.drop_eq_nil_of_le (by omega), List.filter_nil, List.append_nil]
    refine Ev.step (f := fun k => some (n, acc)) (fun k => ?_) (Ev.now _)
    simp only [spec_l01Link.l0]; rw [if_neg (by omega)]
  | succ d ih =>
    intro i acc hd hi1 ha
    have hi' : i < l.length := by omega
    have hx := isC_63 hi _ (List.getElem_mem hi')
    have hw : wrap64 ((i : Int) + 1) = ((i + 1 : Nat) : Int) := by rw [w64 (by omega) (by omega)]; omega
    obtain ⟨c1, c2, _⟩ := comm hf (show 0 ≤ l[i] ∧ l[i] ≤ 63 by omega)
    have hn := ih (i + 1) acc (by omega) (by omega) (by omega)
    rw [List.drop_eq_getElem_cons hi']
    by_cases hz : Go.bits .and .i64 l[i] f = 0
    · refine Ev.step (f := fun k => (spec_l01Has.f k n l (Go.bits .or .i64 l[i] f)).bind fun t => if t = true then spec_l01Link.l0 k f ((i + 1 : Nat) : Int) n l n (acc ++ [l[i]]) else spec_l01Link.l0 k f ((i + 1 : Nat) : Int) n l n acc) (fun k => ?_) ?_
      · simp only [spec_l01Link.l0]
        rw [if_pos (by omega), if_pos (by omega), rd_at hi', if_pos hz, hw]
        simp only [if_pos (show acc.length < 17592186044416 by omega)]
      · refine Ev.bind (ev_has (by simp [maxLen]; omega) n _) ?_
        by_cases hm : Go.bits .or .i64 l[i] f ∈ l
        · rw [List.filter_cons_of_pos (by rw [linkP, c1, hz, c2]; simp [hm])]
          simp only [hm, decide_true, if_true]
          have := ih (i + 1) (acc ++ [l[i]]) (by omega) (by omega) (by rw [List.length_append]; simp; omega)
          rw [List.append_assoc] at this
          exact this
        · rw [List.filter_cons_of_neg (by rw [linkP, c2]; simp [hm])]
          simp only [hm, decide_false, Bool.false_eq_true, if_false]
          exact hn
    · rw [List.filter_cons_of_neg (by rw [linkP, c1]; simp [hz])]
      refine Ev.step (fun k => ?_) hn
      simp only [spec_l01Link.l0]
      rw [if_pos (by omega), if_pos (by omega), rd_at hi', if_neg hz, hw]
theorem ev_link {n : Int} {l : List Int} (hi : isC n l = true) {f : Int} (hf : 0 ≤ f ∧ f ≤ 63) : Ev (fun k => spec_l01Link.f k n l f) (n, linkL n l f) := by
  have := link_loop hi hf _ 0 [] rfl (Nat.zero_le _) (by simp)
  rw [List.drop_zero, List.nil_append, ← partL_eq hi] at this
  exact this
theorem filter_len {L : List Int} {P Q : Int → Bool} (h : ∀ x ∈ L, P x = true → Q x = true) (hl : (L.filter P).length = (L.filter Q).length) : L.filter P = L.filter Q := by
  have he : L.filter P = (L.filter Q).filter P := by
    rw [List.filter_filter]
    refine List.filter_congr fun x hx => ?_
    cases hp : P x with
    | false => rfl
    | true => rw [h x hx hp]; rfl
  rw [he] at hl ⊢
  exact List.filter_sublist.eq_of_length hl
theorem ins_all : ((List.range 7).all fun n => (List.range (2 ^ n)).all fun g => g == 0 || ((thoseL (n : Int) (insideP (g : Int))).length : Int) == 2 ^ (onesZ (g : Int)).toNat - 2) = true := by decide +kernel
theorem ins_len {n g : Int} (h1 : 1 ≤ n) (h6 : n ≤ 6) (g1 : 1 ≤ g) (g2 : g ≤ fullZ n) : ((thoseL n (insideP g)).length : Int) = 2 ^ (onesZ g).toNat - 2 := by
  have hN := full_nat h1 h6
  obtain ⟨a, rfl⟩ := Int.eq_ofNat_of_zero_le (show 0 ≤ n by omega)
  obtain ⟨b, rfl⟩ := Int.eq_ofNat_of_zero_le (show 0 ≤ g by omega)
  rw [Int.toNat_natCast] at hN
  have h2 : 1 ≤ 2 ^ a := Nat.one_le_two_pow
  have := List.all_eq_true.1 (List.all_eq_true.1 ins_all a (List.mem_range.2 (by omega))) b (List.mem_range.2 (by omega))
  rw [Bool.or_eq_true] at this
  rcases this with h | h
  · have := eq_of_beq h; omega
  · exact eq_of_beq h
theorem good_eq {n : Int} {l : List Int} (hi : isC n l = true) (f : Int) {g : Int} (g1 : 1 ≤ g) (g2 : g ≤ fullZ n) (hg : g ∉ l) :
    (((linkL n l f).length : Int) == 2 ^ (onesZ g).toNat - 2 && (linkL n l f).all fun x => Go.bits .and .i64 x g == x) = (linkL n l f == thoseL n (insideP g)) := by
  obtain ⟨⟨h1, h6⟩, _, _⟩ := isC_of hi
  have hF := fullZ_le h1 h6
  have hin := ins_len h1 h6 g1 g2
  have hsub : ∀ x ∈ linkL n l f, x ∈ l := fun x hx => by
    unfold linkL at hx
    rw [partL_eq hi] at hx
    exact (List.mem_filter.1 hx).1
  rw [Bool.eq_iff_iff, Bool.and_eq_true, beq_iff_eq, beq_iff_eq, List.all_eq_true]
  constructor
  · rintro ⟨hl, ha⟩
    have hl' : (linkL n l f).length = (thoseL n (insideP g)).length := by omega
    unfold linkL partL thoseL at hl' ⊢
    refine filter_len (fun x hx hp => ?_) hl'
    have hm : x ∈ linkL n l f := by unfold linkL partL thoseL; exact List.mem_filter.2 ⟨hx, hp⟩
    have hr := isC_63 hi x (hsub x hm)
    have hne : x ≠ g := fun h => hg (h ▸ hsub x hm)
    have hq := ha x hm
    rw [insideP, isIn_flip' (by omega) (by omega), hq]
    simp [hne]
  · intro he
    rw [he]
    refine ⟨hin, fun x hx => ?_⟩
    obtain ⟨hx1, hx2⟩ := List.mem_filter.1 hx
    have hr := mem_nums1.1 hx1
    have hN := full_nat h1 h6
    have h2 : 1 ≤ 2 ^ n.toNat := Nat.one_le_two_pow
    unfold insideP at hx2
    rw [Bool.and_eq_true] at hx2
    rw [← isIn_flip' (by omega) (by omega)]
    exact hx2.2
theorem other_l1 (n f g : Int) (ms L : List Int) (i : Nat) (hi : i < ms.length) (hms : ms.length ≤ 1000) (hL : L.length ≤ 1000) (R : Int) : ∀ d (j : Nat) (x9 : Bool), L.length - j = d → j ≤ L.length →
    Ev (fun k => if (x9 && (L.drop j).all fun x => Go.bits .and .i64 x g == x) = true then some g else spec_l07Other.l0 k f ms ((i + 1 : Nat) : Int) n L) R →
    Ev (fun k => spec_l07Other.l1 k f ms i g x9 j n L) R := by
  have hwi : wrap64 ((i : Int) + 1) = ((i + 1 : Nat) : Int) := by rw [w64 (by omega) (by omega)]; omega
  intro d
  induction d with
  | zero =>
    intro j x9 hd hj hR
    rw [List.drop_eq_nil_of_le (by omega), List.all_nil, Bool.and_true] at hR
    refine Ev.step (fun k => ?_) hR
    simp only [spec_l07Other.l1]; rw [if_neg (by omega), hwi]
  | succ d ih =>
    intro j x9 hd hj hR
    have hj' : j < L.length := by omega
    have hw : wrap64 ((j : Int) + 1) = ((j + 1 : Nat) : Int) := by rw [w64 (by omega) (by omega)]; omega
    rw [List.drop_eq_getElem_cons hj', List.all_cons] at hR
    cases x9 with
    | true =>
      refine Ev.step (fun k => ?_) (ih (j + 1) (Go.bits .and .i64 L[j] g == L[j]) (by omega) (by omega) (by simpa using hR))
      simp only [spec_l07Other.l1]
      rw [if_pos (by omega), if_pos trivial, if_pos (by omega), rd_at hj', hw]
    | false =>
      refine Ev.step (fun k => ?_) (ih (j + 1) false (by omega) (by omega) (by simpa using hR))
      simp only [spec_l07Other.l1]
      rw [if_pos (by omega), if_neg (by simp), hw]
theorem shl_six {v : Nat} (hv : v ≤ 6) : 0 ≤ IntKind.u64.wrap (v : Int) ∧ wrap64 (shl .i64 1 (IntKind.u64.wrap (v : Int)) - 2) = 2 ^ v - 2 := by
  obtain rfl | rfl | rfl | rfl | rfl | rfl | rfl : v = 0 ∨ v = 1 ∨ v = 2 ∨ v = 3 ∨ v = 4 ∨ v = 5 ∨ v = 6 := by omega
  all_goals decide +kernel
def otherQ : Option Int → Int
  | none => 0
  | some g => g
theorem other_s {n : Int} {l : List Int} (hi : isC n l = true) {f : Int} (hf : 0 ≤ f ∧ f ≤ 63) (ms : List Int) (hms : ms.length ≤ 1000) (hm : ∀ g ∈ ms, (1 ≤ g ∧ g ≤ fullZ n) ∧ g ∉ l) : ∀ d (i : Nat), ms.length - i = d → i ≤ ms.length →
    Ev (fun k => spec_l07Other.l0 k f ms i n (linkL n l f)) (otherQ ((ms.drop i).find? (flipTo n l f))) := by
  obtain ⟨⟨h1, h6⟩, _, _⟩ := isC_of hi
  have hF := fullZ_le h1 h6
  have hLl := partL_len hi (linkP l f)
  intro d
  induction d with
  | zero =>
    intro i hd hi1
    rw [List.drop_eq_nil_of_le (by omega), List.find?_nil]
    refine Ev.step (f := fun k => some 0) (fun k => ?_) (Ev.now _)
    simp only [spec_l07Other.l0]; rw [if_neg (by omega)]
  | succ d ih =>
    intro i hd hi1
    have hi' : i < ms.length := by omega
    obtain ⟨⟨g1, g2⟩, hg⟩ := hm _ (List.getElem_mem hi')
    have hw : wrap64 ((i : Int) + 1) = ((i + 1 : Nat) : Int) := by rw [w64 (by omega) (by omega)]; omega
    have hn := ih (i + 1) (by omega) (by omega)
    obtain ⟨c1, _, _⟩ := comm hf (show 0 ≤ ms[i] ∧ ms[i] ≤ 63 by omega)
    rw [List.drop_eq_getElem_cons hi']
    by_cases hz : Go.bits .and .i64 ms[i] f = 0
    · have ho := ones_le ms[i]
      obtain ⟨v, hv⟩ := Int.eq_ofNat_of_zero_le ho.1
      obtain ⟨s0, s1⟩ := shl_six (v := v) (by omega)
      refine Ev.step (f := fun k => (spec_l01Ones.f k ms[i]).bind fun t332 => (if 0 ≤ (IntKind.u64.wrap (t332)) then (spec_l07Other.l1 k f ms i ms[i] (((linkL n l f).length : Int) == (wrap64 ((shl .i64 1 (IntKind.u64.wrap (t332))) - 2))) ((0 : Nat) : Int) n (linkL n l f)) else (none))) (fun k => ?_) ?_
      · simp only [spec_l07Other.l0]
        rw [if_pos (by omega), if_pos (by omega), rd_at hi', if_pos hz]
        rfl
      · refine Ev.bind (ev_ones (by omega) (by omega)) ?_
        simp only [hv, if_pos s0, s1]
        refine other_l1 n f ms[i] ms (linkL n l f) i hi' hms (show (linkL n l f).length ≤ 1000 from Nat.le_trans hLl (by omega)) _ _ 0 _ rfl (Nat.zero_le _) ?_
        have hge := good_eq hi f g1 g2 hg
        rw [hv, Int.toNat_natCast] at hge
        rw [List.drop_zero, hge]
        cases he : linkL n l f == thoseL n (insideP ms[i]) with
        | true =>
          rw [List.find?_cons_of_pos (by rw [flipTo, c1, hz, he]; rfl)]
          simp only [if_true, otherQ]
          exact Ev.now _
        | false =>
          rw [List.find?_cons_of_neg (by rw [flipTo, he]; simp)]
          simp only [Bool.false_eq_true, if_false]
          exact hn
    · rw [List.find?_cons_of_neg (by rw [flipTo, c1, beq_eq_false_iff_ne.2 hz]; simp)]
      refine Ev.step (fun k => ?_) hn
      simp only [spec_l07Other.l0]
      rw [if_pos (by omega), if_pos (by omega), rd_at hi', if_neg hz, hw]
theorem miss_ok {n : Int} {l : List Int} (hi : isC n l = true) : (missL n l).length ≤ 1000 ∧ ∀ g ∈ missL n l, (1 ≤ g ∧ g ≤ fullZ n) ∧ g ∉ l := by
  obtain ⟨⟨h1, h6⟩, _, _⟩ := isC_of hi
  have hN := full_nat h1 h6
  have h2 : 1 ≤ 2 ^ n.toNat := Nat.one_le_two_pow
  refine ⟨Nat.le_trans (thoseL_len h1 h6 _) (by omega), fun g hg => ?_⟩
  obtain ⟨hg1, hg2⟩ := List.mem_filter.1 hg
  have hr := mem_nums1.1 hg1
  refine ⟨by omega, fun hm => ?_⟩
  simp [missP, hm] at hg2
theorem ev_other' {n : Int} {l : List Int} (hi : isC n l = true) {f : Int} (hf : 0 ≤ f ∧ f ≤ 63) : Ev (fun k => spec_l07Other.f k n l f) (otherQ (otherO n l f)) := by
  have hs := isC_len hi
  unfold spec_l07Other.f
  refine Ev.bind (ev_link hi hf) ?_
  refine Ev.bind (ev_miss hi (by simp [maxLen]; omega)) ?_
  obtain ⟨m1, m2⟩ := miss_ok hi
  exact other_s hi hf (missL n l) m1 m2 _ 0 rfl (Nat.zero_le _)
def flipS (left : List Int) (f g h : Int) : Bool := decide (h ∈ left) || (Go.bits .and .i64 h g == g && Go.bits .and .i64 h (Go.bits .or .i64 f g) == h && !(Go.bits .and .i64 h f == f))
theorem flip_l0 {n : Int} (h1 : 1 ≤ n) (h6 : n ≤ 6) (l : List Int) (f g : Int) (left : List Int) (hl : left.length ≤ maxLen) : ∀ d (h : Nat) (acc : List Int), 2 ^ n.toNat - h = d → 1 ≤ h → h ≤ 2 ^ n.toNat → acc.length ≤ h →
    Ev (fun k => spec_FlipOf.l0 k f g h n l n left n acc) (n, acc ++ ((List.range' h (2 ^ n.toNat - h)).map (fun i : Nat => (i : Int))).filter (flipS left f g), (0 : Int)) := by
  have hF := fullZ_le h1 h6
  have hN := full_nat h1 h6
  intro d
  induction d with
  | zero =>
    intro h acc hd hh1 hh2 ha
    rw [hd, List.range'_zero, List.map_nil, List.filter_nil, List.append_nil]
    refine Ev.step (f := fun k => some (n, acc, 0)) (fun k => ?_) (Ev.now _)
    simp only [spec_FlipOf.l0, all_eq h1 h6, Option.bind_some]; rw [if_neg (by omega)]
  | succ d ih =>
    intro h acc hd hh1 hh2 ha
    have hr : 2 ^ n.toNat - (h + 1) = d := by omega
    have hyes := ih (h + 1) (acc ++ [(h : Int)]) hr (by omega) (by omega) (by rw [List.length_append]; simp; omega)
    rw [List.append_assoc, hr] at hyes
    have hno := ih (h + 1) acc hr (by omega) (by omega) (by omega)
    rw [hr] at hno
    have hcap : acc.length < 17592186044416 := by omega
    have hle : (h : Int) ≤ fullZ n := by omega
    have hw : wrap64 ((h : Int) + 1) = ((h + 1 : Nat) : Int) := by rw [w64 (by omega) (by omega)]; omega
    rw [show 2 ^ n.toNat - h = d + 1 from hd, List.range'_succ, List.map_cons]
    refine Ev.step (fun k => ?_) (f := fun k => (spec_l01Has.f k n left (h : Int)).bind fun t349 => (if t349 = true then (spec_FlipOf.l0 k f g ((h + 1 : Nat) : Int) n l n left n (acc ++ [(h : Int)])) else (if (Go.bits .and .i64 (h : Int) g) = g then (if (Go.bits .and .i64 (h : Int) (Go.bits .or .i64 f g)) = (h : Int) then (if (Go.bits .and .i64 (h : Int) f) = f then (spec_FlipOf.l0 k f g ((h + 1 : Nat) : Int) n l n left n acc) else (spec_FlipOf.l0 k f g ((h + 1 : Nat) : Int) n l n left n (acc ++ [(h : Int)]))) else (spec_FlipOf.l0 k f g ((h + 1 : Nat) : Int) n l n left n acc)) else (spec_FlipOf.l0 k f g ((h + 1 : Nat) : Int) n l n left n acc)))) ?_
    · simp only [spec_FlipOf.l0, all_eq h1 h6, Option.bind_some]
      rw [if_pos hle, hw]
      simp only [if_pos hcap]
    · refine Ev.bind (ev_has hl n (h : Int)) ?_
      by_cases hm : (h : Int) ∈ left
      · rw [List.filter_cons_of_pos (by simp [flipS, hm])]
        simp only [hm, decide_true, if_true]
        exact hyes
      · simp only [hm, decide_false, Bool.false_eq_true, if_false]
        by_cases q1 : Go.bits .and .i64 (h : Int) g = g
        · by_cases q2 : Go.bits .and .i64 (h : Int) (Go.bits .or .i64 f g) = (h : Int)
          · by_cases q3 : Go.bits .and .i64 (h : Int) f = f
            · rw [List.filter_cons_of_neg (by simp [flipS, hm, q3])]
              simp only [if_pos q1, if_pos q2, if_pos q3]
              exact hno
            · rw [List.filter_cons_of_pos (by simp [flipS, q1, q2, q3])]
              simp only [if_pos q1, if_pos q2, if_neg q3]
              exact hyes
          · rw [List.filter_cons_of_neg (by simp [flipS, hm, q2])]
            simp only [if_pos q1, if_neg q2]
            exact hno
        · rw [List.filter_cons_of_neg (by simp [flipS, hm, q1])]
          simp only [if_neg q1]
          exact hno
theorem flip_eq {n : Int} {l : List Int} (hi : isC n l = true) {f g : Int} (hf : 0 ≤ f ∧ f ≤ 63) (hg : 0 ≤ g ∧ g ≤ 63) :
    ((List.range' 1 (2 ^ n.toNat - 1)).map (fun i : Nat => (i : Int))).filter (flipS (partL n l (outP f)) f g) = thoseL n (flipP l f g) := by
  obtain ⟨⟨h1, h6⟩, _, _⟩ := isC_of hi
  have hF := fullZ_le h1 h6
  have hN := full_nat h1 h6
  have h2 : 1 ≤ 2 ^ n.toNat := Nat.one_le_two_pow
  have he : ((List.range' 1 (2 ^ n.toNat - 1)).map (fun i : Nat => (i : Int))) = nums1 (2 ^ n.toNat) := by
    unfold nums1
    rw [List.range'_eq_map_range, List.map_map]
    refine List.map_congr_left fun i _ => ?_
    simp; omega
  rw [he]
  unfold thoseL
  refine List.filter_congr fun x hx => ?_
  have hx := mem_nums1.1 hx
  obtain ⟨_, _, c3⟩ := comm hf hg
  have hxr : 0 ≤ x ∧ x ≤ 63 := by omega
  have hd : decide (x ∈ partL n l (outP f)) = (decide (x ∈ l) && !(Go.bits .and .i64 x f == f)) := by
    rw [partL_eq hi]
    by_cases hm : x ∈ l
    · simp [hm, outP, bne]; rfl
    · simp [hm]
  unfold flipS flipP
  rw [hd, sub_eq hf hxr, sub_eq hg hxr, isIn_flip' hxr c3]
  cases decide (x ∈ l) <;> cases Go.bits .and .i64 x f == f <;> cases Go.bits .and .i64 x g == g <;> cases Go.bits .and .i64 x (Go.bits .or .i64 f g) == x <;> rfl
theorem ev_spec (n f : Int) {l : List Int} (hl : l.length ≤ maxLen) : Ev (fun k => spec_FlipOf.f k n l f) (flipF n l f) := by
  unfold spec_FlipOf.f
  refine Ev.bind (ev_face n f hl) ?_
  unfold flipF
  by_cases hc : codeOf (isC n l) (decide (f ∈ l)) = 0
  · have hi : isC n l = true := by
      cases hi : isC n l with
      | true => rfl
      | false => rw [hi] at hc; cases hc
    have hm : f ∈ l := by
      rw [hi] at hc
      by_cases hm : f ∈ l
      · exact hm
      · simp [codeOf, hm] at hc
    obtain ⟨⟨h1, h6⟩, _, _⟩ := isC_of hi
    have hfr := isC_63 hi f hm
    have hF := fullZ_le h1 h6
    have h2 : 1 ≤ 2 ^ n.toNat := Nat.one_le_two_pow
    simp only [if_pos hc]
    refine Ev.bind (ev_other' hi (by omega)) ?_
    cases ho : otherO n l f with
    | none => simp only [otherQ, if_true]; exact Ev.now _
    | some g =>
      have hgm : g ∈ missL n l := List.mem_of_find?_eq_some ho
      obtain ⟨⟨g1, g2⟩, _⟩ := (miss_ok hi).2 g hgm
      have hg0 : ¬ g = 0 := by omega
      have hq : otherQ (some g) = g := rfl
      rw [hq]
      simp only [if_neg hg0]
      refine Ev.bind (ev_take hi f) ?_
      have := flip_l0 h1 h6 l f g (partL n l (outP f)) (by have := partL_len hi (outP f); simp [maxLen]; omega) _ 1 [] rfl (Nat.le_refl _) h2 (by simp)
      rw [List.nil_append, flip_eq hi (by omega) (by omega)] at this
      exact this
  · simp only [if_neg hc]; exact Ev.now _
theorem pure_len (n : Int) (l : List Int) (f : Int) : (flipF n l f).2.1.length ≤ 1048576 := by
  unfold flipF
  split
  · rename_i hc
    have hi : isC n l = true := by
      cases hi : isC n l with
      | true => rfl
      | false => rw [hi] at hc; cases hc
    obtain ⟨⟨h1, h6⟩, _, _⟩ := isC_of hi
    split
    · exact Nat.le_trans (thoseL_len h1 h6 _) (by omega)
    · simp
  · simp
theorem FnExactFlipOf (n0 : Int) (l0 : List Int) (_ : (Lit.int .i64 n0).wf = true) (hm0 : l0.length ≤ maxLen) (_ : ∀ x ∈ l0, (Lit.int .i64 x).wf = true) (a1 : Int) (_ : (Lit.int .i64 a1).wf = true) : ∃ k, laws_FnExactFlipOf.f k n0 l0 a1 = some true := by
  rcases Nat.lt_or_ge 1048576 l0.length with hl | hl0
  · refine ⟨0, ?_⟩
    unfold laws_FnExactFlipOf.f
    rw [sz_big hm0 hl]
    rfl
  · apply Ev.rounds
    obtain ⟨t0, ht0, hz0⟩ := sz_ok (n := n0) hl0
    have hS := ev_spec n0 a1 hm0
    have hI : impl_FlipOf.f n0 l0 a1 = some (flipF n0 l0 a1) := by unfold impl_FlipOf.f; rw [if_pos (by omega)]
    have hR := pure_len n0 l0 a1
    generalize flipF n0 l0 a1 = D at hS hI hR
    obtain ⟨r1, r2, r3⟩ := D
    simp only at hR
    have hR0 := hR
    have hca0 : 0 ≤ (1 : Int) ∧ (1 : Int) ≤ 1073741824 := by omega
    have hca1 : 0 ≤ 1 + (l0.length : Int) ∧ 1 + (l0.length : Int) ≤ 1073741824 := by omega
    have hna1 : ¬ (1 + (l0.length : Int) < 0) := by omega
    have hco0 : 0 ≤ (1 : Int) ∧ (1 : Int) ≤ 1073741824 := by omega
    have hco1 : 0 ≤ 1 + (r2.length : Int) ∧ 1 + (r2.length : Int) ≤ 1073741824 := by omega
    have hno1 : ¬ (1 + (r2.length : Int) < 0) := by omega
    unfold laws_FnExactFlipOf.f
    rw [ht0]
    simp only [Option.bind_some, if_neg hz0]
    repeat (first
      | (exact Ev.now _)
      | (refine Ev.bind (ev_toComplex hl0) ?_)
      | (refine Ev.bind hS ?_)
      | (refine Ev.bind (ev_eqComplex hR0) ?_)
      | (refine Ev.bind (ev_eqComplex hl0) ?_)
      | (refine Ev.bind (ev_markComplex hl0 hca0) ?_)
      | (refine Ev.bind (ev_markComplex hR0 hco0) ?_)
      | (refine Ev.bind (ev_heldComplex hR0 hco0) ?_)
      | (simp only [hI, Option.bind_some, if_true, bne_self_eq_false, Bool.false_eq_true, if_false, if_neg hna1, if_neg hno1]))
end Go.Proofs.Ytnmhnkpijjmhjaa.Pu
