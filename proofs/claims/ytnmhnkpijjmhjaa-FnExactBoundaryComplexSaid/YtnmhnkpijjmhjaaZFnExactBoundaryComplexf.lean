/- Words and lemmas for FnExactBoundaryComplex, part 6: what the row's text comes to. -/
import Derived.Test.YtnmhnkpijjmhjaaZFnExactBoundaryComplexe
namespace Go.Proofs.Ytnmhnkpijjmhjaa.QFnExactBoundaryComplex
open Go.Proofs.Ytnmhnkpijjmhjaa.Kp Go.Proofs.Ytnmhnkpijjmhjaa.Ext Go.Proofs.Ytnmhnkpijjmhjaa.QS Go.RowKit Go.Proofs.YtnmhnkpijjmhjaaW.PrintWords Go.Proofs.YtnmhnkpijjmhjaaW.PrintLast Go.Proofs.YtnmhnkpijjmhjaaW.PrintMore
attribute [local go_sem] max2_int min2_int max_two min_two max_three min_three max_four min_four   -- for this text's walks alone
set_option linter.unusedVariables false
set_option linter.unusedSimpArgs false
theorem info2 : (Try.prog.info? 2).map (fun i => (i.zero, i.size, i.bytes)) = some (some (.int .i64 0), 1, 8) := by kernel_rfl
end Go.Proofs.Ytnmhnkpijjmhjaa.QFnExactBoundaryComplex
namespace Go.Proofs.Ytnmhnkpijjmhjaa.QFnExactBoundaryComplex
open Go.Proofs.Ytnmhnkpijjmhjaa.Kp Go.Proofs.Ytnmhnkpijjmhjaa.Ext Go.Proofs.Ytnmhnkpijjmhjaa.QS Go.RowKit Go.Proofs.YtnmhnkpijjmhjaaW.PrintWords Go.Proofs.YtnmhnkpijjmhjaaW.PrintLast Go.Proofs.YtnmhnkpijjmhjaaW.PrintMore
attribute [local go_sem] max2_int min2_int max_two min_two max_three min_three max_four min_four   -- for this text's walks alone
set_option linter.unusedVariables false
set_option linter.unusedSimpArgs false
def laws_FnExactBoundaryComplex.f (k : Nat) (a0_0 : Int) (l0_1 : List Int) : Option (Bool) := (laws_szComplex.f a0_0 l0_1 1048576).bind fun t226 => (if t226 < 0 then (some true) else ((laws_toComplex.f k a0_0 l0_1).bind fun bt227 => ((spec_BoundaryComplex.f k bt227.1 bt227.2).bind fun bt231 => ((laws_toComplex.f k a0_0 l0_1).bind fun bt237 => ((impl_BoundaryComplex.f bt237.1 bt237.2).bind fun bt242 => ((laws_eqComplex.f k bt242.1 bt242.2.1 bt231.1 bt231.2.1).bind fun t248 => (if t248 = true then (if bt242.2.2 = bt231.2.2 then ((laws_toComplex.f k a0_0 l0_1).bind fun bt249 => ((laws_eqComplex.f k bt237.1 bt237.2 bt249.1 bt249.2).bind fun t253 => (if t253 = true then ((laws_markComplex.f k bt237.1 bt237.2 1).bind fun bt254 => (if bt254.1 < 0 then (none) else ((laws_eqComplex.f k bt242.1 bt242.2.1 bt231.1 bt231.2.1).bind fun t256 => (if t256 = true then ((laws_markComplex.f k bt242.1 bt242.2.1 1).bind fun bt257 => ((laws_heldComplex.f k bt242.1 bt257.2 1).bind fun t259 => (if t259 < 0 then (none) else (if t259 = bt257.1 then ((laws_toComplex.f k a0_0 l0_1).bind fun bt260 => ((impl_BoundaryComplex.f bt260.1 bt260.2).bind fun bt264 => ((laws_eqComplex.f k bt264.1 bt264.2.1 bt231.1 bt231.2.1).bind fun t270 => (if t270 = true then (if bt264.2.2 = bt231.2.2 then ((laws_heldComplex.f k bt242.1 bt257.2 1).bind fun t271 => (if t271 < 0 then (none) else (if t271 = bt257.1 then (some true) else (none)))) else (none)) else (none))))) else (none))))) else (none))))) else (none)))) else (none)) else (none))))))))
theorem laws_FnExactBoundaryComplex.mono : ∀ a0 a1 k, LeO (laws_FnExactBoundaryComplex.f k a0 a1) (laws_FnExactBoundaryComplex.f (k + 1) a0 a1) := by
  intro a0 a1 k
  unfold laws_FnExactBoundaryComplex.f
  repeat' first
      | (with_reducible exact laws_eqComplex.mono _ _ _ _ _)
      | (with_reducible exact laws_heldComplex.mono _ _ _ _)
      | (with_reducible exact laws_markComplex.mono _ _ _ _)
      | (with_reducible exact laws_toComplex.mono _ _ _)
      | (with_reducible exact spec_BoundaryComplex.mono _ _ _)
      | (with_reducible exact LeO.refl _)
      | (with_reducible exact LeO.none _)
      | (with_reducible refine LeO.ite ?_ ?_)
      | (with_reducible refine LeO.bind ?_ (fun _ => ?_))
      | exact laws_eqComplex.mono _ _ _ _ _
      | exact laws_heldComplex.mono _ _ _ _
      | exact laws_markComplex.mono _ _ _ _
      | exact laws_toComplex.mono _ _ _
      | exact spec_BoundaryComplex.mono _ _ _
      | exact LeO.none _
      | refine LeO.ite ?_ ?_
      | refine LeO.bind ?_ (fun _ => ?_)
set_option maxHeartbeats 8000000 in
set_option maxRecDepth 100000 in
theorem laws_FnExactBoundaryComplex.calls (k : Nat) (a0_0 : Int) (A0_1 : Option Addr) (c0_1 : Nat) (l0_1 : List Int) (r : Bool) (w : World) (hr0_1 : Kd.C (Kd.int .i64) w A0_1 l0_1.length l0_1) (hc0_1 : l0_1.length ≤ c0_1) (h : laws_FnExactBoundaryComplex.f k a0_0 l0_1 = some r) :
    Calls Try.prog 8 #[.agg #[.int .i64 a0_0, .slice A0_1 l0_1.length c0_1]] w fun e w' => e = .returned (.bool r) ∧ Below w.heap.size w w' := by
  have hu24 := Try.underlying24
  have hu26 := Try.underlying26
  have HR0_1 := Aside0.mk hr0_1
  have HC0_1 := Aside0.mk hc0_1
  clear hr0_1 hc0_1
  have HB := Aside0.mk (Below.refl w.heap.size w)
  have H : ((laws_szComplex.f a0_0 l0_1 1048576).bind fun t226 => (if t226 < 0 then (some true) else ((laws_toComplex.f k a0_0 l0_1).bind fun bt227 => ((spec_BoundaryComplex.f k bt227.1 bt227.2).bind fun bt231 => ((laws_toComplex.f k a0_0 l0_1).bind fun bt237 => ((impl_BoundaryComplex.f bt237.1 bt237.2).bind fun bt242 => ((laws_eqComplex.f k bt242.1 bt242.2.1 bt231.1 bt231.2.1).bind fun t248 => (if t248 = true then (if bt242.2.2 = bt231.2.2 then ((laws_toComplex.f k a0_0 l0_1).bind fun bt249 => ((laws_eqComplex.f k bt237.1 bt237.2 bt249.1 bt249.2).bind fun t253 => (if t253 = true then ((laws_markComplex.f k bt237.1 bt237.2 1).bind fun bt254 => (if bt254.1 < 0 then (none) else ((laws_eqComplex.f k bt242.1 bt242.2.1 bt231.1 bt231.2.1).bind fun t256 => (if t256 = true then ((laws_markComplex.f k bt242.1 bt242.2.1 1).bind fun bt257 => ((laws_heldComplex.f k bt242.1 bt257.2 1).bind fun t259 => (if t259 < 0 then (none) else (if t259 = bt257.1 then ((laws_toComplex.f k a0_0 l0_1).bind fun bt260 => ((impl_BoundaryComplex.f bt260.1 bt260.2).bind fun bt264 => ((laws_eqComplex.f k bt264.1 bt264.2.1 bt231.1 bt231.2.1).bind fun t270 => (if t270 = true then (if bt264.2.2 = bt231.2.2 then ((laws_heldComplex.f k bt242.1 bt257.2 1).bind fun t271 => (if t271 < 0 then (none) else (if t271 = bt257.1 then (some true) else (none)))) else (none)) else (none))))) else (none))))) else (none))))) else (none)))) else (none)) else (none))))))))) = some r := h
  clear h
  replace H := Option.bind_eq_some_iff.mp H
  obtain ⟨t226, A20, H⟩ := H
  replace H : (if t226 < 0 then (some true) else ((laws_toComplex.f k a0_0 l0_1).bind fun bt227 => ((spec_BoundaryComplex.f k bt227.1 bt227.2).bind fun bt231 => ((laws_toComplex.f k a0_0 l0_1).bind fun bt237 => ((impl_BoundaryComplex.f bt237.1 bt237.2).bind fun bt242 => ((laws_eqComplex.f k bt242.1 bt242.2.1 bt231.1 bt231.2.1).bind fun t248 => (if t248 = true then (if bt242.2.2 = bt231.2.2 then ((laws_toComplex.f k a0_0 l0_1).bind fun bt249 => ((laws_eqComplex.f k bt237.1 bt237.2 bt249.1 bt249.2).bind fun t253 => (if t253 = true then ((laws_markComplex.f k bt237.1 bt237.2 1).bind fun bt254 => (if bt254.1 < 0 then (none) else ((laws_eqComplex.f k bt242.1 bt242.2.1 bt231.1 bt231.2.1).bind fun t256 => (if t256 = true then ((laws_markComplex.f k bt242.1 bt242.2.1 1).bind fun bt257 => ((laws_heldComplex.f k bt242.1 bt257.2 1).bind fun t259 => (if t259 < 0 then (none) else (if t259 = bt257.1 then ((laws_toComplex.f k a0_0 l0_1).bind fun bt260 => ((impl_BoundaryComplex.f bt260.1 bt260.2).bind fun bt264 => ((laws_eqComplex.f k bt264.1 bt264.2.1 bt231.1 bt231.2.1).bind fun t270 => (if t270 = true then (if bt264.2.2 = bt231.2.2 then ((laws_heldComplex.f k bt242.1 bt257.2 1).bind fun t271 => (if t271 < 0 then (none) else (if t271 = bt257.1 then (some true) else (none)))) else (none)) else (none))))) else (none))))) else (none))))) else (none)))) else (none)) else (none)))))))) = some r := H
  have A2 := Aside0.mk A20
  clear A20
  by_cases c3 : t226 < 0
  · rw [if_pos c3] at H
    have c3b0 : decide (t226 < 0) = true := decide_eq_true c3
    clear c3
    obtain rfl := Option.some.inj H
    go_enter Try.func8, Try.ntmps8
    go_wp2_with (first | ((with_reducible refine gate_dst (N := 1) rfl ?_); refine box_event ?hg (N := 1) ?hd (cs := #[.int .i64 a0_0, .slice A0_1 l0_1.length c0_1]) (t := 24) ?hr ?_; (case hd => rfl); (case hg => rfl); (case hr => first | (go_simp; done) | (go_simp; rfl)); intro gb225 hg w4 hbox hb; have n0_ := Aside0.mk (below_step (by repeat (first | (with_reducible first | exact HB.out | apply below_alloc | apply pw_below_drewN | apply below_drew1) | exact HB.out)) hb); have n1_ := Aside0.mk (hbox); have n2_ := Aside0.mk ((by rw [hg]; exact (below_size (by repeat (first | (with_reducible first | exact HB.out | apply below_alloc | apply pw_below_drewN | apply below_drew1) | exact HB.out))) : w.heap.size ≤ gb225)); have n3_ := Aside0.mk ((by rw [hg]; exact (below_size (by repeat (first | (with_reducible first | exact HB.out | apply below_alloc | apply pw_below_drewN | apply below_drew1) | exact HB.out))) : w.heap.size ≤ gb225)); clear HB; have HB := n0_; have BK225 := n1_; have GW225 := n2_; have GE225 := n3_; clear n0_ n1_ n2_ n3_; clear hb hbox hg; have hcz5_0 : w4.cell? ⟨gb225, 0, none⟩ = some (.int .i64 a0_0) := (blk_cell BK225.out 0).trans rfl; have hcz5_1 : w4.cell? ⟨gb225, 1, none⟩ = some (.slice A0_1 l0_1.length c0_1) := (blk_cell BK225.out 1).trans rfl; have hfz5_0 := blk_frozen BK225.out 0; have hfz5_1 := blk_frozen BK225.out 1) | ((with_reducible refine gate_callee (f := 15) rfl ?_); refine goesL_ (some 16) rfl rfl Try.func15 (by kernel_rfl) rfl #[.agg #[.int .i64 a0_0, .slice A0_1 l0_1.length c0_1], .int .i64 1048576] rfl (by (try simp only [List.map_toArray, List.map_cons, List.map_nil]); first | done | rfl | (simp only [List.length_drop, List.length_take]; rfl)) ?_; (with_reducible refine (laws_szComplex.calls a0_0 _ _ l0_1 1048576 t226 _ ?side1 ?side2 A2.out).mono ?_); (case side1 => repeat (first | exact (Kd.C_below HR0_1.out HB.out) | (with_reducible refine Kd.C_alloc ?_ _) | (with_reducible refine Kd.C_drewN ?_ _) | (with_reducible refine Kd.C_drew ?_))); (case side2 => exact HC0_1.out); rintro e w6 ⟨rfl, hb⟩; refine ⟨_, rfl, ?_⟩; have n0_ := Aside0.mk (blk_below (g := gb225) (o := .cells #[.int .i64 a0_0, .slice A0_1 l0_1.length c0_1] 24 (0, 0)) (by (with_reducible repeat (first | refine blk_drewN ?_ _ | refine blk_drew ?_ | refine blk_alloc ?_ _)); exact BK225.out) hb); have n1_ := Aside0.mk (below_step (by repeat (first | (with_reducible first | exact HB.out | apply below_alloc | apply pw_below_drewN | apply below_drew1 | refine below_set ?_ GE225.out) | exact HB.out)) hb); clear BK225; clear HB; have BK225 := n0_; have HB := n1_; clear n0_ n1_; (try clear hb); (try clear hb2); (try clear hk); (try clear hi)))
    go_ret
    exact ⟨by first | rfl | (simp [errW_none, errW_some] <;> rfl) | (simp [*, errW_none, errW_some] <;> rfl), by repeat (first | (with_reducible first | exact HB.out | apply below_alloc | apply pw_below_drewN | apply below_drew1 | refine below_set ?_ GE225.out) | exact HB.out)⟩
  · rw [if_neg c3] at H
    have c3b0 : decide (t226 < 0) = false := decide_eq_false c3
    clear c3
    replace H := Option.bind_eq_some_iff.mp H
    obtain ⟨⟨t227, t228⟩, A70, H⟩ := H
    replace H : ((spec_BoundaryComplex.f k t227 t228).bind fun bt231 => ((laws_toComplex.f k a0_0 l0_1).bind fun bt237 => ((impl_BoundaryComplex.f bt237.1 bt237.2).bind fun bt242 => ((laws_eqComplex.f k bt242.1 bt242.2.1 bt231.1 bt231.2.1).bind fun t248 => (if t248 = true then (if bt242.2.2 = bt231.2.2 then ((laws_toComplex.f k a0_0 l0_1).bind fun bt249 => ((laws_eqComplex.f k bt237.1 bt237.2 bt249.1 bt249.2).bind fun t253 => (if t253 = true then ((laws_markComplex.f k bt237.1 bt237.2 1).bind fun bt254 => (if bt254.1 < 0 then (none) else ((laws_eqComplex.f k bt242.1 bt242.2.1 bt231.1 bt231.2.1).bind fun t256 => (if t256 = true then ((laws_markComplex.f k bt242.1 bt242.2.1 1).bind fun bt257 => ((laws_heldComplex.f k bt242.1 bt257.2 1).bind fun t259 => (if t259 < 0 then (none) else (if t259 = bt257.1 then ((laws_toComplex.f k a0_0 l0_1).bind fun bt260 => ((impl_BoundaryComplex.f bt260.1 bt260.2).bind fun bt264 => ((laws_eqComplex.f k bt264.1 bt264.2.1 bt231.1 bt231.2.1).bind fun t270 => (if t270 = true then (if bt264.2.2 = bt231.2.2 then ((laws_heldComplex.f k bt242.1 bt257.2 1).bind fun t271 => (if t271 < 0 then (none) else (if t271 = bt257.1 then (some true) else (none)))) else (none)) else (none))))) else (none))))) else (none))))) else (none)))) else (none)) else (none)))))) = some r := H
    have A7 := Aside0.mk A70
    clear A70
    replace H := Option.bind_eq_some_iff.mp H
    obtain ⟨⟨t231, t232, t235⟩, A80, H⟩ := H
    replace H : ((laws_toComplex.f k a0_0 l0_1).bind fun bt237 => ((impl_BoundaryComplex.f bt237.1 bt237.2).bind fun bt242 => ((laws_eqComplex.f k bt242.1 bt242.2.1 t231 t232).bind fun t248 => (if t248 = true then (if bt242.2.2 = t235 then ((laws_toComplex.f k a0_0 l0_1).bind fun bt249 => ((laws_eqComplex.f k bt237.1 bt237.2 bt249.1 bt249.2).bind fun t253 => (if t253 = true then ((laws_markComplex.f k bt237.1 bt237.2 1).bind fun bt254 => (if bt254.1 < 0 then (none) else ((laws_eqComplex.f k bt242.1 bt242.2.1 t231 t232).bind fun t256 => (if t256 = true then ((laws_markComplex.f k bt242.1 bt242.2.1 1).bind fun bt257 => ((laws_heldComplex.f k bt242.1 bt257.2 1).bind fun t259 => (if t259 < 0 then (none) else (if t259 = bt257.1 then ((laws_toComplex.f k a0_0 l0_1).bind fun bt260 => ((impl_BoundaryComplex.f bt260.1 bt260.2).bind fun bt264 => ((laws_eqComplex.f k bt264.1 bt264.2.1 t231 t232).bind fun t270 => (if t270 = true then (if bt264.2.2 = t235 then ((laws_heldComplex.f k bt242.1 bt257.2 1).bind fun t271 => (if t271 < 0 then (none) else (if t271 = bt257.1 then (some true) else (none)))) else (none)) else (none))))) else (none))))) else (none))))) else (none)))) else (none)) else (none))))) = some r := H
    have A8 := Aside0.mk A80
    clear A80
    replace H := Option.bind_eq_some_iff.mp H
    obtain ⟨⟨t237, t238⟩, A90, H⟩ := H
    replace H : ((impl_BoundaryComplex.f t237 t238).bind fun bt242 => ((laws_eqComplex.f k bt242.1 bt242.2.1 t231 t232).bind fun t248 => (if t248 = true then (if bt242.2.2 = t235 then ((laws_toComplex.f k a0_0 l0_1).bind fun bt249 => ((laws_eqComplex.f k t237 t238 bt249.1 bt249.2).bind fun t253 => (if t253 = true then ((laws_markComplex.f k t237 t238 1).bind fun bt254 => (if bt254.1 < 0 then (none) else ((laws_eqComplex.f k bt242.1 bt242.2.1 t231 t232).bind fun t256 => (if t256 = true then ((laws_markComplex.f k bt242.1 bt242.2.1 1).bind fun bt257 => ((laws_heldComplex.f k bt242.1 bt257.2 1).bind fun t259 => (if t259 < 0 then (none) else (if t259 = bt257.1 then ((laws_toComplex.f k a0_0 l0_1).bind fun bt260 => ((impl_BoundaryComplex.f bt260.1 bt260.2).bind fun bt264 => ((laws_eqComplex.f k bt264.1 bt264.2.1 t231 t232).bind fun t270 => (if t270 = true then (if bt264.2.2 = t235 then ((laws_heldComplex.f k bt242.1 bt257.2 1).bind fun t271 => (if t271 < 0 then (none) else (if t271 = bt257.1 then (some true) else (none)))) else (none)) else (none))))) else (none))))) else (none))))) else (none)))) else (none)) else (none)))) = some r := H
    have A9 := Aside0.mk A90
    clear A90
    replace H := Option.bind_eq_some_iff.mp H
    obtain ⟨⟨t242, t243, t246⟩, A100, H⟩ := H
    replace H : ((laws_eqComplex.f k t242 t243 t231 t232).bind fun t248 => (if t248 = true then (if t246 = t235 then ((laws_toComplex.f k a0_0 l0_1).bind fun bt249 => ((laws_eqComplex.f k t237 t238 bt249.1 bt249.2).bind fun t253 => (if t253 = true then ((laws_markComplex.f k t237 t238 1).bind fun bt254 => (if bt254.1 < 0 then (none) else ((laws_eqComplex.f k t242 t243 t231 t232).bind fun t256 => (if t256 = true then ((laws_markComplex.f k t242 t243 1).bind fun bt257 => ((laws_heldComplex.f k t242 bt257.2 1).bind fun t259 => (if t259 < 0 then (none) else (if t259 = bt257.1 then ((laws_toComplex.f k a0_0 l0_1).bind fun bt260 => ((impl_BoundaryComplex.f bt260.1 bt260.2).bind fun bt264 => ((laws_eqComplex.f k bt264.1 bt264.2.1 t231 t232).bind fun t270 => (if t270 = true then (if bt264.2.2 = t235 then ((laws_heldComplex.f k t242 bt257.2 1).bind fun t271 => (if t271 < 0 then (none) else (if t271 = bt257.1 then (some true) else (none)))) else (none)) else (none))))) else (none))))) else (none))))) else (none)))) else (none)) else (none))) = some r := H
    have A10 := Aside0.mk A100
    clear A100
    replace H := Option.bind_eq_some_iff.mp H
    obtain ⟨t248, A110, H⟩ := H
    replace H : (if t248 = true then (if t246 = t235 then ((laws_toComplex.f k a0_0 l0_1).bind fun bt249 => ((laws_eqComplex.f k t237 t238 bt249.1 bt249.2).bind fun t253 => (if t253 = true then ((laws_markComplex.f k t237 t238 1).bind fun bt254 => (if bt254.1 < 0 then (none) else ((laws_eqComplex.f k t242 t243 t231 t232).bind fun t256 => (if t256 = true then ((laws_markComplex.f k t242 t243 1).bind fun bt257 => ((laws_heldComplex.f k t242 bt257.2 1).bind fun t259 => (if t259 < 0 then (none) else (if t259 = bt257.1 then ((laws_toComplex.f k a0_0 l0_1).bind fun bt260 => ((impl_BoundaryComplex.f bt260.1 bt260.2).bind fun bt264 => ((laws_eqComplex.f k bt264.1 bt264.2.1 t231 t232).bind fun t270 => (if t270 = true then (if bt264.2.2 = t235 then ((laws_heldComplex.f k t242 bt257.2 1).bind fun t271 => (if t271 < 0 then (none) else (if t271 = bt257.1 then (some true) else (none)))) else (none)) else (none))))) else (none))))) else (none))))) else (none)))) else (none)) else (none)) = some r := H
    have A11 := Aside0.mk A110
    clear A110
    by_cases c12 : t248 = true
    · subst c12
      have H1 : (if t246 = t235 then ((laws_toComplex.f k a0_0 l0_1).bind fun bt249 => ((laws_eqComplex.f k t237 t238 bt249.1 bt249.2).bind fun t253 => (if t253 = true then ((laws_markComplex.f k t237 t238 1).bind fun bt254 => (if bt254.1 < 0 then (none) else ((laws_eqComplex.f k t242 t243 t231 t232).bind fun t256 => (if t256 = true then ((laws_markComplex.f k t242 t243 1).bind fun bt257 => ((laws_heldComplex.f k t242 bt257.2 1).bind fun t259 => (if t259 < 0 then (none) else (if t259 = bt257.1 then ((laws_toComplex.f k a0_0 l0_1).bind fun bt260 => ((impl_BoundaryComplex.f bt260.1 bt260.2).bind fun bt264 => ((laws_eqComplex.f k bt264.1 bt264.2.1 t231 t232).bind fun t270 => (if t270 = true then (if bt264.2.2 = t235 then ((laws_heldComplex.f k t242 bt257.2 1).bind fun t271 => (if t271 < 0 then (none) else (if t271 = bt257.1 then (some true) else (none)))) else (none)) else (none))))) else (none))))) else (none))))) else (none)))) else (none)) = some r := by rw [if_pos rfl] at H; exact H
      clear H
      have H := H1
      clear H1
      by_cases c13 : t246 = t235
      · rw [if_pos c13] at H
        have c13b0 : (t246 == t235) = true := beq_iff_eq.mpr c13
        have c13b1 : (t246 != t235) = false := bne_eq_false_iff_eq.mpr c13
        clear c13
        replace H := Option.bind_eq_some_iff.mp H
        obtain ⟨⟨t249, t250⟩, A140, H⟩ := H
        replace H : ((laws_eqComplex.f k t237 t238 t249 t250).bind fun t253 => (if t253 = true then ((laws_markComplex.f k t237 t238 1).bind fun bt254 => (if bt254.1 < 0 then (none) else ((laws_eqComplex.f k t242 t243 t231 t232).bind fun t256 => (if t256 = true then ((laws_markComplex.f k t242 t243 1).bind fun bt257 => ((laws_heldComplex.f k t242 bt257.2 1).bind fun t259 => (if t259 < 0 then (none) else (if t259 = bt257.1 then ((laws_toComplex.f k a0_0 l0_1).bind fun bt260 => ((impl_BoundaryComplex.f bt260.1 bt260.2).bind fun bt264 => ((laws_eqComplex.f k bt264.1 bt264.2.1 t231 t232).bind fun t270 => (if t270 = true then (if bt264.2.2 = t235 then ((laws_heldComplex.f k t242 bt257.2 1).bind fun t271 => (if t271 < 0 then (none) else (if t271 = bt257.1 then (some true) else (none)))) else (none)) else (none))))) else (none))))) else (none))))) else (none))) = some r := H
        have A14 := Aside0.mk A140
        clear A140
        replace H := Option.bind_eq_some_iff.mp H
        obtain ⟨t253, A150, H⟩ := H
        replace H : (if t253 = true then ((laws_markComplex.f k t237 t238 1).bind fun bt254 => (if bt254.1 < 0 then (none) else ((laws_eqComplex.f k t242 t243 t231 t232).bind fun t256 => (if t256 = true then ((laws_markComplex.f k t242 t243 1).bind fun bt257 => ((laws_heldComplex.f k t242 bt257.2 1).bind fun t259 => (if t259 < 0 then (none) else (if t259 = bt257.1 then ((laws_toComplex.f k a0_0 l0_1).bind fun bt260 => ((impl_BoundaryComplex.f bt260.1 bt260.2).bind fun bt264 => ((laws_eqComplex.f k bt264.1 bt264.2.1 t231 t232).bind fun t270 => (if t270 = true then (if bt264.2.2 = t235 then ((laws_heldComplex.f k t242 bt257.2 1).bind fun t271 => (if t271 < 0 then (none) else (if t271 = bt257.1 then (some true) else (none)))) else (none)) else (none))))) else (none))))) else (none))))) else (none)) = some r := H
        have A15 := Aside0.mk A150
        clear A150
        by_cases c16 : t253 = true
        · subst c16
          have H1 : ((laws_markComplex.f k t237 t238 1).bind fun bt254 => (if bt254.1 < 0 then (none) else ((laws_eqComplex.f k t242 t243 t231 t232).bind fun t256 => (if t256 = true then ((laws_markComplex.f k t242 t243 1).bind fun bt257 => ((laws_heldComplex.f k t242 bt257.2 1).bind fun t259 => (if t259 < 0 then (none) else (if t259 = bt257.1 then ((laws_toComplex.f k a0_0 l0_1).bind fun bt260 => ((impl_BoundaryComplex.f bt260.1 bt260.2).bind fun bt264 => ((laws_eqComplex.f k bt264.1 bt264.2.1 t231 t232).bind fun t270 => (if t270 = true then (if bt264.2.2 = t235 then ((laws_heldComplex.f k t242 bt257.2 1).bind fun t271 => (if t271 < 0 then (none) else (if t271 = bt257.1 then (some true) else (none)))) else (none)) else (none))))) else (none))))) else (none))))) = some r := by rw [if_pos rfl] at H; exact H
          clear H
          have H := H1
          clear H1
          replace H := Option.bind_eq_some_iff.mp H
          obtain ⟨⟨t254, t255⟩, A170, H⟩ := H
          replace H : (if t254 < 0 then (none) else ((laws_eqComplex.f k t242 t243 t231 t232).bind fun t256 => (if t256 = true then ((laws_markComplex.f k t242 t243 1).bind fun bt257 => ((laws_heldComplex.f k t242 bt257.2 1).bind fun t259 => (if t259 < 0 then (none) else (if t259 = bt257.1 then ((laws_toComplex.f k a0_0 l0_1).bind fun bt260 => ((impl_BoundaryComplex.f bt260.1 bt260.2).bind fun bt264 => ((laws_eqComplex.f k bt264.1 bt264.2.1 t231 t232).bind fun t270 => (if t270 = true then (if bt264.2.2 = t235 then ((laws_heldComplex.f k t242 bt257.2 1).bind fun t271 => (if t271 < 0 then (none) else (if t271 = bt257.1 then (some true) else (none)))) else (none)) else (none))))) else (none))))) else (none)))) = some r := H
          have A17 := Aside0.mk A170
          clear A170
          by_cases c18 : t254 < 0
          · rw [if_pos c18] at H
            exact absurd H (by simp)
          · rw [if_neg c18] at H
            have c18b0 : decide (t254 < 0) = false := decide_eq_false c18
            clear c18
            replace H := Option.bind_eq_some_iff.mp H
            obtain ⟨t256, A190, H⟩ := H
            replace H : (if t256 = true then ((laws_markComplex.f k t242 t243 1).bind fun bt257 => ((laws_heldComplex.f k t242 bt257.2 1).bind fun t259 => (if t259 < 0 then (none) else (if t259 = bt257.1 then ((laws_toComplex.f k a0_0 l0_1).bind fun bt260 => ((impl_BoundaryComplex.f bt260.1 bt260.2).bind fun bt264 => ((laws_eqComplex.f k bt264.1 bt264.2.1 t231 t232).bind fun t270 => (if t270 = true then (if bt264.2.2 = t235 then ((laws_heldComplex.f k t242 bt257.2 1).bind fun t271 => (if t271 < 0 then (none) else (if t271 = bt257.1 then (some true) else (none)))) else (none)) else (none))))) else (none))))) else (none)) = some r := H
            have A19 := Aside0.mk A190
            clear A190
            by_cases c20 : t256 = true
            · subst c20
              have H1 : ((laws_markComplex.f k t242 t243 1).bind fun bt257 => ((laws_heldComplex.f k t242 bt257.2 1).bind fun t259 => (if t259 < 0 then (none) else (if t259 = bt257.1 then ((laws_toComplex.f k a0_0 l0_1).bind fun bt260 => ((impl_BoundaryComplex.f bt260.1 bt260.2).bind fun bt264 => ((laws_eqComplex.f k bt264.1 bt264.2.1 t231 t232).bind fun t270 => (if t270 = true then (if bt264.2.2 = t235 then ((laws_heldComplex.f k t242 bt257.2 1).bind fun t271 => (if t271 < 0 then (none) else (if t271 = bt257.1 then (some true) else (none)))) else (none)) else (none))))) else (none))))) = some r := by rw [if_pos rfl] at H; exact H
              clear H
              have H := H1
              clear H1
              replace H := Option.bind_eq_some_iff.mp H
              obtain ⟨⟨t257, t258⟩, A210, H⟩ := H
              replace H : ((laws_heldComplex.f k t242 t258 1).bind fun t259 => (if t259 < 0 then (none) else (if t259 = t257 then ((laws_toComplex.f k a0_0 l0_1).bind fun bt260 => ((impl_BoundaryComplex.f bt260.1 bt260.2).bind fun bt264 => ((laws_eqComplex.f k bt264.1 bt264.2.1 t231 t232).bind fun t270 => (if t270 = true then (if bt264.2.2 = t235 then ((laws_heldComplex.f k t242 t258 1).bind fun t271 => (if t271 < 0 then (none) else (if t271 = t257 then (some true) else (none)))) else (none)) else (none))))) else (none)))) = some r := H
              have A21 := Aside0.mk A210
              clear A210
              replace H := Option.bind_eq_some_iff.mp H
              obtain ⟨t259, A220, H⟩ := H
              replace H : (if t259 < 0 then (none) else (if t259 = t257 then ((laws_toComplex.f k a0_0 l0_1).bind fun bt260 => ((impl_BoundaryComplex.f bt260.1 bt260.2).bind fun bt264 => ((laws_eqComplex.f k bt264.1 bt264.2.1 t231 t232).bind fun t270 => (if t270 = true then (if bt264.2.2 = t235 then ((laws_heldComplex.f k t242 t258 1).bind fun t271 => (if t271 < 0 then (none) else (if t271 = t257 then (some true) else (none)))) else (none)) else (none))))) else (none))) = some r := H
              have A22 := Aside0.mk A220
              clear A220
              by_cases c23 : t259 < 0
              · rw [if_pos c23] at H
                exact absurd H (by simp)
              · rw [if_neg c23] at H
                have c23b0 : decide (t259 < 0) = false := decide_eq_false c23
                clear c23
                by_cases c24 : t259 = t257
                · rw [if_pos c24] at H
                  have c24b0 : (t259 == t257) = true := beq_iff_eq.mpr c24
                  have c24b1 : (t259 != t257) = false := bne_eq_false_iff_eq.mpr c24
                  clear c24
                  replace H := Option.bind_eq_some_iff.mp H
                  obtain ⟨⟨t260, t261⟩, A250, H⟩ := H
                  replace H : ((impl_BoundaryComplex.f t260 t261).bind fun bt264 => ((laws_eqComplex.f k bt264.1 bt264.2.1 t231 t232).bind fun t270 => (if t270 = true then (if bt264.2.2 = t235 then ((laws_heldComplex.f k t242 t258 1).bind fun t271 => (if t271 < 0 then (none) else (if t271 = t257 then (some true) else (none)))) else (none)) else (none)))) = some r := H
                  have A25 := Aside0.mk A250
                  clear A250
                  replace H := Option.bind_eq_some_iff.mp H
                  obtain ⟨⟨t264, t265, t268⟩, A260, H⟩ := H
                  replace H : ((laws_eqComplex.f k t264 t265 t231 t232).bind fun t270 => (if t270 = true then (if t268 = t235 then ((laws_heldComplex.f k t242 t258 1).bind fun t271 => (if t271 < 0 then (none) else (if t271 = t257 then (some true) else (none)))) else (none)) else (none))) = some r := H
                  have A26 := Aside0.mk A260
                  clear A260
                  replace H := Option.bind_eq_some_iff.mp H
                  obtain ⟨t270, A270, H⟩ := H
                  replace H : (if t270 = true then (if t268 = t235 then ((laws_heldComplex.f k t242 t258 1).bind fun t271 => (if t271 < 0 then (none) else (if t271 = t257 then (some true) else (none)))) else (none)) else (none)) = some r := H
                  have A27 := Aside0.mk A270
                  clear A270
                  by_cases c28 : t270 = true
                  · subst c28
                    have H1 : (if t268 = t235 then ((laws_heldComplex.f k t242 t258 1).bind fun t271 => (if t271 < 0 then (none) else (if t271 = t257 then (some true) else (none)))) else (none)) = some r := by rw [if_pos rfl] at H; exact H
                    clear H
                    have H := H1
                    clear H1
                    by_cases c29 : t268 = t235
                    · rw [if_pos c29] at H
                      have c29b0 : (t268 == t235) = true := beq_iff_eq.mpr c29
                      have c29b1 : (t268 != t235) = false := bne_eq_false_iff_eq.mpr c29
                      clear c29
                      replace H := Option.bind_eq_some_iff.mp H
                      obtain ⟨t271, A300, H⟩ := H
                      replace H : (if t271 < 0 then (none) else (if t271 = t257 then (some true) else (none))) = some r := H
                      have A30 := Aside0.mk A300
                      clear A300
                      by_cases c31 : t271 < 0
                      · rw [if_pos c31] at H
                        exact absurd H (by simp)
                      · rw [if_neg c31] at H
                        have c31b0 : decide (t271 < 0) = false := decide_eq_false c31
                        clear c31
                        by_cases c32 : t271 = t257
                        · rw [if_pos c32] at H
                          have c32b0 : (t271 == t257) = true := beq_iff_eq.mpr c32
                          have c32b1 : (t271 != t257) = false := bne_eq_false_iff_eq.mpr c32
                          clear c32
                          obtain rfl := Option.some.inj H
                          go_enter Try.func8, Try.ntmps8
                          try go_wp2_with (first | ((with_reducible refine gate_dst (N := 1) rfl ?_); refine box_event ?hg (N := 1) ?hd (cs := #[.int .i64 a0_0, .slice A0_1 l0_1.length c0_1]) (t := 24) ?hr ?_; (case hd => rfl); (case hg => rfl); (case hr => first | (go_simp; done) | (go_simp; rfl)); intro gb225 hg w33 hbox hb; have n0_ := Aside0.mk (below_step (by repeat (first | (with_reducible first | exact HB.out | apply below_alloc | apply pw_below_drewN | apply below_drew1) | exact HB.out)) hb); have n1_ := Aside0.mk (hbox); have n2_ := Aside0.mk ((by rw [hg]; exact (below_size (by repeat (first | (with_reducible first | exact HB.out | apply below_alloc | apply pw_below_drewN | apply below_drew1) | exact HB.out))) : w.heap.size ≤ gb225)); have n3_ := Aside0.mk ((by rw [hg]; exact (below_size (by repeat (first | (with_reducible first | exact HB.out | apply below_alloc | apply pw_below_drewN | apply below_drew1) | exact HB.out))) : w.heap.size ≤ gb225)); clear HB; have HB := n0_; have BK225 := n1_; have GW225 := n2_; have GE225 := n3_; clear n0_ n1_ n2_ n3_; clear hb hbox hg; have hcz34_0 : w33.cell? ⟨gb225, 0, none⟩ = some (.int .i64 a0_0) := (blk_cell BK225.out 0).trans rfl; have hcz34_1 : w33.cell? ⟨gb225, 1, none⟩ = some (.slice A0_1 l0_1.length c0_1) := (blk_cell BK225.out 1).trans rfl; have hfz34_0 := blk_frozen BK225.out 0; have hfz34_1 := blk_frozen BK225.out 1) | ((with_reducible refine gate_callee (f := 15) rfl ?_); refine goesL_ (some 16) rfl rfl Try.func15 (by kernel_rfl) rfl #[.agg #[.int .i64 a0_0, .slice A0_1 l0_1.length c0_1], .int .i64 1048576] rfl (by (try simp only [List.map_toArray, List.map_cons, List.map_nil]); first | done | rfl | (simp only [List.length_drop, List.length_take]; rfl)) ?_; (with_reducible refine (laws_szComplex.calls a0_0 _ _ l0_1 1048576 t226 _ ?side1 ?side2 A2.out).mono ?_); (case side1 => repeat (first | exact (Kd.C_below HR0_1.out HB.out) | (with_reducible refine Kd.C_alloc ?_ _) | (with_reducible refine Kd.C_drewN ?_ _) | (with_reducible refine Kd.C_drew ?_))); (case side2 => exact HC0_1.out); rintro e w35 ⟨rfl, hb⟩; refine ⟨_, rfl, ?_⟩; have n0_ := Aside0.mk (blk_below (g := gb225) (o := .cells #[.int .i64 a0_0, .slice A0_1 l0_1.length c0_1] 24 (0, 0)) (by (with_reducible repeat (first | refine blk_drewN ?_ _ | refine blk_drew ?_ | refine blk_alloc ?_ _)); exact BK225.out) hb); have n1_ := Aside0.mk (below_step (by repeat (first | (with_reducible first | exact HB.out | apply below_alloc | apply pw_below_drewN | apply below_drew1 | refine below_set ?_ GE225.out) | exact HB.out)) hb); clear BK225; clear HB; have BK225 := n0_; have HB := n1_; clear n0_ n1_; (try clear hb); (try clear hb2); (try clear hk); (try clear hi); have hcz36_0 : w35.cell? ⟨gb225, 0, none⟩ = some (.int .i64 a0_0) := (blk_cell BK225.out 0).trans rfl; have hcz36_1 : w35.cell? ⟨gb225, 1, none⟩ = some (.slice A0_1 l0_1.length c0_1) := (blk_cell BK225.out 1).trans rfl; have hfz36_0 := blk_frozen BK225.out 0; have hfz36_1 := blk_frozen BK225.out 1) | ((with_reducible refine gate_callee (f := 17) rfl ?_); refine goesL_ (some 21) rfl rfl Try.func17 (by kernel_rfl) rfl #[.agg #[.int .i64 a0_0, .slice A0_1 l0_1.length c0_1]] rfl (by (try simp only [List.map_toArray, List.map_cons, List.map_nil]); first | done | rfl | (simp only [List.length_drop, List.length_take]; rfl)) ?_; (with_reducible refine (laws_toComplex.calls k a0_0 _ _ l0_1 t227 t228 _ ?side1 ?side2 A7.out).mono ?_); (case side1 => repeat (first | exact (Kd.C_below HR0_1.out HB.out) | (with_reducible refine Kd.C_alloc ?_ _) | (with_reducible refine Kd.C_drewN ?_ _) | (with_reducible refine Kd.C_drew ?_))); (case side2 => exact HC0_1.out); rintro e w37 ⟨v229, rfl, ho0, hb⟩; refine ⟨_, rfl, ?_⟩; have n0_ := Aside0.mk (Kd.R_lower ho0 (below_size (by repeat (first | (with_reducible first | exact HB.out | apply below_alloc | apply pw_below_drewN | apply below_drew1 | refine below_set ?_ GE225.out) | exact HB.out)))); have n1_ := Aside0.mk (blk_below (g := gb225) (o := .cells #[.int .i64 a0_0, .slice A0_1 l0_1.length c0_1] 24 (0, 0)) (by (with_reducible repeat (first | refine blk_drewN ?_ _ | refine blk_drew ?_ | refine blk_alloc ?_ _)); exact BK225.out) hb); have n2_ := Aside0.mk (below_step (by repeat (first | (with_reducible first | exact HB.out | apply below_alloc | apply pw_below_drewN | apply below_drew1 | refine below_set ?_ GE225.out) | exact HB.out)) hb); clear BK225; clear HB; have HO230 := n0_; have BK225 := n1_; have HB := n2_; clear n0_ n1_ n2_; (try clear hb); (try clear hb2); (try clear hk); (try clear hi); (try clear ho0); obtain ⟨Ao38, co38, eo38⟩ := Kd.R_slice HO230.out; subst eo38) | ((with_reducible refine gate_callee (f := 36) rfl ?_); refine goesL_ (some 22) rfl rfl Try.func36 (by kernel_rfl) rfl #[.agg #[.int .i64 t227, .slice Ao38 t228.length co38]] rfl (by (try simp only [List.map_toArray, List.map_cons, List.map_nil]); first | done | rfl | (simp only [List.length_drop, List.length_take]; rfl)) ?_; (with_reducible refine (spec_BoundaryComplex.calls k t227 _ _ t228 t231 t232 t235 _ ?side1 ?side2 A8.out).mono ?_); (case side1 => repeat (first | exact (Kd.R_reads' HO230.out).2.2 | (with_reducible refine Kd.C_alloc ?_ _) | (with_reducible refine Kd.C_drewN ?_ _) | (with_reducible refine Kd.C_drew ?_))); (case side2 => exact (Kd.R_reads' HO230.out).2.1); rintro e w39 ⟨v233, rfl, ho0, hb⟩; refine ⟨_, rfl, ?_⟩; have n0_ := Aside0.mk (Kd.R_elder' (by (with_reducible repeat (first | apply Kd.R_alloc | apply Kd.R_drewN | apply Kd.R_drew)); exact HO230.out) (Kd.R_base ho0) hb); have n1_ := Aside0.mk (Kd.R_lower (Kd.R_new' ho0 (Kd.R_lt (by (with_reducible repeat (first | apply Kd.R_alloc | apply Kd.R_drewN | apply Kd.R_drew)); exact HO230.out))) (below_size (by repeat (first | (with_reducible first | exact HB.out | apply below_alloc | apply pw_below_drewN | apply below_drew1 | refine below_set ?_ GE225.out) | exact HB.out)))); have n2_ := Aside0.mk (blk_below (g := gb225) (o := .cells #[.int .i64 a0_0, .slice A0_1 l0_1.length c0_1] 24 (0, 0)) (by (with_reducible repeat (first | refine blk_drewN ?_ _ | refine blk_drew ?_ | refine blk_alloc ?_ _)); exact BK225.out) hb); have n3_ := Aside0.mk (below_step (by repeat (first | (with_reducible first | exact HB.out | apply below_alloc | apply pw_below_drewN | apply below_drew1 | refine below_set ?_ GE225.out) | exact HB.out)) hb); clear HO230; clear BK225; clear HB; have HO230 := n0_; have HO234 := n1_; have BK225 := n2_; have HB := n3_; clear n0_ n1_ n2_ n3_; (try clear hb); (try clear hb2); (try clear hk); (try clear hi); (try clear ho0)) | ((with_reducible refine gate_dst (N := 4) rfl ?_); refine box_event ?hg (N := 4) ?hd (cs := #[.int .i64 0, .slice none 0 0]) (t := 26) ?hr ?_; (case hd => rfl); (case hg => rfl); (case hr => first | (go_simp; done) | (go_simp; rfl)); intro gb236 hg w40 hbox hb; have n0_ := Aside0.mk (Kd.R_below (by (with_reducible repeat (first | apply Kd.R_alloc | apply Kd.R_drewN | apply Kd.R_drew)); exact HO230.out) hb); have n1_ := Aside0.mk (Kd.R_below (by (with_reducible repeat (first | apply Kd.R_alloc | apply Kd.R_drewN | apply Kd.R_drew)); exact HO234.out) hb); have n2_ := Aside0.mk (blk_below (g := gb225) (o := .cells #[.int .i64 a0_0, .slice A0_1 l0_1.length c0_1] 24 (0, 0)) (by (with_reducible repeat (first | refine blk_drewN ?_ _ | refine blk_drew ?_ | refine blk_alloc ?_ _)); exact BK225.out) hb); have n3_ := Aside0.mk (below_step (by repeat (first | (with_reducible first | exact HB.out | apply below_alloc | apply pw_below_drewN | apply below_drew1 | refine below_set ?_ GE225.out) | exact HB.out)) hb); have n4_ := Aside0.mk (hbox); have n5_ := Aside0.mk ((by rw [hg]; exact (below_size (by repeat (first | (with_reducible first | exact HB.out | apply below_alloc | apply pw_below_drewN | apply below_drew1 | refine below_set ?_ GE225.out) | exact HB.out))) : w.heap.size ≤ gb236)); have n6_ := Aside0.mk ((by rw [hg]; exact (below_size (by repeat (first | (with_reducible first | exact HB.out | apply below_alloc | apply pw_below_drewN | apply below_drew1 | refine below_set ?_ GE225.out) | exact HB.out))) : w.heap.size ≤ gb236)); have n7_ := Aside0.mk ((by rw [hg]; exact Nat.ne_of_lt (blk_lt (g := gb225) (o := .cells #[.int .i64 a0_0, .slice A0_1 l0_1.length c0_1] 24 (0, 0)) (by (with_reducible repeat (first | refine blk_drewN ?_ _ | refine blk_drew ?_ | refine blk_alloc ?_ _)); exact BK225.out)) : gb225 ≠ gb236)); have n8_ := Aside0.mk ((by rw [hg]; exact Nat.ne_of_gt (blk_lt (g := gb225) (o := .cells #[.int .i64 a0_0, .slice A0_1 l0_1.length c0_1] 24 (0, 0)) (by (with_reducible repeat (first | refine blk_drewN ?_ _ | refine blk_drew ?_ | refine blk_alloc ?_ _)); exact BK225.out)) : gb236 ≠ gb225)); clear HO230; clear HO234; clear BK225; clear HB; have HO230 := n0_; have HO234 := n1_; have BK225 := n2_; have HB := n3_; have BK236 := n4_; have GW236 := n5_; have GE236 := n6_; have NB225_236 := n7_; have NB236_225 := n8_; clear n0_ n1_ n2_ n3_ n4_ n5_ n6_ n7_ n8_; clear hb hbox hg; have hnb41 := NB236_225.out; have hnc41 := NB225_236.out; have hcz42_0 : w40.cell? ⟨gb236, 0, none⟩ = some (.int .i64 0) := (blk_cell BK236.out 0).trans rfl; have hcz42_1 : w40.cell? ⟨gb236, 1, none⟩ = some (.slice none 0 0) := (blk_cell BK236.out 1).trans rfl; have hfz42_0 := blk_frozen BK236.out 0; have hfz42_1 := blk_frozen BK236.out 1; obtain ⟨Ao43, co43, eo43⟩ := Kd.R_slice HO234.out; subst eo43; have hcz44_0 : w40.cell? ⟨gb225, 0, none⟩ = some (.int .i64 a0_0) := (blk_cell BK225.out 0).trans rfl; have hcz44_1 : w40.cell? ⟨gb225, 1, none⟩ = some (.slice A0_1 l0_1.length c0_1) := (blk_cell BK225.out 1).trans rfl; have hfz44_0 := blk_frozen BK225.out 0; have hfz44_1 := blk_frozen BK225.out 1) | ((with_reducible refine gate_callee (f := 17) rfl ?_); refine goesL_ (some 26) rfl rfl Try.func17 (by kernel_rfl) rfl #[.agg #[.int .i64 a0_0, .slice A0_1 l0_1.length c0_1]] rfl (by (try simp only [List.map_toArray, List.map_cons, List.map_nil]); first | done | rfl | (simp only [List.length_drop, List.length_take]; rfl)) ?_; (with_reducible refine (laws_toComplex.calls k a0_0 _ _ l0_1 t237 t238 _ ?side1 ?side2 A9.out).mono ?_); (case side1 => exact Kd.C_below HR0_1.out (by repeat (first | (with_reducible first | exact HB.out | apply below_alloc | apply pw_below_drewN | apply below_drew1 | refine below_set ?_ GE225.out | refine below_set ?_ GE236.out) | exact HB.out))); (case side2 => exact HC0_1.out); rintro e w45 ⟨v239, rfl, ho0, hb⟩; refine ⟨_, rfl, ?_⟩; have n0_ := Aside0.mk (Kd.R_elder' (by (with_reducible repeat (first | apply Kd.R_alloc | apply Kd.R_drewN | apply Kd.R_drew)); exact (Kd.R_mono (Kd.R_far (p := ⟨gb236, 1, none⟩) (Kd.R_far (p := ⟨gb236, 0, none⟩) (Kd.R_types HO230.out BK236.out (by decide)) (fun _ hk => hk.2) (.int .i64 t231)) (fun _ hk => hk.2) (.slice Ao43 t232.length co43)) (fun _ h_ => h_.1))) (Kd.R_base ho0) hb); have n1_ := Aside0.mk (Kd.R_elder' (by (with_reducible repeat (first | apply Kd.R_alloc | apply Kd.R_drewN | apply Kd.R_drew)); exact (Kd.R_mono (Kd.R_far (p := ⟨gb236, 1, none⟩) (Kd.R_far (p := ⟨gb236, 0, none⟩) (Kd.R_types HO234.out BK236.out (by decide)) (fun _ hk => hk.2) (.int .i64 t231)) (fun _ hk => hk.2) (.slice Ao43 t232.length co43)) (fun _ h_ => h_.1))) (Kd.R_base ho0) hb); have n2_ := Aside0.mk (Kd.R_lower (Kd.R_new' (Kd.R_new' ho0 (Kd.R_lt (by (with_reducible repeat (first | apply Kd.R_alloc | apply Kd.R_drewN | apply Kd.R_drew)); exact (Kd.R_mono (Kd.R_far (p := ⟨gb236, 1, none⟩) (Kd.R_far (p := ⟨gb236, 0, none⟩) (Kd.R_types HO230.out BK236.out (by decide)) (fun _ hk => hk.2) (.int .i64 t231)) (fun _ hk => hk.2) (.slice Ao43 t232.length co43)) (fun _ h_ => h_.1))))) (Kd.R_lt (by (with_reducible repeat (first | apply Kd.R_alloc | apply Kd.R_drewN | apply Kd.R_drew)); exact (Kd.R_mono (Kd.R_far (p := ⟨gb236, 1, none⟩) (Kd.R_far (p := ⟨gb236, 0, none⟩) (Kd.R_types HO234.out BK236.out (by decide)) (fun _ hk => hk.2) (.int .i64 t231)) (fun _ hk => hk.2) (.slice Ao43 t232.length co43)) (fun _ h_ => h_.1))))) (below_size (by repeat (first | (with_reducible first | exact HB.out | apply below_alloc | apply pw_below_drewN | apply below_drew1 | refine below_set ?_ GE225.out | refine below_set ?_ GE236.out) | exact HB.out)))); have n3_ := Aside0.mk (blk_below (g := gb225) (o := .cells #[.int .i64 a0_0, .slice A0_1 l0_1.length c0_1] 24 (0, 0)) (by (with_reducible repeat (first | refine blk_drewN ?_ _ | refine blk_drew ?_ | refine blk_alloc ?_ _)); refine blk_far ?_ NB225_236.out _; (with_reducible repeat (first | refine blk_drewN ?_ _ | refine blk_drew ?_ | refine blk_alloc ?_ _)); refine blk_far ?_ NB225_236.out _; (with_reducible repeat (first | refine blk_drewN ?_ _ | refine blk_drew ?_ | refine blk_alloc ?_ _)); exact BK225.out) hb); have n4_ := Aside0.mk (blk_below (g := gb236) (o := .cells #[.int .i64 t231, .slice Ao43 t232.length co43] 26 (0, 0)) (by (with_reducible repeat (first | refine blk_drewN ?_ _ | refine blk_drew ?_ | refine blk_alloc ?_ _)); refine blk_put (cs := #[.int .i64 t231, .slice none 0 0]) ?_ 1 _ rfl; (with_reducible repeat (first | refine blk_drewN ?_ _ | refine blk_drew ?_ | refine blk_alloc ?_ _)); refine blk_put (cs := #[.int .i64 0, .slice none 0 0]) ?_ 0 _ rfl; (with_reducible repeat (first | refine blk_drewN ?_ _ | refine blk_drew ?_ | refine blk_alloc ?_ _)); exact BK236.out) hb); have n5_ := Aside0.mk (below_step (by repeat (first | (with_reducible first | exact HB.out | apply below_alloc | apply pw_below_drewN | apply below_drew1 | refine below_set ?_ GE225.out | refine below_set ?_ GE236.out) | exact HB.out)) hb); clear HO230; clear HO234; clear BK225; clear BK236; clear HB; have HO230 := n0_; have HO234 := n1_; have HO240 := n2_; have BK225 := n3_; have BK236 := n4_; have HB := n5_; clear n0_ n1_ n2_ n3_ n4_ n5_; (try clear hb); (try clear hb2); (try clear hk); (try clear hi); (try clear ho0)) | ((with_reducible refine gate_dst (N := 6) rfl ?_); refine box_event ?hg (N := 6) ?hd (cs := #[.int .i64 0, .slice none 0 0]) (t := 26) ?hr ?_; (case hd => rfl); (case hg => rfl); (case hr => first | (go_simp; done) | (go_simp; rfl)); intro gb241 hg w46 hbox hb; have n0_ := Aside0.mk (Kd.R_below (by (with_reducible repeat (first | apply Kd.R_alloc | apply Kd.R_drewN | apply Kd.R_drew)); exact HO230.out) hb); have n1_ := Aside0.mk (Kd.R_below (by (with_reducible repeat (first | apply Kd.R_alloc | apply Kd.R_drewN | apply Kd.R_drew)); exact HO234.out) hb); have n2_ := Aside0.mk (Kd.R_below (by (with_reducible repeat (first | apply Kd.R_alloc | apply Kd.R_drewN | apply Kd.R_drew)); exact HO240.out) hb); have n3_ := Aside0.mk (blk_below (g := gb225) (o := .cells #[.int .i64 a0_0, .slice A0_1 l0_1.length c0_1] 24 (0, 0)) (by (with_reducible repeat (first | refine blk_drewN ?_ _ | refine blk_drew ?_ | refine blk_alloc ?_ _)); exact BK225.out) hb); have n4_ := Aside0.mk (blk_below (g := gb236) (o := .cells #[.int .i64 t231, .slice Ao43 t232.length co43] 26 (0, 0)) (by (with_reducible repeat (first | refine blk_drewN ?_ _ | refine blk_drew ?_ | refine blk_alloc ?_ _)); exact BK236.out) hb); have n5_ := Aside0.mk (below_step (by repeat (first | (with_reducible first | exact HB.out | apply below_alloc | apply pw_below_drewN | apply below_drew1 | refine below_set ?_ GE225.out | refine below_set ?_ GE236.out) | exact HB.out)) hb); have n6_ := Aside0.mk (hbox); have n7_ := Aside0.mk ((by rw [hg]; exact (below_size (by repeat (first | (with_reducible first | exact HB.out | apply below_alloc | apply pw_below_drewN | apply below_drew1 | refine below_set ?_ GE225.out | refine below_set ?_ GE236.out) | exact HB.out))) : w.heap.size ≤ gb241)); have n8_ := Aside0.mk ((by rw [hg]; exact (below_size (by repeat (first | (with_reducible first | exact HB.out | apply below_alloc | apply pw_below_drewN | apply below_drew1 | refine below_set ?_ GE225.out | refine below_set ?_ GE236.out) | exact HB.out))) : w.heap.size ≤ gb241)); have n9_ := Aside0.mk ((by rw [hg]; exact Nat.ne_of_lt (blk_lt (g := gb225) (o := .cells #[.int .i64 a0_0, .slice A0_1 l0_1.length c0_1] 24 (0, 0)) (by (with_reducible repeat (first | refine blk_drewN ?_ _ | refine blk_drew ?_ | refine blk_alloc ?_ _)); exact BK225.out)) : gb225 ≠ gb241)); have n10_ := Aside0.mk ((by rw [hg]; exact Nat.ne_of_gt (blk_lt (g := gb225) (o := .cells #[.int .i64 a0_0, .slice A0_1 l0_1.length c0_1] 24 (0, 0)) (by (with_reducible repeat (first | refine blk_drewN ?_ _ | refine blk_drew ?_ | refine blk_alloc ?_ _)); exact BK225.out)) : gb241 ≠ gb225)); have n11_ := Aside0.mk ((by rw [hg]; exact Nat.ne_of_lt (blk_lt (g := gb236) (o := .cells #[.int .i64 t231, .slice Ao43 t232.length co43] 26 (0, 0)) (by (with_reducible repeat (first | refine blk_drewN ?_ _ | refine blk_drew ?_ | refine blk_alloc ?_ _)); exact BK236.out)) : gb236 ≠ gb241)); have n12_ := Aside0.mk ((by rw [hg]; exact Nat.ne_of_gt (blk_lt (g := gb236) (o := .cells #[.int .i64 t231, .slice Ao43 t232.length co43] 26 (0, 0)) (by (with_reducible repeat (first | refine blk_drewN ?_ _ | refine blk_drew ?_ | refine blk_alloc ?_ _)); exact BK236.out)) : gb241 ≠ gb236)); clear HO230; clear HO234; clear HO240; clear BK225; clear BK236; clear HB; have HO230 := n0_; have HO234 := n1_; have HO240 := n2_; have BK225 := n3_; have BK236 := n4_; have HB := n5_; have BK241 := n6_; have GW241 := n7_; have GE241 := n8_; have NB225_241 := n9_; have NB241_225 := n10_; have NB236_241 := n11_; have NB241_236 := n12_; clear n0_ n1_ n2_ n3_ n4_ n5_ n6_ n7_ n8_ n9_ n10_ n11_ n12_; clear hb hbox hg; have hnb47 := NB241_225.out; have hnc47 := NB225_241.out; have hnb48 := NB241_236.out; have hnc48 := NB236_241.out; have hcz49_0 : w46.cell? ⟨gb241, 0, none⟩ = some (.int .i64 0) := (blk_cell BK241.out 0).trans rfl; have hcz49_1 : w46.cell? ⟨gb241, 1, none⟩ = some (.slice none 0 0) := (blk_cell BK241.out 1).trans rfl; have hfz49_0 := blk_frozen BK241.out 0; have hfz49_1 := blk_frozen BK241.out 1; obtain ⟨Ao50, co50, eo50⟩ := Kd.R_slice HO240.out; subst eo50) | ((with_reducible refine gate_callee (f := 37) rfl ?_); refine goesL_ (some 29) rfl rfl Try.func37 (by kernel_rfl) rfl #[.agg #[.int .i64 t237, .slice Ao50 t238.length co50]] rfl (by (try simp only [List.map_toArray, List.map_cons, List.map_nil]); first | done | rfl | (simp only [List.length_drop, List.length_take]; rfl)) ?_; (with_reducible refine (impl_BoundaryComplex.calls t237 _ _ t238 t242 t243 t246 _ ?side1 ?side2 A10.out).mono ?_); (case side1 => refine (Kd.R_reads' (e := 2) (base := w.heap.size) (ok := fun k_ => ((True ∧ some k_ ≠ (.slice Ao38 t228.length co38 : Value).ownBlock) ∧ some k_ ≠ (.slice Ao43 t232.length co43 : Value).ownBlock)) (n := t238.length) (c := co50) ?_).2.2; exact (by (with_reducible repeat (first | apply Kd.R_alloc | apply Kd.R_drewN | apply Kd.R_drew)); exact (Kd.R_mono (Kd.R_far (p := ⟨gb241, 1, none⟩) (Kd.R_far (p := ⟨gb241, 0, none⟩) (Kd.R_types HO240.out BK241.out (by decide)) (fun _ hk => hk.2) (.int .i64 t237)) (fun _ hk => hk.2) (.slice Ao50 t238.length co50)) (fun _ h_ => h_.1)))); (case side2 => exact (Kd.R_reads' HO240.out).2.1); rintro e w51 ⟨v244, rfl, ho0, hb⟩; refine ⟨_, rfl, ?_⟩; have n0_ := Aside0.mk (Kd.R_elder' (by (with_reducible repeat (first | apply Kd.R_alloc | apply Kd.R_drewN | apply Kd.R_drew)); exact (Kd.R_mono (Kd.R_far (p := ⟨gb241, 1, none⟩) (Kd.R_far (p := ⟨gb241, 0, none⟩) (Kd.R_types HO230.out BK241.out (by decide)) (fun _ hk => hk.2) (.int .i64 t237)) (fun _ hk => hk.2) (.slice Ao50 t238.length co50)) (fun _ h_ => h_.1))) (Kd.R_base ho0) hb); have n1_ := Aside0.mk (Kd.R_elder' (by (with_reducible repeat (first | apply Kd.R_alloc | apply Kd.R_drewN | apply Kd.R_drew)); exact (Kd.R_mono (Kd.R_far (p := ⟨gb241, 1, none⟩) (Kd.R_far (p := ⟨gb241, 0, none⟩) (Kd.R_types HO234.out BK241.out (by decide)) (fun _ hk => hk.2) (.int .i64 t237)) (fun _ hk => hk.2) (.slice Ao50 t238.length co50)) (fun _ h_ => h_.1))) (Kd.R_base ho0) hb); have n2_ := Aside0.mk (Kd.R_elder' (by (with_reducible repeat (first | apply Kd.R_alloc | apply Kd.R_drewN | apply Kd.R_drew)); exact (Kd.R_mono (Kd.R_far (p := ⟨gb241, 1, none⟩) (Kd.R_far (p := ⟨gb241, 0, none⟩) (Kd.R_types HO240.out BK241.out (by decide)) (fun _ hk => hk.2) (.int .i64 t237)) (fun _ hk => hk.2) (.slice Ao50 t238.length co50)) (fun _ h_ => h_.1))) (Kd.R_base ho0) hb); have n3_ := Aside0.mk (Kd.R_lower (Kd.R_new' (Kd.R_new' (Kd.R_new' ho0 (Kd.R_lt (by (with_reducible repeat (first | apply Kd.R_alloc | apply Kd.R_drewN | apply Kd.R_drew)); exact (Kd.R_mono (Kd.R_far (p := ⟨gb241, 1, none⟩) (Kd.R_far (p := ⟨gb241, 0, none⟩) (Kd.R_types HO230.out BK241.out (by decide)) (fun _ hk => hk.2) (.int .i64 t237)) (fun _ hk => hk.2) (.slice Ao50 t238.length co50)) (fun _ h_ => h_.1))))) (Kd.R_lt (by (with_reducible repeat (first | apply Kd.R_alloc | apply Kd.R_drewN | apply Kd.R_drew)); exact (Kd.R_mono (Kd.R_far (p := ⟨gb241, 1, none⟩) (Kd.R_far (p := ⟨gb241, 0, none⟩) (Kd.R_types HO234.out BK241.out (by decide)) (fun _ hk => hk.2) (.int .i64 t237)) (fun _ hk => hk.2) (.slice Ao50 t238.length co50)) (fun _ h_ => h_.1))))) (Kd.R_lt (by (with_reducible repeat (first | apply Kd.R_alloc | apply Kd.R_drewN | apply Kd.R_drew)); exact (Kd.R_mono (Kd.R_far (p := ⟨gb241, 1, none⟩) (Kd.R_far (p := ⟨gb241, 0, none⟩) (Kd.R_types HO240.out BK241.out (by decide)) (fun _ hk => hk.2) (.int .i64 t237)) (fun _ hk => hk.2) (.slice Ao50 t238.length co50)) (fun _ h_ => h_.1))))) (below_size (by repeat (first | (with_reducible first | exact HB.out | apply below_alloc | apply pw_below_drewN | apply below_drew1 | refine below_set ?_ GE225.out | refine below_set ?_ GE236.out | refine below_set ?_ GE241.out) | exact HB.out)))); have n4_ := Aside0.mk (blk_below (g := gb225) (o := .cells #[.int .i64 a0_0, .slice A0_1 l0_1.length c0_1] 24 (0, 0)) (by (with_reducible repeat (first | refine blk_drewN ?_ _ | refine blk_drew ?_ | refine blk_alloc ?_ _)); refine blk_far ?_ NB225_241.out _; (with_reducible repeat (first | refine blk_drewN ?_ _ | refine blk_drew ?_ | refine blk_alloc ?_ _)); refine blk_far ?_ NB225_241.out _; (with_reducible repeat (first | refine blk_drewN ?_ _ | refine blk_drew ?_ | refine blk_alloc ?_ _)); exact BK225.out) hb); have n5_ := Aside0.mk (blk_below (g := gb236) (o := .cells #[.int .i64 t231, .slice Ao43 t232.length co43] 26 (0, 0)) (by (with_reducible repeat (first | refine blk_drewN ?_ _ | refine blk_drew ?_ | refine blk_alloc ?_ _)); refine blk_far ?_ NB236_241.out _; (with_reducible repeat (first | refine blk_drewN ?_ _ | refine blk_drew ?_ | refine blk_alloc ?_ _)); refine blk_far ?_ NB236_241.out _; (with_reducible repeat (first | refine blk_drewN ?_ _ | refine blk_drew ?_ | refine blk_alloc ?_ _)); exact BK236.out) hb); have n6_ := Aside0.mk (blk_below (g := gb241) (o := .cells #[.int .i64 t237, .slice Ao50 t238.length co50] 26 (0, 0)) (by (with_reducible repeat (first | refine blk_drewN ?_ _ | refine blk_drew ?_ | refine blk_alloc ?_ _)); refine blk_put (cs := #[.int .i64 t237, .slice none 0 0]) ?_ 1 _ rfl; (with_reducible repeat (first | refine blk_drewN ?_ _ | refine blk_drew ?_ | refine blk_alloc ?_ _)); refine blk_put (cs := #[.int .i64 0, .slice none 0 0]) ?_ 0 _ rfl; (with_reducible repeat (first | refine blk_drewN ?_ _ | refine blk_drew ?_ | refine blk_alloc ?_ _)); exact BK241.out) hb); have n7_ := Aside0.mk (below_step (by repeat (first | (with_reducible first | exact HB.out | apply below_alloc | apply pw_below_drewN | apply below_drew1 | refine below_set ?_ GE225.out | refine below_set ?_ GE236.out | refine below_set ?_ GE241.out) | exact HB.out)) hb); clear HO230; clear HO234; clear HO240; clear BK225; clear BK236; clear BK241; clear HB; have HO230 := n0_; have HO234 := n1_; have HO240 := n2_; have HO245 := n3_; have BK225 := n4_; have BK236 := n5_; have BK241 := n6_; have HB := n7_; clear n0_ n1_ n2_ n3_ n4_ n5_ n6_ n7_; (try clear hb); (try clear hb2); (try clear hk); (try clear hi); (try clear ho0)) | ((with_reducible refine gate_dst (N := 7) rfl ?_); refine box_event ?hg (N := 7) ?hd (cs := #[.int .i64 0, .slice none 0 0]) (t := 26) ?hr ?_; (case hd => rfl); (case hg => rfl); (case hr => first | (go_simp; done) | (go_simp; rfl)); intro gb247 hg w52 hbox hb; have n0_ := Aside0.mk (Kd.R_below (by (with_reducible repeat (first | apply Kd.R_alloc | apply Kd.R_drewN | apply Kd.R_drew)); exact HO230.out) hb); have n1_ := Aside0.mk (Kd.R_below (by (with_reducible repeat (first | apply Kd.R_alloc | apply Kd.R_drewN | apply Kd.R_drew)); exact HO234.out) hb); have n2_ := Aside0.mk (Kd.R_below (by (with_reducible repeat (first | apply Kd.R_alloc | apply Kd.R_drewN | apply Kd.R_drew)); exact HO240.out) hb); have n3_ := Aside0.mk (Kd.R_below (by (with_reducible repeat (first | apply Kd.R_alloc | apply Kd.R_drewN | apply Kd.R_drew)); exact HO245.out) hb); have n4_ := Aside0.mk (blk_below (g := gb225) (o := .cells #[.int .i64 a0_0, .slice A0_1 l0_1.length c0_1] 24 (0, 0)) (by (with_reducible repeat (first | refine blk_drewN ?_ _ | refine blk_drew ?_ | refine blk_alloc ?_ _)); exact BK225.out) hb); have n5_ := Aside0.mk (blk_below (g := gb236) (o := .cells #[.int .i64 t231, .slice Ao43 t232.length co43] 26 (0, 0)) (by (with_reducible repeat (first | refine blk_drewN ?_ _ | refine blk_drew ?_ | refine blk_alloc ?_ _)); exact BK236.out) hb); have n6_ := Aside0.mk (blk_below (g := gb241) (o := .cells #[.int .i64 t237, .slice Ao50 t238.length co50] 26 (0, 0)) (by (with_reducible repeat (first | refine blk_drewN ?_ _ | refine blk_drew ?_ | refine blk_alloc ?_ _)); exact BK241.out) hb); have n7_ := Aside0.mk (below_step (by repeat (first | (with_reducible first | exact HB.out | apply below_alloc | apply pw_below_drewN | apply below_drew1 | refine below_set ?_ GE225.out | refine below_set ?_ GE236.out | refine below_set ?_ GE241.out) | exact HB.out)) hb); have n8_ := Aside0.mk (hbox); have n9_ := Aside0.mk ((by rw [hg]; exact (below_size (by repeat (first | (with_reducible first | exact HB.out | apply below_alloc | apply pw_below_drewN | apply below_drew1 | refine below_set ?_ GE225.out | refine below_set ?_ GE236.out | refine below_set ?_ GE241.out) | exact HB.out))) : w.heap.size ≤ gb247)); have n10_ := Aside0.mk ((by rw [hg]; exact (below_size (by repeat (first | (with_reducible first | exact HB.out | apply below_alloc | apply pw_below_drewN | apply below_drew1 | refine below_set ?_ GE225.out | refine below_set ?_ GE236.out | refine below_set ?_ GE241.out) | exact HB.out))) : w.heap.size ≤ gb247)); have n11_ := Aside0.mk ((by rw [hg]; exact Nat.ne_of_lt (blk_lt (g := gb225) (o := .cells #[.int .i64 a0_0, .slice A0_1 l0_1.length c0_1] 24 (0, 0)) (by (with_reducible repeat (first | refine blk_drewN ?_ _ | refine blk_drew ?_ | refine blk_alloc ?_ _)); exact BK225.out)) : gb225 ≠ gb247)); have n12_ := Aside0.mk ((by rw [hg]; exact Nat.ne_of_gt (blk_lt (g := gb225) (o := .cells #[.int .i64 a0_0, .slice A0_1 l0_1.length c0_1] 24 (0, 0)) (by (with_reducible repeat (first | refine blk_drewN ?_ _ | refine blk_drew ?_ | refine blk_alloc ?_ _)); exact BK225.out)) : gb247 ≠ gb225)); have n13_ := Aside0.mk ((by rw [hg]; exact Nat.ne_of_lt (blk_lt (g := gb236) (o := .cells #[.int .i64 t231, .slice Ao43 t232.length co43] 26 (0, 0)) (by (with_reducible repeat (first | refine blk_drewN ?_ _ | refine blk_drew ?_ | refine blk_alloc ?_ _)); exact BK236.out)) : gb236 ≠ gb247)); have n14_ := Aside0.mk ((by rw [hg]; exact Nat.ne_of_gt (blk_lt (g := gb236) (o := .cells #[.int .i64 t231, .slice Ao43 t232.length co43] 26 (0, 0)) (by (with_reducible repeat (first | refine blk_drewN ?_ _ | refine blk_drew ?_ | refine blk_alloc ?_ _)); exact BK236.out)) : gb247 ≠ gb236)); have n15_ := Aside0.mk ((by rw [hg]; exact Nat.ne_of_lt (blk_lt (g := gb241) (o := .cells #[.int .i64 t237, .slice Ao50 t238.length co50] 26 (0, 0)) (by (with_reducible repeat (first | refine blk_drewN ?_ _ | refine blk_drew ?_ | refine blk_alloc ?_ _)); exact BK241.out)) : gb241 ≠ gb247)); have n16_ := Aside0.mk ((by rw [hg]; exact Nat.ne_of_gt (blk_lt (g := gb241) (o := .cells #[.int .i64 t237, .slice Ao50 t238.length co50] 26 (0, 0)) (by (with_reducible repeat (first | refine blk_drewN ?_ _ | refine blk_drew ?_ | refine blk_alloc ?_ _)); exact BK241.out)) : gb247 ≠ gb241)); clear HO230; clear HO234; clear HO240; clear HO245; clear BK225; clear BK236; clear BK241; clear HB; have HO230 := n0_; have HO234 := n1_; have HO240 := n2_; have HO245 := n3_; have BK225 := n4_; have BK236 := n5_; have BK241 := n6_; have HB := n7_; have BK247 := n8_; have GW247 := n9_; have GE247 := n10_; have NB225_247 := n11_; have NB247_225 := n12_; have NB236_247 := n13_; have NB247_236 := n14_; have NB241_247 := n15_; have NB247_241 := n16_; clear n0_ n1_ n2_ n3_ n4_ n5_ n6_ n7_ n8_ n9_ n10_ n11_ n12_ n13_ n14_ n15_ n16_; clear hb hbox hg; have hnb53 := NB247_225.out; have hnc53 := NB225_247.out; have hnb54 := NB247_236.out; have hnc54 := NB236_247.out; have hnb55 := NB247_241.out; have hnc55 := NB241_247.out; have hcz56_0 : w52.cell? ⟨gb247, 0, none⟩ = some (.int .i64 0) := (blk_cell BK247.out 0).trans rfl; have hcz56_1 : w52.cell? ⟨gb247, 1, none⟩ = some (.slice none 0 0) := (blk_cell BK247.out 1).trans rfl; have hfz56_0 := blk_frozen BK247.out 0; have hfz56_1 := blk_frozen BK247.out 1; obtain ⟨Ao57, co57, eo57⟩ := Kd.R_slice HO245.out; subst eo57; have hcz58_0 : w52.cell? ⟨gb236, 0, none⟩ = some (.int .i64 t231) := (blk_cell BK236.out 0).trans rfl; have hcz58_1 : w52.cell? ⟨gb236, 1, none⟩ = some (.slice Ao43 t232.length co43) := (blk_cell BK236.out 1).trans rfl; have hfz58_0 := blk_frozen BK236.out 0; have hfz58_1 := blk_frozen BK236.out 1) | ((with_reducible refine gate_callee (f := 19) rfl ?_); refine goesL_ (some 34) rfl rfl Try.func19 (by kernel_rfl) rfl #[.agg #[.int .i64 t242, .slice Ao57 t243.length co57], .agg #[.int .i64 t231, .slice Ao43 t232.length co43]] rfl (by (try simp only [List.map_toArray, List.map_cons, List.map_nil]); first | done | rfl | (simp only [List.length_drop, List.length_take]; rfl)) ?_; (with_reducible refine (laws_eqComplex.calls k t242 _ _ t243 t231 _ _ t232 true _ ?side1 ?side2 ?side3 ?side4 A11.out).mono ?_); (case side1 => refine (Kd.R_reads' (e := 2) (base := w.heap.size) (ok := fun k_ => (((True ∧ some k_ ≠ (.slice Ao38 t228.length co38 : Value).ownBlock) ∧ some k_ ≠ (.slice Ao43 t232.length co43 : Value).ownBlock) ∧ some k_ ≠ (.slice Ao50 t238.length co50 : Value).ownBlock)) (n := t243.length) (c := co57) ?_).2.2; exact (by (with_reducible repeat (first | apply Kd.R_alloc | apply Kd.R_drewN | apply Kd.R_drew)); exact (Kd.R_mono (Kd.R_far (p := ⟨gb247, 1, none⟩) (Kd.R_far (p := ⟨gb247, 0, none⟩) (Kd.R_types HO245.out BK247.out (by decide)) (fun _ hk => hk.2) (.int .i64 t242)) (fun _ hk => hk.2) (.slice Ao57 t243.length co57)) (fun _ h_ => h_.1)))); (case side2 => exact (Kd.R_reads' HO245.out).2.1); (case side3 => refine (Kd.R_reads' (e := 2) (base := w.heap.size) (ok := fun k_ => (((True ∧ some k_ ≠ (.slice Ao38 t228.length co38 : Value).ownBlock) ∧ some k_ ≠ (.slice Ao50 t238.length co50 : Value).ownBlock) ∧ some k_ ≠ (.slice Ao57 t243.length co57 : Value).ownBlock)) (n := t232.length) (c := co43) ?_).2.2; exact (by (with_reducible repeat (first | apply Kd.R_alloc | apply Kd.R_drewN | apply Kd.R_drew)); exact (Kd.R_mono (Kd.R_far (p := ⟨gb247, 1, none⟩) (Kd.R_far (p := ⟨gb247, 0, none⟩) (Kd.R_types HO234.out BK247.out (by decide)) (fun _ hk => hk.2) (.int .i64 t242)) (fun _ hk => hk.2) (.slice Ao57 t243.length co57)) (fun _ h_ => h_.1)))); (case side4 => exact (Kd.R_reads' HO234.out).2.1); rintro e w59 ⟨rfl, hb⟩; refine ⟨_, rfl, ?_⟩; have n0_ := Aside0.mk (Kd.R_below (by (with_reducible repeat (first | apply Kd.R_alloc | apply Kd.R_drewN | apply Kd.R_drew)); exact (Kd.R_mono (Kd.R_far (p := ⟨gb247, 1, none⟩) (Kd.R_far (p := ⟨gb247, 0, none⟩) (Kd.R_types HO230.out BK247.out (by decide)) (fun _ hk => hk.2) (.int .i64 t242)) (fun _ hk => hk.2) (.slice Ao57 t243.length co57)) (fun _ h_ => h_.1))) hb); have n1_ := Aside0.mk (Kd.R_below (by (with_reducible repeat (first | apply Kd.R_alloc | apply Kd.R_drewN | apply Kd.R_drew)); exact (Kd.R_mono (Kd.R_far (p := ⟨gb247, 1, none⟩) (Kd.R_far (p := ⟨gb247, 0, none⟩) (Kd.R_types HO234.out BK247.out (by decide)) (fun _ hk => hk.2) (.int .i64 t242)) (fun _ hk => hk.2) (.slice Ao57 t243.length co57)) (fun _ h_ => h_.1))) hb); have n2_ := Aside0.mk (Kd.R_below (by (with_reducible repeat (first | apply Kd.R_alloc | apply Kd.R_drewN | apply Kd.R_drew)); exact (Kd.R_mono (Kd.R_far (p := ⟨gb247, 1, none⟩) (Kd.R_far (p := ⟨gb247, 0, none⟩) (Kd.R_types HO240.out BK247.out (by decide)) (fun _ hk => hk.2) (.int .i64 t242)) (fun _ hk => hk.2) (.slice Ao57 t243.length co57)) (fun _ h_ => h_.1))) hb); have n3_ := Aside0.mk (Kd.R_below (by (with_reducible repeat (first | apply Kd.R_alloc | apply Kd.R_drewN | apply Kd.R_drew)); exact (Kd.R_mono (Kd.R_far (p := ⟨gb247, 1, none⟩) (Kd.R_far (p := ⟨gb247, 0, none⟩) (Kd.R_types HO245.out BK247.out (by decide)) (fun _ hk => hk.2) (.int .i64 t242)) (fun _ hk => hk.2) (.slice Ao57 t243.length co57)) (fun _ h_ => h_.1))) hb); have n4_ := Aside0.mk (blk_below (g := gb225) (o := .cells #[.int .i64 a0_0, .slice A0_1 l0_1.length c0_1] 24 (0, 0)) (by (with_reducible repeat (first | refine blk_drewN ?_ _ | refine blk_drew ?_ | refine blk_alloc ?_ _)); refine blk_far ?_ NB225_247.out _; (with_reducible repeat (first | refine blk_drewN ?_ _ | refine blk_drew ?_ | refine blk_alloc ?_ _)); refine blk_far ?_ NB225_247.out _; (with_reducible repeat (first | refine blk_drewN ?_ _ | refine blk_drew ?_ | refine blk_alloc ?_ _)); exact BK225.out) hb); have n5_ := Aside0.mk (blk_below (g := gb236) (o := .cells #[.int .i64 t231, .slice Ao43 t232.length co43] 26 (0, 0)) (by (with_reducible repeat (first | refine blk_drewN ?_ _ | refine blk_drew ?_ | refine blk_alloc ?_ _)); refine blk_far ?_ NB236_247.out _; (with_reducible repeat (first | refine blk_drewN ?_ _ | refine blk_drew ?_ | refine blk_alloc ?_ _)); refine blk_far ?_ NB236_247.out _; (with_reducible repeat (first | refine blk_drewN ?_ _ | refine blk_drew ?_ | refine blk_alloc ?_ _)); exact BK236.out) hb); have n6_ := Aside0.mk (blk_below (g := gb241) (o := .cells #[.int .i64 t237, .slice Ao50 t238.length co50] 26 (0, 0)) (by (with_reducible repeat (first | refine blk_drewN ?_ _ | refine blk_drew ?_ | refine blk_alloc ?_ _)); refine blk_far ?_ NB241_247.out _; (with_reducible repeat (first | refine blk_drewN ?_ _ | refine blk_drew ?_ | refine blk_alloc ?_ _)); refine blk_far ?_ NB241_247.out _; (with_reducible repeat (first | refine blk_drewN ?_ _ | refine blk_drew ?_ | refine blk_alloc ?_ _)); exact BK241.out) hb); have n7_ := Aside0.mk (blk_below (g := gb247) (o := .cells #[.int .i64 t242, .slice Ao57 t243.length co57] 26 (0, 0)) (by (with_reducible repeat (first | refine blk_drewN ?_ _ | refine blk_drew ?_ | refine blk_alloc ?_ _)); refine blk_put (cs := #[.int .i64 t242, .slice none 0 0]) ?_ 1 _ rfl; (with_reducible repeat (first | refine blk_drewN ?_ _ | refine blk_drew ?_ | refine blk_alloc ?_ _)); refine blk_put (cs := #[.int .i64 0, .slice none 0 0]) ?_ 0 _ rfl; (with_reducible repeat (first | refine blk_drewN ?_ _ | refine blk_drew ?_ | refine blk_alloc ?_ _)); exact BK247.out) hb); have n8_ := Aside0.mk (below_step (by repeat (first | (with_reducible first | exact HB.out | apply below_alloc | apply pw_below_drewN | apply below_drew1 | refine below_set ?_ GE225.out | refine below_set ?_ GE236.out | refine below_set ?_ GE241.out | refine below_set ?_ GE247.out) | exact HB.out)) hb); clear HO230; clear HO234; clear HO240; clear HO245; clear BK225; clear BK236; clear BK241; clear BK247; clear HB; have HO230 := n0_; have HO234 := n1_; have HO240 := n2_; have HO245 := n3_; have BK225 := n4_; have BK236 := n5_; have BK241 := n6_; have BK247 := n7_; have HB := n8_; clear n0_ n1_ n2_ n3_ n4_ n5_ n6_ n7_ n8_; (try clear hb); (try clear hb2); (try clear hk); (try clear hi)))
                          have n0_ := Aside0.mk (Kd.R_drew HO230.out)
                          have n1_ := Aside0.mk (Kd.R_drew HO234.out)
                          have n2_ := Aside0.mk (Kd.R_drew HO240.out)
                          have n3_ := Aside0.mk (Kd.R_drew HO245.out)
                          have n4_ := Aside0.mk (blk_drew BK225.out)
                          have n5_ := Aside0.mk (blk_drew BK236.out)
                          have n6_ := Aside0.mk (blk_drew BK241.out)
                          have n7_ := Aside0.mk (blk_drew BK247.out)
                          have n8_ := Aside0.mk (below_drew1 HB.out)
                          clear HO230
                          clear HO234
                          clear HO240
                          clear HO245
                          clear BK225
                          clear BK236
                          clear BK241
                          clear BK247
                          clear HB
                          have HO230 := n0_
                          have HO234 := n1_
                          have HO240 := n2_
                          have HO245 := n3_
                          have BK225 := n4_
                          have BK236 := n5_
                          have BK241 := n6_
                          have BK247 := n7_
                          have HB := n8_
                          clear n0_ n1_ n2_ n3_ n4_ n5_ n6_ n7_ n8_
                          refine start_ (n := 5) (S := fun w' => w'.cell? ⟨gb241, 0, none⟩ = some (.int .i64 t237) ∧ w'.cell? ⟨gb241, 1, none⟩ = some (.slice Ao50 t238.length co50) ∧ w'.cell? ⟨gb225, 0, none⟩ = some (.int .i64 a0_0) ∧ w'.cell? ⟨gb225, 1, none⟩ = some (.slice A0_1 l0_1.length c0_1)) (ds := []) #[false, false, false, false, false] (by kernel_rfl) rfl rfl ⟨(blk_cell BK241.out 0).trans rfl, (blk_cell BK241.out 1).trans rfl, (blk_cell BK225.out 0).trans rfl, (blk_cell BK225.out 1).trans rfl⟩ (fun hHeld => ?_)
                          generalize w59.drew = w60 at HO230 HO234 HO240 HO245 BK225 BK236 BK241 BK247 HB hHeld ⊢
                          refine take_ (i := 0) (N := some 41) (v := ?_) (a' := ?_) #[true, false, false, false, false] rfl rfl (by kernel_rfl) (fun _ _ _ h => h) (Or.inl ⟨by rfl, ?_⟩) hHeld ?_ ?_
                          rotate_left
                          · rintro w' ⟨s0, s1, s2, s3⟩
                            go_simp
                            with_reducible rfl
                          rotate_left
                          · simp only [Act.put, List.setIfInBounds_toArray, List.set_cons_zero, List.set_cons_succ, i64_w, i32_w]
                            rfl
                          refine take_ (i := 1) (N := some 42) (v := ?_) (a' := ?_) #[true, true, false, false, false] rfl rfl (by kernel_rfl) (fun _ _ _ h => h) (Or.inl ⟨by rfl, ?_⟩) hHeld ?_ ?_
                          rotate_left
                          · rintro w' ⟨s0, s1, s2, s3⟩
                            go_simp
                            with_reducible rfl
                          rotate_left
                          · simp only [Act.put, List.setIfInBounds_toArray, List.set_cons_zero, List.set_cons_succ, i64_w, i32_w]
                            rfl
                          refine one_ (i := 2) (N := some 43) #[true, true, true, false, false] rfl rfl (by kernel_rfl) (by decide) (fun K hK => ?_)
                          refine goes_ Try.func17 (by kernel_rfl) rfl #[.agg #[.int .i64 a0_0, .slice A0_1 l0_1.length c0_1]] (by rfl) rfl rfl (by (try simp only [List.map_toArray, List.map_cons, List.map_nil]); first | done | rfl | (simp only [List.length_drop, List.length_take]; rfl)) ?_
                          with_reducible refine (laws_toComplex.calls k a0_0 _ _ l0_1 t249 t250 _ ?side1 ?side2 A14.out).mono ?_
                          (case side1 => repeat (first | exact (Kd.C_below HR0_1.out HB.out) | (with_reducible refine Kd.C_alloc ?_ _) | (with_reducible refine Kd.C_drewN ?_ _) | (with_reducible refine Kd.C_drew ?_)))
                          (case side2 => exact HC0_1.out)
                          rintro e w61 ⟨v251, rfl, ho0, hb⟩
                          refine ⟨_, rfl, ?_⟩
                          have n0_ := Aside0.mk (Kd.R_elder' (by (with_reducible repeat (first | apply Kd.R_alloc | apply Kd.R_drewN | apply Kd.R_drew)); exact HO230.out) (Kd.R_base ho0) hb)
                          have n1_ := Aside0.mk (Kd.R_elder' (by (with_reducible repeat (first | apply Kd.R_alloc | apply Kd.R_drewN | apply Kd.R_drew)); exact HO234.out) (Kd.R_base ho0) hb)
                          have n2_ := Aside0.mk (Kd.R_elder' (by (with_reducible repeat (first | apply Kd.R_alloc | apply Kd.R_drewN | apply Kd.R_drew)); exact HO240.out) (Kd.R_base ho0) hb)
                          have n3_ := Aside0.mk (Kd.R_elder' (by (with_reducible repeat (first | apply Kd.R_alloc | apply Kd.R_drewN | apply Kd.R_drew)); exact HO245.out) (Kd.R_base ho0) hb)
                          have n4_ := Aside0.mk (Kd.R_lower (Kd.R_new' (Kd.R_new' (Kd.R_new' (Kd.R_new' ho0 (Kd.R_lt (by (with_reducible repeat (first | apply Kd.R_alloc | apply Kd.R_drewN | apply Kd.R_drew)); exact HO230.out))) (Kd.R_lt (by (with_reducible repeat (first | apply Kd.R_alloc | apply Kd.R_drewN | apply Kd.R_drew)); exact HO234.out))) (Kd.R_lt (by (with_reducible repeat (first | apply Kd.R_alloc | apply Kd.R_drewN | apply Kd.R_drew)); exact HO240.out))) (Kd.R_lt (by (with_reducible repeat (first | apply Kd.R_alloc | apply Kd.R_drewN | apply Kd.R_drew)); exact HO245.out))) (below_size (by repeat (first | (with_reducible first | exact HB.out | apply below_alloc | apply pw_below_drewN | apply below_drew1 | refine below_set ?_ GE225.out | refine below_set ?_ GE236.out | refine below_set ?_ GE241.out | refine below_set ?_ GE247.out) | exact HB.out))))
                          have n5_ := Aside0.mk (blk_below (g := gb225) (o := .cells #[.int .i64 a0_0, .slice A0_1 l0_1.length c0_1] 24 (0, 0)) (by (with_reducible repeat (first | refine blk_drewN ?_ _ | refine blk_drew ?_ | refine blk_alloc ?_ _)); exact BK225.out) hb)
                          have n6_ := Aside0.mk (blk_below (g := gb236) (o := .cells #[.int .i64 t231, .slice Ao43 t232.length co43] 26 (0, 0)) (by (with_reducible repeat (first | refine blk_drewN ?_ _ | refine blk_drew ?_ | refine blk_alloc ?_ _)); exact BK236.out) hb)
                          have n7_ := Aside0.mk (blk_below (g := gb241) (o := .cells #[.int .i64 t237, .slice Ao50 t238.length co50] 26 (0, 0)) (by (with_reducible repeat (first | refine blk_drewN ?_ _ | refine blk_drew ?_ | refine blk_alloc ?_ _)); exact BK241.out) hb)
                          have n8_ := Aside0.mk (blk_below (g := gb247) (o := .cells #[.int .i64 t242, .slice Ao57 t243.length co57] 26 (0, 0)) (by (with_reducible repeat (first | refine blk_drewN ?_ _ | refine blk_drew ?_ | refine blk_alloc ?_ _)); exact BK247.out) hb)
                          have n9_ := Aside0.mk (below_step (by repeat (first | (with_reducible first | exact HB.out | apply below_alloc | apply pw_below_drewN | apply below_drew1 | refine below_set ?_ GE225.out | refine below_set ?_ GE236.out | refine below_set ?_ GE241.out | refine below_set ?_ GE247.out) | exact HB.out)) hb)
                          clear HO230
                          clear HO234
                          clear HO240
                          clear HO245
                          clear BK225
                          clear BK236
                          clear BK241
                          clear BK247
                          clear HB
                          have HO230 := n0_
                          have HO234 := n1_
                          have HO240 := n2_
                          have HO245 := n3_
                          have HO252 := n4_
                          have BK225 := n5_
                          have BK236 := n6_
                          have BK241 := n7_
                          have BK247 := n8_
                          have HB := n9_
                          clear n0_ n1_ n2_ n3_ n4_ n5_ n6_ n7_ n8_ n9_
                          (try clear hb)
                          (try clear hb2)
                          (try clear hk)
                          (try clear hi)
                          (try clear ho0)
                          obtain ⟨Ao62, co62, eo62⟩ := Kd.R_slice HO252.out
                          (first | subst eo62 | (injection eo62 with f1_ f2_ f3_; have f4_ := f1_.symm; have f5_ := f3_.symm; clear f1_ f2_ f3_; subst f4_; subst f5_))
                          refine hK.out _ _ ⟨(blk_cell BK241.out 0).trans rfl, (blk_cell BK241.out 1).trans rfl, (blk_cell BK225.out 0).trans rfl, (blk_cell BK225.out 1).trans rfl⟩ (fun hHeld => ?_)
                          clear hK K
                          refine norm_ (a' := ?_) ?_ ?_
                          rotate_left
                          · show Act.put _ (some 43) _ = _
                            simp only [Act.put, List.setIfInBounds_toArray, List.set_cons_zero, List.set_cons_succ, i64_w, i32_w]
                            rfl
                          refine one_ (i := 3) (N := some 44) #[true, true, true, true, false] rfl rfl (by kernel_rfl) (by decide) (fun K hK => ?_)
                          refine goes_ Try.func19 (by kernel_rfl) rfl #[.agg #[.int .i64 t237, .slice Ao50 t238.length co50], .agg #[.int .i64 t249, .slice Ao62 t250.length co62]] (by rfl) rfl rfl (by (try simp only [List.map_toArray, List.map_cons, List.map_nil]); first | done | rfl | (simp only [List.length_drop, List.length_take]; rfl)) ?_
                          with_reducible refine (laws_eqComplex.calls k t237 _ _ t238 t249 _ _ t250 true _ ?side1 ?side2 ?side3 ?side4 A15.out).mono ?_
                          (case side1 => repeat (first | exact (Kd.R_reads' HO240.out).2.2 | (with_reducible refine Kd.C_alloc ?_ _) | (with_reducible refine Kd.C_drewN ?_ _) | (with_reducible refine Kd.C_drew ?_)))
                          (case side2 => exact (Kd.R_reads' HO240.out).2.1)
                          (case side3 => repeat (first | exact (Kd.R_reads' HO252.out).2.2 | (with_reducible refine Kd.C_alloc ?_ _) | (with_reducible refine Kd.C_drewN ?_ _) | (with_reducible refine Kd.C_drew ?_)))
                          (case side4 => exact (Kd.R_reads' HO252.out).2.1)
                          rintro e w63 ⟨rfl, hb⟩
                          refine ⟨_, rfl, ?_⟩
                          have n0_ := Aside0.mk (Kd.R_below (by (with_reducible repeat (first | apply Kd.R_alloc | apply Kd.R_drewN | apply Kd.R_drew)); exact HO230.out) hb)
                          have n1_ := Aside0.mk (Kd.R_below (by (with_reducible repeat (first | apply Kd.R_alloc | apply Kd.R_drewN | apply Kd.R_drew)); exact HO234.out) hb)
                          have n2_ := Aside0.mk (Kd.R_below (by (with_reducible repeat (first | apply Kd.R_alloc | apply Kd.R_drewN | apply Kd.R_drew)); exact HO240.out) hb)
                          have n3_ := Aside0.mk (Kd.R_below (by (with_reducible repeat (first | apply Kd.R_alloc | apply Kd.R_drewN | apply Kd.R_drew)); exact HO245.out) hb)
                          have n4_ := Aside0.mk (Kd.R_below (by (with_reducible repeat (first | apply Kd.R_alloc | apply Kd.R_drewN | apply Kd.R_drew)); exact HO252.out) hb)
                          have n5_ := Aside0.mk (blk_below (g := gb225) (o := .cells #[.int .i64 a0_0, .slice A0_1 l0_1.length c0_1] 24 (0, 0)) (by (with_reducible repeat (first | refine blk_drewN ?_ _ | refine blk_drew ?_ | refine blk_alloc ?_ _)); exact BK225.out) hb)
                          have n6_ := Aside0.mk (blk_below (g := gb236) (o := .cells #[.int .i64 t231, .slice Ao43 t232.length co43] 26 (0, 0)) (by (with_reducible repeat (first | refine blk_drewN ?_ _ | refine blk_drew ?_ | refine blk_alloc ?_ _)); exact BK236.out) hb)
                          have n7_ := Aside0.mk (blk_below (g := gb241) (o := .cells #[.int .i64 t237, .slice Ao50 t238.length co50] 26 (0, 0)) (by (with_reducible repeat (first | refine blk_drewN ?_ _ | refine blk_drew ?_ | refine blk_alloc ?_ _)); exact BK241.out) hb)
                          have n8_ := Aside0.mk (blk_below (g := gb247) (o := .cells #[.int .i64 t242, .slice Ao57 t243.length co57] 26 (0, 0)) (by (with_reducible repeat (first | refine blk_drewN ?_ _ | refine blk_drew ?_ | refine blk_alloc ?_ _)); exact BK247.out) hb)
                          have n9_ := Aside0.mk (below_step (by repeat (first | (with_reducible first | exact HB.out | apply below_alloc | apply pw_below_drewN | apply below_drew1 | refine below_set ?_ GE225.out | refine below_set ?_ GE236.out | refine below_set ?_ GE241.out | refine below_set ?_ GE247.out) | exact HB.out)) hb)
                          clear HO230
                          clear HO234
                          clear HO240
                          clear HO245
                          clear HO252
                          clear BK225
                          clear BK236
                          clear BK241
                          clear BK247
                          clear HB
                          have HO230 := n0_
                          have HO234 := n1_
                          have HO240 := n2_
                          have HO245 := n3_
                          have HO252 := n4_
                          have BK225 := n5_
                          have BK236 := n6_
                          have BK241 := n7_
                          have BK247 := n8_
                          have HB := n9_
                          clear n0_ n1_ n2_ n3_ n4_ n5_ n6_ n7_ n8_ n9_
                          (try clear hb)
                          (try clear hb2)
                          (try clear hk)
                          (try clear hi)
                          refine hK.out _ _ ⟨(blk_cell BK241.out 0).trans rfl, (blk_cell BK241.out 1).trans rfl, (blk_cell BK225.out 0).trans rfl, (blk_cell BK225.out 1).trans rfl⟩ (fun hHeld => ?_)
                          clear hK K
                          refine norm_ (a' := ?_) ?_ ?_
                          rotate_left
                          · show Act.put _ (some 44) _ = _
                            simp only [Act.put, List.setIfInBounds_toArray, List.set_cons_zero, List.set_cons_succ, i64_w, i32_w]
                            rfl
                          refine pure_ (i := 4) (N := some 45) (v := ?_) (a' := ?_) #[true, true, true, true, true] rfl rfl (by kernel_rfl) (fun _ _ _ h => h) (Or.inl ⟨by rfl, ?_⟩) ?_ ?_
                          rotate_left
                          · intro w'
                            go_simp
                            with_reducible rfl
                          rotate_left
                          · simp only [Act.put, List.setIfInBounds_toArray, List.set_cons_zero, List.set_cons_succ, i64_w, i32_w]
                            rfl
                          refine done_ (by kernel_rfl) ?_
                          have hcz64_0 : w63.cell? ⟨gb241, 0, none⟩ = some (.int .i64 t237) := (blk_cell BK241.out 0).trans rfl
                          have hcz64_1 : w63.cell? ⟨gb241, 1, none⟩ = some (.slice Ao50 t238.length co50) := (blk_cell BK241.out 1).trans rfl
                          have hfz64_0 := blk_frozen BK241.out 0
                          have hfz64_1 := blk_frozen BK241.out 1
                          try go_wp2_with (first | ((with_reducible refine gate_callee (f := 21) rfl ?_); refine goesL_ (some 48) rfl rfl Try.func21 (by kernel_rfl) rfl #[.agg #[.int .i64 t237, .slice Ao50 t238.length co50], .int .i64 1] rfl (by (try simp only [List.map_toArray, List.map_cons, List.map_nil]); first | done | rfl | (simp only [List.length_drop, List.length_take]; rfl)) ?_; (with_reducible refine (laws_markComplex.calls k t237 (fun k_ => some k_ = (.slice Ao50 t238.length co50 : Value).ownBlock) (.slice Ao50 t238.length co50) t238 1 t254 t255 w _ ?side1 ?side2 A17.out).mono ?_); (case side1 => repeat (first | (with_reducible first | exact HB.out | apply below_alloc | apply pw_below_drewN | apply below_drew1 | refine below_set ?_ GE225.out | refine below_set ?_ GE236.out | refine below_set ?_ GE241.out | refine below_set ?_ GE247.out) | exact HB.out)); (case side2 => exact Kd.R_tight rfl HO240.out); rintro e w65 ⟨rfl, hy0, hb, hkp⟩; refine ⟨_, rfl, ?_⟩; have n0_ := Aside0.mk (blk_kept (by (with_reducible repeat (first | refine blk_drewN ?_ _ | refine blk_drew ?_ | refine blk_alloc ?_ _)); exact BK225.out) hkp (fun hs_ => (fun e_ => (Kd.R_ne HO240.out BK225.out (by decide)) e_) hs_)); have n1_ := Aside0.mk (Kd.R_mono (ok' := fun k_ => some k_ ≠ (.slice Ao43 t232.length co43 : Value).ownBlock ∧ some k_ ≠ (.slice Ao50 t238.length co50 : Value).ownBlock ∧ some k_ ≠ (.slice Ao57 t243.length co57 : Value).ownBlock ∧ some k_ ≠ (.slice Ao62 t250.length co62 : Value).ownBlock) (Kd.R_keptB (HO230.out) hkp (fun k_ hk_ hs_ => (hk_.1.1.2) hs_)) (fun k_ hk_ => ⟨hk_.1.1.1.1.2, hk_.1.1.1.2, hk_.1.1.2, hk_.1.2⟩)); have n2_ := Aside0.mk (Kd.R_mono (ok' := fun k_ => some k_ ≠ (.slice Ao38 t228.length co38 : Value).ownBlock ∧ some k_ ≠ (.slice Ao50 t238.length co50 : Value).ownBlock ∧ some k_ ≠ (.slice Ao57 t243.length co57 : Value).ownBlock ∧ some k_ ≠ (.slice Ao62 t250.length co62 : Value).ownBlock) (Kd.R_keptB (HO234.out) hkp (fun k_ hk_ hs_ => (hk_.1.1.2) hs_)) (fun k_ hk_ => ⟨hk_.1.1.1.1.2, hk_.1.1.1.2, hk_.1.1.2, hk_.1.2⟩)); have n3_ := Aside0.mk (blk_kept (by (with_reducible repeat (first | refine blk_drewN ?_ _ | refine blk_drew ?_ | refine blk_alloc ?_ _)); exact BK236.out) hkp (fun hs_ => (fun e_ => (Kd.R_ne HO240.out BK236.out (by decide)) e_) hs_)); have n4_ := Aside0.mk (Kd.R_reok rfl hy0 (fun k_ e_ => HO240.out.1 k_ e_)); have n5_ := Aside0.mk (blk_kept (by (with_reducible repeat (first | refine blk_drewN ?_ _ | refine blk_drew ?_ | refine blk_alloc ?_ _)); exact BK241.out) hkp (fun hs_ => (fun e_ => (Kd.R_ne HO240.out BK241.out (by decide)) e_) hs_)); have n6_ := Aside0.mk (Kd.R_mono (ok' := fun k_ => some k_ ≠ (.slice Ao38 t228.length co38 : Value).ownBlock ∧ some k_ ≠ (.slice Ao43 t232.length co43 : Value).ownBlock ∧ some k_ ≠ (.slice Ao50 t238.length co50 : Value).ownBlock ∧ some k_ ≠ (.slice Ao62 t250.length co62 : Value).ownBlock) (Kd.R_keptB (HO245.out) hkp (fun k_ hk_ hs_ => (hk_.1.2) hs_)) (fun k_ hk_ => ⟨hk_.1.1.1.1.2, hk_.1.1.1.2, hk_.1.1.2, hk_.1.2⟩)); have n7_ := Aside0.mk (blk_kept (by (with_reducible repeat (first | refine blk_drewN ?_ _ | refine blk_drew ?_ | refine blk_alloc ?_ _)); exact BK247.out) hkp (fun hs_ => (fun e_ => (Kd.R_ne HO240.out BK247.out (by decide)) e_) hs_)); have n8_ := Aside0.mk (Kd.R_mono (ok' := fun k_ => some k_ ≠ (.slice Ao38 t228.length co38 : Value).ownBlock ∧ some k_ ≠ (.slice Ao43 t232.length co43 : Value).ownBlock ∧ some k_ ≠ (.slice Ao50 t238.length co50 : Value).ownBlock ∧ some k_ ≠ (.slice Ao57 t243.length co57 : Value).ownBlock) (Kd.R_keptB (HO252.out) hkp (fun k_ hk_ hs_ => (hk_.1.2) hs_)) (fun k_ hk_ => ⟨hk_.1.1.1.1.2, hk_.1.1.1.2, hk_.1.1.2, hk_.1.2⟩)); have n9_ := Aside0.mk (hb); clear BK225; clear HO230; clear HO234; clear BK236; clear HO240; clear BK241; clear HO245; clear BK247; clear HO252; clear HB; have BK225 := n0_; have HO230 := n1_; have HO234 := n2_; have BK236 := n3_; have HO240 := n4_; have BK241 := n5_; have HO245 := n6_; have BK247 := n7_; have HO252 := n8_; have HB := n9_; clear n0_ n1_ n2_ n3_ n4_ n5_ n6_ n7_ n8_ n9_; (try clear hb); (try clear hkp); (try clear hy0); have nD_ := Aside0.mk (Kd.R_mono (ok' := fun k_ => some k_ ≠ (.slice Ao50 t238.length co50 : Value).ownBlock ∧ some k_ ≠ (.slice Ao57 t243.length co57 : Value).ownBlock) HO234.out (fun k_ hk => ⟨hk.2.1, hk.2.2.1⟩)); clear HO234; have HO234 := nD_; clear nD_; have nD_ := Aside0.mk (Kd.R_mono (ok' := fun k_ => some k_ ≠ (.slice Ao43 t232.length co43 : Value).ownBlock ∧ some k_ ≠ (.slice Ao57 t243.length co57 : Value).ownBlock) HO240.out (fun k_ hk => ⟨hk.1.1.2, hk.1.2⟩)); clear HO240; have HO240 := nD_; clear nD_; have nD_ := Aside0.mk (Kd.R_mono (ok' := fun k_ => some k_ ≠ (.slice Ao43 t232.length co43 : Value).ownBlock ∧ some k_ ≠ (.slice Ao50 t238.length co50 : Value).ownBlock) HO245.out (fun k_ hk => ⟨hk.2.1, hk.2.2.1⟩)); clear HO245; have HO245 := nD_; clear nD_; clear HO230 HO252; have hcz66_0 : w65.cell? ⟨gb247, 0, none⟩ = some (.int .i64 t242) := (blk_cell BK247.out 0).trans rfl; have hcz66_1 : w65.cell? ⟨gb247, 1, none⟩ = some (.slice Ao57 t243.length co57) := (blk_cell BK247.out 1).trans rfl; have hfz66_0 := blk_frozen BK247.out 0; have hfz66_1 := blk_frozen BK247.out 1; have hcz67_0 : w65.cell? ⟨gb236, 0, none⟩ = some (.int .i64 t231) := (blk_cell BK236.out 0).trans rfl; have hcz67_1 : w65.cell? ⟨gb236, 1, none⟩ = some (.slice Ao43 t232.length co43) := (blk_cell BK236.out 1).trans rfl; have hfz67_0 := blk_frozen BK236.out 0; have hfz67_1 := blk_frozen BK236.out 1) | (go_at_call 19; (with_reducible refine (laws_eqComplex.calls k t242 _ _ t243 t231 _ _ t232 true _ ?side1 ?side2 ?side3 ?side4 A19.out).mono ?_); (case side1 => repeat (first | exact (Kd.R_reads' HO245.out).2.2 | (with_reducible refine Kd.C_alloc ?_ _) | (with_reducible refine Kd.C_drewN ?_ _) | (with_reducible refine Kd.C_drew ?_))); (case side2 => exact (Kd.R_reads' HO245.out).2.1); (case side3 => repeat (first | exact (Kd.R_reads' HO234.out).2.2 | (with_reducible refine Kd.C_alloc ?_ _) | (with_reducible refine Kd.C_drewN ?_ _) | (with_reducible refine Kd.C_drew ?_))); (case side4 => exact (Kd.R_reads' HO234.out).2.1); rintro e w68 ⟨rfl, hb⟩; have n0_ := Aside0.mk (Kd.R_below (by (with_reducible repeat (first | apply Kd.R_alloc | apply Kd.R_drewN | apply Kd.R_drew)); exact HO234.out) hb); have n1_ := Aside0.mk (Kd.R_below (by (with_reducible repeat (first | apply Kd.R_alloc | apply Kd.R_drewN | apply Kd.R_drew)); exact HO240.out) hb); have n2_ := Aside0.mk (Kd.R_below (by (with_reducible repeat (first | apply Kd.R_alloc | apply Kd.R_drewN | apply Kd.R_drew)); exact HO245.out) hb); have n3_ := Aside0.mk (blk_below (g := gb225) (o := .cells #[.int .i64 a0_0, .slice A0_1 l0_1.length c0_1] 24 (0, 0)) (by (with_reducible repeat (first | refine blk_drewN ?_ _ | refine blk_drew ?_ | refine blk_alloc ?_ _)); exact BK225.out) hb); have n4_ := Aside0.mk (blk_below (g := gb236) (o := .cells #[.int .i64 t231, .slice Ao43 t232.length co43] 26 (0, 0)) (by (with_reducible repeat (first | refine blk_drewN ?_ _ | refine blk_drew ?_ | refine blk_alloc ?_ _)); exact BK236.out) hb); have n5_ := Aside0.mk (blk_below (g := gb241) (o := .cells #[.int .i64 t237, .slice Ao50 t238.length co50] 26 (0, 0)) (by (with_reducible repeat (first | refine blk_drewN ?_ _ | refine blk_drew ?_ | refine blk_alloc ?_ _)); exact BK241.out) hb); have n6_ := Aside0.mk (blk_below (g := gb247) (o := .cells #[.int .i64 t242, .slice Ao57 t243.length co57] 26 (0, 0)) (by (with_reducible repeat (first | refine blk_drewN ?_ _ | refine blk_drew ?_ | refine blk_alloc ?_ _)); exact BK247.out) hb); have n7_ := Aside0.mk (below_step (by repeat (first | (with_reducible first | exact HB.out | apply below_alloc | apply pw_below_drewN | apply below_drew1 | refine below_set ?_ GE225.out | refine below_set ?_ GE236.out | refine below_set ?_ GE241.out | refine below_set ?_ GE247.out) | exact HB.out)) hb); clear HO234; clear HO240; clear HO245; clear BK225; clear BK236; clear BK241; clear BK247; clear HB; have HO234 := n0_; have HO240 := n1_; have HO245 := n2_; have BK225 := n3_; have BK236 := n4_; have BK241 := n5_; have BK247 := n6_; have HB := n7_; clear n0_ n1_ n2_ n3_ n4_ n5_ n6_ n7_; (try clear hb); (try clear hb2); (try clear hk); (try clear hi); have hcz69_0 : w68.cell? ⟨gb247, 0, none⟩ = some (.int .i64 t242) := (blk_cell BK247.out 0).trans rfl; have hcz69_1 : w68.cell? ⟨gb247, 1, none⟩ = some (.slice Ao57 t243.length co57) := (blk_cell BK247.out 1).trans rfl; have hfz69_0 := blk_frozen BK247.out 0; have hfz69_1 := blk_frozen BK247.out 1) | ((with_reducible refine gate_callee (f := 21) rfl ?_); refine goesL_ (some 64) rfl rfl Try.func21 (by kernel_rfl) rfl #[.agg #[.int .i64 t242, .slice Ao57 t243.length co57], .int .i64 1] rfl (by (try simp only [List.map_toArray, List.map_cons, List.map_nil]); first | done | rfl | (simp only [List.length_drop, List.length_take]; rfl)) ?_; (with_reducible refine (laws_markComplex.calls k t242 (fun k_ => some k_ = (.slice Ao57 t243.length co57 : Value).ownBlock) (.slice Ao57 t243.length co57) t243 1 t257 t258 w _ ?side1 ?side2 A21.out).mono ?_); (case side1 => repeat (first | (with_reducible first | exact HB.out | apply below_alloc | apply pw_below_drewN | apply below_drew1 | refine below_set ?_ GE225.out | refine below_set ?_ GE236.out | refine below_set ?_ GE241.out | refine below_set ?_ GE247.out) | exact HB.out)); (case side2 => exact Kd.R_tight rfl HO245.out); rintro e w70 ⟨rfl, hy0, hb, hkp⟩; refine ⟨_, rfl, ?_⟩; have n0_ := Aside0.mk (blk_kept (by (with_reducible repeat (first | refine blk_drewN ?_ _ | refine blk_drew ?_ | refine blk_alloc ?_ _)); exact BK225.out) hkp (fun hs_ => (fun e_ => (Kd.R_ne HO245.out BK225.out (by decide)) e_) hs_)); have n1_ := Aside0.mk (Kd.R_mono (ok' := fun k_ => some k_ ≠ (.slice Ao50 t238.length co50 : Value).ownBlock ∧ some k_ ≠ (.slice Ao57 t243.length co57 : Value).ownBlock) (Kd.R_keptB (HO234.out) hkp (fun k_ hk_ hs_ => (hk_.2) hs_)) (fun k_ hk_ => ⟨hk_.1.1, hk_.1.2⟩)); have n2_ := Aside0.mk (blk_kept (by (with_reducible repeat (first | refine blk_drewN ?_ _ | refine blk_drew ?_ | refine blk_alloc ?_ _)); exact BK236.out) hkp (fun hs_ => (fun e_ => (Kd.R_ne HO245.out BK236.out (by decide)) e_) hs_)); have n3_ := Aside0.mk (Kd.R_mono (ok' := fun k_ => some k_ ≠ (.slice Ao43 t232.length co43 : Value).ownBlock ∧ some k_ ≠ (.slice Ao57 t243.length co57 : Value).ownBlock) (Kd.R_keptB (HO240.out) hkp (fun k_ hk_ hs_ => (hk_.2) hs_)) (fun k_ hk_ => ⟨hk_.1.1, hk_.1.2⟩)); have n4_ := Aside0.mk (blk_kept (by (with_reducible repeat (first | refine blk_drewN ?_ _ | refine blk_drew ?_ | refine blk_alloc ?_ _)); exact BK241.out) hkp (fun hs_ => (fun e_ => (Kd.R_ne HO245.out BK241.out (by decide)) e_) hs_)); have n5_ := Aside0.mk (Kd.R_reok rfl hy0 (fun k_ e_ => HO245.out.1 k_ e_)); have n6_ := Aside0.mk (blk_kept (by (with_reducible repeat (first | refine blk_drewN ?_ _ | refine blk_drew ?_ | refine blk_alloc ?_ _)); exact BK247.out) hkp (fun hs_ => (fun e_ => (Kd.R_ne HO245.out BK247.out (by decide)) e_) hs_)); have n7_ := Aside0.mk (hb); clear BK225; clear HO234; clear BK236; clear HO240; clear BK241; clear HO245; clear BK247; clear HB; have BK225 := n0_; have HO234 := n1_; have BK236 := n2_; have HO240 := n3_; have BK241 := n4_; have HO245 := n5_; have BK247 := n6_; have HB := n7_; clear n0_ n1_ n2_ n3_ n4_ n5_ n6_ n7_; (try clear hb); (try clear hkp); (try clear hy0); have hcz71_0 : w70.cell? ⟨gb247, 0, none⟩ = some (.int .i64 t242) := (blk_cell BK247.out 0).trans rfl; have hcz71_1 : w70.cell? ⟨gb247, 1, none⟩ = some (.slice Ao57 t243.length co57) := (blk_cell BK247.out 1).trans rfl; have hfz71_0 := blk_frozen BK247.out 0; have hfz71_1 := blk_frozen BK247.out 1) | ((with_reducible refine gate_callee (f := 23) rfl ?_); refine goesL_ (some 67) rfl rfl Try.func23 (by kernel_rfl) rfl #[.agg #[.int .i64 t242, .slice Ao57 t258.length co57], .int .i64 1] rfl (by (try simp only [List.map_toArray, List.map_cons, List.map_nil]); first | done | (rw [show t258.length = t243.length from (Kd.R_reads' HO245.out).1.symm] <;> rfl) | rfl | (simp only [List.length_drop, List.length_take]; rfl)) ?_; (with_reducible refine (laws_heldComplex.calls k t242 _ _ t258 1 t259 _ ?side1 ?side2 A22.out).mono ?_); (case side1 => repeat (first | exact (Kd.R_reads' HO245.out).2.2 | (with_reducible refine Kd.C_alloc ?_ _) | (with_reducible refine Kd.C_drewN ?_ _) | (with_reducible refine Kd.C_drew ?_))); (case side2 => rw [show t258.length = t243.length from (Kd.R_reads' HO245.out).1.symm]; exact (Kd.R_reads' HO245.out).2.1); rintro e w72 ⟨rfl, hb⟩; refine ⟨_, rfl, ?_⟩; have n0_ := Aside0.mk (Kd.R_below (by (with_reducible repeat (first | apply Kd.R_alloc | apply Kd.R_drewN | apply Kd.R_drew)); exact HO234.out) hb); have n1_ := Aside0.mk (Kd.R_below (by (with_reducible repeat (first | apply Kd.R_alloc | apply Kd.R_drewN | apply Kd.R_drew)); exact HO240.out) hb); have n2_ := Aside0.mk (Kd.R_below (by (with_reducible repeat (first | apply Kd.R_alloc | apply Kd.R_drewN | apply Kd.R_drew)); exact HO245.out) hb); have n3_ := Aside0.mk (blk_below (g := gb225) (o := .cells #[.int .i64 a0_0, .slice A0_1 l0_1.length c0_1] 24 (0, 0)) (by (with_reducible repeat (first | refine blk_drewN ?_ _ | refine blk_drew ?_ | refine blk_alloc ?_ _)); exact BK225.out) hb); have n4_ := Aside0.mk (blk_below (g := gb236) (o := .cells #[.int .i64 t231, .slice Ao43 t232.length co43] 26 (0, 0)) (by (with_reducible repeat (first | refine blk_drewN ?_ _ | refine blk_drew ?_ | refine blk_alloc ?_ _)); exact BK236.out) hb); have n5_ := Aside0.mk (blk_below (g := gb241) (o := .cells #[.int .i64 t237, .slice Ao50 t238.length co50] 26 (0, 0)) (by (with_reducible repeat (first | refine blk_drewN ?_ _ | refine blk_drew ?_ | refine blk_alloc ?_ _)); exact BK241.out) hb); have n6_ := Aside0.mk (blk_below (g := gb247) (o := .cells #[.int .i64 t242, .slice Ao57 t243.length co57] 26 (0, 0)) (by (with_reducible repeat (first | refine blk_drewN ?_ _ | refine blk_drew ?_ | refine blk_alloc ?_ _)); exact BK247.out) hb); have n7_ := Aside0.mk (below_step (by repeat (first | (with_reducible first | exact HB.out | apply below_alloc | apply pw_below_drewN | apply below_drew1 | refine below_set ?_ GE225.out | refine below_set ?_ GE236.out | refine below_set ?_ GE241.out | refine below_set ?_ GE247.out) | exact HB.out)) hb); clear HO234; clear HO240; clear HO245; clear BK225; clear BK236; clear BK241; clear BK247; clear HB; have HO234 := n0_; have HO240 := n1_; have HO245 := n2_; have BK225 := n3_; have BK236 := n4_; have BK241 := n5_; have BK247 := n6_; have HB := n7_; clear n0_ n1_ n2_ n3_ n4_ n5_ n6_ n7_; (try clear hb); (try clear hb2); (try clear hk); (try clear hi); have hcz73_0 : w72.cell? ⟨gb225, 0, none⟩ = some (.int .i64 a0_0) := (blk_cell BK225.out 0).trans rfl; have hcz73_1 : w72.cell? ⟨gb225, 1, none⟩ = some (.slice A0_1 l0_1.length c0_1) := (blk_cell BK225.out 1).trans rfl; have hfz73_0 := blk_frozen BK225.out 0; have hfz73_1 := blk_frozen BK225.out 1) | ((with_reducible refine gate_callee (f := 17) rfl ?_); refine goesL_ (some 75) rfl rfl Try.func17 (by kernel_rfl) rfl #[.agg #[.int .i64 a0_0, .slice A0_1 l0_1.length c0_1]] rfl (by (try simp only [List.map_toArray, List.map_cons, List.map_nil]); first | done | rfl | (simp only [List.length_drop, List.length_take]; rfl)) ?_; (with_reducible refine (laws_toComplex.calls k a0_0 _ _ l0_1 t260 t261 _ ?side1 ?side2 A25.out).mono ?_); (case side1 => repeat (first | exact (Kd.C_below HR0_1.out HB.out) | (with_reducible refine Kd.C_alloc ?_ _) | (with_reducible refine Kd.C_drewN ?_ _) | (with_reducible refine Kd.C_drew ?_))); (case side2 => exact HC0_1.out); rintro e w74 ⟨v262, rfl, ho0, hb⟩; refine ⟨_, rfl, ?_⟩; have n0_ := Aside0.mk (Kd.R_elder' (by (with_reducible repeat (first | apply Kd.R_alloc | apply Kd.R_drewN | apply Kd.R_drew)); exact HO234.out) (Kd.R_base ho0) hb); have n1_ := Aside0.mk (Kd.R_elder' (by (with_reducible repeat (first | apply Kd.R_alloc | apply Kd.R_drewN | apply Kd.R_drew)); exact HO240.out) (Kd.R_base ho0) hb); have n2_ := Aside0.mk (Kd.R_elder' (by (with_reducible repeat (first | apply Kd.R_alloc | apply Kd.R_drewN | apply Kd.R_drew)); exact HO245.out) (Kd.R_base ho0) hb); have n3_ := Aside0.mk (Kd.R_lower (Kd.R_new' (Kd.R_new' (Kd.R_new' ho0 (Kd.R_lt (by (with_reducible repeat (first | apply Kd.R_alloc | apply Kd.R_drewN | apply Kd.R_drew)); exact HO234.out))) (Kd.R_lt (by (with_reducible repeat (first | apply Kd.R_alloc | apply Kd.R_drewN | apply Kd.R_drew)); exact HO240.out))) (Kd.R_lt (by (with_reducible repeat (first | apply Kd.R_alloc | apply Kd.R_drewN | apply Kd.R_drew)); exact HO245.out))) (below_size (by repeat (first | (with_reducible first | exact HB.out | apply below_alloc | apply pw_below_drewN | apply below_drew1 | refine below_set ?_ GE225.out | refine below_set ?_ GE236.out | refine below_set ?_ GE241.out | refine below_set ?_ GE247.out) | exact HB.out)))); have n4_ := Aside0.mk (blk_below (g := gb225) (o := .cells #[.int .i64 a0_0, .slice A0_1 l0_1.length c0_1] 24 (0, 0)) (by (with_reducible repeat (first | refine blk_drewN ?_ _ | refine blk_drew ?_ | refine blk_alloc ?_ _)); exact BK225.out) hb); have n5_ := Aside0.mk (blk_below (g := gb236) (o := .cells #[.int .i64 t231, .slice Ao43 t232.length co43] 26 (0, 0)) (by (with_reducible repeat (first | refine blk_drewN ?_ _ | refine blk_drew ?_ | refine blk_alloc ?_ _)); exact BK236.out) hb); have n6_ := Aside0.mk (blk_below (g := gb241) (o := .cells #[.int .i64 t237, .slice Ao50 t238.length co50] 26 (0, 0)) (by (with_reducible repeat (first | refine blk_drewN ?_ _ | refine blk_drew ?_ | refine blk_alloc ?_ _)); exact BK241.out) hb); have n7_ := Aside0.mk (blk_below (g := gb247) (o := .cells #[.int .i64 t242, .slice Ao57 t243.length co57] 26 (0, 0)) (by (with_reducible repeat (first | refine blk_drewN ?_ _ | refine blk_drew ?_ | refine blk_alloc ?_ _)); exact BK247.out) hb); have n8_ := Aside0.mk (below_step (by repeat (first | (with_reducible first | exact HB.out | apply below_alloc | apply pw_below_drewN | apply below_drew1 | refine below_set ?_ GE225.out | refine below_set ?_ GE236.out | refine below_set ?_ GE241.out | refine below_set ?_ GE247.out) | exact HB.out)) hb); clear HO234; clear HO240; clear HO245; clear BK225; clear BK236; clear BK241; clear BK247; clear HB; have HO234 := n0_; have HO240 := n1_; have HO245 := n2_; have HO263 := n3_; have BK225 := n4_; have BK236 := n5_; have BK241 := n6_; have BK247 := n7_; have HB := n8_; clear n0_ n1_ n2_ n3_ n4_ n5_ n6_ n7_ n8_; (try clear hb); (try clear hb2); (try clear hk); (try clear hi); (try clear ho0); obtain ⟨Ao75, co75, eo75⟩ := Kd.R_slice HO263.out; subst eo75) | ((with_reducible refine gate_callee (f := 37) rfl ?_); refine goesL_ (some 76) rfl rfl Try.func37 (by kernel_rfl) rfl #[.agg #[.int .i64 t260, .slice Ao75 t261.length co75]] rfl (by (try simp only [List.map_toArray, List.map_cons, List.map_nil]); first | done | rfl | (simp only [List.length_drop, List.length_take]; rfl)) ?_; (with_reducible refine (impl_BoundaryComplex.calls t260 _ _ t261 t264 t265 t268 _ ?side1 ?side2 A26.out).mono ?_); (case side1 => repeat (first | exact (Kd.R_reads' HO263.out).2.2 | (with_reducible refine Kd.C_alloc ?_ _) | (with_reducible refine Kd.C_drewN ?_ _) | (with_reducible refine Kd.C_drew ?_))); (case side2 => exact (Kd.R_reads' HO263.out).2.1); rintro e w76 ⟨v266, rfl, ho0, hb⟩; refine ⟨_, rfl, ?_⟩; have n0_ := Aside0.mk (Kd.R_elder' (by (with_reducible repeat (first | apply Kd.R_alloc | apply Kd.R_drewN | apply Kd.R_drew)); exact HO234.out) (Kd.R_base ho0) hb); have n1_ := Aside0.mk (Kd.R_elder' (by (with_reducible repeat (first | apply Kd.R_alloc | apply Kd.R_drewN | apply Kd.R_drew)); exact HO240.out) (Kd.R_base ho0) hb); have n2_ := Aside0.mk (Kd.R_elder' (by (with_reducible repeat (first | apply Kd.R_alloc | apply Kd.R_drewN | apply Kd.R_drew)); exact HO245.out) (Kd.R_base ho0) hb); have n3_ := Aside0.mk (Kd.R_elder' (by (with_reducible repeat (first | apply Kd.R_alloc | apply Kd.R_drewN | apply Kd.R_drew)); exact HO263.out) (Kd.R_base ho0) hb); have n4_ := Aside0.mk (Kd.R_lower (Kd.R_new' (Kd.R_new' (Kd.R_new' (Kd.R_new' ho0 (Kd.R_lt (by (with_reducible repeat (first | apply Kd.R_alloc | apply Kd.R_drewN | apply Kd.R_drew)); exact HO234.out))) (Kd.R_lt (by (with_reducible repeat (first | apply Kd.R_alloc | apply Kd.R_drewN | apply Kd.R_drew)); exact HO240.out))) (Kd.R_lt (by (with_reducible repeat (first | apply Kd.R_alloc | apply Kd.R_drewN | apply Kd.R_drew)); exact HO245.out))) (Kd.R_lt (by (with_reducible repeat (first | apply Kd.R_alloc | apply Kd.R_drewN | apply Kd.R_drew)); exact HO263.out))) (below_size (by repeat (first | (with_reducible first | exact HB.out | apply below_alloc | apply pw_below_drewN | apply below_drew1 | refine below_set ?_ GE225.out | refine below_set ?_ GE236.out | refine below_set ?_ GE241.out | refine below_set ?_ GE247.out) | exact HB.out)))); have n5_ := Aside0.mk (blk_below (g := gb225) (o := .cells #[.int .i64 a0_0, .slice A0_1 l0_1.length c0_1] 24 (0, 0)) (by (with_reducible repeat (first | refine blk_drewN ?_ _ | refine blk_drew ?_ | refine blk_alloc ?_ _)); exact BK225.out) hb); have n6_ := Aside0.mk (blk_below (g := gb236) (o := .cells #[.int .i64 t231, .slice Ao43 t232.length co43] 26 (0, 0)) (by (with_reducible repeat (first | refine blk_drewN ?_ _ | refine blk_drew ?_ | refine blk_alloc ?_ _)); exact BK236.out) hb); have n7_ := Aside0.mk (blk_below (g := gb241) (o := .cells #[.int .i64 t237, .slice Ao50 t238.length co50] 26 (0, 0)) (by (with_reducible repeat (first | refine blk_drewN ?_ _ | refine blk_drew ?_ | refine blk_alloc ?_ _)); exact BK241.out) hb); have n8_ := Aside0.mk (blk_below (g := gb247) (o := .cells #[.int .i64 t242, .slice Ao57 t243.length co57] 26 (0, 0)) (by (with_reducible repeat (first | refine blk_drewN ?_ _ | refine blk_drew ?_ | refine blk_alloc ?_ _)); exact BK247.out) hb); have n9_ := Aside0.mk (below_step (by repeat (first | (with_reducible first | exact HB.out | apply below_alloc | apply pw_below_drewN | apply below_drew1 | refine below_set ?_ GE225.out | refine below_set ?_ GE236.out | refine below_set ?_ GE241.out | refine below_set ?_ GE247.out) | exact HB.out)) hb); clear HO234; clear HO240; clear HO245; clear HO263; clear BK225; clear BK236; clear BK241; clear BK247; clear HB; have HO234 := n0_; have HO240 := n1_; have HO245 := n2_; have HO263 := n3_; have HO267 := n4_; have BK225 := n5_; have BK236 := n6_; have BK241 := n7_; have BK247 := n8_; have HB := n9_; clear n0_ n1_ n2_ n3_ n4_ n5_ n6_ n7_ n8_ n9_; (try clear hb); (try clear hb2); (try clear hk); (try clear hi); (try clear ho0); have nD_ := Aside0.mk (Kd.R_mono (ok' := fun k_ => some k_ ≠ (.slice Ao50 t238.length co50 : Value).ownBlock ∧ some k_ ≠ (.slice Ao57 t243.length co57 : Value).ownBlock ∧ some k_ ≠ (v266 : Value).ownBlock) HO234.out (fun k_ hk => ⟨hk.1.1.1, ⟨hk.1.1.2, hk.2⟩⟩)); clear HO234; have HO234 := nD_; clear nD_; have nD_ := Aside0.mk (Kd.R_mono (ok' := fun k_ => some k_ ≠ (.slice Ao43 t232.length co43 : Value).ownBlock ∧ some k_ ≠ (.slice Ao57 t243.length co57 : Value).ownBlock ∧ some k_ ≠ (v266 : Value).ownBlock) HO240.out (fun k_ hk => ⟨hk.1.1.1, ⟨hk.1.1.2, hk.2⟩⟩)); clear HO240; have HO240 := nD_; clear nD_; have nD_ := Aside0.mk (Kd.R_mono (ok' := fun k_ => some k_ ≠ (.slice Ao43 t232.length co43 : Value).ownBlock ∧ some k_ ≠ (.slice Ao50 t238.length co50 : Value).ownBlock ∧ some k_ ≠ (v266 : Value).ownBlock) HO245.out (fun k_ hk => ⟨hk.1.1.1, ⟨hk.1.1.2, hk.2⟩⟩)); clear HO245; have HO245 := nD_; clear nD_; have nD_ := Aside0.mk (Kd.R_mono (ok' := fun k_ => some k_ ≠ (.slice Ao43 t232.length co43 : Value).ownBlock ∧ some k_ ≠ (.slice Ao50 t238.length co50 : Value).ownBlock ∧ some k_ ≠ (.slice Ao57 t243.length co57 : Value).ownBlock) HO267.out (fun k_ hk => ⟨hk.1.1.1.2, ⟨hk.1.1.2, hk.1.2⟩⟩)); clear HO267; have HO267 := nD_; clear nD_; clear HO263) | ((with_reducible refine gate_dst (N := 12) rfl ?_); refine box_event ?hg (N := 12) ?hd (cs := #[.int .i64 0, .slice none 0 0]) (t := 26) ?hr ?_; (case hd => rfl); (case hg => rfl); (case hr => first | (go_simp; done) | (go_simp; rfl)); intro gb269 hg w77 hbox hb; have n0_ := Aside0.mk (Kd.R_below (by (with_reducible repeat (first | apply Kd.R_alloc | apply Kd.R_drewN | apply Kd.R_drew)); exact HO234.out) hb); have n1_ := Aside0.mk (Kd.R_below (by (with_reducible repeat (first | apply Kd.R_alloc | apply Kd.R_drewN | apply Kd.R_drew)); exact HO240.out) hb); have n2_ := Aside0.mk (Kd.R_below (by (with_reducible repeat (first | apply Kd.R_alloc | apply Kd.R_drewN | apply Kd.R_drew)); exact HO245.out) hb); have n3_ := Aside0.mk (Kd.R_below (by (with_reducible repeat (first | apply Kd.R_alloc | apply Kd.R_drewN | apply Kd.R_drew)); exact HO267.out) hb); have n4_ := Aside0.mk (blk_below (g := gb225) (o := .cells #[.int .i64 a0_0, .slice A0_1 l0_1.length c0_1] 24 (0, 0)) (by (with_reducible repeat (first | refine blk_drewN ?_ _ | refine blk_drew ?_ | refine blk_alloc ?_ _)); exact BK225.out) hb); have n5_ := Aside0.mk (blk_below (g := gb236) (o := .cells #[.int .i64 t231, .slice Ao43 t232.length co43] 26 (0, 0)) (by (with_reducible repeat (first | refine blk_drewN ?_ _ | refine blk_drew ?_ | refine blk_alloc ?_ _)); exact BK236.out) hb); have n6_ := Aside0.mk (blk_below (g := gb241) (o := .cells #[.int .i64 t237, .slice Ao50 t238.length co50] 26 (0, 0)) (by (with_reducible repeat (first | refine blk_drewN ?_ _ | refine blk_drew ?_ | refine blk_alloc ?_ _)); exact BK241.out) hb); have n7_ := Aside0.mk (blk_below (g := gb247) (o := .cells #[.int .i64 t242, .slice Ao57 t243.length co57] 26 (0, 0)) (by (with_reducible repeat (first | refine blk_drewN ?_ _ | refine blk_drew ?_ | refine blk_alloc ?_ _)); exact BK247.out) hb); have n8_ := Aside0.mk (below_step (by repeat (first | (with_reducible first | exact HB.out | apply below_alloc | apply pw_below_drewN | apply below_drew1 | refine below_set ?_ GE225.out | refine below_set ?_ GE236.out | refine below_set ?_ GE241.out | refine below_set ?_ GE247.out) | exact HB.out)) hb); have n9_ := Aside0.mk (hbox); have n10_ := Aside0.mk ((by rw [hg]; exact (below_size (by repeat (first | (with_reducible first | exact HB.out | apply below_alloc | apply pw_below_drewN | apply below_drew1 | refine below_set ?_ GE225.out | refine below_set ?_ GE236.out | refine below_set ?_ GE241.out | refine below_set ?_ GE247.out) | exact HB.out))) : w.heap.size ≤ gb269)); have n11_ := Aside0.mk ((by rw [hg]; exact (below_size (by repeat (first | (with_reducible first | exact HB.out | apply below_alloc | apply pw_below_drewN | apply below_drew1 | refine below_set ?_ GE225.out | refine below_set ?_ GE236.out | refine below_set ?_ GE241.out | refine below_set ?_ GE247.out) | exact HB.out))) : w.heap.size ≤ gb269)); have n12_ := Aside0.mk ((by rw [hg]; exact Nat.ne_of_lt (blk_lt (g := gb225) (o := .cells #[.int .i64 a0_0, .slice A0_1 l0_1.length c0_1] 24 (0, 0)) (by (with_reducible repeat (first | refine blk_drewN ?_ _ | refine blk_drew ?_ | refine blk_alloc ?_ _)); exact BK225.out)) : gb225 ≠ gb269)); have n13_ := Aside0.mk ((by rw [hg]; exact Nat.ne_of_gt (blk_lt (g := gb225) (o := .cells #[.int .i64 a0_0, .slice A0_1 l0_1.length c0_1] 24 (0, 0)) (by (with_reducible repeat (first | refine blk_drewN ?_ _ | refine blk_drew ?_ | refine blk_alloc ?_ _)); exact BK225.out)) : gb269 ≠ gb225)); have n14_ := Aside0.mk ((by rw [hg]; exact Nat.ne_of_lt (blk_lt (g := gb236) (o := .cells #[.int .i64 t231, .slice Ao43 t232.length co43] 26 (0, 0)) (by (with_reducible repeat (first | refine blk_drewN ?_ _ | refine blk_drew ?_ | refine blk_alloc ?_ _)); exact BK236.out)) : gb236 ≠ gb269)); have n15_ := Aside0.mk ((by rw [hg]; exact Nat.ne_of_gt (blk_lt (g := gb236) (o := .cells #[.int .i64 t231, .slice Ao43 t232.length co43] 26 (0, 0)) (by (with_reducible repeat (first | refine blk_drewN ?_ _ | refine blk_drew ?_ | refine blk_alloc ?_ _)); exact BK236.out)) : gb269 ≠ gb236)); have n16_ := Aside0.mk ((by rw [hg]; exact Nat.ne_of_lt (blk_lt (g := gb241) (o := .cells #[.int .i64 t237, .slice Ao50 t238.length co50] 26 (0, 0)) (by (with_reducible repeat (first | refine blk_drewN ?_ _ | refine blk_drew ?_ | refine blk_alloc ?_ _)); exact BK241.out)) : gb241 ≠ gb269)); have n17_ := Aside0.mk ((by rw [hg]; exact Nat.ne_of_gt (blk_lt (g := gb241) (o := .cells #[.int .i64 t237, .slice Ao50 t238.length co50] 26 (0, 0)) (by (with_reducible repeat (first | refine blk_drewN ?_ _ | refine blk_drew ?_ | refine blk_alloc ?_ _)); exact BK241.out)) : gb269 ≠ gb241)); have n18_ := Aside0.mk ((by rw [hg]; exact Nat.ne_of_lt (blk_lt (g := gb247) (o := .cells #[.int .i64 t242, .slice Ao57 t243.length co57] 26 (0, 0)) (by (with_reducible repeat (first | refine blk_drewN ?_ _ | refine blk_drew ?_ | refine blk_alloc ?_ _)); exact BK247.out)) : gb247 ≠ gb269)); have n19_ := Aside0.mk ((by rw [hg]; exact Nat.ne_of_gt (blk_lt (g := gb247) (o := .cells #[.int .i64 t242, .slice Ao57 t243.length co57] 26 (0, 0)) (by (with_reducible repeat (first | refine blk_drewN ?_ _ | refine blk_drew ?_ | refine blk_alloc ?_ _)); exact BK247.out)) : gb269 ≠ gb247)); clear HO234; clear HO240; clear HO245; clear HO267; clear BK225; clear BK236; clear BK241; clear BK247; clear HB; have HO234 := n0_; have HO240 := n1_; have HO245 := n2_; have HO267 := n3_; have BK225 := n4_; have BK236 := n5_; have BK241 := n6_; have BK247 := n7_; have HB := n8_; have BK269 := n9_; have GW269 := n10_; have GE269 := n11_; have NB225_269 := n12_; have NB269_225 := n13_; have NB236_269 := n14_; have NB269_236 := n15_; have NB241_269 := n16_; have NB269_241 := n17_; have NB247_269 := n18_; have NB269_247 := n19_; clear n0_ n1_ n2_ n3_ n4_ n5_ n6_ n7_ n8_ n9_ n10_ n11_ n12_ n13_ n14_ n15_ n16_ n17_ n18_ n19_; clear hb hbox hg; have hnb78 := NB269_225.out; have hnc78 := NB225_269.out; have hnb79 := NB269_236.out; have hnc79 := NB236_269.out; have hnb80 := NB269_241.out; have hnc80 := NB241_269.out; have hnb81 := NB269_247.out; have hnc81 := NB247_269.out; have hcz82_0 : w77.cell? ⟨gb269, 0, none⟩ = some (.int .i64 0) := (blk_cell BK269.out 0).trans rfl; have hcz82_1 : w77.cell? ⟨gb269, 1, none⟩ = some (.slice none 0 0) := (blk_cell BK269.out 1).trans rfl; have hfz82_0 := blk_frozen BK269.out 0; have hfz82_1 := blk_frozen BK269.out 1; obtain ⟨Ao83, co83, eo83⟩ := Kd.R_slice HO267.out; subst eo83; have hcz84_0 : w77.cell? ⟨gb236, 0, none⟩ = some (.int .i64 t231) := (blk_cell BK236.out 0).trans rfl; have hcz84_1 : w77.cell? ⟨gb236, 1, none⟩ = some (.slice Ao43 t232.length co43) := (blk_cell BK236.out 1).trans rfl; have hfz84_0 := blk_frozen BK236.out 0; have hfz84_1 := blk_frozen BK236.out 1) | ((with_reducible refine gate_callee (f := 19) rfl ?_); refine goesL_ (some 81) rfl rfl Try.func19 (by kernel_rfl) rfl #[.agg #[.int .i64 t264, .slice Ao83 t265.length co83], .agg #[.int .i64 t231, .slice Ao43 t232.length co43]] rfl (by (try simp only [List.map_toArray, List.map_cons, List.map_nil]); first | done | rfl | (simp only [List.length_drop, List.length_take]; rfl)) ?_; (with_reducible refine (laws_eqComplex.calls k t264 _ _ t265 t231 _ _ t232 true _ ?side1 ?side2 ?side3 ?side4 A27.out).mono ?_); (case side1 => refine (Kd.R_reads' (e := 2) (base := w.heap.size) (ok := fun k_ => (some k_ ≠ (.slice Ao43 t232.length co43 : Value).ownBlock ∧ (some k_ ≠ (.slice Ao50 t238.length co50 : Value).ownBlock ∧ some k_ ≠ (.slice Ao57 t243.length co57 : Value).ownBlock))) (n := t265.length) (c := co83) ?_).2.2; exact (by (with_reducible repeat (first | apply Kd.R_alloc | apply Kd.R_drewN | apply Kd.R_drew)); exact (Kd.R_mono (Kd.R_far (p := ⟨gb269, 1, none⟩) (Kd.R_far (p := ⟨gb269, 0, none⟩) (Kd.R_types HO267.out BK269.out (by decide)) (fun _ hk => hk.2) (.int .i64 t264)) (fun _ hk => hk.2) (.slice Ao83 t265.length co83)) (fun _ h_ => h_.1)))); (case side2 => exact (Kd.R_reads' HO267.out).2.1); (case side3 => refine (Kd.R_reads' (e := 2) (base := w.heap.size) (ok := fun k_ => (some k_ ≠ (.slice Ao50 t238.length co50 : Value).ownBlock ∧ (some k_ ≠ (.slice Ao57 t243.length co57 : Value).ownBlock ∧ some k_ ≠ (.slice Ao83 t265.length co83 : Value).ownBlock))) (n := t232.length) (c := co43) ?_).2.2; exact (by (with_reducible repeat (first | apply Kd.R_alloc | apply Kd.R_drewN | apply Kd.R_drew)); exact (Kd.R_mono (Kd.R_far (p := ⟨gb269, 1, none⟩) (Kd.R_far (p := ⟨gb269, 0, none⟩) (Kd.R_types HO234.out BK269.out (by decide)) (fun _ hk => hk.2) (.int .i64 t264)) (fun _ hk => hk.2) (.slice Ao83 t265.length co83)) (fun _ h_ => h_.1)))); (case side4 => exact (Kd.R_reads' HO234.out).2.1); rintro e w85 ⟨rfl, hb⟩; refine ⟨_, rfl, ?_⟩; have n0_ := Aside0.mk (Kd.R_below (by (with_reducible repeat (first | apply Kd.R_alloc | apply Kd.R_drewN | apply Kd.R_drew)); exact (Kd.R_mono (Kd.R_far (p := ⟨gb269, 1, none⟩) (Kd.R_far (p := ⟨gb269, 0, none⟩) (Kd.R_types HO234.out BK269.out (by decide)) (fun _ hk => hk.2) (.int .i64 t264)) (fun _ hk => hk.2) (.slice Ao83 t265.length co83)) (fun _ h_ => h_.1))) hb); have n1_ := Aside0.mk (Kd.R_below (by (with_reducible repeat (first | apply Kd.R_alloc | apply Kd.R_drewN | apply Kd.R_drew)); exact (Kd.R_mono (Kd.R_far (p := ⟨gb269, 1, none⟩) (Kd.R_far (p := ⟨gb269, 0, none⟩) (Kd.R_types HO240.out BK269.out (by decide)) (fun _ hk => hk.2) (.int .i64 t264)) (fun _ hk => hk.2) (.slice Ao83 t265.length co83)) (fun _ h_ => h_.1))) hb); have n2_ := Aside0.mk (Kd.R_below (by (with_reducible repeat (first | apply Kd.R_alloc | apply Kd.R_drewN | apply Kd.R_drew)); exact (Kd.R_mono (Kd.R_far (p := ⟨gb269, 1, none⟩) (Kd.R_far (p := ⟨gb269, 0, none⟩) (Kd.R_types HO245.out BK269.out (by decide)) (fun _ hk => hk.2) (.int .i64 t264)) (fun _ hk => hk.2) (.slice Ao83 t265.length co83)) (fun _ h_ => h_.1))) hb); have n3_ := Aside0.mk (Kd.R_below (by (with_reducible repeat (first | apply Kd.R_alloc | apply Kd.R_drewN | apply Kd.R_drew)); exact (Kd.R_mono (Kd.R_far (p := ⟨gb269, 1, none⟩) (Kd.R_far (p := ⟨gb269, 0, none⟩) (Kd.R_types HO267.out BK269.out (by decide)) (fun _ hk => hk.2) (.int .i64 t264)) (fun _ hk => hk.2) (.slice Ao83 t265.length co83)) (fun _ h_ => h_.1))) hb); have n4_ := Aside0.mk (blk_below (g := gb225) (o := .cells #[.int .i64 a0_0, .slice A0_1 l0_1.length c0_1] 24 (0, 0)) (by (with_reducible repeat (first | refine blk_drewN ?_ _ | refine blk_drew ?_ | refine blk_alloc ?_ _)); refine blk_far ?_ NB225_269.out _; (with_reducible repeat (first | refine blk_drewN ?_ _ | refine blk_drew ?_ | refine blk_alloc ?_ _)); refine blk_far ?_ NB225_269.out _; (with_reducible repeat (first | refine blk_drewN ?_ _ | refine blk_drew ?_ | refine blk_alloc ?_ _)); exact BK225.out) hb); have n5_ := Aside0.mk (blk_below (g := gb236) (o := .cells #[.int .i64 t231, .slice Ao43 t232.length co43] 26 (0, 0)) (by (with_reducible repeat (first | refine blk_drewN ?_ _ | refine blk_drew ?_ | refine blk_alloc ?_ _)); refine blk_far ?_ NB236_269.out _; (with_reducible repeat (first | refine blk_drewN ?_ _ | refine blk_drew ?_ | refine blk_alloc ?_ _)); refine blk_far ?_ NB236_269.out _; (with_reducible repeat (first | refine blk_drewN ?_ _ | refine blk_drew ?_ | refine blk_alloc ?_ _)); exact BK236.out) hb); have n6_ := Aside0.mk (blk_below (g := gb241) (o := .cells #[.int .i64 t237, .slice Ao50 t238.length co50] 26 (0, 0)) (by (with_reducible repeat (first | refine blk_drewN ?_ _ | refine blk_drew ?_ | refine blk_alloc ?_ _)); refine blk_far ?_ NB241_269.out _; (with_reducible repeat (first | refine blk_drewN ?_ _ | refine blk_drew ?_ | refine blk_alloc ?_ _)); refine blk_far ?_ NB241_269.out _; (with_reducible repeat (first | refine blk_drewN ?_ _ | refine blk_drew ?_ | refine blk_alloc ?_ _)); exact BK241.out) hb); have n7_ := Aside0.mk (blk_below (g := gb247) (o := .cells #[.int .i64 t242, .slice Ao57 t243.length co57] 26 (0, 0)) (by (with_reducible repeat (first | refine blk_drewN ?_ _ | refine blk_drew ?_ | refine blk_alloc ?_ _)); refine blk_far ?_ NB247_269.out _; (with_reducible repeat (first | refine blk_drewN ?_ _ | refine blk_drew ?_ | refine blk_alloc ?_ _)); refine blk_far ?_ NB247_269.out _; (with_reducible repeat (first | refine blk_drewN ?_ _ | refine blk_drew ?_ | refine blk_alloc ?_ _)); exact BK247.out) hb); have n8_ := Aside0.mk (blk_below (g := gb269) (o := .cells #[.int .i64 t264, .slice Ao83 t265.length co83] 26 (0, 0)) (by (with_reducible repeat (first | refine blk_drewN ?_ _ | refine blk_drew ?_ | refine blk_alloc ?_ _)); refine blk_put (cs := #[.int .i64 t264, .slice none 0 0]) ?_ 1 _ rfl; (with_reducible repeat (first | refine blk_drewN ?_ _ | refine blk_drew ?_ | refine blk_alloc ?_ _)); refine blk_put (cs := #[.int .i64 0, .slice none 0 0]) ?_ 0 _ rfl; (with_reducible repeat (first | refine blk_drewN ?_ _ | refine blk_drew ?_ | refine blk_alloc ?_ _)); exact BK269.out) hb); have n9_ := Aside0.mk (below_step (by repeat (first | (with_reducible first | exact HB.out | apply below_alloc | apply pw_below_drewN | apply below_drew1 | refine below_set ?_ GE225.out | refine below_set ?_ GE236.out | refine below_set ?_ GE241.out | refine below_set ?_ GE247.out | refine below_set ?_ GE269.out) | exact HB.out)) hb); clear HO234; clear HO240; clear HO245; clear HO267; clear BK225; clear BK236; clear BK241; clear BK247; clear BK269; clear HB; have HO234 := n0_; have HO240 := n1_; have HO245 := n2_; have HO267 := n3_; have BK225 := n4_; have BK236 := n5_; have BK241 := n6_; have BK247 := n7_; have BK269 := n8_; have HB := n9_; clear n0_ n1_ n2_ n3_ n4_ n5_ n6_ n7_ n8_ n9_; (try clear hb); (try clear hb2); (try clear hk); (try clear hi); have hcz86_0 : w85.cell? ⟨gb247, 0, none⟩ = some (.int .i64 t242) := (blk_cell BK247.out 0).trans rfl; have hcz86_1 : w85.cell? ⟨gb247, 1, none⟩ = some (.slice Ao57 t243.length co57) := (blk_cell BK247.out 1).trans rfl; have hfz86_0 := blk_frozen BK247.out 0; have hfz86_1 := blk_frozen BK247.out 1) | ((with_reducible refine gate_callee (f := 23) rfl ?_); refine goesL_ (some 90) rfl rfl Try.func23 (by kernel_rfl) rfl #[.agg #[.int .i64 t242, .slice Ao57 t258.length co57], .int .i64 1] rfl (by (try simp only [List.map_toArray, List.map_cons, List.map_nil]); first | done | (rw [show t258.length = t243.length from (Kd.R_reads' HO245.out).1.symm] <;> rfl) | rfl | (simp only [List.length_drop, List.length_take]; rfl)) ?_; (with_reducible refine (laws_heldComplex.calls k t242 _ _ t258 1 t271 _ ?side1 ?side2 A30.out).mono ?_); (case side1 => repeat (first | exact (Kd.R_reads' HO245.out).2.2 | (with_reducible refine Kd.C_alloc ?_ _) | (with_reducible refine Kd.C_drewN ?_ _) | (with_reducible refine Kd.C_drew ?_))); (case side2 => rw [show t258.length = t243.length from (Kd.R_reads' HO245.out).1.symm]; exact (Kd.R_reads' HO245.out).2.1); rintro e w87 ⟨rfl, hb⟩; refine ⟨_, rfl, ?_⟩; have n0_ := Aside0.mk (Kd.R_below (by (with_reducible repeat (first | apply Kd.R_alloc | apply Kd.R_drewN | apply Kd.R_drew)); exact HO234.out) hb); have n1_ := Aside0.mk (Kd.R_below (by (with_reducible repeat (first | apply Kd.R_alloc | apply Kd.R_drewN | apply Kd.R_drew)); exact HO240.out) hb); have n2_ := Aside0.mk (Kd.R_below (by (with_reducible repeat (first | apply Kd.R_alloc | apply Kd.R_drewN | apply Kd.R_drew)); exact HO245.out) hb); have n3_ := Aside0.mk (Kd.R_below (by (with_reducible repeat (first | apply Kd.R_alloc | apply Kd.R_drewN | apply Kd.R_drew)); exact HO267.out) hb); have n4_ := Aside0.mk (blk_below (g := gb225) (o := .cells #[.int .i64 a0_0, .slice A0_1 l0_1.length c0_1] 24 (0, 0)) (by (with_reducible repeat (first | refine blk_drewN ?_ _ | refine blk_drew ?_ | refine blk_alloc ?_ _)); exact BK225.out) hb); have n5_ := Aside0.mk (blk_below (g := gb236) (o := .cells #[.int .i64 t231, .slice Ao43 t232.length co43] 26 (0, 0)) (by (with_reducible repeat (first | refine blk_drewN ?_ _ | refine blk_drew ?_ | refine blk_alloc ?_ _)); exact BK236.out) hb); have n6_ := Aside0.mk (blk_below (g := gb241) (o := .cells #[.int .i64 t237, .slice Ao50 t238.length co50] 26 (0, 0)) (by (with_reducible repeat (first | refine blk_drewN ?_ _ | refine blk_drew ?_ | refine blk_alloc ?_ _)); exact BK241.out) hb); have n7_ := Aside0.mk (blk_below (g := gb247) (o := .cells #[.int .i64 t242, .slice Ao57 t243.length co57] 26 (0, 0)) (by (with_reducible repeat (first | refine blk_drewN ?_ _ | refine blk_drew ?_ | refine blk_alloc ?_ _)); exact BK247.out) hb); have n8_ := Aside0.mk (blk_below (g := gb269) (o := .cells #[.int .i64 t264, .slice Ao83 t265.length co83] 26 (0, 0)) (by (with_reducible repeat (first | refine blk_drewN ?_ _ | refine blk_drew ?_ | refine blk_alloc ?_ _)); exact BK269.out) hb); have n9_ := Aside0.mk (below_step (by repeat (first | (with_reducible first | exact HB.out | apply below_alloc | apply pw_below_drewN | apply below_drew1 | refine below_set ?_ GE225.out | refine below_set ?_ GE236.out | refine below_set ?_ GE241.out | refine below_set ?_ GE247.out | refine below_set ?_ GE269.out) | exact HB.out)) hb); clear HO234; clear HO240; clear HO245; clear HO267; clear BK225; clear BK236; clear BK241; clear BK247; clear BK269; clear HB; have HO234 := n0_; have HO240 := n1_; have HO245 := n2_; have HO267 := n3_; have BK225 := n4_; have BK236 := n5_; have BK241 := n6_; have BK247 := n7_; have BK269 := n8_; have HB := n9_; clear n0_ n1_ n2_ n3_ n4_ n5_ n6_ n7_ n8_ n9_; (try clear hb); (try clear hb2); (try clear hk); (try clear hi)))
                          go_ret
                          exact ⟨by first | rfl | (simp [errW_none, errW_some] <;> rfl) | (simp [*, errW_none, errW_some] <;> rfl), by repeat (first | (with_reducible first | exact HB.out | apply below_alloc | apply pw_below_drewN | apply below_drew1 | refine below_set ?_ GE225.out | refine below_set ?_ GE236.out | refine below_set ?_ GE241.out | refine below_set ?_ GE247.out | refine below_set ?_ GE269.out) | exact HB.out)⟩
                        · rw [if_neg c32] at H
                          exact absurd H (by simp)
                    · rw [if_neg c29] at H
                      exact absurd H (by simp)
                  · replace c28 := Bool.eq_false_iff.mpr c28
                    subst c28
                    have H1 : (none) = some r := by rw [if_neg (show ¬ (false = true) by decide)] at H; exact H
                    clear H
                    have H := H1
                    clear H1
                    exact absurd H (by simp)
                · rw [if_neg c24] at H
                  exact absurd H (by simp)
            · replace c20 := Bool.eq_false_iff.mpr c20
              subst c20
              have H1 : (none) = some r := by rw [if_neg (show ¬ (false = true) by decide)] at H; exact H
              clear H
              have H := H1
              clear H1
              exact absurd H (by simp)
        · replace c16 := Bool.eq_false_iff.mpr c16
          subst c16
          have H1 : (none) = some r := by rw [if_neg (show ¬ (false = true) by decide)] at H; exact H
          clear H
          have H := H1
          clear H1
          exact absurd H (by simp)
      · rw [if_neg c13] at H
        exact absurd H (by simp)
    · replace c12 := Bool.eq_false_iff.mpr c12
      subst c12
      have H1 : (none) = some r := by rw [if_neg (show ¬ (false = true) by decide)] at H; exact H
      clear H
      have H := H1
      clear H1
      exact absurd H (by simp)
end Go.Proofs.Ytnmhnkpijjmhjaa.QFnExactBoundaryComplex
namespace Go.Proofs.Ytnmhnkpijjmhjaa.Pu
set_option linter.unusedVariables false
set_option linter.unusedSimpArgs false
open Go.RowKit Go.Proofs.Ytnmhnkpijjmhjaa.QS Go.Proofs.YtnmhnkpijjmhjaaW.PrintWords Go.Proofs.YtnmhnkpijjmhjaaW.PrintLast Go.Proofs.YtnmhnkpijjmhjaaW.PrintMore
theorem w64 {x : Int} (h1 : -9223372036854775808 ≤ x) (h2 : x ≤ 9223372036854775807) : wrap64 x = x := by unfold wrap64; omega
theorem rd_at {l : List Int} {i : Nat} (h : i < l.length) : rd l (i : Int) = l[i] := by simp [rd, List.getD_eq_getElem?_getD, List.getElem?_eq_getElem h]
theorem sz_big {n : Int} {l : List Int} (hm : l.length ≤ maxLen) (h : 1048576 < l.length) : laws_szComplex.f n l 1048576 = some (-1) := by
  unfold laws_szComplex.f laws_szInt64S.f
  simp only [maxLen] at hm
  rw [w64 (by omega) (by omega), if_pos (by omega)]
  rfl
theorem sz_ok {n : Int} {l : List Int} (h : l.length ≤ 1048576) : ∃ t, laws_szComplex.f n l 1048576 = some t ∧ ¬ t < 0 := by
  unfold laws_szComplex.f laws_szInt64S.f
  rw [w64 (by omega) (by omega), if_neg (by omega)]
  refine ⟨1048576 - l.length, ?_, by omega⟩
  simp only [Option.bind_some]
  rw [if_neg (by omega)]
theorem toInt_loop (l : List Int) (hl : l.length ≤ 1048576) : ∀ d (i : Nat) (x3 : List Int) k, l.length - i = d → d < k → i ≤ l.length → x3.length = l.length → (∀ j, j < i → x3[j]? = l[j]?) → laws_toInt64S.l0 k l x3 i = some l := by
  intro d
  induction d with
  | zero =>
    intro i x3 k hd hk hi hx hj
    obtain ⟨k, rfl⟩ : ∃ m, k = m + 1 := ⟨k - 1, by omega⟩
    simp only [laws_toInt64S.l0]
    rw [if_neg (by omega)]
    congr 1
    apply List.ext_getElem?
    intro j
    rcases Nat.lt_or_ge j i with h | h
    · exact hj j h
    · rw [List.getElem?_eq_none (by omega), List.getElem?_eq_none (by omega)]
  | succ d ih =>
    intro i x3 k hd hk hi hx hj
    obtain ⟨k, rfl⟩ : ∃ m, k = m + 1 := ⟨k - 1, by omega⟩
    simp only [laws_toInt64S.l0]
    rw [if_pos (by omega), if_pos (by omega), if_pos (by omega), w64 (by omega) (by omega)]
    refine ih (i + 1) _ k (by omega) (by omega) (by omega) (by simpa using hx) (fun j hji => ?_)
    rw [Int.toNat_natCast, List.getElem?_set]
    split
    · rename_i h
      subst h
      rw [if_pos (by omega), rd_at (by omega), List.getElem?_eq_getElem (by omega)]
    · exact hj j (by omega)
theorem ev_toInt {l : List Int} (hl : l.length ≤ 1048576) : Ev (fun k => laws_toInt64S.f k l) l := by
  refine ⟨l.length + 1, fun k hk => ?_⟩
  dsimp only
  unfold laws_toInt64S.f
  rw [if_pos (by omega), if_pos (by omega)]
  exact toInt_loop l hl l.length 0 _ k (by omega) (by omega) (by omega) (by simp) (fun j hj => absurd hj (Nat.not_lt_zero _))
theorem ev_toComplex {n : Int} {l : List Int} (hl : l.length ≤ 1048576) : Ev (fun k => laws_toComplex.f k n l) (n, l) := by
  unfold laws_toComplex.f
  exact Ev.bind (f := fun _ t => some (n, t)) (ev_toInt hl) (Ev.now _)
theorem eqInt_loop (l : List Int) (hl : l.length ≤ 1048576) : ∀ d (i : Nat) k, l.length - i = d → d < k → i ≤ l.length → laws_eqInt64S.l0 k l l i = some true := by
  intro d
  induction d with
  | zero =>
    intro i k hd hk hi
    obtain ⟨k, rfl⟩ : ∃ m, k = m + 1 := ⟨k - 1, by omega⟩
    simp only [laws_eqInt64S.l0]
    rw [if_neg (by omega)]
  | succ d ih =>
    intro i k hd hk hi
    obtain ⟨k, rfl⟩ : ∃ m, k = m + 1 := ⟨k - 1, by omega⟩
    simp only [laws_eqInt64S.l0]
    rw [if_pos (by omega), if_pos (by omega), if_pos (by omega), if_pos trivial, w64 (by omega) (by omega)]
    exact ih (i + 1) k (by omega) (by omega) (by omega)
theorem ev_eqInt {l : List Int} (hl : l.length ≤ 1048576) : Ev (fun k => laws_eqInt64S.f k l l) true := by
  refine ⟨l.length + 1, fun k hk => ?_⟩
  dsimp only
  unfold laws_eqInt64S.f
  rw [if_pos rfl]
  exact eqInt_loop l hl l.length 0 k (by omega) (by omega) (by omega)
theorem ev_eqComplex {n : Int} {l : List Int} (hl : l.length ≤ 1048576) : Ev (fun k => laws_eqComplex.f k n l n l) true := by
  unfold laws_eqComplex.f
  simp only [if_true]
  exact Ev.bind (f := fun _ t => if t = true then some true else some false) (ev_eqInt hl) (by simp only [if_true]; exact Ev.now _)
def marks (m : Nat) (a : Int) : List Int := (List.range m).map fun j : Nat => a + (j : Int)
theorem marks_len (m : Nat) (a : Int) : (marks m a).length = m := by simp [marks]
theorem marks_at {m : Nat} {a : Int} {j : Nat} (h : j < m) : (marks m a)[j]? = some (a + (j : Int)) := by simp [marks, h]
theorem mark_loop (n : Nat) (hl : n ≤ 1048576) (a : Int) (ha : 0 ≤ a ∧ a ≤ 1073741824) : ∀ d (i : Nat) (x0 : List Int) k, n - i = d → d < k → i ≤ n → x0.length = n → (∀ j, j < i → x0[j]? = some (a + (j : Int))) → laws_markInt64S.l0 k x0 (a + (i : Int)) i = some (a + (n : Int), marks n a) := by
  intro d
  induction d with
  | zero =>
    intro i x0 k hd hk hi hx hj
    obtain ⟨k, rfl⟩ : ∃ m, k = m + 1 := ⟨k - 1, by omega⟩
    simp only [laws_markInt64S.l0]
    rw [if_neg (by omega), show i = n by omega]
    congr 2
    apply List.ext_getElem?
    intro j
    rcases Nat.lt_or_ge j n with h | h
    · rw [hj j (by omega), marks_at h]
    · rw [List.getElem?_eq_none (by omega), List.getElem?_eq_none (by rw [marks_len]; omega)]
  | succ d ih =>
    intro i x0 k hd hk hi hx hj
    obtain ⟨k, rfl⟩ : ∃ m, k = m + 1 := ⟨k - 1, by omega⟩
    simp only [laws_markInt64S.l0]
    rw [if_pos (by omega), if_pos (by omega), w64 (by omega) (by omega), w64 (by omega) (by omega)]
    have := ih (i + 1) (x0.set (i : Int).toNat (a + i)) k (by omega) (by omega) (by omega) (by simpa using hx) (fun j hji => ?_)
    · rw [show ((i + 1 : Nat) : Int) = (i : Int) + 1 by omega, show a + ((i : Int) + 1) = a + (i : Int) + 1 by omega] at this
      exact this
    · rw [Int.toNat_natCast, List.getElem?_set]
      split
      · rename_i h
        subst h
        rw [if_pos (by omega)]
      · exact hj j (by omega)
theorem ev_mark {l : List Int} (hl : l.length ≤ 1048576) {a : Int} (ha : 0 ≤ a ∧ a ≤ 1073741824) : Ev (fun k => laws_markInt64S.f k l a) (a + (l.length : Int), marks l.length a) := by
  refine ⟨l.length + 1, fun k hk => ?_⟩
  dsimp only
  unfold laws_markInt64S.f
  have := mark_loop l.length hl a ha l.length 0 l k (by omega) (by omega) (by omega) rfl (fun j hj => absurd hj (Nat.not_lt_zero _))
  rw [show a + ((0 : Nat) : Int) = a by omega] at this
  exact this
theorem ev_markComplex {n : Int} {l : List Int} (hl : l.length ≤ 1048576) {a : Int} (ha : 0 ≤ a ∧ a ≤ 1073741824) : Ev (fun k => laws_markComplex.f k n l a) (a + (l.length : Int), marks l.length a) := by
  unfold laws_markComplex.f
  exact Ev.bind (f := fun _ t => some (t.1, t.2)) (ev_mark hl ha) (Ev.now _)
theorem held_loop (n : Nat) (hl : n ≤ 1048576) (a : Int) (ha : 0 ≤ a ∧ a ≤ 1073741824) : ∀ d (i : Nat) k, n - i = d → d < k → i ≤ n → laws_heldInt64S.l0 k (marks n a) (a + (i : Int)) i = some (a + (n : Int)) := by
  intro d
  induction d with
  | zero =>
    intro i k hd hk hi
    obtain ⟨k, rfl⟩ : ∃ m, k = m + 1 := ⟨k - 1, by omega⟩
    simp only [laws_heldInt64S.l0]
    rw [marks_len, if_neg (by omega), show i = n by omega]
  | succ d ih =>
    intro i k hd hk hi
    obtain ⟨k, rfl⟩ : ∃ m, k = m + 1 := ⟨k - 1, by omega⟩
    simp only [laws_heldInt64S.l0]
    have h0 : rd (marks n a) (i : Int) = a + (i : Int) := by
      rw [rd_at (by rw [marks_len]; omega)]
      have := marks_at (m := n) (a := a) (j := i) (by omega)
      rw [List.getElem?_eq_getElem (by rw [marks_len]; omega)] at this
      exact Option.some.inj this
    rw [marks_len, if_pos (by omega), if_pos (by omega), if_pos h0, w64 (by omega) (by omega), w64 (by omega) (by omega)]
    have := ih (i + 1) k (by omega) (by omega) (by omega)
    rw [show ((i + 1 : Nat) : Int) = (i : Int) + 1 by omega, show a + ((i : Int) + 1) = a + (i : Int) + 1 by omega] at this
    exact this
theorem ev_held {n : Nat} (hl : n ≤ 1048576) {a : Int} (ha : 0 ≤ a ∧ a ≤ 1073741824) : Ev (fun k => laws_heldInt64S.f k (marks n a) a) (a + (n : Int)) := by
  refine ⟨n + 1, fun k hk => ?_⟩
  dsimp only
  unfold laws_heldInt64S.f
  have := held_loop n hl a ha n 0 k (by omega) (by omega) (by omega)
  rw [show a + ((0 : Nat) : Int) = a by omega] at this
  exact this
theorem ev_heldComplex {c : Int} {n : Nat} (hl : n ≤ 1048576) {a : Int} (ha : 0 ≤ a ∧ a ≤ 1073741824) : Ev (fun k => laws_heldComplex.f k c (marks n a) a) (a + (n : Int)) := by
  unfold laws_heldComplex.f
  exact Ev.bind (f := fun _ t => if t < 0 then some (-1) else some t) (ev_held hl ha) (by rw [if_neg (by omega)]; exact Ev.now _)
end Go.Proofs.Ytnmhnkpijjmhjaa.Pu
namespace Go.Proofs.Ytnmhnkpijjmhjaa.Pu
set_option linter.unusedVariables false
set_option linter.unusedSimpArgs false
open Go.RowKit Go.Proofs.Ytnmhnkpijjmhjaa.QS Go.Proofs.Ytnmhnkpijjmhjaa.Im Go.Proofs.YtnmhnkpijjmhjaaW.PrintWords Go.Proofs.YtnmhnkpijjmhjaaW.PrintLast Go.Proofs.YtnmhnkpijjmhjaaW.PrintMore
theorem in_eq (a b c : Int) : spec_l01In.f a b c = some (withinB a b c) := by
  unfold spec_l01In.f withinB
  by_cases h : a ≥ b
  · rw [if_pos h, decide_eq_true (show b ≤ a by omega)]; rfl
  · rw [if_neg h, decide_eq_false (show ¬ b ≤ a by omega)]; rfl
theorem all_eq {n : Int} (h1 : 1 ≤ n) (h6 : n ≤ 6) : spec_l01All.f n = some (fullZ n) := by
  obtain rfl | rfl | rfl | rfl | rfl | rfl : n = 1 ∨ n = 2 ∨ n = 3 ∨ n = 4 ∨ n = 5 ∨ n = 6 := by omega
  all_goals decide +kernel
theorem below_all : ((List.range 64).all fun f => f == 0 || spec_l01Below.f 70 (f : Int) == some (bordersL (f : Int))) = true := by decide +kernel
theorem ev_below {f : Int} (h1 : 1 ≤ f) (h2 : f ≤ 63) : Ev (fun k => spec_l01Below.f k f) (bordersL f) := by
  obtain ⟨m, rfl⟩ := Int.eq_ofNat_of_zero_le (show 0 ≤ f by omega)
  have h := List.all_eq_true.1 below_all m (List.mem_range.2 (by omega))
  have h0 : (m == 0) = false := by simp; omega
  rw [h0, Bool.false_or] at h
  exact Ev.of (fun k => spec_l01Below.mono _ k) (k := 70) (by simpa using h)
theorem has_loop (n x : Int) (l : List Int) (hl : l.length ≤ maxLen) : ∀ d (i : Nat) k, l.length - i = d → d < k → i ≤ l.length → spec_l01Has.l0 k x i n l = some (decide (x ∈ l.drop i)) := by
  simp only [maxLen] at hl
  intro d
  induction d with
  | zero =>
    intro i k hd hk hi
    obtain ⟨k, rfl⟩ : ∃ m, k = m + 1 := ⟨k - 1, by omega⟩
    simp only [spec_l01Has.l0]
    rw [if_neg (by omega), List.drop_eq_nil_of_le (by omega)]
    rfl
  | succ d ih =>
    intro i k hd hk hi
    obtain ⟨k, rfl⟩ : ∃ m, k = m + 1 := ⟨k - 1, by omega⟩
    simp only [spec_l01Has.l0]
    rw [if_pos (by omega), if_pos (by omega), rd_at (show i < l.length by omega), List.drop_eq_getElem_cons (show i < l.length by omega)]
    by_cases hx : l[i] = x
    · rw [if_pos hx, hx]; simp
    · rw [if_neg hx, w64 (by omega) (by omega)]
      have := ih (i + 1) k (by omega) (by omega) (by omega)
      rw [show ((i + 1 : Nat) : Int) = (i : Int) + 1 by omega] at this
      rw [this]
      exact congrArg some (decide_eq_decide.2 ⟨fun h => List.mem_cons.2 (Or.inr h), fun h => (List.mem_cons.1 h).resolve_left (Ne.symm hx)⟩)
theorem ev_has {l : List Int} (hl : l.length ≤ maxLen) (n x : Int) : Ev (fun k => spec_l01Has.f k n l x) (decide (x ∈ l)) := by
  refine ⟨l.length + 1, fun k hk => ?_⟩
  dsimp only
  unfold spec_l01Has.f
  have := has_loop n x l hl l.length 0 k (by omega) (by omega) (by omega)
  rwa [List.drop_zero] at this
theorem is_l2 (n : Int) (l b : List Int) (hl : l.length ≤ maxLen) (hb : b.length ≤ maxLen) (x4 : Int) (R : Bool) (hR : Ev (fun k => spec_l01Is.l1 k (wrap64 (x4 + 1)) n l) R) :
    ∀ d (j : Nat), b.length - j = d → j ≤ b.length → Ev (fun k => spec_l01Is.l2 k x4 b j n l) (((b.drop j).all fun y => decide (y ∈ l)) && R) := by
  simp only [maxLen] at hb
  intro d
  induction d with
  | zero =>
    intro j hd hj
    refine Ev.step (f := fun k => spec_l01Is.l1 k (wrap64 (x4 + 1)) n l) (fun k => ?_) ?_
    · simp only [spec_l01Is.l2]; rw [if_neg (by omega)]
    · rw [List.drop_eq_nil_of_le (by omega)]; exact hR
  | succ d ih =>
    intro j hd hj
    refine Ev.step (f := fun k => (spec_l01Has.f k n l b[j]).bind fun t => if t = true then spec_l01Is.l2 k x4 b ((j + 1 : Nat) : Int) n l else some false) (fun k => ?_) ?_
    · simp only [spec_l01Is.l2]
      rw [if_pos (by omega), if_pos (by omega), rd_at (show j < b.length by omega), w64 (by omega) (by omega), show ((j + 1 : Nat) : Int) = (j : Int) + 1 by omega]
    · refine Ev.bind (ev_has hl n b[j]) ?_
      rw [List.drop_eq_getElem_cons (show j < b.length by omega), List.all_cons]
      by_cases hm : b[j] ∈ l
      · rw [decide_eq_true hm]
        simp only [if_true, Bool.true_and]
        exact ih (j + 1) (by omega) (by omega)
      · rw [decide_eq_false hm]
        simp only [Bool.false_and]
        exact Ev.now _
theorem borders_len6 {f : Int} : (bordersL f).length ≤ 6 := by
  unfold bordersL
  refine Nat.le_trans (bordersOf_len _ _) ?_
  rw [upto_length]
  exact verts_len f
theorem is_l1 (n : Int) (l : List Int) (hl : l.length ≤ maxLen) (hr : ∀ x ∈ l, 1 ≤ x ∧ x ≤ 63) :
    ∀ d (i : Nat), l.length - i = d → i ≤ l.length → Ev (fun k => spec_l01Is.l1 k i n l) ((l.drop i).all fun f => (bordersL f).all fun y => decide (y ∈ l)) := by
  have hl' := hl
  simp only [maxLen] at hl'
  intro d
  induction d with
  | zero =>
    intro i hd hi
    refine Ev.step (f := fun k => some true) (fun k => ?_) ?_
    · simp only [spec_l01Is.l1]; rw [if_neg (by omega)]
    · rw [List.drop_eq_nil_of_le (by omega)]; exact Ev.now _
  | succ d ih =>
    intro i hd hi
    have hi' : i < l.length := by omega
    refine Ev.step (f := fun k => (spec_l01Below.f k l[i]).bind fun t => spec_l01Is.l2 k i t 0 n l) (fun k => ?_) ?_
    · simp only [spec_l01Is.l1]
      rw [if_pos (by omega), if_pos (by omega), rd_at hi']
    · have hx := hr l[i] (List.getElem_mem hi')
      refine Ev.bind (ev_below hx.1 hx.2) ?_
      have h1 := ih (i + 1) (by omega) (by omega)
      rw [show ((i + 1 : Nat) : Int) = wrap64 ((i : Int) + 1) by rw [w64 (by omega) (by omega)]; omega] at h1
      have h2 := is_l2 n l (bordersL l[i]) hl (by have := @borders_len6 l[i]; simp only [maxLen]; omega) i _ h1 _ 0 rfl (Nat.zero_le _)
      rw [List.drop_zero] at h2
      rw [List.drop_eq_getElem_cons hi', List.all_cons]
      exact h2
theorem is_l0 (n : Int) (h1 : 1 ≤ n) (h6 : n ≤ 6) (l : List Int) (hl : l.length ≤ maxLen) :
    ∀ d (i : Nat), l.length - i = d → i ≤ l.length → (∀ j, j < i → okAt n l j = true) → Ev (fun k => spec_l01Is.l0 k i n l) (ascB n l && closedB l) := by
  have hl' := hl
  simp only [maxLen] at hl'
  have hF := fullZ_le h1 h6
  intro d
  induction d with
  | zero =>
    intro i hd hi hj
    refine Ev.step (f := fun k => spec_l01Is.l1 k 0 n l) (fun k => ?_) ?_
    · simp only [spec_l01Is.l0]; rw [if_neg (by omega)]
    · have ha : ∀ j, j < l.length → okAt n l j = true := fun j h => hj j (by omega)
      rw [ascB_yes ha, Bool.true_and]
      have hr : ∀ x ∈ l, 1 ≤ x ∧ x ≤ 63 := by
        intro x hx
        obtain ⟨j, hj', rfl⟩ := List.mem_iff_getElem.1 hx
        have := ha j hj'
        simp only [okAt, withinB, Bool.and_eq_true, decide_eq_true_eq, List.getElem?_eq_getElem hj', Option.getD_some] at this
        omega
      have := is_l1 n l hl hr l.length 0 (by omega) (Nat.zero_le _)
      rw [List.drop_zero] at this
      exact this
  | succ d ih =>
    intro i hd hi hj
    have hi' : i < l.length := by omega
    refine Ev.step (f := fun k => if okAt n l i = true then spec_l01Is.l0 k ((i + 1 : Nat) : Int) n l else some false) (fun k => ?_) ?_
    · simp only [spec_l01Is.l0]
      rw [if_pos (by omega), if_pos (by omega), all_eq h1 h6]
      simp only [Option.bind_some, in_eq, rd_at hi']
      have hg : l[i]?.getD 0 = l[i] := by rw [List.getElem?_eq_getElem hi']; rfl
      unfold okAt
      rw [hg]
      rw [show wrap64 ((i : Int) + 1) = ((i + 1 : Nat) : Int) by rw [w64 (by omega) (by omega)]; omega]
      cases hw : withinB l[i] 1 (fullZ n) with
      | false => simp
      | true =>
        simp only [if_true, Bool.true_and]
        rcases Nat.eq_zero_or_pos i with hz | hz
        · subst hz; simp
        · have hp : l[i - 1]?.getD 0 = l[i - 1] := by rw [List.getElem?_eq_getElem (by omega)]; rfl
          have hb : (i == 0) = false := by simp; omega
          rw [if_pos (by omega), w64 (by omega) (by omega), if_pos (by omega), if_pos (by omega), hp, hb, Bool.false_or, show ((i : Int) - 1) = ((i - 1 : Nat) : Int) by omega, rd_at (show i - 1 < l.length by omega)]
          by_cases hle : l[i] ≤ l[i - 1]
          · rw [if_pos hle, decide_eq_false (by omega)]; simp
          · rw [if_neg hle, decide_eq_true (by omega)]; simp
    · cases ho : okAt n l i with
      | true =>
        simp only [if_true]
        exact ih (i + 1) (by omega) (by omega) (okAt_next hj ho)
      | false =>
        rw [ascB_no hi' ho]
        simp only [Bool.false_and]
        exact Ev.now _
/-- IsComplex, the reference's. -/
theorem ev_is (n : Int) {l : List Int} (hl : l.length ≤ maxLen) : Ev (fun k => spec_l01Is.f k n l) (isC n l) := by
  unfold spec_l01Is.f isC
  simp only [in_eq, Option.bind_some]
  cases hw : withinB n 1 6 with
  | false => simp only [Bool.false_and]; exact Ev.now _
  | true =>
    simp only [if_true, Bool.true_and]
    have hn : 1 ≤ n ∧ n ≤ 6 := by simpa [withinB] using hw
    exact is_l0 n hn.1 hn.2 l hl l.length 0 (by omega) (Nat.zero_le _) (fun j hj => absurd hj (Nat.not_lt_zero _))
end Go.Proofs.Ytnmhnkpijjmhjaa.Pu
namespace Go.Proofs.Ytnmhnkpijjmhjaa.Pu
set_option linter.unusedVariables false
set_option linter.unusedSimpArgs false
open Go.RowKit Go.Proofs.Ytnmhnkpijjmhjaa.QS Go.Proofs.Ytnmhnkpijjmhjaa.Im Go.Proofs.YtnmhnkpijjmhjaaW.PrintWords Go.Proofs.YtnmhnkpijjmhjaaW.PrintLast Go.Proofs.YtnmhnkpijjmhjaaW.PrintMore
theorem ones_all : ((List.range 64).all fun f => spec_l01Ones.f 8 (f : Int) == some (onesZ (f : Int))) = true := by decide +kernel
theorem ev_ones {x : Int} (h0 : 0 ≤ x) (h6 : x ≤ 63) : Ev (fun k => spec_l01Ones.f k x) (onesZ x) := by
  obtain ⟨m, rfl⟩ := Int.eq_ofNat_of_zero_le h0
  exact Ev.of (fun k => spec_l01Ones.mono _ k) (eq_of_beq (List.all_eq_true.1 ones_all m (List.mem_range.2 (by omega))))
theorem ones_le (x : Int) : 0 ≤ onesZ x ∧ onesZ x ≤ 6 := by
  have : (verts x).length ≤ 6 := verts_len x
  unfold onesZ; omega
def overP (f x : Int) : Bool := Go.bits .and .i64 x f == f && onesZ x == onesZ f + 1
theorem above_loop (n f : Int) (hf : 0 ≤ f ∧ f ≤ 63) (l : List Int) (hl : l.length ≤ 64) (hr : ∀ x ∈ l, 1 ≤ x ∧ x ≤ 63) : ∀ d (i : Nat) (acc : List Int), l.length - i = d → i ≤ l.length → acc.length ≤ i →
    Ev (fun k => spec_l01Above.l0 k f acc i n l) (acc ++ (l.drop i).filter (overP f)) := by
  intro d
  induction d with
  | zero =>
    intro i acc hd hi ha
    rw [List.drop_eq_nil_of_le (by omega), List.filter_nil, List.append_nil]
    refine Ev.step (f := fun k => some acc) (fun k => ?_) (Ev.now _)
    simp only [spec_l01Above.l0]; rw [if_neg (by omega)]
  | succ d ih =>
    intro i acc hd hi ha
    have hi' : i < l.length := by omega
    have hx := hr _ (List.getElem_mem hi')
    have hw : wrap64 ((i : Int) + 1) = ((i + 1 : Nat) : Int) := by rw [w64 (by omega) (by omega)]; omega
    rw [List.drop_eq_getElem_cons hi']
    by_cases hc : Go.bits .and .i64 l[i] f = f
    · refine Ev.step (f := fun k => (spec_l01Ones.f k l[i]).bind fun t262 => ((spec_l01Ones.f k f).bind fun t263 => (if t262 = (wrap64 (t263 + 1)) then (spec_l01Above.l0 k f (acc ++ [l[i]]) ((i + 1 : Nat) : Int) n l) else (spec_l01Above.l0 k f acc ((i + 1 : Nat) : Int) n l)))) (fun k => ?_) ?_
      · simp only [spec_l01Above.l0]
        rw [if_pos (by omega), if_pos (by omega), rd_at hi', if_pos hc, hw]
        simp only [if_pos (show acc.length < 17592186044416 by omega)]
      · refine Ev.bind (ev_ones (by omega) (by omega)) ?_
        refine Ev.bind (ev_ones hf.1 hf.2) ?_
        have h1 := ones_le f
        rw [w64 (by omega) (by omega)]
        by_cases ho : onesZ l[i] = onesZ f + 1
        · simp only [if_pos ho]
          rw [List.filter_cons_of_pos (by simp [overP, hc, ho])]
          have := ih (i + 1) (acc ++ [l[i]]) (by omega) (by omega) (by rw [List.length_append]; simp; omega)
          rw [List.append_assoc] at this
          exact this
        · simp only [if_neg ho]
          rw [List.filter_cons_of_neg (by simp [overP, ho])]
          exact ih (i + 1) acc (by omega) (by omega) (by omega)
    · refine Ev.step (f := fun k => spec_l01Above.l0 k f acc ((i + 1 : Nat) : Int) n l) (fun k => ?_) ?_
      · simp only [spec_l01Above.l0]
        rw [if_pos (by omega), if_pos (by omega), rd_at hi', if_neg hc, hw]
      · rw [List.filter_cons_of_neg (by simp [overP, hc])]
        exact ih (i + 1) acc (by omega) (by omega) (by omega)
theorem ev_above (n f : Int) (hf : 0 ≤ f ∧ f ≤ 63) {l : List Int} (hl : l.length ≤ 64) (hr : ∀ x ∈ l, 1 ≤ x ∧ x ≤ 63) : Ev (fun k => spec_l01Above.f k n l f) (l.filter (overP f)) := by
  have := above_loop n f hf l hl hr _ 0 [] rfl (Nat.zero_le _) (by simp)
  rw [List.drop_zero, List.nil_append] at this
  exact this
/-- A face above another, by more than one vertex: a border of it lies above, too. -/
theorem down_all : ((List.range 64).all fun g => (List.range 64).all fun f => f == 0 || !(inB (f : Int) (g : Int)) || overP (f : Int) (g : Int) || (bordersL (g : Int)).any fun h => inB (f : Int) h && decide (1 ≤ h) && decide (h < (g : Int))) = true := by decide +kernel
theorem over_all : ((List.range 64).all fun g => (List.range 64).all fun f => !(overP (f : Int) (g : Int)) || inB (f : Int) (g : Int)) = true := by decide +kernel
theorem over_in {f g : Int} (hf : 0 ≤ f ∧ f ≤ 63) (hg : 0 ≤ g ∧ g ≤ 63) (h : overP f g = true) : inB f g = true := by
  obtain ⟨a, rfl⟩ := Int.eq_ofNat_of_zero_le hf.1
  obtain ⟨b, rfl⟩ := Int.eq_ofNat_of_zero_le hg.1
  have h2 := List.all_eq_true.1 (List.all_eq_true.1 over_all b (List.mem_range.2 (by omega))) a (List.mem_range.2 (by omega))
  rw [h] at h2
  simpa using h2
theorem in_over {l : List Int} (hc : closedB l = true) (hr : ∀ x ∈ l, 1 ≤ x ∧ x ≤ 63) {f : Int} (hf : 1 ≤ f ∧ f ≤ 63) : ∀ (G : Nat) (g : Int), g.toNat ≤ G → g ∈ l → inB f g = true → ∃ h ∈ l, overP f h = true := by
  intro G
  induction G with
  | zero => intro g hG hg _; have := hr g hg; omega
  | succ G ih =>
    intro g hG hg hi
    have hgr := hr g hg
    by_cases ho : overP f g = true
    · exact ⟨g, hg, ho⟩
    · obtain ⟨a, rfl⟩ := Int.eq_ofNat_of_zero_le (show 0 ≤ f by omega)
      obtain ⟨b, rfl⟩ := Int.eq_ofNat_of_zero_le (show 0 ≤ g by omega)
      have h2 := List.all_eq_true.1 (List.all_eq_true.1 down_all b (List.mem_range.2 (by omega))) a (List.mem_range.2 (by omega))
      have ha : (a == 0) = false := by simp; omega
      rw [ha, hi, Bool.eq_false_iff.2 ho] at h2
      simp only [Bool.not_true, Bool.or_false, Bool.false_or] at h2
      obtain ⟨h, hh, hp⟩ := List.any_eq_true.1 h2
      simp only [Bool.and_eq_true, decide_eq_true_eq] at hp
      have hcl := of_decide_eq_true (List.all_eq_true.1 (List.all_eq_true.1 hc _ hg) h hh)
      exact ih h (by omega) hcl hp.1.1
theorem above_bigger {n : Int} {l : List Int} (hi : isC n l = true) {f : Int} (hf : f ∈ l) : ((l.filter (overP f)).length : Int) = 0 ↔ biggerB l f = false := by
  have hr := isC_63 hi
  obtain ⟨_, _, hc⟩ := isC_of hi
  constructor
  · intro h
    have h0 : l.filter (overP f) = [] := List.eq_nil_of_length_eq_zero (by omega)
    cases hb : biggerB l f with
    | false => rfl
    | true =>
      obtain ⟨g, hg, hp⟩ := List.any_eq_true.1 hb
      obtain ⟨h, hh, ho⟩ := in_over hc hr (hr f hf) _ g (Nat.le_refl _) hg hp
      have : h ∈ l.filter (overP f) := List.mem_filter.2 ⟨hh, ho⟩
      rw [h0] at this
      cases this
  · intro hb
    have : l.filter (overP f) = [] := by
      refine List.filter_eq_nil_iff.2 fun x hx ho => ?_
      have hx2 := hr x hx
      have hf2 := hr f hf
      have := over_in (f := f) (g := x) (by omega) (by omega) ho
      have h3 := List.any_eq_false.1 hb x hx
      exact h3 this
    rw [this]; rfl
theorem facets_loop {n : Int} {l : List Int} (hi : isC n l = true) : ∀ d (i : Nat) (acc : List Int), l.length - i = d → i ≤ l.length → acc.length ≤ i →
    Ev (fun k => spec_l01Facets.l0 k acc i n l) (acc ++ (l.drop i).filter (fun x => !biggerB l x)) := by
  have hl := isC_len hi
  have hr := isC_63 hi
  intro d
  induction d with
  | zero =>
    intro i acc hd hi ha
    rw [List.drop_eq_nil_of_le (by omega), List.filter_nil, List.append_nil]
    refine Ev.step (f := fun k => some acc) (fun k => ?_) (Ev.now _)
    simp only [spec_l01Facets.l0]; rw [if_neg (by omega)]
  | succ d ih =>
    intro i acc hd hii ha
    have hi' : i < l.length := by omega
    have hx := hr _ (List.getElem_mem hi')
    have hw : wrap64 ((i : Int) + 1) = ((i + 1 : Nat) : Int) := by rw [w64 (by omega) (by omega)]; omega
    rw [List.drop_eq_getElem_cons hi']
    refine Ev.step (f := fun k => (spec_l01Above.f k n l l[i]).bind fun t273 => (if (t273.length : Int) = 0 then (spec_l01Facets.l0 k (acc ++ [l[i]]) ((i + 1 : Nat) : Int) n l) else (spec_l01Facets.l0 k acc ((i + 1 : Nat) : Int) n l))) (fun k => ?_) ?_
    · simp only [spec_l01Facets.l0]
      rw [if_pos (by omega), if_pos (by omega), rd_at hi', hw]
      simp only [if_pos (show acc.length < 17592186044416 by omega)]
    · refine Ev.bind (ev_above n l[i] (by omega) hl hr) ?_
      have hab := above_bigger hi (List.getElem_mem hi')
      cases hb : biggerB l l[i] with
      | false =>
        simp only [if_pos (hab.2 hb)]
        rw [List.filter_cons_of_pos (by simp [hb])]
        have := ih (i + 1) (acc ++ [l[i]]) (by omega) (by omega) (by rw [List.length_append]; simp; omega)
        rw [List.append_assoc] at this
        exact this
      | true =>
        simp only [if_neg (fun h => by have := hab.1 h; rw [hb] at this; cases this)]
        rw [List.filter_cons_of_neg (by simp [hb])]
        exact ih (i + 1) acc (by omega) (by omega) (by omega)
theorem ev_facets {n : Int} {l : List Int} (hi : isC n l = true) : Ev (fun k => spec_l01Facets.f k n l) (facetsL l) := by
  have := facets_loop hi _ 0 [] rfl (Nat.zero_le _) (by simp)
  rw [List.drop_zero, List.nil_append] at this
  exact this
end Go.Proofs.Ytnmhnkpijjmhjaa.Pu
namespace Go.Proofs.Ytnmhnkpijjmhjaa.Pu
set_option linter.unusedVariables false
set_option linter.unusedSimpArgs false
open Go.RowKit Go.Proofs.Ytnmhnkpijjmhjaa.QS Go.Proofs.Ytnmhnkpijjmhjaa.Im Go.Proofs.YtnmhnkpijjmhjaaW.PrintWords Go.Proofs.YtnmhnkpijjmhjaaW.PrintLast Go.Proofs.YtnmhnkpijjmhjaaW.PrintMore
theorem fold_max (g : Int → Int) : ∀ (l : List Int) (a : Int), a ≤ l.foldl (fun a x => max a (g x)) a ∧ (∀ x ∈ l, g x ≤ l.foldl (fun a x => max a (g x)) a) ∧ (l.foldl (fun a x => max a (g x)) a = a ∨ ∃ x ∈ l, g x = l.foldl (fun a x => max a (g x)) a)
  | [], a => ⟨Int.le_refl _, fun x hx => (by cases hx), .inl rfl⟩
  | y :: l, a => by
    obtain ⟨h1, h2, h3⟩ := fold_max g l (max a (g y))
    rw [List.foldl_cons]
    refine ⟨by omega, fun x hx => ?_, ?_⟩
    · rcases List.mem_cons.1 hx with rfl | hx
      · omega
      · exact h2 x hx
    · rcases h3 with h3 | ⟨x, hx, h3⟩
      · by_cases hm : max a (g y) = a
        · exact .inl (h3.trans hm)
        · exact .inr ⟨y, List.mem_cons_self, by omega⟩
      · exact .inr ⟨x, List.mem_cons_of_mem _ hx, h3⟩
theorem top_facet {n : Int} {l : List Int} (hi : isC n l = true) (hne : l ≠ []) : ∃ x ∈ facetsL l, onesZ x - 1 = dimL l := by
  have hr := isC_63 hi
  obtain ⟨_, _, hc⟩ := isC_of hi
  obtain ⟨h1, h2, h3⟩ := fold_max (fun x => onesZ x - 1) l (-1)
  have ht : ∃ x ∈ l, onesZ x - 1 = dimL l := by
    rcases h3 with h3 | h3
    · obtain ⟨y, r, rfl⟩ := List.exists_cons_of_ne_nil hne
      have h4 := h2 y List.mem_cons_self
      have h5 := ones_le y
      exact ⟨y, List.mem_cons_self, by unfold dimL; rw [h3] at h4 ⊢; omega⟩
    · exact h3
  obtain ⟨x, hx, hd⟩ := ht
  refine ⟨x, List.mem_filter.2 ⟨hx, ?_⟩, hd⟩
  cases hb : biggerB l x with
  | false => rfl
  | true =>
    exfalso
    obtain ⟨g, hg, hp⟩ := List.any_eq_true.1 hb
    obtain ⟨h, hh, ho⟩ := in_over hc hr (hr x hx) _ g (Nat.le_refl _) hg hp
    have h4 := h2 h hh
    simp only [overP, Bool.and_eq_true] at ho
    have h5 := eq_of_beq ho.2
    unfold dimL at hd
    omega
theorem pure_eq {n : Int} {l : List Int} (hi : isC n l = true) : ((facetsL l).all fun x => onesZ x == onesZ ((facetsL l)[0]?.getD 0)) = pureB l := by
  unfold pureB
  by_cases hne : l = []
  · subst hne; rfl
  · obtain ⟨y, hy, hd⟩ := top_facet hi hne
    have hpos : 0 < (facetsL l).length := List.length_pos_of_mem hy
    have h0 : (facetsL l)[0]?.getD 0 ∈ facetsL l := by rw [List.getElem?_eq_getElem hpos]; exact List.getElem_mem hpos
    rw [Bool.eq_iff_iff, List.all_eq_true, List.all_eq_true]
    constructor
    · intro h x hx
      have h1 := eq_of_beq (h x hx)
      have h2 := eq_of_beq (h y hy)
      unfold pureP
      rw [h1, ← h2, hd]; exact beq_self_eq_true _
    · intro h x hx
      have h1 := eq_of_beq (h x hx)
      have h2 := eq_of_beq (h _ h0)
      have : onesZ x = onesZ ((facetsL l)[0]?.getD 0) := by omega
      rw [this]; exact beq_self_eq_true _
theorem pure_loop (fs : List Int) (hl : fs.length ≤ 64) (hr : ∀ x ∈ fs, 1 ≤ x ∧ x ≤ 63) : ∀ d (i : Nat), fs.length - i = d → i ≤ fs.length →
    Ev (fun k => spec_l07Pure.l0 k fs i) ((fs.drop i).all fun x => onesZ x == onesZ (fs[0]?.getD 0)) := by
  intro d
  induction d with
  | zero =>
    intro i hd hi
    rw [List.drop_eq_nil_of_le (by omega)]
    refine Ev.step (f := fun k => some true) (fun k => ?_) (Ev.now _)
    simp only [spec_l07Pure.l0]; rw [if_neg (by omega)]
  | succ d ih =>
    intro i hd hi
    have hi' : i < fs.length := by omega
    have h0' : 0 < fs.length := by omega
    have hx := hr _ (List.getElem_mem hi')
    have hx0 := hr _ (List.getElem_mem h0')
    have hw : wrap64 ((i : Int) + 1) = ((i + 1 : Nat) : Int) := by rw [w64 (by omega) (by omega)]; omega
    have hR0 : rd fs 0 = fs[0] := rd_at (i := 0) h0'
    have hg0 : fs[0]?.getD 0 = fs[0] := by rw [List.getElem?_eq_getElem h0']; rfl
    rw [List.drop_eq_getElem_cons hi', List.all_cons, hg0]
    refine Ev.step (f := fun k => (spec_l01Ones.f k fs[i]).bind fun t285 => ((spec_l01Ones.f k fs[0]).bind fun t287 => (if t285 = t287 then (spec_l07Pure.l0 k fs ((i + 1 : Nat) : Int)) else (some false)))) (fun k => ?_) ?_
    · simp only [spec_l07Pure.l0]
      rw [if_pos (by omega), if_pos (by omega), rd_at hi', hw, hR0]
      simp only [if_pos (show (0 : Int) < (fs.length : Int) by omega)]
    · refine Ev.bind (ev_ones (by omega) (by omega)) ?_
      refine Ev.bind (ev_ones (by omega) (by omega)) ?_
      by_cases ho : onesZ fs[i] = onesZ fs[0]
      · simp only [if_pos ho]
        have := ih (i + 1) (by omega) (by omega)
        rw [hg0] at this
        rw [beq_iff_eq.2 ho, Bool.true_and]
        exact this
      · simp only [if_neg ho]
        rw [beq_eq_false_iff_ne.2 ho, Bool.false_and]
        exact Ev.now _
theorem ev_dim {n : Int} {l : List Int} (hi : isC n l = true) : Ev (fun k => spec_l01Dim.f k n l) (dimL l) := by
  have hl := isC_len hi
  have hr := isC_63 hi
  have key : ∀ d (i : Nat) (a : Int), l.length - i = d → i ≤ l.length → Ev (fun k => spec_l01Dim.l0 k a i n l) ((l.drop i).foldl (fun a x => max a (onesZ x - 1)) a) := by
    intro d
    induction d with
    | zero =>
      intro i a hd hi
      rw [List.drop_eq_nil_of_le (by omega)]
      refine Ev.step (f := fun k => some a) (fun k => ?_) (Ev.now _)
      simp only [spec_l01Dim.l0]; rw [if_neg (by omega)]
    | succ d ih =>
      intro i a hd hi
      have hi' : i < l.length := by omega
      have hx := hr _ (List.getElem_mem hi')
      have h1 := ones_le l[i]
      rw [List.drop_eq_getElem_cons hi', List.foldl_cons]
      refine Ev.step (f := fun k => (spec_l01Ones.f k l[i]).bind fun t320 => (spec_l01Dim.l0 k (mx a (wrap64 (t320 - 1))) ((i + 1 : Nat) : Int) n l)) (fun k => ?_) ?_
      · simp only [spec_l01Dim.l0]
        rw [if_pos (by omega), if_pos (by omega), rd_at hi', show wrap64 ((i : Int) + 1) = ((i + 1 : Nat) : Int) by rw [w64 (by omega) (by omega)]; omega]
      · refine Ev.bind (ev_ones (by omega) (by omega)) ?_
        rw [w64 (by omega) (by omega), show mx a (onesZ l[i] - 1) = max a (onesZ l[i] - 1) by unfold mx; split <;> omega]
        exact ih (i + 1) _ (by omega) (by omega)
  exact key _ 0 (-1) rfl (Nat.zero_le _)
theorem ev_ofZ {n : Int} {l : List Int} (hi : isC n l = true) (j : Int) (hj : -10 ≤ j ∧ j ≤ 100) : Ev (fun k => spec_l01Of.f k n l j) (ofL l j) := by
  have hl := isC_len hi
  have hr := isC_63 hi
  have key : ∀ d (i : Nat) (acc : List Int), l.length - i = d → i ≤ l.length → acc.length ≤ i → Ev (fun k => spec_l01Of.l0 k j acc i n l) (acc ++ (l.drop i).filter fun x => onesZ x - 1 == j) := by
    intro d
    induction d with
    | zero =>
      intro i acc hd hi ha
      rw [List.drop_eq_nil_of_le (by omega), List.filter_nil, List.append_nil]
      refine Ev.step (f := fun k => some acc) (fun k => ?_) (Ev.now _)
      simp only [spec_l01Of.l0]; rw [if_neg (by omega)]
    | succ d ih =>
      intro i acc hd hi ha
      have hi' : i < l.length := by omega
      have hx := hr _ (List.getElem_mem hi')
      have hwj : wrap64 (j + 1) = j + 1 := w64 (by omega) (by omega)
      rw [List.drop_eq_getElem_cons hi']
      refine Ev.step (f := fun k => (spec_l01Ones.f k l[i]).bind fun t326 => (if t326 = j + 1 then (spec_l01Of.l0 k j (acc ++ [l[i]]) ((i + 1 : Nat) : Int) n l) else (spec_l01Of.l0 k j acc ((i + 1 : Nat) : Int) n l))) (fun k => ?_) ?_
      · simp only [spec_l01Of.l0]
        rw [if_pos (by omega), if_pos (by omega), rd_at hi', show wrap64 ((i : Int) + 1) = ((i + 1 : Nat) : Int) by rw [w64 (by omega) (by omega)]; omega, hwj]
        simp only [if_pos (show acc.length < 17592186044416 by omega)]
      · refine Ev.bind (ev_ones (by omega) (by omega)) ?_
        by_cases ho : onesZ l[i] = j + 1
        · simp only [if_pos ho]
          rw [List.filter_cons_of_pos (by simp [ho])]
          have := ih (i + 1) (acc ++ [l[i]]) (by omega) (by omega) (by rw [List.length_append]; simp; omega)
          rw [List.append_assoc] at this
          exact this
        · simp only [if_neg ho]
          rw [List.filter_cons_of_neg (by simp; omega)]
          exact ih (i + 1) acc (by omega) (by omega) (by omega)
  have := key _ 0 [] rfl (Nat.zero_le _) (by simp)
  rw [List.drop_zero, List.nil_append] at this
  exact this
theorem ev_pure {n : Int} {l : List Int} (hi : isC n l = true) : Ev (fun k => spec_l07Pure.f k n l) (pureB l) := by
  unfold spec_l07Pure.f
  have hr := isC_63 hi
  have hp := pure_loop (facetsL l) (Nat.le_trans (List.length_filter_le _ _) (isC_len hi)) (fun x hx => hr x (List.mem_filter.1 hx).1) _ 0 rfl (Nat.zero_le _)
  rw [List.drop_zero, pure_eq hi] at hp
  exact Ev.bind (f := fun k t => spec_l07Pure.l0 k t 0) (ev_facets hi) hp
theorem sub_all : ((List.range 64).all fun f => (List.range 64).all fun g => (Go.bits .andNot .i64 (f : Int) (g : Int) == 0) == (Go.bits .and .i64 (g : Int) (f : Int) == (f : Int))) = true := by decide +kernel
theorem sub_eq {f g : Int} (hf : 0 ≤ f ∧ f ≤ 63) (hg : 0 ≤ g ∧ g ≤ 63) : (Go.bits .andNot .i64 f g == 0) = (Go.bits .and .i64 g f == f) := by
  obtain ⟨a, rfl⟩ := Int.eq_ofNat_of_zero_le hf.1
  obtain ⟨b, rfl⟩ := Int.eq_ofNat_of_zero_le hg.1
  exact eq_of_beq (List.all_eq_true.1 (List.all_eq_true.1 sub_all a (List.mem_range.2 (by omega))) b (List.mem_range.2 (by omega)))
theorem dim_max {l : List Int} {x : Int} (hx : x ∈ l) : onesZ x - 1 ≤ dimL l := (fold_max (fun x => onesZ x - 1) l (-1)).2.1 x hx
theorem max_facet {n : Int} {l : List Int} (hi : isC n l = true) {g : Int} (hg : g ∈ l) (hd : onesZ g - 1 = dimL l) : biggerB l g = false := by
  refine (above_bigger hi hg).1 ?_
  cases hL : l.filter (overP g) with
  | nil => rfl
  | cons h r =>
    exfalso
    have hm : h ∈ l.filter (overP g) := by rw [hL]; simp
    obtain ⟨h1, h2⟩ := List.mem_filter.1 hm
    simp only [overP, Bool.and_eq_true, beq_iff_eq] at h2
    have := dim_max h1
    omega
theorem pure_around {n : Int} {l : List Int} (hi : isC n l = true) (hp : pureB l = true) {f : Int} (hf : 0 ≤ f ∧ f ≤ 63) (hd : onesZ f = dimL l) : faroundZ l f = ((l.filter (overP f)).length : Int) := by
  unfold faroundZ facetsL
  rw [List.filter_filter]
  congr 2
  refine List.filter_congr fun g hg => ?_
  have hr := isC_63 hi g hg
  rw [sub_eq hf (by omega)]
  unfold overP
  cases hs : Go.bits .and .i64 g f == f with
  | false => simp
  | true =>
    simp only [Bool.true_and]
    by_cases ho : onesZ g = onesZ f + 1
    · rw [max_facet hi hg (by omega)]; simp [ho]
    · cases hb : biggerB l g with
      | true => simp [ho]
      | false =>
        exfalso
        have := List.all_eq_true.1 hp g (List.mem_filter.2 ⟨hg, by rw [hb]; rfl⟩)
        have := eq_of_beq this
        omega
end Go.Proofs.Ytnmhnkpijjmhjaa.Pu
namespace Go.Proofs.Ytnmhnkpijjmhjaa.QS
open Go.Proofs.Ytnmhnkpijjmhjaa.Kp Go.Proofs.Ytnmhnkpijjmhjaa.Ext Go.RowKit Go.Proofs.YtnmhnkpijjmhjaaW.PrintWords Go.Proofs.YtnmhnkpijjmhjaaW.PrintLast Go.Proofs.YtnmhnkpijjmhjaaW.PrintMore
attribute [local go_sem] max2_int min2_int max_two min_two max_three min_three max_four min_four   -- for this text's walks alone
set_option linter.unusedVariables false
set_option linter.unusedSimpArgs false
def spec_l01Take.l0 : Nat → Int → Int → Int → List Int → Int → List Int → Option (Int × List Int)
  | 0, _, _, _, _, _, _ => none
  | k + 1, x1, x6, x157000, x157001, x162000, x162001 => if x6 < (x157001.length : Int) then (if 0 ≤ x6 then (if (Go.bits .and .i64 (rd x157001 x6) x1) = x1 then (spec_l01Take.l0 k x1 (wrap64 (x6 + 1)) x157000 x157001 x162000 x162001) else (if x162001.length < 17592186044416 then (spec_l01Take.l0 k x1 (wrap64 (x6 + 1)) x157000 x157001 x162000 (x162001 ++ [rd x157001 x6])) else (none))) else (none)) else (some (x162000, x162001))
def spec_l01Take.f (k : Nat) (a0_0 : Int) (l0_1 : List Int) (a1 : Int) : Option (Int × List Int) := spec_l01Take.l0 k a1 0 a0_0 l0_1 a0_0 (([] : List Int))
theorem spec_l01Take.mono_l : ∀ k, (∀ y0 y1 y2 y3 y4 y5, LeO (spec_l01Take.l0 k y0 y1 y2 y3 y4 y5) (spec_l01Take.l0 (k + 1) y0 y1 y2 y3 y4 y5))
  | 0 => fun _ _ _ _ _ _ r h => by simp [spec_l01Take.l0] at h
  | k + 1 => by
    have ih0 := spec_l01Take.mono_l k
    · intro y0 y1 y2 y3 y4 y5
      unfold spec_l01Take.l0
      repeat' first
      | (with_reducible exact ih0 _ _ _ _ _ _)
      | (with_reducible exact LeO.refl _)
      | (with_reducible exact LeO.none _)
      | (with_reducible refine LeO.ite ?_ ?_)
      | (with_reducible refine LeO.bind ?_ (fun _ => ?_))
      | exact ih0 _ _ _ _ _ _
      | exact LeO.none _
      | refine LeO.ite ?_ ?_
      | refine LeO.bind ?_ (fun _ => ?_)
theorem spec_l01Take.mono : ∀ a0 a1 a2 k, LeO (spec_l01Take.f k a0 a1 a2) (spec_l01Take.f (k + 1) a0 a1 a2) := by
  intro a0 a1 a2 k
  have ih0 := spec_l01Take.mono_l k
  unfold spec_l01Take.f
  repeat' first
      | (with_reducible exact ih0 _ _ _ _ _ _)
      | (with_reducible exact LeO.refl _)
      | (with_reducible exact LeO.none _)
      | (with_reducible refine LeO.ite ?_ ?_)
      | (with_reducible refine LeO.bind ?_ (fun _ => ?_))
      | exact ih0 _ _ _ _ _ _
      | exact LeO.none _
      | refine LeO.ite ?_ ?_
      | refine LeO.bind ?_ (fun _ => ?_)
def spec_l01Take.T6 : Bool × List (List Nat × List Nat) := (true, [([], []), ([0], [0]), ([], []), ([2], [2]), ([], []), ([3, 4], [3, 4]), ([5], [5]), ([6], [6]), ([1, 7], [1, 7]), ([0, 1, 2, 3, 4, 5, 6, 7, 8], []), ([9, 8, 8, 0, 1, 2, 3, 4, 5, 6, 7, 8], [8, 9])])
def spec_l01Take.B6 : List Nat := [0, 1, 0, 4, 0, 28, 60, 124, 255, 511, 1023]
theorem spec_l01Take.tab6 : rtab .any (opsOf Try.f81 6) = spec_l01Take.T6 := by kernel_rfl
theorem spec_l01Take.bits6 : waitsOk spec_l01Take.T6.2 spec_l01Take.B6 = true := by kernel_rfl
set_option maxHeartbeats 8000000 in
set_option maxRecDepth 100000 in
theorem spec_l01Take.calls (k : Nat) (a0_0 : Int) (A0_1 : Option Addr) (c0_1 : Nat) (l0_1 : List Int) (a1 : Int) (r1 : Int) (r2 : List Int) (w : World) (hr0_1 : Kd.C (Kd.int .i64) w A0_1 l0_1.length l0_1) (hc0_1 : l0_1.length ≤ c0_1) (h : spec_l01Take.f k a0_0 l0_1 a1 = some (r1, r2)) :
    Calls Try.prog 81 #[.agg #[.int .i64 a0_0, .slice A0_1 l0_1.length c0_1], .int .i64 a1] w fun e w' => ∃ v1_ : Value, e = .returned (.agg #[.int .i64 r1, v1_]) ∧ Kd.R (Kd.int .i64) 2 w' w.heap.size (fun _ => True) v1_ r2 ∧ Below w.heap.size w w' := by
  have hu26 := Try.underlying26
  have HR0_1 := Aside0.mk hr0_1
  have HC0_1 := Aside0.mk hc0_1
  clear hr0_1 hc0_1
  have HB := Aside0.mk (Below.refl w.heap.size w)
  have H : (spec_l01Take.l0 k a1 0 a0_0 l0_1 a0_0 (([] : List Int))) = some (r1, r2) := h
  clear h
  obtain ⟨y158, hy158⟩ : ∃ y_ : List Int, y_ = (([] : List Int)) := ⟨_, rfl⟩
  replace H : (spec_l01Take.l0 k a1 0 a0_0 l0_1 a0_0 y158) = some (r1, r2) := by first | (rw [hy158]; with_reducible exact H) | (have H2_ := (Option.bind_some _ _).symm.trans H; rw [hy158]; with_reducible exact H2_) | (have H2_ := (Option.bind_some _ _).symm.trans H; with_reducible exact H2_) | with_reducible exact H | (rw [hy158]; exact H) | exact H
  have Ny158 := Aside0.mk hy158
  clear hy158
  have H' := Aside0.mk H
  clear H
  go_enter Try.func81, Try.ntmps81
  go_wp2_with (first | ((with_reducible refine gate_dst (N := 2) rfl ?_); refine box_event ?hg (N := 2) ?hd (cs := #[.int .i64 a0_0, .slice A0_1 l0_1.length c0_1]) (t := 26) ?hr ?_; (case hd => rfl); (case hg => rfl); (case hr => first | (go_simp; done) | (go_simp; rfl)); intro gb156 hg w3 hbox hb; have n0_ := Aside0.mk (below_step (by repeat (first | (with_reducible first | exact HB.out | apply below_alloc | apply pw_below_drewN | apply below_drew1) | exact HB.out)) hb); have n1_ := Aside0.mk (hbox); have n2_ := Aside0.mk ((by rw [hg]; exact (below_size (by repeat (first | (with_reducible first | exact HB.out | apply below_alloc | apply pw_below_drewN | apply below_drew1) | exact HB.out))) : w.heap.size ≤ gb156)); have n3_ := Aside0.mk ((by rw [hg]; exact (below_size (by repeat (first | (with_reducible first | exact HB.out | apply below_alloc | apply pw_below_drewN | apply below_drew1) | exact HB.out))) : w.heap.size ≤ gb156)); clear HB; have HB := n0_; have BK156 := n1_; have GW156 := n2_; have GE156 := n3_; clear n0_ n1_ n2_ n3_; clear hb hbox hg) | ((with_reducible refine gate_dst (N := 4) rfl ?_); refine box_event ?hg (N := 4) ?hd (cs := #[.int .i64 0, .slice none 0 0]) (t := 26) ?hr ?_; (case hd => rfl); (case hg => rfl); (case hr => first | (go_simp; done) | (go_simp; rfl)); intro gb157 hg w4 hbox hb; have n0_ := Aside0.mk (blk_below (g := gb156) (o := .cells #[.int .i64 a0_0, .slice A0_1 l0_1.length c0_1] 26 (0, 0)) (by (with_reducible repeat (first | refine blk_drewN ?_ _ | refine blk_drew ?_ | refine blk_alloc ?_ _)); exact BK156.out) hb); have n1_ := Aside0.mk (below_step (by repeat (first | (with_reducible first | exact HB.out | apply below_alloc | apply pw_below_drewN | apply below_drew1 | refine below_set ?_ GE156.out) | exact HB.out)) hb); have n2_ := Aside0.mk (hbox); have n3_ := Aside0.mk ((by rw [hg]; exact (below_size (by repeat (first | (with_reducible first | exact HB.out | apply below_alloc | apply pw_below_drewN | apply below_drew1 | refine below_set ?_ GE156.out) | exact HB.out))) : w.heap.size ≤ gb157)); have n4_ := Aside0.mk ((by rw [hg]; exact (below_size (by repeat (first | (with_reducible first | exact HB.out | apply below_alloc | apply pw_below_drewN | apply below_drew1 | refine below_set ?_ GE156.out) | exact HB.out))) : w.heap.size ≤ gb157)); have n5_ := Aside0.mk ((by rw [hg]; exact Nat.ne_of_lt (blk_lt (g := gb156) (o := .cells #[.int .i64 a0_0, .slice A0_1 l0_1.length c0_1] 26 (0, 0)) (by (with_reducible repeat (first | refine blk_drewN ?_ _ | refine blk_drew ?_ | refine blk_alloc ?_ _)); exact BK156.out)) : gb156 ≠ gb157)); have n6_ := Aside0.mk ((by rw [hg]; exact Nat.ne_of_gt (blk_lt (g := gb156) (o := .cells #[.int .i64 a0_0, .slice A0_1 l0_1.length c0_1] 26 (0, 0)) (by (with_reducible repeat (first | refine blk_drewN ?_ _ | refine blk_drew ?_ | refine blk_alloc ?_ _)); exact BK156.out)) : gb157 ≠ gb156)); clear BK156; clear HB; have BK156 := n0_; have HB := n1_; have BK157 := n2_; have GW157 := n3_; have GE157 := n4_; have NB156_157 := n5_; have NB157_156 := n6_; clear n0_ n1_ n2_ n3_ n4_ n5_ n6_; clear hb hbox hg; have hnb5 := NB156_157.out; have hnc5 := NB157_156.out; have hcz6_0 : w4.cell? ⟨gb156, 0, none⟩ = some (.int .i64 a0_0) := (blk_cell BK156.out 0).trans rfl; have hcz6_1 : w4.cell? ⟨gb156, 1, none⟩ = some (.slice A0_1 l0_1.length c0_1) := (blk_cell BK156.out 1).trans rfl; have hfz6_0 := blk_frozen BK156.out 0; have hfz6_1 := blk_frozen BK156.out 1) | ((with_reducible refine gate_dst (N := 9) rfl ?_); refine Kd.R_lit (Kd.int .i64) _ 2 ?hg (N := 9) ?hd (xs := ([] : List Int)) (inner := []) (ok := fun _ => True) (okp := fun _ => True) ?hr ?hp (fun _ hk => hk) trivial (Below.refl _ _) (Nat.le_refl _) (by simp) ?_; (case hd => rfl); (case hg => rfl); (case hr => first | (go_simp; done) | (go_simp; rfl)); (case hp => exact (Reps.none _ _)); intro v159 w7 ho8 hb hg_ hnew_; clear hg_ hnew_; (first | rw [← Ny158.out] at ho8 | (simp only [Int.reduceToNat] at ho8; rw [← Ny158.out] at ho8)); have n0_ := Aside0.mk (Kd.R_lower ho8 (below_size (by repeat (first | (with_reducible first | exact HB.out | apply below_alloc | apply pw_below_drewN | apply below_drew1 | refine below_set ?_ GE156.out | refine below_set ?_ GE157.out) | exact HB.out)))); have n1_ := Aside0.mk (blk_below (g := gb156) (o := .cells #[.int .i64 a0_0, .slice A0_1 l0_1.length c0_1] 26 (0, 0)) (by (with_reducible repeat (first | refine blk_drewN ?_ _ | refine blk_drew ?_ | refine blk_alloc ?_ _)); exact BK156.out) hb); have n2_ := Aside0.mk (blk_below (g := gb157) (o := .cells #[.int .i64 0, .slice none 0 0] 26 (0, 0)) (by (with_reducible repeat (first | refine blk_drewN ?_ _ | refine blk_drew ?_ | refine blk_alloc ?_ _)); exact BK157.out) hb); have n3_ := Aside0.mk (below_step (by repeat (first | (with_reducible first | exact HB.out | apply below_alloc | apply pw_below_drewN | apply below_drew1 | refine below_set ?_ GE156.out | refine below_set ?_ GE157.out) | exact HB.out)) hb); clear BK156; clear BK157; clear HB; have HO160 := n0_; have BK156 := n1_; have BK157 := n2_; have HB := n3_; clear n0_ n1_ n2_ n3_; clear hb ho8; obtain ⟨Ao9, co9, eo9⟩ := Kd.R_slice HO160.out; subst eo9) | ((with_reducible refine gate_dst (N := 5) rfl ?_); refine box_event ?hg (N := 5) ?hd (cs := #[.int .i64 0, .slice none 0 0]) (t := 26) ?hr ?_; (case hd => rfl); (case hg => rfl); (case hr => first | (go_simp; done) | (go_simp; rfl)); intro gb161 hg w10 hbox hb; have n0_ := Aside0.mk (Kd.R_below (by (with_reducible repeat (first | apply Kd.R_alloc | apply Kd.R_drewN | apply Kd.R_drew)); exact HO160.out) hb); have n1_ := Aside0.mk (blk_below (g := gb156) (o := .cells #[.int .i64 a0_0, .slice A0_1 l0_1.length c0_1] 26 (0, 0)) (by (with_reducible repeat (first | refine blk_drewN ?_ _ | refine blk_drew ?_ | refine blk_alloc ?_ _)); exact BK156.out) hb); have n2_ := Aside0.mk (blk_below (g := gb157) (o := .cells #[.int .i64 0, .slice none 0 0] 26 (0, 0)) (by (with_reducible repeat (first | refine blk_drewN ?_ _ | refine blk_drew ?_ | refine blk_alloc ?_ _)); exact BK157.out) hb); have n3_ := Aside0.mk (below_step (by repeat (first | (with_reducible first | exact HB.out | apply below_alloc | apply pw_below_drewN | apply below_drew1 | refine below_set ?_ GE156.out | refine below_set ?_ GE157.out) | exact HB.out)) hb); have n4_ := Aside0.mk (hbox); have n5_ := Aside0.mk ((by rw [hg]; exact (below_size (by repeat (first | (with_reducible first | exact HB.out | apply below_alloc | apply pw_below_drewN | apply below_drew1 | refine below_set ?_ GE156.out | refine below_set ?_ GE157.out) | exact HB.out))) : w.heap.size ≤ gb161)); have n6_ := Aside0.mk ((by rw [hg]; exact (below_size (by repeat (first | (with_reducible first | exact HB.out | apply below_alloc | apply pw_below_drewN | apply below_drew1 | refine below_set ?_ GE156.out | refine below_set ?_ GE157.out) | exact HB.out))) : w.heap.size ≤ gb161)); have n7_ := Aside0.mk ((by rw [hg]; exact Nat.ne_of_lt (blk_lt (g := gb156) (o := .cells #[.int .i64 a0_0, .slice A0_1 l0_1.length c0_1] 26 (0, 0)) (by (with_reducible repeat (first | refine blk_drewN ?_ _ | refine blk_drew ?_ | refine blk_alloc ?_ _)); exact BK156.out)) : gb156 ≠ gb161)); have n8_ := Aside0.mk ((by rw [hg]; exact Nat.ne_of_gt (blk_lt (g := gb156) (o := .cells #[.int .i64 a0_0, .slice A0_1 l0_1.length c0_1] 26 (0, 0)) (by (with_reducible repeat (first | refine blk_drewN ?_ _ | refine blk_drew ?_ | refine blk_alloc ?_ _)); exact BK156.out)) : gb161 ≠ gb156)); have n9_ := Aside0.mk ((by rw [hg]; exact Nat.ne_of_lt (blk_lt (g := gb157) (o := .cells #[.int .i64 0, .slice none 0 0] 26 (0, 0)) (by (with_reducible repeat (first | refine blk_drewN ?_ _ | refine blk_drew ?_ | refine blk_alloc ?_ _)); exact BK157.out)) : gb157 ≠ gb161)); have n10_ := Aside0.mk ((by rw [hg]; exact Nat.ne_of_gt (blk_lt (g := gb157) (o := .cells #[.int .i64 0, .slice none 0 0] 26 (0, 0)) (by (with_reducible repeat (first | refine blk_drewN ?_ _ | refine blk_drew ?_ | refine blk_alloc ?_ _)); exact BK157.out)) : gb161 ≠ gb157)); clear HO160; clear BK156; clear BK157; clear HB; have HO160 := n0_; have BK156 := n1_; have BK157 := n2_; have HB := n3_; have BK161 := n4_; have GW161 := n5_; have GE161 := n6_; have NB156_161 := n7_; have NB161_156 := n8_; have NB157_161 := n9_; have NB161_157 := n10_; clear n0_ n1_ n2_ n3_ n4_ n5_ n6_ n7_ n8_ n9_ n10_; clear hb hbox hg; have hnb11 := NB161_156.out; have hnc11 := NB156_161.out; have hnb12 := NB161_157.out; have hnc12 := NB157_161.out; have hcz13_0 : w10.cell? ⟨gb161, 0, none⟩ = some (.int .i64 0) := (blk_cell BK161.out 0).trans rfl; have hcz13_1 : w10.cell? ⟨gb161, 1, none⟩ = some (.slice none 0 0) := (blk_cell BK161.out 1).trans rfl; have hfz13_0 := blk_frozen BK161.out 0; have hfz13_1 := blk_frozen BK161.out 1))
  go_loopg [6] k (fun kq v6 w' => ∃ (x6_1 : Int) (x162001_1 : List Int) (u162001 : Value), v6 = .int .i64 x6_1 ∧ Aside0 (spec_l01Take.l0 kq a1 x6_1 a0_0 l0_1 a0_0 x162001_1 = some (r1, r2)) ∧ Aside0 (kq ≤ k) ∧ Aside0 (Kd.R (Kd.int .i64) 2 w' w.heap.size (fun _ => True) u162001 x162001_1) ∧ Aside0 (w'.heap[gb156]? = some (.cells #[.int .i64 a0_0, (.slice A0_1 l0_1.length c0_1)] 26 (0, 0))) ∧ Aside0 (w'.heap[gb157]? = some (.cells #[.int .i64 0, (.slice none 0 0)] 26 (0, 0))) ∧ Aside0 (w'.heap[gb161]? = some (.cells #[.int .i64 a0_0, u162001] 26 (0, 0))) ∧ Aside0 (Below w.heap.size w w'))
  case atStart => exact ⟨(0), (y158), (.slice Ao9 y158.length co9), (by first | rfl | (simp; done) | (simp [*]; done)), H', ⟨Nat.le_refl _⟩, ⟨by (with_reducible repeat (first | apply Kd.R_alloc | apply Kd.R_drewN | apply Kd.R_drew)); exact Kd.R_mono (Kd.R_far (p := ⟨gb161, 1, none⟩) (Kd.R_far (p := ⟨gb161, 0, none⟩) (Kd.R_types HO160.out BK161.out (by decide)) (fun _ hk => hk.2) (.int .i64 a0_0)) (fun _ hk => hk.2) (.slice Ao9 y158.length co9)) (fun _ hk => trivial)⟩, ⟨by (with_reducible repeat (first | refine blk_drewN ?_ _ | refine blk_drew ?_ | refine blk_alloc ?_ _)); refine blk_far ?_ NB156_161.out _; (with_reducible repeat (first | refine blk_drewN ?_ _ | refine blk_drew ?_ | refine blk_alloc ?_ _)); refine blk_far ?_ NB156_161.out _; (with_reducible repeat (first | refine blk_drewN ?_ _ | refine blk_drew ?_ | refine blk_alloc ?_ _)); exact BK156.out⟩, ⟨by (with_reducible repeat (first | refine blk_drewN ?_ _ | refine blk_drew ?_ | refine blk_alloc ?_ _)); refine blk_far ?_ NB157_161.out _; (with_reducible repeat (first | refine blk_drewN ?_ _ | refine blk_drew ?_ | refine blk_alloc ?_ _)); refine blk_far ?_ NB157_161.out _; (with_reducible repeat (first | refine blk_drewN ?_ _ | refine blk_drew ?_ | refine blk_alloc ?_ _)); exact BK157.out⟩, ⟨by (with_reducible repeat (first | refine blk_drewN ?_ _ | refine blk_drew ?_ | refine blk_alloc ?_ _)); refine blk_put (cs := #[.int .i64 a0_0, .slice none 0 0]) ?_ 1 _ rfl; (with_reducible repeat (first | refine blk_drewN ?_ _ | refine blk_drew ?_ | refine blk_alloc ?_ _)); refine blk_put (cs := #[.int .i64 0, .slice none 0 0]) ?_ 0 _ rfl; (with_reducible repeat (first | refine blk_drewN ?_ _ | refine blk_drew ?_ | refine blk_alloc ?_ _)); exact BK161.out⟩, ⟨by repeat (first | (with_reducible first | exact HB.out | apply below_alloc | apply pw_below_drewN | apply below_drew1 | refine below_set ?_ GE156.out | refine below_set ?_ GE157.out | refine below_set ?_ GE161.out) | exact HB.out)⟩⟩
  case round =>
    clear H'
    try clear c1
    try clear p2
    try clear c5
    try clear c8
    try clear c11
    try clear c12
    try clear hcz13_0
    try clear hcz13_1
    try clear hcz6_0
    try clear hcz6_1
    try clear hfz13_0
    try clear hfz13_1
    try clear hfz6_0
    try clear hfz6_1
    obtain ⟨x6_1, x162001_1, u162001, rfl, HA, HK1, HO_162001, BK156, BK157, BK161, HB⟩ := hrel
    cases gk with
    | zero => exact absurd HA.out (by simp [spec_l01Take.l0])
    | succ k1 =>
      have H := HA.out
      clear HA
      simp only [spec_l01Take.l0] at H
      by_cases c14 : x6_1 < (l0_1.length : Int)
      · rw [if_pos c14] at H
        have c14b0 : decide (x6_1 < (l0_1.length : Int)) = true := decide_eq_true c14
        clear c14
        by_cases c15 : 0 ≤ x6_1
        · rw [if_pos c15] at H
          have c15b0 : decide (0 ≤ x6_1) = true := decide_eq_true c15
          clear c15
          by_cases c16 : (Go.bits .and .i64 (rd l0_1 x6_1) a1) = a1
          · rw [if_pos c16] at H
            have c16b0 : ((Go.bits .and .i64 (rd l0_1 x6_1) a1) == a1) = true := beq_iff_eq.mpr c16
            have c16b1 : ((Go.bits .and .i64 (rd l0_1 x6_1) a1) != a1) = false := bne_eq_false_iff_eq.mpr c16
            clear c16
            have H' := Aside0.mk H
            clear H
            have hnb17 := NB156_157.out
            have hnc17 := NB157_156.out
            have hnb18 := NB156_161.out
            have hnc18 := NB161_156.out
            have hcz19_0 : wr.cell? ⟨gb156, 0, none⟩ = some (.int .i64 a0_0) := (blk_cell BK156.out 0).trans rfl
            have hcz19_1 : wr.cell? ⟨gb156, 1, none⟩ = some (.slice A0_1 l0_1.length c0_1) := (blk_cell BK156.out 1).trans rfl
            have hfz19_0 := blk_frozen BK156.out 0
            have hfz19_1 := blk_frozen BK156.out 1
            have p162 : 0 ≤ (x6_1 : Int) := of_decide_eq_true (by first | (with_reducible assumption) | assumption)
            have q162 : x6_1 < (l0_1.length : Int) := of_decide_eq_true (by first | (with_reducible assumption) | assumption)
            obtain ⟨ad162, e162, hx162_0⟩ := Kd.at_int HR0_1.out x6_1 p162 q162
            cases e162
            replace hx162_0 := (HB.out.cell (World.block_lt_of_cell? w _ hx162_0)).trans hx162_0
            replace p162 := eq_true p162
            replace q162 := eq_true q162
            go_wp2
            go_roundg k1
            case measure => have := HK1.out; omega
            case rel => exact ⟨(wrap64 (x6_1 + 1)), (x162001_1), (u162001), (by first | rfl | (simp; done) | (simp [*]; done)), H', ⟨by have := HK1.out; omega⟩, ⟨by (with_reducible repeat (first | apply Kd.R_alloc | apply Kd.R_drewN | apply Kd.R_drew)); exact HO_162001.out⟩, ⟨by (with_reducible repeat (first | refine blk_drewN ?_ _ | refine blk_drew ?_ | refine blk_alloc ?_ _)); exact BK156.out⟩, ⟨by (with_reducible repeat (first | refine blk_drewN ?_ _ | refine blk_drew ?_ | refine blk_alloc ?_ _)); exact BK157.out⟩, ⟨by (with_reducible repeat (first | refine blk_drewN ?_ _ | refine blk_drew ?_ | refine blk_alloc ?_ _)); exact BK161.out⟩, ⟨by repeat (first | (with_reducible first | exact HB.out | apply below_alloc | apply pw_below_drewN | apply below_drew1 | refine below_set ?_ GE156.out | refine below_set ?_ GE157.out | refine below_set ?_ GE161.out) | exact HB.out)⟩⟩
          · rw [if_neg c16] at H
            have c16b0 : ((Go.bits .and .i64 (rd l0_1 x6_1) a1) == a1) = false := beq_eq_false_iff_ne.mpr c16
            have c16b1 : ((Go.bits .and .i64 (rd l0_1 x6_1) a1) != a1) = true := bne_iff_ne.mpr c16
            by_cases c20 : x162001_1.length < 17592186044416
            · rw [if_pos c20] at H
              have LMc20 := Aside0.mk c20
              clear c20
              obtain ⟨y164, hy164⟩ : ∃ y_ : List Int, y_ = (x162001_1 ++ [rd l0_1 x6_1]) := ⟨_, rfl⟩
              replace H : (spec_l01Take.l0 k1 a1 (wrap64 (x6_1 + 1)) a0_0 l0_1 a0_0 y164) = some (r1, r2) := by first | (rw [hy164]; with_reducible exact H) | (have H2_ := (Option.bind_some _ _).symm.trans H; rw [hy164]; with_reducible exact H2_) | (have H2_ := (Option.bind_some _ _).symm.trans H; with_reducible exact H2_) | with_reducible exact H | (rw [hy164]; exact H) | exact H
              have Ny164 := Aside0.mk hy164
              clear hy164
              have H' := Aside0.mk H
              clear H
              have hnb21 := NB156_157.out
              have hnc21 := NB157_156.out
              have hnb22 := NB156_161.out
              have hnc22 := NB161_156.out
              have hcz23_0 : wr.cell? ⟨gb156, 0, none⟩ = some (.int .i64 a0_0) := (blk_cell BK156.out 0).trans rfl
              have hcz23_1 : wr.cell? ⟨gb156, 1, none⟩ = some (.slice A0_1 l0_1.length c0_1) := (blk_cell BK156.out 1).trans rfl
              have hfz23_0 := blk_frozen BK156.out 0
              have hfz23_1 := blk_frozen BK156.out 1
              have p162 : 0 ≤ (x6_1 : Int) := of_decide_eq_true (by first | (with_reducible assumption) | assumption)
              have q162 : x6_1 < (l0_1.length : Int) := of_decide_eq_true (by first | (with_reducible assumption) | assumption)
              obtain ⟨ad162, e162, hx162_0⟩ := Kd.at_int HR0_1.out x6_1 p162 q162
              cases e162
              replace hx162_0 := (HB.out.cell (World.block_lt_of_cell? w _ hx162_0)).trans hx162_0
              replace p162 := eq_true p162
              replace q162 := eq_true q162
              try go_wp2
              have n0_ := Aside0.mk (Kd.R_drew HO_162001.out)
              have n1_ := Aside0.mk (blk_drew BK156.out)
              have n2_ := Aside0.mk (blk_drew BK157.out)
              have n3_ := Aside0.mk (blk_drew BK161.out)
              have n4_ := Aside0.mk (below_drew1 HB.out)
              clear HO_162001
              clear BK156
              clear BK157
              clear BK161
              clear HB
              have HO_162001 := n0_
              have BK156 := n1_
              have BK157 := n2_
              have BK161 := n3_
              have HB := n4_
              clear n0_ n1_ n2_ n3_ n4_
              have p163 : 0 ≤ (x6_1 : Int) := of_decide_eq_true (by first | (with_reducible assumption) | assumption)
              have q163 : x6_1 < (l0_1.length : Int) := of_decide_eq_true (by first | (with_reducible assumption) | assumption)
              obtain ⟨ad163, e163, hx163_0⟩ := Kd.at_int HR0_1.out x6_1 p163 q163
              have hw163_0 := hx163_0
              obtain rfl : ad162 = ad163 := (by injection e163)
              replace hx163_0 := (HB.out.cell (World.block_lt_of_cell? w _ hx163_0)).trans hx163_0
              replace p163 := eq_true p163
              replace q163 := eq_true q163
              refine start_ (n := 11) (S := fun w' => w'.cell? ⟨gb161, 0, none⟩ = some (.int .i64 a0_0) ∧ w'.cell? ⟨gb161, 1, none⟩ = some (u162001) ∧ w'.cell? ⟨gb156, 0, none⟩ = some (.int .i64 a0_0) ∧ w'.cell? ⟨gb156, 1, none⟩ = some (.slice (some ad162) l0_1.length c0_1) ∧ w'.cell? (ad162.add (x6_1).toNat) = some (.int .i64 (rd l0_1 x6_1))) (ds := [10]) #[false, false, false, false, false, false, false, false, false, false, false] (by kernel_rfl) rfl rfl ⟨(blk_cell BK161.out 0).trans rfl, (blk_cell BK161.out 1).trans rfl, (blk_cell BK156.out 0).trans rfl, (blk_cell BK156.out 1).trans rfl, ((HB.out.cell (World.block_lt_of_cell? w _ hw163_0)).trans hw163_0)⟩ (fun hHeld => ?_); refine with_tabW spec_l01Take.tab6 spec_l01Take.bits6 (fun HT_ HW_ => ?_)
              generalize wr.drew = w24 at HO_162001 BK156 BK157 BK161 HB hx163_0 hHeld ⊢
              refine pure_ (i := 0) (N := some 27) (v := ?_) (a' := ?_) #[true, false, false, false, false, false, false, false, false, false, false] rfl rfl (any_of HT_.out (by kernel_rfl)) (fun _ _ _ h => h) (Or.inl ⟨by rfl, ?_⟩) ?_ ?_
              rotate_left
              · intro w'
                go_simp
                with_reducible rfl
              rotate_left
              · simp only [Act.put, List.setIfInBounds_toArray, List.set_cons_zero, List.set_cons_succ, i64_w, i32_w]
                rfl
              refine pure_ (i := 2) (N := some 29) (v := ?_) (a' := ?_) #[true, false, true, false, false, false, false, false, false, false, false] rfl rfl (any_of HT_.out (by kernel_rfl)) (fun _ _ _ h => h) (Or.inl ⟨by rfl, ?_⟩) ?_ ?_
              rotate_left
              · intro w'
                go_simp
                with_reducible rfl
              rotate_left
              · simp only [Act.put, List.setIfInBounds_toArray, List.set_cons_zero, List.set_cons_succ, i64_w, i32_w]
                rfl
              refine pure_ (i := 4) (N := some 31) (v := ?_) (a' := ?_) #[true, false, true, false, true, false, false, false, false, false, false] rfl rfl (any_of HT_.out (by kernel_rfl)) (fun _ _ _ h => h) (Or.inl ⟨by rfl, ?_⟩) ?_ ?_
              rotate_left
              · intro w'
                go_simp
                with_reducible rfl
              rotate_left
              · simp only [Act.put, List.setIfInBounds_toArray, List.set_cons_zero, List.set_cons_succ, i64_w, i32_w]
                rfl
              refine take_ (i := 1) (N := some 28) (v := ?_) (a' := ?_) #[true, true, true, false, true, false, false, false, false, false, false] rfl rfl (take_ofW HT_.out HW_.out (by kernel_rfl)) (fun _ _ _ h => h) (Or.inl ⟨by rfl, ?_⟩) hHeld ?_ ?_
              rotate_left
              · rintro w' ⟨s0, s1, s2, s3, s4⟩
                go_simp
                with_reducible rfl
              rotate_left
              · simp only [Act.put, List.setIfInBounds_toArray, List.set_cons_zero, List.set_cons_succ, i64_w, i32_w]
                rfl
              refine take_ (i := 3) (N := some 30) (v := ?_) (a' := ?_) #[true, true, true, true, true, false, false, false, false, false, false] rfl rfl (take_ofW HT_.out HW_.out (by kernel_rfl)) (fun _ _ _ h => h) (Or.inl ⟨by rfl, ?_⟩) hHeld ?_ ?_
              rotate_left
              · rintro w' ⟨s0, s1, s2, s3, s4⟩
                go_simp
                with_reducible rfl
              rotate_left
              · simp only [Act.put, List.setIfInBounds_toArray, List.set_cons_zero, List.set_cons_succ, i64_w, i32_w]
                rfl
              refine pure_ (i := 5) (N := some 32) (v := ?_) (a' := ?_) #[true, true, true, true, true, true, false, false, false, false, false] rfl rfl (any_of HT_.out (by kernel_rfl)) (fun _ _ _ h => h) (Or.inl ⟨by rfl, ?_⟩) ?_ ?_
              rotate_left
              · intro w'
                go_simp
                with_reducible rfl
              rotate_left
              · simp only [Act.put, List.setIfInBounds_toArray, List.set_cons_zero, List.set_cons_succ, i64_w, i32_w]
                rfl
              refine take_ (i := 6) (N := some 33) (v := ?_) (a' := ?_) #[true, true, true, true, true, true, true, false, false, false, false] rfl rfl (take_ofW HT_.out HW_.out (by kernel_rfl)) (fun _ _ _ h => h) (Or.inl ⟨by rfl, ?_⟩) hHeld ?_ ?_
              rotate_left
              · rintro w' ⟨s0, s1, s2, s3, s4⟩
                go_simp
                with_reducible rfl
              rotate_left
              · simp only [Act.put, List.setIfInBounds_toArray, List.set_cons_zero, List.set_cons_succ, i64_w, i32_w]
                rfl
              refine one_ (i := 7) (N := some 34) #[true, true, true, true, true, true, true, true, false, false, false] rfl rfl (one_of HT_.out (by kernel_rfl)) (by decide) (fun K hK => ?_)
              refine value_ (w1 := ?_) (v := ?_) (by rfl) rfl ?_ ?_
              rotate_left 2
              · go_simp
                constructor
                · rfl
                · rfl
              refine hK.out _ _ ⟨(blk_cell (blk_alloc BK161.out _) 0).trans rfl, (blk_cell (blk_alloc BK161.out _) 1).trans rfl, (blk_cell (blk_alloc BK156.out _) 0).trans rfl, (blk_cell (blk_alloc BK156.out _) 1).trans rfl, (World.cell?_alloc_lt _ _ _ (World.block_lt_of_cell? _ _ (((HB.out.cell (World.block_lt_of_cell? w _ hw163_0)).trans hw163_0)))).trans (((HB.out.cell (World.block_lt_of_cell? w _ hw163_0)).trans hw163_0))⟩ (fun hHeld => ?_)
              clear hK K
              refine norm_ (a' := ?_) ?_ ?_
              rotate_left
              · show Act.put _ (some 34) _ = _
                simp only [Act.put, List.setIfInBounds_toArray, List.set_cons_zero, List.set_cons_succ, i64_w, i32_w]
                rfl
              refine one_ (i := 8) (N := some 35) #[true, true, true, true, true, true, true, true, true, false, false] rfl rfl (one_of HT_.out (by kernel_rfl)) (by decide) (fun K hK => ?_)
              refine Kd.R_append_step (Kd.int .i64) (w0 := w) w.heap.size (by rfl) (.tmp 28) (.tmp 34) 22 2 (.int .i64 0) 8 rfl Try.underlying22 info2 rfl (by decide) (by omega) u162001 x162001_1 (rd l0_1 x6_1) [.int .i64 (rd l0_1 x6_1)] (fun _ => True) (fun _ => False) rfl rfl ?aP (fun _ hk => hk.elim) ?aF ?aO ?aB ?aS ?aL ?_
              (case aP => exact rfl)
              (case aB => exact (by repeat (first | (with_reducible first | exact HB.out | apply below_alloc | apply pw_below_drewN | apply below_drew1 | refine below_set ?_ GE156.out | refine below_set ?_ GE157.out | refine below_set ?_ GE161.out) | exact HB.out)))
              (case aF => exact (fun _ _ => trivial))
              (case aO => exact (by (with_reducible repeat (first | apply Kd.R_alloc | apply Kd.R_drewN | apply Kd.R_drew)); exact HO_162001.out))
              (case aS => exact (below_size (by repeat (first | (with_reducible first | exact HB.out | apply below_alloc | apply pw_below_drewN | apply below_drew1 | refine below_set ?_ GE156.out | refine below_set ?_ GE157.out | refine below_set ?_ GE161.out) | exact HB.out))))
              (case aL => have := LMc20.out; omega)
              intro v165 w25 ho hb hg hat
              rw [← Ny164.out] at ho
              have n0_ := Aside0.mk (blk_grown (g := gb156) (o := .cells #[.int .i64 a0_0, .slice (some ad162) l0_1.length c0_1] 26 (0, 0)) (by (with_reducible repeat (first | refine blk_drewN ?_ _ | refine blk_drew ?_ | refine blk_alloc ?_ _)); exact BK156.out) hg (Kd.R_ne HO_162001.out BK156.out (by decide)))
              have n1_ := Aside0.mk (blk_grown (g := gb157) (o := .cells #[.int .i64 0, .slice none 0 0] 26 (0, 0)) (by (with_reducible repeat (first | refine blk_drewN ?_ _ | refine blk_drew ?_ | refine blk_alloc ?_ _)); exact BK157.out) hg (Kd.R_ne HO_162001.out BK157.out (by decide)))
              have n2_ := Aside0.mk (blk_grown (g := gb161) (o := .cells #[.int .i64 a0_0, u162001] 26 (0, 0)) (by (with_reducible repeat (first | refine blk_drewN ?_ _ | refine blk_drew ?_ | refine blk_alloc ?_ _)); exact BK161.out) hg (Kd.R_ne HO_162001.out BK161.out (by decide)))
              have n3_ := Aside0.mk (hb)
              have n4_ := Aside0.mk (ho)
              clear BK156
              clear BK157
              clear BK161
              clear HB
              clear HO_162001
              have BK156 := n0_
              have BK157 := n1_
              have BK161 := n2_
              have HB := n3_
              have HO166 := n4_
              clear n0_ n1_ n2_ n3_ n4_
              clear ho hb hg hat
              obtain ⟨Ao26, co26, eo26⟩ := Kd.R_slice HO166.out
              (first | subst eo26 | (injection eo26 with f1_ f2_ f3_; have f4_ := f1_.symm; have f5_ := f3_.symm; clear f1_ f2_ f3_; subst f4_; subst f5_))
              refine hK.out _ _ ⟨(blk_cell BK161.out 0).trans rfl, (blk_cell BK161.out 1).trans rfl, (blk_cell BK156.out 0).trans rfl, (blk_cell BK156.out 1).trans rfl, ((HB.out.cell (World.block_lt_of_cell? w _ hw163_0)).trans hw163_0)⟩ (fun hHeld => ?_)
              clear hK K
              refine norm_ (a' := ?_) ?_ ?_
              rotate_left
              · show Act.put _ (some 35) _ = _
                simp only [Act.put, List.setIfInBounds_toArray, List.set_cons_zero, List.set_cons_succ, i64_w, i32_w]
                rfl
              refine pure_ (i := 9) (N := some 36) (v := ?_) (a' := ?_) #[true, true, true, true, true, true, true, true, true, true, false] rfl rfl (any_of HT_.out (by kernel_rfl)) (fun _ _ _ h => h) (Or.inl ⟨by rfl, ?_⟩) ?_ ?_
              rotate_left
              · intro w'
                go_simp
                with_reducible rfl
              rotate_left
              · simp only [Act.put, List.setIfInBounds_toArray, List.set_cons_zero, List.set_cons_succ, i64_w, i32_w]
                rfl
              refine last_ (i := 10) (N := none) #[true, true, true, true, true, true, true, true, true, true, true] rfl rfl (one_of HT_.out (by kernel_rfl)) (by decide) (fun K hK => ?_)
              have hs27 : w25.cell? ⟨gb161, 1, none⟩ = some (u162001) := (blk_cell BK161.out 1).trans rfl
              have hfs27 := blk_frozen BK161.out 1
              have hns27_0 := NB156_161.out
              have hns27_1 := NB157_161.out
              have hms27_0 := NB161_156.out
              have hms27_1 := NB161_157.out
              refine skip_ (w1 := ?_) (by rfl) rfl ?_ ?_
              rotate_left
              · go_simp
                rfl
              refine hK.out _ _ ?_
              clear hK K
              refine done_ (done_of HT_.out (by kernel_rfl)) ?_
              try go_wp2
              go_roundg k1
              case measure => have := HK1.out; omega
              case rel => exact ⟨(wrap64 (x6_1 + 1)), (y164), (.slice Ao26 y164.length co26), (by first | rfl | (simp; done) | (simp [*]; done)), H', ⟨by have := HK1.out; omega⟩, ⟨by (with_reducible repeat (first | apply Kd.R_alloc | apply Kd.R_drewN | apply Kd.R_drew)); exact Kd.R_mono (Kd.R_far (p := ⟨gb161, 1, none⟩) (Kd.R_types HO166.out BK161.out (by decide)) (fun _ hk => hk.2) (.slice Ao26 y164.length co26)) (fun _ hk => trivial)⟩, ⟨by (with_reducible repeat (first | refine blk_drewN ?_ _ | refine blk_drew ?_ | refine blk_alloc ?_ _)); refine blk_far ?_ NB156_161.out _; (with_reducible repeat (first | refine blk_drewN ?_ _ | refine blk_drew ?_ | refine blk_alloc ?_ _)); exact BK156.out⟩, ⟨by (with_reducible repeat (first | refine blk_drewN ?_ _ | refine blk_drew ?_ | refine blk_alloc ?_ _)); refine blk_far ?_ NB157_161.out _; (with_reducible repeat (first | refine blk_drewN ?_ _ | refine blk_drew ?_ | refine blk_alloc ?_ _)); exact BK157.out⟩, ⟨by (with_reducible repeat (first | refine blk_drewN ?_ _ | refine blk_drew ?_ | refine blk_alloc ?_ _)); refine blk_put (cs := #[.int .i64 a0_0, u162001]) ?_ 1 _ rfl; (with_reducible repeat (first | refine blk_drewN ?_ _ | refine blk_drew ?_ | refine blk_alloc ?_ _)); exact BK161.out⟩, ⟨by repeat (first | (with_reducible first | exact HB.out | apply below_alloc | apply pw_below_drewN | apply below_drew1 | refine below_set ?_ GE156.out | refine below_set ?_ GE157.out | refine below_set ?_ GE161.out) | exact HB.out)⟩⟩
            · rw [if_neg c20] at H
              exact absurd H (by simp)
        · rw [if_neg c15] at H
          exact absurd H (by simp)
      · rw [if_neg c14] at H
        have c14b0 : decide (x6_1 < (l0_1.length : Int)) = false := decide_eq_false c14
        clear c14
        simp only [Option.some.injEq, Prod.mk.injEq] at H
        obtain ⟨rfl, rfl⟩ := H
        have hnb28 := NB156_157.out
        have hnc28 := NB157_156.out
        have hnb29 := NB156_161.out
        have hnc29 := NB161_156.out
        have hcz30_0 : wr.cell? ⟨gb156, 0, none⟩ = some (.int .i64 a0_0) := (blk_cell BK156.out 0).trans rfl
        have hcz30_1 : wr.cell? ⟨gb156, 1, none⟩ = some (.slice A0_1 l0_1.length c0_1) := (blk_cell BK156.out 1).trans rfl
        have hfz30_0 := blk_frozen BK156.out 0
        have hfz30_1 := blk_frozen BK156.out 1
        have hnb31 := NB161_157.out
        have hnc31 := NB157_161.out
        have hcz32_0 : wr.cell? ⟨gb161, 0, none⟩ = some (.int .i64 a0_0) := (blk_cell BK161.out 0).trans rfl
        have hcz32_1 : wr.cell? ⟨gb161, 1, none⟩ = some (u162001) := (blk_cell BK161.out 1).trans rfl
        have hfz32_0 := blk_frozen BK161.out 0
        have hfz32_1 := blk_frozen BK161.out 1
        have hcz33_0 : wr.cell? ⟨gb157, 0, none⟩ = some (.int .i64 0) := (blk_cell BK157.out 0).trans rfl
        have hcz33_1 : wr.cell? ⟨gb157, 1, none⟩ = some (.slice none 0 0) := (blk_cell BK157.out 1).trans rfl
        have hfz33_0 := blk_frozen BK157.out 0
        have hfz33_1 := blk_frozen BK157.out 1
        obtain ⟨Ao34, co34, eo34⟩ := Kd.R_slice HO_162001.out
        subst eo34
        go_wp2
        refine bodyPost_ret (results_cell_row rfl _ _ gb157 26 #[.int .i64 a0_0, .slice Ao34 x162001_1.length co34] (0, 0) _ rfl (by (with_reducible repeat (first | refine blk_drewN ?_ _ | refine blk_drew ?_ | refine blk_alloc ?_ _)); refine blk_put (cs := #[.int .i64 a0_0, .slice none 0 0]) ?_ 1 _ rfl; (with_reducible repeat (first | refine blk_drewN ?_ _ | refine blk_drew ?_ | refine blk_alloc ?_ _)); refine blk_put (cs := #[.int .i64 0, .slice none 0 0]) ?_ 0 _ rfl; (with_reducible repeat (first | refine blk_drewN ?_ _ | refine blk_drew ?_ | refine blk_alloc ?_ _)); exact BK157.out) Try.underlying26 rfl (by kernel_rfl)) rfl ?_
        exact ⟨_, by first | rfl | (simp [errW_none, errW_some] <;> rfl) | (simp [*, errW_none, errW_some] <;> rfl), by (with_reducible repeat (first | apply Kd.R_alloc | apply Kd.R_drewN | apply Kd.R_drew)); exact Kd.R_mono (Kd.R_far (p := ⟨gb157, 1, none⟩) (Kd.R_far (p := ⟨gb157, 0, none⟩) (Kd.R_types HO_162001.out BK157.out (by decide)) (fun _ hk => hk.2) (.int .i64 a0_0)) (fun _ hk => hk.2) (.slice Ao34 x162001_1.length co34)) (fun _ hk => trivial), by repeat (first | (with_reducible first | exact HB.out | apply below_alloc | apply pw_below_drewN | apply below_drew1 | refine below_set ?_ GE156.out | refine below_set ?_ GE157.out | refine below_set ?_ GE161.out) | exact HB.out)⟩
end Go.Proofs.Ytnmhnkpijjmhjaa.QS
namespace Go.Proofs.Ytnmhnkpijjmhjaa.Pu
set_option linter.unusedVariables false
set_option linter.unusedSimpArgs false
open Go.RowKit Go.Proofs.Ytnmhnkpijjmhjaa.QS Go.Proofs.Ytnmhnkpijjmhjaa.Im Go.Proofs.YtnmhnkpijjmhjaaW.PrintWords Go.Proofs.YtnmhnkpijjmhjaaW.PrintLast Go.Proofs.YtnmhnkpijjmhjaaW.PrintMore
end Go.Proofs.Ytnmhnkpijjmhjaa.Pu
namespace Go.Proofs.Ytnmhnkpijjmhjaa.Pu
set_option linter.unusedVariables false
set_option linter.unusedSimpArgs false
open Go.RowKit Go.Proofs.Ytnmhnkpijjmhjaa.Kp Go.Proofs.Ytnmhnkpijjmhjaa.QS Go.Proofs.Ytnmhnkpijjmhjaa.Im Go.Proofs.Ytnmhnkpijjmhjaa.Ext Go.Proofs.Ytnmhnkpijjmhjaa.QFnExactBoundaryComplex Go.Proofs.YtnmhnkpijjmhjaaW.PrintWords Go.Proofs.YtnmhnkpijjmhjaaW.PrintLast Go.Proofs.YtnmhnkpijjmhjaaW.PrintMore
theorem isIn_made : ((List.range 64).all fun f => (List.range 64).all fun s => (Go.bits .andNot .i64 (f : Int) (s : Int) == 0) == (Go.bits .and .i64 (f : Int) (s : Int) == (f : Int))) = true := by decide +kernel
theorem isIn_made' {f s : Int} (hf : 0 ≤ f ∧ f ≤ 63) (hs : 0 ≤ s ∧ s ≤ 63) : (Go.bits .andNot .i64 f s == 0) = (Go.bits .and .i64 f s == f) := by
  obtain ⟨a, rfl⟩ := Int.eq_ofNat_of_zero_le hf.1
  obtain ⟨b, rfl⟩ := Int.eq_ofNat_of_zero_le hs.1
  exact eq_of_beq (List.all_eq_true.1 (List.all_eq_true.1 isIn_made a (List.mem_range.2 (by omega))) b (List.mem_range.2 (by omega)))
theorem made_l1 (n : Int) (sets : List Int) (hl : sets.length ≤ 1000) (f : Int) (hf : 0 ≤ f ∧ f ≤ 63) (acc : List Int) (ha : acc.length ≤ 100) (R : Int × List Int) : ∀ d (i : Nat), sets.length - i = d → i ≤ sets.length →
    Ev (fun k => if ((sets.drop i).any fun s => Go.bits .and .i64 f s == f) = true then spec_l01Made.l0 k n sets (f + 1) n (acc ++ [f]) else spec_l01Made.l0 k n sets (f + 1) n acc) R →
    Ev (fun k => spec_l01Made.l1 k n sets f i n acc) R := by
  have hwf : wrap64 (f + 1) = f + 1 := w64 (by omega) (by omega)
  intro d
  induction d with
  | zero =>
    intro i hd hi hR
    rw [List.drop_eq_nil_of_le (by omega)] at hR
    simp only [List.any_nil, Bool.false_eq_true, if_false] at hR
    refine Ev.step (fun k => ?_) hR
    simp only [spec_l01Made.l1]; rw [if_neg (by omega), hwf]
  | succ d ih =>
    intro i hd hi hR
    have hi' : i < sets.length := by omega
    have hw : wrap64 ((i : Int) + 1) = ((i + 1 : Nat) : Int) := by rw [w64 (by omega) (by omega)]; omega
    rw [List.drop_eq_getElem_cons hi', List.any_cons] at hR
    by_cases hs : Go.bits .and .i64 f sets[i] = f
    · simp only [hs, BEq.rfl, Bool.true_or, if_true] at hR
      refine Ev.step (fun k => ?_) hR
      simp only [spec_l01Made.l1]
      rw [if_pos (by omega), if_pos (by omega), rd_at hi', if_pos hs, if_pos (by omega), hwf]
    · rw [beq_eq_false_iff_ne.2 hs, Bool.false_or] at hR
      refine Ev.step (fun k => ?_) (ih (i + 1) (by omega) (by omega) hR)
      simp only [spec_l01Made.l1]
      rw [if_pos (by omega), if_pos (by omega), rd_at hi', if_neg hs, hw]
theorem made_l0 {n : Int} (h1 : 1 ≤ n) (h6 : n ≤ 6) (sets : List Int) (hl : sets.length ≤ 1000) : ∀ d (f : Nat) (acc : List Int), 2 ^ n.toNat - f = d → 1 ≤ f → f ≤ 2 ^ n.toNat → acc.length ≤ f →
    Ev (fun k => spec_l01Made.l0 k n sets f n acc) (n, acc ++ ((List.range' f (2 ^ n.toNat - f)).map (fun i : Nat => (i : Int))).filter fun f => sets.any fun s => Go.bits .and .i64 f s == f) := by
  have hF := fullZ_le h1 h6
  have hN := full_nat h1 h6
  intro d
  induction d with
  | zero =>
    intro f acc hd hf1 hf2 ha
    rw [hd, List.range'_zero, List.map_nil, List.filter_nil, List.append_nil]
    refine Ev.step (f := fun k => some (n, acc)) (fun k => ?_) (Ev.now _)
    simp only [spec_l01Made.l0, all_eq h1 h6, Option.bind_some]; rw [if_neg (by omega)]
  | succ d ih =>
    intro f acc hd hf1 hf2 ha
    refine Ev.step (f := fun k => spec_l01Made.l1 k n sets (f : Int) ((0 : Nat) : Int) n acc) (fun k => ?_) ?_
    · simp only [spec_l01Made.l0, all_eq h1 h6, Option.bind_some]; rw [if_pos (by omega)]; rfl
    · refine made_l1 n sets hl f (by omega) acc (by omega) _ _ 0 rfl (Nat.zero_le _) ?_
      rw [List.drop_zero, show 2 ^ n.toNat - f = d + 1 from hd, List.range'_succ, List.map_cons, show (f : Int) + 1 = ((f + 1 : Nat) : Int) by omega]
      have hr : 2 ^ n.toNat - (f + 1) = d := by omega
      cases hp : sets.any fun s => Go.bits .and .i64 (f : Int) s == (f : Int) with
      | true =>
        simp only [if_true]
        rw [List.filter_cons_of_pos (by exact hp)]
        have := ih (f + 1) (acc ++ [(f : Int)]) hr (by omega) (by omega) (by rw [List.length_append]; simp; omega)
        rw [List.append_assoc, hr] at this
        exact this
      | false =>
        simp only [Bool.false_eq_true, if_false]
        rw [List.filter_cons_of_neg (by rw [hp]; exact Bool.false_ne_true)]
        have := ih (f + 1) acc hr (by omega) (by omega) (by omega)
        rw [hr] at this
        exact this
theorem ev_made {n : Int} (h1 : 1 ≤ n) (h6 : n ≤ 6) (sets : List Int) (hl : sets.length ≤ 1000) (hs : ∀ s ∈ sets, 0 ≤ s ∧ s ≤ 63) : Ev (fun k => spec_l01Made.f k n sets) (n, madeZ n sets) := by
  have hF := fullZ_le h1 h6
  have hN := full_nat h1 h6
  have h2 : 1 ≤ 2 ^ n.toNat := Nat.one_le_two_pow
  have := made_l0 h1 h6 sets hl _ 1 [] rfl (Nat.le_refl _) h2 (by simp)
  rw [List.nil_append] at this
  have he : ((List.range' 1 (2 ^ n.toNat - 1)).map (fun i : Nat => (i : Int))) = nums1 (2 ^ n.toNat) := by
    unfold nums1
    rw [List.range'_eq_map_range, List.map_map]
    refine List.map_congr_left fun i _ => ?_
    simp; omega
  rw [he] at this
  have hm : madeZ n sets = (nums1 (2 ^ n.toNat)).filter fun f => sets.any fun s => Go.bits .and .i64 f s == f := by
    unfold madeZ thoseL
    refine List.filter_congr fun f hf => ?_
    have hf := mem_nums1.1 hf
    exact any_congr_mem fun s hs1 => isIn_made' (by omega) (hs s hs1)
  rw [hm]
  exact this
theorem bd_s {n : Int} {l : List Int} (hi : isC n l = true) (hp : pureB l = true) (fs : List Int) (hl : fs.length ≤ 1000) (hf : ∀ f ∈ fs, (0 ≤ f ∧ f ≤ 63) ∧ onesZ f = dimL l) (R : Int × List Int × Int) : ∀ d (i : Nat) (acc : List Int), fs.length - i = d → i ≤ fs.length → acc.length ≤ i →
    Ev (fun k => (spec_l01Made.f k n (acc ++ (fs.drop i).filter fun f => faroundZ l f == 1)).bind fun bt422 => (some (bt422.1, bt422.2, 0))) R →
    Ev (fun k => spec_BoundaryComplex.l0 k fs acc i n l) R := by
  intro d
  induction d with
  | zero =>
    intro i acc hd hi' ha hR
    rw [List.drop_eq_nil_of_le (by omega), List.filter_nil, List.append_nil] at hR
    refine Ev.step (fun k => ?_) hR
    simp only [spec_BoundaryComplex.l0]; rw [if_neg (by omega)]
  | succ d ih =>
    intro i acc hd hi1 hacc hR
    have hi' : i < fs.length := by omega
    obtain ⟨hx, hx1⟩ := hf _ (List.getElem_mem hi')
    have hw : wrap64 ((i : Int) + 1) = ((i + 1 : Nat) : Int) := by rw [w64 (by omega) (by omega)]; omega
    have ha := pure_around hi hp hx hx1
    rw [List.drop_eq_getElem_cons hi'] at hR
    refine Ev.step (f := fun k => (spec_l01Above.f k n l fs[i]).bind fun t415 => (if (t415.length : Int) = 1 then (spec_BoundaryComplex.l0 k fs (acc ++ [fs[i]]) ((i + 1 : Nat) : Int) n l) else (spec_BoundaryComplex.l0 k fs acc ((i + 1 : Nat) : Int) n l))) (fun k => ?_) ?_
    · simp only [spec_BoundaryComplex.l0]
      rw [if_pos (by omega), if_pos (by omega), rd_at hi', hw]
      simp only [if_pos (show acc.length < 17592186044416 by omega)]
    · refine Ev.bind (ev_above n fs[i] hx (isC_len hi) (isC_63 hi)) ?_
      rw [← ha]
      by_cases h2 : faroundZ l fs[i] = 1
      · simp only [if_pos h2]
        rw [List.filter_cons_of_pos (by rw [h2]; rfl)] at hR
        refine ih (i + 1) (acc ++ [fs[i]]) (by omega) (by omega) (by rw [List.length_append]; simp; omega) ?_
        rw [List.append_assoc]
        exact hR
      · simp only [if_neg h2]
        rw [List.filter_cons_of_neg (by rw [beq_eq_false_iff_ne.2 h2]; exact Bool.false_ne_true)] at hR
        exact ih (i + 1) acc (by omega) (by omega) (by omega) hR
theorem wallsB_ok {n : Int} {l : List Int} (hi : isC n l = true) : (wallsL l).length ≤ 1000 ∧ ∀ f ∈ wallsL l, (0 ≤ f ∧ f ≤ 63) ∧ onesZ f = dimL l := by
  refine ⟨Nat.le_trans (List.length_filter_le _ _) (by have := isC_len hi; omega), fun f hf => ?_⟩
  obtain ⟨h1, h2⟩ := List.mem_filter.1 hf
  have h3 := isC_63 hi f h1
  have h4 := eq_of_beq h2
  exact ⟨by omega, by omega⟩
theorem ev_spec (n : Int) {l : List Int} (hl : l.length ≤ maxLen) : Ev (fun k => spec_BoundaryComplex.f k n l) (bdF n l) := by
  unfold spec_BoundaryComplex.f
  refine Ev.bind (ev_is n hl) ?_
  unfold bdF
  cases hi : isC n l with
  | false => simp only [Bool.false_eq_true, if_false]; exact Ev.now _
  | true =>
    obtain ⟨⟨h1, h6⟩, _, _⟩ := isC_of hi
    have hd := dimL_le l
    simp only [if_true]
    refine Ev.bind (ev_pure hi) ?_
    cases hp : pureB l with
    | false => simp only [Bool.false_eq_true, if_false]; exact Ev.now _
    | true =>
      simp only [if_true]
      refine Ev.bind (ev_dim hi) ?_
      rw [w64 (by omega) (by omega)]
      refine Ev.bind (ev_ofZ hi (dimL l - 1) (by omega)) ?_
      obtain ⟨w1, w2⟩ := wallsB_ok hi
      refine bd_s hi hp (wallsL l) w1 w2 _ _ 0 [] rfl (Nat.zero_le _) (by simp) ?_
      rw [List.drop_zero, List.nil_append]
      refine Ev.bind (ev_made h1 h6 _ (Nat.le_trans (List.length_filter_le _ _) w1) (fun s hs => (w2 s (List.mem_filter.1 hs).1).1)) ?_
      exact Ev.now _
theorem pure_len (n : Int) (l : List Int) : (bdF n l).2.1.length ≤ 1048576 := by
  unfold bdF
  split
  · rename_i hi
    obtain ⟨⟨h1, h6⟩, _, _⟩ := isC_of hi
    split
    · exact Nat.le_trans (thoseL_len h1 h6 _) (by omega)
    · simp
  · simp
theorem FnExactBoundaryComplex (n0 : Int) (l0 : List Int) (_ : (Lit.int .i64 n0).wf = true) (hm0 : l0.length ≤ maxLen) (_ : ∀ x ∈ l0, (Lit.int .i64 x).wf = true) : ∃ k, laws_FnExactBoundaryComplex.f k n0 l0 = some true := by
  rcases Nat.lt_or_ge 1048576 l0.length with hl | hl0
  · refine ⟨0, ?_⟩
    unfold laws_FnExactBoundaryComplex.f
    rw [sz_big hm0 hl]
    rfl
  · apply Ev.rounds
    obtain ⟨t0, ht0, hz0⟩ := sz_ok (n := n0) hl0
    have hS := ev_spec n0 hm0
    have hI : impl_BoundaryComplex.f n0 l0 = some (bdF n0 l0) := by unfold impl_BoundaryComplex.f; rw [if_pos (by omega)]
    have hR := pure_len n0 l0
    generalize bdF n0 l0 = D at hS hI hR
    obtain ⟨r1, r2, r3⟩ := D
    simp only at hR
    have hR0 := hR
    have hca0 : 0 ≤ (1 : Int) ∧ (1 : Int) ≤ 1073741824 := by omega
    have hca1 : 0 ≤ 1 + (l0.length : Int) ∧ 1 + (l0.length : Int) ≤ 1073741824 := by omega
    have hna1 : ¬ (1 + (l0.length : Int) < 0) := by omega
    have hco0 : 0 ≤ (1 : Int) ∧ (1 : Int) ≤ 1073741824 := by omega
    have hco1 : 0 ≤ 1 + (r2.length : Int) ∧ 1 + (r2.length : Int) ≤ 1073741824 := by omega
    have hno1 : ¬ (1 + (r2.length : Int) < 0) := by omega
    unfold laws_FnExactBoundaryComplex.f
    rw [ht0]
    simp only [Option.bind_some, if_neg hz0]
    repeat (first
      | (exact Ev.now _)
      | (refine Ev.bind (ev_toComplex hl0) ?_)
      | (refine Ev.bind hS ?_)
      | (refine Ev.bind (ev_eqComplex hR0) ?_)
      | (refine Ev.bind (ev_eqComplex hl0) ?_)
      | (refine Ev.bind (ev_markComplex hl0 hca0) ?_)
      | (refine Ev.bind (ev_markComplex hR0 hco0) ?_)
      | (refine Ev.bind (ev_heldComplex hR0 hco0) ?_)
      | (simp only [hI, Option.bind_some, if_true, bne_self_eq_false, Bool.false_eq_true, if_false, if_neg hna1, if_neg hno1]))
end Go.Proofs.Ytnmhnkpijjmhjaa.Pu
