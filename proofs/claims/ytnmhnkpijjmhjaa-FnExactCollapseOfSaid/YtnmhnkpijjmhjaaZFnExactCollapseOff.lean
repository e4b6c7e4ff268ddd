/- Words and lemmas for FnExactCollapseOf, part 6: what the row's text comes to. -/
import Derived.Test.YtnmhnkpijjmhjaaZFnExactCollapseOfe
namespace Go.Proofs.Ytnmhnkpijjmhjaa.QFnExactCollapseOf
open Go.Proofs.Ytnmhnkpijjmhjaa.Kp Go.Proofs.Ytnmhnkpijjmhjaa.Ext Go.Proofs.Ytnmhnkpijjmhjaa.QS Go.RowKit Go.Proofs.YtnmhnkpijjmhjaaW.PrintWords Go.Proofs.YtnmhnkpijjmhjaaW.PrintLast Go.Proofs.YtnmhnkpijjmhjaaW.PrintMore
attribute [local go_sem] max2_int min2_int max_two min_two max_three min_three max_four min_four   -- for this text's walks alone
set_option linter.unusedVariables false
set_option linter.unusedSimpArgs false
theorem info2 : (Try.prog.info? 2).map (fun i => (i.zero, i.size, i.bytes)) = some (some (.int .i64 0), 1, 8) := by kernel_rfl
theorem info76 : (Try.prog.info? 76).map (fun i => (i.zero, i.size, i.bytes)) = some (some (.agg #[(.int .i64 0), (.int .i64 0)]), 2, 16) := by kernel_rfl
end Go.Proofs.Ytnmhnkpijjmhjaa.QFnExactCollapseOf
namespace Go.Proofs.Ytnmhnkpijjmhjaa.QFnExactCollapseOf
open Go.Proofs.Ytnmhnkpijjmhjaa.Kp Go.Proofs.Ytnmhnkpijjmhjaa.Ext Go.Proofs.Ytnmhnkpijjmhjaa.QS Go.RowKit Go.Proofs.YtnmhnkpijjmhjaaW.PrintWords Go.Proofs.YtnmhnkpijjmhjaaW.PrintLast Go.Proofs.YtnmhnkpijjmhjaaW.PrintMore
attribute [local go_sem] max2_int min2_int max_two min_two max_three min_three max_four min_four   -- for this text's walks alone
set_option linter.unusedVariables false
set_option linter.unusedSimpArgs false
end Go.Proofs.Ytnmhnkpijjmhjaa.QFnExactCollapseOf
namespace Go.Proofs.Ytnmhnkpijjmhjaa.QFnExactCollapseOf
open Go.Proofs.Ytnmhnkpijjmhjaa.Kp Go.Proofs.Ytnmhnkpijjmhjaa.Ext Go.Proofs.Ytnmhnkpijjmhjaa.QS Go.RowKit Go.Proofs.YtnmhnkpijjmhjaaW.PrintWords Go.Proofs.YtnmhnkpijjmhjaaW.PrintLast Go.Proofs.YtnmhnkpijjmhjaaW.PrintMore
attribute [local go_sem] max2_int min2_int max_two min_two max_three min_three max_four min_four   -- for this text's walks alone
set_option linter.unusedVariables false
set_option linter.unusedSimpArgs false
def laws_FnExactCollapseOf.f (k : Nat) (a0_0 : Int) (l0_1 : List Int) : Option (Bool) := (laws_szComplex.f a0_0 l0_1 1048576).bind fun t216 => (if t216 < 0 then (some true) else ((laws_toComplex.f k a0_0 l0_1).bind fun bt217 => ((spec_CollapseOf.f k bt217.1 bt217.2).bind fun bt221 => ((laws_toComplex.f k a0_0 l0_1).bind fun bt230 => ((impl_CollapseOf.f bt230.1 bt230.2).bind fun bt235 => ((laws_eqComplex.f k bt235.1 bt235.2.1 bt221.1 bt221.2.1).bind fun t244 => (if t244 = true then ((laws_eqPairS.f k bt235.2.2.1 bt221.2.2.1).bind fun t245 => (if t245 = true then (if bt235.2.2.2 = bt221.2.2.2 then ((laws_toComplex.f k a0_0 l0_1).bind fun bt246 => ((laws_eqComplex.f k bt230.1 bt230.2 bt246.1 bt246.2).bind fun t250 => (if t250 = true then ((laws_markComplex.f k bt230.1 bt230.2 1).bind fun bt251 => (if bt251.1 < 0 then (none) else ((laws_eqComplex.f k bt235.1 bt235.2.1 bt221.1 bt221.2.1).bind fun t253 => (if t253 = true then ((laws_eqPairS.f k bt235.2.2.1 bt221.2.2.1).bind fun t254 => (if t254 = true then ((laws_markComplex.f k bt235.1 bt235.2.1 1).bind fun bt255 => ((laws_markPairS.f bt235.2.2.1 bt255.1).bind fun bt257 => ((laws_heldComplex.f k bt235.1 bt255.2 1).bind fun t259 => (if t259 < 0 then (none) else ((laws_heldPairS.f bt257.2 t259).bind fun t260 => (if t260 < 0 then (none) else (if t260 = bt257.1 then ((laws_toComplex.f k a0_0 l0_1).bind fun bt261 => ((impl_CollapseOf.f bt261.1 bt261.2).bind fun bt265 => ((laws_eqComplex.f k bt265.1 bt265.2.1 bt221.1 bt221.2.1).bind fun t274 => (if t274 = true then ((laws_eqPairS.f k bt265.2.2.1 bt221.2.2.1).bind fun t275 => (if t275 = true then (if bt265.2.2.2 = bt221.2.2.2 then ((laws_heldComplex.f k bt235.1 bt255.2 1).bind fun t276 => (if t276 < 0 then (none) else ((laws_heldPairS.f bt257.2 t276).bind fun t277 => (if t277 < 0 then (none) else (if t277 = bt257.1 then (some true) else (none)))))) else (none)) else (none))) else (none))))) else (none)))))))) else (none))) else (none))))) else (none)))) else (none)) else (none))) else (none))))))))
theorem laws_FnExactCollapseOf.mono : ∀ a0 a1 k, LeO (laws_FnExactCollapseOf.f k a0 a1) (laws_FnExactCollapseOf.f (k + 1) a0 a1) := by
  intro a0 a1 k
  unfold laws_FnExactCollapseOf.f
  repeat' first
      | (with_reducible exact laws_eqComplex.mono _ _ _ _ _)
      | (with_reducible exact laws_eqPairS.mono _ _ _)
      | (with_reducible exact laws_heldComplex.mono _ _ _ _)
      | (with_reducible exact laws_markComplex.mono _ _ _ _)
      | (with_reducible exact laws_toComplex.mono _ _ _)
      | (with_reducible exact spec_CollapseOf.mono _ _ _)
      | (with_reducible exact LeO.refl _)
      | (with_reducible exact LeO.none _)
      | (with_reducible refine LeO.ite ?_ ?_)
      | (with_reducible refine LeO.bind ?_ (fun _ => ?_))
      | exact laws_eqComplex.mono _ _ _ _ _
      | exact laws_eqPairS.mono _ _ _
      | exact laws_heldComplex.mono _ _ _ _
      | exact laws_markComplex.mono _ _ _ _
      | exact laws_toComplex.mono _ _ _
      | exact spec_CollapseOf.mono _ _ _
      | exact LeO.none _
      | refine LeO.ite ?_ ?_
      | refine LeO.bind ?_ (fun _ => ?_)
set_option maxHeartbeats 8000000 in
set_option maxRecDepth 100000 in
theorem laws_FnExactCollapseOf.calls (k : Nat) (a0_0 : Int) (A0_1 : Option Addr) (c0_1 : Nat) (l0_1 : List Int) (r : Bool) (w : World) (hr0_1 : Kd.C (Kd.int .i64) w A0_1 l0_1.length l0_1) (hc0_1 : l0_1.length ≤ c0_1) (h : laws_FnExactCollapseOf.f k a0_0 l0_1 = some r) :
    Calls Try.prog 3 #[.agg #[.int .i64 a0_0, .slice A0_1 l0_1.length c0_1]] w fun e w' => e = .returned (.bool r) ∧ Below w.heap.size w w' := by
  have hu24 := Try.underlying24
  have hu26 := Try.underlying26
  have HR0_1 := Aside0.mk hr0_1
  have HC0_1 := Aside0.mk hc0_1
  clear hr0_1 hc0_1
  have HB := Aside0.mk (Below.refl w.heap.size w)
  have H : ((laws_szComplex.f a0_0 l0_1 1048576).bind fun t216 => (if t216 < 0 then (some true) else ((laws_toComplex.f k a0_0 l0_1).bind fun bt217 => ((spec_CollapseOf.f k bt217.1 bt217.2).bind fun bt221 => ((laws_toComplex.f k a0_0 l0_1).bind fun bt230 => ((impl_CollapseOf.f bt230.1 bt230.2).bind fun bt235 => ((laws_eqComplex.f k bt235.1 bt235.2.1 bt221.1 bt221.2.1).bind fun t244 => (if t244 = true then ((laws_eqPairS.f k bt235.2.2.1 bt221.2.2.1).bind fun t245 => (if t245 = true then (if bt235.2.2.2 = bt221.2.2.2 then ((laws_toComplex.f k a0_0 l0_1).bind fun bt246 => ((laws_eqComplex.f k bt230.1 bt230.2 bt246.1 bt246.2).bind fun t250 => (if t250 = true then ((laws_markComplex.f k bt230.1 bt230.2 1).bind fun bt251 => (if bt251.1 < 0 then (none) else ((laws_eqComplex.f k bt235.1 bt235.2.1 bt221.1 bt221.2.1).bind fun t253 => (if t253 = true then ((laws_eqPairS.f k bt235.2.2.1 bt221.2.2.1).bind fun t254 => (if t254 = true then ((laws_markComplex.f k bt235.1 bt235.2.1 1).bind fun bt255 => ((laws_markPairS.f bt235.2.2.1 bt255.1).bind fun bt257 => ((laws_heldComplex.f k bt235.1 bt255.2 1).bind fun t259 => (if t259 < 0 then (none) else ((laws_heldPairS.f bt257.2 t259).bind fun t260 => (if t260 < 0 then (none) else (if t260 = bt257.1 then ((laws_toComplex.f k a0_0 l0_1).bind fun bt261 => ((impl_CollapseOf.f bt261.1 bt261.2).bind fun bt265 => ((laws_eqComplex.f k bt265.1 bt265.2.1 bt221.1 bt221.2.1).bind fun t274 => (if t274 = true then ((laws_eqPairS.f k bt265.2.2.1 bt221.2.2.1).bind fun t275 => (if t275 = true then (if bt265.2.2.2 = bt221.2.2.2 then ((laws_heldComplex.f k bt235.1 bt255.2 1).bind fun t276 => (if t276 < 0 then (none) else ((laws_heldPairS.f bt257.2 t276).bind fun t277 => (if t277 < 0 then (none) else (if t277 = bt257.1 then (some true) else (none)))))) else (none)) else (none))) else (none))))) else (none)))))))) else (none))) else (none))))) else (none)))) else (none)) else (none))) else (none))))))))) = some r := h
  clear h
  replace H := Option.bind_eq_some_iff.mp H
  obtain ⟨t216, A20, H⟩ := H
  replace H : (if t216 < 0 then (some true) else ((laws_toComplex.f k a0_0 l0_1).bind fun bt217 => ((spec_CollapseOf.f k bt217.1 bt217.2).bind fun bt221 => ((laws_toComplex.f k a0_0 l0_1).bind fun bt230 => ((impl_CollapseOf.f bt230.1 bt230.2).bind fun bt235 => ((laws_eqComplex.f k bt235.1 bt235.2.1 bt221.1 bt221.2.1).bind fun t244 => (if t244 = true then ((laws_eqPairS.f k bt235.2.2.1 bt221.2.2.1).bind fun t245 => (if t245 = true then (if bt235.2.2.2 = bt221.2.2.2 then ((laws_toComplex.f k a0_0 l0_1).bind fun bt246 => ((laws_eqComplex.f k bt230.1 bt230.2 bt246.1 bt246.2).bind fun t250 => (if t250 = true then ((laws_markComplex.f k bt230.1 bt230.2 1).bind fun bt251 => (if bt251.1 < 0 then (none) else ((laws_eqComplex.f k bt235.1 bt235.2.1 bt221.1 bt221.2.1).bind fun t253 => (if t253 = true then ((laws_eqPairS.f k bt235.2.2.1 bt221.2.2.1).bind fun t254 => (if t254 = true then ((laws_markComplex.f k bt235.1 bt235.2.1 1).bind fun bt255 => ((laws_markPairS.f bt235.2.2.1 bt255.1).bind fun bt257 => ((laws_heldComplex.f k bt235.1 bt255.2 1).bind fun t259 => (if t259 < 0 then (none) else ((laws_heldPairS.f bt257.2 t259).bind fun t260 => (if t260 < 0 then (none) else (if t260 = bt257.1 then ((laws_toComplex.f k a0_0 l0_1).bind fun bt261 => ((impl_CollapseOf.f bt261.1 bt261.2).bind fun bt265 => ((laws_eqComplex.f k bt265.1 bt265.2.1 bt221.1 bt221.2.1).bind fun t274 => (if t274 = true then ((laws_eqPairS.f k bt265.2.2.1 bt221.2.2.1).bind fun t275 => (if t275 = true then (if bt265.2.2.2 = bt221.2.2.2 then ((laws_heldComplex.f k bt235.1 bt255.2 1).bind fun t276 => (if t276 < 0 then (none) else ((laws_heldPairS.f bt257.2 t276).bind fun t277 => (if t277 < 0 then (none) else (if t277 = bt257.1 then (some true) else (none)))))) else (none)) else (none))) else (none))))) else (none)))))))) else (none))) else (none))))) else (none)))) else (none)) else (none))) else (none)))))))) = some r := H
  have A2 := Aside0.mk A20
  clear A20
  by_cases c3 : t216 < 0
  · rw [if_pos c3] at H
    have c3b0 : decide (t216 < 0) = true := decide_eq_true c3
    clear c3
    obtain rfl := Option.some.inj H
    go_enter Try.func3, Try.ntmps3
    go_wp2_with (first | ((with_reducible refine gate_dst (N := 1) rfl ?_); refine box_event ?hg (N := 1) ?hd (cs := #[.int .i64 a0_0, .slice A0_1 l0_1.length c0_1]) (t := 24) ?hr ?_; (case hd => rfl); (case hg => rfl); (case hr => first | (go_simp; done) | (go_simp; rfl)); intro gb215 hg w4 hbox hb; have n0_ := Aside0.mk (below_step (by repeat (first | (with_reducible first | exact HB.out | apply below_alloc | apply pw_below_drewN | apply below_drew1) | exact HB.out)) hb); have n1_ := Aside0.mk (hbox); have n2_ := Aside0.mk ((by rw [hg]; exact (below_size (by repeat (first | (with_reducible first | exact HB.out | apply below_alloc | apply pw_below_drewN | apply below_drew1) | exact HB.out))) : w.heap.size ≤ gb215)); have n3_ := Aside0.mk ((by rw [hg]; exact (below_size (by repeat (first | (with_reducible first | exact HB.out | apply below_alloc | apply pw_below_drewN | apply below_drew1) | exact HB.out))) : w.heap.size ≤ gb215)); clear HB; have HB := n0_; have BK215 := n1_; have GW215 := n2_; have GE215 := n3_; clear n0_ n1_ n2_ n3_; clear hb hbox hg; have hcz5_0 : w4.cell? ⟨gb215, 0, none⟩ = some (.int .i64 a0_0) := (blk_cell BK215.out 0).trans rfl; have hcz5_1 : w4.cell? ⟨gb215, 1, none⟩ = some (.slice A0_1 l0_1.length c0_1) := (blk_cell BK215.out 1).trans rfl; have hfz5_0 := blk_frozen BK215.out 0; have hfz5_1 := blk_frozen BK215.out 1) | ((with_reducible refine gate_callee (f := 15) rfl ?_); refine goesL_ (some 19) rfl rfl Try.func15 (by kernel_rfl) rfl #[.agg #[.int .i64 a0_0, .slice A0_1 l0_1.length c0_1], .int .i64 1048576] rfl (by (try simp only [List.map_toArray, List.map_cons, List.map_nil]); first | done | rfl | (simp only [List.length_drop, List.length_take]; rfl)) ?_; (with_reducible refine (laws_szComplex.calls a0_0 _ _ l0_1 1048576 t216 _ ?side1 ?side2 A2.out).mono ?_); (case side1 => repeat (first | exact (Kd.C_below HR0_1.out HB.out) | (with_reducible refine Kd.C_alloc ?_ _) | (with_reducible refine Kd.C_drewN ?_ _) | (with_reducible refine Kd.C_drew ?_))); (case side2 => exact HC0_1.out); rintro e w6 ⟨rfl, hb⟩; refine ⟨_, rfl, ?_⟩; have n0_ := Aside0.mk (blk_below (g := gb215) (o := .cells #[.int .i64 a0_0, .slice A0_1 l0_1.length c0_1] 24 (0, 0)) (by (with_reducible repeat (first | refine blk_drewN ?_ _ | refine blk_drew ?_ | refine blk_alloc ?_ _)); exact BK215.out) hb); have n1_ := Aside0.mk (below_step (by repeat (first | (with_reducible first | exact HB.out | apply below_alloc | apply pw_below_drewN | apply below_drew1 | refine below_set ?_ GE215.out) | exact HB.out)) hb); clear BK215; clear HB; have BK215 := n0_; have HB := n1_; clear n0_ n1_; (try clear hb); (try clear hb2); (try clear hk); (try clear hi)))
    go_ret
    exact ⟨by first | rfl | (simp [errW_none, errW_some] <;> rfl) | (simp [*, errW_none, errW_some] <;> rfl), by repeat (first | (with_reducible first | exact HB.out | apply below_alloc | apply pw_below_drewN | apply below_drew1 | refine below_set ?_ GE215.out) | exact HB.out)⟩
  · rw [if_neg c3] at H
    have c3b0 : decide (t216 < 0) = false := decide_eq_false c3
    clear c3
    replace H := Option.bind_eq_some_iff.mp H
    obtain ⟨⟨t217, t218⟩, A70, H⟩ := H
    replace H : ((spec_CollapseOf.f k t217 t218).bind fun bt221 => ((laws_toComplex.f k a0_0 l0_1).bind fun bt230 => ((impl_CollapseOf.f bt230.1 bt230.2).bind fun bt235 => ((laws_eqComplex.f k bt235.1 bt235.2.1 bt221.1 bt221.2.1).bind fun t244 => (if t244 = true then ((laws_eqPairS.f k bt235.2.2.1 bt221.2.2.1).bind fun t245 => (if t245 = true then (if bt235.2.2.2 = bt221.2.2.2 then ((laws_toComplex.f k a0_0 l0_1).bind fun bt246 => ((laws_eqComplex.f k bt230.1 bt230.2 bt246.1 bt246.2).bind fun t250 => (if t250 = true then ((laws_markComplex.f k bt230.1 bt230.2 1).bind fun bt251 => (if bt251.1 < 0 then (none) else ((laws_eqComplex.f k bt235.1 bt235.2.1 bt221.1 bt221.2.1).bind fun t253 => (if t253 = true then ((laws_eqPairS.f k bt235.2.2.1 bt221.2.2.1).bind fun t254 => (if t254 = true then ((laws_markComplex.f k bt235.1 bt235.2.1 1).bind fun bt255 => ((laws_markPairS.f bt235.2.2.1 bt255.1).bind fun bt257 => ((laws_heldComplex.f k bt235.1 bt255.2 1).bind fun t259 => (if t259 < 0 then (none) else ((laws_heldPairS.f bt257.2 t259).bind fun t260 => (if t260 < 0 then (none) else (if t260 = bt257.1 then ((laws_toComplex.f k a0_0 l0_1).bind fun bt261 => ((impl_CollapseOf.f bt261.1 bt261.2).bind fun bt265 => ((laws_eqComplex.f k bt265.1 bt265.2.1 bt221.1 bt221.2.1).bind fun t274 => (if t274 = true then ((laws_eqPairS.f k bt265.2.2.1 bt221.2.2.1).bind fun t275 => (if t275 = true then (if bt265.2.2.2 = bt221.2.2.2 then ((laws_heldComplex.f k bt235.1 bt255.2 1).bind fun t276 => (if t276 < 0 then (none) else ((laws_heldPairS.f bt257.2 t276).bind fun t277 => (if t277 < 0 then (none) else (if t277 = bt257.1 then (some true) else (none)))))) else (none)) else (none))) else (none))))) else (none)))))))) else (none))) else (none))))) else (none)))) else (none)) else (none))) else (none)))))) = some r := H
    have A7 := Aside0.mk A70
    clear A70
    replace H := Option.bind_eq_some_iff.mp H
    obtain ⟨⟨t221, t222, t225, t228⟩, A80, H⟩ := H
    replace H : ((laws_toComplex.f k a0_0 l0_1).bind fun bt230 => ((impl_CollapseOf.f bt230.1 bt230.2).bind fun bt235 => ((laws_eqComplex.f k bt235.1 bt235.2.1 t221 t222).bind fun t244 => (if t244 = true then ((laws_eqPairS.f k bt235.2.2.1 t225).bind fun t245 => (if t245 = true then (if bt235.2.2.2 = t228 then ((laws_toComplex.f k a0_0 l0_1).bind fun bt246 => ((laws_eqComplex.f k bt230.1 bt230.2 bt246.1 bt246.2).bind fun t250 => (if t250 = true then ((laws_markComplex.f k bt230.1 bt230.2 1).bind fun bt251 => (if bt251.1 < 0 then (none) else ((laws_eqComplex.f k bt235.1 bt235.2.1 t221 t222).bind fun t253 => (if t253 = true then ((laws_eqPairS.f k bt235.2.2.1 t225).bind fun t254 => (if t254 = true then ((laws_markComplex.f k bt235.1 bt235.2.1 1).bind fun bt255 => ((laws_markPairS.f bt235.2.2.1 bt255.1).bind fun bt257 => ((laws_heldComplex.f k bt235.1 bt255.2 1).bind fun t259 => (if t259 < 0 then (none) else ((laws_heldPairS.f bt257.2 t259).bind fun t260 => (if t260 < 0 then (none) else (if t260 = bt257.1 then ((laws_toComplex.f k a0_0 l0_1).bind fun bt261 => ((impl_CollapseOf.f bt261.1 bt261.2).bind fun bt265 => ((laws_eqComplex.f k bt265.1 bt265.2.1 t221 t222).bind fun t274 => (if t274 = true then ((laws_eqPairS.f k bt265.2.2.1 t225).bind fun t275 => (if t275 = true then (if bt265.2.2.2 = t228 then ((laws_heldComplex.f k bt235.1 bt255.2 1).bind fun t276 => (if t276 < 0 then (none) else ((laws_heldPairS.f bt257.2 t276).bind fun t277 => (if t277 < 0 then (none) else (if t277 = bt257.1 then (some true) else (none)))))) else (none)) else (none))) else (none))))) else (none)))))))) else (none))) else (none))))) else (none)))) else (none)) else (none))) else (none))))) = some r := H
    have A8 := Aside0.mk A80
    clear A80
    replace H := Option.bind_eq_some_iff.mp H
    obtain ⟨⟨t230, t231⟩, A90, H⟩ := H
    replace H : ((impl_CollapseOf.f t230 t231).bind fun bt235 => ((laws_eqComplex.f k bt235.1 bt235.2.1 t221 t222).bind fun t244 => (if t244 = true then ((laws_eqPairS.f k bt235.2.2.1 t225).bind fun t245 => (if t245 = true then (if bt235.2.2.2 = t228 then ((laws_toComplex.f k a0_0 l0_1).bind fun bt246 => ((laws_eqComplex.f k t230 t231 bt246.1 bt246.2).bind fun t250 => (if t250 = true then ((laws_markComplex.f k t230 t231 1).bind fun bt251 => (if bt251.1 < 0 then (none) else ((laws_eqComplex.f k bt235.1 bt235.2.1 t221 t222).bind fun t253 => (if t253 = true then ((laws_eqPairS.f k bt235.2.2.1 t225).bind fun t254 => (if t254 = true then ((laws_markComplex.f k bt235.1 bt235.2.1 1).bind fun bt255 => ((laws_markPairS.f bt235.2.2.1 bt255.1).bind fun bt257 => ((laws_heldComplex.f k bt235.1 bt255.2 1).bind fun t259 => (if t259 < 0 then (none) else ((laws_heldPairS.f bt257.2 t259).bind fun t260 => (if t260 < 0 then (none) else (if t260 = bt257.1 then ((laws_toComplex.f k a0_0 l0_1).bind fun bt261 => ((impl_CollapseOf.f bt261.1 bt261.2).bind fun bt265 => ((laws_eqComplex.f k bt265.1 bt265.2.1 t221 t222).bind fun t274 => (if t274 = true then ((laws_eqPairS.f k bt265.2.2.1 t225).bind fun t275 => (if t275 = true then (if bt265.2.2.2 = t228 then ((laws_heldComplex.f k bt235.1 bt255.2 1).bind fun t276 => (if t276 < 0 then (none) else ((laws_heldPairS.f bt257.2 t276).bind fun t277 => (if t277 < 0 then (none) else (if t277 = bt257.1 then (some true) else (none)))))) else (none)) else (none))) else (none))))) else (none)))))))) else (none))) else (none))))) else (none)))) else (none)) else (none))) else (none)))) = some r := H
    have A9 := Aside0.mk A90
    clear A90
    replace H := Option.bind_eq_some_iff.mp H
    obtain ⟨⟨t235, t236, t239, t242⟩, A100, H⟩ := H
    replace H : ((laws_eqComplex.f k t235 t236 t221 t222).bind fun t244 => (if t244 = true then ((laws_eqPairS.f k t239 t225).bind fun t245 => (if t245 = true then (if t242 = t228 then ((laws_toComplex.f k a0_0 l0_1).bind fun bt246 => ((laws_eqComplex.f k t230 t231 bt246.1 bt246.2).bind fun t250 => (if t250 = true then ((laws_markComplex.f k t230 t231 1).bind fun bt251 => (if bt251.1 < 0 then (none) else ((laws_eqComplex.f k t235 t236 t221 t222).bind fun t253 => (if t253 = true then ((laws_eqPairS.f k t239 t225).bind fun t254 => (if t254 = true then ((laws_markComplex.f k t235 t236 1).bind fun bt255 => ((laws_markPairS.f t239 bt255.1).bind fun bt257 => ((laws_heldComplex.f k t235 bt255.2 1).bind fun t259 => (if t259 < 0 then (none) else ((laws_heldPairS.f bt257.2 t259).bind fun t260 => (if t260 < 0 then (none) else (if t260 = bt257.1 then ((laws_toComplex.f k a0_0 l0_1).bind fun bt261 => ((impl_CollapseOf.f bt261.1 bt261.2).bind fun bt265 => ((laws_eqComplex.f k bt265.1 bt265.2.1 t221 t222).bind fun t274 => (if t274 = true then ((laws_eqPairS.f k bt265.2.2.1 t225).bind fun t275 => (if t275 = true then (if bt265.2.2.2 = t228 then ((laws_heldComplex.f k t235 bt255.2 1).bind fun t276 => (if t276 < 0 then (none) else ((laws_heldPairS.f bt257.2 t276).bind fun t277 => (if t277 < 0 then (none) else (if t277 = bt257.1 then (some true) else (none)))))) else (none)) else (none))) else (none))))) else (none)))))))) else (none))) else (none))))) else (none)))) else (none)) else (none))) else (none))) = some r := H
    have A10 := Aside0.mk A100
    clear A100
    replace H := Option.bind_eq_some_iff.mp H
    obtain ⟨t244, A110, H⟩ := H
    replace H : (if t244 = true then ((laws_eqPairS.f k t239 t225).bind fun t245 => (if t245 = true then (if t242 = t228 then ((laws_toComplex.f k a0_0 l0_1).bind fun bt246 => ((laws_eqComplex.f k t230 t231 bt246.1 bt246.2).bind fun t250 => (if t250 = true then ((laws_markComplex.f k t230 t231 1).bind fun bt251 => (if bt251.1 < 0 then (none) else ((laws_eqComplex.f k t235 t236 t221 t222).bind fun t253 => (if t253 = true then ((laws_eqPairS.f k t239 t225).bind fun t254 => (if t254 = true then ((laws_markComplex.f k t235 t236 1).bind fun bt255 => ((laws_markPairS.f t239 bt255.1).bind fun bt257 => ((laws_heldComplex.f k t235 bt255.2 1).bind fun t259 => (if t259 < 0 then (none) else ((laws_heldPairS.f bt257.2 t259).bind fun t260 => (if t260 < 0 then (none) else (if t260 = bt257.1 then ((laws_toComplex.f k a0_0 l0_1).bind fun bt261 => ((impl_CollapseOf.f bt261.1 bt261.2).bind fun bt265 => ((laws_eqComplex.f k bt265.1 bt265.2.1 t221 t222).bind fun t274 => (if t274 = true then ((laws_eqPairS.f k bt265.2.2.1 t225).bind fun t275 => (if t275 = true then (if bt265.2.2.2 = t228 then ((laws_heldComplex.f k t235 bt255.2 1).bind fun t276 => (if t276 < 0 then (none) else ((laws_heldPairS.f bt257.2 t276).bind fun t277 => (if t277 < 0 then (none) else (if t277 = bt257.1 then (some true) else (none)))))) else (none)) else (none))) else (none))))) else (none)))))))) else (none))) else (none))))) else (none)))) else (none)) else (none))) else (none)) = some r := H
    have A11 := Aside0.mk A110
    clear A110
    by_cases c12 : t244 = true
    · subst c12
      have H1 : ((laws_eqPairS.f k t239 t225).bind fun t245 => (if t245 = true then (if t242 = t228 then ((laws_toComplex.f k a0_0 l0_1).bind fun bt246 => ((laws_eqComplex.f k t230 t231 bt246.1 bt246.2).bind fun t250 => (if t250 = true then ((laws_markComplex.f k t230 t231 1).bind fun bt251 => (if bt251.1 < 0 then (none) else ((laws_eqComplex.f k t235 t236 t221 t222).bind fun t253 => (if t253 = true then ((laws_eqPairS.f k t239 t225).bind fun t254 => (if t254 = true then ((laws_markComplex.f k t235 t236 1).bind fun bt255 => ((laws_markPairS.f t239 bt255.1).bind fun bt257 => ((laws_heldComplex.f k t235 bt255.2 1).bind fun t259 => (if t259 < 0 then (none) else ((laws_heldPairS.f bt257.2 t259).bind fun t260 => (if t260 < 0 then (none) else (if t260 = bt257.1 then ((laws_toComplex.f k a0_0 l0_1).bind fun bt261 => ((impl_CollapseOf.f bt261.1 bt261.2).bind fun bt265 => ((laws_eqComplex.f k bt265.1 bt265.2.1 t221 t222).bind fun t274 => (if t274 = true then ((laws_eqPairS.f k bt265.2.2.1 t225).bind fun t275 => (if t275 = true then (if bt265.2.2.2 = t228 then ((laws_heldComplex.f k t235 bt255.2 1).bind fun t276 => (if t276 < 0 then (none) else ((laws_heldPairS.f bt257.2 t276).bind fun t277 => (if t277 < 0 then (none) else (if t277 = bt257.1 then (some true) else (none)))))) else (none)) else (none))) else (none))))) else (none)))))))) else (none))) else (none))))) else (none)))) else (none)) else (none))) = some r := by rw [if_pos rfl] at H; exact H
      clear H
      have H := H1
      clear H1
      replace H := Option.bind_eq_some_iff.mp H
      obtain ⟨t245, A130, H⟩ := H
      replace H : (if t245 = true then (if t242 = t228 then ((laws_toComplex.f k a0_0 l0_1).bind fun bt246 => ((laws_eqComplex.f k t230 t231 bt246.1 bt246.2).bind fun t250 => (if t250 = true then ((laws_markComplex.f k t230 t231 1).bind fun bt251 => (if bt251.1 < 0 then (none) else ((laws_eqComplex.f k t235 t236 t221 t222).bind fun t253 => (if t253 = true then ((laws_eqPairS.f k t239 t225).bind fun t254 => (if t254 = true then ((laws_markComplex.f k t235 t236 1).bind fun bt255 => ((laws_markPairS.f t239 bt255.1).bind fun bt257 => ((laws_heldComplex.f k t235 bt255.2 1).bind fun t259 => (if t259 < 0 then (none) else ((laws_heldPairS.f bt257.2 t259).bind fun t260 => (if t260 < 0 then (none) else (if t260 = bt257.1 then ((laws_toComplex.f k a0_0 l0_1).bind fun bt261 => ((impl_CollapseOf.f bt261.1 bt261.2).bind fun bt265 => ((laws_eqComplex.f k bt265.1 bt265.2.1 t221 t222).bind fun t274 => (if t274 = true then ((laws_eqPairS.f k bt265.2.2.1 t225).bind fun t275 => (if t275 = true then (if bt265.2.2.2 = t228 then ((laws_heldComplex.f k t235 bt255.2 1).bind fun t276 => (if t276 < 0 then (none) else ((laws_heldPairS.f bt257.2 t276).bind fun t277 => (if t277 < 0 then (none) else (if t277 = bt257.1 then (some true) else (none)))))) else (none)) else (none))) else (none))))) else (none)))))))) else (none))) else (none))))) else (none)))) else (none)) else (none)) = some r := H
      have A13 := Aside0.mk A130
      clear A130
      by_cases c14 : t245 = true
      · subst c14
        have H1 : (if t242 = t228 then ((laws_toComplex.f k a0_0 l0_1).bind fun bt246 => ((laws_eqComplex.f k t230 t231 bt246.1 bt246.2).bind fun t250 => (if t250 = true then ((laws_markComplex.f k t230 t231 1).bind fun bt251 => (if bt251.1 < 0 then (none) else ((laws_eqComplex.f k t235 t236 t221 t222).bind fun t253 => (if t253 = true then ((laws_eqPairS.f k t239 t225).bind fun t254 => (if t254 = true then ((laws_markComplex.f k t235 t236 1).bind fun bt255 => ((laws_markPairS.f t239 bt255.1).bind fun bt257 => ((laws_heldComplex.f k t235 bt255.2 1).bind fun t259 => (if t259 < 0 then (none) else ((laws_heldPairS.f bt257.2 t259).bind fun t260 => (if t260 < 0 then (none) else (if t260 = bt257.1 then ((laws_toComplex.f k a0_0 l0_1).bind fun bt261 => ((impl_CollapseOf.f bt261.1 bt261.2).bind fun bt265 => ((laws_eqComplex.f k bt265.1 bt265.2.1 t221 t222).bind fun t274 => (if t274 = true then ((laws_eqPairS.f k bt265.2.2.1 t225).bind fun t275 => (if t275 = true then (if bt265.2.2.2 = t228 then ((laws_heldComplex.f k t235 bt255.2 1).bind fun t276 => (if t276 < 0 then (none) else ((laws_heldPairS.f bt257.2 t276).bind fun t277 => (if t277 < 0 then (none) else (if t277 = bt257.1 then (some true) else (none)))))) else (none)) else (none))) else (none))))) else (none)))))))) else (none))) else (none))))) else (none)))) else (none)) = some r := by rw [if_pos rfl] at H; exact H
        clear H
        have H := H1
        clear H1
        by_cases c15 : t242 = t228
        · rw [if_pos c15] at H
          have c15b0 : (t242 == t228) = true := beq_iff_eq.mpr c15
          have c15b1 : (t242 != t228) = false := bne_eq_false_iff_eq.mpr c15
          clear c15
          replace H := Option.bind_eq_some_iff.mp H
          obtain ⟨⟨t246, t247⟩, A160, H⟩ := H
          replace H : ((laws_eqComplex.f k t230 t231 t246 t247).bind fun t250 => (if t250 = true then ((laws_markComplex.f k t230 t231 1).bind fun bt251 => (if bt251.1 < 0 then (none) else ((laws_eqComplex.f k t235 t236 t221 t222).bind fun t253 => (if t253 = true then ((laws_eqPairS.f k t239 t225).bind fun t254 => (if t254 = true then ((laws_markComplex.f k t235 t236 1).bind fun bt255 => ((laws_markPairS.f t239 bt255.1).bind fun bt257 => ((laws_heldComplex.f k t235 bt255.2 1).bind fun t259 => (if t259 < 0 then (none) else ((laws_heldPairS.f bt257.2 t259).bind fun t260 => (if t260 < 0 then (none) else (if t260 = bt257.1 then ((laws_toComplex.f k a0_0 l0_1).bind fun bt261 => ((impl_CollapseOf.f bt261.1 bt261.2).bind fun bt265 => ((laws_eqComplex.f k bt265.1 bt265.2.1 t221 t222).bind fun t274 => (if t274 = true then ((laws_eqPairS.f k bt265.2.2.1 t225).bind fun t275 => (if t275 = true then (if bt265.2.2.2 = t228 then ((laws_heldComplex.f k t235 bt255.2 1).bind fun t276 => (if t276 < 0 then (none) else ((laws_heldPairS.f bt257.2 t276).bind fun t277 => (if t277 < 0 then (none) else (if t277 = bt257.1 then (some true) else (none)))))) else (none)) else (none))) else (none))))) else (none)))))))) else (none))) else (none))))) else (none))) = some r := H
          have A16 := Aside0.mk A160
          clear A160
          replace H := Option.bind_eq_some_iff.mp H
          obtain ⟨t250, A170, H⟩ := H
          replace H : (if t250 = true then ((laws_markComplex.f k t230 t231 1).bind fun bt251 => (if bt251.1 < 0 then (none) else ((laws_eqComplex.f k t235 t236 t221 t222).bind fun t253 => (if t253 = true then ((laws_eqPairS.f k t239 t225).bind fun t254 => (if t254 = true then ((laws_markComplex.f k t235 t236 1).bind fun bt255 => ((laws_markPairS.f t239 bt255.1).bind fun bt257 => ((laws_heldComplex.f k t235 bt255.2 1).bind fun t259 => (if t259 < 0 then (none) else ((laws_heldPairS.f bt257.2 t259).bind fun t260 => (if t260 < 0 then (none) else (if t260 = bt257.1 then ((laws_toComplex.f k a0_0 l0_1).bind fun bt261 => ((impl_CollapseOf.f bt261.1 bt261.2).bind fun bt265 => ((laws_eqComplex.f k bt265.1 bt265.2.1 t221 t222).bind fun t274 => (if t274 = true then ((laws_eqPairS.f k bt265.2.2.1 t225).bind fun t275 => (if t275 = true then (if bt265.2.2.2 = t228 then ((laws_heldComplex.f k t235 bt255.2 1).bind fun t276 => (if t276 < 0 then (none) else ((laws_heldPairS.f bt257.2 t276).bind fun t277 => (if t277 < 0 then (none) else (if t277 = bt257.1 then (some true) else (none)))))) else (none)) else (none))) else (none))))) else (none)))))))) else (none))) else (none))))) else (none)) = some r := H
          have A17 := Aside0.mk A170
          clear A170
          by_cases c18 : t250 = true
          · subst c18
            have H1 : ((laws_markComplex.f k t230 t231 1).bind fun bt251 => (if bt251.1 < 0 then (none) else ((laws_eqComplex.f k t235 t236 t221 t222).bind fun t253 => (if t253 = true then ((laws_eqPairS.f k t239 t225).bind fun t254 => (if t254 = true then ((laws_markComplex.f k t235 t236 1).bind fun bt255 => ((laws_markPairS.f t239 bt255.1).bind fun bt257 => ((laws_heldComplex.f k t235 bt255.2 1).bind fun t259 => (if t259 < 0 then (none) else ((laws_heldPairS.f bt257.2 t259).bind fun t260 => (if t260 < 0 then (none) else (if t260 = bt257.1 then ((laws_toComplex.f k a0_0 l0_1).bind fun bt261 => ((impl_CollapseOf.f bt261.1 bt261.2).bind fun bt265 => ((laws_eqComplex.f k bt265.1 bt265.2.1 t221 t222).bind fun t274 => (if t274 = true then ((laws_eqPairS.f k bt265.2.2.1 t225).bind fun t275 => (if t275 = true then (if bt265.2.2.2 = t228 then ((laws_heldComplex.f k t235 bt255.2 1).bind fun t276 => (if t276 < 0 then (none) else ((laws_heldPairS.f bt257.2 t276).bind fun t277 => (if t277 < 0 then (none) else (if t277 = bt257.1 then (some true) else (none)))))) else (none)) else (none))) else (none))))) else (none)))))))) else (none))) else (none))))) = some r := by rw [if_pos rfl] at H; exact H
            clear H
            have H := H1
            clear H1
            replace H := Option.bind_eq_some_iff.mp H
            obtain ⟨⟨t251, t252⟩, A190, H⟩ := H
            replace H : (if t251 < 0 then (none) else ((laws_eqComplex.f k t235 t236 t221 t222).bind fun t253 => (if t253 = true then ((laws_eqPairS.f k t239 t225).bind fun t254 => (if t254 = true then ((laws_markComplex.f k t235 t236 1).bind fun bt255 => ((laws_markPairS.f t239 bt255.1).bind fun bt257 => ((laws_heldComplex.f k t235 bt255.2 1).bind fun t259 => (if t259 < 0 then (none) else ((laws_heldPairS.f bt257.2 t259).bind fun t260 => (if t260 < 0 then (none) else (if t260 = bt257.1 then ((laws_toComplex.f k a0_0 l0_1).bind fun bt261 => ((impl_CollapseOf.f bt261.1 bt261.2).bind fun bt265 => ((laws_eqComplex.f k bt265.1 bt265.2.1 t221 t222).bind fun t274 => (if t274 = true then ((laws_eqPairS.f k bt265.2.2.1 t225).bind fun t275 => (if t275 = true then (if bt265.2.2.2 = t228 then ((laws_heldComplex.f k t235 bt255.2 1).bind fun t276 => (if t276 < 0 then (none) else ((laws_heldPairS.f bt257.2 t276).bind fun t277 => (if t277 < 0 then (none) else (if t277 = bt257.1 then (some true) else (none)))))) else (none)) else (none))) else (none))))) else (none)))))))) else (none))) else (none)))) = some r := H
            have A19 := Aside0.mk A190
            clear A190
            by_cases c20 : t251 < 0
            · rw [if_pos c20] at H
              exact absurd H (by simp)
            · rw [if_neg c20] at H
              have c20b0 : decide (t251 < 0) = false := decide_eq_false c20
              clear c20
              replace H := Option.bind_eq_some_iff.mp H
              obtain ⟨t253, A210, H⟩ := H
              replace H : (if t253 = true then ((laws_eqPairS.f k t239 t225).bind fun t254 => (if t254 = true then ((laws_markComplex.f k t235 t236 1).bind fun bt255 => ((laws_markPairS.f t239 bt255.1).bind fun bt257 => ((laws_heldComplex.f k t235 bt255.2 1).bind fun t259 => (if t259 < 0 then (none) else ((laws_heldPairS.f bt257.2 t259).bind fun t260 => (if t260 < 0 then (none) else (if t260 = bt257.1 then ((laws_toComplex.f k a0_0 l0_1).bind fun bt261 => ((impl_CollapseOf.f bt261.1 bt261.2).bind fun bt265 => ((laws_eqComplex.f k bt265.1 bt265.2.1 t221 t222).bind fun t274 => (if t274 = true then ((laws_eqPairS.f k bt265.2.2.1 t225).bind fun t275 => (if t275 = true then (if bt265.2.2.2 = t228 then ((laws_heldComplex.f k t235 bt255.2 1).bind fun t276 => (if t276 < 0 then (none) else ((laws_heldPairS.f bt257.2 t276).bind fun t277 => (if t277 < 0 then (none) else (if t277 = bt257.1 then (some true) else (none)))))) else (none)) else (none))) else (none))))) else (none)))))))) else (none))) else (none)) = some r := H
              have A21 := Aside0.mk A210
              clear A210
              by_cases c22 : t253 = true
              · subst c22
                have H1 : ((laws_eqPairS.f k t239 t225).bind fun t254 => (if t254 = true then ((laws_markComplex.f k t235 t236 1).bind fun bt255 => ((laws_markPairS.f t239 bt255.1).bind fun bt257 => ((laws_heldComplex.f k t235 bt255.2 1).bind fun t259 => (if t259 < 0 then (none) else ((laws_heldPairS.f bt257.2 t259).bind fun t260 => (if t260 < 0 then (none) else (if t260 = bt257.1 then ((laws_toComplex.f k a0_0 l0_1).bind fun bt261 => ((impl_CollapseOf.f bt261.1 bt261.2).bind fun bt265 => ((laws_eqComplex.f k bt265.1 bt265.2.1 t221 t222).bind fun t274 => (if t274 = true then ((laws_eqPairS.f k bt265.2.2.1 t225).bind fun t275 => (if t275 = true then (if bt265.2.2.2 = t228 then ((laws_heldComplex.f k t235 bt255.2 1).bind fun t276 => (if t276 < 0 then (none) else ((laws_heldPairS.f bt257.2 t276).bind fun t277 => (if t277 < 0 then (none) else (if t277 = bt257.1 then (some true) else (none)))))) else (none)) else (none))) else (none))))) else (none)))))))) else (none))) = some r := by rw [if_pos rfl] at H; exact H
                clear H
                have H := H1
                clear H1
                replace H := Option.bind_eq_some_iff.mp H
                obtain ⟨t254, A230, H⟩ := H
                replace H : (if t254 = true then ((laws_markComplex.f k t235 t236 1).bind fun bt255 => ((laws_markPairS.f t239 bt255.1).bind fun bt257 => ((laws_heldComplex.f k t235 bt255.2 1).bind fun t259 => (if t259 < 0 then (none) else ((laws_heldPairS.f bt257.2 t259).bind fun t260 => (if t260 < 0 then (none) else (if t260 = bt257.1 then ((laws_toComplex.f k a0_0 l0_1).bind fun bt261 => ((impl_CollapseOf.f bt261.1 bt261.2).bind fun bt265 => ((laws_eqComplex.f k bt265.1 bt265.2.1 t221 t222).bind fun t274 => (if t274 = true then ((laws_eqPairS.f k bt265.2.2.1 t225).bind fun t275 => (if t275 = true then (if bt265.2.2.2 = t228 then ((laws_heldComplex.f k t235 bt255.2 1).bind fun t276 => (if t276 < 0 then (none) else ((laws_heldPairS.f bt257.2 t276).bind fun t277 => (if t277 < 0 then (none) else (if t277 = bt257.1 then (some true) else (none)))))) else (none)) else (none))) else (none))))) else (none)))))))) else (none)) = some r := H
                have A23 := Aside0.mk A230
                clear A230
                by_cases c24 : t254 = true
                · subst c24
                  have H1 : ((laws_markComplex.f k t235 t236 1).bind fun bt255 => ((laws_markPairS.f t239 bt255.1).bind fun bt257 => ((laws_heldComplex.f k t235 bt255.2 1).bind fun t259 => (if t259 < 0 then (none) else ((laws_heldPairS.f bt257.2 t259).bind fun t260 => (if t260 < 0 then (none) else (if t260 = bt257.1 then ((laws_toComplex.f k a0_0 l0_1).bind fun bt261 => ((impl_CollapseOf.f bt261.1 bt261.2).bind fun bt265 => ((laws_eqComplex.f k bt265.1 bt265.2.1 t221 t222).bind fun t274 => (if t274 = true then ((laws_eqPairS.f k bt265.2.2.1 t225).bind fun t275 => (if t275 = true then (if bt265.2.2.2 = t228 then ((laws_heldComplex.f k t235 bt255.2 1).bind fun t276 => (if t276 < 0 then (none) else ((laws_heldPairS.f bt257.2 t276).bind fun t277 => (if t277 < 0 then (none) else (if t277 = bt257.1 then (some true) else (none)))))) else (none)) else (none))) else (none))))) else (none)))))))) = some r := by rw [if_pos rfl] at H; exact H
                  clear H
                  have H := H1
                  clear H1
                  replace H := Option.bind_eq_some_iff.mp H
                  obtain ⟨⟨t255, t256⟩, A250, H⟩ := H
                  replace H : ((laws_markPairS.f t239 t255).bind fun bt257 => ((laws_heldComplex.f k t235 t256 1).bind fun t259 => (if t259 < 0 then (none) else ((laws_heldPairS.f bt257.2 t259).bind fun t260 => (if t260 < 0 then (none) else (if t260 = bt257.1 then ((laws_toComplex.f k a0_0 l0_1).bind fun bt261 => ((impl_CollapseOf.f bt261.1 bt261.2).bind fun bt265 => ((laws_eqComplex.f k bt265.1 bt265.2.1 t221 t222).bind fun t274 => (if t274 = true then ((laws_eqPairS.f k bt265.2.2.1 t225).bind fun t275 => (if t275 = true then (if bt265.2.2.2 = t228 then ((laws_heldComplex.f k t235 t256 1).bind fun t276 => (if t276 < 0 then (none) else ((laws_heldPairS.f bt257.2 t276).bind fun t277 => (if t277 < 0 then (none) else (if t277 = bt257.1 then (some true) else (none)))))) else (none)) else (none))) else (none))))) else (none))))))) = some r := H
                  have A25 := Aside0.mk A250
                  clear A250
                  replace H := Option.bind_eq_some_iff.mp H
                  obtain ⟨⟨t257, t258⟩, A260, H⟩ := H
                  replace H : ((laws_heldComplex.f k t235 t256 1).bind fun t259 => (if t259 < 0 then (none) else ((laws_heldPairS.f t258 t259).bind fun t260 => (if t260 < 0 then (none) else (if t260 = t257 then ((laws_toComplex.f k a0_0 l0_1).bind fun bt261 => ((impl_CollapseOf.f bt261.1 bt261.2).bind fun bt265 => ((laws_eqComplex.f k bt265.1 bt265.2.1 t221 t222).bind fun t274 => (if t274 = true then ((laws_eqPairS.f k bt265.2.2.1 t225).bind fun t275 => (if t275 = true then (if bt265.2.2.2 = t228 then ((laws_heldComplex.f k t235 t256 1).bind fun t276 => (if t276 < 0 then (none) else ((laws_heldPairS.f t258 t276).bind fun t277 => (if t277 < 0 then (none) else (if t277 = t257 then (some true) else (none)))))) else (none)) else (none))) else (none))))) else (none)))))) = some r := H
                  have A26 := Aside0.mk A260
                  clear A260
                  replace H := Option.bind_eq_some_iff.mp H
                  obtain ⟨t259, A270, H⟩ := H
                  replace H : (if t259 < 0 then (none) else ((laws_heldPairS.f t258 t259).bind fun t260 => (if t260 < 0 then (none) else (if t260 = t257 then ((laws_toComplex.f k a0_0 l0_1).bind fun bt261 => ((impl_CollapseOf.f bt261.1 bt261.2).bind fun bt265 => ((laws_eqComplex.f k bt265.1 bt265.2.1 t221 t222).bind fun t274 => (if t274 = true then ((laws_eqPairS.f k bt265.2.2.1 t225).bind fun t275 => (if t275 = true then (if bt265.2.2.2 = t228 then ((laws_heldComplex.f k t235 t256 1).bind fun t276 => (if t276 < 0 then (none) else ((laws_heldPairS.f t258 t276).bind fun t277 => (if t277 < 0 then (none) else (if t277 = t257 then (some true) else (none)))))) else (none)) else (none))) else (none))))) else (none))))) = some r := H
                  have A27 := Aside0.mk A270
                  clear A270
                  by_cases c28 : t259 < 0
                  · rw [if_pos c28] at H
                    exact absurd H (by simp)
                  · rw [if_neg c28] at H
                    have c28b0 : decide (t259 < 0) = false := decide_eq_false c28
                    clear c28
                    replace H := Option.bind_eq_some_iff.mp H
                    obtain ⟨t260, A290, H⟩ := H
                    replace H : (if t260 < 0 then (none) else (if t260 = t257 then ((laws_toComplex.f k a0_0 l0_1).bind fun bt261 => ((impl_CollapseOf.f bt261.1 bt261.2).bind fun bt265 => ((laws_eqComplex.f k bt265.1 bt265.2.1 t221 t222).bind fun t274 => (if t274 = true then ((laws_eqPairS.f k bt265.2.2.1 t225).bind fun t275 => (if t275 = true then (if bt265.2.2.2 = t228 then ((laws_heldComplex.f k t235 t256 1).bind fun t276 => (if t276 < 0 then (none) else ((laws_heldPairS.f t258 t276).bind fun t277 => (if t277 < 0 then (none) else (if t277 = t257 then (some true) else (none)))))) else (none)) else (none))) else (none))))) else (none))) = some r := H
                    have A29 := Aside0.mk A290
                    clear A290
                    by_cases c30 : t260 < 0
                    · rw [if_pos c30] at H
                      exact absurd H (by simp)
                    · rw [if_neg c30] at H
                      have c30b0 : decide (t260 < 0) = false := decide_eq_false c30
                      clear c30
                      by_cases c31 : t260 = t257
                      · rw [if_pos c31] at H
                        have c31b0 : (t260 == t257) = true := beq_iff_eq.mpr c31
                        have c31b1 : (t260 != t257) = false := bne_eq_false_iff_eq.mpr c31
                        clear c31
                        replace H := Option.bind_eq_some_iff.mp H
                        obtain ⟨⟨t261, t262⟩, A320, H⟩ := H
                        replace H : ((impl_CollapseOf.f t261 t262).bind fun bt265 => ((laws_eqComplex.f k bt265.1 bt265.2.1 t221 t222).bind fun t274 => (if t274 = true then ((laws_eqPairS.f k bt265.2.2.1 t225).bind fun t275 => (if t275 = true then (if bt265.2.2.2 = t228 then ((laws_heldComplex.f k t235 t256 1).bind fun t276 => (if t276 < 0 then (none) else ((laws_heldPairS.f t258 t276).bind fun t277 => (if t277 < 0 then (none) else (if t277 = t257 then (some true) else (none)))))) else (none)) else (none))) else (none)))) = some r := H
                        have A32 := Aside0.mk A320
                        clear A320
                        replace H := Option.bind_eq_some_iff.mp H
                        obtain ⟨⟨t265, t266, t269, t272⟩, A330, H⟩ := H
                        replace H : ((laws_eqComplex.f k t265 t266 t221 t222).bind fun t274 => (if t274 = true then ((laws_eqPairS.f k t269 t225).bind fun t275 => (if t275 = true then (if t272 = t228 then ((laws_heldComplex.f k t235 t256 1).bind fun t276 => (if t276 < 0 then (none) else ((laws_heldPairS.f t258 t276).bind fun t277 => (if t277 < 0 then (none) else (if t277 = t257 then (some true) else (none)))))) else (none)) else (none))) else (none))) = some r := H
                        have A33 := Aside0.mk A330
                        clear A330
                        replace H := Option.bind_eq_some_iff.mp H
                        obtain ⟨t274, A340, H⟩ := H
                        replace H : (if t274 = true then ((laws_eqPairS.f k t269 t225).bind fun t275 => (if t275 = true then (if t272 = t228 then ((laws_heldComplex.f k t235 t256 1).bind fun t276 => (if t276 < 0 then (none) else ((laws_heldPairS.f t258 t276).bind fun t277 => (if t277 < 0 then (none) else (if t277 = t257 then (some true) else (none)))))) else (none)) else (none))) else (none)) = some r := H
                        have A34 := Aside0.mk A340
                        clear A340
                        by_cases c35 : t274 = true
                        · subst c35
                          have H1 : ((laws_eqPairS.f k t269 t225).bind fun t275 => (if t275 = true then (if t272 = t228 then ((laws_heldComplex.f k t235 t256 1).bind fun t276 => (if t276 < 0 then (none) else ((laws_heldPairS.f t258 t276).bind fun t277 => (if t277 < 0 then (none) else (if t277 = t257 then (some true) else (none)))))) else (none)) else (none))) = some r := by rw [if_pos rfl] at H; exact H
                          clear H
                          have H := H1
                          clear H1
                          replace H := Option.bind_eq_some_iff.mp H
                          obtain ⟨t275, A360, H⟩ := H
                          replace H : (if t275 = true then (if t272 = t228 then ((laws_heldComplex.f k t235 t256 1).bind fun t276 => (if t276 < 0 then (none) else ((laws_heldPairS.f t258 t276).bind fun t277 => (if t277 < 0 then (none) else (if t277 = t257 then (some true) else (none)))))) else (none)) else (none)) = some r := H
                          have A36 := Aside0.mk A360
                          clear A360
                          by_cases c37 : t275 = true
                          · subst c37
                            have H1 : (if t272 = t228 then ((laws_heldComplex.f k t235 t256 1).bind fun t276 => (if t276 < 0 then (none) else ((laws_heldPairS.f t258 t276).bind fun t277 => (if t277 < 0 then (none) else (if t277 = t257 then (some true) else (none)))))) else (none)) = some r := by rw [if_pos rfl] at H; exact H
                            clear H
                            have H := H1
                            clear H1
                            by_cases c38 : t272 = t228
                            · rw [if_pos c38] at H
                              have c38b0 : (t272 == t228) = true := beq_iff_eq.mpr c38
                              have c38b1 : (t272 != t228) = false := bne_eq_false_iff_eq.mpr c38
                              clear c38
                              replace H := Option.bind_eq_some_iff.mp H
                              obtain ⟨t276, A390, H⟩ := H
                              replace H : (if t276 < 0 then (none) else ((laws_heldPairS.f t258 t276).bind fun t277 => (if t277 < 0 then (none) else (if t277 = t257 then (some true) else (none))))) = some r := H
                              have A39 := Aside0.mk A390
                              clear A390
                              by_cases c40 : t276 < 0
                              · rw [if_pos c40] at H
                                exact absurd H (by simp)
                              · rw [if_neg c40] at H
                                have c40b0 : decide (t276 < 0) = false := decide_eq_false c40
                                clear c40
                                replace H := Option.bind_eq_some_iff.mp H
                                obtain ⟨t277, A410, H⟩ := H
                                replace H : (if t277 < 0 then (none) else (if t277 = t257 then (some true) else (none))) = some r := H
                                have A41 := Aside0.mk A410
                                clear A410
                                by_cases c42 : t277 < 0
                                · rw [if_pos c42] at H
                                  exact absurd H (by simp)
                                · rw [if_neg c42] at H
                                  have c42b0 : decide (t277 < 0) = false := decide_eq_false c42
                                  clear c42
                                  by_cases c43 : t277 = t257
                                  · rw [if_pos c43] at H
                                    have c43b0 : (t277 == t257) = true := beq_iff_eq.mpr c43
                                    have c43b1 : (t277 != t257) = false := bne_eq_false_iff_eq.mpr c43
                                    clear c43
                                    obtain rfl := Option.some.inj H
                                    go_enter Try.func3, Try.ntmps3
                                    try go_wp2_with (first | ((with_reducible refine gate_dst (N := 1) rfl ?_); refine box_event ?hg (N := 1) ?hd (cs := #[.int .i64 a0_0, .slice A0_1 l0_1.length c0_1]) (t := 24) ?hr ?_; (case hd => rfl); (case hg => rfl); (case hr => first | (go_simp; done) | (go_simp; rfl)); intro gb215 hg w44 hbox hb; have n0_ := Aside0.mk (below_step (by repeat (first | (with_reducible first | exact HB.out | apply below_alloc | apply pw_below_drewN | apply below_drew1) | exact HB.out)) hb); have n1_ := Aside0.mk (hbox); have n2_ := Aside0.mk ((by rw [hg]; exact (below_size (by repeat (first | (with_reducible first | exact HB.out | apply below_alloc | apply pw_below_drewN | apply below_drew1) | exact HB.out))) : w.heap.size ≤ gb215)); have n3_ := Aside0.mk ((by rw [hg]; exact (below_size (by repeat (first | (with_reducible first | exact HB.out | apply below_alloc | apply pw_below_drewN | apply below_drew1) | exact HB.out))) : w.heap.size ≤ gb215)); clear HB; have HB := n0_; have BK215 := n1_; have GW215 := n2_; have GE215 := n3_; clear n0_ n1_ n2_ n3_; clear hb hbox hg; have hcz45_0 : w44.cell? ⟨gb215, 0, none⟩ = some (.int .i64 a0_0) := (blk_cell BK215.out 0).trans rfl; have hcz45_1 : w44.cell? ⟨gb215, 1, none⟩ = some (.slice A0_1 l0_1.length c0_1) := (blk_cell BK215.out 1).trans rfl; have hfz45_0 := blk_frozen BK215.out 0; have hfz45_1 := blk_frozen BK215.out 1) | ((with_reducible refine gate_callee (f := 15) rfl ?_); refine goesL_ (some 19) rfl rfl Try.func15 (by kernel_rfl) rfl #[.agg #[.int .i64 a0_0, .slice A0_1 l0_1.length c0_1], .int .i64 1048576] rfl (by (try simp only [List.map_toArray, List.map_cons, List.map_nil]); first | done | rfl | (simp only [List.length_drop, List.length_take]; rfl)) ?_; (with_reducible refine (laws_szComplex.calls a0_0 _ _ l0_1 1048576 t216 _ ?side1 ?side2 A2.out).mono ?_); (case side1 => repeat (first | exact (Kd.C_below HR0_1.out HB.out) | (with_reducible refine Kd.C_alloc ?_ _) | (with_reducible refine Kd.C_drewN ?_ _) | (with_reducible refine Kd.C_drew ?_))); (case side2 => exact HC0_1.out); rintro e w46 ⟨rfl, hb⟩; refine ⟨_, rfl, ?_⟩; have n0_ := Aside0.mk (blk_below (g := gb215) (o := .cells #[.int .i64 a0_0, .slice A0_1 l0_1.length c0_1] 24 (0, 0)) (by (with_reducible repeat (first | refine blk_drewN ?_ _ | refine blk_drew ?_ | refine blk_alloc ?_ _)); exact BK215.out) hb); have n1_ := Aside0.mk (below_step (by repeat (first | (with_reducible first | exact HB.out | apply below_alloc | apply pw_below_drewN | apply below_drew1 | refine below_set ?_ GE215.out) | exact HB.out)) hb); clear BK215; clear HB; have BK215 := n0_; have HB := n1_; clear n0_ n1_; (try clear hb); (try clear hb2); (try clear hk); (try clear hi); have hcz47_0 : w46.cell? ⟨gb215, 0, none⟩ = some (.int .i64 a0_0) := (blk_cell BK215.out 0).trans rfl; have hcz47_1 : w46.cell? ⟨gb215, 1, none⟩ = some (.slice A0_1 l0_1.length c0_1) := (blk_cell BK215.out 1).trans rfl; have hfz47_0 := blk_frozen BK215.out 0; have hfz47_1 := blk_frozen BK215.out 1) | ((with_reducible refine gate_callee (f := 17) rfl ?_); refine goesL_ (some 24) rfl rfl Try.func17 (by kernel_rfl) rfl #[.agg #[.int .i64 a0_0, .slice A0_1 l0_1.length c0_1]] rfl (by (try simp only [List.map_toArray, List.map_cons, List.map_nil]); first | done | rfl | (simp only [List.length_drop, List.length_take]; rfl)) ?_; (with_reducible refine (laws_toComplex.calls k a0_0 _ _ l0_1 t217 t218 _ ?side1 ?side2 A7.out).mono ?_); (case side1 => repeat (first | exact (Kd.C_below HR0_1.out HB.out) | (with_reducible refine Kd.C_alloc ?_ _) | (with_reducible refine Kd.C_drewN ?_ _) | (with_reducible refine Kd.C_drew ?_))); (case side2 => exact HC0_1.out); rintro e w48 ⟨v219, rfl, ho0, hb⟩; refine ⟨_, rfl, ?_⟩; have n0_ := Aside0.mk (Kd.R_lower ho0 (below_size (by repeat (first | (with_reducible first | exact HB.out | apply below_alloc | apply pw_below_drewN | apply below_drew1 | refine below_set ?_ GE215.out) | exact HB.out)))); have n1_ := Aside0.mk (blk_below (g := gb215) (o := .cells #[.int .i64 a0_0, .slice A0_1 l0_1.length c0_1] 24 (0, 0)) (by (with_reducible repeat (first | refine blk_drewN ?_ _ | refine blk_drew ?_ | refine blk_alloc ?_ _)); exact BK215.out) hb); have n2_ := Aside0.mk (below_step (by repeat (first | (with_reducible first | exact HB.out | apply below_alloc | apply pw_below_drewN | apply below_drew1 | refine below_set ?_ GE215.out) | exact HB.out)) hb); clear BK215; clear HB; have HO220 := n0_; have BK215 := n1_; have HB := n2_; clear n0_ n1_ n2_; (try clear hb); (try clear hb2); (try clear hk); (try clear hi); (try clear ho0); obtain ⟨Ao49, co49, eo49⟩ := Kd.R_slice HO220.out; subst eo49) | ((with_reducible refine gate_callee (f := 16) rfl ?_); refine goesL_ (some 25) rfl rfl Try.func16 (by kernel_rfl) rfl #[.agg #[.int .i64 t217, .slice Ao49 t218.length co49]] rfl (by (try simp only [List.map_toArray, List.map_cons, List.map_nil]); first | done | rfl | (simp only [List.length_drop, List.length_take]; rfl)) ?_; (with_reducible refine (spec_CollapseOf.calls k t217 _ _ t218 t221 t222 t225 t228 _ ?side1 ?side2 A8.out).mono ?_); (case side1 => repeat (first | exact (Kd.R_reads' HO220.out).2.2 | (with_reducible refine Kd.C_alloc ?_ _) | (with_reducible refine Kd.C_drewN ?_ _) | (with_reducible refine Kd.C_drew ?_))); (case side2 => exact (Kd.R_reads' HO220.out).2.1); rintro e w50 ⟨v223, v226, rfl, ho0, ho1, hb⟩; refine ⟨_, rfl, ?_⟩; have n0_ := Aside0.mk (Kd.R_elder' (by (with_reducible repeat (first | apply Kd.R_alloc | apply Kd.R_drewN | apply Kd.R_drew)); exact HO220.out) (Kd.R_base ho0) hb); have n1_ := Aside0.mk (Kd.R_lower (Kd.R_new' ho0 (Kd.R_lt (by (with_reducible repeat (first | apply Kd.R_alloc | apply Kd.R_drewN | apply Kd.R_drew)); exact HO220.out))) (below_size (by repeat (first | (with_reducible first | exact HB.out | apply below_alloc | apply pw_below_drewN | apply below_drew1 | refine below_set ?_ GE215.out) | exact HB.out)))); have n2_ := Aside0.mk (Kd.R_lower ho1 (below_size (by repeat (first | (with_reducible first | exact HB.out | apply below_alloc | apply pw_below_drewN | apply below_drew1 | refine below_set ?_ GE215.out) | exact HB.out)))); have n3_ := Aside0.mk (blk_below (g := gb215) (o := .cells #[.int .i64 a0_0, .slice A0_1 l0_1.length c0_1] 24 (0, 0)) (by (with_reducible repeat (first | refine blk_drewN ?_ _ | refine blk_drew ?_ | refine blk_alloc ?_ _)); exact BK215.out) hb); have n4_ := Aside0.mk (below_step (by repeat (first | (with_reducible first | exact HB.out | apply below_alloc | apply pw_below_drewN | apply below_drew1 | refine below_set ?_ GE215.out) | exact HB.out)) hb); clear HO220; clear BK215; clear HB; have HO220 := n0_; have HO224 := n1_; have HO227 := n2_; have BK215 := n3_; have HB := n4_; clear n0_ n1_ n2_ n3_ n4_; (try clear hb); (try clear hb2); (try clear hk); (try clear hi); (try clear ho0); (try clear ho1)) | ((with_reducible refine gate_dst (N := 4) rfl ?_); refine box_event ?hg (N := 4) ?hd (cs := #[.int .i64 0, .slice none 0 0]) (t := 26) ?hr ?_; (case hd => rfl); (case hg => rfl); (case hr => first | (go_simp; done) | (go_simp; rfl)); intro gb229 hg w51 hbox hb; have n0_ := Aside0.mk (Kd.R_below (by (with_reducible repeat (first | apply Kd.R_alloc | apply Kd.R_drewN | apply Kd.R_drew)); exact HO220.out) hb); have n1_ := Aside0.mk (Kd.R_below (by (with_reducible repeat (first | apply Kd.R_alloc | apply Kd.R_drewN | apply Kd.R_drew)); exact HO224.out) hb); have n2_ := Aside0.mk (Kd.R_below (by (with_reducible repeat (first | apply Kd.R_alloc | apply Kd.R_drewN | apply Kd.R_drew)); exact HO227.out) hb); have n3_ := Aside0.mk (blk_below (g := gb215) (o := .cells #[.int .i64 a0_0, .slice A0_1 l0_1.length c0_1] 24 (0, 0)) (by (with_reducible repeat (first | refine blk_drewN ?_ _ | refine blk_drew ?_ | refine blk_alloc ?_ _)); exact BK215.out) hb); have n4_ := Aside0.mk (below_step (by repeat (first | (with_reducible first | exact HB.out | apply below_alloc | apply pw_below_drewN | apply below_drew1 | refine below_set ?_ GE215.out) | exact HB.out)) hb); have n5_ := Aside0.mk (hbox); have n6_ := Aside0.mk ((by rw [hg]; exact (below_size (by repeat (first | (with_reducible first | exact HB.out | apply below_alloc | apply pw_below_drewN | apply below_drew1 | refine below_set ?_ GE215.out) | exact HB.out))) : w.heap.size ≤ gb229)); have n7_ := Aside0.mk ((by rw [hg]; exact (below_size (by repeat (first | (with_reducible first | exact HB.out | apply below_alloc | apply pw_below_drewN | apply below_drew1 | refine below_set ?_ GE215.out) | exact HB.out))) : w.heap.size ≤ gb229)); have n8_ := Aside0.mk ((by rw [hg]; exact Nat.ne_of_lt (blk_lt (g := gb215) (o := .cells #[.int .i64 a0_0, .slice A0_1 l0_1.length c0_1] 24 (0, 0)) (by (with_reducible repeat (first | refine blk_drewN ?_ _ | refine blk_drew ?_ | refine blk_alloc ?_ _)); exact BK215.out)) : gb215 ≠ gb229)); have n9_ := Aside0.mk ((by rw [hg]; exact Nat.ne_of_gt (blk_lt (g := gb215) (o := .cells #[.int .i64 a0_0, .slice A0_1 l0_1.length c0_1] 24 (0, 0)) (by (with_reducible repeat (first | refine blk_drewN ?_ _ | refine blk_drew ?_ | refine blk_alloc ?_ _)); exact BK215.out)) : gb229 ≠ gb215)); clear HO220; clear HO224; clear HO227; clear BK215; clear HB; have HO220 := n0_; have HO224 := n1_; have HO227 := n2_; have BK215 := n3_; have HB := n4_; have BK229 := n5_; have GW229 := n6_; have GE229 := n7_; have NB215_229 := n8_; have NB229_215 := n9_; clear n0_ n1_ n2_ n3_ n4_ n5_ n6_ n7_ n8_ n9_; clear hb hbox hg; have hnb52 := NB229_215.out; have hnc52 := NB215_229.out; have hcz53_0 : w51.cell? ⟨gb229, 0, none⟩ = some (.int .i64 0) := (blk_cell BK229.out 0).trans rfl; have hcz53_1 : w51.cell? ⟨gb229, 1, none⟩ = some (.slice none 0 0) := (blk_cell BK229.out 1).trans rfl; have hfz53_0 := blk_frozen BK229.out 0; have hfz53_1 := blk_frozen BK229.out 1; obtain ⟨Ao54, co54, eo54⟩ := Kd.R_slice HO224.out; subst eo54; have hcz55_0 : w51.cell? ⟨gb215, 0, none⟩ = some (.int .i64 a0_0) := (blk_cell BK215.out 0).trans rfl; have hcz55_1 : w51.cell? ⟨gb215, 1, none⟩ = some (.slice A0_1 l0_1.length c0_1) := (blk_cell BK215.out 1).trans rfl; have hfz55_0 := blk_frozen BK215.out 0; have hfz55_1 := blk_frozen BK215.out 1) | ((with_reducible refine gate_callee (f := 17) rfl ?_); refine goesL_ (some 30) rfl rfl Try.func17 (by kernel_rfl) rfl #[.agg #[.int .i64 a0_0, .slice A0_1 l0_1.length c0_1]] rfl (by (try simp only [List.map_toArray, List.map_cons, List.map_nil]); first | done | rfl | (simp only [List.length_drop, List.length_take]; rfl)) ?_; (with_reducible refine (laws_toComplex.calls k a0_0 _ _ l0_1 t230 t231 _ ?side1 ?side2 A9.out).mono ?_); (case side1 => exact Kd.C_below HR0_1.out (by repeat (first | (with_reducible first | exact HB.out | apply below_alloc | apply pw_below_drewN | apply below_drew1 | refine below_set ?_ GE215.out | refine below_set ?_ GE229.out) | exact HB.out))); (case side2 => exact HC0_1.out); rintro e w56 ⟨v232, rfl, ho0, hb⟩; refine ⟨_, rfl, ?_⟩; have n0_ := Aside0.mk (Kd.R_elder' (by (with_reducible repeat (first | apply Kd.R_alloc | apply Kd.R_drewN | apply Kd.R_drew)); exact (Kd.R_mono (Kd.R_far (p := ⟨gb229, 1, none⟩) (Kd.R_far (p := ⟨gb229, 0, none⟩) (Kd.R_types HO220.out BK229.out (by decide)) (fun _ hk => hk.2) (.int .i64 t221)) (fun _ hk => hk.2) (.slice Ao54 t222.length co54)) (fun _ h_ => h_.1))) (Kd.R_base ho0) hb); have n1_ := Aside0.mk (Kd.R_elder' (by (with_reducible repeat (first | apply Kd.R_alloc | apply Kd.R_drewN | apply Kd.R_drew)); exact (Kd.R_mono (Kd.R_far (p := ⟨gb229, 1, none⟩) (Kd.R_far (p := ⟨gb229, 0, none⟩) (Kd.R_types HO224.out BK229.out (by decide)) (fun _ hk => hk.2) (.int .i64 t221)) (fun _ hk => hk.2) (.slice Ao54 t222.length co54)) (fun _ h_ => h_.1))) (Kd.R_base ho0) hb); have n2_ := Aside0.mk (Kd.R_below (by (with_reducible repeat (first | apply Kd.R_alloc | apply Kd.R_drewN | apply Kd.R_drew)); exact (Kd.R_mono (Kd.R_far (p := ⟨gb229, 1, none⟩) (Kd.R_far (p := ⟨gb229, 0, none⟩) (Kd.R_types HO227.out BK229.out (by decide)) (fun _ hk => hk.2) (.int .i64 t221)) (fun _ hk => hk.2) (.slice Ao54 t222.length co54)) (fun _ h_ => h_.1))) hb); have n3_ := Aside0.mk (Kd.R_lower (Kd.R_new' (Kd.R_new' ho0 (Kd.R_lt (by (with_reducible repeat (first | apply Kd.R_alloc | apply Kd.R_drewN | apply Kd.R_drew)); exact (Kd.R_mono (Kd.R_far (p := ⟨gb229, 1, none⟩) (Kd.R_far (p := ⟨gb229, 0, none⟩) (Kd.R_types HO220.out BK229.out (by decide)) (fun _ hk => hk.2) (.int .i64 t221)) (fun _ hk => hk.2) (.slice Ao54 t222.length co54)) (fun _ h_ => h_.1))))) (Kd.R_lt (by (with_reducible repeat (first | apply Kd.R_alloc | apply Kd.R_drewN | apply Kd.R_drew)); exact (Kd.R_mono (Kd.R_far (p := ⟨gb229, 1, none⟩) (Kd.R_far (p := ⟨gb229, 0, none⟩) (Kd.R_types HO224.out BK229.out (by decide)) (fun _ hk => hk.2) (.int .i64 t221)) (fun _ hk => hk.2) (.slice Ao54 t222.length co54)) (fun _ h_ => h_.1))))) (below_size (by repeat (first | (with_reducible first | exact HB.out | apply below_alloc | apply pw_below_drewN | apply below_drew1 | refine below_set ?_ GE215.out | refine below_set ?_ GE229.out) | exact HB.out)))); have n4_ := Aside0.mk (blk_below (g := gb215) (o := .cells #[.int .i64 a0_0, .slice A0_1 l0_1.length c0_1] 24 (0, 0)) (by (with_reducible repeat (first | refine blk_drewN ?_ _ | refine blk_drew ?_ | refine blk_alloc ?_ _)); refine blk_far ?_ NB215_229.out _; (with_reducible repeat (first | refine blk_drewN ?_ _ | refine blk_drew ?_ | refine blk_alloc ?_ _)); refine blk_far ?_ NB215_229.out _; (with_reducible repeat (first | refine blk_drewN ?_ _ | refine blk_drew ?_ | refine blk_alloc ?_ _)); exact BK215.out) hb); have n5_ := Aside0.mk (blk_below (g := gb229) (o := .cells #[.int .i64 t221, .slice Ao54 t222.length co54] 26 (0, 0)) (by (with_reducible repeat (first | refine blk_drewN ?_ _ | refine blk_drew ?_ | refine blk_alloc ?_ _)); refine blk_put (cs := #[.int .i64 t221, .slice none 0 0]) ?_ 1 _ rfl; (with_reducible repeat (first | refine blk_drewN ?_ _ | refine blk_drew ?_ | refine blk_alloc ?_ _)); refine blk_put (cs := #[.int .i64 0, .slice none 0 0]) ?_ 0 _ rfl; (with_reducible repeat (first | refine blk_drewN ?_ _ | refine blk_drew ?_ | refine blk_alloc ?_ _)); exact BK229.out) hb); have n6_ := Aside0.mk (below_step (by repeat (first | (with_reducible first | exact HB.out | apply below_alloc | apply pw_below_drewN | apply below_drew1 | refine below_set ?_ GE215.out | refine below_set ?_ GE229.out) | exact HB.out)) hb); clear HO220; clear HO224; clear HO227; clear BK215; clear BK229; clear HB; have HO220 := n0_; have HO224 := n1_; have HO227 := n2_; have HO233 := n3_; have BK215 := n4_; have BK229 := n5_; have HB := n6_; clear n0_ n1_ n2_ n3_ n4_ n5_ n6_; (try clear hb); (try clear hb2); (try clear hk); (try clear hi); (try clear ho0)) | ((with_reducible refine gate_dst (N := 7) rfl ?_); refine box_event ?hg (N := 7) ?hd (cs := #[.int .i64 0, .slice none 0 0]) (t := 26) ?hr ?_; (case hd => rfl); (case hg => rfl); (case hr => first | (go_simp; done) | (go_simp; rfl)); intro gb234 hg w57 hbox hb; have n0_ := Aside0.mk (Kd.R_below (by (with_reducible repeat (first | apply Kd.R_alloc | apply Kd.R_drewN | apply Kd.R_drew)); exact HO220.out) hb); have n1_ := Aside0.mk (Kd.R_below (by (with_reducible repeat (first | apply Kd.R_alloc | apply Kd.R_drewN | apply Kd.R_drew)); exact HO224.out) hb); have n2_ := Aside0.mk (Kd.R_below (by (with_reducible repeat (first | apply Kd.R_alloc | apply Kd.R_drewN | apply Kd.R_drew)); exact HO227.out) hb); have n3_ := Aside0.mk (Kd.R_below (by (with_reducible repeat (first | apply Kd.R_alloc | apply Kd.R_drewN | apply Kd.R_drew)); exact HO233.out) hb); have n4_ := Aside0.mk (blk_below (g := gb215) (o := .cells #[.int .i64 a0_0, .slice A0_1 l0_1.length c0_1] 24 (0, 0)) (by (with_reducible repeat (first | refine blk_drewN ?_ _ | refine blk_drew ?_ | refine blk_alloc ?_ _)); exact BK215.out) hb); have n5_ := Aside0.mk (blk_below (g := gb229) (o := .cells #[.int .i64 t221, .slice Ao54 t222.length co54] 26 (0, 0)) (by (with_reducible repeat (first | refine blk_drewN ?_ _ | refine blk_drew ?_ | refine blk_alloc ?_ _)); exact BK229.out) hb); have n6_ := Aside0.mk (below_step (by repeat (first | (with_reducible first | exact HB.out | apply below_alloc | apply pw_below_drewN | apply below_drew1 | refine below_set ?_ GE215.out | refine below_set ?_ GE229.out) | exact HB.out)) hb); have n7_ := Aside0.mk (hbox); have n8_ := Aside0.mk ((by rw [hg]; exact (below_size (by repeat (first | (with_reducible first | exact HB.out | apply below_alloc | apply pw_below_drewN | apply below_drew1 | refine below_set ?_ GE215.out | refine below_set ?_ GE229.out) | exact HB.out))) : w.heap.size ≤ gb234)); have n9_ := Aside0.mk ((by rw [hg]; exact (below_size (by repeat (first | (with_reducible first | exact HB.out | apply below_alloc | apply pw_below_drewN | apply below_drew1 | refine below_set ?_ GE215.out | refine below_set ?_ GE229.out) | exact HB.out))) : w.heap.size ≤ gb234)); have n10_ := Aside0.mk ((by rw [hg]; exact Nat.ne_of_lt (blk_lt (g := gb215) (o := .cells #[.int .i64 a0_0, .slice A0_1 l0_1.length c0_1] 24 (0, 0)) (by (with_reducible repeat (first | refine blk_drewN ?_ _ | refine blk_drew ?_ | refine blk_alloc ?_ _)); exact BK215.out)) : gb215 ≠ gb234)); have n11_ := Aside0.mk ((by rw [hg]; exact Nat.ne_of_gt (blk_lt (g := gb215) (o := .cells #[.int .i64 a0_0, .slice A0_1 l0_1.length c0_1] 24 (0, 0)) (by (with_reducible repeat (first | refine blk_drewN ?_ _ | refine blk_drew ?_ | refine blk_alloc ?_ _)); exact BK215.out)) : gb234 ≠ gb215)); have n12_ := Aside0.mk ((by rw [hg]; exact Nat.ne_of_lt (blk_lt (g := gb229) (o := .cells #[.int .i64 t221, .slice Ao54 t222.length co54] 26 (0, 0)) (by (with_reducible repeat (first | refine blk_drewN ?_ _ | refine blk_drew ?_ | refine blk_alloc ?_ _)); exact BK229.out)) : gb229 ≠ gb234)); have n13_ := Aside0.mk ((by rw [hg]; exact Nat.ne_of_gt (blk_lt (g := gb229) (o := .cells #[.int .i64 t221, .slice Ao54 t222.length co54] 26 (0, 0)) (by (with_reducible repeat (first | refine blk_drewN ?_ _ | refine blk_drew ?_ | refine blk_alloc ?_ _)); exact BK229.out)) : gb234 ≠ gb229)); clear HO220; clear HO224; clear HO227; clear HO233; clear BK215; clear BK229; clear HB; have HO220 := n0_; have HO224 := n1_; have HO227 := n2_; have HO233 := n3_; have BK215 := n4_; have BK229 := n5_; have HB := n6_; have BK234 := n7_; have GW234 := n8_; have GE234 := n9_; have NB215_234 := n10_; have NB234_215 := n11_; have NB229_234 := n12_; have NB234_229 := n13_; clear n0_ n1_ n2_ n3_ n4_ n5_ n6_ n7_ n8_ n9_ n10_ n11_ n12_ n13_; clear hb hbox hg; have hnb58 := NB234_215.out; have hnc58 := NB215_234.out; have hnb59 := NB234_229.out; have hnc59 := NB229_234.out; have hcz60_0 : w57.cell? ⟨gb234, 0, none⟩ = some (.int .i64 0) := (blk_cell BK234.out 0).trans rfl; have hcz60_1 : w57.cell? ⟨gb234, 1, none⟩ = some (.slice none 0 0) := (blk_cell BK234.out 1).trans rfl; have hfz60_0 := blk_frozen BK234.out 0; have hfz60_1 := blk_frozen BK234.out 1; obtain ⟨Ao61, co61, eo61⟩ := Kd.R_slice HO233.out; subst eo61) | ((with_reducible refine gate_callee (f := 18) rfl ?_); refine goesL_ (some 33) rfl rfl Try.func18 (by kernel_rfl) rfl #[.agg #[.int .i64 t230, .slice Ao61 t231.length co61]] rfl (by (try simp only [List.map_toArray, List.map_cons, List.map_nil]); first | done | rfl | (simp only [List.length_drop, List.length_take]; rfl)) ?_; (with_reducible refine (impl_CollapseOf.calls t230 _ _ t231 t235 t236 t239 t242 _ ?side1 ?side2 A10.out).mono ?_); (case side1 => refine (Kd.R_reads' (e := 2) (base := w.heap.size) (ok := fun k_ => ((True ∧ some k_ ≠ (.slice Ao49 t218.length co49 : Value).ownBlock) ∧ some k_ ≠ (.slice Ao54 t222.length co54 : Value).ownBlock)) (n := t231.length) (c := co61) ?_).2.2; exact (by (with_reducible repeat (first | apply Kd.R_alloc | apply Kd.R_drewN | apply Kd.R_drew)); exact (Kd.R_mono (Kd.R_far (p := ⟨gb234, 1, none⟩) (Kd.R_far (p := ⟨gb234, 0, none⟩) (Kd.R_types HO233.out BK234.out (by decide)) (fun _ hk => hk.2) (.int .i64 t230)) (fun _ hk => hk.2) (.slice Ao61 t231.length co61)) (fun _ h_ => h_.1)))); (case side2 => exact (Kd.R_reads' HO233.out).2.1); rintro e w62 ⟨v237, v240, rfl, ho0, ho1, hb⟩; refine ⟨_, rfl, ?_⟩; have n0_ := Aside0.mk (Kd.R_elder' (by (with_reducible repeat (first | apply Kd.R_alloc | apply Kd.R_drewN | apply Kd.R_drew)); exact (Kd.R_mono (Kd.R_far (p := ⟨gb234, 1, none⟩) (Kd.R_far (p := ⟨gb234, 0, none⟩) (Kd.R_types HO220.out BK234.out (by decide)) (fun _ hk => hk.2) (.int .i64 t230)) (fun _ hk => hk.2) (.slice Ao61 t231.length co61)) (fun _ h_ => h_.1))) (Kd.R_base ho0) hb); have n1_ := Aside0.mk (Kd.R_elder' (by (with_reducible repeat (first | apply Kd.R_alloc | apply Kd.R_drewN | apply Kd.R_drew)); exact (Kd.R_mono (Kd.R_far (p := ⟨gb234, 1, none⟩) (Kd.R_far (p := ⟨gb234, 0, none⟩) (Kd.R_types HO224.out BK234.out (by decide)) (fun _ hk => hk.2) (.int .i64 t230)) (fun _ hk => hk.2) (.slice Ao61 t231.length co61)) (fun _ h_ => h_.1))) (Kd.R_base ho0) hb); have n2_ := Aside0.mk (Kd.R_elder' (by (with_reducible repeat (first | apply Kd.R_alloc | apply Kd.R_drewN | apply Kd.R_drew)); exact (Kd.R_mono (Kd.R_far (p := ⟨gb234, 1, none⟩) (Kd.R_far (p := ⟨gb234, 0, none⟩) (Kd.R_types HO227.out BK234.out (by decide)) (fun _ hk => hk.2) (.int .i64 t230)) (fun _ hk => hk.2) (.slice Ao61 t231.length co61)) (fun _ h_ => h_.1))) (Kd.R_base ho1) hb); have n3_ := Aside0.mk (Kd.R_elder' (by (with_reducible repeat (first | apply Kd.R_alloc | apply Kd.R_drewN | apply Kd.R_drew)); exact (Kd.R_mono (Kd.R_far (p := ⟨gb234, 1, none⟩) (Kd.R_far (p := ⟨gb234, 0, none⟩) (Kd.R_types HO233.out BK234.out (by decide)) (fun _ hk => hk.2) (.int .i64 t230)) (fun _ hk => hk.2) (.slice Ao61 t231.length co61)) (fun _ h_ => h_.1))) (Kd.R_base ho0) hb); have n4_ := Aside0.mk (Kd.R_lower (Kd.R_new' (Kd.R_new' (Kd.R_new' ho0 (Kd.R_lt (by (with_reducible repeat (first | apply Kd.R_alloc | apply Kd.R_drewN | apply Kd.R_drew)); exact (Kd.R_mono (Kd.R_far (p := ⟨gb234, 1, none⟩) (Kd.R_far (p := ⟨gb234, 0, none⟩) (Kd.R_types HO220.out BK234.out (by decide)) (fun _ hk => hk.2) (.int .i64 t230)) (fun _ hk => hk.2) (.slice Ao61 t231.length co61)) (fun _ h_ => h_.1))))) (Kd.R_lt (by (with_reducible repeat (first | apply Kd.R_alloc | apply Kd.R_drewN | apply Kd.R_drew)); exact (Kd.R_mono (Kd.R_far (p := ⟨gb234, 1, none⟩) (Kd.R_far (p := ⟨gb234, 0, none⟩) (Kd.R_types HO224.out BK234.out (by decide)) (fun _ hk => hk.2) (.int .i64 t230)) (fun _ hk => hk.2) (.slice Ao61 t231.length co61)) (fun _ h_ => h_.1))))) (Kd.R_lt (by (with_reducible repeat (first | apply Kd.R_alloc | apply Kd.R_drewN | apply Kd.R_drew)); exact (Kd.R_mono (Kd.R_far (p := ⟨gb234, 1, none⟩) (Kd.R_far (p := ⟨gb234, 0, none⟩) (Kd.R_types HO233.out BK234.out (by decide)) (fun _ hk => hk.2) (.int .i64 t230)) (fun _ hk => hk.2) (.slice Ao61 t231.length co61)) (fun _ h_ => h_.1))))) (below_size (by repeat (first | (with_reducible first | exact HB.out | apply below_alloc | apply pw_below_drewN | apply below_drew1 | refine below_set ?_ GE215.out | refine below_set ?_ GE229.out | refine below_set ?_ GE234.out) | exact HB.out)))); have n5_ := Aside0.mk (Kd.R_lower (Kd.R_new' ho1 (Kd.R_lt (by (with_reducible repeat (first | apply Kd.R_alloc | apply Kd.R_drewN | apply Kd.R_drew)); exact (Kd.R_mono (Kd.R_far (p := ⟨gb234, 1, none⟩) (Kd.R_far (p := ⟨gb234, 0, none⟩) (Kd.R_types HO227.out BK234.out (by decide)) (fun _ hk => hk.2) (.int .i64 t230)) (fun _ hk => hk.2) (.slice Ao61 t231.length co61)) (fun _ h_ => h_.1))))) (below_size (by repeat (first | (with_reducible first | exact HB.out | apply below_alloc | apply pw_below_drewN | apply below_drew1 | refine below_set ?_ GE215.out | refine below_set ?_ GE229.out | refine below_set ?_ GE234.out) | exact HB.out)))); have n6_ := Aside0.mk (blk_below (g := gb215) (o := .cells #[.int .i64 a0_0, .slice A0_1 l0_1.length c0_1] 24 (0, 0)) (by (with_reducible repeat (first | refine blk_drewN ?_ _ | refine blk_drew ?_ | refine blk_alloc ?_ _)); refine blk_far ?_ NB215_234.out _; (with_reducible repeat (first | refine blk_drewN ?_ _ | refine blk_drew ?_ | refine blk_alloc ?_ _)); refine blk_far ?_ NB215_234.out _; (with_reducible repeat (first | refine blk_drewN ?_ _ | refine blk_drew ?_ | refine blk_alloc ?_ _)); exact BK215.out) hb); have n7_ := Aside0.mk (blk_below (g := gb229) (o := .cells #[.int .i64 t221, .slice Ao54 t222.length co54] 26 (0, 0)) (by (with_reducible repeat (first | refine blk_drewN ?_ _ | refine blk_drew ?_ | refine blk_alloc ?_ _)); refine blk_far ?_ NB229_234.out _; (with_reducible repeat (first | refine blk_drewN ?_ _ | refine blk_drew ?_ | refine blk_alloc ?_ _)); refine blk_far ?_ NB229_234.out _; (with_reducible repeat (first | refine blk_drewN ?_ _ | refine blk_drew ?_ | refine blk_alloc ?_ _)); exact BK229.out) hb); have n8_ := Aside0.mk (blk_below (g := gb234) (o := .cells #[.int .i64 t230, .slice Ao61 t231.length co61] 26 (0, 0)) (by (with_reducible repeat (first | refine blk_drewN ?_ _ | refine blk_drew ?_ | refine blk_alloc ?_ _)); refine blk_put (cs := #[.int .i64 t230, .slice none 0 0]) ?_ 1 _ rfl; (with_reducible repeat (first | refine blk_drewN ?_ _ | refine blk_drew ?_ | refine blk_alloc ?_ _)); refine blk_put (cs := #[.int .i64 0, .slice none 0 0]) ?_ 0 _ rfl; (with_reducible repeat (first | refine blk_drewN ?_ _ | refine blk_drew ?_ | refine blk_alloc ?_ _)); exact BK234.out) hb); have n9_ := Aside0.mk (below_step (by repeat (first | (with_reducible first | exact HB.out | apply below_alloc | apply pw_below_drewN | apply below_drew1 | refine below_set ?_ GE215.out | refine below_set ?_ GE229.out | refine below_set ?_ GE234.out) | exact HB.out)) hb); clear HO220; clear HO224; clear HO227; clear HO233; clear BK215; clear BK229; clear BK234; clear HB; have HO220 := n0_; have HO224 := n1_; have HO227 := n2_; have HO233 := n3_; have HO238 := n4_; have HO241 := n5_; have BK215 := n6_; have BK229 := n7_; have BK234 := n8_; have HB := n9_; clear n0_ n1_ n2_ n3_ n4_ n5_ n6_ n7_ n8_ n9_; (try clear hb); (try clear hb2); (try clear hk); (try clear hi); (try clear ho0); (try clear ho1)) | ((with_reducible refine gate_dst (N := 8) rfl ?_); refine box_event ?hg (N := 8) ?hd (cs := #[.int .i64 0, .slice none 0 0]) (t := 26) ?hr ?_; (case hd => rfl); (case hg => rfl); (case hr => first | (go_simp; done) | (go_simp; rfl)); intro gb243 hg w63 hbox hb; have n0_ := Aside0.mk (Kd.R_below (by (with_reducible repeat (first | apply Kd.R_alloc | apply Kd.R_drewN | apply Kd.R_drew)); exact HO220.out) hb); have n1_ := Aside0.mk (Kd.R_below (by (with_reducible repeat (first | apply Kd.R_alloc | apply Kd.R_drewN | apply Kd.R_drew)); exact HO224.out) hb); have n2_ := Aside0.mk (Kd.R_below (by (with_reducible repeat (first | apply Kd.R_alloc | apply Kd.R_drewN | apply Kd.R_drew)); exact HO227.out) hb); have n3_ := Aside0.mk (Kd.R_below (by (with_reducible repeat (first | apply Kd.R_alloc | apply Kd.R_drewN | apply Kd.R_drew)); exact HO233.out) hb); have n4_ := Aside0.mk (Kd.R_below (by (with_reducible repeat (first | apply Kd.R_alloc | apply Kd.R_drewN | apply Kd.R_drew)); exact HO238.out) hb); have n5_ := Aside0.mk (Kd.R_below (by (with_reducible repeat (first | apply Kd.R_alloc | apply Kd.R_drewN | apply Kd.R_drew)); exact HO241.out) hb); have n6_ := Aside0.mk (blk_below (g := gb215) (o := .cells #[.int .i64 a0_0, .slice A0_1 l0_1.length c0_1] 24 (0, 0)) (by (with_reducible repeat (first | refine blk_drewN ?_ _ | refine blk_drew ?_ | refine blk_alloc ?_ _)); exact BK215.out) hb); have n7_ := Aside0.mk (blk_below (g := gb229) (o := .cells #[.int .i64 t221, .slice Ao54 t222.length co54] 26 (0, 0)) (by (with_reducible repeat (first | refine blk_drewN ?_ _ | refine blk_drew ?_ | refine blk_alloc ?_ _)); exact BK229.out) hb); have n8_ := Aside0.mk (blk_below (g := gb234) (o := .cells #[.int .i64 t230, .slice Ao61 t231.length co61] 26 (0, 0)) (by (with_reducible repeat (first | refine blk_drewN ?_ _ | refine blk_drew ?_ | refine blk_alloc ?_ _)); exact BK234.out) hb); have n9_ := Aside0.mk (below_step (by repeat (first | (with_reducible first | exact HB.out | apply below_alloc | apply pw_below_drewN | apply below_drew1 | refine below_set ?_ GE215.out | refine below_set ?_ GE229.out | refine below_set ?_ GE234.out) | exact HB.out)) hb); have n10_ := Aside0.mk (hbox); have n11_ := Aside0.mk ((by rw [hg]; exact (below_size (by repeat (first | (with_reducible first | exact HB.out | apply below_alloc | apply pw_below_drewN | apply below_drew1 | refine below_set ?_ GE215.out | refine below_set ?_ GE229.out | refine below_set ?_ GE234.out) | exact HB.out))) : w.heap.size ≤ gb243)); have n12_ := Aside0.mk ((by rw [hg]; exact (below_size (by repeat (first | (with_reducible first | exact HB.out | apply below_alloc | apply pw_below_drewN | apply below_drew1 | refine below_set ?_ GE215.out | refine below_set ?_ GE229.out | refine below_set ?_ GE234.out) | exact HB.out))) : w.heap.size ≤ gb243)); have n13_ := Aside0.mk ((by rw [hg]; exact Nat.ne_of_lt (blk_lt (g := gb215) (o := .cells #[.int .i64 a0_0, .slice A0_1 l0_1.length c0_1] 24 (0, 0)) (by (with_reducible repeat (first | refine blk_drewN ?_ _ | refine blk_drew ?_ | refine blk_alloc ?_ _)); exact BK215.out)) : gb215 ≠ gb243)); have n14_ := Aside0.mk ((by rw [hg]; exact Nat.ne_of_gt (blk_lt (g := gb215) (o := .cells #[.int .i64 a0_0, .slice A0_1 l0_1.length c0_1] 24 (0, 0)) (by (with_reducible repeat (first | refine blk_drewN ?_ _ | refine blk_drew ?_ | refine blk_alloc ?_ _)); exact BK215.out)) : gb243 ≠ gb215)); have n15_ := Aside0.mk ((by rw [hg]; exact Nat.ne_of_lt (blk_lt (g := gb229) (o := .cells #[.int .i64 t221, .slice Ao54 t222.length co54] 26 (0, 0)) (by (with_reducible repeat (first | refine blk_drewN ?_ _ | refine blk_drew ?_ | refine blk_alloc ?_ _)); exact BK229.out)) : gb229 ≠ gb243)); have n16_ := Aside0.mk ((by rw [hg]; exact Nat.ne_of_gt (blk_lt (g := gb229) (o := .cells #[.int .i64 t221, .slice Ao54 t222.length co54] 26 (0, 0)) (by (with_reducible repeat (first | refine blk_drewN ?_ _ | refine blk_drew ?_ | refine blk_alloc ?_ _)); exact BK229.out)) : gb243 ≠ gb229)); have n17_ := Aside0.mk ((by rw [hg]; exact Nat.ne_of_lt (blk_lt (g := gb234) (o := .cells #[.int .i64 t230, .slice Ao61 t231.length co61] 26 (0, 0)) (by (with_reducible repeat (first | refine blk_drewN ?_ _ | refine blk_drew ?_ | refine blk_alloc ?_ _)); exact BK234.out)) : gb234 ≠ gb243)); have n18_ := Aside0.mk ((by rw [hg]; exact Nat.ne_of_gt (blk_lt (g := gb234) (o := .cells #[.int .i64 t230, .slice Ao61 t231.length co61] 26 (0, 0)) (by (with_reducible repeat (first | refine blk_drewN ?_ _ | refine blk_drew ?_ | refine blk_alloc ?_ _)); exact BK234.out)) : gb243 ≠ gb234)); clear HO220; clear HO224; clear HO227; clear HO233; clear HO238; clear HO241; clear BK215; clear BK229; clear BK234; clear HB; have HO220 := n0_; have HO224 := n1_; have HO227 := n2_; have HO233 := n3_; have HO238 := n4_; have HO241 := n5_; have BK215 := n6_; have BK229 := n7_; have BK234 := n8_; have HB := n9_; have BK243 := n10_; have GW243 := n11_; have GE243 := n12_; have NB215_243 := n13_; have NB243_215 := n14_; have NB229_243 := n15_; have NB243_229 := n16_; have NB234_243 := n17_; have NB243_234 := n18_; clear n0_ n1_ n2_ n3_ n4_ n5_ n6_ n7_ n8_ n9_ n10_ n11_ n12_ n13_ n14_ n15_ n16_ n17_ n18_; clear hb hbox hg; have hnb64 := NB243_215.out; have hnc64 := NB215_243.out; have hnb65 := NB243_229.out; have hnc65 := NB229_243.out; have hnb66 := NB243_234.out; have hnc66 := NB234_243.out; have hcz67_0 : w63.cell? ⟨gb243, 0, none⟩ = some (.int .i64 0) := (blk_cell BK243.out 0).trans rfl; have hcz67_1 : w63.cell? ⟨gb243, 1, none⟩ = some (.slice none 0 0) := (blk_cell BK243.out 1).trans rfl; have hfz67_0 := blk_frozen BK243.out 0; have hfz67_1 := blk_frozen BK243.out 1; obtain ⟨Ao68, co68, eo68⟩ := Kd.R_slice HO238.out; subst eo68; have hcz69_0 : w63.cell? ⟨gb229, 0, none⟩ = some (.int .i64 t221) := (blk_cell BK229.out 0).trans rfl; have hcz69_1 : w63.cell? ⟨gb229, 1, none⟩ = some (.slice Ao54 t222.length co54) := (blk_cell BK229.out 1).trans rfl; have hfz69_0 := blk_frozen BK229.out 0; have hfz69_1 := blk_frozen BK229.out 1) | ((with_reducible refine gate_callee (f := 19) rfl ?_); refine goesL_ (some 39) rfl rfl Try.func19 (by kernel_rfl) rfl #[.agg #[.int .i64 t235, .slice Ao68 t236.length co68], .agg #[.int .i64 t221, .slice Ao54 t222.length co54]] rfl (by (try simp only [List.map_toArray, List.map_cons, List.map_nil]); first | done | rfl | (simp only [List.length_drop, List.length_take]; rfl)) ?_; (with_reducible refine (laws_eqComplex.calls k t235 _ _ t236 t221 _ _ t222 true _ ?side1 ?side2 ?side3 ?side4 A11.out).mono ?_); (case side1 => refine (Kd.R_reads' (e := 2) (base := w.heap.size) (ok := fun k_ => (((True ∧ some k_ ≠ (.slice Ao49 t218.length co49 : Value).ownBlock) ∧ some k_ ≠ (.slice Ao54 t222.length co54 : Value).ownBlock) ∧ some k_ ≠ (.slice Ao61 t231.length co61 : Value).ownBlock)) (n := t236.length) (c := co68) ?_).2.2; exact (by (with_reducible repeat (first | apply Kd.R_alloc | apply Kd.R_drewN | apply Kd.R_drew)); exact (Kd.R_mono (Kd.R_far (p := ⟨gb243, 1, none⟩) (Kd.R_far (p := ⟨gb243, 0, none⟩) (Kd.R_types HO238.out BK243.out (by decide)) (fun _ hk => hk.2) (.int .i64 t235)) (fun _ hk => hk.2) (.slice Ao68 t236.length co68)) (fun _ h_ => h_.1)))); (case side2 => exact (Kd.R_reads' HO238.out).2.1); (case side3 => refine (Kd.R_reads' (e := 2) (base := w.heap.size) (ok := fun k_ => (((True ∧ some k_ ≠ (.slice Ao49 t218.length co49 : Value).ownBlock) ∧ some k_ ≠ (.slice Ao61 t231.length co61 : Value).ownBlock) ∧ some k_ ≠ (.slice Ao68 t236.length co68 : Value).ownBlock)) (n := t222.length) (c := co54) ?_).2.2; exact (by (with_reducible repeat (first | apply Kd.R_alloc | apply Kd.R_drewN | apply Kd.R_drew)); exact (Kd.R_mono (Kd.R_far (p := ⟨gb243, 1, none⟩) (Kd.R_far (p := ⟨gb243, 0, none⟩) (Kd.R_types HO224.out BK243.out (by decide)) (fun _ hk => hk.2) (.int .i64 t235)) (fun _ hk => hk.2) (.slice Ao68 t236.length co68)) (fun _ h_ => h_.1)))); (case side4 => exact (Kd.R_reads' HO224.out).2.1); rintro e w70 ⟨rfl, hb⟩; refine ⟨_, rfl, ?_⟩; have n0_ := Aside0.mk (Kd.R_below (by (with_reducible repeat (first | apply Kd.R_alloc | apply Kd.R_drewN | apply Kd.R_drew)); exact (Kd.R_mono (Kd.R_far (p := ⟨gb243, 1, none⟩) (Kd.R_far (p := ⟨gb243, 0, none⟩) (Kd.R_types HO220.out BK243.out (by decide)) (fun _ hk => hk.2) (.int .i64 t235)) (fun _ hk => hk.2) (.slice Ao68 t236.length co68)) (fun _ h_ => h_.1))) hb); have n1_ := Aside0.mk (Kd.R_below (by (with_reducible repeat (first | apply Kd.R_alloc | apply Kd.R_drewN | apply Kd.R_drew)); exact (Kd.R_mono (Kd.R_far (p := ⟨gb243, 1, none⟩) (Kd.R_far (p := ⟨gb243, 0, none⟩) (Kd.R_types HO224.out BK243.out (by decide)) (fun _ hk => hk.2) (.int .i64 t235)) (fun _ hk => hk.2) (.slice Ao68 t236.length co68)) (fun _ h_ => h_.1))) hb); have n2_ := Aside0.mk (Kd.R_below (by (with_reducible repeat (first | apply Kd.R_alloc | apply Kd.R_drewN | apply Kd.R_drew)); exact (Kd.R_mono (Kd.R_far (p := ⟨gb243, 1, none⟩) (Kd.R_far (p := ⟨gb243, 0, none⟩) (Kd.R_types HO227.out BK243.out (by decide)) (fun _ hk => hk.2) (.int .i64 t235)) (fun _ hk => hk.2) (.slice Ao68 t236.length co68)) (fun _ h_ => h_.1))) hb); have n3_ := Aside0.mk (Kd.R_below (by (with_reducible repeat (first | apply Kd.R_alloc | apply Kd.R_drewN | apply Kd.R_drew)); exact (Kd.R_mono (Kd.R_far (p := ⟨gb243, 1, none⟩) (Kd.R_far (p := ⟨gb243, 0, none⟩) (Kd.R_types HO233.out BK243.out (by decide)) (fun _ hk => hk.2) (.int .i64 t235)) (fun _ hk => hk.2) (.slice Ao68 t236.length co68)) (fun _ h_ => h_.1))) hb); have n4_ := Aside0.mk (Kd.R_below (by (with_reducible repeat (first | apply Kd.R_alloc | apply Kd.R_drewN | apply Kd.R_drew)); exact (Kd.R_mono (Kd.R_far (p := ⟨gb243, 1, none⟩) (Kd.R_far (p := ⟨gb243, 0, none⟩) (Kd.R_types HO238.out BK243.out (by decide)) (fun _ hk => hk.2) (.int .i64 t235)) (fun _ hk => hk.2) (.slice Ao68 t236.length co68)) (fun _ h_ => h_.1))) hb); have n5_ := Aside0.mk (Kd.R_below (by (with_reducible repeat (first | apply Kd.R_alloc | apply Kd.R_drewN | apply Kd.R_drew)); exact (Kd.R_mono (Kd.R_far (p := ⟨gb243, 1, none⟩) (Kd.R_far (p := ⟨gb243, 0, none⟩) (Kd.R_types HO241.out BK243.out (by decide)) (fun _ hk => hk.2) (.int .i64 t235)) (fun _ hk => hk.2) (.slice Ao68 t236.length co68)) (fun _ h_ => h_.1))) hb); have n6_ := Aside0.mk (blk_below (g := gb215) (o := .cells #[.int .i64 a0_0, .slice A0_1 l0_1.length c0_1] 24 (0, 0)) (by (with_reducible repeat (first | refine blk_drewN ?_ _ | refine blk_drew ?_ | refine blk_alloc ?_ _)); refine blk_far ?_ NB215_243.out _; (with_reducible repeat (first | refine blk_drewN ?_ _ | refine blk_drew ?_ | refine blk_alloc ?_ _)); refine blk_far ?_ NB215_243.out _; (with_reducible repeat (first | refine blk_drewN ?_ _ | refine blk_drew ?_ | refine blk_alloc ?_ _)); exact BK215.out) hb); have n7_ := Aside0.mk (blk_below (g := gb229) (o := .cells #[.int .i64 t221, .slice Ao54 t222.length co54] 26 (0, 0)) (by (with_reducible repeat (first | refine blk_drewN ?_ _ | refine blk_drew ?_ | refine blk_alloc ?_ _)); refine blk_far ?_ NB229_243.out _; (with_reducible repeat (first | refine blk_drewN ?_ _ | refine blk_drew ?_ | refine blk_alloc ?_ _)); refine blk_far ?_ NB229_243.out _; (with_reducible repeat (first | refine blk_drewN ?_ _ | refine blk_drew ?_ | refine blk_alloc ?_ _)); exact BK229.out) hb); have n8_ := Aside0.mk (blk_below (g := gb234) (o := .cells #[.int .i64 t230, .slice Ao61 t231.length co61] 26 (0, 0)) (by (with_reducible repeat (first | refine blk_drewN ?_ _ | refine blk_drew ?_ | refine blk_alloc ?_ _)); refine blk_far ?_ NB234_243.out _; (with_reducible repeat (first | refine blk_drewN ?_ _ | refine blk_drew ?_ | refine blk_alloc ?_ _)); refine blk_far ?_ NB234_243.out _; (with_reducible repeat (first | refine blk_drewN ?_ _ | refine blk_drew ?_ | refine blk_alloc ?_ _)); exact BK234.out) hb); have n9_ := Aside0.mk (blk_below (g := gb243) (o := .cells #[.int .i64 t235, .slice Ao68 t236.length co68] 26 (0, 0)) (by (with_reducible repeat (first | refine blk_drewN ?_ _ | refine blk_drew ?_ | refine blk_alloc ?_ _)); refine blk_put (cs := #[.int .i64 t235, .slice none 0 0]) ?_ 1 _ rfl; (with_reducible repeat (first | refine blk_drewN ?_ _ | refine blk_drew ?_ | refine blk_alloc ?_ _)); refine blk_put (cs := #[.int .i64 0, .slice none 0 0]) ?_ 0 _ rfl; (with_reducible repeat (first | refine blk_drewN ?_ _ | refine blk_drew ?_ | refine blk_alloc ?_ _)); exact BK243.out) hb); have n10_ := Aside0.mk (below_step (by repeat (first | (with_reducible first | exact HB.out | apply below_alloc | apply pw_below_drewN | apply below_drew1 | refine below_set ?_ GE215.out | refine below_set ?_ GE229.out | refine below_set ?_ GE234.out | refine below_set ?_ GE243.out) | exact HB.out)) hb); clear HO220; clear HO224; clear HO227; clear HO233; clear HO238; clear HO241; clear BK215; clear BK229; clear BK234; clear BK243; clear HB; have HO220 := n0_; have HO224 := n1_; have HO227 := n2_; have HO233 := n3_; have HO238 := n4_; have HO241 := n5_; have BK215 := n6_; have BK229 := n7_; have BK234 := n8_; have BK243 := n9_; have HB := n10_; clear n0_ n1_ n2_ n3_ n4_ n5_ n6_ n7_ n8_ n9_ n10_; (try clear hb); (try clear hb2); (try clear hk); (try clear hi); obtain ⟨Ao71, co71, eo71⟩ := Kd.R_slice HO241.out; subst eo71; obtain ⟨Ao72, co72, eo72⟩ := Kd.R_slice HO227.out; subst eo72) | (go_at_call 20; (with_reducible refine (laws_eqPairS.calls k _ _ t239 _ _ t225 true _ ?side1 ?side2 ?side3 ?side4 A13.out).mono ?_); (case side1 => repeat (first | exact (Kd.R_reads' HO241.out).2.2 | (with_reducible refine Kd.C_alloc ?_ _) | (with_reducible refine Kd.C_drewN ?_ _) | (with_reducible refine Kd.C_drew ?_))); (case side2 => exact (Kd.R_reads' HO241.out).2.1); (case side3 => repeat (first | exact (Kd.R_reads' HO227.out).2.2 | (with_reducible refine Kd.C_alloc ?_ _) | (with_reducible refine Kd.C_drewN ?_ _) | (with_reducible refine Kd.C_drew ?_))); (case side4 => exact (Kd.R_reads' HO227.out).2.1); rintro e w73 ⟨rfl, hb⟩; have n0_ := Aside0.mk (Kd.R_below (by (with_reducible repeat (first | apply Kd.R_alloc | apply Kd.R_drewN | apply Kd.R_drew)); exact HO220.out) hb); have n1_ := Aside0.mk (Kd.R_below (by (with_reducible repeat (first | apply Kd.R_alloc | apply Kd.R_drewN | apply Kd.R_drew)); exact HO224.out) hb); have n2_ := Aside0.mk (Kd.R_below (by (with_reducible repeat (first | apply Kd.R_alloc | apply Kd.R_drewN | apply Kd.R_drew)); exact HO227.out) hb); have n3_ := Aside0.mk (Kd.R_below (by (with_reducible repeat (first | apply Kd.R_alloc | apply Kd.R_drewN | apply Kd.R_drew)); exact HO233.out) hb); have n4_ := Aside0.mk (Kd.R_below (by (with_reducible repeat (first | apply Kd.R_alloc | apply Kd.R_drewN | apply Kd.R_drew)); exact HO238.out) hb); have n5_ := Aside0.mk (Kd.R_below (by (with_reducible repeat (first | apply Kd.R_alloc | apply Kd.R_drewN | apply Kd.R_drew)); exact HO241.out) hb); have n6_ := Aside0.mk (blk_below (g := gb215) (o := .cells #[.int .i64 a0_0, .slice A0_1 l0_1.length c0_1] 24 (0, 0)) (by (with_reducible repeat (first | refine blk_drewN ?_ _ | refine blk_drew ?_ | refine blk_alloc ?_ _)); exact BK215.out) hb); have n7_ := Aside0.mk (blk_below (g := gb229) (o := .cells #[.int .i64 t221, .slice Ao54 t222.length co54] 26 (0, 0)) (by (with_reducible repeat (first | refine blk_drewN ?_ _ | refine blk_drew ?_ | refine blk_alloc ?_ _)); exact BK229.out) hb); have n8_ := Aside0.mk (blk_below (g := gb234) (o := .cells #[.int .i64 t230, .slice Ao61 t231.length co61] 26 (0, 0)) (by (with_reducible repeat (first | refine blk_drewN ?_ _ | refine blk_drew ?_ | refine blk_alloc ?_ _)); exact BK234.out) hb); have n9_ := Aside0.mk (blk_below (g := gb243) (o := .cells #[.int .i64 t235, .slice Ao68 t236.length co68] 26 (0, 0)) (by (with_reducible repeat (first | refine blk_drewN ?_ _ | refine blk_drew ?_ | refine blk_alloc ?_ _)); exact BK243.out) hb); have n10_ := Aside0.mk (below_step (by repeat (first | (with_reducible first | exact HB.out | apply below_alloc | apply pw_below_drewN | apply below_drew1 | refine below_set ?_ GE215.out | refine below_set ?_ GE229.out | refine below_set ?_ GE234.out | refine below_set ?_ GE243.out) | exact HB.out)) hb); clear HO220; clear HO224; clear HO227; clear HO233; clear HO238; clear HO241; clear BK215; clear BK229; clear BK234; clear BK243; clear HB; have HO220 := n0_; have HO224 := n1_; have HO227 := n2_; have HO233 := n3_; have HO238 := n4_; have HO241 := n5_; have BK215 := n6_; have BK229 := n7_; have BK234 := n8_; have BK243 := n9_; have HB := n10_; clear n0_ n1_ n2_ n3_ n4_ n5_ n6_ n7_ n8_ n9_ n10_; (try clear hb); (try clear hb2); (try clear hk); (try clear hi)))
                                    have n0_ := Aside0.mk (Kd.R_drew HO220.out)
                                    have n1_ := Aside0.mk (Kd.R_drew HO224.out)
                                    have n2_ := Aside0.mk (Kd.R_drew HO227.out)
                                    have n3_ := Aside0.mk (Kd.R_drew HO233.out)
                                    have n4_ := Aside0.mk (Kd.R_drew HO238.out)
                                    have n5_ := Aside0.mk (Kd.R_drew HO241.out)
                                    have n6_ := Aside0.mk (blk_drew BK215.out)
                                    have n7_ := Aside0.mk (blk_drew BK229.out)
                                    have n8_ := Aside0.mk (blk_drew BK234.out)
                                    have n9_ := Aside0.mk (blk_drew BK243.out)
                                    have n10_ := Aside0.mk (below_drew1 HB.out)
                                    clear HO220
                                    clear HO224
                                    clear HO227
                                    clear HO233
                                    clear HO238
                                    clear HO241
                                    clear BK215
                                    clear BK229
                                    clear BK234
                                    clear BK243
                                    clear HB
                                    have HO220 := n0_
                                    have HO224 := n1_
                                    have HO227 := n2_
                                    have HO233 := n3_
                                    have HO238 := n4_
                                    have HO241 := n5_
                                    have BK215 := n6_
                                    have BK229 := n7_
                                    have BK234 := n8_
                                    have BK243 := n9_
                                    have HB := n10_
                                    clear n0_ n1_ n2_ n3_ n4_ n5_ n6_ n7_ n8_ n9_ n10_
                                    refine start_ (n := 5) (S := fun w' => w'.cell? ⟨gb234, 0, none⟩ = some (.int .i64 t230) ∧ w'.cell? ⟨gb234, 1, none⟩ = some (.slice Ao61 t231.length co61) ∧ w'.cell? ⟨gb215, 0, none⟩ = some (.int .i64 a0_0) ∧ w'.cell? ⟨gb215, 1, none⟩ = some (.slice A0_1 l0_1.length c0_1)) (ds := []) #[false, false, false, false, false] (by kernel_rfl) rfl rfl ⟨(blk_cell BK234.out 0).trans rfl, (blk_cell BK234.out 1).trans rfl, (blk_cell BK215.out 0).trans rfl, (blk_cell BK215.out 1).trans rfl⟩ (fun hHeld => ?_)
                                    generalize w73.drew = w74 at HO220 HO224 HO227 HO233 HO238 HO241 BK215 BK229 BK234 BK243 HB hHeld ⊢
                                    refine take_ (i := 0) (N := some 52) (v := ?_) (a' := ?_) #[true, false, false, false, false] rfl rfl (by kernel_rfl) (fun _ _ _ h => h) (Or.inl ⟨by rfl, ?_⟩) hHeld ?_ ?_
                                    rotate_left
                                    · rintro w' ⟨s0, s1, s2, s3⟩
                                      go_simp
                                      with_reducible rfl
                                    rotate_left
                                    · simp only [Act.put, List.setIfInBounds_toArray, List.set_cons_zero, List.set_cons_succ, i64_w, i32_w]
                                      rfl
                                    refine take_ (i := 1) (N := some 53) (v := ?_) (a' := ?_) #[true, true, false, false, false] rfl rfl (by kernel_rfl) (fun _ _ _ h => h) (Or.inl ⟨by rfl, ?_⟩) hHeld ?_ ?_
                                    rotate_left
                                    · rintro w' ⟨s0, s1, s2, s3⟩
                                      go_simp
                                      with_reducible rfl
                                    rotate_left
                                    · simp only [Act.put, List.setIfInBounds_toArray, List.set_cons_zero, List.set_cons_succ, i64_w, i32_w]
                                      rfl
                                    refine one_ (i := 2) (N := some 54) #[true, true, true, false, false] rfl rfl (by kernel_rfl) (by decide) (fun K hK => ?_)
                                    refine goes_ Try.func17 (by kernel_rfl) rfl #[.agg #[.int .i64 a0_0, .slice A0_1 l0_1.length c0_1]] (by rfl) rfl rfl (by (try simp only [List.map_toArray, List.map_cons, List.map_nil]); first | done | rfl | (simp only [List.length_drop, List.length_take]; rfl)) ?_
                                    with_reducible refine (laws_toComplex.calls k a0_0 _ _ l0_1 t246 t247 _ ?side1 ?side2 A16.out).mono ?_
                                    (case side1 => repeat (first | exact (Kd.C_below HR0_1.out HB.out) | (with_reducible refine Kd.C_alloc ?_ _) | (with_reducible refine Kd.C_drewN ?_ _) | (with_reducible refine Kd.C_drew ?_)))
                                    (case side2 => exact HC0_1.out)
                                    rintro e w75 ⟨v248, rfl, ho0, hb⟩
                                    refine ⟨_, rfl, ?_⟩
                                    have n0_ := Aside0.mk (Kd.R_elder' (by (with_reducible repeat (first | apply Kd.R_alloc | apply Kd.R_drewN | apply Kd.R_drew)); exact HO220.out) (Kd.R_base ho0) hb)
                                    have n1_ := Aside0.mk (Kd.R_elder' (by (with_reducible repeat (first | apply Kd.R_alloc | apply Kd.R_drewN | apply Kd.R_drew)); exact HO224.out) (Kd.R_base ho0) hb)
                                    have n2_ := Aside0.mk (Kd.R_below (by (with_reducible repeat (first | apply Kd.R_alloc | apply Kd.R_drewN | apply Kd.R_drew)); exact HO227.out) hb)
                                    have n3_ := Aside0.mk (Kd.R_elder' (by (with_reducible repeat (first | apply Kd.R_alloc | apply Kd.R_drewN | apply Kd.R_drew)); exact HO233.out) (Kd.R_base ho0) hb)
                                    have n4_ := Aside0.mk (Kd.R_elder' (by (with_reducible repeat (first | apply Kd.R_alloc | apply Kd.R_drewN | apply Kd.R_drew)); exact HO238.out) (Kd.R_base ho0) hb)
                                    have n5_ := Aside0.mk (Kd.R_below (by (with_reducible repeat (first | apply Kd.R_alloc | apply Kd.R_drewN | apply Kd.R_drew)); exact HO241.out) hb)
                                    have n6_ := Aside0.mk (Kd.R_lower (Kd.R_new' (Kd.R_new' (Kd.R_new' (Kd.R_new' ho0 (Kd.R_lt (by (with_reducible repeat (first | apply Kd.R_alloc | apply Kd.R_drewN | apply Kd.R_drew)); exact HO220.out))) (Kd.R_lt (by (with_reducible repeat (first | apply Kd.R_alloc | apply Kd.R_drewN | apply Kd.R_drew)); exact HO224.out))) (Kd.R_lt (by (with_reducible repeat (first | apply Kd.R_alloc | apply Kd.R_drewN | apply Kd.R_drew)); exact HO233.out))) (Kd.R_lt (by (with_reducible repeat (first | apply Kd.R_alloc | apply Kd.R_drewN | apply Kd.R_drew)); exact HO238.out))) (below_size (by repeat (first | (with_reducible first | exact HB.out | apply below_alloc | apply pw_below_drewN | apply below_drew1 | refine below_set ?_ GE215.out | refine below_set ?_ GE229.out | refine below_set ?_ GE234.out | refine below_set ?_ GE243.out) | exact HB.out))))
                                    have n7_ := Aside0.mk (blk_below (g := gb215) (o := .cells #[.int .i64 a0_0, .slice A0_1 l0_1.length c0_1] 24 (0, 0)) (by (with_reducible repeat (first | refine blk_drewN ?_ _ | refine blk_drew ?_ | refine blk_alloc ?_ _)); exact BK215.out) hb)
                                    have n8_ := Aside0.mk (blk_below (g := gb229) (o := .cells #[.int .i64 t221, .slice Ao54 t222.length co54] 26 (0, 0)) (by (with_reducible repeat (first | refine blk_drewN ?_ _ | refine blk_drew ?_ | refine blk_alloc ?_ _)); exact BK229.out) hb)
                                    have n9_ := Aside0.mk (blk_below (g := gb234) (o := .cells #[.int .i64 t230, .slice Ao61 t231.length co61] 26 (0, 0)) (by (with_reducible repeat (first | refine blk_drewN ?_ _ | refine blk_drew ?_ | refine blk_alloc ?_ _)); exact BK234.out) hb)
                                    have n10_ := Aside0.mk (blk_below (g := gb243) (o := .cells #[.int .i64 t235, .slice Ao68 t236.length co68] 26 (0, 0)) (by (with_reducible repeat (first | refine blk_drewN ?_ _ | refine blk_drew ?_ | refine blk_alloc ?_ _)); exact BK243.out) hb)
                                    have n11_ := Aside0.mk (below_step (by repeat (first | (with_reducible first | exact HB.out | apply below_alloc | apply pw_below_drewN | apply below_drew1 | refine below_set ?_ GE215.out | refine below_set ?_ GE229.out | refine below_set ?_ GE234.out | refine below_set ?_ GE243.out) | exact HB.out)) hb)
                                    clear HO220
                                    clear HO224
                                    clear HO227
                                    clear HO233
                                    clear HO238
                                    clear HO241
                                    clear BK215
                                    clear BK229
                                    clear BK234
                                    clear BK243
                                    clear HB
                                    have HO220 := n0_
                                    have HO224 := n1_
                                    have HO227 := n2_
                                    have HO233 := n3_
                                    have HO238 := n4_
                                    have HO241 := n5_
                                    have HO249 := n6_
                                    have BK215 := n7_
                                    have BK229 := n8_
                                    have BK234 := n9_
                                    have BK243 := n10_
                                    have HB := n11_
                                    clear n0_ n1_ n2_ n3_ n4_ n5_ n6_ n7_ n8_ n9_ n10_ n11_
                                    (try clear hb)
                                    (try clear hb2)
                                    (try clear hk)
                                    (try clear hi)
                                    (try clear ho0)
                                    obtain ⟨Ao76, co76, eo76⟩ := Kd.R_slice HO249.out
                                    (first | subst eo76 | (injection eo76 with f1_ f2_ f3_; have f4_ := f1_.symm; have f5_ := f3_.symm; clear f1_ f2_ f3_; subst f4_; subst f5_))
                                    refine hK.out _ _ ⟨(blk_cell BK234.out 0).trans rfl, (blk_cell BK234.out 1).trans rfl, (blk_cell BK215.out 0).trans rfl, (blk_cell BK215.out 1).trans rfl⟩ (fun hHeld => ?_)
                                    clear hK K
                                    refine norm_ (a' := ?_) ?_ ?_
                                    rotate_left
                                    · show Act.put _ (some 54) _ = _
                                      simp only [Act.put, List.setIfInBounds_toArray, List.set_cons_zero, List.set_cons_succ, i64_w, i32_w]
                                      rfl
                                    refine one_ (i := 3) (N := some 55) #[true, true, true, true, false] rfl rfl (by kernel_rfl) (by decide) (fun K hK => ?_)
                                    refine goes_ Try.func19 (by kernel_rfl) rfl #[.agg #[.int .i64 t230, .slice Ao61 t231.length co61], .agg #[.int .i64 t246, .slice Ao76 t247.length co76]] (by rfl) rfl rfl (by (try simp only [List.map_toArray, List.map_cons, List.map_nil]); first | done | rfl | (simp only [List.length_drop, List.length_take]; rfl)) ?_
                                    with_reducible refine (laws_eqComplex.calls k t230 _ _ t231 t246 _ _ t247 true _ ?side1 ?side2 ?side3 ?side4 A17.out).mono ?_
                                    (case side1 => repeat (first | exact (Kd.R_reads' HO233.out).2.2 | (with_reducible refine Kd.C_alloc ?_ _) | (with_reducible refine Kd.C_drewN ?_ _) | (with_reducible refine Kd.C_drew ?_)))
                                    (case side2 => exact (Kd.R_reads' HO233.out).2.1)
                                    (case side3 => repeat (first | exact (Kd.R_reads' HO249.out).2.2 | (with_reducible refine Kd.C_alloc ?_ _) | (with_reducible refine Kd.C_drewN ?_ _) | (with_reducible refine Kd.C_drew ?_)))
                                    (case side4 => exact (Kd.R_reads' HO249.out).2.1)
                                    rintro e w77 ⟨rfl, hb⟩
                                    refine ⟨_, rfl, ?_⟩
                                    have n0_ := Aside0.mk (Kd.R_below (by (with_reducible repeat (first | apply Kd.R_alloc | apply Kd.R_drewN | apply Kd.R_drew)); exact HO220.out) hb)
                                    have n1_ := Aside0.mk (Kd.R_below (by (with_reducible repeat (first | apply Kd.R_alloc | apply Kd.R_drewN | apply Kd.R_drew)); exact HO224.out) hb)
                                    have n2_ := Aside0.mk (Kd.R_below (by (with_reducible repeat (first | apply Kd.R_alloc | apply Kd.R_drewN | apply Kd.R_drew)); exact HO227.out) hb)
                                    have n3_ := Aside0.mk (Kd.R_below (by (with_reducible repeat (first | apply Kd.R_alloc | apply Kd.R_drewN | apply Kd.R_drew)); exact HO233.out) hb)
                                    have n4_ := Aside0.mk (Kd.R_below (by (with_reducible repeat (first | apply Kd.R_alloc | apply Kd.R_drewN | apply Kd.R_drew)); exact HO238.out) hb)
                                    have n5_ := Aside0.mk (Kd.R_below (by (with_reducible repeat (first | apply Kd.R_alloc | apply Kd.R_drewN | apply Kd.R_drew)); exact HO241.out) hb)
                                    have n6_ := Aside0.mk (Kd.R_below (by (with_reducible repeat (first | apply Kd.R_alloc | apply Kd.R_drewN | apply Kd.R_drew)); exact HO249.out) hb)
                                    have n7_ := Aside0.mk (blk_below (g := gb215) (o := .cells #[.int .i64 a0_0, .slice A0_1 l0_1.length c0_1] 24 (0, 0)) (by (with_reducible repeat (first | refine blk_drewN ?_ _ | refine blk_drew ?_ | refine blk_alloc ?_ _)); exact BK215.out) hb)
                                    have n8_ := Aside0.mk (blk_below (g := gb229) (o := .cells #[.int .i64 t221, .slice Ao54 t222.length co54] 26 (0, 0)) (by (with_reducible repeat (first | refine blk_drewN ?_ _ | refine blk_drew ?_ | refine blk_alloc ?_ _)); exact BK229.out) hb)
                                    have n9_ := Aside0.mk (blk_below (g := gb234) (o := .cells #[.int .i64 t230, .slice Ao61 t231.length co61] 26 (0, 0)) (by (with_reducible repeat (first | refine blk_drewN ?_ _ | refine blk_drew ?_ | refine blk_alloc ?_ _)); exact BK234.out) hb)
                                    have n10_ := Aside0.mk (blk_below (g := gb243) (o := .cells #[.int .i64 t235, .slice Ao68 t236.length co68] 26 (0, 0)) (by (with_reducible repeat (first | refine blk_drewN ?_ _ | refine blk_drew ?_ | refine blk_alloc ?_ _)); exact BK243.out) hb)
                                    have n11_ := Aside0.mk (below_step (by repeat (first | (with_reducible first | exact HB.out | apply below_alloc | apply pw_below_drewN | apply below_drew1 | refine below_set ?_ GE215.out | refine below_set ?_ GE229.out | refine below_set ?_ GE234.out | refine below_set ?_ GE243.out) | exact HB.out)) hb)
                                    clear HO220
                                    clear HO224
                                    clear HO227
                                    clear HO233
                                    clear HO238
                                    clear HO241
                                    clear HO249
                                    clear BK215
                                    clear BK229
                                    clear BK234
                                    clear BK243
                                    clear HB
                                    have HO220 := n0_
                                    have HO224 := n1_
                                    have HO227 := n2_
                                    have HO233 := n3_
                                    have HO238 := n4_
                                    have HO241 := n5_
                                    have HO249 := n6_
                                    have BK215 := n7_
                                    have BK229 := n8_
                                    have BK234 := n9_
                                    have BK243 := n10_
                                    have HB := n11_
                                    clear n0_ n1_ n2_ n3_ n4_ n5_ n6_ n7_ n8_ n9_ n10_ n11_
                                    (try clear hb)
                                    (try clear hb2)
                                    (try clear hk)
                                    (try clear hi)
                                    refine hK.out _ _ ⟨(blk_cell BK234.out 0).trans rfl, (blk_cell BK234.out 1).trans rfl, (blk_cell BK215.out 0).trans rfl, (blk_cell BK215.out 1).trans rfl⟩ (fun hHeld => ?_)
                                    clear hK K
                                    refine norm_ (a' := ?_) ?_ ?_
                                    rotate_left
                                    · show Act.put _ (some 55) _ = _
                                      simp only [Act.put, List.setIfInBounds_toArray, List.set_cons_zero, List.set_cons_succ, i64_w, i32_w]
                                      rfl
                                    refine pure_ (i := 4) (N := some 56) (v := ?_) (a' := ?_) #[true, true, true, true, true] rfl rfl (by kernel_rfl) (fun _ _ _ h => h) (Or.inl ⟨by rfl, ?_⟩) ?_ ?_
                                    rotate_left
                                    · intro w'
                                      go_simp
                                      with_reducible rfl
                                    rotate_left
                                    · simp only [Act.put, List.setIfInBounds_toArray, List.set_cons_zero, List.set_cons_succ, i64_w, i32_w]
                                      rfl
                                    refine done_ (by kernel_rfl) ?_
                                    have hcz78_0 : w77.cell? ⟨gb234, 0, none⟩ = some (.int .i64 t230) := (blk_cell BK234.out 0).trans rfl
                                    have hcz78_1 : w77.cell? ⟨gb234, 1, none⟩ = some (.slice Ao61 t231.length co61) := (blk_cell BK234.out 1).trans rfl
                                    have hfz78_0 := blk_frozen BK234.out 0
                                    have hfz78_1 := blk_frozen BK234.out 1
                                    try go_wp2_with (first | ((with_reducible refine gate_callee (f := 21) rfl ?_); refine goesL_ (some 59) rfl rfl Try.func21 (by kernel_rfl) rfl #[.agg #[.int .i64 t230, .slice Ao61 t231.length co61], .int .i64 1] rfl (by (try simp only [List.map_toArray, List.map_cons, List.map_nil]); first | done | rfl | (simp only [List.length_drop, List.length_take]; rfl)) ?_; (with_reducible refine (laws_markComplex.calls k t230 (fun k_ => some k_ = (.slice Ao61 t231.length co61 : Value).ownBlock) (.slice Ao61 t231.length co61) t231 1 t251 t252 w _ ?side1 ?side2 A19.out).mono ?_); (case side1 => repeat (first | (with_reducible first | exact HB.out | apply below_alloc | apply pw_below_drewN | apply below_drew1 | refine below_set ?_ GE215.out | refine below_set ?_ GE229.out | refine below_set ?_ GE234.out | refine below_set ?_ GE243.out) | exact HB.out)); (case side2 => exact Kd.R_tight rfl HO233.out); rintro e w79 ⟨rfl, hy0, hb, hkp⟩; refine ⟨_, rfl, ?_⟩; have n0_ := Aside0.mk (blk_kept (by (with_reducible repeat (first | refine blk_drewN ?_ _ | refine blk_drew ?_ | refine blk_alloc ?_ _)); exact BK215.out) hkp (fun hs_ => (fun e_ => (Kd.R_ne HO233.out BK215.out (by decide)) e_) hs_)); have n1_ := Aside0.mk (Kd.R_mono (ok' := fun k_ => some k_ ≠ (.slice Ao54 t222.length co54 : Value).ownBlock ∧ some k_ ≠ (.slice Ao61 t231.length co61 : Value).ownBlock ∧ some k_ ≠ (.slice Ao68 t236.length co68 : Value).ownBlock ∧ some k_ ≠ (.slice Ao76 t247.length co76 : Value).ownBlock) (Kd.R_keptB (HO220.out) hkp (fun k_ hk_ hs_ => (hk_.1.1.2) hs_)) (fun k_ hk_ => ⟨hk_.1.1.1.1.2, hk_.1.1.1.2, hk_.1.1.2, hk_.1.2⟩)); have n2_ := Aside0.mk (Kd.R_mono (ok' := fun k_ => some k_ ≠ (.slice Ao49 t218.length co49 : Value).ownBlock ∧ some k_ ≠ (.slice Ao61 t231.length co61 : Value).ownBlock ∧ some k_ ≠ (.slice Ao68 t236.length co68 : Value).ownBlock ∧ some k_ ≠ (.slice Ao76 t247.length co76 : Value).ownBlock) (Kd.R_keptB (HO224.out) hkp (fun k_ hk_ hs_ => (hk_.1.1.2) hs_)) (fun k_ hk_ => ⟨hk_.1.1.1.1.2, hk_.1.1.1.2, hk_.1.1.2, hk_.1.2⟩)); have n3_ := Aside0.mk (Kd.R_mono (ok' := fun k_ => some k_ ≠ (.slice Ao71 t239.length co71 : Value).ownBlock) (Kd.R_keptB ((Kd.R_apart' HO227.out (Kd.R_typed HO233.out) (by decide))) hkp (fun k_ hk_ hs_ => (hk_.2) hs_)) (fun k_ hk_ => hk_.1.1.2)); have n4_ := Aside0.mk (blk_kept (by (with_reducible repeat (first | refine blk_drewN ?_ _ | refine blk_drew ?_ | refine blk_alloc ?_ _)); exact BK229.out) hkp (fun hs_ => (fun e_ => (Kd.R_ne HO233.out BK229.out (by decide)) e_) hs_)); have n5_ := Aside0.mk (Kd.R_reok rfl hy0 (fun k_ e_ => HO233.out.1 k_ e_)); have n6_ := Aside0.mk (blk_kept (by (with_reducible repeat (first | refine blk_drewN ?_ _ | refine blk_drew ?_ | refine blk_alloc ?_ _)); exact BK234.out) hkp (fun hs_ => (fun e_ => (Kd.R_ne HO233.out BK234.out (by decide)) e_) hs_)); have n7_ := Aside0.mk (Kd.R_mono (ok' := fun k_ => some k_ ≠ (.slice Ao49 t218.length co49 : Value).ownBlock ∧ some k_ ≠ (.slice Ao54 t222.length co54 : Value).ownBlock ∧ some k_ ≠ (.slice Ao61 t231.length co61 : Value).ownBlock ∧ some k_ ≠ (.slice Ao76 t247.length co76 : Value).ownBlock) (Kd.R_keptB (HO238.out) hkp (fun k_ hk_ hs_ => (hk_.1.2) hs_)) (fun k_ hk_ => ⟨hk_.1.1.1.1.2, hk_.1.1.1.2, hk_.1.1.2, hk_.1.2⟩)); have n8_ := Aside0.mk (Kd.R_mono (ok' := fun k_ => some k_ ≠ (.slice Ao72 t225.length co72 : Value).ownBlock) (Kd.R_keptB ((Kd.R_apart' HO241.out (Kd.R_typed HO233.out) (by decide))) hkp (fun k_ hk_ hs_ => (hk_.2) hs_)) (fun k_ hk_ => hk_.1.1.2)); have n9_ := Aside0.mk (blk_kept (by (with_reducible repeat (first | refine blk_drewN ?_ _ | refine blk_drew ?_ | refine blk_alloc ?_ _)); exact BK243.out) hkp (fun hs_ => (fun e_ => (Kd.R_ne HO233.out BK243.out (by decide)) e_) hs_)); have n10_ := Aside0.mk (Kd.R_mono (ok' := fun k_ => some k_ ≠ (.slice Ao49 t218.length co49 : Value).ownBlock ∧ some k_ ≠ (.slice Ao54 t222.length co54 : Value).ownBlock ∧ some k_ ≠ (.slice Ao61 t231.length co61 : Value).ownBlock ∧ some k_ ≠ (.slice Ao68 t236.length co68 : Value).ownBlock) (Kd.R_keptB (HO249.out) hkp (fun k_ hk_ hs_ => (hk_.1.2) hs_)) (fun k_ hk_ => ⟨hk_.1.1.1.1.2, hk_.1.1.1.2, hk_.1.1.2, hk_.1.2⟩)); have n11_ := Aside0.mk (hb); clear BK215; clear HO220; clear HO224; clear HO227; clear BK229; clear HO233; clear BK234; clear HO238; clear HO241; clear BK243; clear HO249; clear HB; have BK215 := n0_; have HO220 := n1_; have HO224 := n2_; have HO227 := n3_; have BK229 := n4_; have HO233 := n5_; have BK234 := n6_; have HO238 := n7_; have HO241 := n8_; have BK243 := n9_; have HO249 := n10_; have HB := n11_; clear n0_ n1_ n2_ n3_ n4_ n5_ n6_ n7_ n8_ n9_ n10_ n11_; (try clear hb); (try clear hkp); (try clear hy0); have hcz80_0 : w79.cell? ⟨gb243, 0, none⟩ = some (.int .i64 t235) := (blk_cell BK243.out 0).trans rfl; have hcz80_1 : w79.cell? ⟨gb243, 1, none⟩ = some (.slice Ao68 t236.length co68) := (blk_cell BK243.out 1).trans rfl; have hfz80_0 := blk_frozen BK243.out 0; have hfz80_1 := blk_frozen BK243.out 1; have hcz81_0 : w79.cell? ⟨gb229, 0, none⟩ = some (.int .i64 t221) := (blk_cell BK229.out 0).trans rfl; have hcz81_1 : w79.cell? ⟨gb229, 1, none⟩ = some (.slice Ao54 t222.length co54) := (blk_cell BK229.out 1).trans rfl; have hfz81_0 := blk_frozen BK229.out 0; have hfz81_1 := blk_frozen BK229.out 1) | (go_at_call 19; (with_reducible refine (laws_eqComplex.calls k t235 _ _ t236 t221 _ _ t222 true _ ?side1 ?side2 ?side3 ?side4 A21.out).mono ?_); (case side1 => repeat (first | exact (Kd.R_reads' HO238.out).2.2 | (with_reducible refine Kd.C_alloc ?_ _) | (with_reducible refine Kd.C_drewN ?_ _) | (with_reducible refine Kd.C_drew ?_))); (case side2 => exact (Kd.R_reads' HO238.out).2.1); (case side3 => repeat (first | exact (Kd.R_reads' HO224.out).2.2 | (with_reducible refine Kd.C_alloc ?_ _) | (with_reducible refine Kd.C_drewN ?_ _) | (with_reducible refine Kd.C_drew ?_))); (case side4 => exact (Kd.R_reads' HO224.out).2.1); rintro e w82 ⟨rfl, hb⟩; have n0_ := Aside0.mk (Kd.R_below (by (with_reducible repeat (first | apply Kd.R_alloc | apply Kd.R_drewN | apply Kd.R_drew)); exact HO220.out) hb); have n1_ := Aside0.mk (Kd.R_below (by (with_reducible repeat (first | apply Kd.R_alloc | apply Kd.R_drewN | apply Kd.R_drew)); exact HO224.out) hb); have n2_ := Aside0.mk (Kd.R_below (by (with_reducible repeat (first | apply Kd.R_alloc | apply Kd.R_drewN | apply Kd.R_drew)); exact HO227.out) hb); have n3_ := Aside0.mk (Kd.R_below (by (with_reducible repeat (first | apply Kd.R_alloc | apply Kd.R_drewN | apply Kd.R_drew)); exact HO233.out) hb); have n4_ := Aside0.mk (Kd.R_below (by (with_reducible repeat (first | apply Kd.R_alloc | apply Kd.R_drewN | apply Kd.R_drew)); exact HO238.out) hb); have n5_ := Aside0.mk (Kd.R_below (by (with_reducible repeat (first | apply Kd.R_alloc | apply Kd.R_drewN | apply Kd.R_drew)); exact HO241.out) hb); have n6_ := Aside0.mk (Kd.R_below (by (with_reducible repeat (first | apply Kd.R_alloc | apply Kd.R_drewN | apply Kd.R_drew)); exact HO249.out) hb); have n7_ := Aside0.mk (blk_below (g := gb215) (o := .cells #[.int .i64 a0_0, .slice A0_1 l0_1.length c0_1] 24 (0, 0)) (by (with_reducible repeat (first | refine blk_drewN ?_ _ | refine blk_drew ?_ | refine blk_alloc ?_ _)); exact BK215.out) hb); have n8_ := Aside0.mk (blk_below (g := gb229) (o := .cells #[.int .i64 t221, .slice Ao54 t222.length co54] 26 (0, 0)) (by (with_reducible repeat (first | refine blk_drewN ?_ _ | refine blk_drew ?_ | refine blk_alloc ?_ _)); exact BK229.out) hb); have n9_ := Aside0.mk (blk_below (g := gb234) (o := .cells #[.int .i64 t230, .slice Ao61 t231.length co61] 26 (0, 0)) (by (with_reducible repeat (first | refine blk_drewN ?_ _ | refine blk_drew ?_ | refine blk_alloc ?_ _)); exact BK234.out) hb); have n10_ := Aside0.mk (blk_below (g := gb243) (o := .cells #[.int .i64 t235, .slice Ao68 t236.length co68] 26 (0, 0)) (by (with_reducible repeat (first | refine blk_drewN ?_ _ | refine blk_drew ?_ | refine blk_alloc ?_ _)); exact BK243.out) hb); have n11_ := Aside0.mk (below_step (by repeat (first | (with_reducible first | exact HB.out | apply below_alloc | apply pw_below_drewN | apply below_drew1 | refine below_set ?_ GE215.out | refine below_set ?_ GE229.out | refine below_set ?_ GE234.out | refine below_set ?_ GE243.out) | exact HB.out)) hb); clear HO220; clear HO224; clear HO227; clear HO233; clear HO238; clear HO241; clear HO249; clear BK215; clear BK229; clear BK234; clear BK243; clear HB; have HO220 := n0_; have HO224 := n1_; have HO227 := n2_; have HO233 := n3_; have HO238 := n4_; have HO241 := n5_; have HO249 := n6_; have BK215 := n7_; have BK229 := n8_; have BK234 := n9_; have BK243 := n10_; have HB := n11_; clear n0_ n1_ n2_ n3_ n4_ n5_ n6_ n7_ n8_ n9_ n10_ n11_; (try clear hb); (try clear hb2); (try clear hk); (try clear hi)) | (go_at_call 20; (with_reducible refine (laws_eqPairS.calls k _ _ t239 _ _ t225 true _ ?side1 ?side2 ?side3 ?side4 A23.out).mono ?_); (case side1 => repeat (first | exact (Kd.R_reads' HO241.out).2.2 | (with_reducible refine Kd.C_alloc ?_ _) | (with_reducible refine Kd.C_drewN ?_ _) | (with_reducible refine Kd.C_drew ?_))); (case side2 => exact (Kd.R_reads' HO241.out).2.1); (case side3 => repeat (first | exact (Kd.R_reads' HO227.out).2.2 | (with_reducible refine Kd.C_alloc ?_ _) | (with_reducible refine Kd.C_drewN ?_ _) | (with_reducible refine Kd.C_drew ?_))); (case side4 => exact (Kd.R_reads' HO227.out).2.1); rintro e w83 ⟨rfl, hb⟩; have n0_ := Aside0.mk (Kd.R_below (by (with_reducible repeat (first | apply Kd.R_alloc | apply Kd.R_drewN | apply Kd.R_drew)); exact HO220.out) hb); have n1_ := Aside0.mk (Kd.R_below (by (with_reducible repeat (first | apply Kd.R_alloc | apply Kd.R_drewN | apply Kd.R_drew)); exact HO224.out) hb); have n2_ := Aside0.mk (Kd.R_below (by (with_reducible repeat (first | apply Kd.R_alloc | apply Kd.R_drewN | apply Kd.R_drew)); exact HO227.out) hb); have n3_ := Aside0.mk (Kd.R_below (by (with_reducible repeat (first | apply Kd.R_alloc | apply Kd.R_drewN | apply Kd.R_drew)); exact HO233.out) hb); have n4_ := Aside0.mk (Kd.R_below (by (with_reducible repeat (first | apply Kd.R_alloc | apply Kd.R_drewN | apply Kd.R_drew)); exact HO238.out) hb); have n5_ := Aside0.mk (Kd.R_below (by (with_reducible repeat (first | apply Kd.R_alloc | apply Kd.R_drewN | apply Kd.R_drew)); exact HO241.out) hb); have n6_ := Aside0.mk (Kd.R_below (by (with_reducible repeat (first | apply Kd.R_alloc | apply Kd.R_drewN | apply Kd.R_drew)); exact HO249.out) hb); have n7_ := Aside0.mk (blk_below (g := gb215) (o := .cells #[.int .i64 a0_0, .slice A0_1 l0_1.length c0_1] 24 (0, 0)) (by (with_reducible repeat (first | refine blk_drewN ?_ _ | refine blk_drew ?_ | refine blk_alloc ?_ _)); exact BK215.out) hb); have n8_ := Aside0.mk (blk_below (g := gb229) (o := .cells #[.int .i64 t221, .slice Ao54 t222.length co54] 26 (0, 0)) (by (with_reducible repeat (first | refine blk_drewN ?_ _ | refine blk_drew ?_ | refine blk_alloc ?_ _)); exact BK229.out) hb); have n9_ := Aside0.mk (blk_below (g := gb234) (o := .cells #[.int .i64 t230, .slice Ao61 t231.length co61] 26 (0, 0)) (by (with_reducible repeat (first | refine blk_drewN ?_ _ | refine blk_drew ?_ | refine blk_alloc ?_ _)); exact BK234.out) hb); have n10_ := Aside0.mk (blk_below (g := gb243) (o := .cells #[.int .i64 t235, .slice Ao68 t236.length co68] 26 (0, 0)) (by (with_reducible repeat (first | refine blk_drewN ?_ _ | refine blk_drew ?_ | refine blk_alloc ?_ _)); exact BK243.out) hb); have n11_ := Aside0.mk (below_step (by repeat (first | (with_reducible first | exact HB.out | apply below_alloc | apply pw_below_drewN | apply below_drew1 | refine below_set ?_ GE215.out | refine below_set ?_ GE229.out | refine below_set ?_ GE234.out | refine below_set ?_ GE243.out) | exact HB.out)) hb); clear HO220; clear HO224; clear HO227; clear HO233; clear HO238; clear HO241; clear HO249; clear BK215; clear BK229; clear BK234; clear BK243; clear HB; have HO220 := n0_; have HO224 := n1_; have HO227 := n2_; have HO233 := n3_; have HO238 := n4_; have HO241 := n5_; have HO249 := n6_; have BK215 := n7_; have BK229 := n8_; have BK234 := n9_; have BK243 := n10_; have HB := n11_; clear n0_ n1_ n2_ n3_ n4_ n5_ n6_ n7_ n8_ n9_ n10_ n11_; (try clear hb); (try clear hb2); (try clear hk); (try clear hi); have hcz84_0 : w83.cell? ⟨gb243, 0, none⟩ = some (.int .i64 t235) := (blk_cell BK243.out 0).trans rfl; have hcz84_1 : w83.cell? ⟨gb243, 1, none⟩ = some (.slice Ao68 t236.length co68) := (blk_cell BK243.out 1).trans rfl; have hfz84_0 := blk_frozen BK243.out 0; have hfz84_1 := blk_frozen BK243.out 1) | ((with_reducible refine gate_callee (f := 21) rfl ?_); refine goesL_ (some 81) rfl rfl Try.func21 (by kernel_rfl) rfl #[.agg #[.int .i64 t235, .slice Ao68 t236.length co68], .int .i64 1] rfl (by (try simp only [List.map_toArray, List.map_cons, List.map_nil]); first | done | rfl | (simp only [List.length_drop, List.length_take]; rfl)) ?_; (with_reducible refine (laws_markComplex.calls k t235 (fun k_ => some k_ = (.slice Ao68 t236.length co68 : Value).ownBlock) (.slice Ao68 t236.length co68) t236 1 t255 t256 w _ ?side1 ?side2 A25.out).mono ?_); (case side1 => repeat (first | (with_reducible first | exact HB.out | apply below_alloc | apply pw_below_drewN | apply below_drew1 | refine below_set ?_ GE215.out | refine below_set ?_ GE229.out | refine below_set ?_ GE234.out | refine below_set ?_ GE243.out) | exact HB.out)); (case side2 => exact Kd.R_tight rfl HO238.out); rintro e w85 ⟨rfl, hy0, hb, hkp⟩; refine ⟨_, rfl, ?_⟩; have n0_ := Aside0.mk (blk_kept (by (with_reducible repeat (first | refine blk_drewN ?_ _ | refine blk_drew ?_ | refine blk_alloc ?_ _)); exact BK215.out) hkp (fun hs_ => (fun e_ => (Kd.R_ne HO238.out BK215.out (by decide)) e_) hs_)); have n1_ := Aside0.mk (Kd.R_mono (ok' := fun k_ => some k_ ≠ (.slice Ao54 t222.length co54 : Value).ownBlock ∧ some k_ ≠ (.slice Ao61 t231.length co61 : Value).ownBlock ∧ some k_ ≠ (.slice Ao68 t236.length co68 : Value).ownBlock ∧ some k_ ≠ (.slice Ao76 t247.length co76 : Value).ownBlock) (Kd.R_keptB (HO220.out) hkp (fun k_ hk_ hs_ => (hk_.2.2.1) hs_)) (fun k_ hk_ => ⟨hk_.1.1, hk_.1.2.1, hk_.1.2.2.1, hk_.1.2.2.2⟩)); have n2_ := Aside0.mk (Kd.R_mono (ok' := fun k_ => some k_ ≠ (.slice Ao49 t218.length co49 : Value).ownBlock ∧ some k_ ≠ (.slice Ao61 t231.length co61 : Value).ownBlock ∧ some k_ ≠ (.slice Ao68 t236.length co68 : Value).ownBlock ∧ some k_ ≠ (.slice Ao76 t247.length co76 : Value).ownBlock) (Kd.R_keptB (HO224.out) hkp (fun k_ hk_ hs_ => (hk_.2.2.1) hs_)) (fun k_ hk_ => ⟨hk_.1.1, hk_.1.2.1, hk_.1.2.2.1, hk_.1.2.2.2⟩)); have n3_ := Aside0.mk (Kd.R_mono (ok' := fun k_ => some k_ ≠ (.slice Ao71 t239.length co71 : Value).ownBlock) (Kd.R_keptB ((Kd.R_apart' HO227.out (Kd.R_typed HO238.out) (by decide))) hkp (fun k_ hk_ hs_ => (hk_.2) hs_)) (fun k_ hk_ => hk_.1.1)); have n4_ := Aside0.mk (blk_kept (by (with_reducible repeat (first | refine blk_drewN ?_ _ | refine blk_drew ?_ | refine blk_alloc ?_ _)); exact BK229.out) hkp (fun hs_ => (fun e_ => (Kd.R_ne HO238.out BK229.out (by decide)) e_) hs_)); have n5_ := Aside0.mk (Kd.R_mono (ok' := fun k_ => some k_ ≠ (.slice Ao49 t218.length co49 : Value).ownBlock ∧ some k_ ≠ (.slice Ao54 t222.length co54 : Value).ownBlock ∧ some k_ ≠ (.slice Ao68 t236.length co68 : Value).ownBlock ∧ some k_ ≠ (.slice Ao76 t247.length co76 : Value).ownBlock) (Kd.R_keptB (HO233.out) hkp (fun k_ hk_ hs_ => (hk_.1.2) hs_)) (fun k_ hk_ => ⟨hk_.1.1.1.1.2, hk_.1.1.1.2, hk_.1.1.2, hk_.1.2⟩)); have n6_ := Aside0.mk (blk_kept (by (with_reducible repeat (first | refine blk_drewN ?_ _ | refine blk_drew ?_ | refine blk_alloc ?_ _)); exact BK234.out) hkp (fun hs_ => (fun e_ => (Kd.R_ne HO238.out BK234.out (by decide)) e_) hs_)); have n7_ := Aside0.mk (Kd.R_reok rfl hy0 (fun k_ e_ => HO238.out.1 k_ e_)); have n8_ := Aside0.mk (Kd.R_mono (ok' := fun k_ => some k_ ≠ (.slice Ao72 t225.length co72 : Value).ownBlock) (Kd.R_keptB ((Kd.R_apart' HO241.out (Kd.R_typed HO238.out) (by decide))) hkp (fun k_ hk_ hs_ => (hk_.2) hs_)) (fun k_ hk_ => hk_.1.1)); have n9_ := Aside0.mk (blk_kept (by (with_reducible repeat (first | refine blk_drewN ?_ _ | refine blk_drew ?_ | refine blk_alloc ?_ _)); exact BK243.out) hkp (fun hs_ => (fun e_ => (Kd.R_ne HO238.out BK243.out (by decide)) e_) hs_)); have n10_ := Aside0.mk (Kd.R_mono (ok' := fun k_ => some k_ ≠ (.slice Ao49 t218.length co49 : Value).ownBlock ∧ some k_ ≠ (.slice Ao54 t222.length co54 : Value).ownBlock ∧ some k_ ≠ (.slice Ao61 t231.length co61 : Value).ownBlock ∧ some k_ ≠ (.slice Ao68 t236.length co68 : Value).ownBlock) (Kd.R_keptB (HO249.out) hkp (fun k_ hk_ hs_ => (hk_.2.2.2) hs_)) (fun k_ hk_ => ⟨hk_.1.1, hk_.1.2.1, hk_.1.2.2.1, hk_.1.2.2.2⟩)); have n11_ := Aside0.mk (hb); clear BK215; clear HO220; clear HO224; clear HO227; clear BK229; clear HO233; clear BK234; clear HO238; clear HO241; clear BK243; clear HO249; clear HB; have BK215 := n0_; have HO220 := n1_; have HO224 := n2_; have HO227 := n3_; have BK229 := n4_; have HO233 := n5_; have BK234 := n6_; have HO238 := n7_; have HO241 := n8_; have BK243 := n9_; have HO249 := n10_; have HB := n11_; clear n0_ n1_ n2_ n3_ n4_ n5_ n6_ n7_ n8_ n9_ n10_ n11_; (try clear hb); (try clear hkp); (try clear hy0)) | ((with_reducible refine gate_callee (f := 22) rfl ?_); refine goesL_ (some 84) rfl rfl Try.func22 (by kernel_rfl) rfl #[.slice Ao71 t239.length co71, .int .i64 t255] rfl (by (try simp only [List.map_toArray, List.map_cons, List.map_nil]); first | done | rfl | (simp only [List.length_drop, List.length_take]; rfl)) ?_; (with_reducible refine (laws_markPairS.calls (fun k_ => some k_ = (.slice Ao71 t239.length co71 : Value).ownBlock) (.slice Ao71 t239.length co71) t239 t255 t257 t258 w _ ?side1 ?side2 A26.out).mono ?_); (case side1 => repeat (first | (with_reducible first | exact HB.out | apply below_alloc | apply pw_below_drewN | apply below_drew1 | refine below_set ?_ GE215.out | refine below_set ?_ GE229.out | refine below_set ?_ GE234.out | refine below_set ?_ GE243.out) | exact HB.out)); (case side2 => exact Kd.R_tight rfl HO241.out); rintro e w86 ⟨rfl, hy0, hb, hkp⟩; refine ⟨_, rfl, ?_⟩; have n0_ := Aside0.mk (blk_kept (by (with_reducible repeat (first | refine blk_drewN ?_ _ | refine blk_drew ?_ | refine blk_alloc ?_ _)); exact BK215.out) hkp (fun hs_ => (fun e_ => (Kd.R_ne HO241.out BK215.out (by decide)) e_) hs_)); have n1_ := Aside0.mk (Kd.R_mono (ok' := fun k_ => some k_ ≠ (.slice Ao54 t222.length co54 : Value).ownBlock ∧ some k_ ≠ (.slice Ao61 t231.length co61 : Value).ownBlock ∧ some k_ ≠ (.slice Ao68 t236.length co68 : Value).ownBlock ∧ some k_ ≠ (.slice Ao76 t247.length co76 : Value).ownBlock) (Kd.R_keptB ((Kd.R_apart' HO220.out (Kd.R_typed HO241.out) (by decide))) hkp (fun k_ hk_ hs_ => (hk_.2) hs_)) (fun k_ hk_ => ⟨hk_.1.1.1, hk_.1.1.2.1, hk_.1.1.2.2.1, hk_.1.1.2.2.2⟩)); have n2_ := Aside0.mk (Kd.R_mono (ok' := fun k_ => some k_ ≠ (.slice Ao49 t218.length co49 : Value).ownBlock ∧ some k_ ≠ (.slice Ao61 t231.length co61 : Value).ownBlock ∧ some k_ ≠ (.slice Ao68 t236.length co68 : Value).ownBlock ∧ some k_ ≠ (.slice Ao76 t247.length co76 : Value).ownBlock) (Kd.R_keptB ((Kd.R_apart' HO224.out (Kd.R_typed HO241.out) (by decide))) hkp (fun k_ hk_ hs_ => (hk_.2) hs_)) (fun k_ hk_ => ⟨hk_.1.1.1, hk_.1.1.2.1, hk_.1.1.2.2.1, hk_.1.1.2.2.2⟩)); have n3_ := Aside0.mk (Kd.R_mono (ok' := fun k_ => some k_ ≠ (.slice Ao71 t239.length co71 : Value).ownBlock) (Kd.R_keptB (HO227.out) hkp (fun k_ hk_ hs_ => (hk_) hs_)) (fun k_ hk_ => hk_.1)); have n4_ := Aside0.mk (blk_kept (by (with_reducible repeat (first | refine blk_drewN ?_ _ | refine blk_drew ?_ | refine blk_alloc ?_ _)); exact BK229.out) hkp (fun hs_ => (fun e_ => (Kd.R_ne HO241.out BK229.out (by decide)) e_) hs_)); have n5_ := Aside0.mk (Kd.R_mono (ok' := fun k_ => some k_ ≠ (.slice Ao49 t218.length co49 : Value).ownBlock ∧ some k_ ≠ (.slice Ao54 t222.length co54 : Value).ownBlock ∧ some k_ ≠ (.slice Ao68 t236.length co68 : Value).ownBlock ∧ some k_ ≠ (.slice Ao76 t247.length co76 : Value).ownBlock) (Kd.R_keptB ((Kd.R_apart' HO233.out (Kd.R_typed HO241.out) (by decide))) hkp (fun k_ hk_ hs_ => (hk_.2) hs_)) (fun k_ hk_ => ⟨hk_.1.1.1, hk_.1.1.2.1, hk_.1.1.2.2.1, hk_.1.1.2.2.2⟩)); have n6_ := Aside0.mk (blk_kept (by (with_reducible repeat (first | refine blk_drewN ?_ _ | refine blk_drew ?_ | refine blk_alloc ?_ _)); exact BK234.out) hkp (fun hs_ => (fun e_ => (Kd.R_ne HO241.out BK234.out (by decide)) e_) hs_)); have n7_ := Aside0.mk (Kd.R_mono (ok' := fun k_ => some k_ ≠ (.slice Ao49 t218.length co49 : Value).ownBlock ∧ some k_ ≠ (.slice Ao54 t222.length co54 : Value).ownBlock ∧ some k_ ≠ (.slice Ao61 t231.length co61 : Value).ownBlock ∧ some k_ ≠ (.slice Ao76 t247.length co76 : Value).ownBlock) (Kd.R_keptB ((Kd.R_apart' HO238.out (Kd.R_typed HO241.out) (by decide))) hkp (fun k_ hk_ hs_ => (hk_.2) hs_)) (fun k_ hk_ => ⟨hk_.1.1.1, hk_.1.1.2.1, hk_.1.1.2.2.1, hk_.1.1.2.2.2⟩)); have n8_ := Aside0.mk (Kd.R_reok rfl hy0 (fun k_ e_ => HO241.out.1 k_ e_)); have n9_ := Aside0.mk (blk_kept (by (with_reducible repeat (first | refine blk_drewN ?_ _ | refine blk_drew ?_ | refine blk_alloc ?_ _)); exact BK243.out) hkp (fun hs_ => (fun e_ => (Kd.R_ne HO241.out BK243.out (by decide)) e_) hs_)); have n10_ := Aside0.mk (Kd.R_mono (ok' := fun k_ => some k_ ≠ (.slice Ao49 t218.length co49 : Value).ownBlock ∧ some k_ ≠ (.slice Ao54 t222.length co54 : Value).ownBlock ∧ some k_ ≠ (.slice Ao61 t231.length co61 : Value).ownBlock ∧ some k_ ≠ (.slice Ao68 t236.length co68 : Value).ownBlock) (Kd.R_keptB ((Kd.R_apart' HO249.out (Kd.R_typed HO241.out) (by decide))) hkp (fun k_ hk_ hs_ => (hk_.2) hs_)) (fun k_ hk_ => ⟨hk_.1.1.1, hk_.1.1.2.1, hk_.1.1.2.2.1, hk_.1.1.2.2.2⟩)); have n11_ := Aside0.mk (hb); clear BK215; clear HO220; clear HO224; clear HO227; clear BK229; clear HO233; clear BK234; clear HO238; clear HO241; clear BK243; clear HO249; clear HB; have BK215 := n0_; have HO220 := n1_; have HO224 := n2_; have HO227 := n3_; have BK229 := n4_; have HO233 := n5_; have BK234 := n6_; have HO238 := n7_; have HO241 := n8_; have BK243 := n9_; have HO249 := n10_; have HB := n11_; clear n0_ n1_ n2_ n3_ n4_ n5_ n6_ n7_ n8_ n9_ n10_ n11_; (try clear hb); (try clear hkp); (try clear hy0); have hcz87_0 : w86.cell? ⟨gb243, 0, none⟩ = some (.int .i64 t235) := (blk_cell BK243.out 0).trans rfl; have hcz87_1 : w86.cell? ⟨gb243, 1, none⟩ = some (.slice Ao68 t236.length co68) := (blk_cell BK243.out 1).trans rfl; have hfz87_0 := blk_frozen BK243.out 0; have hfz87_1 := blk_frozen BK243.out 1) | ((with_reducible refine gate_callee (f := 23) rfl ?_); refine goesL_ (some 87) rfl rfl Try.func23 (by kernel_rfl) rfl #[.agg #[.int .i64 t235, .slice Ao68 t256.length co68], .int .i64 1] rfl (by (try simp only [List.map_toArray, List.map_cons, List.map_nil]); first | done | (rw [show t256.length = t236.length from (Kd.R_reads' HO238.out).1.symm] <;> rfl) | rfl | (simp only [List.length_drop, List.length_take]; rfl)) ?_; (with_reducible refine (laws_heldComplex.calls k t235 _ _ t256 1 t259 _ ?side1 ?side2 A27.out).mono ?_); (case side1 => repeat (first | exact (Kd.R_reads' HO238.out).2.2 | (with_reducible refine Kd.C_alloc ?_ _) | (with_reducible refine Kd.C_drewN ?_ _) | (with_reducible refine Kd.C_drew ?_))); (case side2 => rw [show t256.length = t236.length from (Kd.R_reads' HO238.out).1.symm]; exact (Kd.R_reads' HO238.out).2.1); rintro e w88 ⟨rfl, hb⟩; refine ⟨_, rfl, ?_⟩; have n0_ := Aside0.mk (Kd.R_below (by (with_reducible repeat (first | apply Kd.R_alloc | apply Kd.R_drewN | apply Kd.R_drew)); exact HO220.out) hb); have n1_ := Aside0.mk (Kd.R_below (by (with_reducible repeat (first | apply Kd.R_alloc | apply Kd.R_drewN | apply Kd.R_drew)); exact HO224.out) hb); have n2_ := Aside0.mk (Kd.R_below (by (with_reducible repeat (first | apply Kd.R_alloc | apply Kd.R_drewN | apply Kd.R_drew)); exact HO227.out) hb); have n3_ := Aside0.mk (Kd.R_below (by (with_reducible repeat (first | apply Kd.R_alloc | apply Kd.R_drewN | apply Kd.R_drew)); exact HO233.out) hb); have n4_ := Aside0.mk (Kd.R_below (by (with_reducible repeat (first | apply Kd.R_alloc | apply Kd.R_drewN | apply Kd.R_drew)); exact HO238.out) hb); have n5_ := Aside0.mk (Kd.R_below (by (with_reducible repeat (first | apply Kd.R_alloc | apply Kd.R_drewN | apply Kd.R_drew)); exact HO241.out) hb); have n6_ := Aside0.mk (Kd.R_below (by (with_reducible repeat (first | apply Kd.R_alloc | apply Kd.R_drewN | apply Kd.R_drew)); exact HO249.out) hb); have n7_ := Aside0.mk (blk_below (g := gb215) (o := .cells #[.int .i64 a0_0, .slice A0_1 l0_1.length c0_1] 24 (0, 0)) (by (with_reducible repeat (first | refine blk_drewN ?_ _ | refine blk_drew ?_ | refine blk_alloc ?_ _)); exact BK215.out) hb); have n8_ := Aside0.mk (blk_below (g := gb229) (o := .cells #[.int .i64 t221, .slice Ao54 t222.length co54] 26 (0, 0)) (by (with_reducible repeat (first | refine blk_drewN ?_ _ | refine blk_drew ?_ | refine blk_alloc ?_ _)); exact BK229.out) hb); have n9_ := Aside0.mk (blk_below (g := gb234) (o := .cells #[.int .i64 t230, .slice Ao61 t231.length co61] 26 (0, 0)) (by (with_reducible repeat (first | refine blk_drewN ?_ _ | refine blk_drew ?_ | refine blk_alloc ?_ _)); exact BK234.out) hb); have n10_ := Aside0.mk (blk_below (g := gb243) (o := .cells #[.int .i64 t235, .slice Ao68 t236.length co68] 26 (0, 0)) (by (with_reducible repeat (first | refine blk_drewN ?_ _ | refine blk_drew ?_ | refine blk_alloc ?_ _)); exact BK243.out) hb); have n11_ := Aside0.mk (below_step (by repeat (first | (with_reducible first | exact HB.out | apply below_alloc | apply pw_below_drewN | apply below_drew1 | refine below_set ?_ GE215.out | refine below_set ?_ GE229.out | refine below_set ?_ GE234.out | refine below_set ?_ GE243.out) | exact HB.out)) hb); clear HO220; clear HO224; clear HO227; clear HO233; clear HO238; clear HO241; clear HO249; clear BK215; clear BK229; clear BK234; clear BK243; clear HB; have HO220 := n0_; have HO224 := n1_; have HO227 := n2_; have HO233 := n3_; have HO238 := n4_; have HO241 := n5_; have HO249 := n6_; have BK215 := n7_; have BK229 := n8_; have BK234 := n9_; have BK243 := n10_; have HB := n11_; clear n0_ n1_ n2_ n3_ n4_ n5_ n6_ n7_ n8_ n9_ n10_ n11_; (try clear hb); (try clear hb2); (try clear hk); (try clear hi)) | ((with_reducible refine gate_callee (f := 24) rfl ?_); refine goesL_ (some 92) rfl rfl Try.func24 (by kernel_rfl) rfl #[.slice Ao71 t258.length co71, .int .i64 t259] rfl (by (try simp only [List.map_toArray, List.map_cons, List.map_nil]); first | done | (rw [show t258.length = t239.length from (Kd.R_reads' HO241.out).1.symm] <;> rfl) | rfl | (simp only [List.length_drop, List.length_take]; rfl)) ?_; (with_reducible refine (laws_heldPairS.calls _ _ t258 t259 t260 _ ?side1 ?side2 A29.out).mono ?_); (case side1 => repeat (first | exact (Kd.R_reads' HO241.out).2.2 | (with_reducible refine Kd.C_alloc ?_ _) | (with_reducible refine Kd.C_drewN ?_ _) | (with_reducible refine Kd.C_drew ?_))); (case side2 => rw [show t258.length = t239.length from (Kd.R_reads' HO241.out).1.symm]; exact (Kd.R_reads' HO241.out).2.1); rintro e w89 ⟨rfl, hb⟩; refine ⟨_, rfl, ?_⟩; have n0_ := Aside0.mk (Kd.R_below (by (with_reducible repeat (first | apply Kd.R_alloc | apply Kd.R_drewN | apply Kd.R_drew)); exact HO220.out) hb); have n1_ := Aside0.mk (Kd.R_below (by (with_reducible repeat (first | apply Kd.R_alloc | apply Kd.R_drewN | apply Kd.R_drew)); exact HO224.out) hb); have n2_ := Aside0.mk (Kd.R_below (by (with_reducible repeat (first | apply Kd.R_alloc | apply Kd.R_drewN | apply Kd.R_drew)); exact HO227.out) hb); have n3_ := Aside0.mk (Kd.R_below (by (with_reducible repeat (first | apply Kd.R_alloc | apply Kd.R_drewN | apply Kd.R_drew)); exact HO233.out) hb); have n4_ := Aside0.mk (Kd.R_below (by (with_reducible repeat (first | apply Kd.R_alloc | apply Kd.R_drewN | apply Kd.R_drew)); exact HO238.out) hb); have n5_ := Aside0.mk (Kd.R_below (by (with_reducible repeat (first | apply Kd.R_alloc | apply Kd.R_drewN | apply Kd.R_drew)); exact HO241.out) hb); have n6_ := Aside0.mk (Kd.R_below (by (with_reducible repeat (first | apply Kd.R_alloc | apply Kd.R_drewN | apply Kd.R_drew)); exact HO249.out) hb); have n7_ := Aside0.mk (blk_below (g := gb215) (o := .cells #[.int .i64 a0_0, .slice A0_1 l0_1.length c0_1] 24 (0, 0)) (by (with_reducible repeat (first | refine blk_drewN ?_ _ | refine blk_drew ?_ | refine blk_alloc ?_ _)); exact BK215.out) hb); have n8_ := Aside0.mk (blk_below (g := gb229) (o := .cells #[.int .i64 t221, .slice Ao54 t222.length co54] 26 (0, 0)) (by (with_reducible repeat (first | refine blk_drewN ?_ _ | refine blk_drew ?_ | refine blk_alloc ?_ _)); exact BK229.out) hb); have n9_ := Aside0.mk (blk_below (g := gb234) (o := .cells #[.int .i64 t230, .slice Ao61 t231.length co61] 26 (0, 0)) (by (with_reducible repeat (first | refine blk_drewN ?_ _ | refine blk_drew ?_ | refine blk_alloc ?_ _)); exact BK234.out) hb); have n10_ := Aside0.mk (blk_below (g := gb243) (o := .cells #[.int .i64 t235, .slice Ao68 t236.length co68] 26 (0, 0)) (by (with_reducible repeat (first | refine blk_drewN ?_ _ | refine blk_drew ?_ | refine blk_alloc ?_ _)); exact BK243.out) hb); have n11_ := Aside0.mk (below_step (by repeat (first | (with_reducible first | exact HB.out | apply below_alloc | apply pw_below_drewN | apply below_drew1 | refine below_set ?_ GE215.out | refine below_set ?_ GE229.out | refine below_set ?_ GE234.out | refine below_set ?_ GE243.out) | exact HB.out)) hb); clear HO220; clear HO224; clear HO227; clear HO233; clear HO238; clear HO241; clear HO249; clear BK215; clear BK229; clear BK234; clear BK243; clear HB; have HO220 := n0_; have HO224 := n1_; have HO227 := n2_; have HO233 := n3_; have HO238 := n4_; have HO241 := n5_; have HO249 := n6_; have BK215 := n7_; have BK229 := n8_; have BK234 := n9_; have BK243 := n10_; have HB := n11_; clear n0_ n1_ n2_ n3_ n4_ n5_ n6_ n7_ n8_ n9_ n10_ n11_; (try clear hb); (try clear hb2); (try clear hk); (try clear hi); have hcz90_0 : w89.cell? ⟨gb215, 0, none⟩ = some (.int .i64 a0_0) := (blk_cell BK215.out 0).trans rfl; have hcz90_1 : w89.cell? ⟨gb215, 1, none⟩ = some (.slice A0_1 l0_1.length c0_1) := (blk_cell BK215.out 1).trans rfl; have hfz90_0 := blk_frozen BK215.out 0; have hfz90_1 := blk_frozen BK215.out 1) | ((with_reducible refine gate_callee (f := 17) rfl ?_); refine goesL_ (some 100) rfl rfl Try.func17 (by kernel_rfl) rfl #[.agg #[.int .i64 a0_0, .slice A0_1 l0_1.length c0_1]] rfl (by (try simp only [List.map_toArray, List.map_cons, List.map_nil]); first | done | rfl | (simp only [List.length_drop, List.length_take]; rfl)) ?_; (with_reducible refine (laws_toComplex.calls k a0_0 _ _ l0_1 t261 t262 _ ?side1 ?side2 A32.out).mono ?_); (case side1 => repeat (first | exact (Kd.C_below HR0_1.out HB.out) | (with_reducible refine Kd.C_alloc ?_ _) | (with_reducible refine Kd.C_drewN ?_ _) | (with_reducible refine Kd.C_drew ?_))); (case side2 => exact HC0_1.out); rintro e w91 ⟨v263, rfl, ho0, hb⟩; refine ⟨_, rfl, ?_⟩; have n0_ := Aside0.mk (Kd.R_elder' (by (with_reducible repeat (first | apply Kd.R_alloc | apply Kd.R_drewN | apply Kd.R_drew)); exact HO220.out) (Kd.R_base ho0) hb); have n1_ := Aside0.mk (Kd.R_elder' (by (with_reducible repeat (first | apply Kd.R_alloc | apply Kd.R_drewN | apply Kd.R_drew)); exact HO224.out) (Kd.R_base ho0) hb); have n2_ := Aside0.mk (Kd.R_below (by (with_reducible repeat (first | apply Kd.R_alloc | apply Kd.R_drewN | apply Kd.R_drew)); exact HO227.out) hb); have n3_ := Aside0.mk (Kd.R_elder' (by (with_reducible repeat (first | apply Kd.R_alloc | apply Kd.R_drewN | apply Kd.R_drew)); exact HO233.out) (Kd.R_base ho0) hb); have n4_ := Aside0.mk (Kd.R_elder' (by (with_reducible repeat (first | apply Kd.R_alloc | apply Kd.R_drewN | apply Kd.R_drew)); exact HO238.out) (Kd.R_base ho0) hb); have n5_ := Aside0.mk (Kd.R_below (by (with_reducible repeat (first | apply Kd.R_alloc | apply Kd.R_drewN | apply Kd.R_drew)); exact HO241.out) hb); have n6_ := Aside0.mk (Kd.R_elder' (by (with_reducible repeat (first | apply Kd.R_alloc | apply Kd.R_drewN | apply Kd.R_drew)); exact HO249.out) (Kd.R_base ho0) hb); have n7_ := Aside0.mk (Kd.R_lower (Kd.R_new' (Kd.R_new' (Kd.R_new' (Kd.R_new' (Kd.R_new' ho0 (Kd.R_lt (by (with_reducible repeat (first | apply Kd.R_alloc | apply Kd.R_drewN | apply Kd.R_drew)); exact HO220.out))) (Kd.R_lt (by (with_reducible repeat (first | apply Kd.R_alloc | apply Kd.R_drewN | apply Kd.R_drew)); exact HO224.out))) (Kd.R_lt (by (with_reducible repeat (first | apply Kd.R_alloc | apply Kd.R_drewN | apply Kd.R_drew)); exact HO233.out))) (Kd.R_lt (by (with_reducible repeat (first | apply Kd.R_alloc | apply Kd.R_drewN | apply Kd.R_drew)); exact HO238.out))) (Kd.R_lt (by (with_reducible repeat (first | apply Kd.R_alloc | apply Kd.R_drewN | apply Kd.R_drew)); exact HO249.out))) (below_size (by repeat (first | (with_reducible first | exact HB.out | apply below_alloc | apply pw_below_drewN | apply below_drew1 | refine below_set ?_ GE215.out | refine below_set ?_ GE229.out | refine below_set ?_ GE234.out | refine below_set ?_ GE243.out) | exact HB.out)))); have n8_ := Aside0.mk (blk_below (g := gb215) (o := .cells #[.int .i64 a0_0, .slice A0_1 l0_1.length c0_1] 24 (0, 0)) (by (with_reducible repeat (first | refine blk_drewN ?_ _ | refine blk_drew ?_ | refine blk_alloc ?_ _)); exact BK215.out) hb); have n9_ := Aside0.mk (blk_below (g := gb229) (o := .cells #[.int .i64 t221, .slice Ao54 t222.length co54] 26 (0, 0)) (by (with_reducible repeat (first | refine blk_drewN ?_ _ | refine blk_drew ?_ | refine blk_alloc ?_ _)); exact BK229.out) hb); have n10_ := Aside0.mk (blk_below (g := gb234) (o := .cells #[.int .i64 t230, .slice Ao61 t231.length co61] 26 (0, 0)) (by (with_reducible repeat (first | refine blk_drewN ?_ _ | refine blk_drew ?_ | refine blk_alloc ?_ _)); exact BK234.out) hb); have n11_ := Aside0.mk (blk_below (g := gb243) (o := .cells #[.int .i64 t235, .slice Ao68 t236.length co68] 26 (0, 0)) (by (with_reducible repeat (first | refine blk_drewN ?_ _ | refine blk_drew ?_ | refine blk_alloc ?_ _)); exact BK243.out) hb); have n12_ := Aside0.mk (below_step (by repeat (first | (with_reducible first | exact HB.out | apply below_alloc | apply pw_below_drewN | apply below_drew1 | refine below_set ?_ GE215.out | refine below_set ?_ GE229.out | refine below_set ?_ GE234.out | refine below_set ?_ GE243.out) | exact HB.out)) hb); clear HO220; clear HO224; clear HO227; clear HO233; clear HO238; clear HO241; clear HO249; clear BK215; clear BK229; clear BK234; clear BK243; clear HB; have HO220 := n0_; have HO224 := n1_; have HO227 := n2_; have HO233 := n3_; have HO238 := n4_; have HO241 := n5_; have HO249 := n6_; have HO264 := n7_; have BK215 := n8_; have BK229 := n9_; have BK234 := n10_; have BK243 := n11_; have HB := n12_; clear n0_ n1_ n2_ n3_ n4_ n5_ n6_ n7_ n8_ n9_ n10_ n11_ n12_; (try clear hb); (try clear hb2); (try clear hk); (try clear hi); (try clear ho0); obtain ⟨Ao92, co92, eo92⟩ := Kd.R_slice HO264.out; subst eo92) | ((with_reducible refine gate_callee (f := 18) rfl ?_); refine goesL_ (some 101) rfl rfl Try.func18 (by kernel_rfl) rfl #[.agg #[.int .i64 t261, .slice Ao92 t262.length co92]] rfl (by (try simp only [List.map_toArray, List.map_cons, List.map_nil]); first | done | rfl | (simp only [List.length_drop, List.length_take]; rfl)) ?_; (with_reducible refine (impl_CollapseOf.calls t261 _ _ t262 t265 t266 t269 t272 _ ?side1 ?side2 A33.out).mono ?_); (case side1 => repeat (first | exact (Kd.R_reads' HO264.out).2.2 | (with_reducible refine Kd.C_alloc ?_ _) | (with_reducible refine Kd.C_drewN ?_ _) | (with_reducible refine Kd.C_drew ?_))); (case side2 => exact (Kd.R_reads' HO264.out).2.1); rintro e w93 ⟨v267, v270, rfl, ho0, ho1, hb⟩; refine ⟨_, rfl, ?_⟩; have n0_ := Aside0.mk (Kd.R_elder' (by (with_reducible repeat (first | apply Kd.R_alloc | apply Kd.R_drewN | apply Kd.R_drew)); exact HO220.out) (Kd.R_base ho0) hb); have n1_ := Aside0.mk (Kd.R_elder' (by (with_reducible repeat (first | apply Kd.R_alloc | apply Kd.R_drewN | apply Kd.R_drew)); exact HO224.out) (Kd.R_base ho0) hb); have n2_ := Aside0.mk (Kd.R_elder' (by (with_reducible repeat (first | apply Kd.R_alloc | apply Kd.R_drewN | apply Kd.R_drew)); exact HO227.out) (Kd.R_base ho1) hb); have n3_ := Aside0.mk (Kd.R_elder' (by (with_reducible repeat (first | apply Kd.R_alloc | apply Kd.R_drewN | apply Kd.R_drew)); exact HO233.out) (Kd.R_base ho0) hb); have n4_ := Aside0.mk (Kd.R_elder' (by (with_reducible repeat (first | apply Kd.R_alloc | apply Kd.R_drewN | apply Kd.R_drew)); exact HO238.out) (Kd.R_base ho0) hb); have n5_ := Aside0.mk (Kd.R_elder' (by (with_reducible repeat (first | apply Kd.R_alloc | apply Kd.R_drewN | apply Kd.R_drew)); exact HO241.out) (Kd.R_base ho1) hb); have n6_ := Aside0.mk (Kd.R_elder' (by (with_reducible repeat (first | apply Kd.R_alloc | apply Kd.R_drewN | apply Kd.R_drew)); exact HO249.out) (Kd.R_base ho0) hb); have n7_ := Aside0.mk (Kd.R_elder' (by (with_reducible repeat (first | apply Kd.R_alloc | apply Kd.R_drewN | apply Kd.R_drew)); exact HO264.out) (Kd.R_base ho0) hb); have n8_ := Aside0.mk (Kd.R_lower (Kd.R_new' (Kd.R_new' (Kd.R_new' (Kd.R_new' (Kd.R_new' (Kd.R_new' ho0 (Kd.R_lt (by (with_reducible repeat (first | apply Kd.R_alloc | apply Kd.R_drewN | apply Kd.R_drew)); exact HO220.out))) (Kd.R_lt (by (with_reducible repeat (first | apply Kd.R_alloc | apply Kd.R_drewN | apply Kd.R_drew)); exact HO224.out))) (Kd.R_lt (by (with_reducible repeat (first | apply Kd.R_alloc | apply Kd.R_drewN | apply Kd.R_drew)); exact HO233.out))) (Kd.R_lt (by (with_reducible repeat (first | apply Kd.R_alloc | apply Kd.R_drewN | apply Kd.R_drew)); exact HO238.out))) (Kd.R_lt (by (with_reducible repeat (first | apply Kd.R_alloc | apply Kd.R_drewN | apply Kd.R_drew)); exact HO249.out))) (Kd.R_lt (by (with_reducible repeat (first | apply Kd.R_alloc | apply Kd.R_drewN | apply Kd.R_drew)); exact HO264.out))) (below_size (by repeat (first | (with_reducible first | exact HB.out | apply below_alloc | apply pw_below_drewN | apply below_drew1 | refine below_set ?_ GE215.out | refine below_set ?_ GE229.out | refine below_set ?_ GE234.out | refine below_set ?_ GE243.out) | exact HB.out)))); have n9_ := Aside0.mk (Kd.R_lower (Kd.R_new' (Kd.R_new' ho1 (Kd.R_lt (by (with_reducible repeat (first | apply Kd.R_alloc | apply Kd.R_drewN | apply Kd.R_drew)); exact HO227.out))) (Kd.R_lt (by (with_reducible repeat (first | apply Kd.R_alloc | apply Kd.R_drewN | apply Kd.R_drew)); exact HO241.out))) (below_size (by repeat (first | (with_reducible first | exact HB.out | apply below_alloc | apply pw_below_drewN | apply below_drew1 | refine below_set ?_ GE215.out | refine below_set ?_ GE229.out | refine below_set ?_ GE234.out | refine below_set ?_ GE243.out) | exact HB.out)))); have n10_ := Aside0.mk (blk_below (g := gb215) (o := .cells #[.int .i64 a0_0, .slice A0_1 l0_1.length c0_1] 24 (0, 0)) (by (with_reducible repeat (first | refine blk_drewN ?_ _ | refine blk_drew ?_ | refine blk_alloc ?_ _)); exact BK215.out) hb); have n11_ := Aside0.mk (blk_below (g := gb229) (o := .cells #[.int .i64 t221, .slice Ao54 t222.length co54] 26 (0, 0)) (by (with_reducible repeat (first | refine blk_drewN ?_ _ | refine blk_drew ?_ | refine blk_alloc ?_ _)); exact BK229.out) hb); have n12_ := Aside0.mk (blk_below (g := gb234) (o := .cells #[.int .i64 t230, .slice Ao61 t231.length co61] 26 (0, 0)) (by (with_reducible repeat (first | refine blk_drewN ?_ _ | refine blk_drew ?_ | refine blk_alloc ?_ _)); exact BK234.out) hb); have n13_ := Aside0.mk (blk_below (g := gb243) (o := .cells #[.int .i64 t235, .slice Ao68 t236.length co68] 26 (0, 0)) (by (with_reducible repeat (first | refine blk_drewN ?_ _ | refine blk_drew ?_ | refine blk_alloc ?_ _)); exact BK243.out) hb); have n14_ := Aside0.mk (below_step (by repeat (first | (with_reducible first | exact HB.out | apply below_alloc | apply pw_below_drewN | apply below_drew1 | refine below_set ?_ GE215.out | refine below_set ?_ GE229.out | refine below_set ?_ GE234.out | refine below_set ?_ GE243.out) | exact HB.out)) hb); clear HO220; clear HO224; clear HO227; clear HO233; clear HO238; clear HO241; clear HO249; clear HO264; clear BK215; clear BK229; clear BK234; clear BK243; clear HB; have HO220 := n0_; have HO224 := n1_; have HO227 := n2_; have HO233 := n3_; have HO238 := n4_; have HO241 := n5_; have HO249 := n6_; have HO264 := n7_; have HO268 := n8_; have HO271 := n9_; have BK215 := n10_; have BK229 := n11_; have BK234 := n12_; have BK243 := n13_; have HB := n14_; clear n0_ n1_ n2_ n3_ n4_ n5_ n6_ n7_ n8_ n9_ n10_ n11_ n12_ n13_ n14_; (try clear hb); (try clear hb2); (try clear hk); (try clear hi); (try clear ho0); (try clear ho1)) | ((with_reducible refine gate_dst (N := 14) rfl ?_); refine box_event ?hg (N := 14) ?hd (cs := #[.int .i64 0, .slice none 0 0]) (t := 26) ?hr ?_; (case hd => rfl); (case hg => rfl); (case hr => first | (go_simp; done) | (go_simp; rfl)); intro gb273 hg w94 hbox hb; have n0_ := Aside0.mk (Kd.R_below (by (with_reducible repeat (first | apply Kd.R_alloc | apply Kd.R_drewN | apply Kd.R_drew)); exact HO220.out) hb); have n1_ := Aside0.mk (Kd.R_below (by (with_reducible repeat (first | apply Kd.R_alloc | apply Kd.R_drewN | apply Kd.R_drew)); exact HO224.out) hb); have n2_ := Aside0.mk (Kd.R_below (by (with_reducible repeat (first | apply Kd.R_alloc | apply Kd.R_drewN | apply Kd.R_drew)); exact HO227.out) hb); have n3_ := Aside0.mk (Kd.R_below (by (with_reducible repeat (first | apply Kd.R_alloc | apply Kd.R_drewN | apply Kd.R_drew)); exact HO233.out) hb); have n4_ := Aside0.mk (Kd.R_below (by (with_reducible repeat (first | apply Kd.R_alloc | apply Kd.R_drewN | apply Kd.R_drew)); exact HO238.out) hb); have n5_ := Aside0.mk (Kd.R_below (by (with_reducible repeat (first | apply Kd.R_alloc | apply Kd.R_drewN | apply Kd.R_drew)); exact HO241.out) hb); have n6_ := Aside0.mk (Kd.R_below (by (with_reducible repeat (first | apply Kd.R_alloc | apply Kd.R_drewN | apply Kd.R_drew)); exact HO249.out) hb); have n7_ := Aside0.mk (Kd.R_below (by (with_reducible repeat (first | apply Kd.R_alloc | apply Kd.R_drewN | apply Kd.R_drew)); exact HO264.out) hb); have n8_ := Aside0.mk (Kd.R_below (by (with_reducible repeat (first | apply Kd.R_alloc | apply Kd.R_drewN | apply Kd.R_drew)); exact HO268.out) hb); have n9_ := Aside0.mk (Kd.R_below (by (with_reducible repeat (first | apply Kd.R_alloc | apply Kd.R_drewN | apply Kd.R_drew)); exact HO271.out) hb); have n10_ := Aside0.mk (blk_below (g := gb215) (o := .cells #[.int .i64 a0_0, .slice A0_1 l0_1.length c0_1] 24 (0, 0)) (by (with_reducible repeat (first | refine blk_drewN ?_ _ | refine blk_drew ?_ | refine blk_alloc ?_ _)); exact BK215.out) hb); have n11_ := Aside0.mk (blk_below (g := gb229) (o := .cells #[.int .i64 t221, .slice Ao54 t222.length co54] 26 (0, 0)) (by (with_reducible repeat (first | refine blk_drewN ?_ _ | refine blk_drew ?_ | refine blk_alloc ?_ _)); exact BK229.out) hb); have n12_ := Aside0.mk (blk_below (g := gb234) (o := .cells #[.int .i64 t230, .slice Ao61 t231.length co61] 26 (0, 0)) (by (with_reducible repeat (first | refine blk_drewN ?_ _ | refine blk_drew ?_ | refine blk_alloc ?_ _)); exact BK234.out) hb); have n13_ := Aside0.mk (blk_below (g := gb243) (o := .cells #[.int .i64 t235, .slice Ao68 t236.length co68] 26 (0, 0)) (by (with_reducible repeat (first | refine blk_drewN ?_ _ | refine blk_drew ?_ | refine blk_alloc ?_ _)); exact BK243.out) hb); have n14_ := Aside0.mk (below_step (by repeat (first | (with_reducible first | exact HB.out | apply below_alloc | apply pw_below_drewN | apply below_drew1 | refine below_set ?_ GE215.out | refine below_set ?_ GE229.out | refine below_set ?_ GE234.out | refine below_set ?_ GE243.out) | exact HB.out)) hb); have n15_ := Aside0.mk (hbox); have n16_ := Aside0.mk ((by rw [hg]; exact (below_size (by repeat (first | (with_reducible first | exact HB.out | apply below_alloc | apply pw_below_drewN | apply below_drew1 | refine below_set ?_ GE215.out | refine below_set ?_ GE229.out | refine below_set ?_ GE234.out | refine below_set ?_ GE243.out) | exact HB.out))) : w.heap.size ≤ gb273)); have n17_ := Aside0.mk ((by rw [hg]; exact (below_size (by repeat (first | (with_reducible first | exact HB.out | apply below_alloc | apply pw_below_drewN | apply below_drew1 | refine below_set ?_ GE215.out | refine below_set ?_ GE229.out | refine below_set ?_ GE234.out | refine below_set ?_ GE243.out) | exact HB.out))) : w.heap.size ≤ gb273)); have n18_ := Aside0.mk ((by rw [hg]; exact Nat.ne_of_lt (blk_lt (g := gb215) (o := .cells #[.int .i64 a0_0, .slice A0_1 l0_1.length c0_1] 24 (0, 0)) (by (with_reducible repeat (first | refine blk_drewN ?_ _ | refine blk_drew ?_ | refine blk_alloc ?_ _)); exact BK215.out)) : gb215 ≠ gb273)); have n19_ := Aside0.mk ((by rw [hg]; exact Nat.ne_of_gt (blk_lt (g := gb215) (o := .cells #[.int .i64 a0_0, .slice A0_1 l0_1.length c0_1] 24 (0, 0)) (by (with_reducible repeat (first | refine blk_drewN ?_ _ | refine blk_drew ?_ | refine blk_alloc ?_ _)); exact BK215.out)) : gb273 ≠ gb215)); have n20_ := Aside0.mk ((by rw [hg]; exact Nat.ne_of_lt (blk_lt (g := gb229) (o := .cells #[.int .i64 t221, .slice Ao54 t222.length co54] 26 (0, 0)) (by (with_reducible repeat (first | refine blk_drewN ?_ _ | refine blk_drew ?_ | refine blk_alloc ?_ _)); exact BK229.out)) : gb229 ≠ gb273)); have n21_ := Aside0.mk ((by rw [hg]; exact Nat.ne_of_gt (blk_lt (g := gb229) (o := .cells #[.int .i64 t221, .slice Ao54 t222.length co54] 26 (0, 0)) (by (with_reducible repeat (first | refine blk_drewN ?_ _ | refine blk_drew ?_ | refine blk_alloc ?_ _)); exact BK229.out)) : gb273 ≠ gb229)); have n22_ := Aside0.mk ((by rw [hg]; exact Nat.ne_of_lt (blk_lt (g := gb234) (o := .cells #[.int .i64 t230, .slice Ao61 t231.length co61] 26 (0, 0)) (by (with_reducible repeat (first | refine blk_drewN ?_ _ | refine blk_drew ?_ | refine blk_alloc ?_ _)); exact BK234.out)) : gb234 ≠ gb273)); have n23_ := Aside0.mk ((by rw [hg]; exact Nat.ne_of_gt (blk_lt (g := gb234) (o := .cells #[.int .i64 t230, .slice Ao61 t231.length co61] 26 (0, 0)) (by (with_reducible repeat (first | refine blk_drewN ?_ _ | refine blk_drew ?_ | refine blk_alloc ?_ _)); exact BK234.out)) : gb273 ≠ gb234)); have n24_ := Aside0.mk ((by rw [hg]; exact Nat.ne_of_lt (blk_lt (g := gb243) (o := .cells #[.int .i64 t235, .slice Ao68 t236.length co68] 26 (0, 0)) (by (with_reducible repeat (first | refine blk_drewN ?_ _ | refine blk_drew ?_ | refine blk_alloc ?_ _)); exact BK243.out)) : gb243 ≠ gb273)); have n25_ := Aside0.mk ((by rw [hg]; exact Nat.ne_of_gt (blk_lt (g := gb243) (o := .cells #[.int .i64 t235, .slice Ao68 t236.length co68] 26 (0, 0)) (by (with_reducible repeat (first | refine blk_drewN ?_ _ | refine blk_drew ?_ | refine blk_alloc ?_ _)); exact BK243.out)) : gb273 ≠ gb243)); clear HO220; clear HO224; clear HO227; clear HO233; clear HO238; clear HO241; clear HO249; clear HO264; clear HO268; clear HO271; clear BK215; clear BK229; clear BK234; clear BK243; clear HB; have HO220 := n0_; have HO224 := n1_; have HO227 := n2_; have HO233 := n3_; have HO238 := n4_; have HO241 := n5_; have HO249 := n6_; have HO264 := n7_; have HO268 := n8_; have HO271 := n9_; have BK215 := n10_; have BK229 := n11_; have BK234 := n12_; have BK243 := n13_; have HB := n14_; have BK273 := n15_; have GW273 := n16_; have GE273 := n17_; have NB215_273 := n18_; have NB273_215 := n19_; have NB229_273 := n20_; have NB273_229 := n21_; have NB234_273 := n22_; have NB273_234 := n23_; have NB243_273 := n24_; have NB273_243 := n25_; clear n0_ n1_ n2_ n3_ n4_ n5_ n6_ n7_ n8_ n9_ n10_ n11_ n12_ n13_ n14_ n15_ n16_ n17_ n18_ n19_ n20_ n21_ n22_ n23_ n24_ n25_; clear hb hbox hg; have hnb95 := NB273_215.out; have hnc95 := NB215_273.out; have hnb96 := NB273_229.out; have hnc96 := NB229_273.out; have hnb97 := NB273_234.out; have hnc97 := NB234_273.out; have hnb98 := NB273_243.out; have hnc98 := NB243_273.out; have hcz99_0 : w94.cell? ⟨gb273, 0, none⟩ = some (.int .i64 0) := (blk_cell BK273.out 0).trans rfl; have hcz99_1 : w94.cell? ⟨gb273, 1, none⟩ = some (.slice none 0 0) := (blk_cell BK273.out 1).trans rfl; have hfz99_0 := blk_frozen BK273.out 0; have hfz99_1 := blk_frozen BK273.out 1; obtain ⟨Ao100, co100, eo100⟩ := Kd.R_slice HO268.out; subst eo100; have hcz101_0 : w94.cell? ⟨gb229, 0, none⟩ = some (.int .i64 t221) := (blk_cell BK229.out 0).trans rfl; have hcz101_1 : w94.cell? ⟨gb229, 1, none⟩ = some (.slice Ao54 t222.length co54) := (blk_cell BK229.out 1).trans rfl; have hfz101_0 := blk_frozen BK229.out 0; have hfz101_1 := blk_frozen BK229.out 1) | ((with_reducible refine gate_callee (f := 19) rfl ?_); refine goesL_ (some 107) rfl rfl Try.func19 (by kernel_rfl) rfl #[.agg #[.int .i64 t265, .slice Ao100 t266.length co100], .agg #[.int .i64 t221, .slice Ao54 t222.length co54]] rfl (by (try simp only [List.map_toArray, List.map_cons, List.map_nil]); first | done | rfl | (simp only [List.length_drop, List.length_take]; rfl)) ?_; (with_reducible refine (laws_eqComplex.calls k t265 _ _ t266 t221 _ _ t222 true _ ?side1 ?side2 ?side3 ?side4 A34.out).mono ?_); (case side1 => refine (Kd.R_reads' (e := 2) (base := w.heap.size) (ok := fun k_ => ((((((True ∧ some k_ ≠ (.slice Ao49 t218.length co49 : Value).ownBlock) ∧ some k_ ≠ (.slice Ao54 t222.length co54 : Value).ownBlock) ∧ some k_ ≠ (.slice Ao61 t231.length co61 : Value).ownBlock) ∧ some k_ ≠ (.slice Ao68 t236.length co68 : Value).ownBlock) ∧ some k_ ≠ (.slice Ao76 t247.length co76 : Value).ownBlock) ∧ some k_ ≠ (.slice Ao92 t262.length co92 : Value).ownBlock)) (n := t266.length) (c := co100) ?_).2.2; exact (by (with_reducible repeat (first | apply Kd.R_alloc | apply Kd.R_drewN | apply Kd.R_drew)); exact (Kd.R_mono (Kd.R_far (p := ⟨gb273, 1, none⟩) (Kd.R_far (p := ⟨gb273, 0, none⟩) (Kd.R_types HO268.out BK273.out (by decide)) (fun _ hk => hk.2) (.int .i64 t265)) (fun _ hk => hk.2) (.slice Ao100 t266.length co100)) (fun _ h_ => h_.1)))); (case side2 => exact (Kd.R_reads' HO268.out).2.1); (case side3 => refine (Kd.R_reads' (e := 2) (base := w.heap.size) (ok := fun k_ => (((some k_ ≠ (.slice Ao49 t218.length co49 : Value).ownBlock ∧ (some k_ ≠ (.slice Ao61 t231.length co61 : Value).ownBlock ∧ (some k_ ≠ (.slice Ao68 t236.length co68 : Value).ownBlock ∧ some k_ ≠ (.slice Ao76 t247.length co76 : Value).ownBlock))) ∧ some k_ ≠ (.slice Ao92 t262.length co92 : Value).ownBlock) ∧ some k_ ≠ (.slice Ao100 t266.length co100 : Value).ownBlock)) (n := t222.length) (c := co54) ?_).2.2; exact (by (with_reducible repeat (first | apply Kd.R_alloc | apply Kd.R_drewN | apply Kd.R_drew)); exact (Kd.R_mono (Kd.R_far (p := ⟨gb273, 1, none⟩) (Kd.R_far (p := ⟨gb273, 0, none⟩) (Kd.R_types HO224.out BK273.out (by decide)) (fun _ hk => hk.2) (.int .i64 t265)) (fun _ hk => hk.2) (.slice Ao100 t266.length co100)) (fun _ h_ => h_.1)))); (case side4 => exact (Kd.R_reads' HO224.out).2.1); rintro e w102 ⟨rfl, hb⟩; refine ⟨_, rfl, ?_⟩; have n0_ := Aside0.mk (Kd.R_below (by (with_reducible repeat (first | apply Kd.R_alloc | apply Kd.R_drewN | apply Kd.R_drew)); exact (Kd.R_mono (Kd.R_far (p := ⟨gb273, 1, none⟩) (Kd.R_far (p := ⟨gb273, 0, none⟩) (Kd.R_types HO220.out BK273.out (by decide)) (fun _ hk => hk.2) (.int .i64 t265)) (fun _ hk => hk.2) (.slice Ao100 t266.length co100)) (fun _ h_ => h_.1))) hb); have n1_ := Aside0.mk (Kd.R_below (by (with_reducible repeat (first | apply Kd.R_alloc | apply Kd.R_drewN | apply Kd.R_drew)); exact (Kd.R_mono (Kd.R_far (p := ⟨gb273, 1, none⟩) (Kd.R_far (p := ⟨gb273, 0, none⟩) (Kd.R_types HO224.out BK273.out (by decide)) (fun _ hk => hk.2) (.int .i64 t265)) (fun _ hk => hk.2) (.slice Ao100 t266.length co100)) (fun _ h_ => h_.1))) hb); have n2_ := Aside0.mk (Kd.R_below (by (with_reducible repeat (first | apply Kd.R_alloc | apply Kd.R_drewN | apply Kd.R_drew)); exact (Kd.R_mono (Kd.R_far (p := ⟨gb273, 1, none⟩) (Kd.R_far (p := ⟨gb273, 0, none⟩) (Kd.R_types HO227.out BK273.out (by decide)) (fun _ hk => hk.2) (.int .i64 t265)) (fun _ hk => hk.2) (.slice Ao100 t266.length co100)) (fun _ h_ => h_.1))) hb); have n3_ := Aside0.mk (Kd.R_below (by (with_reducible repeat (first | apply Kd.R_alloc | apply Kd.R_drewN | apply Kd.R_drew)); exact (Kd.R_mono (Kd.R_far (p := ⟨gb273, 1, none⟩) (Kd.R_far (p := ⟨gb273, 0, none⟩) (Kd.R_types HO233.out BK273.out (by decide)) (fun _ hk => hk.2) (.int .i64 t265)) (fun _ hk => hk.2) (.slice Ao100 t266.length co100)) (fun _ h_ => h_.1))) hb); have n4_ := Aside0.mk (Kd.R_below (by (with_reducible repeat (first | apply Kd.R_alloc | apply Kd.R_drewN | apply Kd.R_drew)); exact (Kd.R_mono (Kd.R_far (p := ⟨gb273, 1, none⟩) (Kd.R_far (p := ⟨gb273, 0, none⟩) (Kd.R_types HO238.out BK273.out (by decide)) (fun _ hk => hk.2) (.int .i64 t265)) (fun _ hk => hk.2) (.slice Ao100 t266.length co100)) (fun _ h_ => h_.1))) hb); have n5_ := Aside0.mk (Kd.R_below (by (with_reducible repeat (first | apply Kd.R_alloc | apply Kd.R_drewN | apply Kd.R_drew)); exact (Kd.R_mono (Kd.R_far (p := ⟨gb273, 1, none⟩) (Kd.R_far (p := ⟨gb273, 0, none⟩) (Kd.R_types HO241.out BK273.out (by decide)) (fun _ hk => hk.2) (.int .i64 t265)) (fun _ hk => hk.2) (.slice Ao100 t266.length co100)) (fun _ h_ => h_.1))) hb); have n6_ := Aside0.mk (Kd.R_below (by (with_reducible repeat (first | apply Kd.R_alloc | apply Kd.R_drewN | apply Kd.R_drew)); exact (Kd.R_mono (Kd.R_far (p := ⟨gb273, 1, none⟩) (Kd.R_far (p := ⟨gb273, 0, none⟩) (Kd.R_types HO249.out BK273.out (by decide)) (fun _ hk => hk.2) (.int .i64 t265)) (fun _ hk => hk.2) (.slice Ao100 t266.length co100)) (fun _ h_ => h_.1))) hb); have n7_ := Aside0.mk (Kd.R_below (by (with_reducible repeat (first | apply Kd.R_alloc | apply Kd.R_drewN | apply Kd.R_drew)); exact (Kd.R_mono (Kd.R_far (p := ⟨gb273, 1, none⟩) (Kd.R_far (p := ⟨gb273, 0, none⟩) (Kd.R_types HO264.out BK273.out (by decide)) (fun _ hk => hk.2) (.int .i64 t265)) (fun _ hk => hk.2) (.slice Ao100 t266.length co100)) (fun _ h_ => h_.1))) hb); have n8_ := Aside0.mk (Kd.R_below (by (with_reducible repeat (first | apply Kd.R_alloc | apply Kd.R_drewN | apply Kd.R_drew)); exact (Kd.R_mono (Kd.R_far (p := ⟨gb273, 1, none⟩) (Kd.R_far (p := ⟨gb273, 0, none⟩) (Kd.R_types HO268.out BK273.out (by decide)) (fun _ hk => hk.2) (.int .i64 t265)) (fun _ hk => hk.2) (.slice Ao100 t266.length co100)) (fun _ h_ => h_.1))) hb); have n9_ := Aside0.mk (Kd.R_below (by (with_reducible repeat (first | apply Kd.R_alloc | apply Kd.R_drewN | apply Kd.R_drew)); exact (Kd.R_mono (Kd.R_far (p := ⟨gb273, 1, none⟩) (Kd.R_far (p := ⟨gb273, 0, none⟩) (Kd.R_types HO271.out BK273.out (by decide)) (fun _ hk => hk.2) (.int .i64 t265)) (fun _ hk => hk.2) (.slice Ao100 t266.length co100)) (fun _ h_ => h_.1))) hb); have n10_ := Aside0.mk (blk_below (g := gb215) (o := .cells #[.int .i64 a0_0, .slice A0_1 l0_1.length c0_1] 24 (0, 0)) (by (with_reducible repeat (first | refine blk_drewN ?_ _ | refine blk_drew ?_ | refine blk_alloc ?_ _)); refine blk_far ?_ NB215_273.out _; (with_reducible repeat (first | refine blk_drewN ?_ _ | refine blk_drew ?_ | refine blk_alloc ?_ _)); refine blk_far ?_ NB215_273.out _; (with_reducible repeat (first | refine blk_drewN ?_ _ | refine blk_drew ?_ | refine blk_alloc ?_ _)); exact BK215.out) hb); have n11_ := Aside0.mk (blk_below (g := gb229) (o := .cells #[.int .i64 t221, .slice Ao54 t222.length co54] 26 (0, 0)) (by (with_reducible repeat (first | refine blk_drewN ?_ _ | refine blk_drew ?_ | refine blk_alloc ?_ _)); refine blk_far ?_ NB229_273.out _; (with_reducible repeat (first | refine blk_drewN ?_ _ | refine blk_drew ?_ | refine blk_alloc ?_ _)); refine blk_far ?_ NB229_273.out _; (with_reducible repeat (first | refine blk_drewN ?_ _ | refine blk_drew ?_ | refine blk_alloc ?_ _)); exact BK229.out) hb); have n12_ := Aside0.mk (blk_below (g := gb234) (o := .cells #[.int .i64 t230, .slice Ao61 t231.length co61] 26 (0, 0)) (by (with_reducible repeat (first | refine blk_drewN ?_ _ | refine blk_drew ?_ | refine blk_alloc ?_ _)); refine blk_far ?_ NB234_273.out _; (with_reducible repeat (first | refine blk_drewN ?_ _ | refine blk_drew ?_ | refine blk_alloc ?_ _)); refine blk_far ?_ NB234_273.out _; (with_reducible repeat (first | refine blk_drewN ?_ _ | refine blk_drew ?_ | refine blk_alloc ?_ _)); exact BK234.out) hb); have n13_ := Aside0.mk (blk_below (g := gb243) (o := .cells #[.int .i64 t235, .slice Ao68 t236.length co68] 26 (0, 0)) (by (with_reducible repeat (first | refine blk_drewN ?_ _ | refine blk_drew ?_ | refine blk_alloc ?_ _)); refine blk_far ?_ NB243_273.out _; (with_reducible repeat (first | refine blk_drewN ?_ _ | refine blk_drew ?_ | refine blk_alloc ?_ _)); refine blk_far ?_ NB243_273.out _; (with_reducible repeat (first | refine blk_drewN ?_ _ | refine blk_drew ?_ | refine blk_alloc ?_ _)); exact BK243.out) hb); have n14_ := Aside0.mk (blk_below (g := gb273) (o := .cells #[.int .i64 t265, .slice Ao100 t266.length co100] 26 (0, 0)) (by (with_reducible repeat (first | refine blk_drewN ?_ _ | refine blk_drew ?_ | refine blk_alloc ?_ _)); refine blk_put (cs := #[.int .i64 t265, .slice none 0 0]) ?_ 1 _ rfl; (with_reducible repeat (first | refine blk_drewN ?_ _ | refine blk_drew ?_ | refine blk_alloc ?_ _)); refine blk_put (cs := #[.int .i64 0, .slice none 0 0]) ?_ 0 _ rfl; (with_reducible repeat (first | refine blk_drewN ?_ _ | refine blk_drew ?_ | refine blk_alloc ?_ _)); exact BK273.out) hb); have n15_ := Aside0.mk (below_step (by repeat (first | (with_reducible first | exact HB.out | apply below_alloc | apply pw_below_drewN | apply below_drew1 | refine below_set ?_ GE215.out | refine below_set ?_ GE229.out | refine below_set ?_ GE234.out | refine below_set ?_ GE243.out | refine below_set ?_ GE273.out) | exact HB.out)) hb); clear HO220; clear HO224; clear HO227; clear HO233; clear HO238; clear HO241; clear HO249; clear HO264; clear HO268; clear HO271; clear BK215; clear BK229; clear BK234; clear BK243; clear BK273; clear HB; have HO220 := n0_; have HO224 := n1_; have HO227 := n2_; have HO233 := n3_; have HO238 := n4_; have HO241 := n5_; have HO249 := n6_; have HO264 := n7_; have HO268 := n8_; have HO271 := n9_; have BK215 := n10_; have BK229 := n11_; have BK234 := n12_; have BK243 := n13_; have BK273 := n14_; have HB := n15_; clear n0_ n1_ n2_ n3_ n4_ n5_ n6_ n7_ n8_ n9_ n10_ n11_ n12_ n13_ n14_ n15_; (try clear hb); (try clear hb2); (try clear hk); (try clear hi); obtain ⟨Ao103, co103, eo103⟩ := Kd.R_slice HO271.out; subst eo103) | (go_at_call 20; (with_reducible refine (laws_eqPairS.calls k _ _ t269 _ _ t225 true _ ?side1 ?side2 ?side3 ?side4 A36.out).mono ?_); (case side1 => repeat (first | exact (Kd.R_reads' HO271.out).2.2 | (with_reducible refine Kd.C_alloc ?_ _) | (with_reducible refine Kd.C_drewN ?_ _) | (with_reducible refine Kd.C_drew ?_))); (case side2 => exact (Kd.R_reads' HO271.out).2.1); (case side3 => repeat (first | exact (Kd.R_reads' HO227.out).2.2 | (with_reducible refine Kd.C_alloc ?_ _) | (with_reducible refine Kd.C_drewN ?_ _) | (with_reducible refine Kd.C_drew ?_))); (case side4 => exact (Kd.R_reads' HO227.out).2.1); rintro e w104 ⟨rfl, hb⟩; have n0_ := Aside0.mk (Kd.R_below (by (with_reducible repeat (first | apply Kd.R_alloc | apply Kd.R_drewN | apply Kd.R_drew)); exact HO220.out) hb); have n1_ := Aside0.mk (Kd.R_below (by (with_reducible repeat (first | apply Kd.R_alloc | apply Kd.R_drewN | apply Kd.R_drew)); exact HO224.out) hb); have n2_ := Aside0.mk (Kd.R_below (by (with_reducible repeat (first | apply Kd.R_alloc | apply Kd.R_drewN | apply Kd.R_drew)); exact HO227.out) hb); have n3_ := Aside0.mk (Kd.R_below (by (with_reducible repeat (first | apply Kd.R_alloc | apply Kd.R_drewN | apply Kd.R_drew)); exact HO233.out) hb); have n4_ := Aside0.mk (Kd.R_below (by (with_reducible repeat (first | apply Kd.R_alloc | apply Kd.R_drewN | apply Kd.R_drew)); exact HO238.out) hb); have n5_ := Aside0.mk (Kd.R_below (by (with_reducible repeat (first | apply Kd.R_alloc | apply Kd.R_drewN | apply Kd.R_drew)); exact HO241.out) hb); have n6_ := Aside0.mk (Kd.R_below (by (with_reducible repeat (first | apply Kd.R_alloc | apply Kd.R_drewN | apply Kd.R_drew)); exact HO249.out) hb); have n7_ := Aside0.mk (Kd.R_below (by (with_reducible repeat (first | apply Kd.R_alloc | apply Kd.R_drewN | apply Kd.R_drew)); exact HO264.out) hb); have n8_ := Aside0.mk (Kd.R_below (by (with_reducible repeat (first | apply Kd.R_alloc | apply Kd.R_drewN | apply Kd.R_drew)); exact HO268.out) hb); have n9_ := Aside0.mk (Kd.R_below (by (with_reducible repeat (first | apply Kd.R_alloc | apply Kd.R_drewN | apply Kd.R_drew)); exact HO271.out) hb); have n10_ := Aside0.mk (blk_below (g := gb215) (o := .cells #[.int .i64 a0_0, .slice A0_1 l0_1.length c0_1] 24 (0, 0)) (by (with_reducible repeat (first | refine blk_drewN ?_ _ | refine blk_drew ?_ | refine blk_alloc ?_ _)); exact BK215.out) hb); have n11_ := Aside0.mk (blk_below (g := gb229) (o := .cells #[.int .i64 t221, .slice Ao54 t222.length co54] 26 (0, 0)) (by (with_reducible repeat (first | refine blk_drewN ?_ _ | refine blk_drew ?_ | refine blk_alloc ?_ _)); exact BK229.out) hb); have n12_ := Aside0.mk (blk_below (g := gb234) (o := .cells #[.int .i64 t230, .slice Ao61 t231.length co61] 26 (0, 0)) (by (with_reducible repeat (first | refine blk_drewN ?_ _ | refine blk_drew ?_ | refine blk_alloc ?_ _)); exact BK234.out) hb); have n13_ := Aside0.mk (blk_below (g := gb243) (o := .cells #[.int .i64 t235, .slice Ao68 t236.length co68] 26 (0, 0)) (by (with_reducible repeat (first | refine blk_drewN ?_ _ | refine blk_drew ?_ | refine blk_alloc ?_ _)); exact BK243.out) hb); have n14_ := Aside0.mk (blk_below (g := gb273) (o := .cells #[.int .i64 t265, .slice Ao100 t266.length co100] 26 (0, 0)) (by (with_reducible repeat (first | refine blk_drewN ?_ _ | refine blk_drew ?_ | refine blk_alloc ?_ _)); exact BK273.out) hb); have n15_ := Aside0.mk (below_step (by repeat (first | (with_reducible first | exact HB.out | apply below_alloc | apply pw_below_drewN | apply below_drew1 | refine below_set ?_ GE215.out | refine below_set ?_ GE229.out | refine below_set ?_ GE234.out | refine below_set ?_ GE243.out | refine below_set ?_ GE273.out) | exact HB.out)) hb); clear HO220; clear HO224; clear HO227; clear HO233; clear HO238; clear HO241; clear HO249; clear HO264; clear HO268; clear HO271; clear BK215; clear BK229; clear BK234; clear BK243; clear BK273; clear HB; have HO220 := n0_; have HO224 := n1_; have HO227 := n2_; have HO233 := n3_; have HO238 := n4_; have HO241 := n5_; have HO249 := n6_; have HO264 := n7_; have HO268 := n8_; have HO271 := n9_; have BK215 := n10_; have BK229 := n11_; have BK234 := n12_; have BK243 := n13_; have BK273 := n14_; have HB := n15_; clear n0_ n1_ n2_ n3_ n4_ n5_ n6_ n7_ n8_ n9_ n10_ n11_ n12_ n13_ n14_ n15_; (try clear hb); (try clear hb2); (try clear hk); (try clear hi); have hcz105_0 : w104.cell? ⟨gb243, 0, none⟩ = some (.int .i64 t235) := (blk_cell BK243.out 0).trans rfl; have hcz105_1 : w104.cell? ⟨gb243, 1, none⟩ = some (.slice Ao68 t236.length co68) := (blk_cell BK243.out 1).trans rfl; have hfz105_0 := blk_frozen BK243.out 0; have hfz105_1 := blk_frozen BK243.out 1) | ((with_reducible refine gate_callee (f := 23) rfl ?_); refine goesL_ (some 122) rfl rfl Try.func23 (by kernel_rfl) rfl #[.agg #[.int .i64 t235, .slice Ao68 t256.length co68], .int .i64 1] rfl (by (try simp only [List.map_toArray, List.map_cons, List.map_nil]); first | done | (rw [show t256.length = t236.length from (Kd.R_reads' HO238.out).1.symm] <;> rfl) | rfl | (simp only [List.length_drop, List.length_take]; rfl)) ?_; (with_reducible refine (laws_heldComplex.calls k t235 _ _ t256 1 t276 _ ?side1 ?side2 A39.out).mono ?_); (case side1 => repeat (first | exact (Kd.R_reads' HO238.out).2.2 | (with_reducible refine Kd.C_alloc ?_ _) | (with_reducible refine Kd.C_drewN ?_ _) | (with_reducible refine Kd.C_drew ?_))); (case side2 => rw [show t256.length = t236.length from (Kd.R_reads' HO238.out).1.symm]; exact (Kd.R_reads' HO238.out).2.1); rintro e w106 ⟨rfl, hb⟩; refine ⟨_, rfl, ?_⟩; have n0_ := Aside0.mk (Kd.R_below (by (with_reducible repeat (first | apply Kd.R_alloc | apply Kd.R_drewN | apply Kd.R_drew)); exact HO220.out) hb); have n1_ := Aside0.mk (Kd.R_below (by (with_reducible repeat (first | apply Kd.R_alloc | apply Kd.R_drewN | apply Kd.R_drew)); exact HO224.out) hb); have n2_ := Aside0.mk (Kd.R_below (by (with_reducible repeat (first | apply Kd.R_alloc | apply Kd.R_drewN | apply Kd.R_drew)); exact HO227.out) hb); have n3_ := Aside0.mk (Kd.R_below (by (with_reducible repeat (first | apply Kd.R_alloc | apply Kd.R_drewN | apply Kd.R_drew)); exact HO233.out) hb); have n4_ := Aside0.mk (Kd.R_below (by (with_reducible repeat (first | apply Kd.R_alloc | apply Kd.R_drewN | apply Kd.R_drew)); exact HO238.out) hb); have n5_ := Aside0.mk (Kd.R_below (by (with_reducible repeat (first | apply Kd.R_alloc | apply Kd.R_drewN | apply Kd.R_drew)); exact HO241.out) hb); have n6_ := Aside0.mk (Kd.R_below (by (with_reducible repeat (first | apply Kd.R_alloc | apply Kd.R_drewN | apply Kd.R_drew)); exact HO249.out) hb); have n7_ := Aside0.mk (Kd.R_below (by (with_reducible repeat (first | apply Kd.R_alloc | apply Kd.R_drewN | apply Kd.R_drew)); exact HO264.out) hb); have n8_ := Aside0.mk (Kd.R_below (by (with_reducible repeat (first | apply Kd.R_alloc | apply Kd.R_drewN | apply Kd.R_drew)); exact HO268.out) hb); have n9_ := Aside0.mk (Kd.R_below (by (with_reducible repeat (first | apply Kd.R_alloc | apply Kd.R_drewN | apply Kd.R_drew)); exact HO271.out) hb); have n10_ := Aside0.mk (blk_below (g := gb215) (o := .cells #[.int .i64 a0_0, .slice A0_1 l0_1.length c0_1] 24 (0, 0)) (by (with_reducible repeat (first | refine blk_drewN ?_ _ | refine blk_drew ?_ | refine blk_alloc ?_ _)); exact BK215.out) hb); have n11_ := Aside0.mk (blk_below (g := gb229) (o := .cells #[.int .i64 t221, .slice Ao54 t222.length co54] 26 (0, 0)) (by (with_reducible repeat (first | refine blk_drewN ?_ _ | refine blk_drew ?_ | refine blk_alloc ?_ _)); exact BK229.out) hb); have n12_ := Aside0.mk (blk_below (g := gb234) (o := .cells #[.int .i64 t230, .slice Ao61 t231.length co61] 26 (0, 0)) (by (with_reducible repeat (first | refine blk_drewN ?_ _ | refine blk_drew ?_ | refine blk_alloc ?_ _)); exact BK234.out) hb); have n13_ := Aside0.mk (blk_below (g := gb243) (o := .cells #[.int .i64 t235, .slice Ao68 t236.length co68] 26 (0, 0)) (by (with_reducible repeat (first | refine blk_drewN ?_ _ | refine blk_drew ?_ | refine blk_alloc ?_ _)); exact BK243.out) hb); have n14_ := Aside0.mk (blk_below (g := gb273) (o := .cells #[.int .i64 t265, .slice Ao100 t266.length co100] 26 (0, 0)) (by (with_reducible repeat (first | refine blk_drewN ?_ _ | refine blk_drew ?_ | refine blk_alloc ?_ _)); exact BK273.out) hb); have n15_ := Aside0.mk (below_step (by repeat (first | (with_reducible first | exact HB.out | apply below_alloc | apply pw_below_drewN | apply below_drew1 | refine below_set ?_ GE215.out | refine below_set ?_ GE229.out | refine below_set ?_ GE234.out | refine below_set ?_ GE243.out | refine below_set ?_ GE273.out) | exact HB.out)) hb); clear HO220; clear HO224; clear HO227; clear HO233; clear HO238; clear HO241; clear HO249; clear HO264; clear HO268; clear HO271; clear BK215; clear BK229; clear BK234; clear BK243; clear BK273; clear HB; have HO220 := n0_; have HO224 := n1_; have HO227 := n2_; have HO233 := n3_; have HO238 := n4_; have HO241 := n5_; have HO249 := n6_; have HO264 := n7_; have HO268 := n8_; have HO271 := n9_; have BK215 := n10_; have BK229 := n11_; have BK234 := n12_; have BK243 := n13_; have BK273 := n14_; have HB := n15_; clear n0_ n1_ n2_ n3_ n4_ n5_ n6_ n7_ n8_ n9_ n10_ n11_ n12_ n13_ n14_ n15_; (try clear hb); (try clear hb2); (try clear hk); (try clear hi)) | ((with_reducible refine gate_callee (f := 24) rfl ?_); refine goesL_ (some 127) rfl rfl Try.func24 (by kernel_rfl) rfl #[.slice Ao71 t258.length co71, .int .i64 t276] rfl (by (try simp only [List.map_toArray, List.map_cons, List.map_nil]); first | done | (rw [show t258.length = t239.length from (Kd.R_reads' HO241.out).1.symm] <;> rfl) | rfl | (simp only [List.length_drop, List.length_take]; rfl)) ?_; (with_reducible refine (laws_heldPairS.calls _ _ t258 t276 t277 _ ?side1 ?side2 A41.out).mono ?_); (case side1 => repeat (first | exact (Kd.R_reads' HO241.out).2.2 | (with_reducible refine Kd.C_alloc ?_ _) | (with_reducible refine Kd.C_drewN ?_ _) | (with_reducible refine Kd.C_drew ?_))); (case side2 => rw [show t258.length = t239.length from (Kd.R_reads' HO241.out).1.symm]; exact (Kd.R_reads' HO241.out).2.1); rintro e w107 ⟨rfl, hb⟩; refine ⟨_, rfl, ?_⟩; have n0_ := Aside0.mk (Kd.R_below (by (with_reducible repeat (first | apply Kd.R_alloc | apply Kd.R_drewN | apply Kd.R_drew)); exact HO220.out) hb); have n1_ := Aside0.mk (Kd.R_below (by (with_reducible repeat (first | apply Kd.R_alloc | apply Kd.R_drewN | apply Kd.R_drew)); exact HO224.out) hb); have n2_ := Aside0.mk (Kd.R_below (by (with_reducible repeat (first | apply Kd.R_alloc | apply Kd.R_drewN | apply Kd.R_drew)); exact HO227.out) hb); have n3_ := Aside0.mk (Kd.R_below (by (with_reducible repeat (first | apply Kd.R_alloc | apply Kd.R_drewN | apply Kd.R_drew)); exact HO233.out) hb); have n4_ := Aside0.mk (Kd.R_below (by (with_reducible repeat (first | apply Kd.R_alloc | apply Kd.R_drewN | apply Kd.R_drew)); exact HO238.out) hb); have n5_ := Aside0.mk (Kd.R_below (by (with_reducible repeat (first | apply Kd.R_alloc | apply Kd.R_drewN | apply Kd.R_drew)); exact HO241.out) hb); have n6_ := Aside0.mk (Kd.R_below (by (with_reducible repeat (first | apply Kd.R_alloc | apply Kd.R_drewN | apply Kd.R_drew)); exact HO249.out) hb); have n7_ := Aside0.mk (Kd.R_below (by (with_reducible repeat (first | apply Kd.R_alloc | apply Kd.R_drewN | apply Kd.R_drew)); exact HO264.out) hb); have n8_ := Aside0.mk (Kd.R_below (by (with_reducible repeat (first | apply Kd.R_alloc | apply Kd.R_drewN | apply Kd.R_drew)); exact HO268.out) hb); have n9_ := Aside0.mk (Kd.R_below (by (with_reducible repeat (first | apply Kd.R_alloc | apply Kd.R_drewN | apply Kd.R_drew)); exact HO271.out) hb); have n10_ := Aside0.mk (blk_below (g := gb215) (o := .cells #[.int .i64 a0_0, .slice A0_1 l0_1.length c0_1] 24 (0, 0)) (by (with_reducible repeat (first | refine blk_drewN ?_ _ | refine blk_drew ?_ | refine blk_alloc ?_ _)); exact BK215.out) hb); have n11_ := Aside0.mk (blk_below (g := gb229) (o := .cells #[.int .i64 t221, .slice Ao54 t222.length co54] 26 (0, 0)) (by (with_reducible repeat (first | refine blk_drewN ?_ _ | refine blk_drew ?_ | refine blk_alloc ?_ _)); exact BK229.out) hb); have n12_ := Aside0.mk (blk_below (g := gb234) (o := .cells #[.int .i64 t230, .slice Ao61 t231.length co61] 26 (0, 0)) (by (with_reducible repeat (first | refine blk_drewN ?_ _ | refine blk_drew ?_ | refine blk_alloc ?_ _)); exact BK234.out) hb); have n13_ := Aside0.mk (blk_below (g := gb243) (o := .cells #[.int .i64 t235, .slice Ao68 t236.length co68] 26 (0, 0)) (by (with_reducible repeat (first | refine blk_drewN ?_ _ | refine blk_drew ?_ | refine blk_alloc ?_ _)); exact BK243.out) hb); have n14_ := Aside0.mk (blk_below (g := gb273) (o := .cells #[.int .i64 t265, .slice Ao100 t266.length co100] 26 (0, 0)) (by (with_reducible repeat (first | refine blk_drewN ?_ _ | refine blk_drew ?_ | refine blk_alloc ?_ _)); exact BK273.out) hb); have n15_ := Aside0.mk (below_step (by repeat (first | (with_reducible first | exact HB.out | apply below_alloc | apply pw_below_drewN | apply below_drew1 | refine below_set ?_ GE215.out | refine below_set ?_ GE229.out | refine below_set ?_ GE234.out | refine below_set ?_ GE243.out | refine below_set ?_ GE273.out) | exact HB.out)) hb); clear HO220; clear HO224; clear HO227; clear HO233; clear HO238; clear HO241; clear HO249; clear HO264; clear HO268; clear HO271; clear BK215; clear BK229; clear BK234; clear BK243; clear BK273; clear HB; have HO220 := n0_; have HO224 := n1_; have HO227 := n2_; have HO233 := n3_; have HO238 := n4_; have HO241 := n5_; have HO249 := n6_; have HO264 := n7_; have HO268 := n8_; have HO271 := n9_; have BK215 := n10_; have BK229 := n11_; have BK234 := n12_; have BK243 := n13_; have BK273 := n14_; have HB := n15_; clear n0_ n1_ n2_ n3_ n4_ n5_ n6_ n7_ n8_ n9_ n10_ n11_ n12_ n13_ n14_ n15_; (try clear hb); (try clear hb2); (try clear hk); (try clear hi)))
                                    go_ret
                                    exact ⟨by first | rfl | (simp [errW_none, errW_some] <;> rfl) | (simp [*, errW_none, errW_some] <;> rfl), by repeat (first | (with_reducible first | exact HB.out | apply below_alloc | apply pw_below_drewN | apply below_drew1 | refine below_set ?_ GE215.out | refine below_set ?_ GE229.out | refine below_set ?_ GE234.out | refine below_set ?_ GE243.out | refine below_set ?_ GE273.out) | exact HB.out)⟩
                                  · rw [if_neg c43] at H
                                    exact absurd H (by simp)
                            · rw [if_neg c38] at H
                              exact absurd H (by simp)
                          · replace c37 := Bool.eq_false_iff.mpr c37
                            subst c37
                            have H1 : (none) = some r := by rw [if_neg (show ¬ (false = true) by decide)] at H; exact H
                            clear H
                            have H := H1
                            clear H1
                            exact absurd H (by simp)
                        · replace c35 := Bool.eq_false_iff.mpr c35
                          subst c35
                          have H1 : (none) = some r := by rw [if_neg (show ¬ (false = true) by decide)] at H; exact H
                          clear H
                          have H := H1
                          clear H1
                          exact absurd H (by simp)
                      · rw [if_neg c31] at H
                        exact absurd H (by simp)
                · replace c24 := Bool.eq_false_iff.mpr c24
                  subst c24
                  have H1 : (none) = some r := by rw [if_neg (show ¬ (false = true) by decide)] at H; exact H
                  clear H
                  have H := H1
                  clear H1
                  exact absurd H (by simp)
              · replace c22 := Bool.eq_false_iff.mpr c22
                subst c22
                have H1 : (none) = some r := by rw [if_neg (show ¬ (false = true) by decide)] at H; exact H
                clear H
                have H := H1
                clear H1
                exact absurd H (by simp)
          · replace c18 := Bool.eq_false_iff.mpr c18
            subst c18
            have H1 : (none) = some r := by rw [if_neg (show ¬ (false = true) by decide)] at H; exact H
            clear H
            have H := H1
            clear H1
            exact absurd H (by simp)
        · rw [if_neg c15] at H
          exact absurd H (by simp)
      · replace c14 := Bool.eq_false_iff.mpr c14
        subst c14
        have H1 : (none) = some r := by rw [if_neg (show ¬ (false = true) by decide)] at H; exact H
        clear H
        have H := H1
        clear H1
        exact absurd H (by simp)
    · replace c12 := Bool.eq_false_iff.mpr c12
      subst c12
      have H1 : (none) = some r := by rw [if_neg (show ¬ (false = true) by decide)] at H; exact H
      clear H
      have H := H1
      clear H1
      exact absurd H (by simp)
end Go.Proofs.Ytnmhnkpijjmhjaa.QFnExactCollapseOf
namespace Go.Proofs.Ytnmhnkpijjmhjaa.Pu
set_option linter.unusedVariables false
set_option linter.unusedSimpArgs false
open Go.RowKit Go.Proofs.Ytnmhnkpijjmhjaa.QS Go.Proofs.YtnmhnkpijjmhjaaW.PrintWords Go.Proofs.YtnmhnkpijjmhjaaW.PrintLast Go.Proofs.YtnmhnkpijjmhjaaW.PrintMore
theorem w64 {x : Int} (h1 : -9223372036854775808 ≤ x) (h2 : x ≤ 9223372036854775807) : wrap64 x = x := by unfold wrap64; omega
theorem rd_at {l : List Int} {i : Nat} (h : i < l.length) : rd l (i : Int) = l[i] := by simp [rd, List.getD_eq_getElem?_getD, List.getElem?_eq_getElem h]
theorem sz_big {n : Int} {l : List Int} (hm : l.length ≤ maxLen) (h : 1048576 < l.length) : laws_szComplex.f n l 1048576 = some (-1) := by
  unfold laws_szComplex.f laws_szInt64S.f
  simp only [maxLen] at hm
  rw [w64 (by omega) (by omega), if_pos (by omega)]
  rfl
theorem sz_ok {n : Int} {l : List Int} (h : l.length ≤ 1048576) : ∃ t, laws_szComplex.f n l 1048576 = some t ∧ ¬ t < 0 := by
  unfold laws_szComplex.f laws_szInt64S.f
  rw [w64 (by omega) (by omega), if_neg (by omega)]
  refine ⟨1048576 - l.length, ?_, by omega⟩
  simp only [Option.bind_some]
  rw [if_neg (by omega)]
theorem toInt_loop (l : List Int) (hl : l.length ≤ 1048576) : ∀ d (i : Nat) (x3 : List Int) k, l.length - i = d → d < k → i ≤ l.length → x3.length = l.length → (∀ j, j < i → x3[j]? = l[j]?) → laws_toInt64S.l0 k l x3 i = some l := by
  intro d
  induction d with
  | zero =>
    intro i x3 k hd hk hi hx hj
    obtain ⟨k, rfl⟩ : ∃ m, k = m + 1 := ⟨k - 1, by omega⟩
    simp only [laws_toInt64S.l0]
    rw [if_neg (by omega)]
    congr 1
    apply List.ext_getElem?
    intro j
    rcases Nat.lt_or_ge j i with h | h
    · exact hj j h
    · rw [List.getElem?_eq_none (by omega), List.getElem?_eq_none (by omega)]
  | succ d ih =>
    intro i x3 k hd hk hi hx hj
    obtain ⟨k, rfl⟩ : ∃ m, k = m + 1 := ⟨k - 1, by omega⟩
    simp only [laws_toInt64S.l0]
    rw [if_pos (by omega), if_pos (by omega), if_pos (by omega), w64 (by omega) (by omega)]
    refine ih (i + 1) _ k (by omega) (by omega) (by omega) (by simpa using hx) (fun j hji => ?_)
    rw [Int.toNat_natCast, List.getElem?_set]
    split
    · rename_i h
      subst h
      rw [if_pos (by omega), rd_at (by omega), List.getElem?_eq_getElem (by omega)]
    · exact hj j (by omega)
theorem ev_toInt {l : List Int} (hl : l.length ≤ 1048576) : Ev (fun k => laws_toInt64S.f k l) l := by
  refine ⟨l.length + 1, fun k hk => ?_⟩
  dsimp only
  unfold laws_toInt64S.f
  rw [if_pos (by omega), if_pos (by omega)]
  exact toInt_loop l hl l.length 0 _ k (by omega) (by omega) (by omega) (by simp) (fun j hj => absurd hj (Nat.not_lt_zero _))
theorem ev_toComplex {n : Int} {l : List Int} (hl : l.length ≤ 1048576) : Ev (fun k => laws_toComplex.f k n l) (n, l) := by
  unfold laws_toComplex.f
  exact Ev.bind (f := fun _ t => some (n, t)) (ev_toInt hl) (Ev.now _)
theorem eqInt_loop (l : List Int) (hl : l.length ≤ 1048576) : ∀ d (i : Nat) k, l.length - i = d → d < k → i ≤ l.length → laws_eqInt64S.l0 k l l i = some true := by
  intro d
  induction d with
  | zero =>
    intro i k hd hk hi
    obtain ⟨k, rfl⟩ : ∃ m, k = m + 1 := ⟨k - 1, by omega⟩
    simp only [laws_eqInt64S.l0]
    rw [if_neg (by omega)]
  | succ d ih =>
    intro i k hd hk hi
    obtain ⟨k, rfl⟩ : ∃ m, k = m + 1 := ⟨k - 1, by omega⟩
    simp only [laws_eqInt64S.l0]
    rw [if_pos (by omega), if_pos (by omega), if_pos (by omega), if_pos trivial, w64 (by omega) (by omega)]
    exact ih (i + 1) k (by omega) (by omega) (by omega)
theorem ev_eqInt {l : List Int} (hl : l.length ≤ 1048576) : Ev (fun k => laws_eqInt64S.f k l l) true := by
  refine ⟨l.length + 1, fun k hk => ?_⟩
  dsimp only
  unfold laws_eqInt64S.f
  rw [if_pos rfl]
  exact eqInt_loop l hl l.length 0 k (by omega) (by omega) (by omega)
theorem ev_eqComplex {n : Int} {l : List Int} (hl : l.length ≤ 1048576) : Ev (fun k => laws_eqComplex.f k n l n l) true := by
  unfold laws_eqComplex.f
  simp only [if_true]
  exact Ev.bind (f := fun _ t => if t = true then some true else some false) (ev_eqInt hl) (by simp only [if_true]; exact Ev.now _)
def marks (m : Nat) (a : Int) : List Int := (List.range m).map fun j : Nat => a + (j : Int)
theorem marks_len (m : Nat) (a : Int) : (marks m a).length = m := by simp [marks]
theorem marks_at {m : Nat} {a : Int} {j : Nat} (h : j < m) : (marks m a)[j]? = some (a + (j : Int)) := by simp [marks, h]
theorem mark_loop (n : Nat) (hl : n ≤ 1048576) (a : Int) (ha : 0 ≤ a ∧ a ≤ 1073741824) : ∀ d (i : Nat) (x0 : List Int) k, n - i = d → d < k → i ≤ n → x0.length = n → (∀ j, j < i → x0[j]? = some (a + (j : Int))) → laws_markInt64S.l0 k x0 (a + (i : Int)) i = some (a + (n : Int), marks n a) := by
  intro d
  induction d with
  | zero =>
    intro i x0 k hd hk hi hx hj
    obtain ⟨k, rfl⟩ : ∃ m, k = m + 1 := ⟨k - 1, by omega⟩
    simp only [laws_markInt64S.l0]
    rw [if_neg (by omega), show i = n by omega]
    congr 2
    apply List.ext_getElem?
    intro j
    rcases Nat.lt_or_ge j n with h | h
    · rw [hj j (by omega), marks_at h]
    · rw [List.getElem?_eq_none (by omega), List.getElem?_eq_none (by rw [marks_len]; omega)]
  | succ d ih =>
    intro i x0 k hd hk hi hx hj
    obtain ⟨k, rfl⟩ : ∃ m, k = m + 1 := ⟨k - 1, by omega⟩
    simp only [laws_markInt64S.l0]
    rw [if_pos (by omega), if_pos (by omega), w64 (by omega) (by omega), w64 (by omega) (by omega)]
    have := ih (i + 1) (x0.set (i : Int).toNat (a + i)) k (by omega) (by omega) (by omega) (by simpa using hx) (fun j hji => ?_)
    · rw [show ((i + 1 : Nat) : Int) = (i : Int) + 1 by omega, show a + ((i : Int) + 1) = a + (i : Int) + 1 by omega] at this
      exact this
    · rw [Int.toNat_natCast, List.getElem?_set]
      split
      · rename_i h
        subst h
        rw [if_pos (by omega)]
      · exact hj j (by omega)
theorem ev_mark {l : List Int} (hl : l.length ≤ 1048576) {a : Int} (ha : 0 ≤ a ∧ a ≤ 1073741824) : Ev (fun k => laws_markInt64S.f k l a) (a + (l.length : Int), marks l.length a) := by
  refine ⟨l.length + 1, fun k hk => ?_⟩
  dsimp only
  unfold laws_markInt64S.f
  have := mark_loop l.length hl a ha l.length 0 l k (by omega) (by omega) (by omega) rfl (fun j hj => absurd hj (Nat.not_lt_zero _))
  rw [show a + ((0 : Nat) : Int) = a by omega] at this
  exact this
theorem ev_markComplex {n : Int} {l : List Int} (hl : l.length ≤ 1048576) {a : Int} (ha : 0 ≤ a ∧ a ≤ 1073741824) : Ev (fun k => laws_markComplex.f k n l a) (a + (l.length : Int), marks l.length a) := by
  unfold laws_markComplex.f
  exact Ev.bind (f := fun _ t => some (t.1, t.2)) (ev_mark hl ha) (Ev.now _)
theorem held_loop (n : Nat) (hl : n ≤ 1048576) (a : Int) (ha : 0 ≤ a ∧ a ≤ 1073741824) : ∀ d (i : Nat) k, n - i = d → d < k → i ≤ n → laws_heldInt64S.l0 k (marks n a) (a + (i : Int)) i = some (a + (n : Int)) := by
  intro d
  induction d with
  | zero =>
    intro i k hd hk hi
    obtain ⟨k, rfl⟩ : ∃ m, k = m + 1 := ⟨k - 1, by omega⟩
    simp only [laws_heldInt64S.l0]
    rw [marks_len, if_neg (by omega), show i = n by omega]
  | succ d ih =>
    intro i k hd hk hi
    obtain ⟨k, rfl⟩ : ∃ m, k = m + 1 := ⟨k - 1, by omega⟩
    simp only [laws_heldInt64S.l0]
    have h0 : rd (marks n a) (i : Int) = a + (i : Int) := by
      rw [rd_at (by rw [marks_len]; omega)]
      have := marks_at (m := n) (a := a) (j := i) (by omega)
      rw [List.getElem?_eq_getElem (by rw [marks_len]; omega)] at this
      exact Option.some.inj this
    rw [marks_len, if_pos (by omega), if_pos (by omega), if_pos h0, w64 (by omega) (by omega), w64 (by omega) (by omega)]
    have := ih (i + 1) k (by omega) (by omega) (by omega)
    rw [show ((i + 1 : Nat) : Int) = (i : Int) + 1 by omega, show a + ((i : Int) + 1) = a + (i : Int) + 1 by omega] at this
    exact this
theorem ev_held {n : Nat} (hl : n ≤ 1048576) {a : Int} (ha : 0 ≤ a ∧ a ≤ 1073741824) : Ev (fun k => laws_heldInt64S.f k (marks n a) a) (a + (n : Int)) := by
  refine ⟨n + 1, fun k hk => ?_⟩
  dsimp only
  unfold laws_heldInt64S.f
  have := held_loop n hl a ha n 0 k (by omega) (by omega) (by omega)
  rw [show a + ((0 : Nat) : Int) = a by omega] at this
  exact this
theorem ev_heldComplex {c : Int} {n : Nat} (hl : n ≤ 1048576) {a : Int} (ha : 0 ≤ a ∧ a ≤ 1073741824) : Ev (fun k => laws_heldComplex.f k c (marks n a) a) (a + (n : Int)) := by
  unfold laws_heldComplex.f
  exact Ev.bind (f := fun _ t => if t < 0 then some (-1) else some t) (ev_held hl ha) (by rw [if_neg (by omega)]; exact Ev.now _)
end Go.Proofs.Ytnmhnkpijjmhjaa.Pu
namespace Go.Proofs.Ytnmhnkpijjmhjaa.Pu
set_option linter.unusedVariables false
set_option linter.unusedSimpArgs false
open Go.RowKit Go.Proofs.Ytnmhnkpijjmhjaa.QS Go.Proofs.Ytnmhnkpijjmhjaa.Im Go.Proofs.YtnmhnkpijjmhjaaW.PrintWords Go.Proofs.YtnmhnkpijjmhjaaW.PrintLast Go.Proofs.YtnmhnkpijjmhjaaW.PrintMore
theorem in_eq (a b c : Int) : spec_l01In.f a b c = some (withinB a b c) := by
  unfold spec_l01In.f withinB
  by_cases h : a ≥ b
  · rw [if_pos h, decide_eq_true (show b ≤ a by omega)]; rfl
  · rw [if_neg h, decide_eq_false (show ¬ b ≤ a by omega)]; rfl
theorem all_eq {n : Int} (h1 : 1 ≤ n) (h6 : n ≤ 6) : spec_l01All.f n = some (fullZ n) := by
  obtain rfl | rfl | rfl | rfl | rfl | rfl : n = 1 ∨ n = 2 ∨ n = 3 ∨ n = 4 ∨ n = 5 ∨ n = 6 := by omega
  all_goals decide +kernel
theorem below_all : ((List.range 64).all fun f => f == 0 || spec_l01Below.f 70 (f : Int) == some (bordersL (f : Int))) = true := by decide +kernel
theorem ev_below {f : Int} (h1 : 1 ≤ f) (h2 : f ≤ 63) : Ev (fun k => spec_l01Below.f k f) (bordersL f) := by
  obtain ⟨m, rfl⟩ := Int.eq_ofNat_of_zero_le (show 0 ≤ f by omega)
  have h := List.all_eq_true.1 below_all m (List.mem_range.2 (by omega))
  have h0 : (m == 0) = false := by simp; omega
  rw [h0, Bool.false_or] at h
  exact Ev.of (fun k => spec_l01Below.mono _ k) (k := 70) (by simpa using h)
theorem has_loop (n x : Int) (l : List Int) (hl : l.length ≤ maxLen) : ∀ d (i : Nat) k, l.length - i = d → d < k → i ≤ l.length → spec_l01Has.l0 k x i n l = some (decide (x ∈ l.drop i)) := by
  simp only [maxLen] at hl
  intro d
  induction d with
  | zero =>
    intro i k hd hk hi
    obtain ⟨k, rfl⟩ : ∃ m, k = m + 1 := ⟨k - 1, by omega⟩
    simp only [spec_l01Has.l0]
    rw [if_neg (by omega), List.drop_eq_nil_of_le (by omega)]
    rfl
  | succ d ih =>
    intro i k hd hk hi
    obtain ⟨k, rfl⟩ : ∃ m, k = m + 1 := ⟨k - 1, by omega⟩
    simp only [spec_l01Has.l0]
    rw [if_pos (by omega), if_pos (by omega), rd_at (show i < l.length by omega), List.drop_eq_getElem_cons (show i < l.length by omega)]
    by_cases hx : l[i] = x
    · rw [if_pos hx, hx]; simp
    · rw [if_neg hx, w64 (by omega) (by omega)]
      have := ih (i + 1) k (by omega) (by omega) (by omega)
      rw [show ((i + 1 : Nat) : Int) = (i : Int) + 1 by omega] at this
      rw [this]
      exact congrArg some (decide_eq_decide.2 ⟨fun h => List.mem_cons.2 (Or.inr h), fun h => (List.mem_cons.1 h).resolve_left (Ne.symm hx)⟩)
theorem ev_has {l : List Int} (hl : l.length ≤ maxLen) (n x : Int) : Ev (fun k => spec_l01Has.f k n l x) (decide (x ∈ l)) := by
  refine ⟨l.length + 1, fun k hk => ?_⟩
  dsimp only
  unfold spec_l01Has.f
  have := has_loop n x l hl l.length 0 k (by omega) (by omega) (by omega)
  rwa [List.drop_zero] at this
theorem is_l2 (n : Int) (l b : List Int) (hl : l.length ≤ maxLen) (hb : b.length ≤ maxLen) (x4 : Int) (R : Bool) (hR : Ev (fun k => spec_l01Is.l1 k (wrap64 (x4 + 1)) n l) R) :
    ∀ d (j : Nat), b.length - j = d → j ≤ b.length → Ev (fun k => spec_l01Is.l2 k x4 b j n l) (((b.drop j).all fun y => decide (y ∈ l)) && R) := by
  simp only [maxLen] at hb
  intro d
  induction d with
  | zero =>
    intro j hd hj
    refine Ev.step (f := fun k => spec_l01Is.l1 k (wrap64 (x4 + 1)) n l) (fun k => ?_) ?_
    · simp only [spec_l01Is.l2]; rw [if_neg (by omega)]
    · rw [List.drop_eq_nil_of_le (by omega)]; exact hR
  | succ d ih =>
    intro j hd hj
    refine Ev.step (f := fun k => (spec_l01Has.f k n l b[j]).bind fun t => if t = true then spec_l01Is.l2 k x4 b ((j + 1 : Nat) : Int) n l else some false) (fun k => ?_) ?_
    · simp only [spec_l01Is.l2]
      rw [if_pos (by omega), if_pos (by omega), rd_at (show j < b.length by omega), w64 (by omega) (by omega), show ((j + 1 : Nat) : Int) = (j : Int) + 1 by omega]
    · refine Ev.bind (ev_has hl n b[j]) ?_
      rw [List.drop_eq_getElem_cons (show j < b.length by omega), List.all_cons]
      by_cases hm : b[j] ∈ l
      · rw [decide_eq_true hm]
        simp only [if_true, Bool.true_and]
        exact ih (j + 1) (by omega) (by omega)
      · rw [decide_eq_false hm]
        simp only [Bool.false_and]
        exact Ev.now _
theorem borders_len6 {f : Int} : (bordersL f).length ≤ 6 := by
  unfold bordersL
  refine Nat.le_trans (bordersOf_len _ _) ?_
  rw [upto_length]
  exact verts_len f
theorem is_l1 (n : Int) (l : List Int) (hl : l.length ≤ maxLen) (hr : ∀ x ∈ l, 1 ≤ x ∧ x ≤ 63) :
    ∀ d (i : Nat), l.length - i = d → i ≤ l.length → Ev (fun k => spec_l01Is.l1 k i n l) ((l.drop i).all fun f => (bordersL f).all fun y => decide (y ∈ l)) := by
  have hl' := hl
  simp only [maxLen] at hl'
  intro d
  induction d with
  | zero =>
    intro i hd hi
    refine Ev.step (f := fun k => some true) (fun k => ?_) ?_
    · simp only [spec_l01Is.l1]; rw [if_neg (by omega)]
    · rw [List.drop_eq_nil_of_le (by omega)]; exact Ev.now _
  | succ d ih =>
    intro i hd hi
    have hi' : i < l.length := by omega
    refine Ev.step (f := fun k => (spec_l01Below.f k l[i]).bind fun t => spec_l01Is.l2 k i t 0 n l) (fun k => ?_) ?_
    · simp only [spec_l01Is.l1]
      rw [if_pos (by omega), if_pos (by omega), rd_at hi']
    · have hx := hr l[i] (List.getElem_mem hi')
      refine Ev.bind (ev_below hx.1 hx.2) ?_
      have h1 := ih (i + 1) (by omega) (by omega)
      rw [show ((i + 1 : Nat) : Int) = wrap64 ((i : Int) + 1) by rw [w64 (by omega) (by omega)]; omega] at h1
      have h2 := is_l2 n l (bordersL l[i]) hl (by have := @borders_len6 l[i]; simp only [maxLen]; omega) i _ h1 _ 0 rfl (Nat.zero_le _)
      rw [List.drop_zero] at h2
      rw [List.drop_eq_getElem_cons hi', List.all_cons]
      exact h2
theorem is_l0 (n : Int) (h1 : 1 ≤ n) (h6 : n ≤ 6) (l : List Int) (hl : l.length ≤ maxLen) :
    ∀ d (i : Nat), l.length - i = d → i ≤ l.length → (∀ j, j < i → okAt n l j = true) → Ev (fun k => spec_l01Is.l0 k i n l) (ascB n l && closedB l) := by
  have hl' := hl
  simp only [maxLen] at hl'
  have hF := fullZ_le h1 h6
  intro d
  induction d with
  | zero =>
    intro i hd hi hj
    refine Ev.step (f := fun k => spec_l01Is.l1 k 0 n l) (fun k => ?_) ?_
    · simp only [spec_l01Is.l0]; rw [if_neg (by omega)]
    · have ha : ∀ j, j < l.length → okAt n l j = true := fun j h => hj j (by omega)
      rw [ascB_yes ha, Bool.true_and]
      have hr : ∀ x ∈ l, 1 ≤ x ∧ x ≤ 63 := by
        intro x hx
        obtain ⟨j, hj', rfl⟩ := List.mem_iff_getElem.1 hx
        have := ha j hj'
        simp only [okAt, withinB, Bool.and_eq_true, decide_eq_true_eq, List.getElem?_eq_getElem hj', Option.getD_some] at this
        omega
      have := is_l1 n l hl hr l.length 0 (by omega) (Nat.zero_le _)
      rw [List.drop_zero] at this
      exact this
  | succ d ih =>
    intro i hd hi hj
    have hi' : i < l.length := by omega
    refine Ev.step (f := fun k => if okAt n l i = true then spec_l01Is.l0 k ((i + 1 : Nat) : Int) n l else some false) (fun k => ?_) ?_
    · simp only [spec_l01Is.l0]
      rw [if_pos (by omega), if_pos (by omega), all_eq h1 h6]
      simp only [Option.bind_some, in_eq, rd_at hi']
      have hg : l[i]?.getD 0 = l[i] := by rw [List.getElem?_eq_getElem hi']; rfl
      unfold okAt
      rw [hg]
      rw [show wrap64 ((i : Int) + 1) = ((i + 1 : Nat) : Int) by rw [w64 (by omega) (by omega)]; omega]
      cases hw : withinB l[i] 1 (fullZ n) with
      | false => simp
      | true =>
        simp only [if_true, Bool.true_and]
        rcases Nat.eq_zero_or_pos i with hz | hz
        · subst hz; simp
        · have hp : l[i - 1]?.getD 0 = l[i - 1] := by rw [List.getElem?_eq_getElem (by omega)]; rfl
          have hb : (i == 0) = false := by simp; omega
          rw [if_pos (by omega), w64 (by omega) (by omega), if_pos (by omega), if_pos (by omega), hp, hb, Bool.false_or, show ((i : Int) - 1) = ((i - 1 : Nat) : Int) by omega, rd_at (show i - 1 < l.length by omega)]
          by_cases hle : l[i] ≤ l[i - 1]
          · rw [if_pos hle, decide_eq_false (by omega)]; simp
          · rw [if_neg hle, decide_eq_true (by omega)]; simp
    · cases ho : okAt n l i with
      | true =>
        simp only [if_true]
        exact ih (i + 1) (by omega) (by omega) (okAt_next hj ho)
      | false =>
        rw [ascB_no hi' ho]
        simp only [Bool.false_and]
        exact Ev.now _
/-- IsComplex, the reference's. -/
theorem ev_is (n : Int) {l : List Int} (hl : l.length ≤ maxLen) : Ev (fun k => spec_l01Is.f k n l) (isC n l) := by
  unfold spec_l01Is.f isC
  simp only [in_eq, Option.bind_some]
  cases hw : withinB n 1 6 with
  | false => simp only [Bool.false_and]; exact Ev.now _
  | true =>
    simp only [if_true, Bool.true_and]
    have hn : 1 ≤ n ∧ n ≤ 6 := by simpa [withinB] using hw
    exact is_l0 n hn.1 hn.2 l hl l.length 0 (by omega) (Nat.zero_le _) (fun j hj => absurd hj (Nat.not_lt_zero _))
end Go.Proofs.Ytnmhnkpijjmhjaa.Pu
namespace Go.Proofs.Ytnmhnkpijjmhjaa.QS
open Go.Proofs.Ytnmhnkpijjmhjaa.Kp Go.Proofs.Ytnmhnkpijjmhjaa.Ext Go.RowKit Go.Proofs.YtnmhnkpijjmhjaaW.PrintWords Go.Proofs.YtnmhnkpijjmhjaaW.PrintLast Go.Proofs.YtnmhnkpijjmhjaaW.PrintMore
attribute [local go_sem] max2_int min2_int max_two min_two max_three min_three max_four min_four   -- for this text's walks alone
set_option linter.unusedVariables false
set_option linter.unusedSimpArgs false
def spec_l01Face.f (k : Nat) (a0_0 : Int) (l0_1 : List Int) (a1 : Int) : Option (Int) := (spec_l01Is.f k a0_0 l0_1).bind fun t293 => (if t293 = true then ((spec_l01Has.f k a0_0 l0_1 a1).bind fun t294 => (if t294 = true then (some 0) else (some 2))) else (some 1))
theorem spec_l01Face.mono : ∀ a0 a1 a2 k, LeO (spec_l01Face.f k a0 a1 a2) (spec_l01Face.f (k + 1) a0 a1 a2) := by
  intro a0 a1 a2 k
  unfold spec_l01Face.f
  repeat' first
      | (with_reducible exact spec_l01Has.mono _ _ _ _)
      | (with_reducible exact spec_l01Is.mono _ _ _)
      | (with_reducible exact LeO.refl _)
      | (with_reducible exact LeO.none _)
      | (with_reducible refine LeO.ite ?_ ?_)
      | (with_reducible refine LeO.bind ?_ (fun _ => ?_))
      | exact spec_l01Has.mono _ _ _ _
      | exact spec_l01Is.mono _ _ _
      | exact LeO.none _
      | refine LeO.ite ?_ ?_
      | refine LeO.bind ?_ (fun _ => ?_)
set_option maxHeartbeats 8000000 in
set_option maxRecDepth 100000 in
theorem spec_l01Face.calls (k : Nat) (a0_0 : Int) (A0_1 : Option Addr) (c0_1 : Nat) (l0_1 : List Int) (a1 : Int) (r : Int) (w : World) (hr0_1 : Kd.C (Kd.int .i64) w A0_1 l0_1.length l0_1) (hc0_1 : l0_1.length ≤ c0_1) (h : spec_l01Face.f k a0_0 l0_1 a1 = some r) :
    Calls Try.prog 79 #[.agg #[.int .i64 a0_0, .slice A0_1 l0_1.length c0_1], .int .i64 a1] w fun e w' => e = .returned (.int .i64 r) ∧ Below w.heap.size w w' := by
  have hu26 := Try.underlying26
  have HR0_1 := Aside0.mk hr0_1
  have HC0_1 := Aside0.mk hc0_1
  clear hr0_1 hc0_1
  have HB := Aside0.mk (Below.refl w.heap.size w)
  have H : ((spec_l01Is.f k a0_0 l0_1).bind fun t293 => (if t293 = true then ((spec_l01Has.f k a0_0 l0_1 a1).bind fun t294 => (if t294 = true then (some 0) else (some 2))) else (some 1))) = some r := h
  clear h
  replace H := Option.bind_eq_some_iff.mp H
  obtain ⟨t293, A30, H⟩ := H
  replace H : (if t293 = true then ((spec_l01Has.f k a0_0 l0_1 a1).bind fun t294 => (if t294 = true then (some 0) else (some 2))) else (some 1)) = some r := H
  have A3 := Aside0.mk A30
  clear A30
  by_cases c4 : t293 = true
  · subst c4
    have H1 : ((spec_l01Has.f k a0_0 l0_1 a1).bind fun t294 => (if t294 = true then (some 0) else (some 2))) = some r := by rw [if_pos rfl] at H; exact H
    clear H
    have H := H1
    clear H1
    replace H := Option.bind_eq_some_iff.mp H
    obtain ⟨t294, A50, H⟩ := H
    replace H : (if t294 = true then (some 0) else (some 2)) = some r := H
    have A5 := Aside0.mk A50
    clear A50
    by_cases c6 : t294 = true
    · subst c6
      have H1 : (some 0) = some r := by rw [if_pos rfl] at H; exact H
      clear H
      have H := H1
      clear H1
      obtain rfl := Option.some.inj H
      go_enter Try.func79, Try.ntmps79
      go_wp2_with (first | ((with_reducible refine gate_dst (N := 2) rfl ?_); refine box_event ?hg (N := 2) ?hd (cs := #[.int .i64 a0_0, .slice A0_1 l0_1.length c0_1]) (t := 26) ?hr ?_; (case hd => rfl); (case hg => rfl); (case hr => first | (go_simp; done) | (go_simp; rfl)); intro gb292 hg w7 hbox hb; have n0_ := Aside0.mk (below_step (by repeat (first | (with_reducible first | exact HB.out | apply below_alloc | apply pw_below_drewN | apply below_drew1) | exact HB.out)) hb); have n1_ := Aside0.mk (hbox); have n2_ := Aside0.mk ((by rw [hg]; exact (below_size (by repeat (first | (with_reducible first | exact HB.out | apply below_alloc | apply pw_below_drewN | apply below_drew1) | exact HB.out))) : w.heap.size ≤ gb292)); have n3_ := Aside0.mk ((by rw [hg]; exact (below_size (by repeat (first | (with_reducible first | exact HB.out | apply below_alloc | apply pw_below_drewN | apply below_drew1) | exact HB.out))) : w.heap.size ≤ gb292)); clear HB; have HB := n0_; have BK292 := n1_; have GW292 := n2_; have GE292 := n3_; clear n0_ n1_ n2_ n3_; clear hb hbox hg; have hcz8_0 : w7.cell? ⟨gb292, 0, none⟩ = some (.int .i64 a0_0) := (blk_cell BK292.out 0).trans rfl; have hcz8_1 : w7.cell? ⟨gb292, 1, none⟩ = some (.slice A0_1 l0_1.length c0_1) := (blk_cell BK292.out 1).trans rfl; have hfz8_0 := blk_frozen BK292.out 0; have hfz8_1 := blk_frozen BK292.out 1) | ((with_reducible refine gate_callee (f := 57) rfl ?_); refine goesL_ (some 7) rfl rfl Try.func57 (by kernel_rfl) rfl #[.agg #[.int .i64 a0_0, .slice A0_1 l0_1.length c0_1]] rfl (by (try simp only [List.map_toArray, List.map_cons, List.map_nil]); first | done | rfl | (simp only [List.length_drop, List.length_take]; rfl)) ?_; (with_reducible refine (spec_l01Is.calls k a0_0 _ _ l0_1 true _ ?side1 ?side2 A3.out).mono ?_); (case side1 => repeat (first | exact (Kd.C_below HR0_1.out HB.out) | (with_reducible refine Kd.C_alloc ?_ _) | (with_reducible refine Kd.C_drewN ?_ _) | (with_reducible refine Kd.C_drew ?_))); (case side2 => exact HC0_1.out); rintro e w9 ⟨rfl, hb⟩; refine ⟨_, rfl, ?_⟩; have n0_ := Aside0.mk (blk_below (g := gb292) (o := .cells #[.int .i64 a0_0, .slice A0_1 l0_1.length c0_1] 26 (0, 0)) (by (with_reducible repeat (first | refine blk_drewN ?_ _ | refine blk_drew ?_ | refine blk_alloc ?_ _)); exact BK292.out) hb); have n1_ := Aside0.mk (below_step (by repeat (first | (with_reducible first | exact HB.out | apply below_alloc | apply pw_below_drewN | apply below_drew1 | refine below_set ?_ GE292.out) | exact HB.out)) hb); clear BK292; clear HB; have BK292 := n0_; have HB := n1_; clear n0_ n1_; (try clear hb); (try clear hb2); (try clear hk); (try clear hi); have hcz10_0 : w9.cell? ⟨gb292, 0, none⟩ = some (.int .i64 a0_0) := (blk_cell BK292.out 0).trans rfl; have hcz10_1 : w9.cell? ⟨gb292, 1, none⟩ = some (.slice A0_1 l0_1.length c0_1) := (blk_cell BK292.out 1).trans rfl; have hfz10_0 := blk_frozen BK292.out 0; have hfz10_1 := blk_frozen BK292.out 1) | ((with_reducible refine gate_callee (f := 64) rfl ?_); refine goesL_ (some 12) rfl rfl Try.func64 (by kernel_rfl) rfl #[.agg #[.int .i64 a0_0, .slice A0_1 l0_1.length c0_1], .int .i64 a1] rfl (by (try simp only [List.map_toArray, List.map_cons, List.map_nil]); first | done | rfl | (simp only [List.length_drop, List.length_take]; rfl)) ?_; (with_reducible refine (spec_l01Has.calls k a0_0 _ _ l0_1 a1 true _ ?side1 ?side2 A5.out).mono ?_); (case side1 => repeat (first | exact (Kd.C_below HR0_1.out HB.out) | (with_reducible refine Kd.C_alloc ?_ _) | (with_reducible refine Kd.C_drewN ?_ _) | (with_reducible refine Kd.C_drew ?_))); (case side2 => exact HC0_1.out); rintro e w11 ⟨rfl, hb⟩; refine ⟨_, rfl, ?_⟩; have n0_ := Aside0.mk (blk_below (g := gb292) (o := .cells #[.int .i64 a0_0, .slice A0_1 l0_1.length c0_1] 26 (0, 0)) (by (with_reducible repeat (first | refine blk_drewN ?_ _ | refine blk_drew ?_ | refine blk_alloc ?_ _)); exact BK292.out) hb); have n1_ := Aside0.mk (below_step (by repeat (first | (with_reducible first | exact HB.out | apply below_alloc | apply pw_below_drewN | apply below_drew1 | refine below_set ?_ GE292.out) | exact HB.out)) hb); clear BK292; clear HB; have BK292 := n0_; have HB := n1_; clear n0_ n1_; (try clear hb); (try clear hb2); (try clear hk); (try clear hi)))
      go_ret
      exact ⟨by first | rfl | (simp [errW_none, errW_some] <;> rfl) | (simp [*, errW_none, errW_some] <;> rfl), by repeat (first | (with_reducible first | exact HB.out | apply below_alloc | apply pw_below_drewN | apply below_drew1 | refine below_set ?_ GE292.out) | exact HB.out)⟩
    · replace c6 := Bool.eq_false_iff.mpr c6
      subst c6
      have H1 : (some 2) = some r := by rw [if_neg (show ¬ (false = true) by decide)] at H; exact H
      clear H
      have H := H1
      clear H1
      obtain rfl := Option.some.inj H
      go_enter Try.func79, Try.ntmps79
      go_wp2_with (first | ((with_reducible refine gate_dst (N := 2) rfl ?_); refine box_event ?hg (N := 2) ?hd (cs := #[.int .i64 a0_0, .slice A0_1 l0_1.length c0_1]) (t := 26) ?hr ?_; (case hd => rfl); (case hg => rfl); (case hr => first | (go_simp; done) | (go_simp; rfl)); intro gb292 hg w12 hbox hb; have n0_ := Aside0.mk (below_step (by repeat (first | (with_reducible first | exact HB.out | apply below_alloc | apply pw_below_drewN | apply below_drew1) | exact HB.out)) hb); have n1_ := Aside0.mk (hbox); have n2_ := Aside0.mk ((by rw [hg]; exact (below_size (by repeat (first | (with_reducible first | exact HB.out | apply below_alloc | apply pw_below_drewN | apply below_drew1) | exact HB.out))) : w.heap.size ≤ gb292)); have n3_ := Aside0.mk ((by rw [hg]; exact (below_size (by repeat (first | (with_reducible first | exact HB.out | apply below_alloc | apply pw_below_drewN | apply below_drew1) | exact HB.out))) : w.heap.size ≤ gb292)); clear HB; have HB := n0_; have BK292 := n1_; have GW292 := n2_; have GE292 := n3_; clear n0_ n1_ n2_ n3_; clear hb hbox hg; have hcz13_0 : w12.cell? ⟨gb292, 0, none⟩ = some (.int .i64 a0_0) := (blk_cell BK292.out 0).trans rfl; have hcz13_1 : w12.cell? ⟨gb292, 1, none⟩ = some (.slice A0_1 l0_1.length c0_1) := (blk_cell BK292.out 1).trans rfl; have hfz13_0 := blk_frozen BK292.out 0; have hfz13_1 := blk_frozen BK292.out 1) | ((with_reducible refine gate_callee (f := 57) rfl ?_); refine goesL_ (some 7) rfl rfl Try.func57 (by kernel_rfl) rfl #[.agg #[.int .i64 a0_0, .slice A0_1 l0_1.length c0_1]] rfl (by (try simp only [List.map_toArray, List.map_cons, List.map_nil]); first | done | rfl | (simp only [List.length_drop, List.length_take]; rfl)) ?_; (with_reducible refine (spec_l01Is.calls k a0_0 _ _ l0_1 true _ ?side1 ?side2 A3.out).mono ?_); (case side1 => repeat (first | exact (Kd.C_below HR0_1.out HB.out) | (with_reducible refine Kd.C_alloc ?_ _) | (with_reducible refine Kd.C_drewN ?_ _) | (with_reducible refine Kd.C_drew ?_))); (case side2 => exact HC0_1.out); rintro e w14 ⟨rfl, hb⟩; refine ⟨_, rfl, ?_⟩; have n0_ := Aside0.mk (blk_below (g := gb292) (o := .cells #[.int .i64 a0_0, .slice A0_1 l0_1.length c0_1] 26 (0, 0)) (by (with_reducible repeat (first | refine blk_drewN ?_ _ | refine blk_drew ?_ | refine blk_alloc ?_ _)); exact BK292.out) hb); have n1_ := Aside0.mk (below_step (by repeat (first | (with_reducible first | exact HB.out | apply below_alloc | apply pw_below_drewN | apply below_drew1 | refine below_set ?_ GE292.out) | exact HB.out)) hb); clear BK292; clear HB; have BK292 := n0_; have HB := n1_; clear n0_ n1_; (try clear hb); (try clear hb2); (try clear hk); (try clear hi); have hcz15_0 : w14.cell? ⟨gb292, 0, none⟩ = some (.int .i64 a0_0) := (blk_cell BK292.out 0).trans rfl; have hcz15_1 : w14.cell? ⟨gb292, 1, none⟩ = some (.slice A0_1 l0_1.length c0_1) := (blk_cell BK292.out 1).trans rfl; have hfz15_0 := blk_frozen BK292.out 0; have hfz15_1 := blk_frozen BK292.out 1) | ((with_reducible refine gate_callee (f := 64) rfl ?_); refine goesL_ (some 12) rfl rfl Try.func64 (by kernel_rfl) rfl #[.agg #[.int .i64 a0_0, .slice A0_1 l0_1.length c0_1], .int .i64 a1] rfl (by (try simp only [List.map_toArray, List.map_cons, List.map_nil]); first | done | rfl | (simp only [List.length_drop, List.length_take]; rfl)) ?_; (with_reducible refine (spec_l01Has.calls k a0_0 _ _ l0_1 a1 false _ ?side1 ?side2 A5.out).mono ?_); (case side1 => repeat (first | exact (Kd.C_below HR0_1.out HB.out) | (with_reducible refine Kd.C_alloc ?_ _) | (with_reducible refine Kd.C_drewN ?_ _) | (with_reducible refine Kd.C_drew ?_))); (case side2 => exact HC0_1.out); rintro e w16 ⟨rfl, hb⟩; refine ⟨_, rfl, ?_⟩; have n0_ := Aside0.mk (blk_below (g := gb292) (o := .cells #[.int .i64 a0_0, .slice A0_1 l0_1.length c0_1] 26 (0, 0)) (by (with_reducible repeat (first | refine blk_drewN ?_ _ | refine blk_drew ?_ | refine blk_alloc ?_ _)); exact BK292.out) hb); have n1_ := Aside0.mk (below_step (by repeat (first | (with_reducible first | exact HB.out | apply below_alloc | apply pw_below_drewN | apply below_drew1 | refine below_set ?_ GE292.out) | exact HB.out)) hb); clear BK292; clear HB; have BK292 := n0_; have HB := n1_; clear n0_ n1_; (try clear hb); (try clear hb2); (try clear hk); (try clear hi)))
      go_ret
      exact ⟨by first | rfl | (simp [errW_none, errW_some] <;> rfl) | (simp [*, errW_none, errW_some] <;> rfl), by repeat (first | (with_reducible first | exact HB.out | apply below_alloc | apply pw_below_drewN | apply below_drew1 | refine below_set ?_ GE292.out) | exact HB.out)⟩
  · replace c4 := Bool.eq_false_iff.mpr c4
    subst c4
    have H1 : (some 1) = some r := by rw [if_neg (show ¬ (false = true) by decide)] at H; exact H
    clear H
    have H := H1
    clear H1
    obtain rfl := Option.some.inj H
    go_enter Try.func79, Try.ntmps79
    go_wp2_with (first | ((with_reducible refine gate_dst (N := 2) rfl ?_); refine box_event ?hg (N := 2) ?hd (cs := #[.int .i64 a0_0, .slice A0_1 l0_1.length c0_1]) (t := 26) ?hr ?_; (case hd => rfl); (case hg => rfl); (case hr => first | (go_simp; done) | (go_simp; rfl)); intro gb292 hg w17 hbox hb; have n0_ := Aside0.mk (below_step (by repeat (first | (with_reducible first | exact HB.out | apply below_alloc | apply pw_below_drewN | apply below_drew1) | exact HB.out)) hb); have n1_ := Aside0.mk (hbox); have n2_ := Aside0.mk ((by rw [hg]; exact (below_size (by repeat (first | (with_reducible first | exact HB.out | apply below_alloc | apply pw_below_drewN | apply below_drew1) | exact HB.out))) : w.heap.size ≤ gb292)); have n3_ := Aside0.mk ((by rw [hg]; exact (below_size (by repeat (first | (with_reducible first | exact HB.out | apply below_alloc | apply pw_below_drewN | apply below_drew1) | exact HB.out))) : w.heap.size ≤ gb292)); clear HB; have HB := n0_; have BK292 := n1_; have GW292 := n2_; have GE292 := n3_; clear n0_ n1_ n2_ n3_; clear hb hbox hg; have hcz18_0 : w17.cell? ⟨gb292, 0, none⟩ = some (.int .i64 a0_0) := (blk_cell BK292.out 0).trans rfl; have hcz18_1 : w17.cell? ⟨gb292, 1, none⟩ = some (.slice A0_1 l0_1.length c0_1) := (blk_cell BK292.out 1).trans rfl; have hfz18_0 := blk_frozen BK292.out 0; have hfz18_1 := blk_frozen BK292.out 1) | ((with_reducible refine gate_callee (f := 57) rfl ?_); refine goesL_ (some 7) rfl rfl Try.func57 (by kernel_rfl) rfl #[.agg #[.int .i64 a0_0, .slice A0_1 l0_1.length c0_1]] rfl (by (try simp only [List.map_toArray, List.map_cons, List.map_nil]); first | done | rfl | (simp only [List.length_drop, List.length_take]; rfl)) ?_; (with_reducible refine (spec_l01Is.calls k a0_0 _ _ l0_1 false _ ?side1 ?side2 A3.out).mono ?_); (case side1 => repeat (first | exact (Kd.C_below HR0_1.out HB.out) | (with_reducible refine Kd.C_alloc ?_ _) | (with_reducible refine Kd.C_drewN ?_ _) | (with_reducible refine Kd.C_drew ?_))); (case side2 => exact HC0_1.out); rintro e w19 ⟨rfl, hb⟩; refine ⟨_, rfl, ?_⟩; have n0_ := Aside0.mk (blk_below (g := gb292) (o := .cells #[.int .i64 a0_0, .slice A0_1 l0_1.length c0_1] 26 (0, 0)) (by (with_reducible repeat (first | refine blk_drewN ?_ _ | refine blk_drew ?_ | refine blk_alloc ?_ _)); exact BK292.out) hb); have n1_ := Aside0.mk (below_step (by repeat (first | (with_reducible first | exact HB.out | apply below_alloc | apply pw_below_drewN | apply below_drew1 | refine below_set ?_ GE292.out) | exact HB.out)) hb); clear BK292; clear HB; have BK292 := n0_; have HB := n1_; clear n0_ n1_; (try clear hb); (try clear hb2); (try clear hk); (try clear hi)))
    go_ret
    exact ⟨by first | rfl | (simp [errW_none, errW_some] <;> rfl) | (simp [*, errW_none, errW_some] <;> rfl), by repeat (first | (with_reducible first | exact HB.out | apply below_alloc | apply pw_below_drewN | apply below_drew1 | refine below_set ?_ GE292.out) | exact HB.out)⟩
end Go.Proofs.Ytnmhnkpijjmhjaa.QS
namespace Go.Proofs.Ytnmhnkpijjmhjaa.Pu
set_option linter.unusedVariables false
set_option linter.unusedSimpArgs false
open Go.RowKit Go.Proofs.Ytnmhnkpijjmhjaa.QS Go.Proofs.Ytnmhnkpijjmhjaa.Im Go.Proofs.YtnmhnkpijjmhjaaW.PrintWords Go.Proofs.YtnmhnkpijjmhjaaW.PrintLast Go.Proofs.YtnmhnkpijjmhjaaW.PrintMore
def freeR : Int → List Int → Int
  | q, [] => q
  | q, y :: r => if q > 0 then 0 else freeR y r
theorem free_loop (n v : Int) (l : List Int) (hl : l.length ≤ 64) : ∀ d (i : Nat) (q : Int), l.length - i = d → i ≤ l.length →
    Ev (fun k => spec_l05Free.l0 k v q i n l) (freeR q ((l.drop i).filter (upP v))) := by
  intro d
  induction d with
  | zero =>
    intro i q hd hi
    rw [List.drop_eq_nil_of_le (by omega), List.filter_nil]
    refine Ev.step (f := fun k => some q) (fun k => ?_) (Ev.now _)
    simp only [spec_l05Free.l0]; rw [if_neg (by omega)]
  | succ d ih =>
    intro i q hd hi
    have hi' : i < l.length := by omega
    have hn := ih (i + 1)
    rw [List.drop_eq_getElem_cons hi']
    have hw : wrap64 ((i : Int) + 1) = ((i + 1 : Nat) : Int) := by rw [w64 (by omega) (by omega)]; omega
    have h0 : Ev (fun k => spec_l05Free.j1 k v q i (upP v l[i]) n l) (freeR q ((l[i] :: l.drop (i + 1)).filter (upP v))) := by
      cases hu : upP v l[i] with
      | false =>
        rw [List.filter_cons_of_neg (by simp [hu])]
        refine Ev.step (f := fun k => spec_l05Free.l0 k v q ((i + 1 : Nat) : Int) n l) (fun k => ?_) (hn q (by omega) (by omega))
        simp only [spec_l05Free.j1]; rw [hw]; rfl
      | true =>
        rw [List.filter_cons_of_pos (by simp [hu]), freeR]
        by_cases hq : q > 0
        · rw [if_pos hq]
          refine Ev.step (f := fun k => some 0) (fun k => ?_) (Ev.now _)
          simp only [spec_l05Free.j1]; rw [if_pos trivial, if_pos hq]
        · rw [if_neg hq]
          refine Ev.step (f := fun k => spec_l05Free.l0 k v l[i] ((i + 1 : Nat) : Int) n l) (fun k => ?_) (hn l[i] (by omega) (by omega))
          simp only [spec_l05Free.j1]; rw [if_pos trivial, if_neg hq, if_pos (by omega), if_pos (by omega), rd_at hi', hw]
    refine Ev.step (f := fun k => spec_l05Free.j1 k v q i (upP v l[i]) n l) (fun k => ?_) h0
    simp only [spec_l05Free.l0]
    rw [if_pos (by omega), if_pos (by omega), rd_at hi']
    unfold upP
    by_cases hc : Go.bits .and .i64 l[i] v = v
    · rw [if_pos hc, hc]; first | rfl | simp
    · rw [if_neg hc, show (Go.bits .and .i64 l[i] v == v) = false from beq_eq_false_iff_ne.2 hc]; rfl
theorem ev_free {n v : Int} {l : List Int} (h : isC n l = true) (hv : v ∈ l) : Ev (fun k => spec_l05Free.f k n l v) (freeR 0 (aroundL l v)) := by
  have := free_loop n v l (isC_len h) _ 0 0 rfl (Nat.zero_le _)
  rw [List.drop_zero, ← around_up h hv] at this
  exact this
theorem freeR_one {M : List Int} (hp : ∀ x ∈ M, 0 < x) : freeR 0 M = if (M.length : Int) = 1 then M[0]?.getD 0 else 0 := by
  match M, hp with
  | [], _ => rfl
  | [y], _ => rfl
  | y :: z :: r, hp =>
    have := hp y (by simp)
    simp only [freeR, List.length_cons]
    rw [if_neg (by omega), if_pos this, if_neg (by omega)]
theorem around_pos {n v : Int} {l : List Int} (h : isC n l = true) : ∀ x ∈ aroundL l v, 0 < x := fun x hx => by
  have := isC_range h x (List.mem_filter.1 hx).1
  omega
end Go.Proofs.Ytnmhnkpijjmhjaa.Pu
namespace Go.Proofs.Ytnmhnkpijjmhjaa.Pu
set_option linter.unusedVariables false
set_option linter.unusedSimpArgs false
open Go.RowKit Go.Proofs.Ytnmhnkpijjmhjaa.QS Go.Proofs.Ytnmhnkpijjmhjaa.Im Go.Proofs.YtnmhnkpijjmhjaaW.PrintWords Go.Proofs.YtnmhnkpijjmhjaaW.PrintLast Go.Proofs.YtnmhnkpijjmhjaaW.PrintMore
theorem take_loop (n c : Int) (l : List Int) (hl : l.length ≤ 64) : ∀ d (i : Nat) (acc : List Int), l.length - i = d → i ≤ l.length → acc.length ≤ 100000 + i →
    Ev (fun k => spec_l01Take.l0 k c i n l n acc) (n, acc ++ (l.drop i).filter (outP c)) := by
  intro d
  induction d with
  | zero =>
    intro i acc hd hi ha
    rw [List.drop_eq_nil_of_le (by omega), List.filter_nil, List.append_nil]
    refine Ev.step (f := fun k => some (n, acc)) (fun k => ?_) (Ev.now _)
    simp only [spec_l01Take.l0]; rw [if_neg (by omega)]
  | succ d ih =>
    intro i acc hd hi ha
    have hi' : i < l.length := by omega
    rw [List.drop_eq_getElem_cons hi']
    by_cases hc : Go.bits .and .i64 l[i] c = c
    · refine Ev.step (f := fun k => spec_l01Take.l0 k c ((i + 1 : Nat) : Int) n l n acc) (fun k => ?_) ?_
      · simp only [spec_l01Take.l0]
        rw [if_pos (by omega), if_pos (by omega), rd_at hi', if_pos hc, w64 (by omega) (by omega), show ((i + 1 : Nat) : Int) = (i : Int) + 1 by omega]
      · rw [List.filter_cons_of_neg (by simp [outP, hc])]
        exact ih (i + 1) acc (by omega) (by omega) (by omega)
    · refine Ev.step (f := fun k => spec_l01Take.l0 k c ((i + 1 : Nat) : Int) n l n (acc ++ [l[i]])) (fun k => ?_) ?_
      · simp only [spec_l01Take.l0]
        rw [if_pos (by omega), if_pos (by omega), rd_at hi', if_neg hc, if_pos (by omega), w64 (by omega) (by omega), show ((i + 1 : Nat) : Int) = (i : Int) + 1 by omega]
      · rw [List.filter_cons_of_pos (by simp [outP, hc])]
        have := ih (i + 1) (acc ++ [l[i]]) (by omega) (by omega) (by rw [List.length_append]; simp; omega)
        rw [List.append_assoc] at this
        exact this
theorem ev_take {n : Int} {l : List Int} (h : isC n l = true) (c : Int) : Ev (fun k => spec_l01Take.f k n l c) (n, partL n l (outP c)) := by
  have := take_loop n c l (isC_len h) _ 0 [] rfl (Nat.zero_le _) (by simp)
  rw [List.drop_zero, List.nil_append] at this
  rw [partL_eq h]
  exact this
end Go.Proofs.Ytnmhnkpijjmhjaa.Pu
namespace Go.Proofs.Ytnmhnkpijjmhjaa.Pu
set_option linter.unusedVariables false
set_option linter.unusedSimpArgs false
open Go.RowKit Go.Proofs.Ytnmhnkpijjmhjaa.Kp Go.Proofs.Ytnmhnkpijjmhjaa.QS Go.Proofs.Ytnmhnkpijjmhjaa.Im Go.Proofs.YtnmhnkpijjmhjaaW.PrintWords Go.Proofs.YtnmhnkpijjmhjaaW.PrintLast Go.Proofs.YtnmhnkpijjmhjaaW.PrintMore
def firstR (o : Option Pr) : Int × Int × Bool := match o with
  | none => (0, 0, false)
  | some q => (q.f0, q.f1, true)
theorem first_loop {n : Int} {l : List Int} (hi : isC n l = true) (m : Int) {ll : List Int} (hl : ll.length ≤ maxLen) : ∀ d (i : Nat), l.length - i = d → i ≤ l.length →
    Ev (fun k => spec_l05First.l0 k i n l m ll) (firstR (((l.drop i).filterMap (onePr l)).find? (keepQ ll))) := by
  have hs := isC_len hi
  intro d
  induction d with
  | zero =>
    intro i hd hil
    rw [List.drop_eq_nil_of_le (by omega), List.filterMap_nil, List.find?_nil]
    refine Ev.step (f := fun k => some (0, 0, false)) (fun k => ?_) (Ev.now _)
    simp only [spec_l05First.l0]; rw [if_neg (by omega)]
  | succ d ih =>
    intro i hd hil
    have hi' : i < l.length := by omega
    have hw : wrap64 ((i : Int) + 1) = ((i + 1 : Nat) : Int) := by rw [w64 (by omega) (by omega)]; omega
    have hn := ih (i + 1) (by omega) (by omega)
    rw [List.drop_eq_getElem_cons hi']
    have hf := ev_free hi (List.getElem_mem hi')
    rw [freeR_one (around_pos hi)] at hf
    have hpos := around_pos hi (v := l[i])
    refine Ev.step (fun k => ?_) (Ev.bind (f := fun k t => if t > 0 then ((spec_l01Has.f k m ll l[i]).bind fun t379 => (if t379 = true then (spec_l05First.l0 k ((i + 1 : Nat) : Int) n l m ll) else ((spec_l01Has.f k m ll t).bind fun t380 => (if t380 = true then (spec_l05First.l0 k ((i + 1 : Nat) : Int) n l m ll) else (some (l[i], t, true)))))) else spec_l05First.l0 k ((i + 1 : Nat) : Int) n l m ll) hf ?_)
    · simp only [spec_l05First.l0]
      rw [if_pos (by omega), if_pos (by omega), rd_at hi', hw]
    · by_cases h1 : ((aroundL l l[i]).length : Int) = 1
      · have hg : rd (aroundL l l[i]) 0 = (aroundL l l[i])[0]?.getD 0 := by simp [rd, List.getD_eq_getElem?_getD]
        have hp : (aroundL l l[i])[0]?.getD 0 > 0 := by
          have hl0 : 0 < (aroundL l l[i]).length := by omega
          rw [List.getElem?_eq_getElem hl0]
          exact hpos _ (List.getElem_mem hl0)
        obtain ⟨g, hgg⟩ : ∃ g, (aroundL l l[i])[0]?.getD 0 = g := ⟨_, rfl⟩
        rw [hgg] at hg hp ⊢
        have he : onePr l l[i] = some ⟨l[i], g⟩ := by rw [onePr, if_pos h1, hg]
        rw [List.filterMap_cons_some he, if_pos h1]
        simp only [if_pos hp]
        refine Ev.bind (ev_has hl m l[i]) ?_
        by_cases h2 : l[i] ∈ ll
        · rw [List.find?_cons_of_neg (by simp [keepQ, h2])]
          simp only [h2, decide_true, if_true]
          exact hn
        · simp only [h2, decide_false, Bool.false_eq_true, if_false]
          refine Ev.bind (ev_has hl m g) ?_
          by_cases h3 : g ∈ ll
          · rw [List.find?_cons_of_neg (by simp [keepQ, h3])]
            simp only [h3, decide_true, if_true]
            exact hn
          · rw [List.find?_cons_of_pos (by simp [keepQ, h2, h3])]
            simp only [h3, decide_false, Bool.false_eq_true, if_false, firstR]
            exact Ev.now _
      · have he : onePr l l[i] = none := by rw [onePr, if_neg h1]
        rw [List.filterMap_cons_none he, if_neg h1]
        simp only [show ¬ ((0 : Int) > 0) by omega, if_false]
        exact hn
theorem ev_first {n : Int} {l : List Int} (hi : isC n l = true) (m : Int) {ll : List Int} (hl : ll.length ≤ maxLen) : Ev (fun k => spec_l05First.f k n l m ll) (firstR ((freeL l).find? (keepQ ll))) := by
  have := first_loop hi m hl _ 0 rfl (Nat.zero_le _)
  rw [List.drop_zero] at this
  exact this
theorem colR_loop (n m : Int) {ll : List Int} (hl : ll.length ≤ maxLen) : ∀ d (xs : List Int) (acc : List Pr), isC n xs = true → xs.length ≤ d → acc.length + xs.length ≤ 1000 →
    Ev (fun k => spec_l05Collapse.l0 k acc n xs m ll) (n, (colG (keepQ ll) n (d + 1) xs acc).1, (colG (keepQ ll) n (d + 1) xs acc).2) := by
  intro d
  induction d with
  | zero =>
    intro xs acc hi hd ha
    obtain rfl : xs = [] := List.eq_nil_of_length_eq_zero (by omega)
    refine Ev.step (fun k => ?_) (Ev.bind (f := fun k (t : Int × Int × Bool) => if t.2.2 = true then ((spec_l01Take.f k n [] t.1).bind fun bt395 => (if acc.length < 8796093022208 then (spec_l05Collapse.l0 k (acc ++ [⟨t.1, t.2.1⟩]) bt395.1 bt395.2 m ll) else none)) else some (n, [], acc)) (ev_first hi m hl) ?_)
    · simp only [spec_l05Collapse.l0]
    · exact Ev.now _
  | succ d ih =>
    intro xs acc hi hd ha
    refine Ev.step (fun k => ?_) (Ev.bind (f := fun k (t : Int × Int × Bool) => if t.2.2 = true then ((spec_l01Take.f k n xs t.1).bind fun bt395 => (if acc.length < 8796093022208 then (spec_l05Collapse.l0 k (acc ++ [⟨t.1, t.2.1⟩]) bt395.1 bt395.2 m ll) else none)) else some (n, xs, acc)) (ev_first hi m hl) ?_)
    · simp only [spec_l05Collapse.l0]
    · rw [colG]
      cases hq : (freeL xs).find? (keepQ ll) with
      | none => exact Ev.now _
      | some q =>
        obtain ⟨c1, c2, c3⟩ := col_step hi (List.mem_of_find?_eq_some hq)
        simp only [firstR, if_true]
        refine Ev.bind (ev_take hi q.f0) ?_
        rw [← c1]
        simp only [if_pos (show acc.length < 8796093022208 by omega)]
        exact ih _ (acc ++ [q]) c2 (by omega) (by simp; omega)
theorem ev_copy (n : Int) {l : List Int} (h : l.length ≤ 1048576) : spec_l01Copy.f n l = some (n, l) := by
  unfold spec_l01Copy.f spec_l01Own.f
  simp only [Option.bind_some, List.length_nil, List.nil_append]
  rw [if_pos (by omega)]
  rfl
theorem ev_collapseR {n : Int} {l : List Int} (hi : isC n l = true) (m : Int) {ll : List Int} (hl : ll.length ≤ maxLen) :
    Ev (fun k => spec_l05Collapse.f k n l m ll) (n, (colG (keepQ ll) n (l.length + 1) l []).1, (colG (keepQ ll) n (l.length + 1) l []).2) := by
  have hs := isC_len hi
  unfold spec_l05Collapse.f
  rw [ev_copy n (by omega)]
  exact colR_loop n m hl _ l [] hi (Nat.le_refl _) (by simp; omega)
theorem keepQ_nil : keepQ [] = fun _ => true := by
  funext q
  simp [keepQ]
theorem colG_bound (p : Pr → Bool) (n : Int) : ∀ d (xs : List Int) (acc : List Pr), isC n xs = true → (colG p n d xs acc).1.length ≤ xs.length ∧ (colG p n d xs acc).2.length ≤ acc.length + xs.length := by
  intro d
  induction d with
  | zero => intro xs acc _; exact ⟨Nat.le_refl _, Nat.le_add_right _ _⟩
  | succ d ih =>
    intro xs acc hi
    rw [colG]
    cases hq : (freeL xs).find? p with
    | none => exact ⟨Nat.le_refl _, Nat.le_add_right _ _⟩
    | some q =>
      obtain ⟨_, c2, c3⟩ := col_step hi (List.mem_of_find?_eq_some hq)
      obtain ⟨h1, h2⟩ := ih _ (acc ++ [q]) c2
      simp only [List.length_append, List.length_cons, List.length_nil] at h2
      show (colG p n d (partL n xs (offP [q.f0, q.f1])) (acc ++ [q])).1.length ≤ xs.length ∧ (colG p n d (partL n xs (offP [q.f0, q.f1])) (acc ++ [q])).2.length ≤ acc.length + xs.length
      exact ⟨by omega, by omega⟩
theorem colG_len (p : Pr → Bool) (n : Int) {l : List Int} (hi : isC n l = true) : (colG p n (l.length + 1) l []).1.length ≤ 1048576 ∧ (colG p n (l.length + 1) l []).2.length ≤ 1048576 := by
  obtain ⟨h1, h2⟩ := colG_bound p n (l.length + 1) l [] hi
  have := isC_len hi
  simp only [List.length_nil] at h2
  exact ⟨by omega, by omega⟩
end Go.Proofs.Ytnmhnkpijjmhjaa.Pu
namespace Go.Proofs.Ytnmhnkpijjmhjaa.Pu
set_option linter.unusedVariables false
set_option linter.unusedSimpArgs false
open Go.RowKit Go.Proofs.Ytnmhnkpijjmhjaa.Kp Go.Proofs.Ytnmhnkpijjmhjaa.Ext Go.Proofs.Ytnmhnkpijjmhjaa.QS Go.Proofs.YtnmhnkpijjmhjaaW.PrintWords Go.Proofs.YtnmhnkpijjmhjaaW.PrintLast Go.Proofs.YtnmhnkpijjmhjaaW.PrintMore
theorem eqPair_loop (l : List Pr) (hl : l.length ≤ 1048576) : ∀ d (i : Nat), l.length - i = d → i ≤ l.length → Ev (fun k => laws_eqPairS.l0 k l l i) true := by
  intro d
  induction d with
  | zero =>
    intro i hd hi
    refine Ev.step (f := fun k => some true) (fun k => ?_) (Ev.now _)
    simp only [laws_eqPairS.l0]; rw [if_neg (by omega)]
  | succ d ih =>
    intro i hd hi
    refine Ev.step (fun k => ?_) (ih (i + 1) (by omega) (by omega))
    simp only [laws_eqPairS.l0]
    rw [if_pos (by omega), if_pos (by omega), if_pos (by omega), show wrap64 ((i : Int) + 1) = ((i + 1 : Nat) : Int) by rw [w64 (by omega) (by omega)]; omega]
    simp [laws_eqPair.f]
theorem ev_eqPairs {l : List Pr} (hl : l.length ≤ 1048576) : Ev (fun k => laws_eqPairS.f k l l) true := by
  unfold laws_eqPairS.f
  simp only [if_true]
  exact eqPair_loop l hl _ 0 rfl (Nat.zero_le _)
theorem markL_len (n : Nat) (a : Int) : (markL n a).length = n := by simp [markL]
theorem ev_markPairs {l : List Pr} {a : Int} (hl : l.length ≤ 1048576) (ha : 0 ≤ a ∧ a ≤ 1073741824) : Ev (fun _ => laws_markPairS.f l a) (a + 2 * (l.length : Int), markL l.length a) := by
  unfold laws_markPairS.f
  rw [if_pos ⟨ha.1, ha.2, by omega⟩]
  exact Ev.now _
theorem held_markL (n : Nat) (a : Int) : heldPr (markL n a) a = a + 2 * (n : Int) := by
  rw [heldPr_yes, markL_len]
  intro i hi
  rw [markL_len] at hi
  simp [okPr, markL, markAt, hi, List.getD_eq_getElem?_getD]
theorem ev_heldPairs {n : Nat} {a : Int} (hl : n ≤ 1048576) (ha : 0 ≤ a ∧ a ≤ 1073741824) : Ev (fun _ => laws_heldPairS.f (markL n a) a) (a + 2 * (n : Int)) := by
  unfold laws_heldPairS.f
  rw [if_pos ⟨ha.1, ha.2, by rw [markL_len]; omega⟩, held_markL]
  exact Ev.now _
end Go.Proofs.Ytnmhnkpijjmhjaa.Pu
namespace Go.Proofs.Ytnmhnkpijjmhjaa.Pu
set_option linter.unusedVariables false
set_option linter.unusedSimpArgs false
open Go.RowKit Go.Proofs.Ytnmhnkpijjmhjaa.Kp Go.Proofs.Ytnmhnkpijjmhjaa.QS Go.Proofs.Ytnmhnkpijjmhjaa.Im Go.Proofs.Ytnmhnkpijjmhjaa.Ext Go.Proofs.Ytnmhnkpijjmhjaa.QFnExactCollapseOf Go.Proofs.YtnmhnkpijjmhjaaW.PrintWords Go.Proofs.YtnmhnkpijjmhjaaW.PrintLast Go.Proofs.YtnmhnkpijjmhjaaW.PrintMore
theorem ev_spec (n : Int) {l : List Int} (hl : l.length ≤ maxLen) : Ev (fun k => spec_CollapseOf.f k n l) (collapseOfF n l) := by
  unfold spec_CollapseOf.f
  refine Ev.bind (ev_is n hl) ?_
  unfold collapseOfF
  cases hi : isC n l with
  | false => simp only [Bool.false_eq_true, if_false]; exact Ev.now _
  | true =>
    simp only [if_true]
    refine Ev.bind (ev_collapseR hi 0 (ll := []) (by simp)) ?_
    rw [keepQ_nil]
    exact Ev.now _
theorem pure_len (n : Int) (l : List Int) : (collapseOfF n l).2.1.length ≤ 1048576 ∧ (collapseOfF n l).2.2.1.length ≤ 1048576 := by
  unfold collapseOfF
  split
  · rename_i hi
    exact colG_len _ n hi
  · simp
theorem FnExactCollapseOf (n0 : Int) (l0 : List Int) (_ : (Lit.int .i64 n0).wf = true) (hm0 : l0.length ≤ maxLen) (_ : ∀ x ∈ l0, (Lit.int .i64 x).wf = true) : ∃ k, laws_FnExactCollapseOf.f k n0 l0 = some true := by
  rcases Nat.lt_or_ge 1048576 l0.length with hl | hl0
  · refine ⟨0, ?_⟩
    unfold laws_FnExactCollapseOf.f
    rw [sz_big hm0 hl]
    rfl
  · apply Ev.rounds
    obtain ⟨t0, ht0, hz0⟩ := sz_ok (n := n0) hl0
    have hS := ev_spec n0 hm0
    have hI : impl_CollapseOf.f n0 l0 = some (collapseOfF n0 l0) := by unfold impl_CollapseOf.f; rw [if_pos (by omega)]
    have hR := pure_len n0 l0
    generalize collapseOfF n0 l0 = D at hS hI hR
    obtain ⟨r1, r2, r3, r4⟩ := D
    simp only at hR
    obtain ⟨hR0, hR1⟩ := hR
    have hca0 : 0 ≤ (1 : Int) ∧ (1 : Int) ≤ 1073741824 := by omega
    have hca1 : 0 ≤ 1 + (l0.length : Int) ∧ 1 + (l0.length : Int) ≤ 1073741824 := by omega
    have hna1 : ¬ (1 + (l0.length : Int) < 0) := by omega
    have hco0 : 0 ≤ (1 : Int) ∧ (1 : Int) ≤ 1073741824 := by omega
    have hco1 : 0 ≤ 1 + (r2.length : Int) ∧ 1 + (r2.length : Int) ≤ 1073741824 := by omega
    have hno1 : ¬ (1 + (r2.length : Int) < 0) := by omega
    have hco2 : 0 ≤ 1 + (r2.length : Int) + 2 * (r3.length : Int) ∧ 1 + (r2.length : Int) + 2 * (r3.length : Int) ≤ 1073741824 := by omega
    have hno2 : ¬ (1 + (r2.length : Int) + 2 * (r3.length : Int) < 0) := by omega
    unfold laws_FnExactCollapseOf.f
    rw [ht0]
    simp only [Option.bind_some, if_neg hz0]
    repeat (first
      | (exact Ev.now _)
      | (refine Ev.bind (ev_toComplex hl0) ?_)
      | (refine Ev.bind hS ?_)
      | (refine Ev.bind (ev_eqComplex hR0) ?_)
      | (refine Ev.bind (ev_eqPairs hR1) ?_)
      | (refine Ev.bind (ev_eqComplex hl0) ?_)
      | (refine Ev.bind (ev_markComplex hl0 hca0) ?_)
      | (refine Ev.bind (ev_markComplex hR0 hco0) ?_)
      | (refine Ev.bind (ev_markPairs hR1 hco1) ?_)
      | (refine Ev.bind (ev_heldComplex hR0 hco0) ?_)
      | (refine Ev.bind (ev_heldPairs hR1 hco1) ?_)
      | (simp only [hI, Option.bind_some, if_true, bne_self_eq_false, Bool.false_eq_true, if_false, if_neg hna1, if_neg hno1, if_neg hno2]))
end Go.Proofs.Ytnmhnkpijjmhjaa.Pu
