/- Words and lemmas for FnExactCollapseKeeping, part 5: what the row's text comes to. -/
import Derived.Test.YtnmhnkpijjmhjaaZFnExactCollapseKeepingd
namespace Go.Proofs.Ytnmhnkpijjmhjaa.QFnExactCollapseKeeping
open Go.Proofs.Ytnmhnkpijjmhjaa.Cw Go.Proofs.Ytnmhnkpijjmhjaa.Kp Go.Proofs.Ytnmhnkpijjmhjaa.Ext Go.Proofs.Ytnmhnkpijjmhjaa.QS Go.RowKit Go.Proofs.YtnmhnkpijjmhjaaW.PrintWords Go.Proofs.YtnmhnkpijjmhjaaW.PrintLast Go.Proofs.YtnmhnkpijjmhjaaW.PrintMore
attribute [local go_sem] max2_int min2_int max_two min_two max_three min_three max_four min_four   -- for this text's walks alone
set_option linter.unusedVariables false
set_option linter.unusedSimpArgs false
theorem info2 : (Try.prog.info? 2).map (fun i => (i.zero, i.size, i.bytes)) = some (some (.int .i64 0), 1, 8) := by kernel_rfl
theorem info76 : (Try.prog.info? 76).map (fun i => (i.zero, i.size, i.bytes)) = some (some (.agg #[(.int .i64 0), (.int .i64 0)]), 2, 16) := by kernel_rfl
end Go.Proofs.Ytnmhnkpijjmhjaa.QFnExactCollapseKeeping
namespace Go.Proofs.Ytnmhnkpijjmhjaa.QFnExactCollapseKeeping
open Go.Proofs.Ytnmhnkpijjmhjaa.Cw Go.Proofs.Ytnmhnkpijjmhjaa.Kp Go.Proofs.Ytnmhnkpijjmhjaa.Ext Go.Proofs.Ytnmhnkpijjmhjaa.QS Go.RowKit Go.Proofs.YtnmhnkpijjmhjaaW.PrintWords Go.Proofs.YtnmhnkpijjmhjaaW.PrintLast Go.Proofs.YtnmhnkpijjmhjaaW.PrintMore
attribute [local go_sem] max2_int min2_int max_two min_two max_three min_three max_four min_four   -- for this text's walks alone
set_option linter.unusedVariables false
set_option linter.unusedSimpArgs false
end Go.Proofs.Ytnmhnkpijjmhjaa.QFnExactCollapseKeeping
namespace Go.Proofs.Ytnmhnkpijjmhjaa.QFnExactCollapseKeeping
open Go.Proofs.Ytnmhnkpijjmhjaa.Cw Go.Proofs.Ytnmhnkpijjmhjaa.Kp Go.Proofs.Ytnmhnkpijjmhjaa.Ext Go.Proofs.Ytnmhnkpijjmhjaa.QS Go.RowKit Go.Proofs.YtnmhnkpijjmhjaaW.PrintWords Go.Proofs.YtnmhnkpijjmhjaaW.PrintLast Go.Proofs.YtnmhnkpijjmhjaaW.PrintMore
attribute [local go_sem] max2_int min2_int max_two min_two max_three min_three max_four min_four   -- for this text's walks alone
set_option linter.unusedVariables false
set_option linter.unusedSimpArgs false
def laws_FnExactCollapseKeeping.f (k : Nat) (a0_0 : Int) (l0_1 : List Int) (a1_0 : Int) (l1_1 : List Int) : Option (Bool) := (laws_szComplex.f a0_0 l0_1 1048576).bind fun t221 => (if t221 < 0 then (some true) else ((laws_szComplex.f a1_0 l1_1 t221).bind fun t222 => (if t222 < 0 then (some true) else ((laws_toComplex.f k a0_0 l0_1).bind fun bt223 => ((laws_toComplex.f k a1_0 l1_1).bind fun bt227 => ((spec_CollapseKeeping.f k bt223.1 bt223.2 bt227.1 bt227.2).bind fun bt231 => ((laws_toComplex.f k a0_0 l0_1).bind fun bt240 => ((laws_toComplex.f k a1_0 l1_1).bind fun bt245 => ((impl_CollapseKeeping.f bt240.1 bt240.2 bt245.1 bt245.2).bind fun bt250 => ((laws_eqComplex.f k bt250.1 bt250.2.1 bt231.1 bt231.2.1).bind fun t259 => (if t259 = true then ((laws_eqPairS.f k bt250.2.2.1 bt231.2.2.1).bind fun t260 => (if t260 = true then (if bt250.2.2.2 = bt231.2.2.2 then ((laws_toComplex.f k a0_0 l0_1).bind fun bt261 => ((laws_eqComplex.f k bt240.1 bt240.2 bt261.1 bt261.2).bind fun t265 => (if t265 = true then ((laws_toComplex.f k a1_0 l1_1).bind fun bt266 => ((laws_eqComplex.f k bt245.1 bt245.2 bt266.1 bt266.2).bind fun t270 => (if t270 = true then ((laws_markComplex.f k bt240.1 bt240.2 1).bind fun bt271 => ((laws_markComplex.f k bt245.1 bt245.2 bt271.1).bind fun bt273 => (if bt273.1 < 0 then (none) else ((laws_eqComplex.f k bt250.1 bt250.2.1 bt231.1 bt231.2.1).bind fun t275 => (if t275 = true then ((laws_eqPairS.f k bt250.2.2.1 bt231.2.2.1).bind fun t276 => (if t276 = true then ((laws_markComplex.f k bt250.1 bt250.2.1 1).bind fun bt277 => ((laws_markPairS.f bt250.2.2.1 bt277.1).bind fun bt279 => ((laws_heldComplex.f k bt250.1 bt277.2 1).bind fun t281 => (if t281 < 0 then (none) else ((laws_heldPairS.f bt279.2 t281).bind fun t282 => (if t282 < 0 then (none) else (if t282 = bt279.1 then ((laws_toComplex.f k a0_0 l0_1).bind fun bt283 => ((laws_toComplex.f k a1_0 l1_1).bind fun bt287 => ((impl_CollapseKeeping.f bt283.1 bt283.2 bt287.1 bt287.2).bind fun bt291 => ((laws_eqComplex.f k bt291.1 bt291.2.1 bt231.1 bt231.2.1).bind fun t300 => (if t300 = true then ((laws_eqPairS.f k bt291.2.2.1 bt231.2.2.1).bind fun t301 => (if t301 = true then (if bt291.2.2.2 = bt231.2.2.2 then ((laws_heldComplex.f k bt250.1 bt277.2 1).bind fun t302 => (if t302 < 0 then (none) else ((laws_heldPairS.f bt279.2 t302).bind fun t303 => (if t303 < 0 then (none) else (if t303 = bt279.1 then (some true) else (none)))))) else (none)) else (none))) else (none)))))) else (none)))))))) else (none))) else (none)))))) else (none)))) else (none)))) else (none)) else (none))) else (none))))))))))))
def laws_FnExactCollapseKeeping.T8 : Bool × List (List Nat × List Nat) := (true, [([], []), ([0], [0]), ([], []), ([2, 1], [2]), ([1, 3, 3], [1, 3]), ([4], [4]), ([5], [5]), ([5], [5]), ([5], [5]), ([], []), ([9, 6, 4, 0, 1, 2, 3, 4, 5, 6, 9], [6, 9]), ([7, 10, 0, 1, 2, 3, 4, 5, 6, 7, 9, 10], [7]), ([8, 11, 0, 1, 2, 3, 4, 5, 6, 7, 8, 9, 10, 11], [8])])
def laws_FnExactCollapseKeeping.B8 : List Nat := [0, 1, 0, 7, 15, 31, 63, 63, 63, 0, 639, 1791, 4095]
theorem laws_FnExactCollapseKeeping.tab8 : rtab .any (opsOf Try.f4 8) = laws_FnExactCollapseKeeping.T8 := by kernel_rfl
theorem laws_FnExactCollapseKeeping.bits8 : waitsOk laws_FnExactCollapseKeeping.T8.2 laws_FnExactCollapseKeeping.B8 = true := by kernel_rfl
def laws_FnExactCollapseKeeping.T35 : Bool × List (List Nat × List Nat) := (true, [([], []), ([0], [0]), ([], []), ([2, 1], [2]), ([1, 3, 3], [1, 3]), ([4], [4]), ([5], [5]), ([5], [5]), ([5], [5]), ([], []), ([9, 6, 4, 0, 1, 2, 3, 4, 5, 6, 9], [6, 9]), ([7, 10, 0, 1, 2, 3, 4, 5, 6, 7, 9, 10], [7]), ([8, 11, 0, 1, 2, 3, 4, 5, 6, 7, 8, 9, 10, 11], [8])])
def laws_FnExactCollapseKeeping.B35 : List Nat := [0, 1, 0, 7, 15, 31, 63, 63, 63, 0, 639, 1791, 4095]
theorem laws_FnExactCollapseKeeping.tab35 : rtab .any (opsOf Try.f4 35) = laws_FnExactCollapseKeeping.T35 := by kernel_rfl
theorem laws_FnExactCollapseKeeping.bits35 : waitsOk laws_FnExactCollapseKeeping.T35.2 laws_FnExactCollapseKeeping.B35 = true := by kernel_rfl
set_option maxHeartbeats 8000000 in
set_option maxRecDepth 100000 in
theorem laws_FnExactCollapseKeeping.calls (k : Nat) (a0_0 : Int) (A0_1 : Option Addr) (c0_1 : Nat) (l0_1 : List Int) (a1_0 : Int) (A1_1 : Option Addr) (c1_1 : Nat) (l1_1 : List Int) (r : Bool) (w : World) (hr0_1 : Kd.C (Kd.int .i64) w A0_1 l0_1.length l0_1) (hc0_1 : l0_1.length ≤ c0_1) (hr1_1 : Kd.C (Kd.int .i64) w A1_1 l1_1.length l1_1) (hc1_1 : l1_1.length ≤ c1_1) (h : laws_FnExactCollapseKeeping.f k a0_0 l0_1 a1_0 l1_1 = some r) :
  Calls Try.prog 4 #[.agg #[.int .i64 a0_0, .slice A0_1 l0_1.length c0_1], .agg #[.int .i64 a1_0, .slice A1_1 l1_1.length c1_1]] w fun e w' => e = .returned (.bool r) ∧ Below w.heap.size w w' := by
 have hu24 := Try.underlying24
 have hu26 := Try.underlying26
 have HR0_1 := Aside0.mk hr0_1
 have HC0_1 := Aside0.mk hc0_1
 clear hr0_1 hc0_1
 have HR1_1 := Aside0.mk hr1_1
 have HC1_1 := Aside0.mk hc1_1
 clear hr1_1 hc1_1
 have HB := Aside0.mk (Below.refl w.heap.size w)
 have H : ((laws_szComplex.f a0_0 l0_1 1048576).bind fun t221 => (if t221 < 0 then (some true) else ((laws_szComplex.f a1_0 l1_1 t221).bind fun t222 => (if t222 < 0 then (some true) else ((laws_toComplex.f k a0_0 l0_1).bind fun bt223 => ((laws_toComplex.f k a1_0 l1_1).bind fun bt227 => ((spec_CollapseKeeping.f k bt223.1 bt223.2 bt227.1 bt227.2).bind fun bt231 => ((laws_toComplex.f k a0_0 l0_1).bind fun bt240 => ((laws_toComplex.f k a1_0 l1_1).bind fun bt245 => ((impl_CollapseKeeping.f bt240.1 bt240.2 bt245.1 bt245.2).bind fun bt250 => ((laws_eqComplex.f k bt250.1 bt250.2.1 bt231.1 bt231.2.1).bind fun t259 => (if t259 = true then ((laws_eqPairS.f k bt250.2.2.1 bt231.2.2.1).bind fun t260 => (if t260 = true then (if bt250.2.2.2 = bt231.2.2.2 then ((laws_toComplex.f k a0_0 l0_1).bind fun bt261 => ((laws_eqComplex.f k bt240.1 bt240.2 bt261.1 bt261.2).bind fun t265 => (if t265 = true then ((laws_toComplex.f k a1_0 l1_1).bind fun bt266 => ((laws_eqComplex.f k bt245.1 bt245.2 bt266.1 bt266.2).bind fun t270 => (if t270 = true then ((laws_markComplex.f k bt240.1 bt240.2 1).bind fun bt271 => ((laws_markComplex.f k bt245.1 bt245.2 bt271.1).bind fun bt273 => (if bt273.1 < 0 then (none) else ((laws_eqComplex.f k bt250.1 bt250.2.1 bt231.1 bt231.2.1).bind fun t275 => (if t275 = true then ((laws_eqPairS.f k bt250.2.2.1 bt231.2.2.1).bind fun t276 => (if t276 = true then ((laws_markComplex.f k bt250.1 bt250.2.1 1).bind fun bt277 => ((laws_markPairS.f bt250.2.2.1 bt277.1).bind fun bt279 => ((laws_heldComplex.f k bt250.1 bt277.2 1).bind fun t281 => (if t281 < 0 then (none) else ((laws_heldPairS.f bt279.2 t281).bind fun t282 => (if t282 < 0 then (none) else (if t282 = bt279.1 then ((laws_toComplex.f k a0_0 l0_1).bind fun bt283 => ((laws_toComplex.f k a1_0 l1_1).bind fun bt287 => ((impl_CollapseKeeping.f bt283.1 bt283.2 bt287.1 bt287.2).bind fun bt291 => ((laws_eqComplex.f k bt291.1 bt291.2.1 bt231.1 bt231.2.1).bind fun t300 => (if t300 = true then ((laws_eqPairS.f k bt291.2.2.1 bt231.2.2.1).bind fun t301 => (if t301 = true then (if bt291.2.2.2 = bt231.2.2.2 then ((laws_heldComplex.f k bt250.1 bt277.2 1).bind fun t302 => (if t302 < 0 then (none) else ((laws_heldPairS.f bt279.2 t302).bind fun t303 => (if t303 < 0 then (none) else (if t303 = bt279.1 then (some true) else (none)))))) else (none)) else (none))) else (none)))))) else (none)))))))) else (none))) else (none)))))) else (none)))) else (none)))) else (none)) else (none))) else (none))))))))))))) = some r := h
 clear h
 replace H := Option.bind_eq_some_iff.mp H
 obtain ⟨t221, A30, H⟩ := H
 try dsimp only at H
 have A3 := Aside0.mk A30
 clear A30
 by_cases c4 : t221 < 0
 ·rw [if_pos c4] at H
  have c4b0 : decide (t221 < 0) = true := decide_eq_true c4
  clear c4
  obtain rfl := Option.some.inj H
  go_enter Try.func4, Try.ntmps4
  go_wp2_with (first | ((with_reducible refine gate_dst (N := 2) rfl ?_); refine box_event ?hg (N := 2) ?hd (cs := #[.int .i64 a0_0, .slice A0_1 l0_1.length c0_1]) (t := 24) ?hr ?_; (case hd => rfl); (case hg => rfl); (case hr => first | (go_simp; done) | (go_simp; rfl)); intro gb219 hg w5 hbox hb; have BK219 := Aside0.mk (hbox); have GW219 := gH HB hg; have GE219 := gH HB hg; replace HB := sH HB hb; clear hb hbox hg) | ((with_reducible refine gate_dst (N := 3) rfl ?_); refine box_event ?hg (N := 3) ?hd (cs := #[.int .i64 a1_0, .slice A1_1 l1_1.length c1_1]) (t := 24) ?hr ?_; (case hd => rfl); (case hg => rfl); (case hr => first | (go_simp; done) | (go_simp; rfl)); intro gb220 hg w6 hbox hb; have BK220 := Aside0.mk (hbox); have GW220 := gH HB hg; have GE220 := gH HB hg; replace HB := sH HB hb; have NB219_220 := nB BK219 hg; have NB220_219 := oB BK219 hg; replace BK219 := sB BK219 hb; clear hb hbox hg; (try have hnb7 := NB219_220.out); (try have hnc7 := NB220_219.out); have hcz8_0 : w6.cell? ⟨gb219, 0, none⟩ = some (.int .i64 a0_0) := cB BK219 0; have hcz8_1 : w6.cell? ⟨gb219, 1, none⟩ = some (.slice A0_1 l0_1.length c0_1) := cB BK219 1; have hfz8_0 := zB BK219 0; have hfz8_1 := zB BK219 1) | ((with_reducible refine gate_callee (f := 15) rfl ?_); refine cl_ (some 22) Try.func15 #[.agg #[.int .i64 a0_0, .slice A0_1 l0_1.length c0_1], .int .i64 1048576] ?_; (with_reducible refine (laws_szComplex.calls a0_0 _ _ l0_1 1048576 t221 _ ?side1 ?side2 A3.out).mono ?_); (case side1 => exact pC ((Kd.C_below HR0_1.out HB.out))); (case side2 => exact HC0_1.out); rintro e w9 ⟨rfl, hb⟩; refine ⟨_, rfl, ?_⟩; replace BK219 := sB BK219 hb; replace BK220 := sB BK220 hb; replace HB := sH HB hb; (try clear hb); (try clear hi)))
  go_ret
  exact ⟨by first | rfl | (simp [errW_none, errW_some] <;> rfl) | (simp [*, errW_none, errW_some] <;> rfl), pH HB⟩
 ·rw [if_neg c4] at H
  have c4b0 : decide (t221 < 0) = false := decide_eq_false c4
  clear c4
  replace H := Option.bind_eq_some_iff.mp H
  obtain ⟨t222, A100, H⟩ := H
  try dsimp only at H
  have A10 := Aside0.mk A100
  clear A100
  by_cases c11 : t222 < 0
  ·rw [if_pos c11] at H
   have c11b0 : decide (t222 < 0) = true := decide_eq_true c11
   clear c11
   obtain rfl := Option.some.inj H
   go_enter Try.func4, Try.ntmps4
   go_wp2_with (first | ((with_reducible refine gate_dst (N := 2) rfl ?_); refine box_event ?hg (N := 2) ?hd (cs := #[.int .i64 a0_0, .slice A0_1 l0_1.length c0_1]) (t := 24) ?hr ?_; (case hd => rfl); (case hg => rfl); (case hr => first | (go_simp; done) | (go_simp; rfl)); intro gb219 hg w12 hbox hb; have BK219 := Aside0.mk (hbox); have GW219 := gH HB hg; have GE219 := gH HB hg; replace HB := sH HB hb; clear hb hbox hg) | ((with_reducible refine gate_dst (N := 3) rfl ?_); refine box_event ?hg (N := 3) ?hd (cs := #[.int .i64 a1_0, .slice A1_1 l1_1.length c1_1]) (t := 24) ?hr ?_; (case hd => rfl); (case hg => rfl); (case hr => first | (go_simp; done) | (go_simp; rfl)); intro gb220 hg w13 hbox hb; have BK220 := Aside0.mk (hbox); have GW220 := gH HB hg; have GE220 := gH HB hg; replace HB := sH HB hb; have NB219_220 := nB BK219 hg; have NB220_219 := oB BK219 hg; replace BK219 := sB BK219 hb; clear hb hbox hg; (try have hnb14 := NB219_220.out); (try have hnc14 := NB220_219.out); have hcz15_0 : w13.cell? ⟨gb219, 0, none⟩ = some (.int .i64 a0_0) := cB BK219 0; have hcz15_1 : w13.cell? ⟨gb219, 1, none⟩ = some (.slice A0_1 l0_1.length c0_1) := cB BK219 1; have hfz15_0 := zB BK219 0; have hfz15_1 := zB BK219 1) | ((with_reducible refine gate_callee (f := 15) rfl ?_); refine cl_ (some 22) Try.func15 #[.agg #[.int .i64 a0_0, .slice A0_1 l0_1.length c0_1], .int .i64 1048576] ?_; (with_reducible refine (laws_szComplex.calls a0_0 _ _ l0_1 1048576 t221 _ ?side1 ?side2 A3.out).mono ?_); (case side1 => exact pC ((Kd.C_below HR0_1.out HB.out))); (case side2 => exact HC0_1.out); rintro e w16 ⟨rfl, hb⟩; refine ⟨_, rfl, ?_⟩; replace BK219 := sB BK219 hb; replace BK220 := sB BK220 hb; replace HB := sH HB hb; (try clear hb); (try clear hi); have hcz17_0 : w16.cell? ⟨gb220, 0, none⟩ = some (.int .i64 a1_0) := cB BK220 0; have hcz17_1 : w16.cell? ⟨gb220, 1, none⟩ = some (.slice A1_1 l1_1.length c1_1) := cB BK220 1; have hfz17_0 := zB BK220 0; have hfz17_1 := zB BK220 1) | ((with_reducible refine gate_callee (f := 15) rfl ?_); refine cl_ (some 27) Try.func15 #[.agg #[.int .i64 a1_0, .slice A1_1 l1_1.length c1_1], .int .i64 t221] ?_; (with_reducible refine (laws_szComplex.calls a1_0 _ _ l1_1 t221 t222 _ ?side1 ?side2 A10.out).mono ?_); (case side1 => exact pC ((Kd.C_below HR1_1.out HB.out))); (case side2 => exact HC1_1.out); rintro e w18 ⟨rfl, hb⟩; refine ⟨_, rfl, ?_⟩; replace BK219 := sB BK219 hb; replace BK220 := sB BK220 hb; replace HB := sH HB hb; (try clear hb); (try clear hi)))
   go_ret
   exact ⟨by first | rfl | (simp [errW_none, errW_some] <;> rfl) | (simp [*, errW_none, errW_some] <;> rfl), pH HB⟩
  ·rw [if_neg c11] at H
   have c11b0 : decide (t222 < 0) = false := decide_eq_false c11
   clear c11
   replace H := Option.bind_eq_some_iff.mp H
   obtain ⟨⟨t223, t224⟩, A190, H⟩ := H
   try dsimp only at H
   have A19 := Aside0.mk A190
   clear A190
   replace H := Option.bind_eq_some_iff.mp H
   obtain ⟨⟨t227, t228⟩, A200, H⟩ := H
   try dsimp only at H
   have A20 := Aside0.mk A200
   clear A200
   replace H := Option.bind_eq_some_iff.mp H
   obtain ⟨⟨t231, t232, t235, t238⟩, A210, H⟩ := H
   try dsimp only at H
   have A21 := Aside0.mk A210
   clear A210
   replace H := Option.bind_eq_some_iff.mp H
   obtain ⟨⟨t240, t241⟩, A220, H⟩ := H
   try dsimp only at H
   have A22 := Aside0.mk A220
   clear A220
   replace H := Option.bind_eq_some_iff.mp H
   obtain ⟨⟨t245, t246⟩, A230, H⟩ := H
   try dsimp only at H
   have A23 := Aside0.mk A230
   clear A230
   replace H := Option.bind_eq_some_iff.mp H
   obtain ⟨⟨t250, t251, t254, t257⟩, A240, H⟩ := H
   try dsimp only at H
   have A24 := Aside0.mk A240
   clear A240
   replace H := Option.bind_eq_some_iff.mp H
   obtain ⟨t259, A250, H⟩ := H
   try dsimp only at H
   have A25 := Aside0.mk A250
   clear A250
   by_cases c26 : t259 = true
   ·subst c26
    have H1 : ((laws_eqPairS.f k t254 t235).bind fun t260 => (if t260 = true then (if t257 = t238 then ((laws_toComplex.f k a0_0 l0_1).bind fun bt261 => ((laws_eqComplex.f k t240 t241 bt261.1 bt261.2).bind fun t265 => (if t265 = true then ((laws_toComplex.f k a1_0 l1_1).bind fun bt266 => ((laws_eqComplex.f k t245 t246 bt266.1 bt266.2).bind fun t270 => (if t270 = true then ((laws_markComplex.f k t240 t241 1).bind fun bt271 => ((laws_markComplex.f k t245 t246 bt271.1).bind fun bt273 => (if bt273.1 < 0 then (none) else ((laws_eqComplex.f k t250 t251 t231 t232).bind fun t275 => (if t275 = true then ((laws_eqPairS.f k t254 t235).bind fun t276 => (if t276 = true then ((laws_markComplex.f k t250 t251 1).bind fun bt277 => ((laws_markPairS.f t254 bt277.1).bind fun bt279 => ((laws_heldComplex.f k t250 bt277.2 1).bind fun t281 => (if t281 < 0 then (none) else ((laws_heldPairS.f bt279.2 t281).bind fun t282 => (if t282 < 0 then (none) else (if t282 = bt279.1 then ((laws_toComplex.f k a0_0 l0_1).bind fun bt283 => ((laws_toComplex.f k a1_0 l1_1).bind fun bt287 => ((impl_CollapseKeeping.f bt283.1 bt283.2 bt287.1 bt287.2).bind fun bt291 => ((laws_eqComplex.f k bt291.1 bt291.2.1 t231 t232).bind fun t300 => (if t300 = true then ((laws_eqPairS.f k bt291.2.2.1 t235).bind fun t301 => (if t301 = true then (if bt291.2.2.2 = t238 then ((laws_heldComplex.f k t250 bt277.2 1).bind fun t302 => (if t302 < 0 then (none) else ((laws_heldPairS.f bt279.2 t302).bind fun t303 => (if t303 < 0 then (none) else (if t303 = bt279.1 then (some true) else (none)))))) else (none)) else (none))) else (none)))))) else (none)))))))) else (none))) else (none)))))) else (none)))) else (none)))) else (none)) else (none))) = some r := by rw [if_pos rfl] at H; exact H
    clear H
    have H := H1
    clear H1
    replace H := Option.bind_eq_some_iff.mp H
    obtain ⟨t260, A270, H⟩ := H
    try dsimp only at H
    have A27 := Aside0.mk A270
    clear A270
    by_cases c28 : t260 = true
    ·subst c28
     have H1 : (if t257 = t238 then ((laws_toComplex.f k a0_0 l0_1).bind fun bt261 => ((laws_eqComplex.f k t240 t241 bt261.1 bt261.2).bind fun t265 => (if t265 = true then ((laws_toComplex.f k a1_0 l1_1).bind fun bt266 => ((laws_eqComplex.f k t245 t246 bt266.1 bt266.2).bind fun t270 => (if t270 = true then ((laws_markComplex.f k t240 t241 1).bind fun bt271 => ((laws_markComplex.f k t245 t246 bt271.1).bind fun bt273 => (if bt273.1 < 0 then (none) else ((laws_eqComplex.f k t250 t251 t231 t232).bind fun t275 => (if t275 = true then ((laws_eqPairS.f k t254 t235).bind fun t276 => (if t276 = true then ((laws_markComplex.f k t250 t251 1).bind fun bt277 => ((laws_markPairS.f t254 bt277.1).bind fun bt279 => ((laws_heldComplex.f k t250 bt277.2 1).bind fun t281 => (if t281 < 0 then (none) else ((laws_heldPairS.f bt279.2 t281).bind fun t282 => (if t282 < 0 then (none) else (if t282 = bt279.1 then ((laws_toComplex.f k a0_0 l0_1).bind fun bt283 => ((laws_toComplex.f k a1_0 l1_1).bind fun bt287 => ((impl_CollapseKeeping.f bt283.1 bt283.2 bt287.1 bt287.2).bind fun bt291 => ((laws_eqComplex.f k bt291.1 bt291.2.1 t231 t232).bind fun t300 => (if t300 = true then ((laws_eqPairS.f k bt291.2.2.1 t235).bind fun t301 => (if t301 = true then (if bt291.2.2.2 = t238 then ((laws_heldComplex.f k t250 bt277.2 1).bind fun t302 => (if t302 < 0 then (none) else ((laws_heldPairS.f bt279.2 t302).bind fun t303 => (if t303 < 0 then (none) else (if t303 = bt279.1 then (some true) else (none)))))) else (none)) else (none))) else (none)))))) else (none)))))))) else (none))) else (none)))))) else (none)))) else (none)))) else (none)) = some r := by rw [if_pos rfl] at H; exact H
     clear H
     have H := H1
     clear H1
     by_cases c29 : t257 = t238
     ·rw [if_pos c29] at H
      have c29b0 : (t257 == t238) = true := beq_iff_eq.mpr c29
      have c29b1 : (t257 != t238) = false := bne_eq_false_iff_eq.mpr c29
      clear c29
      replace H := Option.bind_eq_some_iff.mp H
      obtain ⟨⟨t261, t262⟩, A300, H⟩ := H
      try dsimp only at H
      have A30 := Aside0.mk A300
      clear A300
      replace H := Option.bind_eq_some_iff.mp H
      obtain ⟨t265, A310, H⟩ := H
      try dsimp only at H
      have A31 := Aside0.mk A310
      clear A310
      by_cases c32 : t265 = true
      ·subst c32
       have H1 : ((laws_toComplex.f k a1_0 l1_1).bind fun bt266 => ((laws_eqComplex.f k t245 t246 bt266.1 bt266.2).bind fun t270 => (if t270 = true then ((laws_markComplex.f k t240 t241 1).bind fun bt271 => ((laws_markComplex.f k t245 t246 bt271.1).bind fun bt273 => (if bt273.1 < 0 then (none) else ((laws_eqComplex.f k t250 t251 t231 t232).bind fun t275 => (if t275 = true then ((laws_eqPairS.f k t254 t235).bind fun t276 => (if t276 = true then ((laws_markComplex.f k t250 t251 1).bind fun bt277 => ((laws_markPairS.f t254 bt277.1).bind fun bt279 => ((laws_heldComplex.f k t250 bt277.2 1).bind fun t281 => (if t281 < 0 then (none) else ((laws_heldPairS.f bt279.2 t281).bind fun t282 => (if t282 < 0 then (none) else (if t282 = bt279.1 then ((laws_toComplex.f k a0_0 l0_1).bind fun bt283 => ((laws_toComplex.f k a1_0 l1_1).bind fun bt287 => ((impl_CollapseKeeping.f bt283.1 bt283.2 bt287.1 bt287.2).bind fun bt291 => ((laws_eqComplex.f k bt291.1 bt291.2.1 t231 t232).bind fun t300 => (if t300 = true then ((laws_eqPairS.f k bt291.2.2.1 t235).bind fun t301 => (if t301 = true then (if bt291.2.2.2 = t238 then ((laws_heldComplex.f k t250 bt277.2 1).bind fun t302 => (if t302 < 0 then (none) else ((laws_heldPairS.f bt279.2 t302).bind fun t303 => (if t303 < 0 then (none) else (if t303 = bt279.1 then (some true) else (none)))))) else (none)) else (none))) else (none)))))) else (none)))))))) else (none))) else (none)))))) else (none)))) = some r := by rw [if_pos rfl] at H; exact H
       clear H
       have H := H1
       clear H1
       replace H := Option.bind_eq_some_iff.mp H
       obtain ⟨⟨t266, t267⟩, A330, H⟩ := H
       try dsimp only at H
       have A33 := Aside0.mk A330
       clear A330
       replace H := Option.bind_eq_some_iff.mp H
       obtain ⟨t270, A340, H⟩ := H
       try dsimp only at H
       have A34 := Aside0.mk A340
       clear A340
       by_cases c35 : t270 = true
       ·subst c35
        have H1 : ((laws_markComplex.f k t240 t241 1).bind fun bt271 => ((laws_markComplex.f k t245 t246 bt271.1).bind fun bt273 => (if bt273.1 < 0 then (none) else ((laws_eqComplex.f k t250 t251 t231 t232).bind fun t275 => (if t275 = true then ((laws_eqPairS.f k t254 t235).bind fun t276 => (if t276 = true then ((laws_markComplex.f k t250 t251 1).bind fun bt277 => ((laws_markPairS.f t254 bt277.1).bind fun bt279 => ((laws_heldComplex.f k t250 bt277.2 1).bind fun t281 => (if t281 < 0 then (none) else ((laws_heldPairS.f bt279.2 t281).bind fun t282 => (if t282 < 0 then (none) else (if t282 = bt279.1 then ((laws_toComplex.f k a0_0 l0_1).bind fun bt283 => ((laws_toComplex.f k a1_0 l1_1).bind fun bt287 => ((impl_CollapseKeeping.f bt283.1 bt283.2 bt287.1 bt287.2).bind fun bt291 => ((laws_eqComplex.f k bt291.1 bt291.2.1 t231 t232).bind fun t300 => (if t300 = true then ((laws_eqPairS.f k bt291.2.2.1 t235).bind fun t301 => (if t301 = true then (if bt291.2.2.2 = t238 then ((laws_heldComplex.f k t250 bt277.2 1).bind fun t302 => (if t302 < 0 then (none) else ((laws_heldPairS.f bt279.2 t302).bind fun t303 => (if t303 < 0 then (none) else (if t303 = bt279.1 then (some true) else (none)))))) else (none)) else (none))) else (none)))))) else (none)))))))) else (none))) else (none)))))) = some r := by rw [if_pos rfl] at H; exact H
        clear H
        have H := H1
        clear H1
        replace H := Option.bind_eq_some_iff.mp H
        obtain ⟨⟨t271, t272⟩, A360, H⟩ := H
        try dsimp only at H
        have A36 := Aside0.mk A360
        clear A360
        replace H := Option.bind_eq_some_iff.mp H
        obtain ⟨⟨t273, t274⟩, A370, H⟩ := H
        try dsimp only at H
        have A37 := Aside0.mk A370
        clear A370
        by_cases c38 : t273 < 0
        ·rw [if_pos c38] at H
         exact absurd H (by simp)
        ·rw [if_neg c38] at H
         have c38b0 : decide (t273 < 0) = false := decide_eq_false c38
         clear c38
         replace H := Option.bind_eq_some_iff.mp H
         obtain ⟨t275, A390, H⟩ := H
         try dsimp only at H
         have A39 := Aside0.mk A390
         clear A390
         by_cases c40 : t275 = true
         ·subst c40
          have H1 : ((laws_eqPairS.f k t254 t235).bind fun t276 => (if t276 = true then ((laws_markComplex.f k t250 t251 1).bind fun bt277 => ((laws_markPairS.f t254 bt277.1).bind fun bt279 => ((laws_heldComplex.f k t250 bt277.2 1).bind fun t281 => (if t281 < 0 then (none) else ((laws_heldPairS.f bt279.2 t281).bind fun t282 => (if t282 < 0 then (none) else (if t282 = bt279.1 then ((laws_toComplex.f k a0_0 l0_1).bind fun bt283 => ((laws_toComplex.f k a1_0 l1_1).bind fun bt287 => ((impl_CollapseKeeping.f bt283.1 bt283.2 bt287.1 bt287.2).bind fun bt291 => ((laws_eqComplex.f k bt291.1 bt291.2.1 t231 t232).bind fun t300 => (if t300 = true then ((laws_eqPairS.f k bt291.2.2.1 t235).bind fun t301 => (if t301 = true then (if bt291.2.2.2 = t238 then ((laws_heldComplex.f k t250 bt277.2 1).bind fun t302 => (if t302 < 0 then (none) else ((laws_heldPairS.f bt279.2 t302).bind fun t303 => (if t303 < 0 then (none) else (if t303 = bt279.1 then (some true) else (none)))))) else (none)) else (none))) else (none)))))) else (none)))))))) else (none))) = some r := by rw [if_pos rfl] at H; exact H
          clear H
          have H := H1
          clear H1
          replace H := Option.bind_eq_some_iff.mp H
          obtain ⟨t276, A410, H⟩ := H
          try dsimp only at H
          have A41 := Aside0.mk A410
          clear A410
          by_cases c42 : t276 = true
          ·subst c42
           have H1 : ((laws_markComplex.f k t250 t251 1).bind fun bt277 => ((laws_markPairS.f t254 bt277.1).bind fun bt279 => ((laws_heldComplex.f k t250 bt277.2 1).bind fun t281 => (if t281 < 0 then (none) else ((laws_heldPairS.f bt279.2 t281).bind fun t282 => (if t282 < 0 then (none) else (if t282 = bt279.1 then ((laws_toComplex.f k a0_0 l0_1).bind fun bt283 => ((laws_toComplex.f k a1_0 l1_1).bind fun bt287 => ((impl_CollapseKeeping.f bt283.1 bt283.2 bt287.1 bt287.2).bind fun bt291 => ((laws_eqComplex.f k bt291.1 bt291.2.1 t231 t232).bind fun t300 => (if t300 = true then ((laws_eqPairS.f k bt291.2.2.1 t235).bind fun t301 => (if t301 = true then (if bt291.2.2.2 = t238 then ((laws_heldComplex.f k t250 bt277.2 1).bind fun t302 => (if t302 < 0 then (none) else ((laws_heldPairS.f bt279.2 t302).bind fun t303 => (if t303 < 0 then (none) else (if t303 = bt279.1 then (some true) else (none)))))) else (none)) else (none))) else (none)))))) else (none)))))))) = some r := by rw [if_pos rfl] at H; exact H
           clear H
           have H := H1
           clear H1
           replace H := Option.bind_eq_some_iff.mp H
           obtain ⟨⟨t277, t278⟩, A430, H⟩ := H
           try dsimp only at H
           have A43 := Aside0.mk A430
           clear A430
           replace H := Option.bind_eq_some_iff.mp H
           obtain ⟨⟨t279, t280⟩, A440, H⟩ := H
           try dsimp only at H
           have A44 := Aside0.mk A440
           clear A440
           replace H := Option.bind_eq_some_iff.mp H
           obtain ⟨t281, A450, H⟩ := H
           try dsimp only at H
           have A45 := Aside0.mk A450
           clear A450
           by_cases c46 : t281 < 0
           ·rw [if_pos c46] at H
            exact absurd H (by simp)
           ·rw [if_neg c46] at H
            have c46b0 : decide (t281 < 0) = false := decide_eq_false c46
            clear c46
            replace H := Option.bind_eq_some_iff.mp H
            obtain ⟨t282, A470, H⟩ := H
            try dsimp only at H
            have A47 := Aside0.mk A470
            clear A470
            by_cases c48 : t282 < 0
            ·rw [if_pos c48] at H
             exact absurd H (by simp)
            ·rw [if_neg c48] at H
             have c48b0 : decide (t282 < 0) = false := decide_eq_false c48
             clear c48
             by_cases c49 : t282 = t279
             ·rw [if_pos c49] at H
              have c49b0 : (t282 == t279) = true := beq_iff_eq.mpr c49
              have c49b1 : (t282 != t279) = false := bne_eq_false_iff_eq.mpr c49
              clear c49
              replace H := Option.bind_eq_some_iff.mp H
              obtain ⟨⟨t283, t284⟩, A500, H⟩ := H
              try dsimp only at H
              have A50 := Aside0.mk A500
              clear A500
              replace H := Option.bind_eq_some_iff.mp H
              obtain ⟨⟨t287, t288⟩, A510, H⟩ := H
              try dsimp only at H
              have A51 := Aside0.mk A510
              clear A510
              replace H := Option.bind_eq_some_iff.mp H
              obtain ⟨⟨t291, t292, t295, t298⟩, A520, H⟩ := H
              try dsimp only at H
              have A52 := Aside0.mk A520
              clear A520
              replace H := Option.bind_eq_some_iff.mp H
              obtain ⟨t300, A530, H⟩ := H
              try dsimp only at H
              have A53 := Aside0.mk A530
              clear A530
              by_cases c54 : t300 = true
              ·subst c54
               have H1 : ((laws_eqPairS.f k t295 t235).bind fun t301 => (if t301 = true then (if t298 = t238 then ((laws_heldComplex.f k t250 t278 1).bind fun t302 => (if t302 < 0 then (none) else ((laws_heldPairS.f t280 t302).bind fun t303 => (if t303 < 0 then (none) else (if t303 = t279 then (some true) else (none)))))) else (none)) else (none))) = some r := by rw [if_pos rfl] at H; exact H
               clear H
               have H := H1
               clear H1
               replace H := Option.bind_eq_some_iff.mp H
               obtain ⟨t301, A550, H⟩ := H
               try dsimp only at H
               have A55 := Aside0.mk A550
               clear A550
               by_cases c56 : t301 = true
               ·subst c56
                have H1 : (if t298 = t238 then ((laws_heldComplex.f k t250 t278 1).bind fun t302 => (if t302 < 0 then (none) else ((laws_heldPairS.f t280 t302).bind fun t303 => (if t303 < 0 then (none) else (if t303 = t279 then (some true) else (none)))))) else (none)) = some r := by rw [if_pos rfl] at H; exact H
                clear H
                have H := H1
                clear H1
                by_cases c57 : t298 = t238
                ·rw [if_pos c57] at H
                 have c57b0 : (t298 == t238) = true := beq_iff_eq.mpr c57
                 have c57b1 : (t298 != t238) = false := bne_eq_false_iff_eq.mpr c57
                 clear c57
                 replace H := Option.bind_eq_some_iff.mp H
                 obtain ⟨t302, A580, H⟩ := H
                 try dsimp only at H
                 have A58 := Aside0.mk A580
                 clear A580
                 by_cases c59 : t302 < 0
                 ·rw [if_pos c59] at H
                  exact absurd H (by simp)
                 ·rw [if_neg c59] at H
                  have c59b0 : decide (t302 < 0) = false := decide_eq_false c59
                  clear c59
                  replace H := Option.bind_eq_some_iff.mp H
                  obtain ⟨t303, A600, H⟩ := H
                  try dsimp only at H
                  have A60 := Aside0.mk A600
                  clear A600
                  by_cases c61 : t303 < 0
                  ·rw [if_pos c61] at H
                   exact absurd H (by simp)
                  ·rw [if_neg c61] at H
                   have c61b0 : decide (t303 < 0) = false := decide_eq_false c61
                   clear c61
                   by_cases c62 : t303 = t279
                   ·rw [if_pos c62] at H
                    have c62b0 : (t303 == t279) = true := beq_iff_eq.mpr c62
                    have c62b1 : (t303 != t279) = false := bne_eq_false_iff_eq.mpr c62
                    clear c62
                    obtain rfl := Option.some.inj H
                    go_enter Try.func4, Try.ntmps4
                    try go_wp2_with (first | ((with_reducible refine gate_dst (N := 2) rfl ?_); refine box_event ?hg (N := 2) ?hd (cs := #[.int .i64 a0_0, .slice A0_1 l0_1.length c0_1]) (t := 24) ?hr ?_; (case hd => rfl); (case hg => rfl); (case hr => first | (go_simp; done) | (go_simp; rfl)); intro gb219 hg w63 hbox hb; have BK219 := Aside0.mk (hbox); have GW219 := gH HB hg; have GE219 := gH HB hg; replace HB := sH HB hb; clear hb hbox hg) | ((with_reducible refine gate_dst (N := 3) rfl ?_); refine box_event ?hg (N := 3) ?hd (cs := #[.int .i64 a1_0, .slice A1_1 l1_1.length c1_1]) (t := 24) ?hr ?_; (case hd => rfl); (case hg => rfl); (case hr => first | (go_simp; done) | (go_simp; rfl)); intro gb220 hg w64 hbox hb; have BK220 := Aside0.mk (hbox); have GW220 := gH HB hg; have GE220 := gH HB hg; replace HB := sH HB hb; have NB219_220 := nB BK219 hg; have NB220_219 := oB BK219 hg; replace BK219 := sB BK219 hb; clear hb hbox hg; (try have hnb65 := NB219_220.out); (try have hnc65 := NB220_219.out); have hcz66_0 : w64.cell? ⟨gb219, 0, none⟩ = some (.int .i64 a0_0) := cB BK219 0; have hcz66_1 : w64.cell? ⟨gb219, 1, none⟩ = some (.slice A0_1 l0_1.length c0_1) := cB BK219 1; have hfz66_0 := zB BK219 0; have hfz66_1 := zB BK219 1) | ((with_reducible refine gate_callee (f := 15) rfl ?_); refine cl_ (some 22) Try.func15 #[.agg #[.int .i64 a0_0, .slice A0_1 l0_1.length c0_1], .int .i64 1048576] ?_; (with_reducible refine (laws_szComplex.calls a0_0 _ _ l0_1 1048576 t221 _ ?side1 ?side2 A3.out).mono ?_); (case side1 => exact pC ((Kd.C_below HR0_1.out HB.out))); (case side2 => exact HC0_1.out); rintro e w67 ⟨rfl, hb⟩; refine ⟨_, rfl, ?_⟩; replace BK219 := sB BK219 hb; replace BK220 := sB BK220 hb; replace HB := sH HB hb; (try clear hb); (try clear hi); have hcz68_0 : w67.cell? ⟨gb220, 0, none⟩ = some (.int .i64 a1_0) := cB BK220 0; have hcz68_1 : w67.cell? ⟨gb220, 1, none⟩ = some (.slice A1_1 l1_1.length c1_1) := cB BK220 1; have hfz68_0 := zB BK220 0; have hfz68_1 := zB BK220 1) | ((with_reducible refine gate_callee (f := 15) rfl ?_); refine cl_ (some 27) Try.func15 #[.agg #[.int .i64 a1_0, .slice A1_1 l1_1.length c1_1], .int .i64 t221] ?_; (with_reducible refine (laws_szComplex.calls a1_0 _ _ l1_1 t221 t222 _ ?side1 ?side2 A10.out).mono ?_); (case side1 => exact pC ((Kd.C_below HR1_1.out HB.out))); (case side2 => exact HC1_1.out); rintro e w69 ⟨rfl, hb⟩; refine ⟨_, rfl, ?_⟩; replace BK219 := sB BK219 hb; replace BK220 := sB BK220 hb; replace HB := sH HB hb; (try clear hb); (try clear hi)))
                    replace BK219 := dB BK219
                    replace BK220 := dB BK220
                    replace HB := dH HB
                    refine st_ 13 (S := fun w' => w'.cell? ⟨gb219, 0, none⟩ = some (.int .i64 a0_0) ∧ w'.cell? ⟨gb219, 1, none⟩ = some (.slice A0_1 l0_1.length c0_1) ∧ w'.cell? ⟨gb220, 0, none⟩ = some (.int .i64 a1_0) ∧ w'.cell? ⟨gb220, 1, none⟩ = some (.slice A1_1 l1_1.length c1_1)) (ds := []) ⟨cB BK219 0, cB BK219 1, cB BK220 0, cB BK220 1⟩ (fun hHeld => ?_); refine with_tabW laws_FnExactCollapseKeeping.tab8 laws_FnExactCollapseKeeping.bits8 (fun HT_ HW_ => ?_)
                    generalize w69.drew = w70 at BK219 BK220 HB hHeld ⊢
                    refine tk_ 0 31 1 HT_ HW_ hHeld ?_
                    refine tk_ 2 33 5 HT_ HW_ hHeld ?_
                    refine join_ (σ := Value × Value × Value × Value × Nat) 3 (mB 13 1023) (fun s_ => [(32, .agg #[.int .i64 t223, s_.1]), (34, .agg #[.int .i64 t227, s_.2.1]), (35, .tuple #[.agg #[.int .i64 t231, s_.2.2.1], s_.2.2.2.1, .int .i64 t238]), (6, .pointer (some ⟨s_.2.2.2.2, 0, none⟩)), (30, .tuple #[.agg #[.int .i64 t231, s_.2.2.1], s_.2.2.2.1, .int .i64 t238]), (36, .agg #[.int .i64 t231, s_.2.2.1]), (37, s_.2.2.2.1), (38, .int .i64 t238)]) (fun s_ w' => (w'.cell? ⟨gb219, 0, none⟩ = some (.int .i64 a0_0) ∧ w'.cell? ⟨gb219, 1, none⟩ = some (.slice A0_1 l0_1.length c0_1) ∧ w'.cell? ⟨gb220, 0, none⟩ = some (.int .i64 a1_0) ∧ w'.cell? ⟨gb220, 1, none⟩ = some (.slice A1_1 l1_1.length c1_1)) ∧ (Kd.R (Kd.int .i64) 2 w' w.heap.size (fun k_ => some k_ ≠ (s_.2.1 : Value).ownBlock ∧ some k_ ≠ (s_.2.2.1 : Value).ownBlock) s_.1 t224) ∧ (Kd.R (Kd.int .i64) 2 w' w.heap.size (fun k_ => some k_ ≠ (s_.1 : Value).ownBlock ∧ some k_ ≠ (s_.2.2.1 : Value).ownBlock) s_.2.1 t228) ∧ (Kd.R (Kd.int .i64) 2 w' w.heap.size (fun k_ => some k_ ≠ (s_.1 : Value).ownBlock ∧ some k_ ≠ (s_.2.1 : Value).ownBlock) s_.2.2.1 t232) ∧ (Kd.R k76 76 w' w.heap.size (fun _ => True) s_.2.2.2.1 t235) ∧ (w'.heap[gb219]? = some (.cells #[.int .i64 a0_0, .slice A0_1 l0_1.length c0_1] 24 (0, 0))) ∧ (w'.heap[gb220]? = some (.cells #[.int .i64 a1_0, .slice A1_1 l1_1.length c1_1] 24 (0, 0))) ∧ (w'.heap[s_.2.2.2.2]? = some (.cells #[.int .i64 0, .slice none 0 0] 26 (0, 0))) ∧ (w.heap.size ≤ s_.2.2.2.2) ∧ (w.heap.size ≤ s_.2.2.2.2) ∧ (gb219 ≠ s_.2.2.2.2) ∧ (s_.2.2.2.2 ≠ gb219) ∧ (gb220 ≠ s_.2.2.2.2) ∧ (s_.2.2.2.2 ≠ gb220) ∧ (Below w.heap.size w w')) ?_ ?_
                    rotate_left
                    ·intro hCont
                     refine two_ (i := 1) (j := 9) (Ni := some 32) (Nj := some 6) (mB 13 7) (mB 13 517) rfl rfl rfl rfl (two_of HT_.out (by kernel_rfl)) (by decide) (by decide) (fun K hK => ?_) (fun K hK => ?_)
                     ·skip
                      refine ca_ Try.func17 #[.agg #[.int .i64 a0_0, .slice A0_1 l0_1.length c0_1]] ?_
                      with_reducible refine (laws_toComplex.calls k a0_0 _ _ l0_1 t223 t224 _ ?side1 ?side2 A19.out).mono ?_
                      (case side1 => exact pC ((Kd.C_below HR0_1.out HB.out)))
                      (case side2 => exact HC0_1.out)
                      rintro e w71 ⟨v225, rfl, ho0, hb⟩
                      refine ⟨_, rfl, ?_⟩
                      have HO226 := Aside0.mk (Kd.R_lower ho0 (below_size (pH HB)))
                      replace BK219 := sB BK219 hb
                      replace BK220 := sB BK220 hb
                      replace HB := sH HB hb
                      (try clear hb)
                      (try clear hb2)
                      (try clear hk)
                      (try clear hi)
                      (try clear ho0)
                      refine hK.out _ _ ⟨cB BK219 0, cB BK219 1, cB BK220 0, cB BK220 1⟩ (fun hHeld => ?_)
                      clear hK K
                      refine nm_ ?_
                      refine two_ (i := 3) (j := 9) (Ni := some 34) (Nj := some 6) (mB 13 15) (mB 13 519) rfl rfl rfl rfl (two_of HT_.out (by kernel_rfl)) (by decide) (by decide) (fun K hK => ?_) (fun K hK => ?_)
                      ·skip
                       refine ca_ Try.func17 #[.agg #[.int .i64 a1_0, .slice A1_1 l1_1.length c1_1]] ?_
                       with_reducible refine (laws_toComplex.calls k a1_0 _ _ l1_1 t227 t228 _ ?side1 ?side2 A20.out).mono ?_
                       (case side1 => exact pC ((Kd.C_below HR1_1.out HB.out)))
                       (case side2 => exact HC1_1.out)
                       rintro e w72 ⟨v229, rfl, ho0, hb⟩
                       refine ⟨_, rfl, ?_⟩
                       have HO230 := Aside0.mk (Kd.R_lower (Kd.R_new' ho0 (Kd.R_lt (pR HO226))) (below_size (pH HB)))
                       replace HO226 := Aside0.mk (Kd.R_elder' (pR HO226) (Kd.R_base ho0) hb)
                       replace BK219 := sB BK219 hb
                       replace BK220 := sB BK220 hb
                       replace HB := sH HB hb
                       (try clear hb)
                       (try clear hb2)
                       (try clear hk)
                       (try clear hi)
                       (try clear ho0)
                       obtain ⟨Ao73, co73, eo73⟩ := Kd.R_slice HO226.out
                       (first | subst eo73 | (injection eo73 with f1_ f2_ f3_; have f4_ := f1_.symm; have f5_ := f3_.symm; clear f1_ f2_ f3_; subst f4_; subst f5_))
                       obtain ⟨Ao74, co74, eo74⟩ := Kd.R_slice HO230.out
                       (first | subst eo74 | (injection eo74 with f1_ f2_ f3_; have f4_ := f1_.symm; have f5_ := f3_.symm; clear f1_ f2_ f3_; subst f4_; subst f5_))
                       refine hK.out _ _ ⟨cB BK219 0, cB BK219 1, cB BK220 0, cB BK220 1⟩ (fun hHeld => ?_)
                       clear hK K
                       refine nm_ ?_
                       refine two_ (i := 4) (j := 9) (Ni := some 35) (Nj := some 6) (mB 13 31) (mB 13 527) rfl rfl rfl rfl (two_of HT_.out (by kernel_rfl)) (by decide) (by decide) (fun K hK => ?_) (fun K hK => ?_)
                       ·skip
                        refine ca_ Try.func25 #[.agg #[.int .i64 t223, .slice Ao73 t224.length co73], .agg #[.int .i64 t227, .slice Ao74 t228.length co74]] ?_
                        with_reducible refine (spec_CollapseKeeping.calls k t223 _ _ t224 t227 _ _ t228 t231 t232 t235 t238 _ ?side1 ?side2 ?side3 ?side4 A21.out).mono ?_
                        (case side1 => exact pC ((Kd.R_reads' HO226.out).2.2))
                        (case side2 => exact (Kd.R_reads' HO226.out).2.1)
                        (case side3 => exact pC ((Kd.R_reads' HO230.out).2.2))
                        (case side4 => exact (Kd.R_reads' HO230.out).2.1)
                        rintro e w75 ⟨v233, v236, rfl, ho0, ho1, hb⟩
                        refine ⟨_, rfl, ?_⟩
                        have HO234 := Aside0.mk (Kd.R_lower (Kd.R_new' (Kd.R_new' ho0 (Kd.R_lt (pR HO226))) (Kd.R_lt (pR HO230))) (below_size (pH HB)))
                        replace HO226 := Aside0.mk (Kd.R_elder' (pR HO226) (Kd.R_base ho0) hb)
                        replace HO230 := Aside0.mk (Kd.R_elder' (pR HO230) (Kd.R_base ho0) hb)
                        have HO237 := Aside0.mk (Kd.R_lower ho1 (below_size (pH HB)))
                        replace BK219 := sB BK219 hb
                        replace BK220 := sB BK220 hb
                        replace HB := sH HB hb
                        (try clear hb)
                        (try clear hb2)
                        (try clear hk)
                        (try clear hi)
                        (try clear ho0)
                        (try clear ho1)
                        refine hK.out _ _ ⟨cB BK219 0, cB BK219 1, cB BK220 0, cB BK220 1⟩ (fun hHeld => ?_)
                        clear hK K
                        refine nm_ ?_
                        refine pu_ 5 30 63 HT_ ?_
                        refine pu_ 6 36 127 HT_ ?_
                        refine pu_ 7 37 255 HT_ ?_
                        refine pu_ 8 38 511 HT_ ?_
                        refine on_ 9 (some 6) 1023 HT_ (fun K hK => ?_)
                        refine box_step ?hg (N := 6) ?hd (cs := #[.int .i64 0, .slice none 0 0]) (t := 26) ?hr ?_; (case hd => rfl); (case hg => rfl); (case hr => first | (go_simp; done) | (go_simp; rfl))
                        intro gb239 hg w76 hbox hb
                        replace HO226 := sR HO226 hb
                        replace HO230 := sR HO230 hb
                        replace HO234 := sR HO234 hb
                        replace HO237 := sR HO237 hb
                        have BK239 := Aside0.mk (hbox)
                        have GW239 := gH HB hg
                        have GE239 := gH HB hg
                        replace HB := sH HB hb
                        have NB219_239 := nB BK219 hg
                        have NB239_219 := oB BK219 hg
                        replace BK219 := sB BK219 hb
                        have NB220_239 := nB BK220 hg
                        have NB239_220 := oB BK220 hg
                        replace BK220 := sB BK220 hb
                        clear hb hbox hg
                        refine hK.out _ _ ⟨cB BK219 0, cB BK219 1, cB BK220 0, cB BK220 1⟩ (fun hHeld => ?_)
                        clear hK K
                        refine nm_ ?_
                        exact norm_ (by simp only [putAll, Act.put, List.setIfInBounds_toArray, List.set_cons_zero, List.set_cons_succ]) (hCont (.slice Ao73 t224.length co73, .slice Ao74 t228.length co74, v233, v236, gb239) _ ⟨hHeld, (by (with_reducible repeat (first | apply Kd.R_alloc | apply Kd.R_drewN | apply Kd.R_drew)); exact Kd.R_mono HO226.out (fun _ hk => ⟨hk.1.2, hk.2⟩)), (by (with_reducible repeat (first | apply Kd.R_alloc | apply Kd.R_drewN | apply Kd.R_drew)); exact Kd.R_mono HO230.out (fun _ hk => ⟨hk.1.2, hk.2⟩)), (by (with_reducible repeat (first | apply Kd.R_alloc | apply Kd.R_drewN | apply Kd.R_drew)); exact Kd.R_mono HO234.out (fun _ hk => ⟨hk.1.2, hk.2⟩)), (pR HO237), (pB BK219), (pB BK220), (pB BK239), GW239.out, GE239.out, NB219_239.out, NB239_219.out, NB220_239.out, NB239_220.out, (pH HB)⟩)
                       ·skip
                        refine box_step ?hg (N := 6) ?hd (cs := #[.int .i64 0, .slice none 0 0]) (t := 26) ?hr ?_; (case hd => rfl); (case hg => rfl); (case hr => first | (go_simp; done) | (go_simp; rfl))
                        intro gb239 hg w73 hbox hb
                        replace HO226 := sR HO226 hb
                        replace HO230 := sR HO230 hb
                        have BK239 := Aside0.mk (hbox)
                        have GW239 := gH HB hg
                        have GE239 := gH HB hg
                        replace HB := sH HB hb
                        have NB219_239 := nB BK219 hg
                        have NB239_219 := oB BK219 hg
                        replace BK219 := sB BK219 hb
                        have NB220_239 := nB BK220 hg
                        have NB239_220 := oB BK220 hg
                        replace BK220 := sB BK220 hb
                        clear hb hbox hg
                        obtain ⟨Ao74, co74, eo74⟩ := Kd.R_slice HO226.out
                        (first | subst eo74 | (injection eo74 with f1_ f2_ f3_; have f4_ := f1_.symm; have f5_ := f3_.symm; clear f1_ f2_ f3_; subst f4_; subst f5_))
                        obtain ⟨Ao75, co75, eo75⟩ := Kd.R_slice HO230.out
                        (first | subst eo75 | (injection eo75 with f1_ f2_ f3_; have f4_ := f1_.symm; have f5_ := f3_.symm; clear f1_ f2_ f3_; subst f4_; subst f5_))
                        refine hK.out _ _ ⟨cB BK219 0, cB BK219 1, cB BK220 0, cB BK220 1⟩ (fun hHeld => ?_)
                        clear hK K
                        refine nm_ ?_
                        refine on_ 4 (some 35) 543 HT_ (fun K hK => ?_)
                        refine ca_ Try.func25 #[.agg #[.int .i64 t223, .slice Ao74 t224.length co74], .agg #[.int .i64 t227, .slice Ao75 t228.length co75]] ?_
                        with_reducible refine (spec_CollapseKeeping.calls k t223 _ _ t224 t227 _ _ t228 t231 t232 t235 t238 _ ?side1 ?side2 ?side3 ?side4 A21.out).mono ?_
                        (case side1 => exact pC ((Kd.R_reads' HO226.out).2.2))
                        (case side2 => exact (Kd.R_reads' HO226.out).2.1)
                        (case side3 => exact pC ((Kd.R_reads' HO230.out).2.2))
                        (case side4 => exact (Kd.R_reads' HO230.out).2.1)
                        rintro e w76 ⟨v233, v236, rfl, ho0, ho1, hb⟩
                        refine ⟨_, rfl, ?_⟩
                        have HO234 := Aside0.mk (Kd.R_lower (Kd.R_new' (Kd.R_new' ho0 (Kd.R_lt (pR HO226))) (Kd.R_lt (pR HO230))) (below_size (pH HB)))
                        replace HO226 := Aside0.mk (Kd.R_elder' (pR HO226) (Kd.R_base ho0) hb)
                        replace HO230 := Aside0.mk (Kd.R_elder' (pR HO230) (Kd.R_base ho0) hb)
                        have HO237 := Aside0.mk (Kd.R_lower ho1 (below_size (pH HB)))
                        replace BK219 := sB BK219 hb
                        replace BK220 := sB BK220 hb
                        replace BK239 := sB BK239 hb
                        replace HB := sH HB hb
                        (try clear hb)
                        (try clear hb2)
                        (try clear hk)
                        (try clear hi)
                        (try clear ho0)
                        (try clear ho1)
                        refine hK.out _ _ ⟨cB BK219 0, cB BK219 1, cB BK220 0, cB BK220 1⟩ (fun hHeld => ?_)
                        clear hK K
                        refine nm_ ?_
                        refine pu_ 5 30 575 HT_ ?_
                        refine pu_ 6 36 639 HT_ ?_
                        refine pu_ 7 37 767 HT_ ?_
                        refine pu_ 8 38 1023 HT_ ?_
                        exact norm_ (by simp only [putAll, Act.put, List.setIfInBounds_toArray, List.set_cons_zero, List.set_cons_succ]) (hCont (.slice Ao74 t224.length co74, .slice Ao75 t228.length co75, v233, v236, gb239) _ ⟨hHeld, (by (with_reducible repeat (first | apply Kd.R_alloc | apply Kd.R_drewN | apply Kd.R_drew)); exact Kd.R_mono HO226.out (fun _ hk => ⟨hk.1.2, hk.2⟩)), (by (with_reducible repeat (first | apply Kd.R_alloc | apply Kd.R_drewN | apply Kd.R_drew)); exact Kd.R_mono HO230.out (fun _ hk => ⟨hk.1.2, hk.2⟩)), (by (with_reducible repeat (first | apply Kd.R_alloc | apply Kd.R_drewN | apply Kd.R_drew)); exact Kd.R_mono HO234.out (fun _ hk => ⟨hk.1.2, hk.2⟩)), (pR HO237), (pB BK219), (pB BK220), (pB BK239), GW239.out, GE239.out, NB219_239.out, NB239_219.out, NB220_239.out, NB239_220.out, (pH HB)⟩)
                      ·skip
                       refine box_step ?hg (N := 6) ?hd (cs := #[.int .i64 0, .slice none 0 0]) (t := 26) ?hr ?_; (case hd => rfl); (case hg => rfl); (case hr => first | (go_simp; done) | (go_simp; rfl))
                       intro gb239 hg w72 hbox hb
                       replace HO226 := sR HO226 hb
                       have BK239 := Aside0.mk (hbox)
                       have GW239 := gH HB hg
                       have GE239 := gH HB hg
                       replace HB := sH HB hb
                       have NB219_239 := nB BK219 hg
                       have NB239_219 := oB BK219 hg
                       replace BK219 := sB BK219 hb
                       have NB220_239 := nB BK220 hg
                       have NB239_220 := oB BK220 hg
                       replace BK220 := sB BK220 hb
                       clear hb hbox hg
                       refine hK.out _ _ ⟨cB BK219 0, cB BK219 1, cB BK220 0, cB BK220 1⟩ (fun hHeld => ?_)
                       clear hK K
                       refine nm_ ?_
                       refine on_ 3 (some 34) 527 HT_ (fun K hK => ?_)
                       refine ca_ Try.func17 #[.agg #[.int .i64 a1_0, .slice A1_1 l1_1.length c1_1]] ?_
                       with_reducible refine (laws_toComplex.calls k a1_0 _ _ l1_1 t227 t228 _ ?side1 ?side2 A20.out).mono ?_
                       (case side1 => exact pC ((Kd.C_below HR1_1.out HB.out)))
                       (case side2 => exact HC1_1.out)
                       rintro e w73 ⟨v229, rfl, ho0, hb⟩
                       refine ⟨_, rfl, ?_⟩
                       have HO230 := Aside0.mk (Kd.R_lower (Kd.R_new' ho0 (Kd.R_lt (pR HO226))) (below_size (pH HB)))
                       replace HO226 := Aside0.mk (Kd.R_elder' (pR HO226) (Kd.R_base ho0) hb)
                       replace BK219 := sB BK219 hb
                       replace BK220 := sB BK220 hb
                       replace BK239 := sB BK239 hb
                       replace HB := sH HB hb
                       (try clear hb)
                       (try clear hb2)
                       (try clear hk)
                       (try clear hi)
                       (try clear ho0)
                       obtain ⟨Ao74, co74, eo74⟩ := Kd.R_slice HO226.out
                       (first | subst eo74 | (injection eo74 with f1_ f2_ f3_; have f4_ := f1_.symm; have f5_ := f3_.symm; clear f1_ f2_ f3_; subst f4_; subst f5_))
                       obtain ⟨Ao75, co75, eo75⟩ := Kd.R_slice HO230.out
                       (first | subst eo75 | (injection eo75 with f1_ f2_ f3_; have f4_ := f1_.symm; have f5_ := f3_.symm; clear f1_ f2_ f3_; subst f4_; subst f5_))
                       refine hK.out _ _ ⟨cB BK219 0, cB BK219 1, cB BK220 0, cB BK220 1⟩ (fun hHeld => ?_)
                       clear hK K
                       refine nm_ ?_
                       refine on_ 4 (some 35) 543 HT_ (fun K hK => ?_)
                       refine ca_ Try.func25 #[.agg #[.int .i64 t223, .slice Ao74 t224.length co74], .agg #[.int .i64 t227, .slice Ao75 t228.length co75]] ?_
                       with_reducible refine (spec_CollapseKeeping.calls k t223 _ _ t224 t227 _ _ t228 t231 t232 t235 t238 _ ?side1 ?side2 ?side3 ?side4 A21.out).mono ?_
                       (case side1 => exact pC ((Kd.R_reads' HO226.out).2.2))
                       (case side2 => exact (Kd.R_reads' HO226.out).2.1)
                       (case side3 => exact pC ((Kd.R_reads' HO230.out).2.2))
                       (case side4 => exact (Kd.R_reads' HO230.out).2.1)
                       rintro e w76 ⟨v233, v236, rfl, ho0, ho1, hb⟩
                       refine ⟨_, rfl, ?_⟩
                       have HO234 := Aside0.mk (Kd.R_lower (Kd.R_new' (Kd.R_new' ho0 (Kd.R_lt (pR HO226))) (Kd.R_lt (pR HO230))) (below_size (pH HB)))
                       replace HO226 := Aside0.mk (Kd.R_elder' (pR HO226) (Kd.R_base ho0) hb)
                       replace HO230 := Aside0.mk (Kd.R_elder' (pR HO230) (Kd.R_base ho0) hb)
                       have HO237 := Aside0.mk (Kd.R_lower ho1 (below_size (pH HB)))
                       replace BK219 := sB BK219 hb
                       replace BK220 := sB BK220 hb
                       replace BK239 := sB BK239 hb
                       replace HB := sH HB hb
                       (try clear hb)
                       (try clear hb2)
                       (try clear hk)
                       (try clear hi)
                       (try clear ho0)
                       (try clear ho1)
                       refine hK.out _ _ ⟨cB BK219 0, cB BK219 1, cB BK220 0, cB BK220 1⟩ (fun hHeld => ?_)
                       clear hK K
                       refine nm_ ?_
                       refine pu_ 5 30 575 HT_ ?_
                       refine pu_ 6 36 639 HT_ ?_
                       refine pu_ 7 37 767 HT_ ?_
                       refine pu_ 8 38 1023 HT_ ?_
                       exact norm_ (by simp only [putAll, Act.put, List.setIfInBounds_toArray, List.set_cons_zero, List.set_cons_succ]) (hCont (.slice Ao74 t224.length co74, .slice Ao75 t228.length co75, v233, v236, gb239) _ ⟨hHeld, (by (with_reducible repeat (first | apply Kd.R_alloc | apply Kd.R_drewN | apply Kd.R_drew)); exact Kd.R_mono HO226.out (fun _ hk => ⟨hk.1.2, hk.2⟩)), (by (with_reducible repeat (first | apply Kd.R_alloc | apply Kd.R_drewN | apply Kd.R_drew)); exact Kd.R_mono HO230.out (fun _ hk => ⟨hk.1.2, hk.2⟩)), (by (with_reducible repeat (first | apply Kd.R_alloc | apply Kd.R_drewN | apply Kd.R_drew)); exact Kd.R_mono HO234.out (fun _ hk => ⟨hk.1.2, hk.2⟩)), (pR HO237), (pB BK219), (pB BK220), (pB BK239), GW239.out, GE239.out, NB219_239.out, NB239_219.out, NB220_239.out, NB239_220.out, (pH HB)⟩)
                     ·skip
                      refine box_step ?hg (N := 6) ?hd (cs := #[.int .i64 0, .slice none 0 0]) (t := 26) ?hr ?_; (case hd => rfl); (case hg => rfl); (case hr => first | (go_simp; done) | (go_simp; rfl))
                      intro gb239 hg w71 hbox hb
                      have BK239 := Aside0.mk (hbox)
                      have GW239 := gH HB hg
                      have GE239 := gH HB hg
                      replace HB := sH HB hb
                      have NB219_239 := nB BK219 hg
                      have NB239_219 := oB BK219 hg
                      replace BK219 := sB BK219 hb
                      have NB220_239 := nB BK220 hg
                      have NB239_220 := oB BK220 hg
                      replace BK220 := sB BK220 hb
                      clear hb hbox hg
                      refine hK.out _ _ ⟨cB BK219 0, cB BK219 1, cB BK220 0, cB BK220 1⟩ (fun hHeld => ?_)
                      clear hK K
                      refine nm_ ?_
                      refine on_ 1 (some 32) 519 HT_ (fun K hK => ?_)
                      refine ca_ Try.func17 #[.agg #[.int .i64 a0_0, .slice A0_1 l0_1.length c0_1]] ?_
                      with_reducible refine (laws_toComplex.calls k a0_0 _ _ l0_1 t223 t224 _ ?side1 ?side2 A19.out).mono ?_
                      (case side1 => exact pC ((Kd.C_below HR0_1.out HB.out)))
                      (case side2 => exact HC0_1.out)
                      rintro e w72 ⟨v225, rfl, ho0, hb⟩
                      refine ⟨_, rfl, ?_⟩
                      have HO226 := Aside0.mk (Kd.R_lower ho0 (below_size (pH HB)))
                      replace BK219 := sB BK219 hb
                      replace BK220 := sB BK220 hb
                      replace BK239 := sB BK239 hb
                      replace HB := sH HB hb
                      (try clear hb)
                      (try clear hb2)
                      (try clear hk)
                      (try clear hi)
                      (try clear ho0)
                      refine hK.out _ _ ⟨cB BK219 0, cB BK219 1, cB BK220 0, cB BK220 1⟩ (fun hHeld => ?_)
                      clear hK K
                      refine nm_ ?_
                      refine on_ 3 (some 34) 527 HT_ (fun K hK => ?_)
                      refine ca_ Try.func17 #[.agg #[.int .i64 a1_0, .slice A1_1 l1_1.length c1_1]] ?_
                      with_reducible refine (laws_toComplex.calls k a1_0 _ _ l1_1 t227 t228 _ ?side1 ?side2 A20.out).mono ?_
                      (case side1 => exact pC ((Kd.C_below HR1_1.out HB.out)))
                      (case side2 => exact HC1_1.out)
                      rintro e w73 ⟨v229, rfl, ho0, hb⟩
                      refine ⟨_, rfl, ?_⟩
                      have HO230 := Aside0.mk (Kd.R_lower (Kd.R_new' ho0 (Kd.R_lt (pR HO226))) (below_size (pH HB)))
                      replace HO226 := Aside0.mk (Kd.R_elder' (pR HO226) (Kd.R_base ho0) hb)
                      replace BK219 := sB BK219 hb
                      replace BK220 := sB BK220 hb
                      replace BK239 := sB BK239 hb
                      replace HB := sH HB hb
                      (try clear hb)
                      (try clear hb2)
                      (try clear hk)
                      (try clear hi)
                      (try clear ho0)
                      obtain ⟨Ao74, co74, eo74⟩ := Kd.R_slice HO226.out
                      (first | subst eo74 | (injection eo74 with f1_ f2_ f3_; have f4_ := f1_.symm; have f5_ := f3_.symm; clear f1_ f2_ f3_; subst f4_; subst f5_))
                      obtain ⟨Ao75, co75, eo75⟩ := Kd.R_slice HO230.out
                      (first | subst eo75 | (injection eo75 with f1_ f2_ f3_; have f4_ := f1_.symm; have f5_ := f3_.symm; clear f1_ f2_ f3_; subst f4_; subst f5_))
                      refine hK.out _ _ ⟨cB BK219 0, cB BK219 1, cB BK220 0, cB BK220 1⟩ (fun hHeld => ?_)
                      clear hK K
                      refine nm_ ?_
                      refine on_ 4 (some 35) 543 HT_ (fun K hK => ?_)
                      refine ca_ Try.func25 #[.agg #[.int .i64 t223, .slice Ao74 t224.length co74], .agg #[.int .i64 t227, .slice Ao75 t228.length co75]] ?_
                      with_reducible refine (spec_CollapseKeeping.calls k t223 _ _ t224 t227 _ _ t228 t231 t232 t235 t238 _ ?side1 ?side2 ?side3 ?side4 A21.out).mono ?_
                      (case side1 => exact pC ((Kd.R_reads' HO226.out).2.2))
                      (case side2 => exact (Kd.R_reads' HO226.out).2.1)
                      (case side3 => exact pC ((Kd.R_reads' HO230.out).2.2))
                      (case side4 => exact (Kd.R_reads' HO230.out).2.1)
                      rintro e w76 ⟨v233, v236, rfl, ho0, ho1, hb⟩
                      refine ⟨_, rfl, ?_⟩
                      have HO234 := Aside0.mk (Kd.R_lower (Kd.R_new' (Kd.R_new' ho0 (Kd.R_lt (pR HO226))) (Kd.R_lt (pR HO230))) (below_size (pH HB)))
                      replace HO226 := Aside0.mk (Kd.R_elder' (pR HO226) (Kd.R_base ho0) hb)
                      replace HO230 := Aside0.mk (Kd.R_elder' (pR HO230) (Kd.R_base ho0) hb)
                      have HO237 := Aside0.mk (Kd.R_lower ho1 (below_size (pH HB)))
                      replace BK219 := sB BK219 hb
                      replace BK220 := sB BK220 hb
                      replace BK239 := sB BK239 hb
                      replace HB := sH HB hb
                      (try clear hb)
                      (try clear hb2)
                      (try clear hk)
                      (try clear hi)
                      (try clear ho0)
                      (try clear ho1)
                      refine hK.out _ _ ⟨cB BK219 0, cB BK219 1, cB BK220 0, cB BK220 1⟩ (fun hHeld => ?_)
                      clear hK K
                      refine nm_ ?_
                      refine pu_ 5 30 575 HT_ ?_
                      refine pu_ 6 36 639 HT_ ?_
                      refine pu_ 7 37 767 HT_ ?_
                      refine pu_ 8 38 1023 HT_ ?_
                      exact norm_ (by simp only [putAll, Act.put, List.setIfInBounds_toArray, List.set_cons_zero, List.set_cons_succ]) (hCont (.slice Ao74 t224.length co74, .slice Ao75 t228.length co75, v233, v236, gb239) _ ⟨hHeld, (by (with_reducible repeat (first | apply Kd.R_alloc | apply Kd.R_drewN | apply Kd.R_drew)); exact Kd.R_mono HO226.out (fun _ hk => ⟨hk.1.2, hk.2⟩)), (by (with_reducible repeat (first | apply Kd.R_alloc | apply Kd.R_drewN | apply Kd.R_drew)); exact Kd.R_mono HO230.out (fun _ hk => ⟨hk.1.2, hk.2⟩)), (by (with_reducible repeat (first | apply Kd.R_alloc | apply Kd.R_drewN | apply Kd.R_drew)); exact Kd.R_mono HO234.out (fun _ hk => ⟨hk.1.2, hk.2⟩)), (pR HO237), (pB BK219), (pB BK220), (pB BK239), GW239.out, GE239.out, NB219_239.out, NB239_219.out, NB220_239.out, NB239_220.out, (pH HB)⟩)
                    rintro ⟨v225, v229, v233, v236, gb239⟩ w77 ⟨hS_, h0_, h1_, h2_, h3_, h4_, h5_, h6_, h7_, h8_, h9_, h10_, h11_, h12_, h13_⟩
                    have n0_ : Aside0 (Kd.R (Kd.int .i64) 2 w77 w.heap.size (fun k_ => some k_ ≠ (v229 : Value).ownBlock ∧ some k_ ≠ (v233 : Value).ownBlock) v225 t224) := ⟨h0_⟩
                    have n1_ : Aside0 (Kd.R (Kd.int .i64) 2 w77 w.heap.size (fun k_ => some k_ ≠ (v225 : Value).ownBlock ∧ some k_ ≠ (v233 : Value).ownBlock) v229 t228) := ⟨h1_⟩
                    have n2_ : Aside0 (Kd.R (Kd.int .i64) 2 w77 w.heap.size (fun k_ => some k_ ≠ (v225 : Value).ownBlock ∧ some k_ ≠ (v229 : Value).ownBlock) v233 t232) := ⟨h2_⟩
                    have n3_ : Aside0 (Kd.R k76 76 w77 w.heap.size (fun _ => True) v236 t235) := ⟨h3_⟩
                    have n4_ : Aside0 (w77.heap[gb219]? = some (.cells #[.int .i64 a0_0, .slice A0_1 l0_1.length c0_1] 24 (0, 0))) := ⟨h4_⟩
                    have n5_ : Aside0 (w77.heap[gb220]? = some (.cells #[.int .i64 a1_0, .slice A1_1 l1_1.length c1_1] 24 (0, 0))) := ⟨h5_⟩
                    have n6_ : Aside0 (w77.heap[gb239]? = some (.cells #[.int .i64 0, .slice none 0 0] 26 (0, 0))) := ⟨h6_⟩
                    have n7_ : Aside0 (w.heap.size ≤ gb239) := ⟨h7_⟩
                    have n8_ : Aside0 (w.heap.size ≤ gb239) := ⟨h8_⟩
                    have n9_ : Aside0 (gb219 ≠ gb239) := ⟨h9_⟩
                    have n10_ : Aside0 (gb239 ≠ gb219) := ⟨h10_⟩
                    have n11_ : Aside0 (gb220 ≠ gb239) := ⟨h11_⟩
                    have n12_ : Aside0 (gb239 ≠ gb220) := ⟨h12_⟩
                    have n13_ : Aside0 (Below w.heap.size w w77) := ⟨h13_⟩
                    clear BK219
                    clear BK220
                    clear HB
                    clear h0_ h1_ h2_ h3_ h4_ h5_ h6_ h7_ h8_ h9_ h10_ h11_ h12_ h13_
                    have HO226 := n0_
                    have HO230 := n1_
                    have HO234 := n2_
                    have HO237 := n3_
                    have BK219 := n4_
                    have BK220 := n5_
                    have BK239 := n6_
                    have GW239 := n7_
                    have GE239 := n8_
                    have NB219_239 := n9_
                    have NB239_219 := n10_
                    have NB220_239 := n11_
                    have NB239_220 := n12_
                    have HB := n13_
                    clear n0_ n1_ n2_ n3_ n4_ n5_ n6_ n7_ n8_ n9_ n10_ n11_ n12_ n13_
                    have hHeld : w77.cell? ⟨gb219, 0, none⟩ = some (.int .i64 a0_0) ∧ w77.cell? ⟨gb219, 1, none⟩ = some (.slice A0_1 l0_1.length c0_1) ∧ w77.cell? ⟨gb220, 0, none⟩ = some (.int .i64 a1_0) ∧ w77.cell? ⟨gb220, 1, none⟩ = some (.slice A1_1 l1_1.length c1_1) := hS_
                    obtain ⟨Ao79, co79, eo79⟩ := Kd.R_slice HO234.out
                    (first | subst eo79 | (injection eo79 with f1_ f2_ f3_; have f4_ := f1_.symm; have f5_ := f3_.symm; clear f1_ f2_ f3_; subst f4_; subst f5_))
                    refine norm_ (a' := ?_) ?_ ?_
                    rotate_left
                    ·simp only [putAll, Act.put, List.setIfInBounds_toArray, List.set_cons_zero, List.set_cons_succ]
                     rfl
                    refine on_ 10 none 2047 HT_ (fun K hK => ?_)
                    have hs78 : w77.cell? ⟨gb239, 0, none⟩ = some (.int .i64 0) := cB BK239 0
                    have hfs78 := zB BK239 0
                    have hns78_0 := NB219_239.out
                    have hns78_1 := NB220_239.out
                    have hms78_0 := NB239_219.out
                    have hms78_1 := NB239_220.out
                    have hs80 : w77.cell? ⟨gb239, 1, none⟩ = some (.slice none 0 0) := cB BK239 1
                    have hfs80 := zB BK239 1
                    have hns80_0 := NB219_239.out
                    have hns80_1 := NB220_239.out
                    have hms80_0 := NB239_219.out
                    have hms80_1 := NB239_220.out
                    refine skip_ (w1 := ?_) (by rfl) rfl ?_ ?_
                    rotate_left
                    ·go_simp
                     rfl
                    refine hK.out _ _ ⟨((cell_far (p := ⟨gb239, _, none⟩) NB219_239.out _).trans (((cell_far (p := ⟨gb239, _, none⟩) NB219_239.out _).trans (hHeld.1)))), ((cell_far (p := ⟨gb239, _, none⟩) NB219_239.out _).trans (((cell_far (p := ⟨gb239, _, none⟩) NB219_239.out _).trans (hHeld.2.1)))), ((cell_far (p := ⟨gb239, _, none⟩) NB220_239.out _).trans (((cell_far (p := ⟨gb239, _, none⟩) NB220_239.out _).trans (hHeld.2.2.1)))), ((cell_far (p := ⟨gb239, _, none⟩) NB220_239.out _).trans (((cell_far (p := ⟨gb239, _, none⟩) NB220_239.out _).trans (hHeld.2.2.2))))⟩ (fun hHeld => ?_)
                    clear hK K
                    refine pu_ 11 7 4095 HT_ ?_
                    refine pu_ 12 8 8191 HT_ ?_
                    refine dn_ HT_ ?_
                    (try have hnb81 := NB219_239.out)
                    (try have hnc81 := NB239_219.out)
                    have hcz82_0 : w77.cell? ⟨gb219, 0, none⟩ = some (.int .i64 a0_0) := cB BK219 0
                    have hcz82_1 : w77.cell? ⟨gb219, 1, none⟩ = some (.slice A0_1 l0_1.length c0_1) := cB BK219 1
                    have hfz82_0 := zB BK219 0
                    have hfz82_1 := zB BK219 1
                    try go_wp2_with (first | ((with_reducible refine gate_callee (f := 17) rfl ?_); refine cl_ (some 40) Try.func17 #[.agg #[.int .i64 a0_0, .slice A0_1 l0_1.length c0_1]] ?_; (with_reducible refine (laws_toComplex.calls k a0_0 _ _ l0_1 t240 t241 _ ?side1 ?side2 A22.out).mono ?_); (case side1 => exact Kd.C_below HR0_1.out (pH HB)); (case side2 => exact HC0_1.out); rintro e w83 ⟨v242, rfl, ho0, hb⟩; refine ⟨_, rfl, ?_⟩; have n0_ := Aside0.mk (Kd.R_elder' (by (with_reducible repeat (first | apply Kd.R_alloc | apply Kd.R_drewN | apply Kd.R_drew)); exact (Kd.R_mono (Kd.R_far (p := ⟨gb239, 1, none⟩) (Kd.R_far (p := ⟨gb239, 0, none⟩) (Kd.R_types HO226.out BK239.out (by decide)) (fun _ hk => hk.2) (.int .i64 t231)) (fun _ hk => hk.2) (.slice Ao79 t232.length co79)) (fun _ h_ => h_.1))) (Kd.R_base ho0) hb); have n1_ := Aside0.mk (Kd.R_elder' (by (with_reducible repeat (first | apply Kd.R_alloc | apply Kd.R_drewN | apply Kd.R_drew)); exact (Kd.R_mono (Kd.R_far (p := ⟨gb239, 1, none⟩) (Kd.R_far (p := ⟨gb239, 0, none⟩) (Kd.R_types HO230.out BK239.out (by decide)) (fun _ hk => hk.2) (.int .i64 t231)) (fun _ hk => hk.2) (.slice Ao79 t232.length co79)) (fun _ h_ => h_.1))) (Kd.R_base ho0) hb); have n2_ := Aside0.mk (Kd.R_elder' (by (with_reducible repeat (first | apply Kd.R_alloc | apply Kd.R_drewN | apply Kd.R_drew)); exact (Kd.R_mono (Kd.R_far (p := ⟨gb239, 1, none⟩) (Kd.R_far (p := ⟨gb239, 0, none⟩) (Kd.R_types HO234.out BK239.out (by decide)) (fun _ hk => hk.2) (.int .i64 t231)) (fun _ hk => hk.2) (.slice Ao79 t232.length co79)) (fun _ h_ => h_.1))) (Kd.R_base ho0) hb); have n3_ := Aside0.mk (Kd.R_below (by (with_reducible repeat (first | apply Kd.R_alloc | apply Kd.R_drewN | apply Kd.R_drew)); exact (Kd.R_mono (Kd.R_far (p := ⟨gb239, 1, none⟩) (Kd.R_far (p := ⟨gb239, 0, none⟩) (Kd.R_types HO237.out BK239.out (by decide)) (fun _ hk => hk.2) (.int .i64 t231)) (fun _ hk => hk.2) (.slice Ao79 t232.length co79)) (fun _ h_ => h_.1))) hb); have n4_ := Aside0.mk (Kd.R_lower (Kd.R_new' (Kd.R_new' (Kd.R_new' ho0 (Kd.R_lt (by (with_reducible repeat (first | apply Kd.R_alloc | apply Kd.R_drewN | apply Kd.R_drew)); exact (Kd.R_mono (Kd.R_far (p := ⟨gb239, 1, none⟩) (Kd.R_far (p := ⟨gb239, 0, none⟩) (Kd.R_types HO226.out BK239.out (by decide)) (fun _ hk => hk.2) (.int .i64 t231)) (fun _ hk => hk.2) (.slice Ao79 t232.length co79)) (fun _ h_ => h_.1))))) (Kd.R_lt (by (with_reducible repeat (first | apply Kd.R_alloc | apply Kd.R_drewN | apply Kd.R_drew)); exact (Kd.R_mono (Kd.R_far (p := ⟨gb239, 1, none⟩) (Kd.R_far (p := ⟨gb239, 0, none⟩) (Kd.R_types HO230.out BK239.out (by decide)) (fun _ hk => hk.2) (.int .i64 t231)) (fun _ hk => hk.2) (.slice Ao79 t232.length co79)) (fun _ h_ => h_.1))))) (Kd.R_lt (by (with_reducible repeat (first | apply Kd.R_alloc | apply Kd.R_drewN | apply Kd.R_drew)); exact (Kd.R_mono (Kd.R_far (p := ⟨gb239, 1, none⟩) (Kd.R_far (p := ⟨gb239, 0, none⟩) (Kd.R_types HO234.out BK239.out (by decide)) (fun _ hk => hk.2) (.int .i64 t231)) (fun _ hk => hk.2) (.slice Ao79 t232.length co79)) (fun _ h_ => h_.1))))) (below_size (pH HB))); have n5_ := Aside0.mk (blk_below (g := gb219) (o := .cells #[.int .i64 a0_0, .slice A0_1 l0_1.length c0_1] 24 (0, 0)) (by (with_reducible repeat (first | refine blk_drewN ?_ _ | refine blk_drew ?_ | refine blk_alloc ?_ _)); refine blk_far ?_ NB219_239.out _; (with_reducible repeat (first | refine blk_drewN ?_ _ | refine blk_drew ?_ | refine blk_alloc ?_ _)); refine blk_far ?_ NB219_239.out _; (with_reducible repeat (first | refine blk_drewN ?_ _ | refine blk_drew ?_ | refine blk_alloc ?_ _)); exact BK219.out) hb); have n6_ := Aside0.mk (blk_below (g := gb220) (o := .cells #[.int .i64 a1_0, .slice A1_1 l1_1.length c1_1] 24 (0, 0)) (by (with_reducible repeat (first | refine blk_drewN ?_ _ | refine blk_drew ?_ | refine blk_alloc ?_ _)); refine blk_far ?_ NB220_239.out _; (with_reducible repeat (first | refine blk_drewN ?_ _ | refine blk_drew ?_ | refine blk_alloc ?_ _)); refine blk_far ?_ NB220_239.out _; (with_reducible repeat (first | refine blk_drewN ?_ _ | refine blk_drew ?_ | refine blk_alloc ?_ _)); exact BK220.out) hb); have n7_ := Aside0.mk (blk_below (g := gb239) (o := .cells #[.int .i64 t231, .slice Ao79 t232.length co79] 26 (0, 0)) (by (with_reducible repeat (first | refine blk_drewN ?_ _ | refine blk_drew ?_ | refine blk_alloc ?_ _)); refine blk_put (cs := #[.int .i64 t231, .slice none 0 0]) ?_ 1 _ rfl; (with_reducible repeat (first | refine blk_drewN ?_ _ | refine blk_drew ?_ | refine blk_alloc ?_ _)); refine blk_put (cs := #[.int .i64 0, .slice none 0 0]) ?_ 0 _ rfl; (with_reducible repeat (first | refine blk_drewN ?_ _ | refine blk_drew ?_ | refine blk_alloc ?_ _)); exact BK239.out) hb); have n8_ := sH HB hb; clear HO226; clear HO230; clear HO234; clear HO237; clear BK219; clear BK220; clear BK239; clear HB; have HO226 := n0_; have HO230 := n1_; have HO234 := n2_; have HO237 := n3_; have HO243 := n4_; have BK219 := n5_; have BK220 := n6_; have BK239 := n7_; have HB := n8_; clear n0_ n1_ n2_ n3_ n4_ n5_ n6_ n7_ n8_; (try clear hb); (try clear hi); (try clear ho0)) | ((with_reducible refine gate_dst (N := 9) rfl ?_); refine box_event ?hg (N := 9) ?hd (cs := #[.int .i64 0, .slice none 0 0]) (t := 26) ?hr ?_; (case hd => rfl); (case hg => rfl); (case hr => first | (go_simp; done) | (go_simp; rfl)); intro gb244 hg w84 hbox hb; replace HO226 := sR HO226 hb; replace HO230 := sR HO230 hb; replace HO234 := sR HO234 hb; replace HO237 := sR HO237 hb; replace HO243 := sR HO243 hb; have BK244 := Aside0.mk (hbox); have GW244 := gH HB hg; have GE244 := gH HB hg; replace HB := sH HB hb; have NB219_244 := nB BK219 hg; have NB244_219 := oB BK219 hg; replace BK219 := sB BK219 hb; have NB220_244 := nB BK220 hg; have NB244_220 := oB BK220 hg; replace BK220 := sB BK220 hb; have NB239_244 := nB BK239 hg; have NB244_239 := oB BK239 hg; replace BK239 := sB BK239 hb; clear hb hbox hg; (try have hnb85 := NB244_219.out); (try have hnc85 := NB219_244.out); (try have hnb86 := NB244_220.out); (try have hnc86 := NB220_244.out); (try have hnb87 := NB244_239.out); (try have hnc87 := NB239_244.out); have hcz88_0 : w84.cell? ⟨gb244, 0, none⟩ = some (.int .i64 0) := cB BK244 0; have hcz88_1 : w84.cell? ⟨gb244, 1, none⟩ = some (.slice none 0 0) := cB BK244 1; have hfz88_0 := zB BK244 0; have hfz88_1 := zB BK244 1; obtain ⟨Ao89, co89, eo89⟩ := Kd.R_slice HO243.out; subst eo89; (try have hnb90 := NB220_239.out); (try have hnc90 := NB239_220.out); have hcz91_0 : w84.cell? ⟨gb220, 0, none⟩ = some (.int .i64 a1_0) := cB BK220 0; have hcz91_1 : w84.cell? ⟨gb220, 1, none⟩ = some (.slice A1_1 l1_1.length c1_1) := cB BK220 1; have hfz91_0 := zB BK220 0; have hfz91_1 := zB BK220 1) | ((with_reducible refine gate_callee (f := 17) rfl ?_); refine cl_ (some 42) Try.func17 #[.agg #[.int .i64 a1_0, .slice A1_1 l1_1.length c1_1]] ?_; (with_reducible refine (laws_toComplex.calls k a1_0 _ _ l1_1 t245 t246 _ ?side1 ?side2 A23.out).mono ?_); (case side1 => exact Kd.C_below HR1_1.out (pH HB)); (case side2 => exact HC1_1.out); rintro e w92 ⟨v247, rfl, ho0, hb⟩; refine ⟨_, rfl, ?_⟩; have n0_ := Aside0.mk (Kd.R_elder' (by (with_reducible repeat (first | apply Kd.R_alloc | apply Kd.R_drewN | apply Kd.R_drew)); exact (Kd.R_mono (Kd.R_far (p := ⟨gb244, 1, none⟩) (Kd.R_far (p := ⟨gb244, 0, none⟩) (Kd.R_types HO226.out BK244.out (by decide)) (fun _ hk => hk.2) (.int .i64 t240)) (fun _ hk => hk.2) (.slice Ao89 t241.length co89)) (fun _ h_ => h_.1))) (Kd.R_base ho0) hb); have n1_ := Aside0.mk (Kd.R_elder' (by (with_reducible repeat (first | apply Kd.R_alloc | apply Kd.R_drewN | apply Kd.R_drew)); exact (Kd.R_mono (Kd.R_far (p := ⟨gb244, 1, none⟩) (Kd.R_far (p := ⟨gb244, 0, none⟩) (Kd.R_types HO230.out BK244.out (by decide)) (fun _ hk => hk.2) (.int .i64 t240)) (fun _ hk => hk.2) (.slice Ao89 t241.length co89)) (fun _ h_ => h_.1))) (Kd.R_base ho0) hb); have n2_ := Aside0.mk (Kd.R_elder' (by (with_reducible repeat (first | apply Kd.R_alloc | apply Kd.R_drewN | apply Kd.R_drew)); exact (Kd.R_mono (Kd.R_far (p := ⟨gb244, 1, none⟩) (Kd.R_far (p := ⟨gb244, 0, none⟩) (Kd.R_types HO234.out BK244.out (by decide)) (fun _ hk => hk.2) (.int .i64 t240)) (fun _ hk => hk.2) (.slice Ao89 t241.length co89)) (fun _ h_ => h_.1))) (Kd.R_base ho0) hb); have n3_ := Aside0.mk (Kd.R_below (by (with_reducible repeat (first | apply Kd.R_alloc | apply Kd.R_drewN | apply Kd.R_drew)); exact (Kd.R_mono (Kd.R_far (p := ⟨gb244, 1, none⟩) (Kd.R_far (p := ⟨gb244, 0, none⟩) (Kd.R_types HO237.out BK244.out (by decide)) (fun _ hk => hk.2) (.int .i64 t240)) (fun _ hk => hk.2) (.slice Ao89 t241.length co89)) (fun _ h_ => h_.1))) hb); have n4_ := Aside0.mk (Kd.R_elder' (by (with_reducible repeat (first | apply Kd.R_alloc | apply Kd.R_drewN | apply Kd.R_drew)); exact (Kd.R_mono (Kd.R_far (p := ⟨gb244, 1, none⟩) (Kd.R_far (p := ⟨gb244, 0, none⟩) (Kd.R_types HO243.out BK244.out (by decide)) (fun _ hk => hk.2) (.int .i64 t240)) (fun _ hk => hk.2) (.slice Ao89 t241.length co89)) (fun _ h_ => h_.1))) (Kd.R_base ho0) hb); have n5_ := Aside0.mk (Kd.R_lower (Kd.R_new' (Kd.R_new' (Kd.R_new' (Kd.R_new' ho0 (Kd.R_lt (by (with_reducible repeat (first | apply Kd.R_alloc | apply Kd.R_drewN | apply Kd.R_drew)); exact (Kd.R_mono (Kd.R_far (p := ⟨gb244, 1, none⟩) (Kd.R_far (p := ⟨gb244, 0, none⟩) (Kd.R_types HO226.out BK244.out (by decide)) (fun _ hk => hk.2) (.int .i64 t240)) (fun _ hk => hk.2) (.slice Ao89 t241.length co89)) (fun _ h_ => h_.1))))) (Kd.R_lt (by (with_reducible repeat (first | apply Kd.R_alloc | apply Kd.R_drewN | apply Kd.R_drew)); exact (Kd.R_mono (Kd.R_far (p := ⟨gb244, 1, none⟩) (Kd.R_far (p := ⟨gb244, 0, none⟩) (Kd.R_types HO230.out BK244.out (by decide)) (fun _ hk => hk.2) (.int .i64 t240)) (fun _ hk => hk.2) (.slice Ao89 t241.length co89)) (fun _ h_ => h_.1))))) (Kd.R_lt (by (with_reducible repeat (first | apply Kd.R_alloc | apply Kd.R_drewN | apply Kd.R_drew)); exact (Kd.R_mono (Kd.R_far (p := ⟨gb244, 1, none⟩) (Kd.R_far (p := ⟨gb244, 0, none⟩) (Kd.R_types HO234.out BK244.out (by decide)) (fun _ hk => hk.2) (.int .i64 t240)) (fun _ hk => hk.2) (.slice Ao89 t241.length co89)) (fun _ h_ => h_.1))))) (Kd.R_lt (by (with_reducible repeat (first | apply Kd.R_alloc | apply Kd.R_drewN | apply Kd.R_drew)); exact (Kd.R_mono (Kd.R_far (p := ⟨gb244, 1, none⟩) (Kd.R_far (p := ⟨gb244, 0, none⟩) (Kd.R_types HO243.out BK244.out (by decide)) (fun _ hk => hk.2) (.int .i64 t240)) (fun _ hk => hk.2) (.slice Ao89 t241.length co89)) (fun _ h_ => h_.1))))) (below_size (pH HB))); have n6_ := Aside0.mk (blk_below (g := gb219) (o := .cells #[.int .i64 a0_0, .slice A0_1 l0_1.length c0_1] 24 (0, 0)) (by (with_reducible repeat (first | refine blk_drewN ?_ _ | refine blk_drew ?_ | refine blk_alloc ?_ _)); refine blk_far ?_ NB219_244.out _; (with_reducible repeat (first | refine blk_drewN ?_ _ | refine blk_drew ?_ | refine blk_alloc ?_ _)); refine blk_far ?_ NB219_244.out _; (with_reducible repeat (first | refine blk_drewN ?_ _ | refine blk_drew ?_ | refine blk_alloc ?_ _)); exact BK219.out) hb); have n7_ := Aside0.mk (blk_below (g := gb220) (o := .cells #[.int .i64 a1_0, .slice A1_1 l1_1.length c1_1] 24 (0, 0)) (by (with_reducible repeat (first | refine blk_drewN ?_ _ | refine blk_drew ?_ | refine blk_alloc ?_ _)); refine blk_far ?_ NB220_244.out _; (with_reducible repeat (first | refine blk_drewN ?_ _ | refine blk_drew ?_ | refine blk_alloc ?_ _)); refine blk_far ?_ NB220_244.out _; (with_reducible repeat (first | refine blk_drewN ?_ _ | refine blk_drew ?_ | refine blk_alloc ?_ _)); exact BK220.out) hb); have n8_ := Aside0.mk (blk_below (g := gb239) (o := .cells #[.int .i64 t231, .slice Ao79 t232.length co79] 26 (0, 0)) (by (with_reducible repeat (first | refine blk_drewN ?_ _ | refine blk_drew ?_ | refine blk_alloc ?_ _)); refine blk_far ?_ NB239_244.out _; (with_reducible repeat (first | refine blk_drewN ?_ _ | refine blk_drew ?_ | refine blk_alloc ?_ _)); refine blk_far ?_ NB239_244.out _; (with_reducible repeat (first | refine blk_drewN ?_ _ | refine blk_drew ?_ | refine blk_alloc ?_ _)); exact BK239.out) hb); have n9_ := Aside0.mk (blk_below (g := gb244) (o := .cells #[.int .i64 t240, .slice Ao89 t241.length co89] 26 (0, 0)) (by (with_reducible repeat (first | refine blk_drewN ?_ _ | refine blk_drew ?_ | refine blk_alloc ?_ _)); refine blk_put (cs := #[.int .i64 t240, .slice none 0 0]) ?_ 1 _ rfl; (with_reducible repeat (first | refine blk_drewN ?_ _ | refine blk_drew ?_ | refine blk_alloc ?_ _)); refine blk_put (cs := #[.int .i64 0, .slice none 0 0]) ?_ 0 _ rfl; (with_reducible repeat (first | refine blk_drewN ?_ _ | refine blk_drew ?_ | refine blk_alloc ?_ _)); exact BK244.out) hb); have n10_ := sH HB hb; clear HO226; clear HO230; clear HO234; clear HO237; clear HO243; clear BK219; clear BK220; clear BK239; clear BK244; clear HB; have HO226 := n0_; have HO230 := n1_; have HO234 := n2_; have HO237 := n3_; have HO243 := n4_; have HO248 := n5_; have BK219 := n6_; have BK220 := n7_; have BK239 := n8_; have BK244 := n9_; have HB := n10_; clear n0_ n1_ n2_ n3_ n4_ n5_ n6_ n7_ n8_ n9_ n10_; (try clear hb); (try clear hi); (try clear ho0)) | ((with_reducible refine gate_dst (N := 10) rfl ?_); refine box_event ?hg (N := 10) ?hd (cs := #[.int .i64 0, .slice none 0 0]) (t := 26) ?hr ?_; (case hd => rfl); (case hg => rfl); (case hr => first | (go_simp; done) | (go_simp; rfl)); intro gb249 hg w93 hbox hb; replace HO226 := sR HO226 hb; replace HO230 := sR HO230 hb; replace HO234 := sR HO234 hb; replace HO237 := sR HO237 hb; replace HO243 := sR HO243 hb; replace HO248 := sR HO248 hb; have BK249 := Aside0.mk (hbox); have GW249 := gH HB hg; have GE249 := gH HB hg; replace HB := sH HB hb; have NB219_249 := nB BK219 hg; have NB249_219 := oB BK219 hg; replace BK219 := sB BK219 hb; have NB220_249 := nB BK220 hg; have NB249_220 := oB BK220 hg; replace BK220 := sB BK220 hb; have NB239_249 := nB BK239 hg; have NB249_239 := oB BK239 hg; replace BK239 := sB BK239 hb; have NB244_249 := nB BK244 hg; have NB249_244 := oB BK244 hg; replace BK244 := sB BK244 hb; clear hb hbox hg; (try have hnb94 := NB249_219.out); (try have hnc94 := NB219_249.out); (try have hnb95 := NB249_220.out); (try have hnc95 := NB220_249.out); (try have hnb96 := NB249_239.out); (try have hnc96 := NB239_249.out); (try have hnb97 := NB249_244.out); (try have hnc97 := NB244_249.out); have hcz98_0 : w93.cell? ⟨gb249, 0, none⟩ = some (.int .i64 0) := cB BK249 0; have hcz98_1 : w93.cell? ⟨gb249, 1, none⟩ = some (.slice none 0 0) := cB BK249 1; have hfz98_0 := zB BK249 0; have hfz98_1 := zB BK249 1; obtain ⟨Ao99, co99, eo99⟩ := Kd.R_slice HO248.out; subst eo99; have hcz100_0 : w93.cell? ⟨gb244, 0, none⟩ = some (.int .i64 t240) := cB BK244 0; have hcz100_1 : w93.cell? ⟨gb244, 1, none⟩ = some (.slice Ao89 t241.length co89) := cB BK244 1; have hfz100_0 := zB BK244 0; have hfz100_1 := zB BK244 1) | ((with_reducible refine gate_callee (f := 26) rfl ?_); refine cl_ (some 46) Try.func26 #[.agg #[.int .i64 t240, .slice Ao89 t241.length co89], .agg #[.int .i64 t245, .slice Ao99 t246.length co99]] ?_; (with_reducible refine (impl_CollapseKeeping.calls t240 _ _ t241 t245 _ _ t246 t250 t251 t254 t257 _ ?side1 ?side2 ?side3 ?side4 A24.out).mono ?_); (case side1 => refine (Kd.R_reads' (e := 2) (base := w.heap.size) (ok := fun k_ => ((((True ∧ some k_ ≠ (v225 : Value).ownBlock) ∧ some k_ ≠ (v229 : Value).ownBlock) ∧ some k_ ≠ (.slice Ao79 t232.length co79 : Value).ownBlock) ∧ some k_ ≠ (.slice Ao99 t246.length co99 : Value).ownBlock)) (n := t241.length) (c := co89) ?_).2.2; exact (by (with_reducible repeat (first | apply Kd.R_alloc | apply Kd.R_drewN | apply Kd.R_drew)); exact (Kd.R_mono (Kd.R_far (p := ⟨gb249, 1, none⟩) (Kd.R_far (p := ⟨gb249, 0, none⟩) (Kd.R_types HO243.out BK249.out (by decide)) (fun _ hk => hk.2) (.int .i64 t245)) (fun _ hk => hk.2) (.slice Ao99 t246.length co99)) (fun _ h_ => h_.1)))); (case side2 => exact (Kd.R_reads' HO243.out).2.1); (case side3 => refine (Kd.R_reads' (e := 2) (base := w.heap.size) (ok := fun k_ => ((((True ∧ some k_ ≠ (v225 : Value).ownBlock) ∧ some k_ ≠ (v229 : Value).ownBlock) ∧ some k_ ≠ (.slice Ao79 t232.length co79 : Value).ownBlock) ∧ some k_ ≠ (.slice Ao89 t241.length co89 : Value).ownBlock)) (n := t246.length) (c := co99) ?_).2.2; exact (by (with_reducible repeat (first | apply Kd.R_alloc | apply Kd.R_drewN | apply Kd.R_drew)); exact (Kd.R_mono (Kd.R_far (p := ⟨gb249, 1, none⟩) (Kd.R_far (p := ⟨gb249, 0, none⟩) (Kd.R_types HO248.out BK249.out (by decide)) (fun _ hk => hk.2) (.int .i64 t245)) (fun _ hk => hk.2) (.slice Ao99 t246.length co99)) (fun _ h_ => h_.1)))); (case side4 => exact (Kd.R_reads' HO248.out).2.1); rintro e w101 ⟨v252, v255, rfl, ho0, ho1, hb⟩; refine ⟨_, rfl, ?_⟩; have n0_ := Aside0.mk (Kd.R_elder' (by (with_reducible repeat (first | apply Kd.R_alloc | apply Kd.R_drewN | apply Kd.R_drew)); exact (Kd.R_mono (Kd.R_far (p := ⟨gb249, 1, none⟩) (Kd.R_far (p := ⟨gb249, 0, none⟩) (Kd.R_types HO226.out BK249.out (by decide)) (fun _ hk => hk.2) (.int .i64 t245)) (fun _ hk => hk.2) (.slice Ao99 t246.length co99)) (fun _ h_ => h_.1))) (Kd.R_base ho0) hb); have n1_ := Aside0.mk (Kd.R_elder' (by (with_reducible repeat (first | apply Kd.R_alloc | apply Kd.R_drewN | apply Kd.R_drew)); exact (Kd.R_mono (Kd.R_far (p := ⟨gb249, 1, none⟩) (Kd.R_far (p := ⟨gb249, 0, none⟩) (Kd.R_types HO230.out BK249.out (by decide)) (fun _ hk => hk.2) (.int .i64 t245)) (fun _ hk => hk.2) (.slice Ao99 t246.length co99)) (fun _ h_ => h_.1))) (Kd.R_base ho0) hb); have n2_ := Aside0.mk (Kd.R_elder' (by (with_reducible repeat (first | apply Kd.R_alloc | apply Kd.R_drewN | apply Kd.R_drew)); exact (Kd.R_mono (Kd.R_far (p := ⟨gb249, 1, none⟩) (Kd.R_far (p := ⟨gb249, 0, none⟩) (Kd.R_types HO234.out BK249.out (by decide)) (fun _ hk => hk.2) (.int .i64 t245)) (fun _ hk => hk.2) (.slice Ao99 t246.length co99)) (fun _ h_ => h_.1))) (Kd.R_base ho0) hb); have n3_ := Aside0.mk (Kd.R_elder' (by (with_reducible repeat (first | apply Kd.R_alloc | apply Kd.R_drewN | apply Kd.R_drew)); exact (Kd.R_mono (Kd.R_far (p := ⟨gb249, 1, none⟩) (Kd.R_far (p := ⟨gb249, 0, none⟩) (Kd.R_types HO237.out BK249.out (by decide)) (fun _ hk => hk.2) (.int .i64 t245)) (fun _ hk => hk.2) (.slice Ao99 t246.length co99)) (fun _ h_ => h_.1))) (Kd.R_base ho1) hb); have n4_ := Aside0.mk (Kd.R_elder' (by (with_reducible repeat (first | apply Kd.R_alloc | apply Kd.R_drewN | apply Kd.R_drew)); exact (Kd.R_mono (Kd.R_far (p := ⟨gb249, 1, none⟩) (Kd.R_far (p := ⟨gb249, 0, none⟩) (Kd.R_types HO243.out BK249.out (by decide)) (fun _ hk => hk.2) (.int .i64 t245)) (fun _ hk => hk.2) (.slice Ao99 t246.length co99)) (fun _ h_ => h_.1))) (Kd.R_base ho0) hb); have n5_ := Aside0.mk (Kd.R_elder' (by (with_reducible repeat (first | apply Kd.R_alloc | apply Kd.R_drewN | apply Kd.R_drew)); exact (Kd.R_mono (Kd.R_far (p := ⟨gb249, 1, none⟩) (Kd.R_far (p := ⟨gb249, 0, none⟩) (Kd.R_types HO248.out BK249.out (by decide)) (fun _ hk => hk.2) (.int .i64 t245)) (fun _ hk => hk.2) (.slice Ao99 t246.length co99)) (fun _ h_ => h_.1))) (Kd.R_base ho0) hb); have n6_ := Aside0.mk (Kd.R_lower (Kd.R_new' (Kd.R_new' (Kd.R_new' (Kd.R_new' (Kd.R_new' ho0 (Kd.R_lt (by (with_reducible repeat (first | apply Kd.R_alloc | apply Kd.R_drewN | apply Kd.R_drew)); exact (Kd.R_mono (Kd.R_far (p := ⟨gb249, 1, none⟩) (Kd.R_far (p := ⟨gb249, 0, none⟩) (Kd.R_types HO226.out BK249.out (by decide)) (fun _ hk => hk.2) (.int .i64 t245)) (fun _ hk => hk.2) (.slice Ao99 t246.length co99)) (fun _ h_ => h_.1))))) (Kd.R_lt (by (with_reducible repeat (first | apply Kd.R_alloc | apply Kd.R_drewN | apply Kd.R_drew)); exact (Kd.R_mono (Kd.R_far (p := ⟨gb249, 1, none⟩) (Kd.R_far (p := ⟨gb249, 0, none⟩) (Kd.R_types HO230.out BK249.out (by decide)) (fun _ hk => hk.2) (.int .i64 t245)) (fun _ hk => hk.2) (.slice Ao99 t246.length co99)) (fun _ h_ => h_.1))))) (Kd.R_lt (by (with_reducible repeat (first | apply Kd.R_alloc | apply Kd.R_drewN | apply Kd.R_drew)); exact (Kd.R_mono (Kd.R_far (p := ⟨gb249, 1, none⟩) (Kd.R_far (p := ⟨gb249, 0, none⟩) (Kd.R_types HO234.out BK249.out (by decide)) (fun _ hk => hk.2) (.int .i64 t245)) (fun _ hk => hk.2) (.slice Ao99 t246.length co99)) (fun _ h_ => h_.1))))) (Kd.R_lt (by (with_reducible repeat (first | apply Kd.R_alloc | apply Kd.R_drewN | apply Kd.R_drew)); exact (Kd.R_mono (Kd.R_far (p := ⟨gb249, 1, none⟩) (Kd.R_far (p := ⟨gb249, 0, none⟩) (Kd.R_types HO243.out BK249.out (by decide)) (fun _ hk => hk.2) (.int .i64 t245)) (fun _ hk => hk.2) (.slice Ao99 t246.length co99)) (fun _ h_ => h_.1))))) (Kd.R_lt (by (with_reducible repeat (first | apply Kd.R_alloc | apply Kd.R_drewN | apply Kd.R_drew)); exact (Kd.R_mono (Kd.R_far (p := ⟨gb249, 1, none⟩) (Kd.R_far (p := ⟨gb249, 0, none⟩) (Kd.R_types HO248.out BK249.out (by decide)) (fun _ hk => hk.2) (.int .i64 t245)) (fun _ hk => hk.2) (.slice Ao99 t246.length co99)) (fun _ h_ => h_.1))))) (below_size (pH HB))); have n7_ := Aside0.mk (Kd.R_lower (Kd.R_new' ho1 (Kd.R_lt (by (with_reducible repeat (first | apply Kd.R_alloc | apply Kd.R_drewN | apply Kd.R_drew)); exact (Kd.R_mono (Kd.R_far (p := ⟨gb249, 1, none⟩) (Kd.R_far (p := ⟨gb249, 0, none⟩) (Kd.R_types HO237.out BK249.out (by decide)) (fun _ hk => hk.2) (.int .i64 t245)) (fun _ hk => hk.2) (.slice Ao99 t246.length co99)) (fun _ h_ => h_.1))))) (below_size (pH HB))); have n8_ := Aside0.mk (blk_below (g := gb219) (o := .cells #[.int .i64 a0_0, .slice A0_1 l0_1.length c0_1] 24 (0, 0)) (by (with_reducible repeat (first | refine blk_drewN ?_ _ | refine blk_drew ?_ | refine blk_alloc ?_ _)); refine blk_far ?_ NB219_249.out _; (with_reducible repeat (first | refine blk_drewN ?_ _ | refine blk_drew ?_ | refine blk_alloc ?_ _)); refine blk_far ?_ NB219_249.out _; (with_reducible repeat (first | refine blk_drewN ?_ _ | refine blk_drew ?_ | refine blk_alloc ?_ _)); exact BK219.out) hb); have n9_ := Aside0.mk (blk_below (g := gb220) (o := .cells #[.int .i64 a1_0, .slice A1_1 l1_1.length c1_1] 24 (0, 0)) (by (with_reducible repeat (first | refine blk_drewN ?_ _ | refine blk_drew ?_ | refine blk_alloc ?_ _)); refine blk_far ?_ NB220_249.out _; (with_reducible repeat (first | refine blk_drewN ?_ _ | refine blk_drew ?_ | refine blk_alloc ?_ _)); refine blk_far ?_ NB220_249.out _; (with_reducible repeat (first | refine blk_drewN ?_ _ | refine blk_drew ?_ | refine blk_alloc ?_ _)); exact BK220.out) hb); have n10_ := Aside0.mk (blk_below (g := gb239) (o := .cells #[.int .i64 t231, .slice Ao79 t232.length co79] 26 (0, 0)) (by (with_reducible repeat (first | refine blk_drewN ?_ _ | refine blk_drew ?_ | refine blk_alloc ?_ _)); refine blk_far ?_ NB239_249.out _; (with_reducible repeat (first | refine blk_drewN ?_ _ | refine blk_drew ?_ | refine blk_alloc ?_ _)); refine blk_far ?_ NB239_249.out _; (with_reducible repeat (first | refine blk_drewN ?_ _ | refine blk_drew ?_ | refine blk_alloc ?_ _)); exact BK239.out) hb); have n11_ := Aside0.mk (blk_below (g := gb244) (o := .cells #[.int .i64 t240, .slice Ao89 t241.length co89] 26 (0, 0)) (by (with_reducible repeat (first | refine blk_drewN ?_ _ | refine blk_drew ?_ | refine blk_alloc ?_ _)); refine blk_far ?_ NB244_249.out _; (with_reducible repeat (first | refine blk_drewN ?_ _ | refine blk_drew ?_ | refine blk_alloc ?_ _)); refine blk_far ?_ NB244_249.out _; (with_reducible repeat (first | refine blk_drewN ?_ _ | refine blk_drew ?_ | refine blk_alloc ?_ _)); exact BK244.out) hb); have n12_ := Aside0.mk (blk_below (g := gb249) (o := .cells #[.int .i64 t245, .slice Ao99 t246.length co99] 26 (0, 0)) (by (with_reducible repeat (first | refine blk_drewN ?_ _ | refine blk_drew ?_ | refine blk_alloc ?_ _)); refine blk_put (cs := #[.int .i64 t245, .slice none 0 0]) ?_ 1 _ rfl; (with_reducible repeat (first | refine blk_drewN ?_ _ | refine blk_drew ?_ | refine blk_alloc ?_ _)); refine blk_put (cs := #[.int .i64 0, .slice none 0 0]) ?_ 0 _ rfl; (with_reducible repeat (first | refine blk_drewN ?_ _ | refine blk_drew ?_ | refine blk_alloc ?_ _)); exact BK249.out) hb); have n13_ := sH HB hb; clear HO226; clear HO230; clear HO234; clear HO237; clear HO243; clear HO248; clear BK219; clear BK220; clear BK239; clear BK244; clear BK249; clear HB; have HO226 := n0_; have HO230 := n1_; have HO234 := n2_; have HO237 := n3_; have HO243 := n4_; have HO248 := n5_; have HO253 := n6_; have HO256 := n7_; have BK219 := n8_; have BK220 := n9_; have BK239 := n10_; have BK244 := n11_; have BK249 := n12_; have HB := n13_; clear n0_ n1_ n2_ n3_ n4_ n5_ n6_ n7_ n8_ n9_ n10_ n11_ n12_ n13_; (try clear hb); (try clear hi); (try clear ho0); (try clear ho1)) | ((with_reducible refine gate_dst (N := 11) rfl ?_); refine box_event ?hg (N := 11) ?hd (cs := #[.int .i64 0, .slice none 0 0]) (t := 26) ?hr ?_; (case hd => rfl); (case hg => rfl); (case hr => first | (go_simp; done) | (go_simp; rfl)); intro gb258 hg w102 hbox hb; replace HO226 := sR HO226 hb; replace HO230 := sR HO230 hb; replace HO234 := sR HO234 hb; replace HO237 := sR HO237 hb; replace HO243 := sR HO243 hb; replace HO248 := sR HO248 hb; replace HO253 := sR HO253 hb; replace HO256 := sR HO256 hb; have BK258 := Aside0.mk (hbox); have GW258 := gH HB hg; have GE258 := gH HB hg; replace HB := sH HB hb; have NB219_258 := nB BK219 hg; have NB258_219 := oB BK219 hg; replace BK219 := sB BK219 hb; have NB220_258 := nB BK220 hg; have NB258_220 := oB BK220 hg; replace BK220 := sB BK220 hb; have NB239_258 := nB BK239 hg; have NB258_239 := oB BK239 hg; replace BK239 := sB BK239 hb; have NB244_258 := nB BK244 hg; have NB258_244 := oB BK244 hg; replace BK244 := sB BK244 hb; have NB249_258 := nB BK249 hg; have NB258_249 := oB BK249 hg; replace BK249 := sB BK249 hb; clear hb hbox hg; (try have hnb103 := NB258_219.out); (try have hnc103 := NB219_258.out); (try have hnb104 := NB258_220.out); (try have hnc104 := NB220_258.out); (try have hnb105 := NB258_239.out); (try have hnc105 := NB239_258.out); (try have hnb106 := NB258_244.out); (try have hnc106 := NB244_258.out); (try have hnb107 := NB258_249.out); (try have hnc107 := NB249_258.out); have hcz108_0 : w102.cell? ⟨gb258, 0, none⟩ = some (.int .i64 0) := cB BK258 0; have hcz108_1 : w102.cell? ⟨gb258, 1, none⟩ = some (.slice none 0 0) := cB BK258 1; have hfz108_0 := zB BK258 0; have hfz108_1 := zB BK258 1; obtain ⟨Ao109, co109, eo109⟩ := Kd.R_slice HO253.out; subst eo109; have hcz110_0 : w102.cell? ⟨gb239, 0, none⟩ = some (.int .i64 t231) := cB BK239 0; have hcz110_1 : w102.cell? ⟨gb239, 1, none⟩ = some (.slice Ao79 t232.length co79) := cB BK239 1; have hfz110_0 := zB BK239 0; have hfz110_1 := zB BK239 1) | ((with_reducible refine gate_callee (f := 19) rfl ?_); refine cl_ (some 52) Try.func19 #[.agg #[.int .i64 t250, .slice Ao109 t251.length co109], .agg #[.int .i64 t231, .slice Ao79 t232.length co79]] ?_; (with_reducible refine (laws_eqComplex.calls k t250 _ _ t251 t231 _ _ t232 true _ ?side1 ?side2 ?side3 ?side4 A25.out).mono ?_); (case side1 => refine (Kd.R_reads' (e := 2) (base := w.heap.size) (ok := fun k_ => (((((True ∧ some k_ ≠ (v225 : Value).ownBlock) ∧ some k_ ≠ (v229 : Value).ownBlock) ∧ some k_ ≠ (.slice Ao79 t232.length co79 : Value).ownBlock) ∧ some k_ ≠ (.slice Ao89 t241.length co89 : Value).ownBlock) ∧ some k_ ≠ (.slice Ao99 t246.length co99 : Value).ownBlock)) (n := t251.length) (c := co109) ?_).2.2; exact (by (with_reducible repeat (first | apply Kd.R_alloc | apply Kd.R_drewN | apply Kd.R_drew)); exact (Kd.R_mono (Kd.R_far (p := ⟨gb258, 1, none⟩) (Kd.R_far (p := ⟨gb258, 0, none⟩) (Kd.R_types HO253.out BK258.out (by decide)) (fun _ hk => hk.2) (.int .i64 t250)) (fun _ hk => hk.2) (.slice Ao109 t251.length co109)) (fun _ h_ => h_.1)))); (case side2 => exact (Kd.R_reads' HO253.out).2.1); (case side3 => refine (Kd.R_reads' (e := 2) (base := w.heap.size) (ok := fun k_ => ((((some k_ ≠ (v225 : Value).ownBlock ∧ some k_ ≠ (v229 : Value).ownBlock) ∧ some k_ ≠ (.slice Ao89 t241.length co89 : Value).ownBlock) ∧ some k_ ≠ (.slice Ao99 t246.length co99 : Value).ownBlock) ∧ some k_ ≠ (.slice Ao109 t251.length co109 : Value).ownBlock)) (n := t232.length) (c := co79) ?_).2.2; exact (by (with_reducible repeat (first | apply Kd.R_alloc | apply Kd.R_drewN | apply Kd.R_drew)); exact (Kd.R_mono (Kd.R_far (p := ⟨gb258, 1, none⟩) (Kd.R_far (p := ⟨gb258, 0, none⟩) (Kd.R_types HO234.out BK258.out (by decide)) (fun _ hk => hk.2) (.int .i64 t250)) (fun _ hk => hk.2) (.slice Ao109 t251.length co109)) (fun _ h_ => h_.1)))); (case side4 => exact (Kd.R_reads' HO234.out).2.1); rintro e w111 ⟨rfl, hb⟩; refine ⟨_, rfl, ?_⟩; have n0_ := Aside0.mk (Kd.R_below (by (with_reducible repeat (first | apply Kd.R_alloc | apply Kd.R_drewN | apply Kd.R_drew)); exact (Kd.R_mono (Kd.R_far (p := ⟨gb258, 1, none⟩) (Kd.R_far (p := ⟨gb258, 0, none⟩) (Kd.R_types HO226.out BK258.out (by decide)) (fun _ hk => hk.2) (.int .i64 t250)) (fun _ hk => hk.2) (.slice Ao109 t251.length co109)) (fun _ h_ => h_.1))) hb); have n1_ := Aside0.mk (Kd.R_below (by (with_reducible repeat (first | apply Kd.R_alloc | apply Kd.R_drewN | apply Kd.R_drew)); exact (Kd.R_mono (Kd.R_far (p := ⟨gb258, 1, none⟩) (Kd.R_far (p := ⟨gb258, 0, none⟩) (Kd.R_types HO230.out BK258.out (by decide)) (fun _ hk => hk.2) (.int .i64 t250)) (fun _ hk => hk.2) (.slice Ao109 t251.length co109)) (fun _ h_ => h_.1))) hb); have n2_ := Aside0.mk (Kd.R_below (by (with_reducible repeat (first | apply Kd.R_alloc | apply Kd.R_drewN | apply Kd.R_drew)); exact (Kd.R_mono (Kd.R_far (p := ⟨gb258, 1, none⟩) (Kd.R_far (p := ⟨gb258, 0, none⟩) (Kd.R_types HO234.out BK258.out (by decide)) (fun _ hk => hk.2) (.int .i64 t250)) (fun _ hk => hk.2) (.slice Ao109 t251.length co109)) (fun _ h_ => h_.1))) hb); have n3_ := Aside0.mk (Kd.R_below (by (with_reducible repeat (first | apply Kd.R_alloc | apply Kd.R_drewN | apply Kd.R_drew)); exact (Kd.R_mono (Kd.R_far (p := ⟨gb258, 1, none⟩) (Kd.R_far (p := ⟨gb258, 0, none⟩) (Kd.R_types HO237.out BK258.out (by decide)) (fun _ hk => hk.2) (.int .i64 t250)) (fun _ hk => hk.2) (.slice Ao109 t251.length co109)) (fun _ h_ => h_.1))) hb); have n4_ := Aside0.mk (Kd.R_below (by (with_reducible repeat (first | apply Kd.R_alloc | apply Kd.R_drewN | apply Kd.R_drew)); exact (Kd.R_mono (Kd.R_far (p := ⟨gb258, 1, none⟩) (Kd.R_far (p := ⟨gb258, 0, none⟩) (Kd.R_types HO243.out BK258.out (by decide)) (fun _ hk => hk.2) (.int .i64 t250)) (fun _ hk => hk.2) (.slice Ao109 t251.length co109)) (fun _ h_ => h_.1))) hb); have n5_ := Aside0.mk (Kd.R_below (by (with_reducible repeat (first | apply Kd.R_alloc | apply Kd.R_drewN | apply Kd.R_drew)); exact (Kd.R_mono (Kd.R_far (p := ⟨gb258, 1, none⟩) (Kd.R_far (p := ⟨gb258, 0, none⟩) (Kd.R_types HO248.out BK258.out (by decide)) (fun _ hk => hk.2) (.int .i64 t250)) (fun _ hk => hk.2) (.slice Ao109 t251.length co109)) (fun _ h_ => h_.1))) hb); have n6_ := Aside0.mk (Kd.R_below (by (with_reducible repeat (first | apply Kd.R_alloc | apply Kd.R_drewN | apply Kd.R_drew)); exact (Kd.R_mono (Kd.R_far (p := ⟨gb258, 1, none⟩) (Kd.R_far (p := ⟨gb258, 0, none⟩) (Kd.R_types HO253.out BK258.out (by decide)) (fun _ hk => hk.2) (.int .i64 t250)) (fun _ hk => hk.2) (.slice Ao109 t251.length co109)) (fun _ h_ => h_.1))) hb); have n7_ := Aside0.mk (Kd.R_below (by (with_reducible repeat (first | apply Kd.R_alloc | apply Kd.R_drewN | apply Kd.R_drew)); exact (Kd.R_mono (Kd.R_far (p := ⟨gb258, 1, none⟩) (Kd.R_far (p := ⟨gb258, 0, none⟩) (Kd.R_types HO256.out BK258.out (by decide)) (fun _ hk => hk.2) (.int .i64 t250)) (fun _ hk => hk.2) (.slice Ao109 t251.length co109)) (fun _ h_ => h_.1))) hb); have n8_ := Aside0.mk (blk_below (g := gb219) (o := .cells #[.int .i64 a0_0, .slice A0_1 l0_1.length c0_1] 24 (0, 0)) (by (with_reducible repeat (first | refine blk_drewN ?_ _ | refine blk_drew ?_ | refine blk_alloc ?_ _)); refine blk_far ?_ NB219_258.out _; (with_reducible repeat (first | refine blk_drewN ?_ _ | refine blk_drew ?_ | refine blk_alloc ?_ _)); refine blk_far ?_ NB219_258.out _; (with_reducible repeat (first | refine blk_drewN ?_ _ | refine blk_drew ?_ | refine blk_alloc ?_ _)); exact BK219.out) hb); have n9_ := Aside0.mk (blk_below (g := gb220) (o := .cells #[.int .i64 a1_0, .slice A1_1 l1_1.length c1_1] 24 (0, 0)) (by (with_reducible repeat (first | refine blk_drewN ?_ _ | refine blk_drew ?_ | refine blk_alloc ?_ _)); refine blk_far ?_ NB220_258.out _; (with_reducible repeat (first | refine blk_drewN ?_ _ | refine blk_drew ?_ | refine blk_alloc ?_ _)); refine blk_far ?_ NB220_258.out _; (with_reducible repeat (first | refine blk_drewN ?_ _ | refine blk_drew ?_ | refine blk_alloc ?_ _)); exact BK220.out) hb); have n10_ := Aside0.mk (blk_below (g := gb239) (o := .cells #[.int .i64 t231, .slice Ao79 t232.length co79] 26 (0, 0)) (by (with_reducible repeat (first | refine blk_drewN ?_ _ | refine blk_drew ?_ | refine blk_alloc ?_ _)); refine blk_far ?_ NB239_258.out _; (with_reducible repeat (first | refine blk_drewN ?_ _ | refine blk_drew ?_ | refine blk_alloc ?_ _)); refine blk_far ?_ NB239_258.out _; (with_reducible repeat (first | refine blk_drewN ?_ _ | refine blk_drew ?_ | refine blk_alloc ?_ _)); exact BK239.out) hb); have n11_ := Aside0.mk (blk_below (g := gb244) (o := .cells #[.int .i64 t240, .slice Ao89 t241.length co89] 26 (0, 0)) (by (with_reducible repeat (first | refine blk_drewN ?_ _ | refine blk_drew ?_ | refine blk_alloc ?_ _)); refine blk_far ?_ NB244_258.out _; (with_reducible repeat (first | refine blk_drewN ?_ _ | refine blk_drew ?_ | refine blk_alloc ?_ _)); refine blk_far ?_ NB244_258.out _; (with_reducible repeat (first | refine blk_drewN ?_ _ | refine blk_drew ?_ | refine blk_alloc ?_ _)); exact BK244.out) hb); have n12_ := Aside0.mk (blk_below (g := gb249) (o := .cells #[.int .i64 t245, .slice Ao99 t246.length co99] 26 (0, 0)) (by (with_reducible repeat (first | refine blk_drewN ?_ _ | refine blk_drew ?_ | refine blk_alloc ?_ _)); refine blk_far ?_ NB249_258.out _; (with_reducible repeat (first | refine blk_drewN ?_ _ | refine blk_drew ?_ | refine blk_alloc ?_ _)); refine blk_far ?_ NB249_258.out _; (with_reducible repeat (first | refine blk_drewN ?_ _ | refine blk_drew ?_ | refine blk_alloc ?_ _)); exact BK249.out) hb); have n13_ := Aside0.mk (blk_below (g := gb258) (o := .cells #[.int .i64 t250, .slice Ao109 t251.length co109] 26 (0, 0)) (by (with_reducible repeat (first | refine blk_drewN ?_ _ | refine blk_drew ?_ | refine blk_alloc ?_ _)); refine blk_put (cs := #[.int .i64 t250, .slice none 0 0]) ?_ 1 _ rfl; (with_reducible repeat (first | refine blk_drewN ?_ _ | refine blk_drew ?_ | refine blk_alloc ?_ _)); refine blk_put (cs := #[.int .i64 0, .slice none 0 0]) ?_ 0 _ rfl; (with_reducible repeat (first | refine blk_drewN ?_ _ | refine blk_drew ?_ | refine blk_alloc ?_ _)); exact BK258.out) hb); have n14_ := sH HB hb; clear HO226; clear HO230; clear HO234; clear HO237; clear HO243; clear HO248; clear HO253; clear HO256; clear BK219; clear BK220; clear BK239; clear BK244; clear BK249; clear BK258; clear HB; have HO226 := n0_; have HO230 := n1_; have HO234 := n2_; have HO237 := n3_; have HO243 := n4_; have HO248 := n5_; have HO253 := n6_; have HO256 := n7_; have BK219 := n8_; have BK220 := n9_; have BK239 := n10_; have BK244 := n11_; have BK249 := n12_; have BK258 := n13_; have HB := n14_; clear n0_ n1_ n2_ n3_ n4_ n5_ n6_ n7_ n8_ n9_ n10_ n11_ n12_ n13_ n14_; (try clear hb); (try clear hi); obtain ⟨Ao112, co112, eo112⟩ := Kd.R_slice HO256.out; subst eo112; obtain ⟨Ao113, co113, eo113⟩ := Kd.R_slice HO237.out; subst eo113) | (go_at_call 20; (with_reducible refine (laws_eqPairS.calls k _ _ t254 _ _ t235 true _ ?side1 ?side2 ?side3 ?side4 A27.out).mono ?_); (case side1 => exact pC ((Kd.R_reads' HO256.out).2.2)); (case side2 => exact (Kd.R_reads' HO256.out).2.1); (case side3 => exact pC ((Kd.R_reads' HO237.out).2.2)); (case side4 => exact (Kd.R_reads' HO237.out).2.1); rintro e w114 ⟨rfl, hb⟩; replace HO226 := sR HO226 hb; replace HO230 := sR HO230 hb; replace HO234 := sR HO234 hb; replace HO237 := sR HO237 hb; replace HO243 := sR HO243 hb; replace HO248 := sR HO248 hb; replace HO253 := sR HO253 hb; replace HO256 := sR HO256 hb; replace BK219 := sB BK219 hb; replace BK220 := sB BK220 hb; replace BK239 := sB BK239 hb; replace BK244 := sB BK244 hb; replace BK249 := sB BK249 hb; replace BK258 := sB BK258 hb; replace HB := sH HB hb; (try clear hb); (try clear hi)))
                    replace HO226 := Aside0.mk (Kd.R_drew HO226.out)
                    replace HO230 := Aside0.mk (Kd.R_drew HO230.out)
                    replace HO234 := Aside0.mk (Kd.R_drew HO234.out)
                    replace HO237 := Aside0.mk (Kd.R_drew HO237.out)
                    replace HO243 := Aside0.mk (Kd.R_drew HO243.out)
                    replace HO248 := Aside0.mk (Kd.R_drew HO248.out)
                    replace HO253 := Aside0.mk (Kd.R_drew HO253.out)
                    replace HO256 := Aside0.mk (Kd.R_drew HO256.out)
                    replace BK219 := dB BK219
                    replace BK220 := dB BK220
                    replace BK239 := dB BK239
                    replace BK244 := dB BK244
                    replace BK249 := dB BK249
                    replace BK258 := dB BK258
                    replace HB := dH HB
                    refine st_ 5 (S := fun w' => w'.cell? ⟨gb244, 0, none⟩ = some (.int .i64 t240) ∧ w'.cell? ⟨gb244, 1, none⟩ = some (.slice Ao89 t241.length co89) ∧ w'.cell? ⟨gb219, 0, none⟩ = some (.int .i64 a0_0) ∧ w'.cell? ⟨gb219, 1, none⟩ = some (.slice A0_1 l0_1.length c0_1)) (ds := []) ⟨cB BK244 0, cB BK244 1, cB BK219 0, cB BK219 1⟩ (fun hHeld => ?_)
                    generalize w114.drew = w115 at HO226 HO230 HO234 HO237 HO243 HO248 HO253 HO256 BK219 BK220 BK239 BK244 BK249 BK258 HB hHeld ⊢
                    refine take_ (i := 0) (N := some 65) (v := ?_) (a' := ?_) (mB 5 1) rfl rfl (by kernel_rfl) (fun _ _ _ h => h) (Or.inl ⟨by rfl, ?_⟩) hHeld ?_ ?_
                    rotate_left
                    ·rintro w' ⟨s0, s1, s2, s3⟩
                     go_simp
                     with_reducible rfl
                    rotate_left
                    ·simp only [Act.put, List.setIfInBounds_toArray, List.set_cons_zero, List.set_cons_succ, i64_w, i32_w]
                     rfl
                    refine take_ (i := 1) (N := some 66) (v := ?_) (a' := ?_) (mB 5 3) rfl rfl (by kernel_rfl) (fun _ _ _ h => h) (Or.inl ⟨by rfl, ?_⟩) hHeld ?_ ?_
                    rotate_left
                    ·rintro w' ⟨s0, s1, s2, s3⟩
                     go_simp
                     with_reducible rfl
                    rotate_left
                    ·simp only [Act.put, List.setIfInBounds_toArray, List.set_cons_zero, List.set_cons_succ, i64_w, i32_w]
                     rfl
                    refine one_ (i := 2) (N := some 67) (mB 5 7) rfl rfl (by kernel_rfl) (by decide) (fun K hK => ?_)
                    refine ca_ Try.func17 #[.agg #[.int .i64 a0_0, .slice A0_1 l0_1.length c0_1]] ?_
                    with_reducible refine (laws_toComplex.calls k a0_0 _ _ l0_1 t261 t262 _ ?side1 ?side2 A30.out).mono ?_
                    (case side1 => exact pC ((Kd.C_below HR0_1.out HB.out)))
                    (case side2 => exact HC0_1.out)
                    rintro e w116 ⟨v263, rfl, ho0, hb⟩
                    refine ⟨_, rfl, ?_⟩
                    replace HO237 := sR HO237 hb
                    replace HO256 := sR HO256 hb
                    have HO264 := Aside0.mk (Kd.R_lower (Kd.R_new' (Kd.R_new' (Kd.R_new' (Kd.R_new' (Kd.R_new' (Kd.R_new' ho0 (Kd.R_lt (pR HO226))) (Kd.R_lt (pR HO230))) (Kd.R_lt (pR HO234))) (Kd.R_lt (pR HO243))) (Kd.R_lt (pR HO248))) (Kd.R_lt (pR HO253))) (below_size (pH HB)))
                    replace HO226 := Aside0.mk (Kd.R_elder' (pR HO226) (Kd.R_base ho0) hb)
                    replace HO230 := Aside0.mk (Kd.R_elder' (pR HO230) (Kd.R_base ho0) hb)
                    replace HO234 := Aside0.mk (Kd.R_elder' (pR HO234) (Kd.R_base ho0) hb)
                    replace HO243 := Aside0.mk (Kd.R_elder' (pR HO243) (Kd.R_base ho0) hb)
                    replace HO248 := Aside0.mk (Kd.R_elder' (pR HO248) (Kd.R_base ho0) hb)
                    replace HO253 := Aside0.mk (Kd.R_elder' (pR HO253) (Kd.R_base ho0) hb)
                    replace BK219 := sB BK219 hb
                    replace BK220 := sB BK220 hb
                    replace BK239 := sB BK239 hb
                    replace BK244 := sB BK244 hb
                    replace BK249 := sB BK249 hb
                    replace BK258 := sB BK258 hb
                    replace HB := sH HB hb
                    (try clear hb)
                    (try clear hb2)
                    (try clear hk)
                    (try clear hi)
                    (try clear ho0)
                    obtain ⟨Ao117, co117, eo117⟩ := Kd.R_slice HO264.out
                    (first | subst eo117 | (injection eo117 with f1_ f2_ f3_; have f4_ := f1_.symm; have f5_ := f3_.symm; clear f1_ f2_ f3_; subst f4_; subst f5_))
                    refine hK.out _ _ ⟨cB BK244 0, cB BK244 1, cB BK219 0, cB BK219 1⟩ (fun hHeld => ?_)
                    clear hK K
                    refine nm_ ?_
                    refine one_ (i := 3) (N := some 68) (mB 5 15) rfl rfl (by kernel_rfl) (by decide) (fun K hK => ?_)
                    refine ca_ Try.func19 #[.agg #[.int .i64 t240, .slice Ao89 t241.length co89], .agg #[.int .i64 t261, .slice Ao117 t262.length co117]] ?_
                    with_reducible refine (laws_eqComplex.calls k t240 _ _ t241 t261 _ _ t262 true _ ?side1 ?side2 ?side3 ?side4 A31.out).mono ?_
                    (case side1 => exact pC ((Kd.R_reads' HO243.out).2.2))
                    (case side2 => exact (Kd.R_reads' HO243.out).2.1)
                    (case side3 => exact pC ((Kd.R_reads' HO264.out).2.2))
                    (case side4 => exact (Kd.R_reads' HO264.out).2.1)
                    rintro e w118 ⟨rfl, hb⟩
                    refine ⟨_, rfl, ?_⟩
                    replace HO226 := sR HO226 hb
                    replace HO230 := sR HO230 hb
                    replace HO234 := sR HO234 hb
                    replace HO237 := sR HO237 hb
                    replace HO243 := sR HO243 hb
                    replace HO248 := sR HO248 hb
                    replace HO253 := sR HO253 hb
                    replace HO256 := sR HO256 hb
                    replace HO264 := sR HO264 hb
                    replace BK219 := sB BK219 hb
                    replace BK220 := sB BK220 hb
                    replace BK239 := sB BK239 hb
                    replace BK244 := sB BK244 hb
                    replace BK249 := sB BK249 hb
                    replace BK258 := sB BK258 hb
                    replace HB := sH HB hb
                    (try clear hb)
                    (try clear hb2)
                    (try clear hk)
                    (try clear hi)
                    refine hK.out _ _ ⟨cB BK244 0, cB BK244 1, cB BK219 0, cB BK219 1⟩ (fun hHeld => ?_)
                    clear hK K
                    refine nm_ ?_
                    refine pure_ (i := 4) (N := some 69) (v := ?_) (a' := ?_) (mB 5 31) rfl rfl (by kernel_rfl) (fun _ _ _ h => h) (Or.inl ⟨by rfl, ?_⟩) ?_ ?_
                    rotate_left
                    ·intro w'
                     go_simp
                     with_reducible rfl
                    rotate_left
                    ·simp only [Act.put, List.setIfInBounds_toArray, List.set_cons_zero, List.set_cons_succ, i64_w, i32_w]
                     rfl
                    refine done_ (by kernel_rfl) ?_
                    try go_wp2
                    replace HO226 := Aside0.mk (Kd.R_drew HO226.out)
                    replace HO230 := Aside0.mk (Kd.R_drew HO230.out)
                    replace HO234 := Aside0.mk (Kd.R_drew HO234.out)
                    replace HO237 := Aside0.mk (Kd.R_drew HO237.out)
                    replace HO243 := Aside0.mk (Kd.R_drew HO243.out)
                    replace HO248 := Aside0.mk (Kd.R_drew HO248.out)
                    replace HO253 := Aside0.mk (Kd.R_drew HO253.out)
                    replace HO256 := Aside0.mk (Kd.R_drew HO256.out)
                    replace HO264 := Aside0.mk (Kd.R_drew HO264.out)
                    replace BK219 := dB BK219
                    replace BK220 := dB BK220
                    replace BK239 := dB BK239
                    replace BK244 := dB BK244
                    replace BK249 := dB BK249
                    replace BK258 := dB BK258
                    replace HB := dH HB
                    refine st_ 5 (S := fun w' => w'.cell? ⟨gb249, 0, none⟩ = some (.int .i64 t245) ∧ w'.cell? ⟨gb249, 1, none⟩ = some (.slice Ao99 t246.length co99) ∧ w'.cell? ⟨gb220, 0, none⟩ = some (.int .i64 a1_0) ∧ w'.cell? ⟨gb220, 1, none⟩ = some (.slice A1_1 l1_1.length c1_1)) (ds := []) ⟨cB BK249 0, cB BK249 1, cB BK220 0, cB BK220 1⟩ (fun hHeld => ?_)
                    generalize w118.drew = w119 at HO226 HO230 HO234 HO237 HO243 HO248 HO253 HO256 HO264 BK219 BK220 BK239 BK244 BK249 BK258 HB hHeld ⊢
                    refine take_ (i := 0) (N := some 70) (v := ?_) (a' := ?_) (mB 5 1) rfl rfl (by kernel_rfl) (fun _ _ _ h => h) (Or.inl ⟨by rfl, ?_⟩) hHeld ?_ ?_
                    rotate_left
                    ·rintro w' ⟨s0, s1, s2, s3⟩
                     go_simp
                     with_reducible rfl
                    rotate_left
                    ·simp only [Act.put, List.setIfInBounds_toArray, List.set_cons_zero, List.set_cons_succ, i64_w, i32_w]
                     rfl
                    refine take_ (i := 1) (N := some 71) (v := ?_) (a' := ?_) (mB 5 3) rfl rfl (by kernel_rfl) (fun _ _ _ h => h) (Or.inl ⟨by rfl, ?_⟩) hHeld ?_ ?_
                    rotate_left
                    ·rintro w' ⟨s0, s1, s2, s3⟩
                     go_simp
                     with_reducible rfl
                    rotate_left
                    ·simp only [Act.put, List.setIfInBounds_toArray, List.set_cons_zero, List.set_cons_succ, i64_w, i32_w]
                     rfl
                    refine one_ (i := 2) (N := some 72) (mB 5 7) rfl rfl (by kernel_rfl) (by decide) (fun K hK => ?_)
                    refine ca_ Try.func17 #[.agg #[.int .i64 a1_0, .slice A1_1 l1_1.length c1_1]] ?_
                    with_reducible refine (laws_toComplex.calls k a1_0 _ _ l1_1 t266 t267 _ ?side1 ?side2 A33.out).mono ?_
                    (case side1 => exact pC ((Kd.C_below HR1_1.out HB.out)))
                    (case side2 => exact HC1_1.out)
                    rintro e w120 ⟨v268, rfl, ho0, hb⟩
                    refine ⟨_, rfl, ?_⟩
                    replace HO237 := sR HO237 hb
                    replace HO256 := sR HO256 hb
                    have HO269 := Aside0.mk (Kd.R_lower (Kd.R_new' (Kd.R_new' (Kd.R_new' (Kd.R_new' (Kd.R_new' (Kd.R_new' (Kd.R_new' ho0 (Kd.R_lt (pR HO226))) (Kd.R_lt (pR HO230))) (Kd.R_lt (pR HO234))) (Kd.R_lt (pR HO243))) (Kd.R_lt (pR HO248))) (Kd.R_lt (pR HO253))) (Kd.R_lt (pR HO264))) (below_size (pH HB)))
                    replace HO226 := Aside0.mk (Kd.R_elder' (pR HO226) (Kd.R_base ho0) hb)
                    replace HO230 := Aside0.mk (Kd.R_elder' (pR HO230) (Kd.R_base ho0) hb)
                    replace HO234 := Aside0.mk (Kd.R_elder' (pR HO234) (Kd.R_base ho0) hb)
                    replace HO243 := Aside0.mk (Kd.R_elder' (pR HO243) (Kd.R_base ho0) hb)
                    replace HO248 := Aside0.mk (Kd.R_elder' (pR HO248) (Kd.R_base ho0) hb)
                    replace HO253 := Aside0.mk (Kd.R_elder' (pR HO253) (Kd.R_base ho0) hb)
                    replace HO264 := Aside0.mk (Kd.R_elder' (pR HO264) (Kd.R_base ho0) hb)
                    replace BK219 := sB BK219 hb
                    replace BK220 := sB BK220 hb
                    replace BK239 := sB BK239 hb
                    replace BK244 := sB BK244 hb
                    replace BK249 := sB BK249 hb
                    replace BK258 := sB BK258 hb
                    replace HB := sH HB hb
                    (try clear hb)
                    (try clear hb2)
                    (try clear hk)
                    (try clear hi)
                    (try clear ho0)
                    obtain ⟨Ao121, co121, eo121⟩ := Kd.R_slice HO269.out
                    (first | subst eo121 | (injection eo121 with f1_ f2_ f3_; have f4_ := f1_.symm; have f5_ := f3_.symm; clear f1_ f2_ f3_; subst f4_; subst f5_))
                    refine hK.out _ _ ⟨cB BK249 0, cB BK249 1, cB BK220 0, cB BK220 1⟩ (fun hHeld => ?_)
                    clear hK K
                    refine nm_ ?_
                    refine one_ (i := 3) (N := some 73) (mB 5 15) rfl rfl (by kernel_rfl) (by decide) (fun K hK => ?_)
                    refine ca_ Try.func19 #[.agg #[.int .i64 t245, .slice Ao99 t246.length co99], .agg #[.int .i64 t266, .slice Ao121 t267.length co121]] ?_
                    with_reducible refine (laws_eqComplex.calls k t245 _ _ t246 t266 _ _ t267 true _ ?side1 ?side2 ?side3 ?side4 A34.out).mono ?_
                    (case side1 => exact pC ((Kd.R_reads' HO248.out).2.2))
                    (case side2 => exact (Kd.R_reads' HO248.out).2.1)
                    (case side3 => exact pC ((Kd.R_reads' HO269.out).2.2))
                    (case side4 => exact (Kd.R_reads' HO269.out).2.1)
                    rintro e w122 ⟨rfl, hb⟩
                    refine ⟨_, rfl, ?_⟩
                    replace HO226 := sR HO226 hb
                    replace HO230 := sR HO230 hb
                    replace HO234 := sR HO234 hb
                    replace HO237 := sR HO237 hb
                    replace HO243 := sR HO243 hb
                    replace HO248 := sR HO248 hb
                    replace HO253 := sR HO253 hb
                    replace HO256 := sR HO256 hb
                    replace HO264 := sR HO264 hb
                    replace HO269 := sR HO269 hb
                    replace BK219 := sB BK219 hb
                    replace BK220 := sB BK220 hb
                    replace BK239 := sB BK239 hb
                    replace BK244 := sB BK244 hb
                    replace BK249 := sB BK249 hb
                    replace BK258 := sB BK258 hb
                    replace HB := sH HB hb
                    (try clear hb)
                    (try clear hb2)
                    (try clear hk)
                    (try clear hi)
                    refine hK.out _ _ ⟨cB BK249 0, cB BK249 1, cB BK220 0, cB BK220 1⟩ (fun hHeld => ?_)
                    clear hK K
                    refine nm_ ?_
                    refine pure_ (i := 4) (N := some 74) (v := ?_) (a' := ?_) (mB 5 31) rfl rfl (by kernel_rfl) (fun _ _ _ h => h) (Or.inl ⟨by rfl, ?_⟩) ?_ ?_
                    rotate_left
                    ·intro w'
                     go_simp
                     with_reducible rfl
                    rotate_left
                    ·simp only [Act.put, List.setIfInBounds_toArray, List.set_cons_zero, List.set_cons_succ, i64_w, i32_w]
                     rfl
                    refine done_ (by kernel_rfl) ?_
                    have hcz123_0 : w122.cell? ⟨gb244, 0, none⟩ = some (.int .i64 t240) := cB BK244 0
                    have hcz123_1 : w122.cell? ⟨gb244, 1, none⟩ = some (.slice Ao89 t241.length co89) := cB BK244 1
                    have hfz123_0 := zB BK244 0
                    have hfz123_1 := zB BK244 1
                    try go_wp2_with (first | ((with_reducible refine gate_callee (f := 21) rfl ?_); refine cl_ (some 77) Try.func21 #[.agg #[.int .i64 t240, .slice Ao89 t241.length co89], .int .i64 1] ?_; (with_reducible refine (laws_markComplex.calls k t240 (fun k_ => some k_ = (.slice Ao89 t241.length co89 : Value).ownBlock) (.slice Ao89 t241.length co89) t241 1 t271 t272 w _ ?side1 ?side2 A36.out).mono ?_); (case side1 => repeat (first | (with_reducible first | exact HB.out | apply below_alloc | apply pw_below_drewN | apply below_drew1 | refine below_set ?_ GE219.out | refine below_set ?_ GE220.out | refine below_set ?_ GE239.out | refine below_set ?_ GE244.out | refine below_set ?_ GE249.out | refine below_set ?_ GE258.out) | exact HB.out)); (case side2 => exact Kd.R_tight rfl HO243.out); rintro e w124 ⟨rfl, hy0, hb, hkp⟩; refine ⟨_, rfl, ?_⟩; replace BK219 := Aside0.mk (blk_kept (pB BK219) hkp (fun hs_ => (fun e_ => (Kd.R_ne HO243.out BK219.out (by decide)) e_) hs_)); replace BK220 := Aside0.mk (blk_kept (pB BK220) hkp (fun hs_ => (fun e_ => (Kd.R_ne HO243.out BK220.out (by decide)) e_) hs_)); replace HO226 := Aside0.mk (Kd.R_mono (ok' := fun k_ => some k_ ≠ (v229 : Value).ownBlock ∧ some k_ ≠ (.slice Ao79 t232.length co79 : Value).ownBlock ∧ some k_ ≠ (.slice Ao89 t241.length co89 : Value).ownBlock ∧ some k_ ≠ (.slice Ao99 t246.length co99 : Value).ownBlock ∧ some k_ ≠ (.slice Ao109 t251.length co109 : Value).ownBlock ∧ some k_ ≠ (.slice Ao117 t262.length co117 : Value).ownBlock ∧ some k_ ≠ (.slice Ao121 t267.length co121 : Value).ownBlock) (Kd.R_keptB (HO226.out) hkp (fun k_ hk_ hs_ => (hk_.1.1.1.1.2) hs_)) (fun k_ hk_ => ⟨hk_.1.1.1.1.1.1.1, hk_.1.1.1.1.1.1.2, hk_.1.1.1.1.1.2, hk_.1.1.1.1.2, hk_.1.1.1.2, hk_.1.1.2, hk_.1.2⟩)); replace HO230 := Aside0.mk (Kd.R_mono (ok' := fun k_ => some k_ ≠ (v225 : Value).ownBlock ∧ some k_ ≠ (.slice Ao79 t232.length co79 : Value).ownBlock ∧ some k_ ≠ (.slice Ao89 t241.length co89 : Value).ownBlock ∧ some k_ ≠ (.slice Ao99 t246.length co99 : Value).ownBlock ∧ some k_ ≠ (.slice Ao109 t251.length co109 : Value).ownBlock ∧ some k_ ≠ (.slice Ao117 t262.length co117 : Value).ownBlock ∧ some k_ ≠ (.slice Ao121 t267.length co121 : Value).ownBlock) (Kd.R_keptB (HO230.out) hkp (fun k_ hk_ hs_ => (hk_.1.1.1.1.2) hs_)) (fun k_ hk_ => ⟨hk_.1.1.1.1.1.1.1, hk_.1.1.1.1.1.1.2, hk_.1.1.1.1.1.2, hk_.1.1.1.1.2, hk_.1.1.1.2, hk_.1.1.2, hk_.1.2⟩)); replace HO234 := Aside0.mk (Kd.R_mono (ok' := fun k_ => some k_ ≠ (v225 : Value).ownBlock ∧ some k_ ≠ (v229 : Value).ownBlock ∧ some k_ ≠ (.slice Ao89 t241.length co89 : Value).ownBlock ∧ some k_ ≠ (.slice Ao99 t246.length co99 : Value).ownBlock ∧ some k_ ≠ (.slice Ao109 t251.length co109 : Value).ownBlock ∧ some k_ ≠ (.slice Ao117 t262.length co117 : Value).ownBlock ∧ some k_ ≠ (.slice Ao121 t267.length co121 : Value).ownBlock) (Kd.R_keptB (HO234.out) hkp (fun k_ hk_ hs_ => (hk_.1.1.1.1.2) hs_)) (fun k_ hk_ => ⟨hk_.1.1.1.1.1.1.1, hk_.1.1.1.1.1.1.2, hk_.1.1.1.1.1.2, hk_.1.1.1.1.2, hk_.1.1.1.2, hk_.1.1.2, hk_.1.2⟩)); replace HO237 := Aside0.mk (Kd.R_mono (ok' := fun k_ => some k_ ≠ (.slice Ao112 t254.length co112 : Value).ownBlock) (Kd.R_keptB ((Kd.R_apart' HO237.out (Kd.R_typed HO243.out) (by decide))) hkp (fun k_ hk_ hs_ => (hk_.2) hs_)) (fun k_ hk_ => hk_.1.1.2)); replace BK239 := Aside0.mk (blk_kept (pB BK239) hkp (fun hs_ => (fun e_ => (Kd.R_ne HO243.out BK239.out (by decide)) e_) hs_)); replace BK244 := Aside0.mk (blk_kept (pB BK244) hkp (fun hs_ => (fun e_ => (Kd.R_ne HO243.out BK244.out (by decide)) e_) hs_)); replace HO248 := Aside0.mk (Kd.R_mono (ok' := fun k_ => some k_ ≠ (v225 : Value).ownBlock ∧ some k_ ≠ (v229 : Value).ownBlock ∧ some k_ ≠ (.slice Ao79 t232.length co79 : Value).ownBlock ∧ some k_ ≠ (.slice Ao89 t241.length co89 : Value).ownBlock ∧ some k_ ≠ (.slice Ao109 t251.length co109 : Value).ownBlock ∧ some k_ ≠ (.slice Ao117 t262.length co117 : Value).ownBlock ∧ some k_ ≠ (.slice Ao121 t267.length co121 : Value).ownBlock) (Kd.R_keptB (HO248.out) hkp (fun k_ hk_ hs_ => (hk_.1.1.1.2) hs_)) (fun k_ hk_ => ⟨hk_.1.1.1.1.1.1.1.2, hk_.1.1.1.1.1.1.2, hk_.1.1.1.1.1.2, hk_.1.1.1.1.2, hk_.1.1.1.2, hk_.1.1.2, hk_.1.2⟩)); replace BK249 := Aside0.mk (blk_kept (pB BK249) hkp (fun hs_ => (fun e_ => (Kd.R_ne HO243.out BK249.out (by decide)) e_) hs_)); replace HO253 := Aside0.mk (Kd.R_mono (ok' := fun k_ => some k_ ≠ (v225 : Value).ownBlock ∧ some k_ ≠ (v229 : Value).ownBlock ∧ some k_ ≠ (.slice Ao79 t232.length co79 : Value).ownBlock ∧ some k_ ≠ (.slice Ao89 t241.length co89 : Value).ownBlock ∧ some k_ ≠ (.slice Ao99 t246.length co99 : Value).ownBlock ∧ some k_ ≠ (.slice Ao117 t262.length co117 : Value).ownBlock ∧ some k_ ≠ (.slice Ao121 t267.length co121 : Value).ownBlock) (Kd.R_keptB (HO253.out) hkp (fun k_ hk_ hs_ => (hk_.1.1.1.2) hs_)) (fun k_ hk_ => ⟨hk_.1.1.1.1.1.1.1.2, hk_.1.1.1.1.1.1.2, hk_.1.1.1.1.1.2, hk_.1.1.1.1.2, hk_.1.1.1.2, hk_.1.1.2, hk_.1.2⟩)); replace HO256 := Aside0.mk (Kd.R_mono (ok' := fun k_ => some k_ ≠ (.slice Ao113 t235.length co113 : Value).ownBlock) (Kd.R_keptB ((Kd.R_apart' HO256.out (Kd.R_typed HO243.out) (by decide))) hkp (fun k_ hk_ hs_ => (hk_.2) hs_)) (fun k_ hk_ => hk_.1.1.2)); replace BK258 := Aside0.mk (blk_kept (pB BK258) hkp (fun hs_ => (fun e_ => (Kd.R_ne HO243.out BK258.out (by decide)) e_) hs_)); replace HO243 := Aside0.mk (Kd.R_reok rfl hy0 (fun k_ e_ => HO243.out.1 k_ e_)); replace HO264 := Aside0.mk (Kd.R_mono (ok' := fun k_ => some k_ ≠ (v225 : Value).ownBlock ∧ some k_ ≠ (v229 : Value).ownBlock ∧ some k_ ≠ (.slice Ao79 t232.length co79 : Value).ownBlock ∧ some k_ ≠ (.slice Ao89 t241.length co89 : Value).ownBlock ∧ some k_ ≠ (.slice Ao99 t246.length co99 : Value).ownBlock ∧ some k_ ≠ (.slice Ao109 t251.length co109 : Value).ownBlock ∧ some k_ ≠ (.slice Ao121 t267.length co121 : Value).ownBlock) (Kd.R_keptB (HO264.out) hkp (fun k_ hk_ hs_ => (hk_.1.1.1.2) hs_)) (fun k_ hk_ => ⟨hk_.1.1.1.1.1.1.1.2, hk_.1.1.1.1.1.1.2, hk_.1.1.1.1.1.2, hk_.1.1.1.1.2, hk_.1.1.1.2, hk_.1.1.2, hk_.1.2⟩)); replace HO269 := Aside0.mk (Kd.R_mono (ok' := fun k_ => some k_ ≠ (v225 : Value).ownBlock ∧ some k_ ≠ (v229 : Value).ownBlock ∧ some k_ ≠ (.slice Ao79 t232.length co79 : Value).ownBlock ∧ some k_ ≠ (.slice Ao89 t241.length co89 : Value).ownBlock ∧ some k_ ≠ (.slice Ao99 t246.length co99 : Value).ownBlock ∧ some k_ ≠ (.slice Ao109 t251.length co109 : Value).ownBlock ∧ some k_ ≠ (.slice Ao117 t262.length co117 : Value).ownBlock) (Kd.R_keptB (HO269.out) hkp (fun k_ hk_ hs_ => (hk_.1.1.1.2) hs_)) (fun k_ hk_ => ⟨hk_.1.1.1.1.1.1.1.2, hk_.1.1.1.1.1.1.2, hk_.1.1.1.1.1.2, hk_.1.1.1.1.2, hk_.1.1.1.2, hk_.1.1.2, hk_.1.2⟩)); replace HB := Aside0.mk (hb); (try clear hb); (try clear hkp); (try clear hy0); have hcz125_0 : w124.cell? ⟨gb249, 0, none⟩ = some (.int .i64 t245) := cB BK249 0; have hcz125_1 : w124.cell? ⟨gb249, 1, none⟩ = some (.slice Ao99 t246.length co99) := cB BK249 1; have hfz125_0 := zB BK249 0; have hfz125_1 := zB BK249 1) | ((with_reducible refine gate_callee (f := 21) rfl ?_); refine cl_ (some 80) Try.func21 #[.agg #[.int .i64 t245, .slice Ao99 t246.length co99], .int .i64 t271] ?_; (with_reducible refine (laws_markComplex.calls k t245 (fun k_ => some k_ = (.slice Ao99 t246.length co99 : Value).ownBlock) (.slice Ao99 t246.length co99) t246 t271 t273 t274 w _ ?side1 ?side2 A37.out).mono ?_); (case side1 => repeat (first | (with_reducible first | exact HB.out | apply below_alloc | apply pw_below_drewN | apply below_drew1 | refine below_set ?_ GE219.out | refine below_set ?_ GE220.out | refine below_set ?_ GE239.out | refine below_set ?_ GE244.out | refine below_set ?_ GE249.out | refine below_set ?_ GE258.out) | exact HB.out)); (case side2 => exact Kd.R_tight rfl HO248.out); rintro e w126 ⟨rfl, hy0, hb, hkp⟩; refine ⟨_, rfl, ?_⟩; replace BK219 := Aside0.mk (blk_kept (pB BK219) hkp (fun hs_ => (fun e_ => (Kd.R_ne HO248.out BK219.out (by decide)) e_) hs_)); replace BK220 := Aside0.mk (blk_kept (pB BK220) hkp (fun hs_ => (fun e_ => (Kd.R_ne HO248.out BK220.out (by decide)) e_) hs_)); replace HO226 := Aside0.mk (Kd.R_mono (ok' := fun k_ => some k_ ≠ (v229 : Value).ownBlock ∧ some k_ ≠ (.slice Ao79 t232.length co79 : Value).ownBlock ∧ some k_ ≠ (.slice Ao89 t241.length co89 : Value).ownBlock ∧ some k_ ≠ (.slice Ao99 t246.length co99 : Value).ownBlock ∧ some k_ ≠ (.slice Ao109 t251.length co109 : Value).ownBlock ∧ some k_ ≠ (.slice Ao117 t262.length co117 : Value).ownBlock ∧ some k_ ≠ (.slice Ao121 t267.length co121 : Value).ownBlock) (Kd.R_keptB (HO226.out) hkp (fun k_ hk_ hs_ => (hk_.2.2.2.1) hs_)) (fun k_ hk_ => ⟨hk_.1.1, hk_.1.2.1, hk_.1.2.2.1, hk_.1.2.2.2.1, hk_.1.2.2.2.2.1, hk_.1.2.2.2.2.2.1, hk_.1.2.2.2.2.2.2⟩)); replace HO230 := Aside0.mk (Kd.R_mono (ok' := fun k_ => some k_ ≠ (v225 : Value).ownBlock ∧ some k_ ≠ (.slice Ao79 t232.length co79 : Value).ownBlock ∧ some k_ ≠ (.slice Ao89 t241.length co89 : Value).ownBlock ∧ some k_ ≠ (.slice Ao99 t246.length co99 : Value).ownBlock ∧ some k_ ≠ (.slice Ao109 t251.length co109 : Value).ownBlock ∧ some k_ ≠ (.slice Ao117 t262.length co117 : Value).ownBlock ∧ some k_ ≠ (.slice Ao121 t267.length co121 : Value).ownBlock) (Kd.R_keptB (HO230.out) hkp (fun k_ hk_ hs_ => (hk_.2.2.2.1) hs_)) (fun k_ hk_ => ⟨hk_.1.1, hk_.1.2.1, hk_.1.2.2.1, hk_.1.2.2.2.1, hk_.1.2.2.2.2.1, hk_.1.2.2.2.2.2.1, hk_.1.2.2.2.2.2.2⟩)); replace HO234 := Aside0.mk (Kd.R_mono (ok' := fun k_ => some k_ ≠ (v225 : Value).ownBlock ∧ some k_ ≠ (v229 : Value).ownBlock ∧ some k_ ≠ (.slice Ao89 t241.length co89 : Value).ownBlock ∧ some k_ ≠ (.slice Ao99 t246.length co99 : Value).ownBlock ∧ some k_ ≠ (.slice Ao109 t251.length co109 : Value).ownBlock ∧ some k_ ≠ (.slice Ao117 t262.length co117 : Value).ownBlock ∧ some k_ ≠ (.slice Ao121 t267.length co121 : Value).ownBlock) (Kd.R_keptB (HO234.out) hkp (fun k_ hk_ hs_ => (hk_.2.2.2.1) hs_)) (fun k_ hk_ => ⟨hk_.1.1, hk_.1.2.1, hk_.1.2.2.1, hk_.1.2.2.2.1, hk_.1.2.2.2.2.1, hk_.1.2.2.2.2.2.1, hk_.1.2.2.2.2.2.2⟩)); replace HO237 := Aside0.mk (Kd.R_mono (ok' := fun k_ => some k_ ≠ (.slice Ao112 t254.length co112 : Value).ownBlock) (Kd.R_keptB ((Kd.R_apart' HO237.out (Kd.R_typed HO248.out) (by decide))) hkp (fun k_ hk_ hs_ => (hk_.2) hs_)) (fun k_ hk_ => hk_.1.1)); replace BK239 := Aside0.mk (blk_kept (pB BK239) hkp (fun hs_ => (fun e_ => (Kd.R_ne HO248.out BK239.out (by decide)) e_) hs_)); replace HO243 := Aside0.mk (Kd.R_mono (ok' := fun k_ => some k_ ≠ (v225 : Value).ownBlock ∧ some k_ ≠ (v229 : Value).ownBlock ∧ some k_ ≠ (.slice Ao79 t232.length co79 : Value).ownBlock ∧ some k_ ≠ (.slice Ao99 t246.length co99 : Value).ownBlock ∧ some k_ ≠ (.slice Ao109 t251.length co109 : Value).ownBlock ∧ some k_ ≠ (.slice Ao117 t262.length co117 : Value).ownBlock ∧ some k_ ≠ (.slice Ao121 t267.length co121 : Value).ownBlock) (Kd.R_keptB (HO243.out) hkp (fun k_ hk_ hs_ => (hk_.1.1.1.2) hs_)) (fun k_ hk_ => ⟨hk_.1.1.1.1.1.1.1.2, hk_.1.1.1.1.1.1.2, hk_.1.1.1.1.1.2, hk_.1.1.1.1.2, hk_.1.1.1.2, hk_.1.1.2, hk_.1.2⟩)); replace BK244 := Aside0.mk (blk_kept (pB BK244) hkp (fun hs_ => (fun e_ => (Kd.R_ne HO248.out BK244.out (by decide)) e_) hs_)); replace BK249 := Aside0.mk (blk_kept (pB BK249) hkp (fun hs_ => (fun e_ => (Kd.R_ne HO248.out BK249.out (by decide)) e_) hs_)); replace HO253 := Aside0.mk (Kd.R_mono (ok' := fun k_ => some k_ ≠ (v225 : Value).ownBlock ∧ some k_ ≠ (v229 : Value).ownBlock ∧ some k_ ≠ (.slice Ao79 t232.length co79 : Value).ownBlock ∧ some k_ ≠ (.slice Ao89 t241.length co89 : Value).ownBlock ∧ some k_ ≠ (.slice Ao99 t246.length co99 : Value).ownBlock ∧ some k_ ≠ (.slice Ao117 t262.length co117 : Value).ownBlock ∧ some k_ ≠ (.slice Ao121 t267.length co121 : Value).ownBlock) (Kd.R_keptB (HO253.out) hkp (fun k_ hk_ hs_ => (hk_.2.2.2.2.1) hs_)) (fun k_ hk_ => ⟨hk_.1.1, hk_.1.2.1, hk_.1.2.2.1, hk_.1.2.2.2.1, hk_.1.2.2.2.2.1, hk_.1.2.2.2.2.2.1, hk_.1.2.2.2.2.2.2⟩)); replace HO256 := Aside0.mk (Kd.R_mono (ok' := fun k_ => some k_ ≠ (.slice Ao113 t235.length co113 : Value).ownBlock) (Kd.R_keptB ((Kd.R_apart' HO256.out (Kd.R_typed HO248.out) (by decide))) hkp (fun k_ hk_ hs_ => (hk_.2) hs_)) (fun k_ hk_ => hk_.1.1)); replace BK258 := Aside0.mk (blk_kept (pB BK258) hkp (fun hs_ => (fun e_ => (Kd.R_ne HO248.out BK258.out (by decide)) e_) hs_)); replace HO248 := Aside0.mk (Kd.R_reok rfl hy0 (fun k_ e_ => HO248.out.1 k_ e_)); replace HO264 := Aside0.mk (Kd.R_mono (ok' := fun k_ => some k_ ≠ (v225 : Value).ownBlock ∧ some k_ ≠ (v229 : Value).ownBlock ∧ some k_ ≠ (.slice Ao79 t232.length co79 : Value).ownBlock ∧ some k_ ≠ (.slice Ao89 t241.length co89 : Value).ownBlock ∧ some k_ ≠ (.slice Ao99 t246.length co99 : Value).ownBlock ∧ some k_ ≠ (.slice Ao109 t251.length co109 : Value).ownBlock ∧ some k_ ≠ (.slice Ao121 t267.length co121 : Value).ownBlock) (Kd.R_keptB (HO264.out) hkp (fun k_ hk_ hs_ => (hk_.2.2.2.2.1) hs_)) (fun k_ hk_ => ⟨hk_.1.1, hk_.1.2.1, hk_.1.2.2.1, hk_.1.2.2.2.1, hk_.1.2.2.2.2.1, hk_.1.2.2.2.2.2.1, hk_.1.2.2.2.2.2.2⟩)); replace HO269 := Aside0.mk (Kd.R_mono (ok' := fun k_ => some k_ ≠ (v225 : Value).ownBlock ∧ some k_ ≠ (v229 : Value).ownBlock ∧ some k_ ≠ (.slice Ao79 t232.length co79 : Value).ownBlock ∧ some k_ ≠ (.slice Ao89 t241.length co89 : Value).ownBlock ∧ some k_ ≠ (.slice Ao99 t246.length co99 : Value).ownBlock ∧ some k_ ≠ (.slice Ao109 t251.length co109 : Value).ownBlock ∧ some k_ ≠ (.slice Ao117 t262.length co117 : Value).ownBlock) (Kd.R_keptB (HO269.out) hkp (fun k_ hk_ hs_ => (hk_.2.2.2.2.1) hs_)) (fun k_ hk_ => ⟨hk_.1.1, hk_.1.2.1, hk_.1.2.2.1, hk_.1.2.2.2.1, hk_.1.2.2.2.2.1, hk_.1.2.2.2.2.2.1, hk_.1.2.2.2.2.2.2⟩)); replace HB := Aside0.mk (hb); (try clear hb); (try clear hkp); (try clear hy0); have hcz127_0 : w126.cell? ⟨gb258, 0, none⟩ = some (.int .i64 t250) := cB BK258 0; have hcz127_1 : w126.cell? ⟨gb258, 1, none⟩ = some (.slice Ao109 t251.length co109) := cB BK258 1; have hfz127_0 := zB BK258 0; have hfz127_1 := zB BK258 1; have hcz128_0 : w126.cell? ⟨gb239, 0, none⟩ = some (.int .i64 t231) := cB BK239 0; have hcz128_1 : w126.cell? ⟨gb239, 1, none⟩ = some (.slice Ao79 t232.length co79) := cB BK239 1; have hfz128_0 := zB BK239 0; have hfz128_1 := zB BK239 1) | (go_at_call 19; (with_reducible refine (laws_eqComplex.calls k t250 _ _ t251 t231 _ _ t232 true _ ?side1 ?side2 ?side3 ?side4 A39.out).mono ?_); (case side1 => exact pC ((Kd.R_reads' HO253.out).2.2)); (case side2 => exact (Kd.R_reads' HO253.out).2.1); (case side3 => exact pC ((Kd.R_reads' HO234.out).2.2)); (case side4 => exact (Kd.R_reads' HO234.out).2.1); rintro e w129 ⟨rfl, hb⟩; replace HO226 := sR HO226 hb; replace HO230 := sR HO230 hb; replace HO234 := sR HO234 hb; replace HO237 := sR HO237 hb; replace HO243 := sR HO243 hb; replace HO248 := sR HO248 hb; replace HO253 := sR HO253 hb; replace HO256 := sR HO256 hb; replace HO264 := sR HO264 hb; replace HO269 := sR HO269 hb; replace BK219 := sB BK219 hb; replace BK220 := sB BK220 hb; replace BK239 := sB BK239 hb; replace BK244 := sB BK244 hb; replace BK249 := sB BK249 hb; replace BK258 := sB BK258 hb; replace HB := sH HB hb; (try clear hb); (try clear hi)) | (go_at_call 20; (with_reducible refine (laws_eqPairS.calls k _ _ t254 _ _ t235 true _ ?side1 ?side2 ?side3 ?side4 A41.out).mono ?_); (case side1 => exact pC ((Kd.R_reads' HO256.out).2.2)); (case side2 => exact (Kd.R_reads' HO256.out).2.1); (case side3 => exact pC ((Kd.R_reads' HO237.out).2.2)); (case side4 => exact (Kd.R_reads' HO237.out).2.1); rintro e w130 ⟨rfl, hb⟩; replace HO226 := sR HO226 hb; replace HO230 := sR HO230 hb; replace HO234 := sR HO234 hb; replace HO237 := sR HO237 hb; replace HO243 := sR HO243 hb; replace HO248 := sR HO248 hb; replace HO253 := sR HO253 hb; replace HO256 := sR HO256 hb; replace HO264 := sR HO264 hb; replace HO269 := sR HO269 hb; replace BK219 := sB BK219 hb; replace BK220 := sB BK220 hb; replace BK239 := sB BK239 hb; replace BK244 := sB BK244 hb; replace BK249 := sB BK249 hb; replace BK258 := sB BK258 hb; replace HB := sH HB hb; (try clear hb); (try clear hi); have hcz131_0 : w130.cell? ⟨gb258, 0, none⟩ = some (.int .i64 t250) := cB BK258 0; have hcz131_1 : w130.cell? ⟨gb258, 1, none⟩ = some (.slice Ao109 t251.length co109) := cB BK258 1; have hfz131_0 := zB BK258 0; have hfz131_1 := zB BK258 1) | ((with_reducible refine gate_callee (f := 21) rfl ?_); refine cl_ (some 102) Try.func21 #[.agg #[.int .i64 t250, .slice Ao109 t251.length co109], .int .i64 1] ?_; (with_reducible refine (laws_markComplex.calls k t250 (fun k_ => some k_ = (.slice Ao109 t251.length co109 : Value).ownBlock) (.slice Ao109 t251.length co109) t251 1 t277 t278 w _ ?side1 ?side2 A43.out).mono ?_); (case side1 => repeat (first | (with_reducible first | exact HB.out | apply below_alloc | apply pw_below_drewN | apply below_drew1 | refine below_set ?_ GE219.out | refine below_set ?_ GE220.out | refine below_set ?_ GE239.out | refine below_set ?_ GE244.out | refine below_set ?_ GE249.out | refine below_set ?_ GE258.out) | exact HB.out)); (case side2 => exact Kd.R_tight rfl HO253.out); rintro e w132 ⟨rfl, hy0, hb, hkp⟩; refine ⟨_, rfl, ?_⟩; replace BK219 := Aside0.mk (blk_kept (pB BK219) hkp (fun hs_ => (fun e_ => (Kd.R_ne HO253.out BK219.out (by decide)) e_) hs_)); replace BK220 := Aside0.mk (blk_kept (pB BK220) hkp (fun hs_ => (fun e_ => (Kd.R_ne HO253.out BK220.out (by decide)) e_) hs_)); replace HO226 := Aside0.mk (Kd.R_mono (ok' := fun k_ => some k_ ≠ (v229 : Value).ownBlock ∧ some k_ ≠ (.slice Ao79 t232.length co79 : Value).ownBlock ∧ some k_ ≠ (.slice Ao89 t241.length co89 : Value).ownBlock ∧ some k_ ≠ (.slice Ao99 t246.length co99 : Value).ownBlock ∧ some k_ ≠ (.slice Ao109 t251.length co109 : Value).ownBlock ∧ some k_ ≠ (.slice Ao117 t262.length co117 : Value).ownBlock ∧ some k_ ≠ (.slice Ao121 t267.length co121 : Value).ownBlock) (Kd.R_keptB (HO226.out) hkp (fun k_ hk_ hs_ => (hk_.2.2.2.2.1) hs_)) (fun k_ hk_ => ⟨hk_.1.1, hk_.1.2.1, hk_.1.2.2.1, hk_.1.2.2.2.1, hk_.1.2.2.2.2.1, hk_.1.2.2.2.2.2.1, hk_.1.2.2.2.2.2.2⟩)); replace HO230 := Aside0.mk (Kd.R_mono (ok' := fun k_ => some k_ ≠ (v225 : Value).ownBlock ∧ some k_ ≠ (.slice Ao79 t232.length co79 : Value).ownBlock ∧ some k_ ≠ (.slice Ao89 t241.length co89 : Value).ownBlock ∧ some k_ ≠ (.slice Ao99 t246.length co99 : Value).ownBlock ∧ some k_ ≠ (.slice Ao109 t251.length co109 : Value).ownBlock ∧ some k_ ≠ (.slice Ao117 t262.length co117 : Value).ownBlock ∧ some k_ ≠ (.slice Ao121 t267.length co121 : Value).ownBlock) (Kd.R_keptB (HO230.out) hkp (fun k_ hk_ hs_ => (hk_.2.2.2.2.1) hs_)) (fun k_ hk_ => ⟨hk_.1.1, hk_.1.2.1, hk_.1.2.2.1, hk_.1.2.2.2.1, hk_.1.2.2.2.2.1, hk_.1.2.2.2.2.2.1, hk_.1.2.2.2.2.2.2⟩)); replace HO234 := Aside0.mk (Kd.R_mono (ok' := fun k_ => some k_ ≠ (v225 : Value).ownBlock ∧ some k_ ≠ (v229 : Value).ownBlock ∧ some k_ ≠ (.slice Ao89 t241.length co89 : Value).ownBlock ∧ some k_ ≠ (.slice Ao99 t246.length co99 : Value).ownBlock ∧ some k_ ≠ (.slice Ao109 t251.length co109 : Value).ownBlock ∧ some k_ ≠ (.slice Ao117 t262.length co117 : Value).ownBlock ∧ some k_ ≠ (.slice Ao121 t267.length co121 : Value).ownBlock) (Kd.R_keptB (HO234.out) hkp (fun k_ hk_ hs_ => (hk_.2.2.2.2.1) hs_)) (fun k_ hk_ => ⟨hk_.1.1, hk_.1.2.1, hk_.1.2.2.1, hk_.1.2.2.2.1, hk_.1.2.2.2.2.1, hk_.1.2.2.2.2.2.1, hk_.1.2.2.2.2.2.2⟩)); replace HO237 := Aside0.mk (Kd.R_mono (ok' := fun k_ => some k_ ≠ (.slice Ao112 t254.length co112 : Value).ownBlock) (Kd.R_keptB ((Kd.R_apart' HO237.out (Kd.R_typed HO253.out) (by decide))) hkp (fun k_ hk_ hs_ => (hk_.2) hs_)) (fun k_ hk_ => hk_.1.1)); replace BK239 := Aside0.mk (blk_kept (pB BK239) hkp (fun hs_ => (fun e_ => (Kd.R_ne HO253.out BK239.out (by decide)) e_) hs_)); replace HO243 := Aside0.mk (Kd.R_mono (ok' := fun k_ => some k_ ≠ (v225 : Value).ownBlock ∧ some k_ ≠ (v229 : Value).ownBlock ∧ some k_ ≠ (.slice Ao79 t232.length co79 : Value).ownBlock ∧ some k_ ≠ (.slice Ao99 t246.length co99 : Value).ownBlock ∧ some k_ ≠ (.slice Ao109 t251.length co109 : Value).ownBlock ∧ some k_ ≠ (.slice Ao117 t262.length co117 : Value).ownBlock ∧ some k_ ≠ (.slice Ao121 t267.length co121 : Value).ownBlock) (Kd.R_keptB (HO243.out) hkp (fun k_ hk_ hs_ => (hk_.2.2.2.2.1) hs_)) (fun k_ hk_ => ⟨hk_.1.1, hk_.1.2.1, hk_.1.2.2.1, hk_.1.2.2.2.1, hk_.1.2.2.2.2.1, hk_.1.2.2.2.2.2.1, hk_.1.2.2.2.2.2.2⟩)); replace BK244 := Aside0.mk (blk_kept (pB BK244) hkp (fun hs_ => (fun e_ => (Kd.R_ne HO253.out BK244.out (by decide)) e_) hs_)); replace HO248 := Aside0.mk (Kd.R_mono (ok' := fun k_ => some k_ ≠ (v225 : Value).ownBlock ∧ some k_ ≠ (v229 : Value).ownBlock ∧ some k_ ≠ (.slice Ao79 t232.length co79 : Value).ownBlock ∧ some k_ ≠ (.slice Ao89 t241.length co89 : Value).ownBlock ∧ some k_ ≠ (.slice Ao109 t251.length co109 : Value).ownBlock ∧ some k_ ≠ (.slice Ao117 t262.length co117 : Value).ownBlock ∧ some k_ ≠ (.slice Ao121 t267.length co121 : Value).ownBlock) (Kd.R_keptB (HO248.out) hkp (fun k_ hk_ hs_ => (hk_.2.2.2.2.1) hs_)) (fun k_ hk_ => ⟨hk_.1.1, hk_.1.2.1, hk_.1.2.2.1, hk_.1.2.2.2.1, hk_.1.2.2.2.2.1, hk_.1.2.2.2.2.2.1, hk_.1.2.2.2.2.2.2⟩)); replace BK249 := Aside0.mk (blk_kept (pB BK249) hkp (fun hs_ => (fun e_ => (Kd.R_ne HO253.out BK249.out (by decide)) e_) hs_)); replace HO256 := Aside0.mk (Kd.R_mono (ok' := fun k_ => some k_ ≠ (.slice Ao113 t235.length co113 : Value).ownBlock) (Kd.R_keptB ((Kd.R_apart' HO256.out (Kd.R_typed HO253.out) (by decide))) hkp (fun k_ hk_ hs_ => (hk_.2) hs_)) (fun k_ hk_ => hk_.1.1)); replace BK258 := Aside0.mk (blk_kept (pB BK258) hkp (fun hs_ => (fun e_ => (Kd.R_ne HO253.out BK258.out (by decide)) e_) hs_)); replace HO253 := Aside0.mk (Kd.R_reok rfl hy0 (fun k_ e_ => HO253.out.1 k_ e_)); replace HO264 := Aside0.mk (Kd.R_mono (ok' := fun k_ => some k_ ≠ (v225 : Value).ownBlock ∧ some k_ ≠ (v229 : Value).ownBlock ∧ some k_ ≠ (.slice Ao79 t232.length co79 : Value).ownBlock ∧ some k_ ≠ (.slice Ao89 t241.length co89 : Value).ownBlock ∧ some k_ ≠ (.slice Ao99 t246.length co99 : Value).ownBlock ∧ some k_ ≠ (.slice Ao109 t251.length co109 : Value).ownBlock ∧ some k_ ≠ (.slice Ao121 t267.length co121 : Value).ownBlock) (Kd.R_keptB (HO264.out) hkp (fun k_ hk_ hs_ => (hk_.2.2.2.2.2.1) hs_)) (fun k_ hk_ => ⟨hk_.1.1, hk_.1.2.1, hk_.1.2.2.1, hk_.1.2.2.2.1, hk_.1.2.2.2.2.1, hk_.1.2.2.2.2.2.1, hk_.1.2.2.2.2.2.2⟩)); replace HO269 := Aside0.mk (Kd.R_mono (ok' := fun k_ => some k_ ≠ (v225 : Value).ownBlock ∧ some k_ ≠ (v229 : Value).ownBlock ∧ some k_ ≠ (.slice Ao79 t232.length co79 : Value).ownBlock ∧ some k_ ≠ (.slice Ao89 t241.length co89 : Value).ownBlock ∧ some k_ ≠ (.slice Ao99 t246.length co99 : Value).ownBlock ∧ some k_ ≠ (.slice Ao109 t251.length co109 : Value).ownBlock ∧ some k_ ≠ (.slice Ao117 t262.length co117 : Value).ownBlock) (Kd.R_keptB (HO269.out) hkp (fun k_ hk_ hs_ => (hk_.2.2.2.2.2.1) hs_)) (fun k_ hk_ => ⟨hk_.1.1, hk_.1.2.1, hk_.1.2.2.1, hk_.1.2.2.2.1, hk_.1.2.2.2.2.1, hk_.1.2.2.2.2.2.1, hk_.1.2.2.2.2.2.2⟩)); replace HB := Aside0.mk (hb); (try clear hb); (try clear hkp); (try clear hy0)) | ((with_reducible refine gate_callee (f := 22) rfl ?_); refine cl_ (some 105) Try.func22 #[.slice Ao112 t254.length co112, .int .i64 t277] ?_; (with_reducible refine (laws_markPairS.calls (fun k_ => some k_ = (.slice Ao112 t254.length co112 : Value).ownBlock) (.slice Ao112 t254.length co112) t254 t277 t279 t280 w _ ?side1 ?side2 A44.out).mono ?_); (case side1 => repeat (first | (with_reducible first | exact HB.out | apply below_alloc | apply pw_below_drewN | apply below_drew1 | refine below_set ?_ GE219.out | refine below_set ?_ GE220.out | refine below_set ?_ GE239.out | refine below_set ?_ GE244.out | refine below_set ?_ GE249.out | refine below_set ?_ GE258.out) | exact HB.out)); (case side2 => exact Kd.R_tight rfl HO256.out); rintro e w133 ⟨rfl, hy0, hb, hkp⟩; refine ⟨_, rfl, ?_⟩; replace BK219 := Aside0.mk (blk_kept (pB BK219) hkp (fun hs_ => (fun e_ => (Kd.R_ne HO256.out BK219.out (by decide)) e_) hs_)); replace BK220 := Aside0.mk (blk_kept (pB BK220) hkp (fun hs_ => (fun e_ => (Kd.R_ne HO256.out BK220.out (by decide)) e_) hs_)); replace HO226 := Aside0.mk (Kd.R_mono (ok' := fun k_ => some k_ ≠ (v229 : Value).ownBlock ∧ some k_ ≠ (.slice Ao79 t232.length co79 : Value).ownBlock ∧ some k_ ≠ (.slice Ao89 t241.length co89 : Value).ownBlock ∧ some k_ ≠ (.slice Ao99 t246.length co99 : Value).ownBlock ∧ some k_ ≠ (.slice Ao109 t251.length co109 : Value).ownBlock ∧ some k_ ≠ (.slice Ao117 t262.length co117 : Value).ownBlock ∧ some k_ ≠ (.slice Ao121 t267.length co121 : Value).ownBlock) (Kd.R_keptB ((Kd.R_apart' HO226.out (Kd.R_typed HO256.out) (by decide))) hkp (fun k_ hk_ hs_ => (hk_.2) hs_)) (fun k_ hk_ => ⟨hk_.1.1.1, hk_.1.1.2.1, hk_.1.1.2.2.1, hk_.1.1.2.2.2.1, hk_.1.1.2.2.2.2.1, hk_.1.1.2.2.2.2.2.1, hk_.1.1.2.2.2.2.2.2⟩)); replace HO230 := Aside0.mk (Kd.R_mono (ok' := fun k_ => some k_ ≠ (v225 : Value).ownBlock ∧ some k_ ≠ (.slice Ao79 t232.length co79 : Value).ownBlock ∧ some k_ ≠ (.slice Ao89 t241.length co89 : Value).ownBlock ∧ some k_ ≠ (.slice Ao99 t246.length co99 : Value).ownBlock ∧ some k_ ≠ (.slice Ao109 t251.length co109 : Value).ownBlock ∧ some k_ ≠ (.slice Ao117 t262.length co117 : Value).ownBlock ∧ some k_ ≠ (.slice Ao121 t267.length co121 : Value).ownBlock) (Kd.R_keptB ((Kd.R_apart' HO230.out (Kd.R_typed HO256.out) (by decide))) hkp (fun k_ hk_ hs_ => (hk_.2) hs_)) (fun k_ hk_ => ⟨hk_.1.1.1, hk_.1.1.2.1, hk_.1.1.2.2.1, hk_.1.1.2.2.2.1, hk_.1.1.2.2.2.2.1, hk_.1.1.2.2.2.2.2.1, hk_.1.1.2.2.2.2.2.2⟩)); replace HO234 := Aside0.mk (Kd.R_mono (ok' := fun k_ => some k_ ≠ (v225 : Value).ownBlock ∧ some k_ ≠ (v229 : Value).ownBlock ∧ some k_ ≠ (.slice Ao89 t241.length co89 : Value).ownBlock ∧ some k_ ≠ (.slice Ao99 t246.length co99 : Value).ownBlock ∧ some k_ ≠ (.slice Ao109 t251.length co109 : Value).ownBlock ∧ some k_ ≠ (.slice Ao117 t262.length co117 : Value).ownBlock ∧ some k_ ≠ (.slice Ao121 t267.length co121 : Value).ownBlock) (Kd.R_keptB ((Kd.R_apart' HO234.out (Kd.R_typed HO256.out) (by decide))) hkp (fun k_ hk_ hs_ => (hk_.2) hs_)) (fun k_ hk_ => ⟨hk_.1.1.1, hk_.1.1.2.1, hk_.1.1.2.2.1, hk_.1.1.2.2.2.1, hk_.1.1.2.2.2.2.1, hk_.1.1.2.2.2.2.2.1, hk_.1.1.2.2.2.2.2.2⟩)); replace HO237 := Aside0.mk (Kd.R_mono (ok' := fun k_ => some k_ ≠ (.slice Ao112 t254.length co112 : Value).ownBlock) (Kd.R_keptB (HO237.out) hkp (fun k_ hk_ hs_ => (hk_) hs_)) (fun k_ hk_ => hk_.1)); replace BK239 := Aside0.mk (blk_kept (pB BK239) hkp (fun hs_ => (fun e_ => (Kd.R_ne HO256.out BK239.out (by decide)) e_) hs_)); replace HO243 := Aside0.mk (Kd.R_mono (ok' := fun k_ => some k_ ≠ (v225 : Value).ownBlock ∧ some k_ ≠ (v229 : Value).ownBlock ∧ some k_ ≠ (.slice Ao79 t232.length co79 : Value).ownBlock ∧ some k_ ≠ (.slice Ao99 t246.length co99 : Value).ownBlock ∧ some k_ ≠ (.slice Ao109 t251.length co109 : Value).ownBlock ∧ some k_ ≠ (.slice Ao117 t262.length co117 : Value).ownBlock ∧ some k_ ≠ (.slice Ao121 t267.length co121 : Value).ownBlock) (Kd.R_keptB ((Kd.R_apart' HO243.out (Kd.R_typed HO256.out) (by decide))) hkp (fun k_ hk_ hs_ => (hk_.2) hs_)) (fun k_ hk_ => ⟨hk_.1.1.1, hk_.1.1.2.1, hk_.1.1.2.2.1, hk_.1.1.2.2.2.1, hk_.1.1.2.2.2.2.1, hk_.1.1.2.2.2.2.2.1, hk_.1.1.2.2.2.2.2.2⟩)); replace BK244 := Aside0.mk (blk_kept (pB BK244) hkp (fun hs_ => (fun e_ => (Kd.R_ne HO256.out BK244.out (by decide)) e_) hs_)); replace HO248 := Aside0.mk (Kd.R_mono (ok' := fun k_ => some k_ ≠ (v225 : Value).ownBlock ∧ some k_ ≠ (v229 : Value).ownBlock ∧ some k_ ≠ (.slice Ao79 t232.length co79 : Value).ownBlock ∧ some k_ ≠ (.slice Ao89 t241.length co89 : Value).ownBlock ∧ some k_ ≠ (.slice Ao109 t251.length co109 : Value).ownBlock ∧ some k_ ≠ (.slice Ao117 t262.length co117 : Value).ownBlock ∧ some k_ ≠ (.slice Ao121 t267.length co121 : Value).ownBlock) (Kd.R_keptB ((Kd.R_apart' HO248.out (Kd.R_typed HO256.out) (by decide))) hkp (fun k_ hk_ hs_ => (hk_.2) hs_)) (fun k_ hk_ => ⟨hk_.1.1.1, hk_.1.1.2.1, hk_.1.1.2.2.1, hk_.1.1.2.2.2.1, hk_.1.1.2.2.2.2.1, hk_.1.1.2.2.2.2.2.1, hk_.1.1.2.2.2.2.2.2⟩)); replace BK249 := Aside0.mk (blk_kept (pB BK249) hkp (fun hs_ => (fun e_ => (Kd.R_ne HO256.out BK249.out (by decide)) e_) hs_)); replace HO253 := Aside0.mk (Kd.R_mono (ok' := fun k_ => some k_ ≠ (v225 : Value).ownBlock ∧ some k_ ≠ (v229 : Value).ownBlock ∧ some k_ ≠ (.slice Ao79 t232.length co79 : Value).ownBlock ∧ some k_ ≠ (.slice Ao89 t241.length co89 : Value).ownBlock ∧ some k_ ≠ (.slice Ao99 t246.length co99 : Value).ownBlock ∧ some k_ ≠ (.slice Ao117 t262.length co117 : Value).ownBlock ∧ some k_ ≠ (.slice Ao121 t267.length co121 : Value).ownBlock) (Kd.R_keptB ((Kd.R_apart' HO253.out (Kd.R_typed HO256.out) (by decide))) hkp (fun k_ hk_ hs_ => (hk_.2) hs_)) (fun k_ hk_ => ⟨hk_.1.1.1, hk_.1.1.2.1, hk_.1.1.2.2.1, hk_.1.1.2.2.2.1, hk_.1.1.2.2.2.2.1, hk_.1.1.2.2.2.2.2.1, hk_.1.1.2.2.2.2.2.2⟩)); replace BK258 := Aside0.mk (blk_kept (pB BK258) hkp (fun hs_ => (fun e_ => (Kd.R_ne HO256.out BK258.out (by decide)) e_) hs_)); replace HO264 := Aside0.mk (Kd.R_mono (ok' := fun k_ => some k_ ≠ (v225 : Value).ownBlock ∧ some k_ ≠ (v229 : Value).ownBlock ∧ some k_ ≠ (.slice Ao79 t232.length co79 : Value).ownBlock ∧ some k_ ≠ (.slice Ao89 t241.length co89 : Value).ownBlock ∧ some k_ ≠ (.slice Ao99 t246.length co99 : Value).ownBlock ∧ some k_ ≠ (.slice Ao109 t251.length co109 : Value).ownBlock ∧ some k_ ≠ (.slice Ao121 t267.length co121 : Value).ownBlock) (Kd.R_keptB ((Kd.R_apart' HO264.out (Kd.R_typed HO256.out) (by decide))) hkp (fun k_ hk_ hs_ => (hk_.2) hs_)) (fun k_ hk_ => ⟨hk_.1.1.1, hk_.1.1.2.1, hk_.1.1.2.2.1, hk_.1.1.2.2.2.1, hk_.1.1.2.2.2.2.1, hk_.1.1.2.2.2.2.2.1, hk_.1.1.2.2.2.2.2.2⟩)); replace HO269 := Aside0.mk (Kd.R_mono (ok' := fun k_ => some k_ ≠ (v225 : Value).ownBlock ∧ some k_ ≠ (v229 : Value).ownBlock ∧ some k_ ≠ (.slice Ao79 t232.length co79 : Value).ownBlock ∧ some k_ ≠ (.slice Ao89 t241.length co89 : Value).ownBlock ∧ some k_ ≠ (.slice Ao99 t246.length co99 : Value).ownBlock ∧ some k_ ≠ (.slice Ao109 t251.length co109 : Value).ownBlock ∧ some k_ ≠ (.slice Ao117 t262.length co117 : Value).ownBlock) (Kd.R_keptB ((Kd.R_apart' HO269.out (Kd.R_typed HO256.out) (by decide))) hkp (fun k_ hk_ hs_ => (hk_.2) hs_)) (fun k_ hk_ => ⟨hk_.1.1.1, hk_.1.1.2.1, hk_.1.1.2.2.1, hk_.1.1.2.2.2.1, hk_.1.1.2.2.2.2.1, hk_.1.1.2.2.2.2.2.1, hk_.1.1.2.2.2.2.2.2⟩)); replace HO256 := Aside0.mk (Kd.R_reok rfl hy0 (fun k_ e_ => HO256.out.1 k_ e_)); replace HB := Aside0.mk (hb); (try clear hb); (try clear hkp); (try clear hy0); have hcz134_0 : w133.cell? ⟨gb258, 0, none⟩ = some (.int .i64 t250) := cB BK258 0; have hcz134_1 : w133.cell? ⟨gb258, 1, none⟩ = some (.slice Ao109 t251.length co109) := cB BK258 1; have hfz134_0 := zB BK258 0; have hfz134_1 := zB BK258 1) | ((with_reducible refine gate_callee (f := 23) rfl ?_); refine cl_ (some 108) Try.func23 #[.agg #[.int .i64 t250, .slice Ao109 t278.length co109], .int .i64 1] (hargs := by (try simp only [List.map_toArray, List.map_cons, List.map_nil]); first | done | (rw [show t278.length = t251.length from (Kd.R_reads' HO253.out).1.symm] <;> rfl) | rfl | (simp only [List.length_drop, List.length_take]; rfl)) ?_; (with_reducible refine (laws_heldComplex.calls k t250 _ _ t278 1 t281 _ ?side1 ?side2 A45.out).mono ?_); (case side1 => exact pC ((Kd.R_reads' HO253.out).2.2)); (case side2 => rw [show t278.length = t251.length from (Kd.R_reads' HO253.out).1.symm]; exact (Kd.R_reads' HO253.out).2.1); rintro e w135 ⟨rfl, hb⟩; refine ⟨_, rfl, ?_⟩; replace HO226 := sR HO226 hb; replace HO230 := sR HO230 hb; replace HO234 := sR HO234 hb; replace HO237 := sR HO237 hb; replace HO243 := sR HO243 hb; replace HO248 := sR HO248 hb; replace HO253 := sR HO253 hb; replace HO256 := sR HO256 hb; replace HO264 := sR HO264 hb; replace HO269 := sR HO269 hb; replace BK219 := sB BK219 hb; replace BK220 := sB BK220 hb; replace BK239 := sB BK239 hb; replace BK244 := sB BK244 hb; replace BK249 := sB BK249 hb; replace BK258 := sB BK258 hb; replace HB := sH HB hb; (try clear hb); (try clear hi)) | ((with_reducible refine gate_callee (f := 24) rfl ?_); refine cl_ (some 113) Try.func24 #[.slice Ao112 t280.length co112, .int .i64 t281] (hargs := by (try simp only [List.map_toArray, List.map_cons, List.map_nil]); first | done | (rw [show t280.length = t254.length from (Kd.R_reads' HO256.out).1.symm] <;> rfl) | rfl | (simp only [List.length_drop, List.length_take]; rfl)) ?_; (with_reducible refine (laws_heldPairS.calls _ _ t280 t281 t282 _ ?side1 ?side2 A47.out).mono ?_); (case side1 => exact pC ((Kd.R_reads' HO256.out).2.2)); (case side2 => rw [show t280.length = t254.length from (Kd.R_reads' HO256.out).1.symm]; exact (Kd.R_reads' HO256.out).2.1); rintro e w136 ⟨rfl, hb⟩; refine ⟨_, rfl, ?_⟩; replace HO226 := sR HO226 hb; replace HO230 := sR HO230 hb; replace HO234 := sR HO234 hb; replace HO237 := sR HO237 hb; replace HO243 := sR HO243 hb; replace HO248 := sR HO248 hb; replace HO253 := sR HO253 hb; replace HO256 := sR HO256 hb; replace HO264 := sR HO264 hb; replace HO269 := sR HO269 hb; replace BK219 := sB BK219 hb; replace BK220 := sB BK220 hb; replace BK239 := sB BK239 hb; replace BK244 := sB BK244 hb; replace BK249 := sB BK249 hb; replace BK258 := sB BK258 hb; replace HB := sH HB hb; (try clear hb); (try clear hi)))
                    replace HO226 := Aside0.mk (Kd.R_drew HO226.out)
                    replace HO230 := Aside0.mk (Kd.R_drew HO230.out)
                    replace HO234 := Aside0.mk (Kd.R_drew HO234.out)
                    replace HO237 := Aside0.mk (Kd.R_drew HO237.out)
                    replace HO243 := Aside0.mk (Kd.R_drew HO243.out)
                    replace HO248 := Aside0.mk (Kd.R_drew HO248.out)
                    replace HO253 := Aside0.mk (Kd.R_drew HO253.out)
                    replace HO256 := Aside0.mk (Kd.R_drew HO256.out)
                    replace HO264 := Aside0.mk (Kd.R_drew HO264.out)
                    replace HO269 := Aside0.mk (Kd.R_drew HO269.out)
                    replace BK219 := dB BK219
                    replace BK220 := dB BK220
                    replace BK239 := dB BK239
                    replace BK244 := dB BK244
                    replace BK249 := dB BK249
                    replace BK258 := dB BK258
                    replace HB := dH HB
                    refine st_ 13 (S := fun w' => w'.cell? ⟨gb219, 0, none⟩ = some (.int .i64 a0_0) ∧ w'.cell? ⟨gb219, 1, none⟩ = some (.slice A0_1 l0_1.length c0_1) ∧ w'.cell? ⟨gb220, 0, none⟩ = some (.int .i64 a1_0) ∧ w'.cell? ⟨gb220, 1, none⟩ = some (.slice A1_1 l1_1.length c1_1)) (ds := []) ⟨cB BK219 0, cB BK219 1, cB BK220 0, cB BK220 1⟩ (fun hHeld => ?_); refine with_tabW laws_FnExactCollapseKeeping.tab35 laws_FnExactCollapseKeeping.bits35 (fun HT_ HW_ => ?_)
                    generalize w136.drew = w137 at HO226 HO230 HO234 HO237 HO243 HO248 HO253 HO256 HO264 HO269 BK219 BK220 BK239 BK244 BK249 BK258 HB hHeld ⊢
                    refine tk_ 0 120 1 HT_ HW_ hHeld ?_
                    refine tk_ 2 122 5 HT_ HW_ hHeld ?_
                    refine join_ (σ := Value × Value × Value × Value × Nat) 3 (mB 13 1023) (fun s_ => [(121, .agg #[.int .i64 t283, s_.1]), (123, .agg #[.int .i64 t287, s_.2.1]), (124, .tuple #[.agg #[.int .i64 t291, s_.2.2.1], s_.2.2.2.1, .int .i64 t298]), (17, .pointer (some ⟨s_.2.2.2.2, 0, none⟩)), (119, .tuple #[.agg #[.int .i64 t291, s_.2.2.1], s_.2.2.2.1, .int .i64 t298]), (125, .agg #[.int .i64 t291, s_.2.2.1]), (126, s_.2.2.2.1), (127, .int .i64 t298)]) (fun s_ w' => (w'.cell? ⟨gb219, 0, none⟩ = some (.int .i64 a0_0) ∧ w'.cell? ⟨gb219, 1, none⟩ = some (.slice A0_1 l0_1.length c0_1) ∧ w'.cell? ⟨gb220, 0, none⟩ = some (.int .i64 a1_0) ∧ w'.cell? ⟨gb220, 1, none⟩ = some (.slice A1_1 l1_1.length c1_1)) ∧ (Kd.R (Kd.int .i64) 2 w' w.heap.size (fun k_ => some k_ ≠ (v229 : Value).ownBlock ∧ some k_ ≠ (.slice Ao79 t232.length co79 : Value).ownBlock ∧ some k_ ≠ (.slice Ao89 t241.length co89 : Value).ownBlock ∧ some k_ ≠ (.slice Ao99 t246.length co99 : Value).ownBlock ∧ some k_ ≠ (.slice Ao109 t251.length co109 : Value).ownBlock ∧ some k_ ≠ (.slice Ao117 t262.length co117 : Value).ownBlock ∧ some k_ ≠ (.slice Ao121 t267.length co121 : Value).ownBlock ∧ some k_ ≠ (s_.1 : Value).ownBlock ∧ some k_ ≠ (s_.2.1 : Value).ownBlock ∧ some k_ ≠ (s_.2.2.1 : Value).ownBlock) v225 t224) ∧ (Kd.R (Kd.int .i64) 2 w' w.heap.size (fun k_ => some k_ ≠ (v225 : Value).ownBlock ∧ some k_ ≠ (.slice Ao79 t232.length co79 : Value).ownBlock ∧ some k_ ≠ (.slice Ao89 t241.length co89 : Value).ownBlock ∧ some k_ ≠ (.slice Ao99 t246.length co99 : Value).ownBlock ∧ some k_ ≠ (.slice Ao109 t251.length co109 : Value).ownBlock ∧ some k_ ≠ (.slice Ao117 t262.length co117 : Value).ownBlock ∧ some k_ ≠ (.slice Ao121 t267.length co121 : Value).ownBlock ∧ some k_ ≠ (s_.1 : Value).ownBlock ∧ some k_ ≠ (s_.2.1 : Value).ownBlock ∧ some k_ ≠ (s_.2.2.1 : Value).ownBlock) v229 t228) ∧ (Kd.R (Kd.int .i64) 2 w' w.heap.size (fun k_ => some k_ ≠ (v225 : Value).ownBlock ∧ some k_ ≠ (v229 : Value).ownBlock ∧ some k_ ≠ (.slice Ao89 t241.length co89 : Value).ownBlock ∧ some k_ ≠ (.slice Ao99 t246.length co99 : Value).ownBlock ∧ some k_ ≠ (.slice Ao109 t251.length co109 : Value).ownBlock ∧ some k_ ≠ (.slice Ao117 t262.length co117 : Value).ownBlock ∧ some k_ ≠ (.slice Ao121 t267.length co121 : Value).ownBlock ∧ some k_ ≠ (s_.1 : Value).ownBlock ∧ some k_ ≠ (s_.2.1 : Value).ownBlock ∧ some k_ ≠ (s_.2.2.1 : Value).ownBlock) (.slice Ao79 t232.length co79) t232) ∧ (Kd.R k76 76 w' w.heap.size (fun k_ => some k_ ≠ (.slice Ao112 t254.length co112 : Value).ownBlock ∧ some k_ ≠ (s_.2.2.2.1 : Value).ownBlock) (.slice Ao113 t235.length co113) t235) ∧ (Kd.R (Kd.int .i64) 2 w' w.heap.size (fun k_ => some k_ ≠ (v225 : Value).ownBlock ∧ some k_ ≠ (v229 : Value).ownBlock ∧ some k_ ≠ (.slice Ao79 t232.length co79 : Value).ownBlock ∧ some k_ ≠ (.slice Ao99 t246.length co99 : Value).ownBlock ∧ some k_ ≠ (.slice Ao109 t251.length co109 : Value).ownBlock ∧ some k_ ≠ (.slice Ao117 t262.length co117 : Value).ownBlock ∧ some k_ ≠ (.slice Ao121 t267.length co121 : Value).ownBlock ∧ some k_ ≠ (s_.1 : Value).ownBlock ∧ some k_ ≠ (s_.2.1 : Value).ownBlock ∧ some k_ ≠ (s_.2.2.1 : Value).ownBlock) (.slice Ao89 t241.length co89) t272) ∧ (Kd.R (Kd.int .i64) 2 w' w.heap.size (fun k_ => some k_ ≠ (v225 : Value).ownBlock ∧ some k_ ≠ (v229 : Value).ownBlock ∧ some k_ ≠ (.slice Ao79 t232.length co79 : Value).ownBlock ∧ some k_ ≠ (.slice Ao89 t241.length co89 : Value).ownBlock ∧ some k_ ≠ (.slice Ao109 t251.length co109 : Value).ownBlock ∧ some k_ ≠ (.slice Ao117 t262.length co117 : Value).ownBlock ∧ some k_ ≠ (.slice Ao121 t267.length co121 : Value).ownBlock ∧ some k_ ≠ (s_.1 : Value).ownBlock ∧ some k_ ≠ (s_.2.1 : Value).ownBlock ∧ some k_ ≠ (s_.2.2.1 : Value).ownBlock) (.slice Ao99 t246.length co99) t274) ∧ (Kd.R (Kd.int .i64) 2 w' w.heap.size (fun k_ => some k_ ≠ (v225 : Value).ownBlock ∧ some k_ ≠ (v229 : Value).ownBlock ∧ some k_ ≠ (.slice Ao79 t232.length co79 : Value).ownBlock ∧ some k_ ≠ (.slice Ao89 t241.length co89 : Value).ownBlock ∧ some k_ ≠ (.slice Ao99 t246.length co99 : Value).ownBlock ∧ some k_ ≠ (.slice Ao117 t262.length co117 : Value).ownBlock ∧ some k_ ≠ (.slice Ao121 t267.length co121 : Value).ownBlock ∧ some k_ ≠ (s_.1 : Value).ownBlock ∧ some k_ ≠ (s_.2.1 : Value).ownBlock ∧ some k_ ≠ (s_.2.2.1 : Value).ownBlock) (.slice Ao109 t251.length co109) t278) ∧ (Kd.R k76 76 w' w.heap.size (fun k_ => some k_ ≠ (.slice Ao113 t235.length co113 : Value).ownBlock ∧ some k_ ≠ (s_.2.2.2.1 : Value).ownBlock) (.slice Ao112 t254.length co112) t280) ∧ (Kd.R (Kd.int .i64) 2 w' w.heap.size (fun k_ => some k_ ≠ (v225 : Value).ownBlock ∧ some k_ ≠ (v229 : Value).ownBlock ∧ some k_ ≠ (.slice Ao79 t232.length co79 : Value).ownBlock ∧ some k_ ≠ (.slice Ao89 t241.length co89 : Value).ownBlock ∧ some k_ ≠ (.slice Ao99 t246.length co99 : Value).ownBlock ∧ some k_ ≠ (.slice Ao109 t251.length co109 : Value).ownBlock ∧ some k_ ≠ (.slice Ao121 t267.length co121 : Value).ownBlock ∧ some k_ ≠ (s_.1 : Value).ownBlock ∧ some k_ ≠ (s_.2.1 : Value).ownBlock ∧ some k_ ≠ (s_.2.2.1 : Value).ownBlock) (.slice Ao117 t262.length co117) t262) ∧ (Kd.R (Kd.int .i64) 2 w' w.heap.size (fun k_ => some k_ ≠ (v225 : Value).ownBlock ∧ some k_ ≠ (v229 : Value).ownBlock ∧ some k_ ≠ (.slice Ao79 t232.length co79 : Value).ownBlock ∧ some k_ ≠ (.slice Ao89 t241.length co89 : Value).ownBlock ∧ some k_ ≠ (.slice Ao99 t246.length co99 : Value).ownBlock ∧ some k_ ≠ (.slice Ao109 t251.length co109 : Value).ownBlock ∧ some k_ ≠ (.slice Ao117 t262.length co117 : Value).ownBlock ∧ some k_ ≠ (s_.1 : Value).ownBlock ∧ some k_ ≠ (s_.2.1 : Value).ownBlock ∧ some k_ ≠ (s_.2.2.1 : Value).ownBlock) (.slice Ao121 t267.length co121) t267) ∧ (Kd.R (Kd.int .i64) 2 w' w.heap.size (fun k_ => some k_ ≠ (v225 : Value).ownBlock ∧ some k_ ≠ (v229 : Value).ownBlock ∧ some k_ ≠ (.slice Ao79 t232.length co79 : Value).ownBlock ∧ some k_ ≠ (.slice Ao89 t241.length co89 : Value).ownBlock ∧ some k_ ≠ (.slice Ao99 t246.length co99 : Value).ownBlock ∧ some k_ ≠ (.slice Ao109 t251.length co109 : Value).ownBlock ∧ some k_ ≠ (.slice Ao117 t262.length co117 : Value).ownBlock ∧ some k_ ≠ (.slice Ao121 t267.length co121 : Value).ownBlock ∧ some k_ ≠ (s_.2.1 : Value).ownBlock ∧ some k_ ≠ (s_.2.2.1 : Value).ownBlock) s_.1 t284) ∧ (Kd.R (Kd.int .i64) 2 w' w.heap.size (fun k_ => some k_ ≠ (v225 : Value).ownBlock ∧ some k_ ≠ (v229 : Value).ownBlock ∧ some k_ ≠ (.slice Ao79 t232.length co79 : Value).ownBlock ∧ some k_ ≠ (.slice Ao89 t241.length co89 : Value).ownBlock ∧ some k_ ≠ (.slice Ao99 t246.length co99 : Value).ownBlock ∧ some k_ ≠ (.slice Ao109 t251.length co109 : Value).ownBlock ∧ some k_ ≠ (.slice Ao117 t262.length co117 : Value).ownBlock ∧ some k_ ≠ (.slice Ao121 t267.length co121 : Value).ownBlock ∧ some k_ ≠ (s_.1 : Value).ownBlock ∧ some k_ ≠ (s_.2.2.1 : Value).ownBlock) s_.2.1 t288) ∧ (Kd.R (Kd.int .i64) 2 w' w.heap.size (fun k_ => some k_ ≠ (v225 : Value).ownBlock ∧ some k_ ≠ (v229 : Value).ownBlock ∧ some k_ ≠ (.slice Ao79 t232.length co79 : Value).ownBlock ∧ some k_ ≠ (.slice Ao89 t241.length co89 : Value).ownBlock ∧ some k_ ≠ (.slice Ao99 t246.length co99 : Value).ownBlock ∧ some k_ ≠ (.slice Ao109 t251.length co109 : Value).ownBlock ∧ some k_ ≠ (.slice Ao117 t262.length co117 : Value).ownBlock ∧ some k_ ≠ (.slice Ao121 t267.length co121 : Value).ownBlock ∧ some k_ ≠ (s_.1 : Value).ownBlock ∧ some k_ ≠ (s_.2.1 : Value).ownBlock) s_.2.2.1 t292) ∧ (Kd.R k76 76 w' w.heap.size (fun k_ => some k_ ≠ (.slice Ao113 t235.length co113 : Value).ownBlock ∧ some k_ ≠ (.slice Ao112 t254.length co112 : Value).ownBlock) s_.2.2.2.1 t295) ∧ (w'.heap[gb219]? = some (.cells #[.int .i64 a0_0, .slice A0_1 l0_1.length c0_1] 24 (0, 0))) ∧ (w'.heap[gb220]? = some (.cells #[.int .i64 a1_0, .slice A1_1 l1_1.length c1_1] 24 (0, 0))) ∧ (w'.heap[gb239]? = some (.cells #[.int .i64 t231, .slice Ao79 t232.length co79] 26 (0, 0))) ∧ (w'.heap[gb244]? = some (.cells #[.int .i64 t240, .slice Ao89 t241.length co89] 26 (0, 0))) ∧ (w'.heap[gb249]? = some (.cells #[.int .i64 t245, .slice Ao99 t246.length co99] 26 (0, 0))) ∧ (w'.heap[gb258]? = some (.cells #[.int .i64 t250, .slice Ao109 t251.length co109] 26 (0, 0))) ∧ (w'.heap[s_.2.2.2.2]? = some (.cells #[.int .i64 0, .slice none 0 0] 26 (0, 0))) ∧ (w.heap.size ≤ s_.2.2.2.2) ∧ (w.heap.size ≤ s_.2.2.2.2) ∧ (gb219 ≠ s_.2.2.2.2) ∧ (s_.2.2.2.2 ≠ gb219) ∧ (gb220 ≠ s_.2.2.2.2) ∧ (s_.2.2.2.2 ≠ gb220) ∧ (gb239 ≠ s_.2.2.2.2) ∧ (s_.2.2.2.2 ≠ gb239) ∧ (gb244 ≠ s_.2.2.2.2) ∧ (s_.2.2.2.2 ≠ gb244) ∧ (gb249 ≠ s_.2.2.2.2) ∧ (s_.2.2.2.2 ≠ gb249) ∧ (gb258 ≠ s_.2.2.2.2) ∧ (s_.2.2.2.2 ≠ gb258) ∧ (Below w.heap.size w w')) ?_ ?_
                    rotate_left
                    ·intro hCont
                     refine two_ (i := 1) (j := 9) (Ni := some 121) (Nj := some 17) (mB 13 7) (mB 13 517) rfl rfl rfl rfl (two_of HT_.out (by kernel_rfl)) (by decide) (by decide) (fun K hK => ?_) (fun K hK => ?_)
                     ·skip
                      refine ca_ Try.func17 #[.agg #[.int .i64 a0_0, .slice A0_1 l0_1.length c0_1]] ?_
                      with_reducible refine (laws_toComplex.calls k a0_0 _ _ l0_1 t283 t284 _ ?side1 ?side2 A50.out).mono ?_
                      (case side1 => exact pC ((Kd.C_below HR0_1.out HB.out)))
                      (case side2 => exact HC0_1.out)
                      rintro e w138 ⟨v285, rfl, ho0, hb⟩
                      refine ⟨_, rfl, ?_⟩
                      replace HO237 := sR HO237 hb
                      replace HO256 := sR HO256 hb
                      have HO286 := Aside0.mk (Kd.R_lower (Kd.R_new' (Kd.R_new' (Kd.R_new' (Kd.R_new' (Kd.R_new' (Kd.R_new' (Kd.R_new' (Kd.R_new' ho0 (Kd.R_lt (pR HO226))) (Kd.R_lt (pR HO230))) (Kd.R_lt (pR HO234))) (Kd.R_lt (pR HO243))) (Kd.R_lt (pR HO248))) (Kd.R_lt (pR HO253))) (Kd.R_lt (pR HO264))) (Kd.R_lt (pR HO269))) (below_size (pH HB)))
                      replace HO226 := Aside0.mk (Kd.R_elder' (pR HO226) (Kd.R_base ho0) hb)
                      replace HO230 := Aside0.mk (Kd.R_elder' (pR HO230) (Kd.R_base ho0) hb)
                      replace HO234 := Aside0.mk (Kd.R_elder' (pR HO234) (Kd.R_base ho0) hb)
                      replace HO243 := Aside0.mk (Kd.R_elder' (pR HO243) (Kd.R_base ho0) hb)
                      replace HO248 := Aside0.mk (Kd.R_elder' (pR HO248) (Kd.R_base ho0) hb)
                      replace HO253 := Aside0.mk (Kd.R_elder' (pR HO253) (Kd.R_base ho0) hb)
                      replace HO264 := Aside0.mk (Kd.R_elder' (pR HO264) (Kd.R_base ho0) hb)
                      replace HO269 := Aside0.mk (Kd.R_elder' (pR HO269) (Kd.R_base ho0) hb)
                      replace BK219 := sB BK219 hb
                      replace BK220 := sB BK220 hb
                      replace BK239 := sB BK239 hb
                      replace BK244 := sB BK244 hb
                      replace BK249 := sB BK249 hb
                      replace BK258 := sB BK258 hb
                      replace HB := sH HB hb
                      (try clear hb)
                      (try clear hb2)
                      (try clear hk)
                      (try clear hi)
                      (try clear ho0)
                      refine hK.out _ _ ⟨cB BK219 0, cB BK219 1, cB BK220 0, cB BK220 1⟩ (fun hHeld => ?_)
                      clear hK K
                      refine nm_ ?_
                      refine two_ (i := 3) (j := 9) (Ni := some 123) (Nj := some 17) (mB 13 15) (mB 13 519) rfl rfl rfl rfl (two_of HT_.out (by kernel_rfl)) (by decide) (by decide) (fun K hK => ?_) (fun K hK => ?_)
                      ·skip
                       refine ca_ Try.func17 #[.agg #[.int .i64 a1_0, .slice A1_1 l1_1.length c1_1]] ?_
                       with_reducible refine (laws_toComplex.calls k a1_0 _ _ l1_1 t287 t288 _ ?side1 ?side2 A51.out).mono ?_
                       (case side1 => exact pC ((Kd.C_below HR1_1.out HB.out)))
                       (case side2 => exact HC1_1.out)
                       rintro e w139 ⟨v289, rfl, ho0, hb⟩
                       refine ⟨_, rfl, ?_⟩
                       replace HO237 := sR HO237 hb
                       replace HO256 := sR HO256 hb
                       have HO290 := Aside0.mk (Kd.R_lower (Kd.R_new' (Kd.R_new' (Kd.R_new' (Kd.R_new' (Kd.R_new' (Kd.R_new' (Kd.R_new' (Kd.R_new' (Kd.R_new' ho0 (Kd.R_lt (pR HO226))) (Kd.R_lt (pR HO230))) (Kd.R_lt (pR HO234))) (Kd.R_lt (pR HO243))) (Kd.R_lt (pR HO248))) (Kd.R_lt (pR HO253))) (Kd.R_lt (pR HO264))) (Kd.R_lt (pR HO269))) (Kd.R_lt (pR HO286))) (below_size (pH HB)))
                       replace HO226 := Aside0.mk (Kd.R_elder' (pR HO226) (Kd.R_base ho0) hb)
                       replace HO230 := Aside0.mk (Kd.R_elder' (pR HO230) (Kd.R_base ho0) hb)
                       replace HO234 := Aside0.mk (Kd.R_elder' (pR HO234) (Kd.R_base ho0) hb)
                       replace HO243 := Aside0.mk (Kd.R_elder' (pR HO243) (Kd.R_base ho0) hb)
                       replace HO248 := Aside0.mk (Kd.R_elder' (pR HO248) (Kd.R_base ho0) hb)
                       replace HO253 := Aside0.mk (Kd.R_elder' (pR HO253) (Kd.R_base ho0) hb)
                       replace HO264 := Aside0.mk (Kd.R_elder' (pR HO264) (Kd.R_base ho0) hb)
                       replace HO269 := Aside0.mk (Kd.R_elder' (pR HO269) (Kd.R_base ho0) hb)
                       replace HO286 := Aside0.mk (Kd.R_elder' (pR HO286) (Kd.R_base ho0) hb)
                       replace BK219 := sB BK219 hb
                       replace BK220 := sB BK220 hb
                       replace BK239 := sB BK239 hb
                       replace BK244 := sB BK244 hb
                       replace BK249 := sB BK249 hb
                       replace BK258 := sB BK258 hb
                       replace HB := sH HB hb
                       (try clear hb)
                       (try clear hb2)
                       (try clear hk)
                       (try clear hi)
                       (try clear ho0)
                       obtain ⟨Ao140, co140, eo140⟩ := Kd.R_slice HO286.out
                       (first | subst eo140 | (injection eo140 with f1_ f2_ f3_; have f4_ := f1_.symm; have f5_ := f3_.symm; clear f1_ f2_ f3_; subst f4_; subst f5_))
                       obtain ⟨Ao141, co141, eo141⟩ := Kd.R_slice HO290.out
                       (first | subst eo141 | (injection eo141 with f1_ f2_ f3_; have f4_ := f1_.symm; have f5_ := f3_.symm; clear f1_ f2_ f3_; subst f4_; subst f5_))
                       refine hK.out _ _ ⟨cB BK219 0, cB BK219 1, cB BK220 0, cB BK220 1⟩ (fun hHeld => ?_)
                       clear hK K
                       refine nm_ ?_
                       refine two_ (i := 4) (j := 9) (Ni := some 124) (Nj := some 17) (mB 13 31) (mB 13 527) rfl rfl rfl rfl (two_of HT_.out (by kernel_rfl)) (by decide) (by decide) (fun K hK => ?_) (fun K hK => ?_)
                       ·skip
                        refine ca_ Try.func26 #[.agg #[.int .i64 t283, .slice Ao140 t284.length co140], .agg #[.int .i64 t287, .slice Ao141 t288.length co141]] ?_
                        with_reducible refine (impl_CollapseKeeping.calls t283 _ _ t284 t287 _ _ t288 t291 t292 t295 t298 _ ?side1 ?side2 ?side3 ?side4 A52.out).mono ?_
                        (case side1 => exact pC ((Kd.R_reads' HO286.out).2.2))
                        (case side2 => exact (Kd.R_reads' HO286.out).2.1)
                        (case side3 => exact pC ((Kd.R_reads' HO290.out).2.2))
                        (case side4 => exact (Kd.R_reads' HO290.out).2.1)
                        rintro e w142 ⟨v293, v296, rfl, ho0, ho1, hb⟩
                        refine ⟨_, rfl, ?_⟩
                        have HO294 := Aside0.mk (Kd.R_lower (Kd.R_new' (Kd.R_new' (Kd.R_new' (Kd.R_new' (Kd.R_new' (Kd.R_new' (Kd.R_new' (Kd.R_new' (Kd.R_new' (Kd.R_new' ho0 (Kd.R_lt (pR HO226))) (Kd.R_lt (pR HO230))) (Kd.R_lt (pR HO234))) (Kd.R_lt (pR HO243))) (Kd.R_lt (pR HO248))) (Kd.R_lt (pR HO253))) (Kd.R_lt (pR HO264))) (Kd.R_lt (pR HO269))) (Kd.R_lt (pR HO286))) (Kd.R_lt (pR HO290))) (below_size (pH HB)))
                        replace HO226 := Aside0.mk (Kd.R_elder' (pR HO226) (Kd.R_base ho0) hb)
                        replace HO230 := Aside0.mk (Kd.R_elder' (pR HO230) (Kd.R_base ho0) hb)
                        replace HO234 := Aside0.mk (Kd.R_elder' (pR HO234) (Kd.R_base ho0) hb)
                        replace HO243 := Aside0.mk (Kd.R_elder' (pR HO243) (Kd.R_base ho0) hb)
                        replace HO248 := Aside0.mk (Kd.R_elder' (pR HO248) (Kd.R_base ho0) hb)
                        replace HO253 := Aside0.mk (Kd.R_elder' (pR HO253) (Kd.R_base ho0) hb)
                        replace HO264 := Aside0.mk (Kd.R_elder' (pR HO264) (Kd.R_base ho0) hb)
                        replace HO269 := Aside0.mk (Kd.R_elder' (pR HO269) (Kd.R_base ho0) hb)
                        replace HO286 := Aside0.mk (Kd.R_elder' (pR HO286) (Kd.R_base ho0) hb)
                        replace HO290 := Aside0.mk (Kd.R_elder' (pR HO290) (Kd.R_base ho0) hb)
                        have HO297 := Aside0.mk (Kd.R_lower (Kd.R_new' (Kd.R_new' ho1 (Kd.R_lt (pR HO237))) (Kd.R_lt (pR HO256))) (below_size (pH HB)))
                        replace HO237 := Aside0.mk (Kd.R_elder' (pR HO237) (Kd.R_base ho1) hb)
                        replace HO256 := Aside0.mk (Kd.R_elder' (pR HO256) (Kd.R_base ho1) hb)
                        replace BK219 := sB BK219 hb
                        replace BK220 := sB BK220 hb
                        replace BK239 := sB BK239 hb
                        replace BK244 := sB BK244 hb
                        replace BK249 := sB BK249 hb
                        replace BK258 := sB BK258 hb
                        replace HB := sH HB hb
                        (try clear hb)
                        (try clear hb2)
                        (try clear hk)
                        (try clear hi)
                        (try clear ho0)
                        (try clear ho1)
                        refine hK.out _ _ ⟨cB BK219 0, cB BK219 1, cB BK220 0, cB BK220 1⟩ (fun hHeld => ?_)
                        clear hK K
                        refine nm_ ?_
                        refine pu_ 5 119 63 HT_ ?_
                        refine pu_ 6 125 127 HT_ ?_
                        refine pu_ 7 126 255 HT_ ?_
                        refine pu_ 8 127 511 HT_ ?_
                        refine on_ 9 (some 17) 1023 HT_ (fun K hK => ?_)
                        refine box_step ?hg (N := 17) ?hd (cs := #[.int .i64 0, .slice none 0 0]) (t := 26) ?hr ?_; (case hd => rfl); (case hg => rfl); (case hr => first | (go_simp; done) | (go_simp; rfl))
                        intro gb299 hg w143 hbox hb
                        replace HO226 := sR HO226 hb
                        replace HO230 := sR HO230 hb
                        replace HO234 := sR HO234 hb
                        replace HO237 := sR HO237 hb
                        replace HO243 := sR HO243 hb
                        replace HO248 := sR HO248 hb
                        replace HO253 := sR HO253 hb
                        replace HO256 := sR HO256 hb
                        replace HO264 := sR HO264 hb
                        replace HO269 := sR HO269 hb
                        replace HO286 := sR HO286 hb
                        replace HO290 := sR HO290 hb
                        replace HO294 := sR HO294 hb
                        replace HO297 := sR HO297 hb
                        have BK299 := Aside0.mk (hbox)
                        have GW299 := gH HB hg
                        have GE299 := gH HB hg
                        replace HB := sH HB hb
                        have NB219_299 := nB BK219 hg
                        have NB299_219 := oB BK219 hg
                        replace BK219 := sB BK219 hb
                        have NB220_299 := nB BK220 hg
                        have NB299_220 := oB BK220 hg
                        replace BK220 := sB BK220 hb
                        have NB239_299 := nB BK239 hg
                        have NB299_239 := oB BK239 hg
                        replace BK239 := sB BK239 hb
                        have NB244_299 := nB BK244 hg
                        have NB299_244 := oB BK244 hg
                        replace BK244 := sB BK244 hb
                        have NB249_299 := nB BK249 hg
                        have NB299_249 := oB BK249 hg
                        replace BK249 := sB BK249 hb
                        have NB258_299 := nB BK258 hg
                        have NB299_258 := oB BK258 hg
                        replace BK258 := sB BK258 hb
                        clear hb hbox hg
                        refine hK.out _ _ ⟨cB BK219 0, cB BK219 1, cB BK220 0, cB BK220 1⟩ (fun hHeld => ?_)
                        clear hK K
                        refine nm_ ?_
                        exact norm_ (by simp only [putAll, Act.put, List.setIfInBounds_toArray, List.set_cons_zero, List.set_cons_succ]) (hCont (.slice Ao140 t284.length co140, .slice Ao141 t288.length co141, v293, v296, gb299) _ ⟨hHeld, (by (with_reducible repeat (first | apply Kd.R_alloc | apply Kd.R_drewN | apply Kd.R_drew)); exact Kd.R_mono HO226.out (fun _ hk => ⟨hk.1.1.1.1, ⟨hk.1.1.1.2.1, ⟨hk.1.1.1.2.2.1, ⟨hk.1.1.1.2.2.2.1, ⟨hk.1.1.1.2.2.2.2.1, ⟨hk.1.1.1.2.2.2.2.2.1, ⟨hk.1.1.1.2.2.2.2.2.2, ⟨hk.1.1.2, ⟨hk.1.2, hk.2⟩⟩⟩⟩⟩⟩⟩⟩⟩)), (by (with_reducible repeat (first | apply Kd.R_alloc | apply Kd.R_drewN | apply Kd.R_drew)); exact Kd.R_mono HO230.out (fun _ hk => ⟨hk.1.1.1.1, ⟨hk.1.1.1.2.1, ⟨hk.1.1.1.2.2.1, ⟨hk.1.1.1.2.2.2.1, ⟨hk.1.1.1.2.2.2.2.1, ⟨hk.1.1.1.2.2.2.2.2.1, ⟨hk.1.1.1.2.2.2.2.2.2, ⟨hk.1.1.2, ⟨hk.1.2, hk.2⟩⟩⟩⟩⟩⟩⟩⟩⟩)), (by (with_reducible repeat (first | apply Kd.R_alloc | apply Kd.R_drewN | apply Kd.R_drew)); exact Kd.R_mono HO234.out (fun _ hk => ⟨hk.1.1.1.1, ⟨hk.1.1.1.2.1, ⟨hk.1.1.1.2.2.1, ⟨hk.1.1.1.2.2.2.1, ⟨hk.1.1.1.2.2.2.2.1, ⟨hk.1.1.1.2.2.2.2.2.1, ⟨hk.1.1.1.2.2.2.2.2.2, ⟨hk.1.1.2, ⟨hk.1.2, hk.2⟩⟩⟩⟩⟩⟩⟩⟩⟩)), (pR HO237), (by (with_reducible repeat (first | apply Kd.R_alloc | apply Kd.R_drewN | apply Kd.R_drew)); exact Kd.R_mono HO243.out (fun _ hk => ⟨hk.1.1.1.1, ⟨hk.1.1.1.2.1, ⟨hk.1.1.1.2.2.1, ⟨hk.1.1.1.2.2.2.1, ⟨hk.1.1.1.2.2.2.2.1, ⟨hk.1.1.1.2.2.2.2.2.1, ⟨hk.1.1.1.2.2.2.2.2.2, ⟨hk.1.1.2, ⟨hk.1.2, hk.2⟩⟩⟩⟩⟩⟩⟩⟩⟩)), (by (with_reducible repeat (first | apply Kd.R_alloc | apply Kd.R_drewN | apply Kd.R_drew)); exact Kd.R_mono HO248.out (fun _ hk => ⟨hk.1.1.1.1, ⟨hk.1.1.1.2.1, ⟨hk.1.1.1.2.2.1, ⟨hk.1.1.1.2.2.2.1, ⟨hk.1.1.1.2.2.2.2.1, ⟨hk.1.1.1.2.2.2.2.2.1, ⟨hk.1.1.1.2.2.2.2.2.2, ⟨hk.1.1.2, ⟨hk.1.2, hk.2⟩⟩⟩⟩⟩⟩⟩⟩⟩)), (by (with_reducible repeat (first | apply Kd.R_alloc | apply Kd.R_drewN | apply Kd.R_drew)); exact Kd.R_mono HO253.out (fun _ hk => ⟨hk.1.1.1.1, ⟨hk.1.1.1.2.1, ⟨hk.1.1.1.2.2.1, ⟨hk.1.1.1.2.2.2.1, ⟨hk.1.1.1.2.2.2.2.1, ⟨hk.1.1.1.2.2.2.2.2.1, ⟨hk.1.1.1.2.2.2.2.2.2, ⟨hk.1.1.2, ⟨hk.1.2, hk.2⟩⟩⟩⟩⟩⟩⟩⟩⟩)), (pR HO256), (by (with_reducible repeat (first | apply Kd.R_alloc | apply Kd.R_drewN | apply Kd.R_drew)); exact Kd.R_mono HO264.out (fun _ hk => ⟨hk.1.1.1.1, ⟨hk.1.1.1.2.1, ⟨hk.1.1.1.2.2.1, ⟨hk.1.1.1.2.2.2.1, ⟨hk.1.1.1.2.2.2.2.1, ⟨hk.1.1.1.2.2.2.2.2.1, ⟨hk.1.1.1.2.2.2.2.2.2, ⟨hk.1.1.2, ⟨hk.1.2, hk.2⟩⟩⟩⟩⟩⟩⟩⟩⟩)), (by (with_reducible repeat (first | apply Kd.R_alloc | apply Kd.R_drewN | apply Kd.R_drew)); exact Kd.R_mono HO269.out (fun _ hk => ⟨hk.1.1.1.1, ⟨hk.1.1.1.2.1, ⟨hk.1.1.1.2.2.1, ⟨hk.1.1.1.2.2.2.1, ⟨hk.1.1.1.2.2.2.2.1, ⟨hk.1.1.1.2.2.2.2.2.1, ⟨hk.1.1.1.2.2.2.2.2.2, ⟨hk.1.1.2, ⟨hk.1.2, hk.2⟩⟩⟩⟩⟩⟩⟩⟩⟩)), (by (with_reducible repeat (first | apply Kd.R_alloc | apply Kd.R_drewN | apply Kd.R_drew)); exact Kd.R_mono HO286.out (fun _ hk => ⟨hk.1.1.1.1.1.1.1.1.1.2, ⟨hk.1.1.1.1.1.1.1.1.2, ⟨hk.1.1.1.1.1.1.1.2, ⟨hk.1.1.1.1.1.1.2, ⟨hk.1.1.1.1.1.2, ⟨hk.1.1.1.1.2, ⟨hk.1.1.1.2, ⟨hk.1.1.2, ⟨hk.1.2, hk.2⟩⟩⟩⟩⟩⟩⟩⟩⟩)), (by (with_reducible repeat (first | apply Kd.R_alloc | apply Kd.R_drewN | apply Kd.R_drew)); exact Kd.R_mono HO290.out (fun _ hk => ⟨hk.1.1.1.1.1.1.1.1.1.2, ⟨hk.1.1.1.1.1.1.1.1.2, ⟨hk.1.1.1.1.1.1.1.2, ⟨hk.1.1.1.1.1.1.2, ⟨hk.1.1.1.1.1.2, ⟨hk.1.1.1.1.2, ⟨hk.1.1.1.2, ⟨hk.1.1.2, ⟨hk.1.2, hk.2⟩⟩⟩⟩⟩⟩⟩⟩⟩)), (by (with_reducible repeat (first | apply Kd.R_alloc | apply Kd.R_drewN | apply Kd.R_drew)); exact Kd.R_mono HO294.out (fun _ hk => ⟨hk.1.1.1.1.1.1.1.1.1.2, ⟨hk.1.1.1.1.1.1.1.1.2, ⟨hk.1.1.1.1.1.1.1.2, ⟨hk.1.1.1.1.1.1.2, ⟨hk.1.1.1.1.1.2, ⟨hk.1.1.1.1.2, ⟨hk.1.1.1.2, ⟨hk.1.1.2, ⟨hk.1.2, hk.2⟩⟩⟩⟩⟩⟩⟩⟩⟩)), (by (with_reducible repeat (first | apply Kd.R_alloc | apply Kd.R_drewN | apply Kd.R_drew)); exact Kd.R_mono HO297.out (fun _ hk => ⟨hk.1.2, hk.2⟩)), (pB BK219), (pB BK220), (pB BK239), (pB BK244), (pB BK249), (pB BK258), (pB BK299), GW299.out, GE299.out, NB219_299.out, NB299_219.out, NB220_299.out, NB299_220.out, NB239_299.out, NB299_239.out, NB244_299.out, NB299_244.out, NB249_299.out, NB299_249.out, NB258_299.out, NB299_258.out, (pH HB)⟩)
                       ·skip
                        refine box_step ?hg (N := 17) ?hd (cs := #[.int .i64 0, .slice none 0 0]) (t := 26) ?hr ?_; (case hd => rfl); (case hg => rfl); (case hr => first | (go_simp; done) | (go_simp; rfl))
                        intro gb299 hg w140 hbox hb
                        replace HO226 := sR HO226 hb
                        replace HO230 := sR HO230 hb
                        replace HO234 := sR HO234 hb
                        replace HO237 := sR HO237 hb
                        replace HO243 := sR HO243 hb
                        replace HO248 := sR HO248 hb
                        replace HO253 := sR HO253 hb
                        replace HO256 := sR HO256 hb
                        replace HO264 := sR HO264 hb
                        replace HO269 := sR HO269 hb
                        replace HO286 := sR HO286 hb
                        replace HO290 := sR HO290 hb
                        have BK299 := Aside0.mk (hbox)
                        have GW299 := gH HB hg
                        have GE299 := gH HB hg
                        replace HB := sH HB hb
                        have NB219_299 := nB BK219 hg
                        have NB299_219 := oB BK219 hg
                        replace BK219 := sB BK219 hb
                        have NB220_299 := nB BK220 hg
                        have NB299_220 := oB BK220 hg
                        replace BK220 := sB BK220 hb
                        have NB239_299 := nB BK239 hg
                        have NB299_239 := oB BK239 hg
                        replace BK239 := sB BK239 hb
                        have NB244_299 := nB BK244 hg
                        have NB299_244 := oB BK244 hg
                        replace BK244 := sB BK244 hb
                        have NB249_299 := nB BK249 hg
                        have NB299_249 := oB BK249 hg
                        replace BK249 := sB BK249 hb
                        have NB258_299 := nB BK258 hg
                        have NB299_258 := oB BK258 hg
                        replace BK258 := sB BK258 hb
                        clear hb hbox hg
                        obtain ⟨Ao141, co141, eo141⟩ := Kd.R_slice HO286.out
                        (first | subst eo141 | (injection eo141 with f1_ f2_ f3_; have f4_ := f1_.symm; have f5_ := f3_.symm; clear f1_ f2_ f3_; subst f4_; subst f5_))
                        obtain ⟨Ao142, co142, eo142⟩ := Kd.R_slice HO290.out
                        (first | subst eo142 | (injection eo142 with f1_ f2_ f3_; have f4_ := f1_.symm; have f5_ := f3_.symm; clear f1_ f2_ f3_; subst f4_; subst f5_))
                        refine hK.out _ _ ⟨cB BK219 0, cB BK219 1, cB BK220 0, cB BK220 1⟩ (fun hHeld => ?_)
                        clear hK K
                        refine nm_ ?_
                        refine on_ 4 (some 124) 543 HT_ (fun K hK => ?_)
                        refine ca_ Try.func26 #[.agg #[.int .i64 t283, .slice Ao141 t284.length co141], .agg #[.int .i64 t287, .slice Ao142 t288.length co142]] ?_
                        with_reducible refine (impl_CollapseKeeping.calls t283 _ _ t284 t287 _ _ t288 t291 t292 t295 t298 _ ?side1 ?side2 ?side3 ?side4 A52.out).mono ?_
                        (case side1 => exact pC ((Kd.R_reads' HO286.out).2.2))
                        (case side2 => exact (Kd.R_reads' HO286.out).2.1)
                        (case side3 => exact pC ((Kd.R_reads' HO290.out).2.2))
                        (case side4 => exact (Kd.R_reads' HO290.out).2.1)
                        rintro e w143 ⟨v293, v296, rfl, ho0, ho1, hb⟩
                        refine ⟨_, rfl, ?_⟩
                        have HO294 := Aside0.mk (Kd.R_lower (Kd.R_new' (Kd.R_new' (Kd.R_new' (Kd.R_new' (Kd.R_new' (Kd.R_new' (Kd.R_new' (Kd.R_new' (Kd.R_new' (Kd.R_new' ho0 (Kd.R_lt (pR HO226))) (Kd.R_lt (pR HO230))) (Kd.R_lt (pR HO234))) (Kd.R_lt (pR HO243))) (Kd.R_lt (pR HO248))) (Kd.R_lt (pR HO253))) (Kd.R_lt (pR HO264))) (Kd.R_lt (pR HO269))) (Kd.R_lt (pR HO286))) (Kd.R_lt (pR HO290))) (below_size (pH HB)))
                        replace HO226 := Aside0.mk (Kd.R_elder' (pR HO226) (Kd.R_base ho0) hb)
                        replace HO230 := Aside0.mk (Kd.R_elder' (pR HO230) (Kd.R_base ho0) hb)
                        replace HO234 := Aside0.mk (Kd.R_elder' (pR HO234) (Kd.R_base ho0) hb)
                        replace HO243 := Aside0.mk (Kd.R_elder' (pR HO243) (Kd.R_base ho0) hb)
                        replace HO248 := Aside0.mk (Kd.R_elder' (pR HO248) (Kd.R_base ho0) hb)
                        replace HO253 := Aside0.mk (Kd.R_elder' (pR HO253) (Kd.R_base ho0) hb)
                        replace HO264 := Aside0.mk (Kd.R_elder' (pR HO264) (Kd.R_base ho0) hb)
                        replace HO269 := Aside0.mk (Kd.R_elder' (pR HO269) (Kd.R_base ho0) hb)
                        replace HO286 := Aside0.mk (Kd.R_elder' (pR HO286) (Kd.R_base ho0) hb)
                        replace HO290 := Aside0.mk (Kd.R_elder' (pR HO290) (Kd.R_base ho0) hb)
                        have HO297 := Aside0.mk (Kd.R_lower (Kd.R_new' (Kd.R_new' ho1 (Kd.R_lt (pR HO237))) (Kd.R_lt (pR HO256))) (below_size (pH HB)))
                        replace HO237 := Aside0.mk (Kd.R_elder' (pR HO237) (Kd.R_base ho1) hb)
                        replace HO256 := Aside0.mk (Kd.R_elder' (pR HO256) (Kd.R_base ho1) hb)
                        replace BK219 := sB BK219 hb
                        replace BK220 := sB BK220 hb
                        replace BK239 := sB BK239 hb
                        replace BK244 := sB BK244 hb
                        replace BK249 := sB BK249 hb
                        replace BK258 := sB BK258 hb
                        replace BK299 := sB BK299 hb
                        replace HB := sH HB hb
                        (try clear hb)
                        (try clear hb2)
                        (try clear hk)
                        (try clear hi)
                        (try clear ho0)
                        (try clear ho1)
                        refine hK.out _ _ ⟨cB BK219 0, cB BK219 1, cB BK220 0, cB BK220 1⟩ (fun hHeld => ?_)
                        clear hK K
                        refine nm_ ?_
                        refine pu_ 5 119 575 HT_ ?_
                        refine pu_ 6 125 639 HT_ ?_
                        refine pu_ 7 126 767 HT_ ?_
                        refine pu_ 8 127 1023 HT_ ?_
                        exact norm_ (by simp only [putAll, Act.put, List.setIfInBounds_toArray, List.set_cons_zero, List.set_cons_succ]) (hCont (.slice Ao141 t284.length co141, .slice Ao142 t288.length co142, v293, v296, gb299) _ ⟨hHeld, (by (with_reducible repeat (first | apply Kd.R_alloc | apply Kd.R_drewN | apply Kd.R_drew)); exact Kd.R_mono HO226.out (fun _ hk => ⟨hk.1.1.1.1, ⟨hk.1.1.1.2.1, ⟨hk.1.1.1.2.2.1, ⟨hk.1.1.1.2.2.2.1, ⟨hk.1.1.1.2.2.2.2.1, ⟨hk.1.1.1.2.2.2.2.2.1, ⟨hk.1.1.1.2.2.2.2.2.2, ⟨hk.1.1.2, ⟨hk.1.2, hk.2⟩⟩⟩⟩⟩⟩⟩⟩⟩)), (by (with_reducible repeat (first | apply Kd.R_alloc | apply Kd.R_drewN | apply Kd.R_drew)); exact Kd.R_mono HO230.out (fun _ hk => ⟨hk.1.1.1.1, ⟨hk.1.1.1.2.1, ⟨hk.1.1.1.2.2.1, ⟨hk.1.1.1.2.2.2.1, ⟨hk.1.1.1.2.2.2.2.1, ⟨hk.1.1.1.2.2.2.2.2.1, ⟨hk.1.1.1.2.2.2.2.2.2, ⟨hk.1.1.2, ⟨hk.1.2, hk.2⟩⟩⟩⟩⟩⟩⟩⟩⟩)), (by (with_reducible repeat (first | apply Kd.R_alloc | apply Kd.R_drewN | apply Kd.R_drew)); exact Kd.R_mono HO234.out (fun _ hk => ⟨hk.1.1.1.1, ⟨hk.1.1.1.2.1, ⟨hk.1.1.1.2.2.1, ⟨hk.1.1.1.2.2.2.1, ⟨hk.1.1.1.2.2.2.2.1, ⟨hk.1.1.1.2.2.2.2.2.1, ⟨hk.1.1.1.2.2.2.2.2.2, ⟨hk.1.1.2, ⟨hk.1.2, hk.2⟩⟩⟩⟩⟩⟩⟩⟩⟩)), (pR HO237), (by (with_reducible repeat (first | apply Kd.R_alloc | apply Kd.R_drewN | apply Kd.R_drew)); exact Kd.R_mono HO243.out (fun _ hk => ⟨hk.1.1.1.1, ⟨hk.1.1.1.2.1, ⟨hk.1.1.1.2.2.1, ⟨hk.1.1.1.2.2.2.1, ⟨hk.1.1.1.2.2.2.2.1, ⟨hk.1.1.1.2.2.2.2.2.1, ⟨hk.1.1.1.2.2.2.2.2.2, ⟨hk.1.1.2, ⟨hk.1.2, hk.2⟩⟩⟩⟩⟩⟩⟩⟩⟩)), (by (with_reducible repeat (first | apply Kd.R_alloc | apply Kd.R_drewN | apply Kd.R_drew)); exact Kd.R_mono HO248.out (fun _ hk => ⟨hk.1.1.1.1, ⟨hk.1.1.1.2.1, ⟨hk.1.1.1.2.2.1, ⟨hk.1.1.1.2.2.2.1, ⟨hk.1.1.1.2.2.2.2.1, ⟨hk.1.1.1.2.2.2.2.2.1, ⟨hk.1.1.1.2.2.2.2.2.2, ⟨hk.1.1.2, ⟨hk.1.2, hk.2⟩⟩⟩⟩⟩⟩⟩⟩⟩)), (by (with_reducible repeat (first | apply Kd.R_alloc | apply Kd.R_drewN | apply Kd.R_drew)); exact Kd.R_mono HO253.out (fun _ hk => ⟨hk.1.1.1.1, ⟨hk.1.1.1.2.1, ⟨hk.1.1.1.2.2.1, ⟨hk.1.1.1.2.2.2.1, ⟨hk.1.1.1.2.2.2.2.1, ⟨hk.1.1.1.2.2.2.2.2.1, ⟨hk.1.1.1.2.2.2.2.2.2, ⟨hk.1.1.2, ⟨hk.1.2, hk.2⟩⟩⟩⟩⟩⟩⟩⟩⟩)), (pR HO256), (by (with_reducible repeat (first | apply Kd.R_alloc | apply Kd.R_drewN | apply Kd.R_drew)); exact Kd.R_mono HO264.out (fun _ hk => ⟨hk.1.1.1.1, ⟨hk.1.1.1.2.1, ⟨hk.1.1.1.2.2.1, ⟨hk.1.1.1.2.2.2.1, ⟨hk.1.1.1.2.2.2.2.1, ⟨hk.1.1.1.2.2.2.2.2.1, ⟨hk.1.1.1.2.2.2.2.2.2, ⟨hk.1.1.2, ⟨hk.1.2, hk.2⟩⟩⟩⟩⟩⟩⟩⟩⟩)), (by (with_reducible repeat (first | apply Kd.R_alloc | apply Kd.R_drewN | apply Kd.R_drew)); exact Kd.R_mono HO269.out (fun _ hk => ⟨hk.1.1.1.1, ⟨hk.1.1.1.2.1, ⟨hk.1.1.1.2.2.1, ⟨hk.1.1.1.2.2.2.1, ⟨hk.1.1.1.2.2.2.2.1, ⟨hk.1.1.1.2.2.2.2.2.1, ⟨hk.1.1.1.2.2.2.2.2.2, ⟨hk.1.1.2, ⟨hk.1.2, hk.2⟩⟩⟩⟩⟩⟩⟩⟩⟩)), (by (with_reducible repeat (first | apply Kd.R_alloc | apply Kd.R_drewN | apply Kd.R_drew)); exact Kd.R_mono HO286.out (fun _ hk => ⟨hk.1.1.1.1.1.1.1.1.1.2, ⟨hk.1.1.1.1.1.1.1.1.2, ⟨hk.1.1.1.1.1.1.1.2, ⟨hk.1.1.1.1.1.1.2, ⟨hk.1.1.1.1.1.2, ⟨hk.1.1.1.1.2, ⟨hk.1.1.1.2, ⟨hk.1.1.2, ⟨hk.1.2, hk.2⟩⟩⟩⟩⟩⟩⟩⟩⟩)), (by (with_reducible repeat (first | apply Kd.R_alloc | apply Kd.R_drewN | apply Kd.R_drew)); exact Kd.R_mono HO290.out (fun _ hk => ⟨hk.1.1.1.1.1.1.1.1.1.2, ⟨hk.1.1.1.1.1.1.1.1.2, ⟨hk.1.1.1.1.1.1.1.2, ⟨hk.1.1.1.1.1.1.2, ⟨hk.1.1.1.1.1.2, ⟨hk.1.1.1.1.2, ⟨hk.1.1.1.2, ⟨hk.1.1.2, ⟨hk.1.2, hk.2⟩⟩⟩⟩⟩⟩⟩⟩⟩)), (by (with_reducible repeat (first | apply Kd.R_alloc | apply Kd.R_drewN | apply Kd.R_drew)); exact Kd.R_mono HO294.out (fun _ hk => ⟨hk.1.1.1.1.1.1.1.1.1.2, ⟨hk.1.1.1.1.1.1.1.1.2, ⟨hk.1.1.1.1.1.1.1.2, ⟨hk.1.1.1.1.1.1.2, ⟨hk.1.1.1.1.1.2, ⟨hk.1.1.1.1.2, ⟨hk.1.1.1.2, ⟨hk.1.1.2, ⟨hk.1.2, hk.2⟩⟩⟩⟩⟩⟩⟩⟩⟩)), (by (with_reducible repeat (first | apply Kd.R_alloc | apply Kd.R_drewN | apply Kd.R_drew)); exact Kd.R_mono HO297.out (fun _ hk => ⟨hk.1.2, hk.2⟩)), (pB BK219), (pB BK220), (pB BK239), (pB BK244), (pB BK249), (pB BK258), (pB BK299), GW299.out, GE299.out, NB219_299.out, NB299_219.out, NB220_299.out, NB299_220.out, NB239_299.out, NB299_239.out, NB244_299.out, NB299_244.out, NB249_299.out, NB299_249.out, NB258_299.out, NB299_258.out, (pH HB)⟩)
                      ·skip
                       refine box_step ?hg (N := 17) ?hd (cs := #[.int .i64 0, .slice none 0 0]) (t := 26) ?hr ?_; (case hd => rfl); (case hg => rfl); (case hr => first | (go_simp; done) | (go_simp; rfl))
                       intro gb299 hg w139 hbox hb
                       replace HO226 := sR HO226 hb
                       replace HO230 := sR HO230 hb
                       replace HO234 := sR HO234 hb
                       replace HO237 := sR HO237 hb
                       replace HO243 := sR HO243 hb
                       replace HO248 := sR HO248 hb
                       replace HO253 := sR HO253 hb
                       replace HO256 := sR HO256 hb
                       replace HO264 := sR HO264 hb
                       replace HO269 := sR HO269 hb
                       replace HO286 := sR HO286 hb
                       have BK299 := Aside0.mk (hbox)
                       have GW299 := gH HB hg
                       have GE299 := gH HB hg
                       replace HB := sH HB hb
                       have NB219_299 := nB BK219 hg
                       have NB299_219 := oB BK219 hg
                       replace BK219 := sB BK219 hb
                       have NB220_299 := nB BK220 hg
                       have NB299_220 := oB BK220 hg
                       replace BK220 := sB BK220 hb
                       have NB239_299 := nB BK239 hg
                       have NB299_239 := oB BK239 hg
                       replace BK239 := sB BK239 hb
                       have NB244_299 := nB BK244 hg
                       have NB299_244 := oB BK244 hg
                       replace BK244 := sB BK244 hb
                       have NB249_299 := nB BK249 hg
                       have NB299_249 := oB BK249 hg
                       replace BK249 := sB BK249 hb
                       have NB258_299 := nB BK258 hg
                       have NB299_258 := oB BK258 hg
                       replace BK258 := sB BK258 hb
                       clear hb hbox hg
                       refine hK.out _ _ ⟨cB BK219 0, cB BK219 1, cB BK220 0, cB BK220 1⟩ (fun hHeld => ?_)
                       clear hK K
                       refine nm_ ?_
                       refine on_ 3 (some 123) 527 HT_ (fun K hK => ?_)
                       refine ca_ Try.func17 #[.agg #[.int .i64 a1_0, .slice A1_1 l1_1.length c1_1]] ?_
                       with_reducible refine (laws_toComplex.calls k a1_0 _ _ l1_1 t287 t288 _ ?side1 ?side2 A51.out).mono ?_
                       (case side1 => exact pC ((Kd.C_below HR1_1.out HB.out)))
                       (case side2 => exact HC1_1.out)
                       rintro e w140 ⟨v289, rfl, ho0, hb⟩
                       refine ⟨_, rfl, ?_⟩
                       replace HO237 := sR HO237 hb
                       replace HO256 := sR HO256 hb
                       have HO290 := Aside0.mk (Kd.R_lower (Kd.R_new' (Kd.R_new' (Kd.R_new' (Kd.R_new' (Kd.R_new' (Kd.R_new' (Kd.R_new' (Kd.R_new' (Kd.R_new' ho0 (Kd.R_lt (pR HO226))) (Kd.R_lt (pR HO230))) (Kd.R_lt (pR HO234))) (Kd.R_lt (pR HO243))) (Kd.R_lt (pR HO248))) (Kd.R_lt (pR HO253))) (Kd.R_lt (pR HO264))) (Kd.R_lt (pR HO269))) (Kd.R_lt (pR HO286))) (below_size (pH HB)))
                       replace HO226 := Aside0.mk (Kd.R_elder' (pR HO226) (Kd.R_base ho0) hb)
                       replace HO230 := Aside0.mk (Kd.R_elder' (pR HO230) (Kd.R_base ho0) hb)
                       replace HO234 := Aside0.mk (Kd.R_elder' (pR HO234) (Kd.R_base ho0) hb)
                       replace HO243 := Aside0.mk (Kd.R_elder' (pR HO243) (Kd.R_base ho0) hb)
                       replace HO248 := Aside0.mk (Kd.R_elder' (pR HO248) (Kd.R_base ho0) hb)
                       replace HO253 := Aside0.mk (Kd.R_elder' (pR HO253) (Kd.R_base ho0) hb)
                       replace HO264 := Aside0.mk (Kd.R_elder' (pR HO264) (Kd.R_base ho0) hb)
                       replace HO269 := Aside0.mk (Kd.R_elder' (pR HO269) (Kd.R_base ho0) hb)
                       replace HO286 := Aside0.mk (Kd.R_elder' (pR HO286) (Kd.R_base ho0) hb)
                       replace BK219 := sB BK219 hb
                       replace BK220 := sB BK220 hb
                       replace BK239 := sB BK239 hb
                       replace BK244 := sB BK244 hb
                       replace BK249 := sB BK249 hb
                       replace BK258 := sB BK258 hb
                       replace BK299 := sB BK299 hb
                       replace HB := sH HB hb
                       (try clear hb)
                       (try clear hb2)
                       (try clear hk)
                       (try clear hi)
                       (try clear ho0)
                       obtain ⟨Ao141, co141, eo141⟩ := Kd.R_slice HO286.out
                       (first | subst eo141 | (injection eo141 with f1_ f2_ f3_; have f4_ := f1_.symm; have f5_ := f3_.symm; clear f1_ f2_ f3_; subst f4_; subst f5_))
                       obtain ⟨Ao142, co142, eo142⟩ := Kd.R_slice HO290.out
                       (first | subst eo142 | (injection eo142 with f1_ f2_ f3_; have f4_ := f1_.symm; have f5_ := f3_.symm; clear f1_ f2_ f3_; subst f4_; subst f5_))
                       refine hK.out _ _ ⟨cB BK219 0, cB BK219 1, cB BK220 0, cB BK220 1⟩ (fun hHeld => ?_)
                       clear hK K
                       refine nm_ ?_
                       refine on_ 4 (some 124) 543 HT_ (fun K hK => ?_)
                       refine ca_ Try.func26 #[.agg #[.int .i64 t283, .slice Ao141 t284.length co141], .agg #[.int .i64 t287, .slice Ao142 t288.length co142]] ?_
                       with_reducible refine (impl_CollapseKeeping.calls t283 _ _ t284 t287 _ _ t288 t291 t292 t295 t298 _ ?side1 ?side2 ?side3 ?side4 A52.out).mono ?_
                       (case side1 => exact pC ((Kd.R_reads' HO286.out).2.2))
                       (case side2 => exact (Kd.R_reads' HO286.out).2.1)
                       (case side3 => exact pC ((Kd.R_reads' HO290.out).2.2))
                       (case side4 => exact (Kd.R_reads' HO290.out).2.1)
                       rintro e w143 ⟨v293, v296, rfl, ho0, ho1, hb⟩
                       refine ⟨_, rfl, ?_⟩
                       have HO294 := Aside0.mk (Kd.R_lower (Kd.R_new' (Kd.R_new' (Kd.R_new' (Kd.R_new' (Kd.R_new' (Kd.R_new' (Kd.R_new' (Kd.R_new' (Kd.R_new' (Kd.R_new' ho0 (Kd.R_lt (pR HO226))) (Kd.R_lt (pR HO230))) (Kd.R_lt (pR HO234))) (Kd.R_lt (pR HO243))) (Kd.R_lt (pR HO248))) (Kd.R_lt (pR HO253))) (Kd.R_lt (pR HO264))) (Kd.R_lt (pR HO269))) (Kd.R_lt (pR HO286))) (Kd.R_lt (pR HO290))) (below_size (pH HB)))
                       replace HO226 := Aside0.mk (Kd.R_elder' (pR HO226) (Kd.R_base ho0) hb)
                       replace HO230 := Aside0.mk (Kd.R_elder' (pR HO230) (Kd.R_base ho0) hb)
                       replace HO234 := Aside0.mk (Kd.R_elder' (pR HO234) (Kd.R_base ho0) hb)
                       replace HO243 := Aside0.mk (Kd.R_elder' (pR HO243) (Kd.R_base ho0) hb)
                       replace HO248 := Aside0.mk (Kd.R_elder' (pR HO248) (Kd.R_base ho0) hb)
                       replace HO253 := Aside0.mk (Kd.R_elder' (pR HO253) (Kd.R_base ho0) hb)
                       replace HO264 := Aside0.mk (Kd.R_elder' (pR HO264) (Kd.R_base ho0) hb)
                       replace HO269 := Aside0.mk (Kd.R_elder' (pR HO269) (Kd.R_base ho0) hb)
                       replace HO286 := Aside0.mk (Kd.R_elder' (pR HO286) (Kd.R_base ho0) hb)
                       replace HO290 := Aside0.mk (Kd.R_elder' (pR HO290) (Kd.R_base ho0) hb)
                       have HO297 := Aside0.mk (Kd.R_lower (Kd.R_new' (Kd.R_new' ho1 (Kd.R_lt (pR HO237))) (Kd.R_lt (pR HO256))) (below_size (pH HB)))
                       replace HO237 := Aside0.mk (Kd.R_elder' (pR HO237) (Kd.R_base ho1) hb)
                       replace HO256 := Aside0.mk (Kd.R_elder' (pR HO256) (Kd.R_base ho1) hb)
                       replace BK219 := sB BK219 hb
                       replace BK220 := sB BK220 hb
                       replace BK239 := sB BK239 hb
                       replace BK244 := sB BK244 hb
                       replace BK249 := sB BK249 hb
                       replace BK258 := sB BK258 hb
                       replace BK299 := sB BK299 hb
                       replace HB := sH HB hb
                       (try clear hb)
                       (try clear hb2)
                       (try clear hk)
                       (try clear hi)
                       (try clear ho0)
                       (try clear ho1)
                       refine hK.out _ _ ⟨cB BK219 0, cB BK219 1, cB BK220 0, cB BK220 1⟩ (fun hHeld => ?_)
                       clear hK K
                       refine nm_ ?_
                       refine pu_ 5 119 575 HT_ ?_
                       refine pu_ 6 125 639 HT_ ?_
                       refine pu_ 7 126 767 HT_ ?_
                       refine pu_ 8 127 1023 HT_ ?_
                       exact norm_ (by simp only [putAll, Act.put, List.setIfInBounds_toArray, List.set_cons_zero, List.set_cons_succ]) (hCont (.slice Ao141 t284.length co141, .slice Ao142 t288.length co142, v293, v296, gb299) _ ⟨hHeld, (by (with_reducible repeat (first | apply Kd.R_alloc | apply Kd.R_drewN | apply Kd.R_drew)); exact Kd.R_mono HO226.out (fun _ hk => ⟨hk.1.1.1.1, ⟨hk.1.1.1.2.1, ⟨hk.1.1.1.2.2.1, ⟨hk.1.1.1.2.2.2.1, ⟨hk.1.1.1.2.2.2.2.1, ⟨hk.1.1.1.2.2.2.2.2.1, ⟨hk.1.1.1.2.2.2.2.2.2, ⟨hk.1.1.2, ⟨hk.1.2, hk.2⟩⟩⟩⟩⟩⟩⟩⟩⟩)), (by (with_reducible repeat (first | apply Kd.R_alloc | apply Kd.R_drewN | apply Kd.R_drew)); exact Kd.R_mono HO230.out (fun _ hk => ⟨hk.1.1.1.1, ⟨hk.1.1.1.2.1, ⟨hk.1.1.1.2.2.1, ⟨hk.1.1.1.2.2.2.1, ⟨hk.1.1.1.2.2.2.2.1, ⟨hk.1.1.1.2.2.2.2.2.1, ⟨hk.1.1.1.2.2.2.2.2.2, ⟨hk.1.1.2, ⟨hk.1.2, hk.2⟩⟩⟩⟩⟩⟩⟩⟩⟩)), (by (with_reducible repeat (first | apply Kd.R_alloc | apply Kd.R_drewN | apply Kd.R_drew)); exact Kd.R_mono HO234.out (fun _ hk => ⟨hk.1.1.1.1, ⟨hk.1.1.1.2.1, ⟨hk.1.1.1.2.2.1, ⟨hk.1.1.1.2.2.2.1, ⟨hk.1.1.1.2.2.2.2.1, ⟨hk.1.1.1.2.2.2.2.2.1, ⟨hk.1.1.1.2.2.2.2.2.2, ⟨hk.1.1.2, ⟨hk.1.2, hk.2⟩⟩⟩⟩⟩⟩⟩⟩⟩)), (pR HO237), (by (with_reducible repeat (first | apply Kd.R_alloc | apply Kd.R_drewN | apply Kd.R_drew)); exact Kd.R_mono HO243.out (fun _ hk => ⟨hk.1.1.1.1, ⟨hk.1.1.1.2.1, ⟨hk.1.1.1.2.2.1, ⟨hk.1.1.1.2.2.2.1, ⟨hk.1.1.1.2.2.2.2.1, ⟨hk.1.1.1.2.2.2.2.2.1, ⟨hk.1.1.1.2.2.2.2.2.2, ⟨hk.1.1.2, ⟨hk.1.2, hk.2⟩⟩⟩⟩⟩⟩⟩⟩⟩)), (by (with_reducible repeat (first | apply Kd.R_alloc | apply Kd.R_drewN | apply Kd.R_drew)); exact Kd.R_mono HO248.out (fun _ hk => ⟨hk.1.1.1.1, ⟨hk.1.1.1.2.1, ⟨hk.1.1.1.2.2.1, ⟨hk.1.1.1.2.2.2.1, ⟨hk.1.1.1.2.2.2.2.1, ⟨hk.1.1.1.2.2.2.2.2.1, ⟨hk.1.1.1.2.2.2.2.2.2, ⟨hk.1.1.2, ⟨hk.1.2, hk.2⟩⟩⟩⟩⟩⟩⟩⟩⟩)), (by (with_reducible repeat (first | apply Kd.R_alloc | apply Kd.R_drewN | apply Kd.R_drew)); exact Kd.R_mono HO253.out (fun _ hk => ⟨hk.1.1.1.1, ⟨hk.1.1.1.2.1, ⟨hk.1.1.1.2.2.1, ⟨hk.1.1.1.2.2.2.1, ⟨hk.1.1.1.2.2.2.2.1, ⟨hk.1.1.1.2.2.2.2.2.1, ⟨hk.1.1.1.2.2.2.2.2.2, ⟨hk.1.1.2, ⟨hk.1.2, hk.2⟩⟩⟩⟩⟩⟩⟩⟩⟩)), (pR HO256), (by (with_reducible repeat (first | apply Kd.R_alloc | apply Kd.R_drewN | apply Kd.R_drew)); exact Kd.R_mono HO264.out (fun _ hk => ⟨hk.1.1.1.1, ⟨hk.1.1.1.2.1, ⟨hk.1.1.1.2.2.1, ⟨hk.1.1.1.2.2.2.1, ⟨hk.1.1.1.2.2.2.2.1, ⟨hk.1.1.1.2.2.2.2.2.1, ⟨hk.1.1.1.2.2.2.2.2.2, ⟨hk.1.1.2, ⟨hk.1.2, hk.2⟩⟩⟩⟩⟩⟩⟩⟩⟩)), (by (with_reducible repeat (first | apply Kd.R_alloc | apply Kd.R_drewN | apply Kd.R_drew)); exact Kd.R_mono HO269.out (fun _ hk => ⟨hk.1.1.1.1, ⟨hk.1.1.1.2.1, ⟨hk.1.1.1.2.2.1, ⟨hk.1.1.1.2.2.2.1, ⟨hk.1.1.1.2.2.2.2.1, ⟨hk.1.1.1.2.2.2.2.2.1, ⟨hk.1.1.1.2.2.2.2.2.2, ⟨hk.1.1.2, ⟨hk.1.2, hk.2⟩⟩⟩⟩⟩⟩⟩⟩⟩)), (by (with_reducible repeat (first | apply Kd.R_alloc | apply Kd.R_drewN | apply Kd.R_drew)); exact Kd.R_mono HO286.out (fun _ hk => ⟨hk.1.1.1.1.1.1.1.1.1.2, ⟨hk.1.1.1.1.1.1.1.1.2, ⟨hk.1.1.1.1.1.1.1.2, ⟨hk.1.1.1.1.1.1.2, ⟨hk.1.1.1.1.1.2, ⟨hk.1.1.1.1.2, ⟨hk.1.1.1.2, ⟨hk.1.1.2, ⟨hk.1.2, hk.2⟩⟩⟩⟩⟩⟩⟩⟩⟩)), (by (with_reducible repeat (first | apply Kd.R_alloc | apply Kd.R_drewN | apply Kd.R_drew)); exact Kd.R_mono HO290.out (fun _ hk => ⟨hk.1.1.1.1.1.1.1.1.1.2, ⟨hk.1.1.1.1.1.1.1.1.2, ⟨hk.1.1.1.1.1.1.1.2, ⟨hk.1.1.1.1.1.1.2, ⟨hk.1.1.1.1.1.2, ⟨hk.1.1.1.1.2, ⟨hk.1.1.1.2, ⟨hk.1.1.2, ⟨hk.1.2, hk.2⟩⟩⟩⟩⟩⟩⟩⟩⟩)), (by (with_reducible repeat (first | apply Kd.R_alloc | apply Kd.R_drewN | apply Kd.R_drew)); exact Kd.R_mono HO294.out (fun _ hk => ⟨hk.1.1.1.1.1.1.1.1.1.2, ⟨hk.1.1.1.1.1.1.1.1.2, ⟨hk.1.1.1.1.1.1.1.2, ⟨hk.1.1.1.1.1.1.2, ⟨hk.1.1.1.1.1.2, ⟨hk.1.1.1.1.2, ⟨hk.1.1.1.2, ⟨hk.1.1.2, ⟨hk.1.2, hk.2⟩⟩⟩⟩⟩⟩⟩⟩⟩)), (by (with_reducible repeat (first | apply Kd.R_alloc | apply Kd.R_drewN | apply Kd.R_drew)); exact Kd.R_mono HO297.out (fun _ hk => ⟨hk.1.2, hk.2⟩)), (pB BK219), (pB BK220), (pB BK239), (pB BK244), (pB BK249), (pB BK258), (pB BK299), GW299.out, GE299.out, NB219_299.out, NB299_219.out, NB220_299.out, NB299_220.out, NB239_299.out, NB299_239.out, NB244_299.out, NB299_244.out, NB249_299.out, NB299_249.out, NB258_299.out, NB299_258.out, (pH HB)⟩)
                     ·skip
                      refine box_step ?hg (N := 17) ?hd (cs := #[.int .i64 0, .slice none 0 0]) (t := 26) ?hr ?_; (case hd => rfl); (case hg => rfl); (case hr => first | (go_simp; done) | (go_simp; rfl))
                      intro gb299 hg w138 hbox hb
                      replace HO226 := sR HO226 hb
                      replace HO230 := sR HO230 hb
                      replace HO234 := sR HO234 hb
                      replace HO237 := sR HO237 hb
                      replace HO243 := sR HO243 hb
                      replace HO248 := sR HO248 hb
                      replace HO253 := sR HO253 hb
                      replace HO256 := sR HO256 hb
                      replace HO264 := sR HO264 hb
                      replace HO269 := sR HO269 hb
                      have BK299 := Aside0.mk (hbox)
                      have GW299 := gH HB hg
                      have GE299 := gH HB hg
                      replace HB := sH HB hb
                      have NB219_299 := nB BK219 hg
                      have NB299_219 := oB BK219 hg
                      replace BK219 := sB BK219 hb
                      have NB220_299 := nB BK220 hg
                      have NB299_220 := oB BK220 hg
                      replace BK220 := sB BK220 hb
                      have NB239_299 := nB BK239 hg
                      have NB299_239 := oB BK239 hg
                      replace BK239 := sB BK239 hb
                      have NB244_299 := nB BK244 hg
                      have NB299_244 := oB BK244 hg
                      replace BK244 := sB BK244 hb
                      have NB249_299 := nB BK249 hg
                      have NB299_249 := oB BK249 hg
                      replace BK249 := sB BK249 hb
                      have NB258_299 := nB BK258 hg
                      have NB299_258 := oB BK258 hg
                      replace BK258 := sB BK258 hb
                      clear hb hbox hg
                      refine hK.out _ _ ⟨cB BK219 0, cB BK219 1, cB BK220 0, cB BK220 1⟩ (fun hHeld => ?_)
                      clear hK K
                      refine nm_ ?_
                      refine on_ 1 (some 121) 519 HT_ (fun K hK => ?_)
                      refine ca_ Try.func17 #[.agg #[.int .i64 a0_0, .slice A0_1 l0_1.length c0_1]] ?_
                      with_reducible refine (laws_toComplex.calls k a0_0 _ _ l0_1 t283 t284 _ ?side1 ?side2 A50.out).mono ?_
                      (case side1 => exact pC ((Kd.C_below HR0_1.out HB.out)))
                      (case side2 => exact HC0_1.out)
                      rintro e w139 ⟨v285, rfl, ho0, hb⟩
                      refine ⟨_, rfl, ?_⟩
                      replace HO237 := sR HO237 hb
                      replace HO256 := sR HO256 hb
                      have HO286 := Aside0.mk (Kd.R_lower (Kd.R_new' (Kd.R_new' (Kd.R_new' (Kd.R_new' (Kd.R_new' (Kd.R_new' (Kd.R_new' (Kd.R_new' ho0 (Kd.R_lt (pR HO226))) (Kd.R_lt (pR HO230))) (Kd.R_lt (pR HO234))) (Kd.R_lt (pR HO243))) (Kd.R_lt (pR HO248))) (Kd.R_lt (pR HO253))) (Kd.R_lt (pR HO264))) (Kd.R_lt (pR HO269))) (below_size (pH HB)))
                      replace HO226 := Aside0.mk (Kd.R_elder' (pR HO226) (Kd.R_base ho0) hb)
                      replace HO230 := Aside0.mk (Kd.R_elder' (pR HO230) (Kd.R_base ho0) hb)
                      replace HO234 := Aside0.mk (Kd.R_elder' (pR HO234) (Kd.R_base ho0) hb)
                      replace HO243 := Aside0.mk (Kd.R_elder' (pR HO243) (Kd.R_base ho0) hb)
                      replace HO248 := Aside0.mk (Kd.R_elder' (pR HO248) (Kd.R_base ho0) hb)
                      replace HO253 := Aside0.mk (Kd.R_elder' (pR HO253) (Kd.R_base ho0) hb)
                      replace HO264 := Aside0.mk (Kd.R_elder' (pR HO264) (Kd.R_base ho0) hb)
                      replace HO269 := Aside0.mk (Kd.R_elder' (pR HO269) (Kd.R_base ho0) hb)
                      replace BK219 := sB BK219 hb
                      replace BK220 := sB BK220 hb
                      replace BK239 := sB BK239 hb
                      replace BK244 := sB BK244 hb
                      replace BK249 := sB BK249 hb
                      replace BK258 := sB BK258 hb
                      replace BK299 := sB BK299 hb
                      replace HB := sH HB hb
                      (try clear hb)
                      (try clear hb2)
                      (try clear hk)
                      (try clear hi)
                      (try clear ho0)
                      refine hK.out _ _ ⟨cB BK219 0, cB BK219 1, cB BK220 0, cB BK220 1⟩ (fun hHeld => ?_)
                      clear hK K
                      refine nm_ ?_
                      refine on_ 3 (some 123) 527 HT_ (fun K hK => ?_)
                      refine ca_ Try.func17 #[.agg #[.int .i64 a1_0, .slice A1_1 l1_1.length c1_1]] ?_
                      with_reducible refine (laws_toComplex.calls k a1_0 _ _ l1_1 t287 t288 _ ?side1 ?side2 A51.out).mono ?_
                      (case side1 => exact pC ((Kd.C_below HR1_1.out HB.out)))
                      (case side2 => exact HC1_1.out)
                      rintro e w140 ⟨v289, rfl, ho0, hb⟩
                      refine ⟨_, rfl, ?_⟩
                      replace HO237 := sR HO237 hb
                      replace HO256 := sR HO256 hb
                      have HO290 := Aside0.mk (Kd.R_lower (Kd.R_new' (Kd.R_new' (Kd.R_new' (Kd.R_new' (Kd.R_new' (Kd.R_new' (Kd.R_new' (Kd.R_new' (Kd.R_new' ho0 (Kd.R_lt (pR HO226))) (Kd.R_lt (pR HO230))) (Kd.R_lt (pR HO234))) (Kd.R_lt (pR HO243))) (Kd.R_lt (pR HO248))) (Kd.R_lt (pR HO253))) (Kd.R_lt (pR HO264))) (Kd.R_lt (pR HO269))) (Kd.R_lt (pR HO286))) (below_size (pH HB)))
                      replace HO226 := Aside0.mk (Kd.R_elder' (pR HO226) (Kd.R_base ho0) hb)
                      replace HO230 := Aside0.mk (Kd.R_elder' (pR HO230) (Kd.R_base ho0) hb)
                      replace HO234 := Aside0.mk (Kd.R_elder' (pR HO234) (Kd.R_base ho0) hb)
                      replace HO243 := Aside0.mk (Kd.R_elder' (pR HO243) (Kd.R_base ho0) hb)
                      replace HO248 := Aside0.mk (Kd.R_elder' (pR HO248) (Kd.R_base ho0) hb)
                      replace HO253 := Aside0.mk (Kd.R_elder' (pR HO253) (Kd.R_base ho0) hb)
                      replace HO264 := Aside0.mk (Kd.R_elder' (pR HO264) (Kd.R_base ho0) hb)
                      replace HO269 := Aside0.mk (Kd.R_elder' (pR HO269) (Kd.R_base ho0) hb)
                      replace HO286 := Aside0.mk (Kd.R_elder' (pR HO286) (Kd.R_base ho0) hb)
                      replace BK219 := sB BK219 hb
                      replace BK220 := sB BK220 hb
                      replace BK239 := sB BK239 hb
                      replace BK244 := sB BK244 hb
                      replace BK249 := sB BK249 hb
                      replace BK258 := sB BK258 hb
                      replace BK299 := sB BK299 hb
                      replace HB := sH HB hb
                      (try clear hb)
                      (try clear hb2)
                      (try clear hk)
                      (try clear hi)
                      (try clear ho0)
                      obtain ⟨Ao141, co141, eo141⟩ := Kd.R_slice HO286.out
                      (first | subst eo141 | (injection eo141 with f1_ f2_ f3_; have f4_ := f1_.symm; have f5_ := f3_.symm; clear f1_ f2_ f3_; subst f4_; subst f5_))
                      obtain ⟨Ao142, co142, eo142⟩ := Kd.R_slice HO290.out
                      (first | subst eo142 | (injection eo142 with f1_ f2_ f3_; have f4_ := f1_.symm; have f5_ := f3_.symm; clear f1_ f2_ f3_; subst f4_; subst f5_))
                      refine hK.out _ _ ⟨cB BK219 0, cB BK219 1, cB BK220 0, cB BK220 1⟩ (fun hHeld => ?_)
                      clear hK K
                      refine nm_ ?_
                      refine on_ 4 (some 124) 543 HT_ (fun K hK => ?_)
                      refine ca_ Try.func26 #[.agg #[.int .i64 t283, .slice Ao141 t284.length co141], .agg #[.int .i64 t287, .slice Ao142 t288.length co142]] ?_
                      with_reducible refine (impl_CollapseKeeping.calls t283 _ _ t284 t287 _ _ t288 t291 t292 t295 t298 _ ?side1 ?side2 ?side3 ?side4 A52.out).mono ?_
                      (case side1 => exact pC ((Kd.R_reads' HO286.out).2.2))
                      (case side2 => exact (Kd.R_reads' HO286.out).2.1)
                      (case side3 => exact pC ((Kd.R_reads' HO290.out).2.2))
                      (case side4 => exact (Kd.R_reads' HO290.out).2.1)
                      rintro e w143 ⟨v293, v296, rfl, ho0, ho1, hb⟩
                      refine ⟨_, rfl, ?_⟩
                      have HO294 := Aside0.mk (Kd.R_lower (Kd.R_new' (Kd.R_new' (Kd.R_new' (Kd.R_new' (Kd.R_new' (Kd.R_new' (Kd.R_new' (Kd.R_new' (Kd.R_new' (Kd.R_new' ho0 (Kd.R_lt (pR HO226))) (Kd.R_lt (pR HO230))) (Kd.R_lt (pR HO234))) (Kd.R_lt (pR HO243))) (Kd.R_lt (pR HO248))) (Kd.R_lt (pR HO253))) (Kd.R_lt (pR HO264))) (Kd.R_lt (pR HO269))) (Kd.R_lt (pR HO286))) (Kd.R_lt (pR HO290))) (below_size (pH HB)))
                      replace HO226 := Aside0.mk (Kd.R_elder' (pR HO226) (Kd.R_base ho0) hb)
                      replace HO230 := Aside0.mk (Kd.R_elder' (pR HO230) (Kd.R_base ho0) hb)
                      replace HO234 := Aside0.mk (Kd.R_elder' (pR HO234) (Kd.R_base ho0) hb)
                      replace HO243 := Aside0.mk (Kd.R_elder' (pR HO243) (Kd.R_base ho0) hb)
                      replace HO248 := Aside0.mk (Kd.R_elder' (pR HO248) (Kd.R_base ho0) hb)
                      replace HO253 := Aside0.mk (Kd.R_elder' (pR HO253) (Kd.R_base ho0) hb)
                      replace HO264 := Aside0.mk (Kd.R_elder' (pR HO264) (Kd.R_base ho0) hb)
                      replace HO269 := Aside0.mk (Kd.R_elder' (pR HO269) (Kd.R_base ho0) hb)
                      replace HO286 := Aside0.mk (Kd.R_elder' (pR HO286) (Kd.R_base ho0) hb)
                      replace HO290 := Aside0.mk (Kd.R_elder' (pR HO290) (Kd.R_base ho0) hb)
                      have HO297 := Aside0.mk (Kd.R_lower (Kd.R_new' (Kd.R_new' ho1 (Kd.R_lt (pR HO237))) (Kd.R_lt (pR HO256))) (below_size (pH HB)))
                      replace HO237 := Aside0.mk (Kd.R_elder' (pR HO237) (Kd.R_base ho1) hb)
                      replace HO256 := Aside0.mk (Kd.R_elder' (pR HO256) (Kd.R_base ho1) hb)
                      replace BK219 := sB BK219 hb
                      replace BK220 := sB BK220 hb
                      replace BK239 := sB BK239 hb
                      replace BK244 := sB BK244 hb
                      replace BK249 := sB BK249 hb
                      replace BK258 := sB BK258 hb
                      replace BK299 := sB BK299 hb
                      replace HB := sH HB hb
                      (try clear hb)
                      (try clear hb2)
                      (try clear hk)
                      (try clear hi)
                      (try clear ho0)
                      (try clear ho1)
                      refine hK.out _ _ ⟨cB BK219 0, cB BK219 1, cB BK220 0, cB BK220 1⟩ (fun hHeld => ?_)
                      clear hK K
                      refine nm_ ?_
                      refine pu_ 5 119 575 HT_ ?_
                      refine pu_ 6 125 639 HT_ ?_
                      refine pu_ 7 126 767 HT_ ?_
                      refine pu_ 8 127 1023 HT_ ?_
                      exact norm_ (by simp only [putAll, Act.put, List.setIfInBounds_toArray, List.set_cons_zero, List.set_cons_succ]) (hCont (.slice Ao141 t284.length co141, .slice Ao142 t288.length co142, v293, v296, gb299) _ ⟨hHeld, (by (with_reducible repeat (first | apply Kd.R_alloc | apply Kd.R_drewN | apply Kd.R_drew)); exact Kd.R_mono HO226.out (fun _ hk => ⟨hk.1.1.1.1, ⟨hk.1.1.1.2.1, ⟨hk.1.1.1.2.2.1, ⟨hk.1.1.1.2.2.2.1, ⟨hk.1.1.1.2.2.2.2.1, ⟨hk.1.1.1.2.2.2.2.2.1, ⟨hk.1.1.1.2.2.2.2.2.2, ⟨hk.1.1.2, ⟨hk.1.2, hk.2⟩⟩⟩⟩⟩⟩⟩⟩⟩)), (by (with_reducible repeat (first | apply Kd.R_alloc | apply Kd.R_drewN | apply Kd.R_drew)); exact Kd.R_mono HO230.out (fun _ hk => ⟨hk.1.1.1.1, ⟨hk.1.1.1.2.1, ⟨hk.1.1.1.2.2.1, ⟨hk.1.1.1.2.2.2.1, ⟨hk.1.1.1.2.2.2.2.1, ⟨hk.1.1.1.2.2.2.2.2.1, ⟨hk.1.1.1.2.2.2.2.2.2, ⟨hk.1.1.2, ⟨hk.1.2, hk.2⟩⟩⟩⟩⟩⟩⟩⟩⟩)), (by (with_reducible repeat (first | apply Kd.R_alloc | apply Kd.R_drewN | apply Kd.R_drew)); exact Kd.R_mono HO234.out (fun _ hk => ⟨hk.1.1.1.1, ⟨hk.1.1.1.2.1, ⟨hk.1.1.1.2.2.1, ⟨hk.1.1.1.2.2.2.1, ⟨hk.1.1.1.2.2.2.2.1, ⟨hk.1.1.1.2.2.2.2.2.1, ⟨hk.1.1.1.2.2.2.2.2.2, ⟨hk.1.1.2, ⟨hk.1.2, hk.2⟩⟩⟩⟩⟩⟩⟩⟩⟩)), (pR HO237), (by (with_reducible repeat (first | apply Kd.R_alloc | apply Kd.R_drewN | apply Kd.R_drew)); exact Kd.R_mono HO243.out (fun _ hk => ⟨hk.1.1.1.1, ⟨hk.1.1.1.2.1, ⟨hk.1.1.1.2.2.1, ⟨hk.1.1.1.2.2.2.1, ⟨hk.1.1.1.2.2.2.2.1, ⟨hk.1.1.1.2.2.2.2.2.1, ⟨hk.1.1.1.2.2.2.2.2.2, ⟨hk.1.1.2, ⟨hk.1.2, hk.2⟩⟩⟩⟩⟩⟩⟩⟩⟩)), (by (with_reducible repeat (first | apply Kd.R_alloc | apply Kd.R_drewN | apply Kd.R_drew)); exact Kd.R_mono HO248.out (fun _ hk => ⟨hk.1.1.1.1, ⟨hk.1.1.1.2.1, ⟨hk.1.1.1.2.2.1, ⟨hk.1.1.1.2.2.2.1, ⟨hk.1.1.1.2.2.2.2.1, ⟨hk.1.1.1.2.2.2.2.2.1, ⟨hk.1.1.1.2.2.2.2.2.2, ⟨hk.1.1.2, ⟨hk.1.2, hk.2⟩⟩⟩⟩⟩⟩⟩⟩⟩)), (by (with_reducible repeat (first | apply Kd.R_alloc | apply Kd.R_drewN | apply Kd.R_drew)); exact Kd.R_mono HO253.out (fun _ hk => ⟨hk.1.1.1.1, ⟨hk.1.1.1.2.1, ⟨hk.1.1.1.2.2.1, ⟨hk.1.1.1.2.2.2.1, ⟨hk.1.1.1.2.2.2.2.1, ⟨hk.1.1.1.2.2.2.2.2.1, ⟨hk.1.1.1.2.2.2.2.2.2, ⟨hk.1.1.2, ⟨hk.1.2, hk.2⟩⟩⟩⟩⟩⟩⟩⟩⟩)), (pR HO256), (by (with_reducible repeat (first | apply Kd.R_alloc | apply Kd.R_drewN | apply Kd.R_drew)); exact Kd.R_mono HO264.out (fun _ hk => ⟨hk.1.1.1.1, ⟨hk.1.1.1.2.1, ⟨hk.1.1.1.2.2.1, ⟨hk.1.1.1.2.2.2.1, ⟨hk.1.1.1.2.2.2.2.1, ⟨hk.1.1.1.2.2.2.2.2.1, ⟨hk.1.1.1.2.2.2.2.2.2, ⟨hk.1.1.2, ⟨hk.1.2, hk.2⟩⟩⟩⟩⟩⟩⟩⟩⟩)), (by (with_reducible repeat (first | apply Kd.R_alloc | apply Kd.R_drewN | apply Kd.R_drew)); exact Kd.R_mono HO269.out (fun _ hk => ⟨hk.1.1.1.1, ⟨hk.1.1.1.2.1, ⟨hk.1.1.1.2.2.1, ⟨hk.1.1.1.2.2.2.1, ⟨hk.1.1.1.2.2.2.2.1, ⟨hk.1.1.1.2.2.2.2.2.1, ⟨hk.1.1.1.2.2.2.2.2.2, ⟨hk.1.1.2, ⟨hk.1.2, hk.2⟩⟩⟩⟩⟩⟩⟩⟩⟩)), (by (with_reducible repeat (first | apply Kd.R_alloc | apply Kd.R_drewN | apply Kd.R_drew)); exact Kd.R_mono HO286.out (fun _ hk => ⟨hk.1.1.1.1.1.1.1.1.1.2, ⟨hk.1.1.1.1.1.1.1.1.2, ⟨hk.1.1.1.1.1.1.1.2, ⟨hk.1.1.1.1.1.1.2, ⟨hk.1.1.1.1.1.2, ⟨hk.1.1.1.1.2, ⟨hk.1.1.1.2, ⟨hk.1.1.2, ⟨hk.1.2, hk.2⟩⟩⟩⟩⟩⟩⟩⟩⟩)), (by (with_reducible repeat (first | apply Kd.R_alloc | apply Kd.R_drewN | apply Kd.R_drew)); exact Kd.R_mono HO290.out (fun _ hk => ⟨hk.1.1.1.1.1.1.1.1.1.2, ⟨hk.1.1.1.1.1.1.1.1.2, ⟨hk.1.1.1.1.1.1.1.2, ⟨hk.1.1.1.1.1.1.2, ⟨hk.1.1.1.1.1.2, ⟨hk.1.1.1.1.2, ⟨hk.1.1.1.2, ⟨hk.1.1.2, ⟨hk.1.2, hk.2⟩⟩⟩⟩⟩⟩⟩⟩⟩)), (by (with_reducible repeat (first | apply Kd.R_alloc | apply Kd.R_drewN | apply Kd.R_drew)); exact Kd.R_mono HO294.out (fun _ hk => ⟨hk.1.1.1.1.1.1.1.1.1.2, ⟨hk.1.1.1.1.1.1.1.1.2, ⟨hk.1.1.1.1.1.1.1.2, ⟨hk.1.1.1.1.1.1.2, ⟨hk.1.1.1.1.1.2, ⟨hk.1.1.1.1.2, ⟨hk.1.1.1.2, ⟨hk.1.1.2, ⟨hk.1.2, hk.2⟩⟩⟩⟩⟩⟩⟩⟩⟩)), (by (with_reducible repeat (first | apply Kd.R_alloc | apply Kd.R_drewN | apply Kd.R_drew)); exact Kd.R_mono HO297.out (fun _ hk => ⟨hk.1.2, hk.2⟩)), (pB BK219), (pB BK220), (pB BK239), (pB BK244), (pB BK249), (pB BK258), (pB BK299), GW299.out, GE299.out, NB219_299.out, NB299_219.out, NB220_299.out, NB299_220.out, NB239_299.out, NB299_239.out, NB244_299.out, NB299_244.out, NB249_299.out, NB299_249.out, NB258_299.out, NB299_258.out, (pH HB)⟩)
                    rintro ⟨v285, v289, v293, v296, gb299⟩ w144 ⟨hS_, h0_, h1_, h2_, h3_, h4_, h5_, h6_, h7_, h8_, h9_, h10_, h11_, h12_, h13_, h14_, h15_, h16_, h17_, h18_, h19_, h20_, h21_, h22_, h23_, h24_, h25_, h26_, h27_, h28_, h29_, h30_, h31_, h32_, h33_, h34_, h35_⟩
                    have n0_ : Aside0 (Kd.R (Kd.int .i64) 2 w144 w.heap.size (fun k_ => some k_ ≠ (v229 : Value).ownBlock ∧ some k_ ≠ (.slice Ao79 t232.length co79 : Value).ownBlock ∧ some k_ ≠ (.slice Ao89 t241.length co89 : Value).ownBlock ∧ some k_ ≠ (.slice Ao99 t246.length co99 : Value).ownBlock ∧ some k_ ≠ (.slice Ao109 t251.length co109 : Value).ownBlock ∧ some k_ ≠ (.slice Ao117 t262.length co117 : Value).ownBlock ∧ some k_ ≠ (.slice Ao121 t267.length co121 : Value).ownBlock ∧ some k_ ≠ (v285 : Value).ownBlock ∧ some k_ ≠ (v289 : Value).ownBlock ∧ some k_ ≠ (v293 : Value).ownBlock) v225 t224) := ⟨h0_⟩
                    have n1_ : Aside0 (Kd.R (Kd.int .i64) 2 w144 w.heap.size (fun k_ => some k_ ≠ (v225 : Value).ownBlock ∧ some k_ ≠ (.slice Ao79 t232.length co79 : Value).ownBlock ∧ some k_ ≠ (.slice Ao89 t241.length co89 : Value).ownBlock ∧ some k_ ≠ (.slice Ao99 t246.length co99 : Value).ownBlock ∧ some k_ ≠ (.slice Ao109 t251.length co109 : Value).ownBlock ∧ some k_ ≠ (.slice Ao117 t262.length co117 : Value).ownBlock ∧ some k_ ≠ (.slice Ao121 t267.length co121 : Value).ownBlock ∧ some k_ ≠ (v285 : Value).ownBlock ∧ some k_ ≠ (v289 : Value).ownBlock ∧ some k_ ≠ (v293 : Value).ownBlock) v229 t228) := ⟨h1_⟩
                    have n2_ : Aside0 (Kd.R (Kd.int .i64) 2 w144 w.heap.size (fun k_ => some k_ ≠ (v225 : Value).ownBlock ∧ some k_ ≠ (v229 : Value).ownBlock ∧ some k_ ≠ (.slice Ao89 t241.length co89 : Value).ownBlock ∧ some k_ ≠ (.slice Ao99 t246.length co99 : Value).ownBlock ∧ some k_ ≠ (.slice Ao109 t251.length co109 : Value).ownBlock ∧ some k_ ≠ (.slice Ao117 t262.length co117 : Value).ownBlock ∧ some k_ ≠ (.slice Ao121 t267.length co121 : Value).ownBlock ∧ some k_ ≠ (v285 : Value).ownBlock ∧ some k_ ≠ (v289 : Value).ownBlock ∧ some k_ ≠ (v293 : Value).ownBlock) (.slice Ao79 t232.length co79) t232) := ⟨h2_⟩
                    have n3_ : Aside0 (Kd.R k76 76 w144 w.heap.size (fun k_ => some k_ ≠ (.slice Ao112 t254.length co112 : Value).ownBlock ∧ some k_ ≠ (v296 : Value).ownBlock) (.slice Ao113 t235.length co113) t235) := ⟨h3_⟩
                    have n4_ : Aside0 (Kd.R (Kd.int .i64) 2 w144 w.heap.size (fun k_ => some k_ ≠ (v225 : Value).ownBlock ∧ some k_ ≠ (v229 : Value).ownBlock ∧ some k_ ≠ (.slice Ao79 t232.length co79 : Value).ownBlock ∧ some k_ ≠ (.slice Ao99 t246.length co99 : Value).ownBlock ∧ some k_ ≠ (.slice Ao109 t251.length co109 : Value).ownBlock ∧ some k_ ≠ (.slice Ao117 t262.length co117 : Value).ownBlock ∧ some k_ ≠ (.slice Ao121 t267.length co121 : Value).ownBlock ∧ some k_ ≠ (v285 : Value).ownBlock ∧ some k_ ≠ (v289 : Value).ownBlock ∧ some k_ ≠ (v293 : Value).ownBlock) (.slice Ao89 t241.length co89) t272) := ⟨h4_⟩
                    have n5_ : Aside0 (Kd.R (Kd.int .i64) 2 w144 w.heap.size (fun k_ => some k_ ≠ (v225 : Value).ownBlock ∧ some k_ ≠ (v229 : Value).ownBlock ∧ some k_ ≠ (.slice Ao79 t232.length co79 : Value).ownBlock ∧ some k_ ≠ (.slice Ao89 t241.length co89 : Value).ownBlock ∧ some k_ ≠ (.slice Ao109 t251.length co109 : Value).ownBlock ∧ some k_ ≠ (.slice Ao117 t262.length co117 : Value).ownBlock ∧ some k_ ≠ (.slice Ao121 t267.length co121 : Value).ownBlock ∧ some k_ ≠ (v285 : Value).ownBlock ∧ some k_ ≠ (v289 : Value).ownBlock ∧ some k_ ≠ (v293 : Value).ownBlock) (.slice Ao99 t246.length co99) t274) := ⟨h5_⟩
                    have n6_ : Aside0 (Kd.R (Kd.int .i64) 2 w144 w.heap.size (fun k_ => some k_ ≠ (v225 : Value).ownBlock ∧ some k_ ≠ (v229 : Value).ownBlock ∧ some k_ ≠ (.slice Ao79 t232.length co79 : Value).ownBlock ∧ some k_ ≠ (.slice Ao89 t241.length co89 : Value).ownBlock ∧ some k_ ≠ (.slice Ao99 t246.length co99 : Value).ownBlock ∧ some k_ ≠ (.slice Ao117 t262.length co117 : Value).ownBlock ∧ some k_ ≠ (.slice Ao121 t267.length co121 : Value).ownBlock ∧ some k_ ≠ (v285 : Value).ownBlock ∧ some k_ ≠ (v289 : Value).ownBlock ∧ some k_ ≠ (v293 : Value).ownBlock) (.slice Ao109 t251.length co109) t278) := ⟨h6_⟩
                    have n7_ : Aside0 (Kd.R k76 76 w144 w.heap.size (fun k_ => some k_ ≠ (.slice Ao113 t235.length co113 : Value).ownBlock ∧ some k_ ≠ (v296 : Value).ownBlock) (.slice Ao112 t254.length co112) t280) := ⟨h7_⟩
                    have n8_ : Aside0 (Kd.R (Kd.int .i64) 2 w144 w.heap.size (fun k_ => some k_ ≠ (v225 : Value).ownBlock ∧ some k_ ≠ (v229 : Value).ownBlock ∧ some k_ ≠ (.slice Ao79 t232.length co79 : Value).ownBlock ∧ some k_ ≠ (.slice Ao89 t241.length co89 : Value).ownBlock ∧ some k_ ≠ (.slice Ao99 t246.length co99 : Value).ownBlock ∧ some k_ ≠ (.slice Ao109 t251.length co109 : Value).ownBlock ∧ some k_ ≠ (.slice Ao121 t267.length co121 : Value).ownBlock ∧ some k_ ≠ (v285 : Value).ownBlock ∧ some k_ ≠ (v289 : Value).ownBlock ∧ some k_ ≠ (v293 : Value).ownBlock) (.slice Ao117 t262.length co117) t262) := ⟨h8_⟩
                    have n9_ : Aside0 (Kd.R (Kd.int .i64) 2 w144 w.heap.size (fun k_ => some k_ ≠ (v225 : Value).ownBlock ∧ some k_ ≠ (v229 : Value).ownBlock ∧ some k_ ≠ (.slice Ao79 t232.length co79 : Value).ownBlock ∧ some k_ ≠ (.slice Ao89 t241.length co89 : Value).ownBlock ∧ some k_ ≠ (.slice Ao99 t246.length co99 : Value).ownBlock ∧ some k_ ≠ (.slice Ao109 t251.length co109 : Value).ownBlock ∧ some k_ ≠ (.slice Ao117 t262.length co117 : Value).ownBlock ∧ some k_ ≠ (v285 : Value).ownBlock ∧ some k_ ≠ (v289 : Value).ownBlock ∧ some k_ ≠ (v293 : Value).ownBlock) (.slice Ao121 t267.length co121) t267) := ⟨h9_⟩
                    have n10_ : Aside0 (Kd.R (Kd.int .i64) 2 w144 w.heap.size (fun k_ => some k_ ≠ (v225 : Value).ownBlock ∧ some k_ ≠ (v229 : Value).ownBlock ∧ some k_ ≠ (.slice Ao79 t232.length co79 : Value).ownBlock ∧ some k_ ≠ (.slice Ao89 t241.length co89 : Value).ownBlock ∧ some k_ ≠ (.slice Ao99 t246.length co99 : Value).ownBlock ∧ some k_ ≠ (.slice Ao109 t251.length co109 : Value).ownBlock ∧ some k_ ≠ (.slice Ao117 t262.length co117 : Value).ownBlock ∧ some k_ ≠ (.slice Ao121 t267.length co121 : Value).ownBlock ∧ some k_ ≠ (v289 : Value).ownBlock ∧ some k_ ≠ (v293 : Value).ownBlock) v285 t284) := ⟨h10_⟩
                    have n11_ : Aside0 (Kd.R (Kd.int .i64) 2 w144 w.heap.size (fun k_ => some k_ ≠ (v225 : Value).ownBlock ∧ some k_ ≠ (v229 : Value).ownBlock ∧ some k_ ≠ (.slice Ao79 t232.length co79 : Value).ownBlock ∧ some k_ ≠ (.slice Ao89 t241.length co89 : Value).ownBlock ∧ some k_ ≠ (.slice Ao99 t246.length co99 : Value).ownBlock ∧ some k_ ≠ (.slice Ao109 t251.length co109 : Value).ownBlock ∧ some k_ ≠ (.slice Ao117 t262.length co117 : Value).ownBlock ∧ some k_ ≠ (.slice Ao121 t267.length co121 : Value).ownBlock ∧ some k_ ≠ (v285 : Value).ownBlock ∧ some k_ ≠ (v293 : Value).ownBlock) v289 t288) := ⟨h11_⟩
                    have n12_ : Aside0 (Kd.R (Kd.int .i64) 2 w144 w.heap.size (fun k_ => some k_ ≠ (v225 : Value).ownBlock ∧ some k_ ≠ (v229 : Value).ownBlock ∧ some k_ ≠ (.slice Ao79 t232.length co79 : Value).ownBlock ∧ some k_ ≠ (.slice Ao89 t241.length co89 : Value).ownBlock ∧ some k_ ≠ (.slice Ao99 t246.length co99 : Value).ownBlock ∧ some k_ ≠ (.slice Ao109 t251.length co109 : Value).ownBlock ∧ some k_ ≠ (.slice Ao117 t262.length co117 : Value).ownBlock ∧ some k_ ≠ (.slice Ao121 t267.length co121 : Value).ownBlock ∧ some k_ ≠ (v285 : Value).ownBlock ∧ some k_ ≠ (v289 : Value).ownBlock) v293 t292) := ⟨h12_⟩
                    have n13_ : Aside0 (Kd.R k76 76 w144 w.heap.size (fun k_ => some k_ ≠ (.slice Ao113 t235.length co113 : Value).ownBlock ∧ some k_ ≠ (.slice Ao112 t254.length co112 : Value).ownBlock) v296 t295) := ⟨h13_⟩
                    have n14_ : Aside0 (w144.heap[gb219]? = some (.cells #[.int .i64 a0_0, .slice A0_1 l0_1.length c0_1] 24 (0, 0))) := ⟨h14_⟩
                    have n15_ : Aside0 (w144.heap[gb220]? = some (.cells #[.int .i64 a1_0, .slice A1_1 l1_1.length c1_1] 24 (0, 0))) := ⟨h15_⟩
                    have n16_ : Aside0 (w144.heap[gb239]? = some (.cells #[.int .i64 t231, .slice Ao79 t232.length co79] 26 (0, 0))) := ⟨h16_⟩
                    have n17_ : Aside0 (w144.heap[gb244]? = some (.cells #[.int .i64 t240, .slice Ao89 t241.length co89] 26 (0, 0))) := ⟨h17_⟩
                    have n18_ : Aside0 (w144.heap[gb249]? = some (.cells #[.int .i64 t245, .slice Ao99 t246.length co99] 26 (0, 0))) := ⟨h18_⟩
                    have n19_ : Aside0 (w144.heap[gb258]? = some (.cells #[.int .i64 t250, .slice Ao109 t251.length co109] 26 (0, 0))) := ⟨h19_⟩
                    have n20_ : Aside0 (w144.heap[gb299]? = some (.cells #[.int .i64 0, .slice none 0 0] 26 (0, 0))) := ⟨h20_⟩
                    have n21_ : Aside0 (w.heap.size ≤ gb299) := ⟨h21_⟩
                    have n22_ : Aside0 (w.heap.size ≤ gb299) := ⟨h22_⟩
                    have n23_ : Aside0 (gb219 ≠ gb299) := ⟨h23_⟩
                    have n24_ : Aside0 (gb299 ≠ gb219) := ⟨h24_⟩
                    have n25_ : Aside0 (gb220 ≠ gb299) := ⟨h25_⟩
                    have n26_ : Aside0 (gb299 ≠ gb220) := ⟨h26_⟩
                    have n27_ : Aside0 (gb239 ≠ gb299) := ⟨h27_⟩
                    have n28_ : Aside0 (gb299 ≠ gb239) := ⟨h28_⟩
                    have n29_ : Aside0 (gb244 ≠ gb299) := ⟨h29_⟩
                    have n30_ : Aside0 (gb299 ≠ gb244) := ⟨h30_⟩
                    have n31_ : Aside0 (gb249 ≠ gb299) := ⟨h31_⟩
                    have n32_ : Aside0 (gb299 ≠ gb249) := ⟨h32_⟩
                    have n33_ : Aside0 (gb258 ≠ gb299) := ⟨h33_⟩
                    have n34_ : Aside0 (gb299 ≠ gb258) := ⟨h34_⟩
                    have n35_ : Aside0 (Below w.heap.size w w144) := ⟨h35_⟩
                    clear HO226
                    clear HO230
                    clear HO234
                    clear HO237
                    clear HO243
                    clear HO248
                    clear HO253
                    clear HO256
                    clear HO264
                    clear HO269
                    clear BK219
                    clear BK220
                    clear BK239
                    clear BK244
                    clear BK249
                    clear BK258
                    clear HB
                    clear h0_ h1_ h2_ h3_ h4_ h5_ h6_ h7_ h8_ h9_ h10_ h11_ h12_ h13_ h14_ h15_ h16_ h17_ h18_ h19_ h20_ h21_ h22_ h23_ h24_ h25_ h26_ h27_ h28_ h29_ h30_ h31_ h32_ h33_ h34_ h35_
                    have HO226 := n0_
                    have HO230 := n1_
                    have HO234 := n2_
                    have HO237 := n3_
                    have HO243 := n4_
                    have HO248 := n5_
                    have HO253 := n6_
                    have HO256 := n7_
                    have HO264 := n8_
                    have HO269 := n9_
                    have HO286 := n10_
                    have HO290 := n11_
                    have HO294 := n12_
                    have HO297 := n13_
                    have BK219 := n14_
                    have BK220 := n15_
                    have BK239 := n16_
                    have BK244 := n17_
                    have BK249 := n18_
                    have BK258 := n19_
                    have BK299 := n20_
                    have GW299 := n21_
                    have GE299 := n22_
                    have NB219_299 := n23_
                    have NB299_219 := n24_
                    have NB220_299 := n25_
                    have NB299_220 := n26_
                    have NB239_299 := n27_
                    have NB299_239 := n28_
                    have NB244_299 := n29_
                    have NB299_244 := n30_
                    have NB249_299 := n31_
                    have NB299_249 := n32_
                    have NB258_299 := n33_
                    have NB299_258 := n34_
                    have HB := n35_
                    clear n0_ n1_ n2_ n3_ n4_ n5_ n6_ n7_ n8_ n9_ n10_ n11_ n12_ n13_ n14_ n15_ n16_ n17_ n18_ n19_ n20_ n21_ n22_ n23_ n24_ n25_ n26_ n27_ n28_ n29_ n30_ n31_ n32_ n33_ n34_ n35_
                    have hHeld : w144.cell? ⟨gb219, 0, none⟩ = some (.int .i64 a0_0) ∧ w144.cell? ⟨gb219, 1, none⟩ = some (.slice A0_1 l0_1.length c0_1) ∧ w144.cell? ⟨gb220, 0, none⟩ = some (.int .i64 a1_0) ∧ w144.cell? ⟨gb220, 1, none⟩ = some (.slice A1_1 l1_1.length c1_1) := hS_
                    obtain ⟨Ao146, co146, eo146⟩ := Kd.R_slice HO294.out
                    (first | subst eo146 | (injection eo146 with f1_ f2_ f3_; have f4_ := f1_.symm; have f5_ := f3_.symm; clear f1_ f2_ f3_; subst f4_; subst f5_))
                    refine norm_ (a' := ?_) ?_ ?_
                    rotate_left
                    ·simp only [putAll, Act.put, List.setIfInBounds_toArray, List.set_cons_zero, List.set_cons_succ]
                     rfl
                    refine on_ 10 none 2047 HT_ (fun K hK => ?_)
                    have hs145 : w144.cell? ⟨gb299, 0, none⟩ = some (.int .i64 0) := cB BK299 0
                    have hfs145 := zB BK299 0
                    have hns145_0 := NB219_299.out
                    have hns145_1 := NB220_299.out
                    have hns145_2 := NB239_299.out
                    have hns145_3 := NB244_299.out
                    have hns145_4 := NB249_299.out
                    have hns145_5 := NB258_299.out
                    have hms145_0 := NB299_219.out
                    have hms145_1 := NB299_220.out
                    have hms145_2 := NB299_239.out
                    have hms145_3 := NB299_244.out
                    have hms145_4 := NB299_249.out
                    have hms145_5 := NB299_258.out
                    have hs147 : w144.cell? ⟨gb299, 1, none⟩ = some (.slice none 0 0) := cB BK299 1
                    have hfs147 := zB BK299 1
                    have hns147_0 := NB219_299.out
                    have hns147_1 := NB220_299.out
                    have hns147_2 := NB239_299.out
                    have hns147_3 := NB244_299.out
                    have hns147_4 := NB249_299.out
                    have hns147_5 := NB258_299.out
                    have hms147_0 := NB299_219.out
                    have hms147_1 := NB299_220.out
                    have hms147_2 := NB299_239.out
                    have hms147_3 := NB299_244.out
                    have hms147_4 := NB299_249.out
                    have hms147_5 := NB299_258.out
                    refine skip_ (w1 := ?_) (by rfl) rfl ?_ ?_
                    rotate_left
                    ·go_simp
                     rfl
                    refine hK.out _ _ ⟨((cell_far (p := ⟨gb299, _, none⟩) NB219_299.out _).trans (((cell_far (p := ⟨gb299, _, none⟩) NB219_299.out _).trans (hHeld.1)))), ((cell_far (p := ⟨gb299, _, none⟩) NB219_299.out _).trans (((cell_far (p := ⟨gb299, _, none⟩) NB219_299.out _).trans (hHeld.2.1)))), ((cell_far (p := ⟨gb299, _, none⟩) NB220_299.out _).trans (((cell_far (p := ⟨gb299, _, none⟩) NB220_299.out _).trans (hHeld.2.2.1)))), ((cell_far (p := ⟨gb299, _, none⟩) NB220_299.out _).trans (((cell_far (p := ⟨gb299, _, none⟩) NB220_299.out _).trans (hHeld.2.2.2))))⟩ (fun hHeld => ?_)
                    clear hK K
                    refine pu_ 11 18 4095 HT_ ?_
                    refine pu_ 12 19 8191 HT_ ?_
                    refine dn_ HT_ ?_
                    (try have hnb148 := NB299_219.out)
                    (try have hnc148 := NB219_299.out)
                    (try have hnb149 := NB299_220.out)
                    (try have hnc149 := NB220_299.out)
                    (try have hnb150 := NB299_239.out)
                    (try have hnc150 := NB239_299.out)
                    (try have hnb151 := NB299_244.out)
                    (try have hnc151 := NB244_299.out)
                    (try have hnb152 := NB299_249.out)
                    (try have hnc152 := NB249_299.out)
                    (try have hnb153 := NB299_258.out)
                    (try have hnc153 := NB258_299.out)
                    have hcz154_0 : w144.cell? ⟨gb299, 0, none⟩ = some (.int .i64 0) := cB BK299 0
                    have hcz154_1 : w144.cell? ⟨gb299, 1, none⟩ = some (.slice none 0 0) := cB BK299 1
                    have hfz154_0 := zB BK299 0
                    have hfz154_1 := zB BK299 1
                    have hcz155_0 : w144.cell? ⟨gb239, 0, none⟩ = some (.int .i64 t231) := cB BK239 0
                    have hcz155_1 : w144.cell? ⟨gb239, 1, none⟩ = some (.slice Ao79 t232.length co79) := cB BK239 1
                    have hfz155_0 := zB BK239 0
                    have hfz155_1 := zB BK239 1
                    try go_wp2_with (first | ((with_reducible refine gate_callee (f := 19) rfl ?_); refine cl_ (some 130) Try.func19 #[.agg #[.int .i64 t291, .slice Ao146 t292.length co146], .agg #[.int .i64 t231, .slice Ao79 t232.length co79]] ?_; (with_reducible refine (laws_eqComplex.calls k t291 _ _ t292 t231 _ _ t232 true _ ?side1 ?side2 ?side3 ?side4 A53.out).mono ?_); (case side1 => refine (Kd.R_reads' (e := 2) (base := w.heap.size) (ok := fun k_ => (some k_ ≠ (v225 : Value).ownBlock ∧ (some k_ ≠ (v229 : Value).ownBlock ∧ (some k_ ≠ (.slice Ao79 t232.length co79 : Value).ownBlock ∧ (some k_ ≠ (.slice Ao89 t241.length co89 : Value).ownBlock ∧ (some k_ ≠ (.slice Ao99 t246.length co99 : Value).ownBlock ∧ (some k_ ≠ (.slice Ao109 t251.length co109 : Value).ownBlock ∧ (some k_ ≠ (.slice Ao117 t262.length co117 : Value).ownBlock ∧ (some k_ ≠ (.slice Ao121 t267.length co121 : Value).ownBlock ∧ (some k_ ≠ (v285 : Value).ownBlock ∧ some k_ ≠ (v289 : Value).ownBlock)))))))))) (n := t292.length) (c := co146) ?_).2.2; exact (by (with_reducible repeat (first | apply Kd.R_alloc | apply Kd.R_drewN | apply Kd.R_drew)); exact (Kd.R_mono (Kd.R_far (p := ⟨gb299, 1, none⟩) (Kd.R_far (p := ⟨gb299, 0, none⟩) (Kd.R_types HO294.out BK299.out (by decide)) (fun _ hk => hk.2) (.int .i64 t291)) (fun _ hk => hk.2) (.slice Ao146 t292.length co146)) (fun _ h_ => h_.1)))); (case side2 => exact (Kd.R_reads' HO294.out).2.1); (case side3 => refine (Kd.R_reads' (e := 2) (base := w.heap.size) (ok := fun k_ => (some k_ ≠ (v225 : Value).ownBlock ∧ (some k_ ≠ (v229 : Value).ownBlock ∧ (some k_ ≠ (.slice Ao89 t241.length co89 : Value).ownBlock ∧ (some k_ ≠ (.slice Ao99 t246.length co99 : Value).ownBlock ∧ (some k_ ≠ (.slice Ao109 t251.length co109 : Value).ownBlock ∧ (some k_ ≠ (.slice Ao117 t262.length co117 : Value).ownBlock ∧ (some k_ ≠ (.slice Ao121 t267.length co121 : Value).ownBlock ∧ (some k_ ≠ (v285 : Value).ownBlock ∧ (some k_ ≠ (v289 : Value).ownBlock ∧ some k_ ≠ (.slice Ao146 t292.length co146 : Value).ownBlock)))))))))) (n := t232.length) (c := co79) ?_).2.2; exact (by (with_reducible repeat (first | apply Kd.R_alloc | apply Kd.R_drewN | apply Kd.R_drew)); exact (Kd.R_mono (Kd.R_far (p := ⟨gb299, 1, none⟩) (Kd.R_far (p := ⟨gb299, 0, none⟩) (Kd.R_types HO234.out BK299.out (by decide)) (fun _ hk => hk.2) (.int .i64 t291)) (fun _ hk => hk.2) (.slice Ao146 t292.length co146)) (fun _ h_ => h_.1)))); (case side4 => exact (Kd.R_reads' HO234.out).2.1); rintro e w156 ⟨rfl, hb⟩; refine ⟨_, rfl, ?_⟩; have n0_ := Aside0.mk (Kd.R_below (by (with_reducible repeat (first | apply Kd.R_alloc | apply Kd.R_drewN | apply Kd.R_drew)); exact (Kd.R_mono (Kd.R_far (p := ⟨gb299, 1, none⟩) (Kd.R_far (p := ⟨gb299, 0, none⟩) (Kd.R_types HO226.out BK299.out (by decide)) (fun _ hk => hk.2) (.int .i64 t291)) (fun _ hk => hk.2) (.slice Ao146 t292.length co146)) (fun _ h_ => h_.1))) hb); have n1_ := Aside0.mk (Kd.R_below (by (with_reducible repeat (first | apply Kd.R_alloc | apply Kd.R_drewN | apply Kd.R_drew)); exact (Kd.R_mono (Kd.R_far (p := ⟨gb299, 1, none⟩) (Kd.R_far (p := ⟨gb299, 0, none⟩) (Kd.R_types HO230.out BK299.out (by decide)) (fun _ hk => hk.2) (.int .i64 t291)) (fun _ hk => hk.2) (.slice Ao146 t292.length co146)) (fun _ h_ => h_.1))) hb); have n2_ := Aside0.mk (Kd.R_below (by (with_reducible repeat (first | apply Kd.R_alloc | apply Kd.R_drewN | apply Kd.R_drew)); exact (Kd.R_mono (Kd.R_far (p := ⟨gb299, 1, none⟩) (Kd.R_far (p := ⟨gb299, 0, none⟩) (Kd.R_types HO234.out BK299.out (by decide)) (fun _ hk => hk.2) (.int .i64 t291)) (fun _ hk => hk.2) (.slice Ao146 t292.length co146)) (fun _ h_ => h_.1))) hb); have n3_ := Aside0.mk (Kd.R_below (by (with_reducible repeat (first | apply Kd.R_alloc | apply Kd.R_drewN | apply Kd.R_drew)); exact (Kd.R_mono (Kd.R_far (p := ⟨gb299, 1, none⟩) (Kd.R_far (p := ⟨gb299, 0, none⟩) (Kd.R_types HO237.out BK299.out (by decide)) (fun _ hk => hk.2) (.int .i64 t291)) (fun _ hk => hk.2) (.slice Ao146 t292.length co146)) (fun _ h_ => h_.1))) hb); have n4_ := Aside0.mk (Kd.R_below (by (with_reducible repeat (first | apply Kd.R_alloc | apply Kd.R_drewN | apply Kd.R_drew)); exact (Kd.R_mono (Kd.R_far (p := ⟨gb299, 1, none⟩) (Kd.R_far (p := ⟨gb299, 0, none⟩) (Kd.R_types HO243.out BK299.out (by decide)) (fun _ hk => hk.2) (.int .i64 t291)) (fun _ hk => hk.2) (.slice Ao146 t292.length co146)) (fun _ h_ => h_.1))) hb); have n5_ := Aside0.mk (Kd.R_below (by (with_reducible repeat (first | apply Kd.R_alloc | apply Kd.R_drewN | apply Kd.R_drew)); exact (Kd.R_mono (Kd.R_far (p := ⟨gb299, 1, none⟩) (Kd.R_far (p := ⟨gb299, 0, none⟩) (Kd.R_types HO248.out BK299.out (by decide)) (fun _ hk => hk.2) (.int .i64 t291)) (fun _ hk => hk.2) (.slice Ao146 t292.length co146)) (fun _ h_ => h_.1))) hb); have n6_ := Aside0.mk (Kd.R_below (by (with_reducible repeat (first | apply Kd.R_alloc | apply Kd.R_drewN | apply Kd.R_drew)); exact (Kd.R_mono (Kd.R_far (p := ⟨gb299, 1, none⟩) (Kd.R_far (p := ⟨gb299, 0, none⟩) (Kd.R_types HO253.out BK299.out (by decide)) (fun _ hk => hk.2) (.int .i64 t291)) (fun _ hk => hk.2) (.slice Ao146 t292.length co146)) (fun _ h_ => h_.1))) hb); have n7_ := Aside0.mk (Kd.R_below (by (with_reducible repeat (first | apply Kd.R_alloc | apply Kd.R_drewN | apply Kd.R_drew)); exact (Kd.R_mono (Kd.R_far (p := ⟨gb299, 1, none⟩) (Kd.R_far (p := ⟨gb299, 0, none⟩) (Kd.R_types HO256.out BK299.out (by decide)) (fun _ hk => hk.2) (.int .i64 t291)) (fun _ hk => hk.2) (.slice Ao146 t292.length co146)) (fun _ h_ => h_.1))) hb); have n8_ := Aside0.mk (Kd.R_below (by (with_reducible repeat (first | apply Kd.R_alloc | apply Kd.R_drewN | apply Kd.R_drew)); exact (Kd.R_mono (Kd.R_far (p := ⟨gb299, 1, none⟩) (Kd.R_far (p := ⟨gb299, 0, none⟩) (Kd.R_types HO264.out BK299.out (by decide)) (fun _ hk => hk.2) (.int .i64 t291)) (fun _ hk => hk.2) (.slice Ao146 t292.length co146)) (fun _ h_ => h_.1))) hb); have n9_ := Aside0.mk (Kd.R_below (by (with_reducible repeat (first | apply Kd.R_alloc | apply Kd.R_drewN | apply Kd.R_drew)); exact (Kd.R_mono (Kd.R_far (p := ⟨gb299, 1, none⟩) (Kd.R_far (p := ⟨gb299, 0, none⟩) (Kd.R_types HO269.out BK299.out (by decide)) (fun _ hk => hk.2) (.int .i64 t291)) (fun _ hk => hk.2) (.slice Ao146 t292.length co146)) (fun _ h_ => h_.1))) hb); have n10_ := Aside0.mk (Kd.R_below (by (with_reducible repeat (first | apply Kd.R_alloc | apply Kd.R_drewN | apply Kd.R_drew)); exact (Kd.R_mono (Kd.R_far (p := ⟨gb299, 1, none⟩) (Kd.R_far (p := ⟨gb299, 0, none⟩) (Kd.R_types HO286.out BK299.out (by decide)) (fun _ hk => hk.2) (.int .i64 t291)) (fun _ hk => hk.2) (.slice Ao146 t292.length co146)) (fun _ h_ => h_.1))) hb); have n11_ := Aside0.mk (Kd.R_below (by (with_reducible repeat (first | apply Kd.R_alloc | apply Kd.R_drewN | apply Kd.R_drew)); exact (Kd.R_mono (Kd.R_far (p := ⟨gb299, 1, none⟩) (Kd.R_far (p := ⟨gb299, 0, none⟩) (Kd.R_types HO290.out BK299.out (by decide)) (fun _ hk => hk.2) (.int .i64 t291)) (fun _ hk => hk.2) (.slice Ao146 t292.length co146)) (fun _ h_ => h_.1))) hb); have n12_ := Aside0.mk (Kd.R_below (by (with_reducible repeat (first | apply Kd.R_alloc | apply Kd.R_drewN | apply Kd.R_drew)); exact (Kd.R_mono (Kd.R_far (p := ⟨gb299, 1, none⟩) (Kd.R_far (p := ⟨gb299, 0, none⟩) (Kd.R_types HO294.out BK299.out (by decide)) (fun _ hk => hk.2) (.int .i64 t291)) (fun _ hk => hk.2) (.slice Ao146 t292.length co146)) (fun _ h_ => h_.1))) hb); have n13_ := Aside0.mk (Kd.R_below (by (with_reducible repeat (first | apply Kd.R_alloc | apply Kd.R_drewN | apply Kd.R_drew)); exact (Kd.R_mono (Kd.R_far (p := ⟨gb299, 1, none⟩) (Kd.R_far (p := ⟨gb299, 0, none⟩) (Kd.R_types HO297.out BK299.out (by decide)) (fun _ hk => hk.2) (.int .i64 t291)) (fun _ hk => hk.2) (.slice Ao146 t292.length co146)) (fun _ h_ => h_.1))) hb); have n14_ := Aside0.mk (blk_below (g := gb219) (o := .cells #[.int .i64 a0_0, .slice A0_1 l0_1.length c0_1] 24 (0, 0)) (by (with_reducible repeat (first | refine blk_drewN ?_ _ | refine blk_drew ?_ | refine blk_alloc ?_ _)); refine blk_far ?_ NB219_299.out _; (with_reducible repeat (first | refine blk_drewN ?_ _ | refine blk_drew ?_ | refine blk_alloc ?_ _)); refine blk_far ?_ NB219_299.out _; (with_reducible repeat (first | refine blk_drewN ?_ _ | refine blk_drew ?_ | refine blk_alloc ?_ _)); exact BK219.out) hb); have n15_ := Aside0.mk (blk_below (g := gb220) (o := .cells #[.int .i64 a1_0, .slice A1_1 l1_1.length c1_1] 24 (0, 0)) (by (with_reducible repeat (first | refine blk_drewN ?_ _ | refine blk_drew ?_ | refine blk_alloc ?_ _)); refine blk_far ?_ NB220_299.out _; (with_reducible repeat (first | refine blk_drewN ?_ _ | refine blk_drew ?_ | refine blk_alloc ?_ _)); refine blk_far ?_ NB220_299.out _; (with_reducible repeat (first | refine blk_drewN ?_ _ | refine blk_drew ?_ | refine blk_alloc ?_ _)); exact BK220.out) hb); have n16_ := Aside0.mk (blk_below (g := gb239) (o := .cells #[.int .i64 t231, .slice Ao79 t232.length co79] 26 (0, 0)) (by (with_reducible repeat (first | refine blk_drewN ?_ _ | refine blk_drew ?_ | refine blk_alloc ?_ _)); refine blk_far ?_ NB239_299.out _; (with_reducible repeat (first | refine blk_drewN ?_ _ | refine blk_drew ?_ | refine blk_alloc ?_ _)); refine blk_far ?_ NB239_299.out _; (with_reducible repeat (first | refine blk_drewN ?_ _ | refine blk_drew ?_ | refine blk_alloc ?_ _)); exact BK239.out) hb); have n17_ := Aside0.mk (blk_below (g := gb244) (o := .cells #[.int .i64 t240, .slice Ao89 t241.length co89] 26 (0, 0)) (by (with_reducible repeat (first | refine blk_drewN ?_ _ | refine blk_drew ?_ | refine blk_alloc ?_ _)); refine blk_far ?_ NB244_299.out _; (with_reducible repeat (first | refine blk_drewN ?_ _ | refine blk_drew ?_ | refine blk_alloc ?_ _)); refine blk_far ?_ NB244_299.out _; (with_reducible repeat (first | refine blk_drewN ?_ _ | refine blk_drew ?_ | refine blk_alloc ?_ _)); exact BK244.out) hb); have n18_ := Aside0.mk (blk_below (g := gb249) (o := .cells #[.int .i64 t245, .slice Ao99 t246.length co99] 26 (0, 0)) (by (with_reducible repeat (first | refine blk_drewN ?_ _ | refine blk_drew ?_ | refine blk_alloc ?_ _)); refine blk_far ?_ NB249_299.out _; (with_reducible repeat (first | refine blk_drewN ?_ _ | refine blk_drew ?_ | refine blk_alloc ?_ _)); refine blk_far ?_ NB249_299.out _; (with_reducible repeat (first | refine blk_drewN ?_ _ | refine blk_drew ?_ | refine blk_alloc ?_ _)); exact BK249.out) hb); have n19_ := Aside0.mk (blk_below (g := gb258) (o := .cells #[.int .i64 t250, .slice Ao109 t251.length co109] 26 (0, 0)) (by (with_reducible repeat (first | refine blk_drewN ?_ _ | refine blk_drew ?_ | refine blk_alloc ?_ _)); refine blk_far ?_ NB258_299.out _; (with_reducible repeat (first | refine blk_drewN ?_ _ | refine blk_drew ?_ | refine blk_alloc ?_ _)); refine blk_far ?_ NB258_299.out _; (with_reducible repeat (first | refine blk_drewN ?_ _ | refine blk_drew ?_ | refine blk_alloc ?_ _)); exact BK258.out) hb); have n20_ := Aside0.mk (blk_below (g := gb299) (o := .cells #[.int .i64 t291, .slice Ao146 t292.length co146] 26 (0, 0)) (by (with_reducible repeat (first | refine blk_drewN ?_ _ | refine blk_drew ?_ | refine blk_alloc ?_ _)); refine blk_put (cs := #[.int .i64 t291, .slice none 0 0]) ?_ 1 _ rfl; (with_reducible repeat (first | refine blk_drewN ?_ _ | refine blk_drew ?_ | refine blk_alloc ?_ _)); refine blk_put (cs := #[.int .i64 0, .slice none 0 0]) ?_ 0 _ rfl; (with_reducible repeat (first | refine blk_drewN ?_ _ | refine blk_drew ?_ | refine blk_alloc ?_ _)); exact BK299.out) hb); have n21_ := sH HB hb; clear HO226; clear HO230; clear HO234; clear HO237; clear HO243; clear HO248; clear HO253; clear HO256; clear HO264; clear HO269; clear HO286; clear HO290; clear HO294; clear HO297; clear BK219; clear BK220; clear BK239; clear BK244; clear BK249; clear BK258; clear BK299; clear HB; have HO226 := n0_; have HO230 := n1_; have HO234 := n2_; have HO237 := n3_; have HO243 := n4_; have HO248 := n5_; have HO253 := n6_; have HO256 := n7_; have HO264 := n8_; have HO269 := n9_; have HO286 := n10_; have HO290 := n11_; have HO294 := n12_; have HO297 := n13_; have BK219 := n14_; have BK220 := n15_; have BK239 := n16_; have BK244 := n17_; have BK249 := n18_; have BK258 := n19_; have BK299 := n20_; have HB := n21_; clear n0_ n1_ n2_ n3_ n4_ n5_ n6_ n7_ n8_ n9_ n10_ n11_ n12_ n13_ n14_ n15_ n16_ n17_ n18_ n19_ n20_ n21_; (try clear hb); (try clear hi); have nD_ := Aside0.mk (Kd.R_mono (ok' := fun k_ => some k_ ≠ (.slice Ao89 t241.length co89 : Value).ownBlock ∧ some k_ ≠ (.slice Ao99 t246.length co99 : Value).ownBlock ∧ some k_ ≠ (.slice Ao109 t251.length co109 : Value).ownBlock ∧ some k_ ≠ (.slice Ao146 t292.length co146 : Value).ownBlock) HO234.out (fun k_ hk => ⟨hk.2.2.1, ⟨hk.2.2.2.1, ⟨hk.2.2.2.2.1, hk.2.2.2.2.2.2.2.2.2⟩⟩⟩)); clear HO234; have HO234 := nD_; clear nD_; have nD_ := Aside0.mk (Kd.R_mono (ok' := fun k_ => some k_ ≠ (.slice Ao79 t232.length co79 : Value).ownBlock ∧ some k_ ≠ (.slice Ao99 t246.length co99 : Value).ownBlock ∧ some k_ ≠ (.slice Ao109 t251.length co109 : Value).ownBlock ∧ some k_ ≠ (.slice Ao146 t292.length co146 : Value).ownBlock) HO243.out (fun k_ hk => ⟨hk.2.2.1, ⟨hk.2.2.2.1, ⟨hk.2.2.2.2.1, hk.2.2.2.2.2.2.2.2.2⟩⟩⟩)); clear HO243; have HO243 := nD_; clear nD_; have nD_ := Aside0.mk (Kd.R_mono (ok' := fun k_ => some k_ ≠ (.slice Ao79 t232.length co79 : Value).ownBlock ∧ some k_ ≠ (.slice Ao89 t241.length co89 : Value).ownBlock ∧ some k_ ≠ (.slice Ao109 t251.length co109 : Value).ownBlock ∧ some k_ ≠ (.slice Ao146 t292.length co146 : Value).ownBlock) HO248.out (fun k_ hk => ⟨hk.2.2.1, ⟨hk.2.2.2.1, ⟨hk.2.2.2.2.1, hk.2.2.2.2.2.2.2.2.2⟩⟩⟩)); clear HO248; have HO248 := nD_; clear nD_; have nD_ := Aside0.mk (Kd.R_mono (ok' := fun k_ => some k_ ≠ (.slice Ao79 t232.length co79 : Value).ownBlock ∧ some k_ ≠ (.slice Ao89 t241.length co89 : Value).ownBlock ∧ some k_ ≠ (.slice Ao99 t246.length co99 : Value).ownBlock ∧ some k_ ≠ (.slice Ao146 t292.length co146 : Value).ownBlock) HO253.out (fun k_ hk => ⟨hk.2.2.1, ⟨hk.2.2.2.1, ⟨hk.2.2.2.2.1, hk.2.2.2.2.2.2.2.2.2⟩⟩⟩)); clear HO253; have HO253 := nD_; clear nD_; have nD_ := Aside0.mk (Kd.R_mono (ok' := fun k_ => some k_ ≠ (.slice Ao79 t232.length co79 : Value).ownBlock ∧ some k_ ≠ (.slice Ao89 t241.length co89 : Value).ownBlock ∧ some k_ ≠ (.slice Ao99 t246.length co99 : Value).ownBlock ∧ some k_ ≠ (.slice Ao109 t251.length co109 : Value).ownBlock) HO294.out (fun k_ hk => ⟨hk.2.2.1, ⟨hk.2.2.2.1, ⟨hk.2.2.2.2.1, hk.2.2.2.2.2.1⟩⟩⟩)); clear HO294; have HO294 := nD_; clear nD_; clear HO226 HO230 HO264 HO269 HO286 HO290; obtain ⟨Ao157, co157, eo157⟩ := Kd.R_slice HO297.out; subst eo157) | (go_at_call 20; (with_reducible refine (laws_eqPairS.calls k _ _ t295 _ _ t235 true _ ?side1 ?side2 ?side3 ?side4 A55.out).mono ?_); (case side1 => exact pC ((Kd.R_reads' HO297.out).2.2)); (case side2 => exact (Kd.R_reads' HO297.out).2.1); (case side3 => exact pC ((Kd.R_reads' HO237.out).2.2)); (case side4 => exact (Kd.R_reads' HO237.out).2.1); rintro e w158 ⟨rfl, hb⟩; replace HO234 := sR HO234 hb; replace HO237 := sR HO237 hb; replace HO243 := sR HO243 hb; replace HO248 := sR HO248 hb; replace HO253 := sR HO253 hb; replace HO256 := sR HO256 hb; replace HO294 := sR HO294 hb; replace HO297 := sR HO297 hb; replace BK219 := sB BK219 hb; replace BK220 := sB BK220 hb; replace BK239 := sB BK239 hb; replace BK244 := sB BK244 hb; replace BK249 := sB BK249 hb; replace BK258 := sB BK258 hb; replace BK299 := sB BK299 hb; replace HB := sH HB hb; (try clear hb); (try clear hi); have nD_ := Aside0.mk (Kd.R_mono (ok' := fun k_ => True) HO256.out (fun k_ hk => trivial)); clear HO256; have HO256 := nD_; clear nD_; clear HO237 HO297; have hcz159_0 : w158.cell? ⟨gb258, 0, none⟩ = some (.int .i64 t250) := cB BK258 0; have hcz159_1 : w158.cell? ⟨gb258, 1, none⟩ = some (.slice Ao109 t251.length co109) := cB BK258 1; have hfz159_0 := zB BK258 0; have hfz159_1 := zB BK258 1) | ((with_reducible refine gate_callee (f := 23) rfl ?_); refine cl_ (some 145) Try.func23 #[.agg #[.int .i64 t250, .slice Ao109 t278.length co109], .int .i64 1] (hargs := by (try simp only [List.map_toArray, List.map_cons, List.map_nil]); first | done | (rw [show t278.length = t251.length from (Kd.R_reads' HO253.out).1.symm] <;> rfl) | rfl | (simp only [List.length_drop, List.length_take]; rfl)) ?_; (with_reducible refine (laws_heldComplex.calls k t250 _ _ t278 1 t302 _ ?side1 ?side2 A58.out).mono ?_); (case side1 => exact pC ((Kd.R_reads' HO253.out).2.2)); (case side2 => rw [show t278.length = t251.length from (Kd.R_reads' HO253.out).1.symm]; exact (Kd.R_reads' HO253.out).2.1); rintro e w160 ⟨rfl, hb⟩; refine ⟨_, rfl, ?_⟩; replace HO234 := sR HO234 hb; replace HO243 := sR HO243 hb; replace HO248 := sR HO248 hb; replace HO253 := sR HO253 hb; replace HO256 := sR HO256 hb; replace HO294 := sR HO294 hb; replace BK219 := sB BK219 hb; replace BK220 := sB BK220 hb; replace BK239 := sB BK239 hb; replace BK244 := sB BK244 hb; replace BK249 := sB BK249 hb; replace BK258 := sB BK258 hb; replace BK299 := sB BK299 hb; replace HB := sH HB hb; (try clear hb); (try clear hi)) | ((with_reducible refine gate_callee (f := 24) rfl ?_); refine cl_ (some 150) Try.func24 #[.slice Ao112 t280.length co112, .int .i64 t302] (hargs := by (try simp only [List.map_toArray, List.map_cons, List.map_nil]); first | done | (rw [show t280.length = t254.length from (Kd.R_reads' HO256.out).1.symm] <;> rfl) | rfl | (simp only [List.length_drop, List.length_take]; rfl)) ?_; (with_reducible refine (laws_heldPairS.calls _ _ t280 t302 t303 _ ?side1 ?side2 A60.out).mono ?_); (case side1 => exact pC ((Kd.R_reads' HO256.out).2.2)); (case side2 => rw [show t280.length = t254.length from (Kd.R_reads' HO256.out).1.symm]; exact (Kd.R_reads' HO256.out).2.1); rintro e w161 ⟨rfl, hb⟩; refine ⟨_, rfl, ?_⟩; replace HO234 := sR HO234 hb; replace HO243 := sR HO243 hb; replace HO248 := sR HO248 hb; replace HO253 := sR HO253 hb; replace HO256 := sR HO256 hb; replace HO294 := sR HO294 hb; replace BK219 := sB BK219 hb; replace BK220 := sB BK220 hb; replace BK239 := sB BK239 hb; replace BK244 := sB BK244 hb; replace BK249 := sB BK249 hb; replace BK258 := sB BK258 hb; replace BK299 := sB BK299 hb; replace HB := sH HB hb; (try clear hb); (try clear hi); clear HO256))
                    go_ret
                    exact ⟨by first | rfl | (simp [errW_none, errW_some] <;> rfl) | (simp [*, errW_none, errW_some] <;> rfl), pH HB⟩
                   ·rw [if_neg c62] at H
                    exact absurd H (by simp)
                ·rw [if_neg c57] at H
                 exact absurd H (by simp)
               ·replace c56 := Bool.eq_false_iff.mpr c56
                subst c56
                have H1 : (none) = some r := by rw [if_neg (show ¬ (false = true) by decide)] at H; exact H
                clear H
                have H := H1
                clear H1
                exact absurd H (by simp)
              ·replace c54 := Bool.eq_false_iff.mpr c54
               subst c54
               have H1 : (none) = some r := by rw [if_neg (show ¬ (false = true) by decide)] at H; exact H
               clear H
               have H := H1
               clear H1
               exact absurd H (by simp)
             ·rw [if_neg c49] at H
              exact absurd H (by simp)
          ·replace c42 := Bool.eq_false_iff.mpr c42
           subst c42
           have H1 : (none) = some r := by rw [if_neg (show ¬ (false = true) by decide)] at H; exact H
           clear H
           have H := H1
           clear H1
           exact absurd H (by simp)
         ·replace c40 := Bool.eq_false_iff.mpr c40
          subst c40
          have H1 : (none) = some r := by rw [if_neg (show ¬ (false = true) by decide)] at H; exact H
          clear H
          have H := H1
          clear H1
          exact absurd H (by simp)
       ·replace c35 := Bool.eq_false_iff.mpr c35
        subst c35
        have H1 : (none) = some r := by rw [if_neg (show ¬ (false = true) by decide)] at H; exact H
        clear H
        have H := H1
        clear H1
        exact absurd H (by simp)
      ·replace c32 := Bool.eq_false_iff.mpr c32
       subst c32
       have H1 : (none) = some r := by rw [if_neg (show ¬ (false = true) by decide)] at H; exact H
       clear H
       have H := H1
       clear H1
       exact absurd H (by simp)
     ·rw [if_neg c29] at H
      exact absurd H (by simp)
    ·replace c28 := Bool.eq_false_iff.mpr c28
     subst c28
     have H1 : (none) = some r := by rw [if_neg (show ¬ (false = true) by decide)] at H; exact H
     clear H
     have H := H1
     clear H1
     exact absurd H (by simp)
   ·replace c26 := Bool.eq_false_iff.mpr c26
    subst c26
    have H1 : (none) = some r := by rw [if_neg (show ¬ (false = true) by decide)] at H; exact H
    clear H
    have H := H1
    clear H1
    exact absurd H (by simp)
end Go.Proofs.Ytnmhnkpijjmhjaa.QFnExactCollapseKeeping
