/- Words and lemmas for FnExactIsPerfect, part 6: what the row's text comes to. -/
import Derived.Laws.CopyOwn
import Derived.Lib.AppendZerosOnto
import Derived.Lib.Overlaps
import Derived.Test.YtomdfjohnmikdaaZFnExactIsPerfecte
namespace Go.Proofs.Ytomdfjohnmikdaa.QIsPerfect
open Go.Proofs.Ytomdfjohnmikdaa.Cw Go.Proofs.Ytomdfjohnmikdaa.Kp Go.Proofs.Ytomdfjohnmikdaa.Ext Go.Proofs.Ytomdfjohnmikdaa.QS Go.RowKit Go.Proofs.YtomdfjohnmikdaaW.PrintWords Go.Proofs.YtomdfjohnmikdaaW.PrintLast Go.Proofs.YtomdfjohnmikdaaW.PrintMore
attribute [local go_sem] max2_int min2_int max_two min_two max_three min_three max_four min_four   -- for this text's walks alone
set_option linter.unusedVariables false
set_option linter.unusedSimpArgs false
theorem info2 : (Try.prog.info? 2).map (fun i => (i.zero, i.size, i.bytes)) = some (some (.int .i64 0), 1, 8) := by kernel_rfl
theorem info4 : (Try.prog.info? 4).map (fun i => (i.zero, i.size, i.bytes)) = some (some (.bool false), 1, 1) := by kernel_rfl
end Go.Proofs.Ytomdfjohnmikdaa.QIsPerfect
namespace Go.Proofs.Ytomdfjohnmikdaa.QIsPerfect
open Go.Proofs.Ytomdfjohnmikdaa.Cw Go.Proofs.Ytomdfjohnmikdaa.Kp Go.Proofs.Ytomdfjohnmikdaa.Ext Go.Proofs.Ytomdfjohnmikdaa.QS Go.RowKit Go.Proofs.YtomdfjohnmikdaaW.PrintWords Go.Proofs.YtomdfjohnmikdaaW.PrintLast Go.Proofs.YtomdfjohnmikdaaW.PrintMore
attribute [local go_sem] max2_int min2_int max_two min_two max_three min_three max_four min_four   -- for this text's walks alone
set_option linter.unusedVariables false
set_option linter.unusedSimpArgs false
noncomputable def spec_IsPerfect.f (k : Nat) (a0_0 : Int) (l0_1 : List Int) (l1 : List (S73)) : Option (Bool × Int) := (spec_l08Code.f k a0_0 l0_1 l1).bind fun t219 => (if t219 = 0 then ((spec_l02Numbers.f k a0_0 l0_1 l1).bind fun t220 => ((spec_l03Betti.f a0_0 l0_1 2).bind fun t223 => ((spec_l06Same.f k t220 t223).bind fun t226 => (some (t226, 0))))) else (some (false, t219)))
theorem spec_IsPerfect.mono : ∀ a0 a1 a2 k, LeO (spec_IsPerfect.f k a0 a1 a2) (spec_IsPerfect.f (k + 1) a0 a1 a2) := by
 intro a0 a1 a2 k
 unfold spec_IsPerfect.f
 repeat' first
   | (with_reducible exact spec_l02Numbers.mono _ _ _ _)
   | (with_reducible exact spec_l06Same.mono _ _ _)
   | (with_reducible exact spec_l08Code.mono _ _ _ _)
   | (with_reducible exact LeO.refl _)
   | (with_reducible exact LeO.none _)
   | (with_reducible refine LeO.ite ?_ ?_)
   | (with_reducible refine LeO.bind ?_ (fun _ => ?_))
   | exact spec_l02Numbers.mono _ _ _ _
   | exact spec_l06Same.mono _ _ _
   | exact spec_l08Code.mono _ _ _ _
   | exact LeO.none _
   | refine LeO.ite ?_ ?_
   | refine LeO.bind ?_ (fun _ => ?_)
def spec_IsPerfect.T4 : Bool × List (List Nat × List Nat) := (true, [([], []), ([], []), ([0, 1], [0, 1]), ([], []), ([3, 2], [3]), ([2, 4, 4], [2, 4]), ([5, 5, 0, 1, 2, 3, 4, 5], [5]), ([6, 0, 1, 2, 3, 4, 5, 6], [])])
def spec_IsPerfect.B4 : List Nat := [0, 0, 3, 0, 15, 31, 63, 127]
theorem spec_IsPerfect.tab4 : rtab .any (opsOf Try.f30 4) = spec_IsPerfect.T4 := by kernel_rfl
theorem spec_IsPerfect.bits4 : waitsOk spec_IsPerfect.T4.2 spec_IsPerfect.B4 = true := by kernel_rfl
set_option maxHeartbeats 8000000 in
set_option maxRecDepth 100000 in
theorem spec_IsPerfect.calls (k : Nat) (a0_0 : Int) (A0_1 : Option Addr) (c0_1 : Nat) (l0_1 : List Int) (A1 : Option Addr) (c1 : Nat) (l1 : List (S73)) (r1 : Bool) (r2 : Int) (w : World) (hr0_1 : Kd.C (Kd.int .i64) w A0_1 l0_1.length l0_1) (hc0_1 : l0_1.length ≤ c0_1) (hr1 : Kd.C k73 w A1 l1.length l1) (hc1 : l1.length ≤ c1) (h : spec_IsPerfect.f k a0_0 l0_1 l1 = some (r1, r2)) :
  Calls Try.prog 30 #[.agg #[.int .i64 a0_0, .slice A0_1 l0_1.length c0_1], .slice A1 l1.length c1] w fun e w' => e = .returned (.tuple #[.bool r1, .int .i64 r2]) ∧ Below w.heap.size w w' := by
 have hu28 := Try.underlying28
 have HR0_1 := Aside0.mk hr0_1
 have HC0_1 := Aside0.mk hc0_1
 clear hr0_1 hc0_1
 have HR1 := Aside0.mk hr1
 have HC1 := Aside0.mk hc1
 clear hr1 hc1
 have HB := Aside0.mk (Below.refl w.heap.size w)
 have H : ((spec_l08Code.f k a0_0 l0_1 l1).bind fun t219 => (if t219 = 0 then ((spec_l02Numbers.f k a0_0 l0_1 l1).bind fun t220 => ((spec_l03Betti.f a0_0 l0_1 2).bind fun t223 => ((spec_l06Same.f k t220 t223).bind fun t226 => (some (t226, 0))))) else (some (false, t219)))) = some (r1, r2) := h
 clear h
 replace H := Option.bind_eq_some_iff.mp H
 obtain ⟨t219, A30, H⟩ := H
 try dsimp only at H
 have A3 := Aside0.mk A30
 clear A30
 by_cases c4 : t219 = 0
 ·rw [if_pos c4] at H
  have c4b0 : (t219 == 0) = true := beq_iff_eq.mpr c4
  have c4b1 : (t219 != 0) = false := bne_eq_false_iff_eq.mpr c4
  clear c4
  replace H := Option.bind_eq_some_iff.mp H
  obtain ⟨t220, A50, H⟩ := H
  try dsimp only at H
  have A5 := Aside0.mk A50
  clear A50
  replace H := Option.bind_eq_some_iff.mp H
  obtain ⟨t223, A60, H⟩ := H
  try dsimp only at H
  have A6 := Aside0.mk A60
  clear A60
  replace H := Option.bind_eq_some_iff.mp H
  obtain ⟨t226, A70, H⟩ := H
  try dsimp only at H
  have A7 := Aside0.mk A70
  clear A70
  simp only [Option.some.injEq, Prod.mk.injEq] at H
  obtain ⟨rfl, rfl⟩ := H
  go_enter Try.func30, Try.ntmps30
  try go_wp2_with (first | ((with_reducible refine gate_dst (N := 2) rfl ?_); refine box_event ?hg (N := 2) ?hd (cs := #[.int .i64 a0_0, .slice A0_1 l0_1.length c0_1]) (t := 28) ?hr ?_; (case hd => rfl); (case hg => rfl); (case hr => first | (go_simp; done) | (go_simp; rfl)); intro gb218 hg w8 hbox hb; have BK218 := Aside0.mk (hbox); have GW218 := gH HB hg; have GE218 := gH HB hg; replace HB := sH HB hb; clear hb hbox hg; have hcz9_0 : w8.cell? ⟨gb218, 0, none⟩ = some (.int .i64 a0_0) := cB BK218 0; have hcz9_1 : w8.cell? ⟨gb218, 1, none⟩ = some (.slice A0_1 l0_1.length c0_1) := cB BK218 1; have hfz9_0 := zB BK218 0; have hfz9_1 := zB BK218 1) | ((with_reducible refine gate_callee (f := 62) rfl ?_); refine cl_ (some 9) Try.func62 #[.agg #[.int .i64 a0_0, .slice A0_1 l0_1.length c0_1], .slice A1 l1.length c1] ?_; (with_reducible refine (spec_l08Code.calls k a0_0 _ _ l0_1 _ _ l1 t219 _ ?side1 ?side2 ?side3 ?side4 A3.out).mono ?_); (case side1 => exact pC ((Kd.C_below HR0_1.out HB.out))); (case side2 => exact HC0_1.out); (case side3 => exact pC ((Kd.C_below HR1.out HB.out))); (case side4 => exact HC1.out); rintro e w10 ⟨rfl, hb⟩; refine ⟨_, rfl, ?_⟩; replace BK218 := sB BK218 hb; replace HB := sH HB hb; (try clear hb); (try clear hi)))
  replace BK218 := dB BK218
  replace HB := dH HB
  refine st_ 8 (S := fun w' => w'.cell? ⟨gb218, 0, none⟩ = some (.int .i64 a0_0) ∧ w'.cell? ⟨gb218, 1, none⟩ = some (.slice A0_1 l0_1.length c0_1)) (ds := []) ⟨cB BK218 0, cB BK218 1⟩ (fun hHeld => ?_); refine with_tabW spec_IsPerfect.tab4 spec_IsPerfect.bits4 (fun HT_ HW_ => ?_)
  generalize w10.drew = w11 at BK218 HB hHeld ⊢
  refine pu_ 1 14 2 HT_ ?_
  refine tk_ 0 13 3 HT_ HW_ hHeld ?_
  refine tk_ 3 16 11 HT_ HW_ hHeld ?_
  refine on_ 2 (some 15) 15 HT_ (fun K hK => ?_)
  refine ca_ Try.func71 #[.agg #[.int .i64 a0_0, .slice A0_1 l0_1.length c0_1], .slice A1 l1.length c1] ?_
  with_reducible refine (spec_l02Numbers.calls k a0_0 _ _ l0_1 _ _ l1 t220 _ ?side1 ?side2 ?side3 ?side4 A5.out).mono ?_
  (case side1 => exact pC ((Kd.C_below HR0_1.out HB.out)))
  (case side2 => exact HC0_1.out)
  (case side3 => exact pC ((Kd.C_below HR1.out HB.out)))
  (case side4 => exact HC1.out)
  rintro e w12 ⟨v221, rfl, ho0, hb⟩
  refine ⟨_, rfl, ?_⟩
  have HO222 := Aside0.mk (Kd.R_lower ho0 (below_size (pH HB)))
  replace BK218 := sB BK218 hb
  replace HB := sH HB hb
  (try clear hb)
  (try clear hb2)
  (try clear hk)
  (try clear hi)
  (try clear ho0)
  refine hK.out _ _ ⟨cB BK218 0, cB BK218 1⟩ (fun hHeld => ?_)
  clear hK K
  refine nm_ ?_
  refine on_ 4 (some 17) 31 HT_ (fun K hK => ?_)
  refine ca_ Try.func51 #[.agg #[.int .i64 a0_0, .slice A0_1 l0_1.length c0_1], .int .i64 2] ?_
  with_reducible refine (spec_l03Betti.calls a0_0 _ _ l0_1 2 t223 _ ?side1 ?side2 A6.out).mono ?_
  (case side1 => exact pC ((Kd.C_below HR0_1.out HB.out)))
  (case side2 => exact HC0_1.out)
  rintro e w13 ⟨v224, rfl, ho0, hb⟩
  refine ⟨_, rfl, ?_⟩
  have HO225 := Aside0.mk (Kd.R_lower (Kd.R_new' ho0 (Kd.R_lt (pR HO222))) (below_size (pH HB)))
  replace HO222 := Aside0.mk (Kd.R_elder' (pR HO222) (Kd.R_base ho0) hb)
  replace BK218 := sB BK218 hb
  replace HB := sH HB hb
  (try clear hb)
  (try clear hb2)
  (try clear hk)
  (try clear hi)
  (try clear ho0)
  obtain ⟨Ao14, co14, eo14⟩ := Kd.R_slice HO222.out
  (first | subst eo14 | (injection eo14 with f1_ f2_ f3_; have f4_ := f1_.symm; have f5_ := f3_.symm; clear f1_ f2_ f3_; subst f4_; subst f5_))
  obtain ⟨Ao15, co15, eo15⟩ := Kd.R_slice HO225.out
  (first | subst eo15 | (injection eo15 with f1_ f2_ f3_; have f4_ := f1_.symm; have f5_ := f3_.symm; clear f1_ f2_ f3_; subst f4_; subst f5_))
  refine hK.out _ _ ⟨cB BK218 0, cB BK218 1⟩ (fun hHeld => ?_)
  clear hK K
  refine nm_ ?_
  refine on_ 5 (some 18) 63 HT_ (fun K hK => ?_)
  refine ca_ Try.func70 #[.slice Ao14 t220.length co14, .slice Ao15 t223.length co15] ?_
  with_reducible refine (spec_l06Same.calls k _ _ t220 _ _ t223 t226 _ ?side1 ?side2 ?side3 ?side4 A7.out).mono ?_
  (case side1 => exact pC ((Kd.R_reads' HO222.out).2.2))
  (case side2 => exact (Kd.R_reads' HO222.out).2.1)
  (case side3 => exact pC ((Kd.R_reads' HO225.out).2.2))
  (case side4 => exact (Kd.R_reads' HO225.out).2.1)
  rintro e w' ⟨rfl, ⟨nd, rfl⟩⟩
  refine ⟨_, rfl, ?_⟩
  refine hK.out _ _ ⟨cB BK218 0, cB BK218 1⟩ (fun hHeld => ?_)
  clear hK K
  refine nm_ ?_
  refine pu_ 6 4 127 HT_ ?_
  refine pu_ 7 5 255 HT_ ?_
  refine dn_ HT_ ?_
  try go_wp2
  go_ret2
  exact ⟨by first | rfl | (simp [errW_none, errW_some] <;> rfl) | (simp [*, errW_none, errW_some] <;> rfl) | (exfalso; simp_all), pH HB⟩
 ·rw [if_neg c4] at H
  have c4b0 : (t219 == 0) = false := beq_eq_false_iff_ne.mpr c4
  have c4b1 : (t219 != 0) = true := bne_iff_ne.mpr c4
  simp only [Option.some.injEq, Prod.mk.injEq] at H
  obtain ⟨rfl, rfl⟩ := H
  go_enter Try.func30, Try.ntmps30
  go_wp2_with (first | ((with_reducible refine gate_dst (N := 2) rfl ?_); refine box_event ?hg (N := 2) ?hd (cs := #[.int .i64 a0_0, .slice A0_1 l0_1.length c0_1]) (t := 28) ?hr ?_; (case hd => rfl); (case hg => rfl); (case hr => first | (go_simp; done) | (go_simp; rfl)); intro gb218 hg w16 hbox hb; have BK218 := Aside0.mk (hbox); have GW218 := gH HB hg; have GE218 := gH HB hg; replace HB := sH HB hb; clear hb hbox hg; have hcz17_0 : w16.cell? ⟨gb218, 0, none⟩ = some (.int .i64 a0_0) := cB BK218 0; have hcz17_1 : w16.cell? ⟨gb218, 1, none⟩ = some (.slice A0_1 l0_1.length c0_1) := cB BK218 1; have hfz17_0 := zB BK218 0; have hfz17_1 := zB BK218 1) | ((with_reducible refine gate_callee (f := 62) rfl ?_); refine cl_ (some 9) Try.func62 #[.agg #[.int .i64 a0_0, .slice A0_1 l0_1.length c0_1], .slice A1 l1.length c1] ?_; (with_reducible refine (spec_l08Code.calls k a0_0 _ _ l0_1 _ _ l1 t219 _ ?side1 ?side2 ?side3 ?side4 A3.out).mono ?_); (case side1 => exact pC ((Kd.C_below HR0_1.out HB.out))); (case side2 => exact HC0_1.out); (case side3 => exact pC ((Kd.C_below HR1.out HB.out))); (case side4 => exact HC1.out); rintro e w18 ⟨rfl, hb⟩; refine ⟨_, rfl, ?_⟩; replace BK218 := sB BK218 hb; replace HB := sH HB hb; (try clear hb); (try clear hi)))
  go_ret2
  exact ⟨by first | rfl | (simp [errW_none, errW_some] <;> rfl) | (simp [*, errW_none, errW_some] <;> rfl) | (exfalso; simp_all), pH HB⟩
end Go.Proofs.Ytomdfjohnmikdaa.QIsPerfect
namespace Go.Proofs.Ytomdfjohnmikdaa.Ext
set_option linter.unusedVariables false
open Go.RowKit Go.Proofs.Ytomdfjohnmikdaa.Im Go.Proofs.Ytomdfjohnmikdaa.Kp Go.Proofs.YtomdfjohnmikdaaW.PrintWords Go.Proofs.YtomdfjohnmikdaaW.PrintLast Go.Proofs.YtomdfjohnmikdaaW.PrintMore
noncomputable def spec_IsPerfect.f (a0_0 : Int) (l0_1 : List Int) (l1 : List (S73)) : Option (Bool × Int) := limO fun k => QIsPerfect.spec_IsPerfect.f k a0_0 l0_1 l1
theorem spec_IsPerfect.calls (a0_0 : Int) (A0_1 : Option Addr) (c0_1 : Nat) (l0_1 : List Int) (A1 : Option Addr) (c1 : Nat) (l1 : List (S73)) (r1 : Bool) (r2 : Int) (w : World) (hr0_1 : Kd.C (Kd.int .i64) w A0_1 l0_1.length l0_1) (hc0_1 : l0_1.length ≤ c0_1) (hr1 : Kd.C k73 w A1 l1.length l1) (hc1 : l1.length ≤ c1) (h : spec_IsPerfect.f a0_0 l0_1 l1 = some (r1, r2)) :
    Calls Try.prog 30 #[.agg #[.int .i64 a0_0, .slice A0_1 l0_1.length c0_1], .slice A1 l1.length c1] w fun e w' => e = .returned (.tuple #[.bool r1, .int .i64 r2]) ∧ Below w.heap.size w w' := by
  obtain ⟨k, hk⟩ := limO_get h
  exact QIsPerfect.spec_IsPerfect.calls k a0_0 A0_1 c0_1 l0_1 A1 c1 l1 r1 r2 w hr0_1 hc0_1 hr1 hc1 hk
theorem spec_IsPerfect.come (a0_0 : Int) (l0_1 : List Int) (l1 : List (S73)) {r : (Bool × Int)} (h : Ev (fun k => QIsPerfect.spec_IsPerfect.f k a0_0 l0_1 l1) r) : spec_IsPerfect.f a0_0 l0_1 l1 = some r := limO_of (fun k => QIsPerfect.spec_IsPerfect.mono _ _ _ k) h
end Go.Proofs.Ytomdfjohnmikdaa.Ext
namespace Go.Proofs.Ytomdfjohnmikdaa.QS
open Go.Proofs.Ytomdfjohnmikdaa.Cw Go.Proofs.Ytomdfjohnmikdaa.Kp Go.Proofs.Ytomdfjohnmikdaa.Ext Go.RowKit Go.Proofs.YtomdfjohnmikdaaW.PrintWords Go.Proofs.YtomdfjohnmikdaaW.PrintLast Go.Proofs.YtomdfjohnmikdaaW.PrintMore
attribute [local go_sem] max2_int min2_int max_two min_two max_three min_three max_four min_four   -- for this text's walks alone
set_option linter.unusedVariables false
set_option linter.unusedSimpArgs false
def laws_eqPairS.l0 : Nat → List (S73) → List (S73) → Int → Option (Bool)
 | 0, _, _, _ => none
 | k + 1, x0, x1, x5 => if x5 < (x0.length : Int) then (if 0 ≤ x5 then (if x5 < (x1.length : Int) then ((laws_eqPair.f ((rd_T73 x0 x5).f0) ((rd_T73 x0 x5).f1) ((rd_T73 x1 x5).f0) ((rd_T73 x1 x5).f1)).bind fun t133 => (if t133 = true then (laws_eqPairS.l0 k x0 x1 (wrap64 (x5 + 1))) else (some false))) else (none)) else (none)) else (some true)
def laws_eqPairS.f (k : Nat) (l0 : List (S73)) (l1 : List (S73)) : Option (Bool) := if (l0.length : Int) = (l1.length : Int) then (laws_eqPairS.l0 k l0 l1 0) else (some false)
def laws_eqPairS.T6 : Bool × List (List Nat × List Nat) := (true, [([], []), ([], []), ([0, 1], [0, 1]), ([2], [2]), ([], []), ([], []), ([4, 5], [4, 5]), ([6], [6]), ([3, 7], [3, 7]), ([8], [8])])
def laws_eqPairS.B6 : List Nat := [0, 0, 3, 7, 0, 0, 48, 112, 255, 511]
theorem laws_eqPairS.tab6 : rtab .any (opsOf Try.f27 6) = laws_eqPairS.T6 := by kernel_rfl
theorem laws_eqPairS.bits6 : waitsOk laws_eqPairS.T6.2 laws_eqPairS.B6 = true := by kernel_rfl
set_option maxHeartbeats 8000000 in
set_option maxRecDepth 100000 in
theorem laws_eqPairS.calls (k : Nat) (A0 : Option Addr) (c0 : Nat) (l0 : List (S73)) (A1 : Option Addr) (c1 : Nat) (l1 : List (S73)) (r : Bool) (w : World) (hr0 : Kd.C k73 w A0 l0.length l0) (hc0 : l0.length ≤ c0) (hr1 : Kd.C k73 w A1 l1.length l1) (hc1 : l1.length ≤ c1) (h : laws_eqPairS.f k l0 l1 = some r) :
  Calls Try.prog 27 #[.slice A0 l0.length c0, .slice A1 l1.length c1] w fun e w' => e = .returned (.bool r) ∧ Below w.heap.size w w' := by
 have hu73 := Try.underlying73
 have HR0 := Aside0.mk hr0
 have HC0 := Aside0.mk hc0
 clear hr0 hc0
 have HR1 := Aside0.mk hr1
 have HC1 := Aside0.mk hc1
 clear hr1 hc1
 have HB := Aside0.mk (Below.refl w.heap.size w)
 have H : (if (l0.length : Int) = (l1.length : Int) then (laws_eqPairS.l0 k l0 l1 0) else (some false)) = some r := h
 clear h
 by_cases c3 : (l0.length : Int) = (l1.length : Int)
 ·rw [if_pos c3] at H
  have c3b0 : ((l0.length : Int) == (l1.length : Int)) = true := beq_iff_eq.mpr c3
  have c3b1 : ((l0.length : Int) != (l1.length : Int)) = false := bne_eq_false_iff_eq.mpr c3
  have c3b2 : (l0.length == l1.length) = true := by first | simpa using c3 | (simp at c3 ⊢; omega)
  clear c3
  have H' := Aside0.mk H
  clear H
  go_enter Try.func27, Try.ntmps27
  go_wp2
  go_loopg [5] k (fun kq v5 w' => ∃ (x5_1 : Int), v5 = .int .i64 x5_1 ∧ Aside0 (laws_eqPairS.l0 kq l0 l1 x5_1 = some r) ∧ Aside0 (kq ≤ k) ∧ Aside0 (Below w.heap.size w w'))
  case atStart => exact ⟨(0), (by first | rfl | (simp; done) | (simp [*]; done)), H', ⟨Nat.le_refl _⟩, ⟨pH HB⟩⟩
  case round =>
   clear H'
   try clear c1
   try clear c2
   try clear p2
   try clear c3
   try clear c3b0
   try clear c3b1
   try clear c3b2
   obtain ⟨x5_1, rfl, HA, HK1, HB⟩ := hrel
   cases gk with
   | zero => exact absurd HA.out (by simp [laws_eqPairS.l0])
   | succ k1 =>
    have H := HA.out
    clear HA
    simp only [laws_eqPairS.l0] at H
    by_cases c4 : x5_1 < (l0.length : Int)
    ·rw [if_pos c4] at H
     have c4b0 : decide (x5_1 < (l0.length : Int)) = true := decide_eq_true c4
     clear c4
     by_cases c5 : 0 ≤ x5_1
     ·rw [if_pos c5] at H
      have c5b0 : decide (0 ≤ x5_1) = true := decide_eq_true c5
      clear c5
      by_cases c6 : x5_1 < (l1.length : Int)
      ·rw [if_pos c6] at H
       have c6b0 : decide (x5_1 < (l1.length : Int)) = true := decide_eq_true c6
       clear c6
       replace H := Option.bind_eq_some_iff.mp H
       obtain ⟨t133, A70, H⟩ := H
       try dsimp only at H
       have A7 := Aside0.mk A70
       clear A70
       by_cases c8 : t133 = true
       ·subst c8
        have H1 : (laws_eqPairS.l0 k1 l0 l1 (wrap64 (x5_1 + 1))) = some r := by rw [if_pos rfl] at H; exact H
        clear H
        have H := H1
        clear H1
        have H' := Aside0.mk H
        clear H
        try go_wp2
        replace HB := dH HB
        have p131 : 0 ≤ (x5_1 : Int) := of_decide_eq_true (by first | (with_reducible assumption) | assumption)
        have q131 : x5_1 < (l0.length : Int) := of_decide_eq_true (by first | (with_reducible assumption) | assumption)
        obtain ⟨ad131, e131, hx131_0, hx131_1⟩ := at_T73 HR0.out x5_1 p131 q131
        have hw131_1 := hx131_1
        have hw131_0 := hx131_0
        cases e131
        replace hx131_0 := cH HB hx131_0
        replace hx131_1 := cH HB hx131_1
        replace p131 := eq_true p131
        replace q131 := eq_true q131
        have p132 : 0 ≤ (x5_1 : Int) := of_decide_eq_true (by first | (with_reducible assumption) | assumption)
        have q132 : x5_1 < (l1.length : Int) := of_decide_eq_true (by first | (with_reducible assumption) | assumption)
        obtain ⟨ad132, e132, hx132_0, hx132_1⟩ := at_T73 HR1.out x5_1 p132 q132
        have hw132_1 := hx132_1
        have hw132_0 := hx132_0
        cases e132
        replace hx132_0 := cH HB hx132_0
        replace hx132_1 := cH HB hx132_1
        replace p132 := eq_true p132
        replace q132 := eq_true q132
        refine st_ 10 (S := fun w' => w'.cell? (ad131.add ((x5_1).toNat * 2)) = some (.int .i64 ((rd_T73 l0 x5_1).f0)) ∧ w'.cell? ⟨(ad131.add ((x5_1).toNat * 2)).block, (ad131.add ((x5_1).toNat * 2)).off + 1, none⟩ = some (.int .i64 ((rd_T73 l0 x5_1).f1)) ∧ w'.cell? (ad132.add ((x5_1).toNat * 2)) = some (.int .i64 ((rd_T73 l1 x5_1).f0)) ∧ w'.cell? ⟨(ad132.add ((x5_1).toNat * 2)).block, (ad132.add ((x5_1).toNat * 2)).off + 1, none⟩ = some (.int .i64 ((rd_T73 l1 x5_1).f1))) (ds := []) ⟨(cH HB hw131_0 :), (cH HB hw131_1 :), (cH HB hw132_0 :), (cH HB hw132_1 :)⟩ (fun hHeld => ?_); refine with_tabW laws_eqPairS.tab6 laws_eqPairS.bits6 (fun HT_ HW_ => ?_)
        generalize wr.drew = w9 at HB hx131_0 hx131_1 hx132_0 hx132_1 hHeld ⊢
        refine pu_ 0 17 1 HT_ ?_
        refine pu_ 1 18 3 HT_ ?_
        refine pu_ 2 19 7 HT_ ?_
        refine pu_ 4 21 23 HT_ ?_
        refine pu_ 5 22 55 HT_ ?_
        refine pu_ 6 23 119 HT_ ?_
        refine tk_ 3 20 127 HT_ HW_ hHeld ?_
        refine tk_ 7 24 255 HT_ HW_ hHeld ?_
        refine on_ 8 (some 25) 511 HT_ (fun K hK => ?_)
        refine ca_ Try.func69 #[.agg #[.int .i64 ((rd_T73 l0 x5_1).f0), .int .i64 ((rd_T73 l0 x5_1).f1)], .agg #[.int .i64 ((rd_T73 l1 x5_1).f0), .int .i64 ((rd_T73 l1 x5_1).f1)]] ?_
        with_reducible refine (laws_eqPair.calls ((rd_T73 l0 x5_1).f0) ((rd_T73 l0 x5_1).f1) ((rd_T73 l1 x5_1).f0) ((rd_T73 l1 x5_1).f1) true _ A7.out).mono ?_
        rintro e w10 ⟨rfl, hb⟩
        refine ⟨_, rfl, ?_⟩
        replace HB := sH HB hb
        (try clear hb)
        (try clear hb2)
        (try clear hk)
        (try clear hi)
        refine hK.out _ _ ⟨(cH HB hw131_0 :), (cH HB hw131_1 :), (cH HB hw132_0 :), (cH HB hw132_1 :)⟩ (fun hHeld => ?_)
        clear hK K
        refine nm_ ?_
        refine pu_ 9 26 1023 HT_ ?_
        refine dn_ HT_ ?_
        try go_wp2
        go_roundg k1
        case measure => have := HK1.out; omega
        case rel => exact ⟨(wrap64 (x5_1 + 1)), (by first | rfl | (simp; done) | (simp [*]; done)), H', ⟨by have := HK1.out; omega⟩, ⟨pH HB⟩⟩
       ·replace c8 := Bool.eq_false_iff.mpr c8
        subst c8
        have H1 : (some false) = some r := by rw [if_neg (show ¬ (false = true) by decide)] at H; exact H
        clear H
        have H := H1
        clear H1
        obtain rfl := Option.some.inj H
        try go_wp2
        replace HB := dH HB
        have p131 : 0 ≤ (x5_1 : Int) := of_decide_eq_true (by first | (with_reducible assumption) | assumption)
        have q131 : x5_1 < (l0.length : Int) := of_decide_eq_true (by first | (with_reducible assumption) | assumption)
        obtain ⟨ad131, e131, hx131_0, hx131_1⟩ := at_T73 HR0.out x5_1 p131 q131
        have hw131_1 := hx131_1
        have hw131_0 := hx131_0
        cases e131
        replace hx131_0 := cH HB hx131_0
        replace hx131_1 := cH HB hx131_1
        replace p131 := eq_true p131
        replace q131 := eq_true q131
        have p132 : 0 ≤ (x5_1 : Int) := of_decide_eq_true (by first | (with_reducible assumption) | assumption)
        have q132 : x5_1 < (l1.length : Int) := of_decide_eq_true (by first | (with_reducible assumption) | assumption)
        obtain ⟨ad132, e132, hx132_0, hx132_1⟩ := at_T73 HR1.out x5_1 p132 q132
        have hw132_1 := hx132_1
        have hw132_0 := hx132_0
        cases e132
        replace hx132_0 := cH HB hx132_0
        replace hx132_1 := cH HB hx132_1
        replace p132 := eq_true p132
        replace q132 := eq_true q132
        refine st_ 10 (S := fun w' => w'.cell? (ad131.add ((x5_1).toNat * 2)) = some (.int .i64 ((rd_T73 l0 x5_1).f0)) ∧ w'.cell? ⟨(ad131.add ((x5_1).toNat * 2)).block, (ad131.add ((x5_1).toNat * 2)).off + 1, none⟩ = some (.int .i64 ((rd_T73 l0 x5_1).f1)) ∧ w'.cell? (ad132.add ((x5_1).toNat * 2)) = some (.int .i64 ((rd_T73 l1 x5_1).f0)) ∧ w'.cell? ⟨(ad132.add ((x5_1).toNat * 2)).block, (ad132.add ((x5_1).toNat * 2)).off + 1, none⟩ = some (.int .i64 ((rd_T73 l1 x5_1).f1))) (ds := []) ⟨(cH HB hw131_0 :), (cH HB hw131_1 :), (cH HB hw132_0 :), (cH HB hw132_1 :)⟩ (fun hHeld => ?_); refine with_tabW laws_eqPairS.tab6 laws_eqPairS.bits6 (fun HT_ HW_ => ?_)
        generalize wr.drew = w11 at HB hx131_0 hx131_1 hx132_0 hx132_1 hHeld ⊢
        refine pu_ 0 17 1 HT_ ?_
        refine pu_ 1 18 3 HT_ ?_
        refine pu_ 2 19 7 HT_ ?_
        refine pu_ 4 21 23 HT_ ?_
        refine pu_ 5 22 55 HT_ ?_
        refine pu_ 6 23 119 HT_ ?_
        refine tk_ 3 20 127 HT_ HW_ hHeld ?_
        refine tk_ 7 24 255 HT_ HW_ hHeld ?_
        refine on_ 8 (some 25) 511 HT_ (fun K hK => ?_)
        refine ca_ Try.func69 #[.agg #[.int .i64 ((rd_T73 l0 x5_1).f0), .int .i64 ((rd_T73 l0 x5_1).f1)], .agg #[.int .i64 ((rd_T73 l1 x5_1).f0), .int .i64 ((rd_T73 l1 x5_1).f1)]] ?_
        with_reducible refine (laws_eqPair.calls ((rd_T73 l0 x5_1).f0) ((rd_T73 l0 x5_1).f1) ((rd_T73 l1 x5_1).f0) ((rd_T73 l1 x5_1).f1) false _ A7.out).mono ?_
        rintro e w12 ⟨rfl, hb⟩
        refine ⟨_, rfl, ?_⟩
        replace HB := sH HB hb
        (try clear hb)
        (try clear hb2)
        (try clear hk)
        (try clear hi)
        refine hK.out _ _ ⟨(cH HB hw131_0 :), (cH HB hw131_1 :), (cH HB hw132_0 :), (cH HB hw132_1 :)⟩ (fun hHeld => ?_)
        clear hK K
        refine nm_ ?_
        refine pu_ 9 26 1023 HT_ ?_
        refine dn_ HT_ ?_
        try go_wp2
        go_ret
        exact ⟨by first | rfl | (simp [errW_none, errW_some] <;> rfl) | (simp [*, errW_none, errW_some] <;> rfl) | (exfalso; simp_all), pH HB⟩
      ·rw [if_neg c6] at H
       exact absurd H (by simp)
     ·rw [if_neg c5] at H
      exact absurd H (by simp)
    ·rw [if_neg c4] at H
     have c4b0 : decide (x5_1 < (l0.length : Int)) = false := decide_eq_false c4
     clear c4
     obtain rfl := Option.some.inj H
     go_wp2
     go_ret
     exact ⟨by first | rfl | (simp [errW_none, errW_some] <;> rfl) | (simp [*, errW_none, errW_some] <;> rfl) | (exfalso; simp_all), pH HB⟩
 ·rw [if_neg c3] at H
  have c3b0 : ((l0.length : Int) == (l1.length : Int)) = false := beq_eq_false_iff_ne.mpr c3
  have c3b1 : ((l0.length : Int) != (l1.length : Int)) = true := bne_iff_ne.mpr c3
  have c3b2 : (l0.length == l1.length) = false := by first | simpa using c3 | (simp at c3 ⊢; omega)
  obtain rfl := Option.some.inj H
  go_enter Try.func27, Try.ntmps27
  go_wp2
  go_ret
  exact ⟨by first | rfl | (simp [errW_none, errW_some] <;> rfl) | (simp [*, errW_none, errW_some] <;> rfl) | (exfalso; simp_all), pH HB⟩
end Go.Proofs.Ytomdfjohnmikdaa.QS
namespace Go.Proofs.Ytomdfjohnmikdaa.QS
open Go.Proofs.Ytomdfjohnmikdaa.Cw Go.Proofs.Ytomdfjohnmikdaa.Kp Go.Proofs.Ytomdfjohnmikdaa.Ext Go.RowKit Go.Proofs.YtomdfjohnmikdaaW.PrintWords Go.Proofs.YtomdfjohnmikdaaW.PrintLast Go.Proofs.YtomdfjohnmikdaaW.PrintMore
attribute [local go_sem] max2_int min2_int max_two min_two max_three min_three max_four min_four   -- for this text's walks alone
set_option linter.unusedVariables false
set_option linter.unusedSimpArgs false
def laws_szPairS.f (l0 : List (S72)) (a1 : Int) : Option (Int) := if (wrap64 (a1 - (l0.length : Int))) < 0 then (some (-1)) else (some (wrap64 (a1 - (l0.length : Int))))
set_option maxHeartbeats 8000000 in
set_option maxRecDepth 100000 in
theorem laws_szPairS.calls (A0 : Option Addr) (c0 : Nat) (l0 : List (S72)) (a1 : Int) (r : Int) (w : World) (hr0 : Kd.C k72 w A0 l0.length l0) (hc0 : l0.length ≤ c0) (h : laws_szPairS.f l0 a1 = some r) :
  Calls Try.prog 23 #[.slice A0 l0.length c0, .int .i64 a1] w fun e w' => e = .returned (.int .i64 r) ∧ Drawn0 w w' := by
 have HR0 := Aside0.mk hr0
 have HC0 := Aside0.mk hc0
 clear hr0 hc0
 have H : (if (wrap64 (a1 - (l0.length : Int))) < 0 then (some (-1)) else (some (wrap64 (a1 - (l0.length : Int))))) = some r := h
 clear h
 by_cases c3 : (wrap64 (a1 - (l0.length : Int))) < 0
 ·rw [if_pos c3] at H
  have c3b0 : decide ((wrap64 (a1 - (l0.length : Int))) < 0) = true := decide_eq_true c3
  clear c3
  obtain rfl := Option.some.inj H
  go_enter Try.func23, Try.ntmps23
  go_wp2
  go_ret
  exact ⟨by first | rfl | (simp; done) | (simp [*]; done), by repeat (first | exact Drawn0.refl _ | apply Drawn0.step)⟩
 ·rw [if_neg c3] at H
  have c3b0 : decide ((wrap64 (a1 - (l0.length : Int))) < 0) = false := decide_eq_false c3
  clear c3
  obtain rfl := Option.some.inj H
  go_enter Try.func23, Try.ntmps23
  go_wp2
  go_ret
  exact ⟨by first | rfl | (simp; done) | (simp [*]; done), by repeat (first | exact Drawn0.refl _ | apply Drawn0.step)⟩
end Go.Proofs.Ytomdfjohnmikdaa.QS
namespace Go.Proofs.Ytomdfjohnmikdaa.QS
open Go.Proofs.Ytomdfjohnmikdaa.Cw Go.Proofs.Ytomdfjohnmikdaa.Kp Go.Proofs.Ytomdfjohnmikdaa.Ext Go.RowKit Go.Proofs.YtomdfjohnmikdaaW.PrintWords Go.Proofs.YtomdfjohnmikdaaW.PrintLast Go.Proofs.YtomdfjohnmikdaaW.PrintMore
attribute [local go_sem] max2_int min2_int max_two min_two max_three min_three max_four min_four   -- for this text's walks alone
set_option linter.unusedVariables false
set_option linter.unusedSimpArgs false
def laws_toPairS.l0 : Nat → List (S72) → List (S73) → Int → Option ((List (S73)))
 | 0, _, _, _ => none
 | k + 1, x0, x3, x4 => if x4 < (x0.length : Int) then (if 0 ≤ x4 then ((laws_toPair.f ((rd_T72 x0 x4).f0) ((rd_T72 x0 x4).f1)).bind fun bt128 => (if x4 < (x3.length : Int) then (laws_toPairS.l0 k x0 (x3.set (x4 : Int).toNat (⟨bt128.1, bt128.2⟩ : S73)) (wrap64 (x4 + 1))) else (none))) else (none)) else (some x3)
def laws_toPairS.f (k : Nat) (l0 : List (S72)) : Option ((List (S73))) := if 0 ≤ (l0.length : Int) then (if ((l0.length : Int) : Int).toNat ≤ 17592186044416 then (laws_toPairS.l0 k l0 (List.replicate ((l0.length : Int) : Int).toNat z73) 0) else (none)) else (none)
set_option maxHeartbeats 8000000 in
set_option maxRecDepth 100000 in
theorem laws_toPairS.calls (k : Nat) (A0 : Option Addr) (c0 : Nat) (l0 : List (S72)) (r : List (S73)) (w : World) (hr0 : Kd.C k72 w A0 l0.length l0) (hc0 : l0.length ≤ c0) (h : laws_toPairS.f k l0 = some r) :
  Calls Try.prog 25 #[.slice A0 l0.length c0] w fun e w' => ∃ v0_ : Value, e = .returned (v0_) ∧ Kd.R k73 73 w' w.heap.size (fun _ => True) v0_ r ∧ Below w.heap.size w w' := by
 have hu72 := Try.underlying72
 have hu73 := Try.underlying73
 have HR0 := Aside0.mk hr0
 have HC0 := Aside0.mk hc0
 clear hr0 hc0
 have HB := Aside0.mk (Below.refl w.heap.size w)
 have H : (if 0 ≤ (l0.length : Int) then (if ((l0.length : Int) : Int).toNat ≤ 17592186044416 then (laws_toPairS.l0 k l0 (List.replicate ((l0.length : Int) : Int).toNat z73) 0) else (none)) else (none)) = some r := h
 clear h
 by_cases c2 : 0 ≤ (l0.length : Int)
 ·rw [if_pos c2] at H
  have c2b0 := eq_true c2
  have c2b1 : decide (0 ≤ (l0.length : Int)) = true := decide_eq_true c2
  clear c2
  by_cases c3 : ((l0.length : Int) : Int).toNat ≤ 17592186044416
  ·rw [if_pos c3] at H
   have c3b0 := eq_true c3
   have c3b1 : decide (((l0.length : Int) : Int).toNat ≤ 17592186044416) = true := decide_eq_true c3
   clear c3
   obtain ⟨y124, hy124⟩ : ∃ y_ : List (S73), y_ = (List.replicate ((l0.length : Int) : Int).toNat z73) := ⟨_, rfl⟩
   replace H : (laws_toPairS.l0 k l0 y124 0) = some r := by first | (rw [hy124]; with_reducible exact H) | (have H2_ := (Option.bind_some _ _).symm.trans H; rw [hy124]; with_reducible exact H2_) | (have H2_ := (Option.bind_some _ _).symm.trans H; with_reducible exact H2_) | with_reducible exact H | (rw [hy124]; exact H) | exact H
   have Ny124 := Aside0.mk hy124
   clear hy124
   have H' := Aside0.mk H
   clear H
   go_enter Try.func25, Try.ntmps25
   go_wp2_with (first | ((with_reducible refine gate_dst (N := 7) rfl ?_); refine Kd.R_make k73 _ 73 rfl (N := 7) rfl 38 _ _ rfl (l0.length : Int) rfl rfl Try.underlying38 (.agg #[(.int .i64 0), (.int .i64 0)]) 16 info73 rfl (by decide) (by omega) z73 (ok := fun _ => True) (okp := fun _ => True) (k73_mkM _ _ _ z73 ) (fun _ hk => hk) trivial (of_decide_eq_true (by first | (with_reducible assumption) | assumption)) (Nat.le_trans (Nat.mul_le_mul_right _ (of_decide_eq_true (by first | (with_reducible assumption) | assumption) : (l0.length : Int).toNat ≤ 17592186044416)) (by omega)) (Below.refl _ _) (Nat.le_refl _) ?_; intro v125 w4 ho5 hb hg_ hnew_; clear hg_ hnew_; (first | rw [← Ny124.out] at ho5 | (simp only [Int.reduceToNat] at ho5; rw [← Ny124.out] at ho5)); have HO126 := Aside0.mk (Kd.R_lower ho5 (below_size (pH HB))); replace HB := sH HB hb; clear hb ho5))
   go_loopg [4] k (fun kq v4 w' => ∃ (x3_1 : List (S73)) (x4_1 : Int), v4 = .int .i64 x4_1 ∧ Aside0 (laws_toPairS.l0 kq l0 x3_1 x4_1 = some r) ∧ Aside0 (kq ≤ k) ∧ Aside0 (Kd.R k73 73 w' w.heap.size (fun _ => True) v125 x3_1) ∧ Aside0 (Below w.heap.size w w'))
   case atStart => exact ⟨(y124), (0), (by first | rfl | (simp; done) | (simp [*]; done)), H', ⟨Nat.le_refl _⟩, ⟨by (with_reducible repeat (first | apply Kd.R_alloc | apply Kd.R_drewN | apply Kd.R_drew)); exact HO126.out⟩, ⟨pH HB⟩⟩
   case round =>
    clear H'
    try clear c2
    try clear c2b0
    try clear c2b1
    try clear p2
    try clear c3
    try clear c3b0
    try clear c3b1
    obtain ⟨x3_1, x4_1, rfl, HA, HK1, HO_3, HB⟩ := hrel
    cases gk with
    | zero => exact absurd HA.out (by simp [laws_toPairS.l0])
    | succ k1 =>
     have H := HA.out
     clear HA
     simp only [laws_toPairS.l0] at H
     by_cases c6 : x4_1 < (l0.length : Int)
     ·rw [if_pos c6] at H
      have c6b0 : decide (x4_1 < (l0.length : Int)) = true := decide_eq_true c6
      clear c6
      by_cases c7 : 0 ≤ x4_1
      ·rw [if_pos c7] at H
       have c7b0 : decide (0 ≤ x4_1) = true := decide_eq_true c7
       clear c7
       replace H := Option.bind_eq_some_iff.mp H
       obtain ⟨⟨t128, t129⟩, A80, H⟩ := H
       try dsimp only at H
       have A8 := Aside0.mk A80
       clear A80
       by_cases c9 : x4_1 < (x3_1.length : Int)
       ·rw [if_pos c9] at H
        have c9b0 : decide (x4_1 < (x3_1.length : Int)) = true := decide_eq_true c9
        clear c9
        obtain ⟨y130, hy130⟩ : ∃ y_ : List (S73), y_ = (x3_1.set (x4_1 : Int).toNat (⟨t128, t129⟩ : S73)) := ⟨_, rfl⟩
        replace H : (laws_toPairS.l0 k1 l0 y130 (wrap64 (x4_1 + 1))) = some r := by first | (rw [hy130]; with_reducible exact H) | (have H2_ := (Option.bind_some _ _).symm.trans H; rw [hy130]; with_reducible exact H2_) | (have H2_ := (Option.bind_some _ _).symm.trans H; with_reducible exact H2_) | with_reducible exact H | (rw [hy130]; exact H) | exact H
        have Ny130 := Aside0.mk hy130
        clear hy130
        have H' := Aside0.mk H
        clear H
        have p127 : 0 ≤ (x4_1 : Int) := of_decide_eq_true (by first | (with_reducible assumption) | assumption)
        have q127 : x4_1 < (l0.length : Int) := of_decide_eq_true (by first | (with_reducible assumption) | assumption)
        obtain ⟨ad127, e127, hx127_0, hx127_1⟩ := at_T72 HR0.out x4_1 p127 q127
        cases e127
        replace hx127_0 := cH HB hx127_0
        replace hx127_1 := cH HB hx127_1
        replace p127 := eq_true p127
        replace q127 := eq_true q127
        go_wp2_with (first | ((with_reducible refine gate_callee (f := 64) rfl ?_); refine cl_ (some 20) Try.func64 #[.agg #[.int .i64 ((rd_T72 l0 x4_1).f0), .int .i64 ((rd_T72 l0 x4_1).f1)]] ?_; (with_reducible refine (laws_toPair.calls ((rd_T72 l0 x4_1).f0) ((rd_T72 l0 x4_1).f1) t128 t129 _ A8.out).mono ?_); rintro e w11 ⟨rfl, hb⟩; refine ⟨_, rfl, ?_⟩; replace HO_3 := sR HO_3 hb; replace HB := sH HB hb; (try clear hb); (try clear hi); have p10 : 0 ≤ (x4_1 : Int) := of_decide_eq_true (by first | (with_reducible assumption) | assumption); have q10 : (x4_1 : Int) < ((x3_1.length : Int) : Int) := of_decide_eq_true (by first | (with_reducible assumption) | assumption); obtain ⟨go10, co10, eo10, gb10, gl10, cl10, HG10⟩ := Kd.R_form HO_3.out (by omega); (first | cases eo10 | (injection eo10 with ea_ en_ ec_; (first | subst ea_ | (injection ea_ with ea_; subst ea_)); subst ec_; clear en_)); have GB10 := Aside0.mk gb10; have GG10 := Aside0.mk HG10; clear gb10 gl10 HG10; obtain ⟨ce10, hcl10, hM10, hcc10, hfr10⟩ := Kd.R_elem HO_3.out z73 (x4_1 : Int) p10 q10; obtain rfl := k73_openM hM10; have hx10_0 : w11.cell? ⟨go10, (x4_1 : Int).toNat * 2, none⟩ = some (.int .i64 ((rd_T73 x3_1 x4_1).f0)) := hcc10 0 _ rfl; have hx10_1 : w11.cell? ⟨go10, (x4_1 : Int).toNat * 2 + 1, none⟩ = some (.int .i64 ((rd_T73 x3_1 x4_1).f1)) := hcc10 1 _ rfl; have hf10_0 : w11.frozen? ⟨go10, (x4_1 : Int).toNat * 2, none⟩ = false := hfr10 0; have hf10_1 : w11.frozen? ⟨go10, (x4_1 : Int).toNat * 2 + 1, none⟩ = false := hfr10 1; clear hcl10 hcc10 hfr10 hM10; replace p10 := eq_true p10; replace q10 := eq_true q10; have HX12 := Aside0.mk (show Kd.R k73 73 w11 w.heap.size (fun _ => True) (.slice (some ⟨go10, 0, none⟩) x3_1.length co10) x3_1 from (pR HO_3)); obtain ⟨ce12, hcl12, hM12, hcc12, hfr12⟩ := Kd.R_elem HX12.out z73 (x4_1 : Int) (of_decide_eq_true (by first | (with_reducible assumption) | assumption)) (by have h_ : (x4_1 : Int) < ((x3_1.length : Int) : Int) := of_decide_eq_true (by first | (with_reducible assumption) | assumption); first | exact h_ | (have e_ := (Kd.R_reads' HO_3.out).1; omega) | simpa using h_); obtain rfl := k73_openM hM12; have HP12 := Kd.R_seg HX12.out (x4_1 : Int) (of_decide_eq_true (by first | (with_reducible assumption) | assumption)) (by have h_ : (x4_1 : Int) < ((x3_1.length : Int) : Int) := of_decide_eq_true (by first | (with_reducible assumption) | assumption); first | exact h_ | (have e_ := (Kd.R_reads' HO_3.out).1; omega) | simpa using h_) (seg := [.int .i64 t128, .int .i64 t129]) (j := 0) hcl12 hcc12 (show 2 ≤ 2 from by decide) (x' := (⟨t128, t129⟩ : S73)) (k73_mkM _ _ _ (⟨t128, t129⟩ : S73) ) (fun _ hk => hk); have hx12_0 := hcc12 0 _ rfl; (try simp only [show (k73).sz = 2 from rfl, Nat.mul_one, Nat.add_zero] at hx12_0); have hf12_0 := hfr12 0; (try simp only [show (k73).sz = 2 from rfl, Nat.mul_one, Nat.add_zero] at hf12_0); have hx12_1 := hcc12 1 _ rfl; (try simp only [show (k73).sz = 2 from rfl, Nat.mul_one, Nat.add_zero] at hx12_1); have hf12_1 := hfr12 1; (try simp only [show (k73).sz = 2 from rfl, Nat.mul_one, Nat.add_zero] at hf12_1); clear hcl12 hcc12 hfr12 hM12) | ((with_reducible refine gate_store (t := 73) (p := 21) rfl ?_); refine store_event (t := 73) (p := 21) (v := ?vo_w13) (w1 := ((w11.setCell ⟨go10, (x4_1 : Int).toNat * 2, none⟩ (.int .i64 t128)).setCell ⟨go10, (x4_1 : Int).toNat * 2 + 1, none⟩ (.int .i64 t129))) ?hg ?ho ?hn ?hr ?_; (case ho => rfl); (case hg => rfl); (case hn => rfl); (case hr => first | (go_simp; done) | (go_simp; rfl)); intro w13 hw; have hg : w11.grownBy w13 (some go10) := (by rw [hw]; exact HP12.2); have hp_ : Kd.R k73 73 w13 w.heap.size (fun _ => True) (.slice (some ⟨go10, 0, none⟩) x3_1.length co10) y130 := (by rw [hw, Ny130.out]; exact HP12.1); clear HP12; have n0_ := Aside0.mk (hp_); have n1_ := Aside0.mk ((by rw [hw]; exact below_set (below_set (HB.out) GB10.out) GB10.out : Below w.heap.size w w13)); clear HO_3; clear HB; have HO_3 := n0_; have HB := n1_; clear n0_ n1_; clear hg hw hp_))
        go_roundg k1
        case measure => have := HK1.out; omega
        case rel => exact ⟨(y130), (wrap64 (x4_1 + 1)), (by first | rfl | (simp; done) | (simp [*]; done)), H', ⟨by have := HK1.out; omega⟩, ⟨by (with_reducible repeat (first | apply Kd.R_alloc | apply Kd.R_drewN | apply Kd.R_drew)); exact HO_3.out⟩, ⟨pH HB⟩⟩
       ·rw [if_neg c9] at H
        exact absurd H (by simp)
      ·rw [if_neg c7] at H
       exact absurd H (by simp)
     ·rw [if_neg c6] at H
      have c6b0 : decide (x4_1 < (l0.length : Int)) = false := decide_eq_false c6
      clear c6
      obtain rfl := Option.some.inj H
      go_wp2
      go_ret
      exact ⟨_, by first | rfl | (simp [errW_none, errW_some] <;> rfl) | (simp [*, errW_none, errW_some] <;> rfl) | (exfalso; simp_all), by (with_reducible repeat (first | apply Kd.R_alloc | apply Kd.R_drewN | apply Kd.R_drew)); exact HO_3.out, pH HB⟩
  ·rw [if_neg c3] at H
   exact absurd H (by simp)
 ·rw [if_neg c2] at H
  exact absurd H (by simp)
end Go.Proofs.Ytomdfjohnmikdaa.QS
namespace Go.Proofs.Ytomdfjohnmikdaa.QFnExactIsPerfect
open Go.Proofs.Ytomdfjohnmikdaa.Cw Go.Proofs.Ytomdfjohnmikdaa.Kp Go.Proofs.Ytomdfjohnmikdaa.Ext Go.Proofs.Ytomdfjohnmikdaa.QS Go.RowKit Go.Proofs.YtomdfjohnmikdaaW.PrintWords Go.Proofs.YtomdfjohnmikdaaW.PrintLast Go.Proofs.YtomdfjohnmikdaaW.PrintMore
attribute [local go_sem] max2_int min2_int max_two min_two max_three min_three max_four min_four   -- for this text's walks alone
set_option linter.unusedVariables false
set_option linter.unusedSimpArgs false
theorem info2 : (Try.prog.info? 2).map (fun i => (i.zero, i.size, i.bytes)) = some (some (.int .i64 0), 1, 8) := by kernel_rfl
theorem info73 : (Try.prog.info? 73).map (fun i => (i.zero, i.size, i.bytes)) = some (some (.agg #[(.int .i64 0), (.int .i64 0)]), 2, 16) := by kernel_rfl
end Go.Proofs.Ytomdfjohnmikdaa.QFnExactIsPerfect
namespace Go.Proofs.Ytomdfjohnmikdaa.QFnExactIsPerfect
open Go.Proofs.Ytomdfjohnmikdaa.Cw Go.Proofs.Ytomdfjohnmikdaa.Kp Go.Proofs.Ytomdfjohnmikdaa.Ext Go.Proofs.Ytomdfjohnmikdaa.QS Go.RowKit Go.Proofs.YtomdfjohnmikdaaW.PrintWords Go.Proofs.YtomdfjohnmikdaaW.PrintLast Go.Proofs.YtomdfjohnmikdaaW.PrintMore
attribute [local go_sem] max2_int min2_int max_two min_two max_three min_three max_four min_four   -- for this text's walks alone
set_option linter.unusedVariables false
set_option linter.unusedSimpArgs false
noncomputable def laws_FnExactIsPerfect.f (k : Nat) (a0_0 : Int) (l0_1 : List Int) (l1 : List (S72)) : Option (Bool) := (laws_szComplex.f a0_0 l0_1 1048576).bind fun t130 => (if t130 < 0 then (some true) else ((laws_szPairS.f l1 t130).bind fun t131 => (if t131 < 0 then (some true) else ((laws_toComplex.f k a0_0 l0_1).bind fun bt132 => ((laws_toPairS.f k l1).bind fun t136 => ((spec_IsPerfect.f bt132.1 bt132.2 t136).bind fun bt139 => ((laws_toComplex.f k a0_0 l0_1).bind fun bt141 => ((laws_toPairS.f k l1).bind fun t146 => ((impl_IsPerfect.f bt141.1 bt141.2 t146).bind fun bt149 => (if (bt149.1 != bt139.1) = true then (none) else (if bt149.2 = bt139.2 then ((laws_toComplex.f k a0_0 l0_1).bind fun bt151 => ((laws_eqComplex.f k bt141.1 bt141.2 bt151.1 bt151.2).bind fun t155 => (if t155 = true then ((laws_toPairS.f k l1).bind fun t156 => ((laws_eqPairS.f k t146 t156).bind fun t159 => (if t159 = true then (some true) else (none)))) else (none)))) else (none))))))))))))
set_option maxHeartbeats 8000000 in
set_option maxRecDepth 100000 in
theorem laws_FnExactIsPerfect.calls (k : Nat) (a0_0 : Int) (A0_1 : Option Addr) (c0_1 : Nat) (l0_1 : List Int) (A1 : Option Addr) (c1 : Nat) (l1 : List (S72)) (r : Bool) (w : World) (hr0_1 : Kd.C (Kd.int .i64) w A0_1 l0_1.length l0_1) (hc0_1 : l0_1.length ≤ c0_1) (hr1 : Kd.C k72 w A1 l1.length l1) (hc1 : l1.length ≤ c1) (h : laws_FnExactIsPerfect.f k a0_0 l0_1 l1 = some r) :
  Calls Try.prog 5 #[.agg #[.int .i64 a0_0, .slice A0_1 l0_1.length c0_1], .slice A1 l1.length c1] w fun e w' => e = .returned (.bool r) ∧ Below w.heap.size w w' := by
 have hu24 := Try.underlying24
 have hu28 := Try.underlying28
 have HR0_1 := Aside0.mk hr0_1
 have HC0_1 := Aside0.mk hc0_1
 clear hr0_1 hc0_1
 have HR1 := Aside0.mk hr1
 have HC1 := Aside0.mk hc1
 clear hr1 hc1
 have HB := Aside0.mk (Below.refl w.heap.size w)
 have H : ((laws_szComplex.f a0_0 l0_1 1048576).bind fun t130 => (if t130 < 0 then (some true) else ((laws_szPairS.f l1 t130).bind fun t131 => (if t131 < 0 then (some true) else ((laws_toComplex.f k a0_0 l0_1).bind fun bt132 => ((laws_toPairS.f k l1).bind fun t136 => ((spec_IsPerfect.f bt132.1 bt132.2 t136).bind fun bt139 => ((laws_toComplex.f k a0_0 l0_1).bind fun bt141 => ((laws_toPairS.f k l1).bind fun t146 => ((impl_IsPerfect.f bt141.1 bt141.2 t146).bind fun bt149 => (if (bt149.1 != bt139.1) = true then (none) else (if bt149.2 = bt139.2 then ((laws_toComplex.f k a0_0 l0_1).bind fun bt151 => ((laws_eqComplex.f k bt141.1 bt141.2 bt151.1 bt151.2).bind fun t155 => (if t155 = true then ((laws_toPairS.f k l1).bind fun t156 => ((laws_eqPairS.f k t146 t156).bind fun t159 => (if t159 = true then (some true) else (none)))) else (none)))) else (none))))))))))))) = some r := h
 clear h
 replace H := Option.bind_eq_some_iff.mp H
 obtain ⟨t130, A30, H⟩ := H
 try dsimp only at H
 have A3 := Aside0.mk A30
 clear A30
 by_cases c4 : t130 < 0
 ·rw [if_pos c4] at H
  have c4b0 : decide (t130 < 0) = true := decide_eq_true c4
  clear c4
  obtain rfl := Option.some.inj H
  go_enter Try.func5, Try.ntmps5
  go_wp2_with (first | ((with_reducible refine gate_dst (N := 2) rfl ?_); refine box_event ?hg (N := 2) ?hd (cs := #[.int .i64 a0_0, .slice A0_1 l0_1.length c0_1]) (t := 24) ?hr ?_; (case hd => rfl); (case hg => rfl); (case hr => first | (go_simp; done) | (go_simp; rfl)); intro gb129 hg w5 hbox hb; have BK129 := Aside0.mk (hbox); have GW129 := gH HB hg; have GE129 := gH HB hg; replace HB := sH HB hb; clear hb hbox hg; have hcz6_0 : w5.cell? ⟨gb129, 0, none⟩ = some (.int .i64 a0_0) := cB BK129 0; have hcz6_1 : w5.cell? ⟨gb129, 1, none⟩ = some (.slice A0_1 l0_1.length c0_1) := cB BK129 1; have hfz6_0 := zB BK129 0; have hfz6_1 := zB BK129 1) | ((with_reducible refine gate_callee (f := 13) rfl ?_); refine cl_ (some 14) Try.func13 #[.agg #[.int .i64 a0_0, .slice A0_1 l0_1.length c0_1], .int .i64 1048576] ?_; (with_reducible refine (laws_szComplex.calls a0_0 _ _ l0_1 1048576 t130 _ ?side1 ?side2 A3.out).mono ?_); (case side1 => exact pC ((Kd.C_below HR0_1.out HB.out))); (case side2 => exact HC0_1.out); rintro e w7 ⟨rfl, hb⟩; refine ⟨_, rfl, ?_⟩; replace BK129 := sB BK129 hb; replace HB := sH HB hb; (try clear hb); (try clear hi)))
  go_ret
  exact ⟨by first | rfl | (simp [errW_none, errW_some] <;> rfl) | (simp [*, errW_none, errW_some] <;> rfl) | (exfalso; simp_all), pH HB⟩
 ·rw [if_neg c4] at H
  have c4b0 : decide (t130 < 0) = false := decide_eq_false c4
  clear c4
  replace H := Option.bind_eq_some_iff.mp H
  obtain ⟨t131, A80, H⟩ := H
  try dsimp only at H
  have A8 := Aside0.mk A80
  clear A80
  by_cases c9 : t131 < 0
  ·rw [if_pos c9] at H
   have c9b0 : decide (t131 < 0) = true := decide_eq_true c9
   clear c9
   obtain rfl := Option.some.inj H
   go_enter Try.func5, Try.ntmps5
   go_wp2_with (first | ((with_reducible refine gate_dst (N := 2) rfl ?_); refine box_event ?hg (N := 2) ?hd (cs := #[.int .i64 a0_0, .slice A0_1 l0_1.length c0_1]) (t := 24) ?hr ?_; (case hd => rfl); (case hg => rfl); (case hr => first | (go_simp; done) | (go_simp; rfl)); intro gb129 hg w10 hbox hb; have BK129 := Aside0.mk (hbox); have GW129 := gH HB hg; have GE129 := gH HB hg; replace HB := sH HB hb; clear hb hbox hg; have hcz11_0 : w10.cell? ⟨gb129, 0, none⟩ = some (.int .i64 a0_0) := cB BK129 0; have hcz11_1 : w10.cell? ⟨gb129, 1, none⟩ = some (.slice A0_1 l0_1.length c0_1) := cB BK129 1; have hfz11_0 := zB BK129 0; have hfz11_1 := zB BK129 1) | ((with_reducible refine gate_callee (f := 13) rfl ?_); refine cl_ (some 14) Try.func13 #[.agg #[.int .i64 a0_0, .slice A0_1 l0_1.length c0_1], .int .i64 1048576] ?_; (with_reducible refine (laws_szComplex.calls a0_0 _ _ l0_1 1048576 t130 _ ?side1 ?side2 A3.out).mono ?_); (case side1 => exact pC ((Kd.C_below HR0_1.out HB.out))); (case side2 => exact HC0_1.out); rintro e w12 ⟨rfl, hb⟩; refine ⟨_, rfl, ?_⟩; replace BK129 := sB BK129 hb; replace HB := sH HB hb; (try clear hb); (try clear hi)) | ((with_reducible refine gate_callee (f := 23) rfl ?_); refine cl_ (some 19) Try.func23 #[.slice A1 l1.length c1, .int .i64 t130] ?_; (with_reducible refine (laws_szPairS.calls _ _ l1 t130 t131 _ ?side1 ?side2 A8.out).mono ?_); (case side1 => exact pC ((Kd.C_below HR1.out HB.out))); (case side2 => exact HC1.out); rintro e w' ⟨rfl, ⟨nd, rfl⟩⟩; refine ⟨_, rfl, ?_⟩))
   go_ret
   exact ⟨by first | rfl | (simp [errW_none, errW_some] <;> rfl) | (simp [*, errW_none, errW_some] <;> rfl) | (exfalso; simp_all), pH HB⟩
  ·rw [if_neg c9] at H
   have c9b0 : decide (t131 < 0) = false := decide_eq_false c9
   clear c9
   replace H := Option.bind_eq_some_iff.mp H
   obtain ⟨⟨t132, t133⟩, A130, H⟩ := H
   try dsimp only at H
   have A13 := Aside0.mk A130
   clear A130
   replace H := Option.bind_eq_some_iff.mp H
   obtain ⟨t136, A140, H⟩ := H
   try dsimp only at H
   have A14 := Aside0.mk A140
   clear A140
   replace H := Option.bind_eq_some_iff.mp H
   obtain ⟨⟨t139, t140⟩, A150, H⟩ := H
   try dsimp only at H
   have A15 := Aside0.mk A150
   clear A150
   replace H := Option.bind_eq_some_iff.mp H
   obtain ⟨⟨t141, t142⟩, A160, H⟩ := H
   try dsimp only at H
   have A16 := Aside0.mk A160
   clear A160
   replace H := Option.bind_eq_some_iff.mp H
   obtain ⟨t146, A170, H⟩ := H
   try dsimp only at H
   have A17 := Aside0.mk A170
   clear A170
   replace H := Option.bind_eq_some_iff.mp H
   obtain ⟨⟨t149, t150⟩, A180, H⟩ := H
   try dsimp only at H
   have A18 := Aside0.mk A180
   clear A180
   by_cases c19 : (t149 != t139) = true
   ·rw [if_pos c19] at H
    exact absurd H (by simp)
   ·rw [if_neg c19] at H
    have c19b0 : (t149 != t139) = false := by simpa using c19
    (try (have c19b1 : decide (t149 = t139) = true := by simpa using c19))
    (try (have c19b2 : (t149 == t139) = true := by simpa using c19))
    clear c19
    by_cases c20 : t150 = t140
    ·rw [if_pos c20] at H
     have c20b0 : (t150 == t140) = true := beq_iff_eq.mpr c20
     have c20b1 : (t150 != t140) = false := bne_eq_false_iff_eq.mpr c20
     clear c20
     replace H := Option.bind_eq_some_iff.mp H
     obtain ⟨⟨t151, t152⟩, A210, H⟩ := H
     try dsimp only at H
     have A21 := Aside0.mk A210
     clear A210
     replace H := Option.bind_eq_some_iff.mp H
     obtain ⟨t155, A220, H⟩ := H
     try dsimp only at H
     have A22 := Aside0.mk A220
     clear A220
     by_cases c23 : t155 = true
     ·subst c23
      have H1 : ((laws_toPairS.f k l1).bind fun t156 => ((laws_eqPairS.f k t146 t156).bind fun t159 => (if t159 = true then (some true) else (none)))) = some r := by rw [if_pos rfl] at H; exact H
      clear H
      have H := H1
      clear H1
      replace H := Option.bind_eq_some_iff.mp H
      obtain ⟨t156, A240, H⟩ := H
      try dsimp only at H
      have A24 := Aside0.mk A240
      clear A240
      replace H := Option.bind_eq_some_iff.mp H
      obtain ⟨t159, A250, H⟩ := H
      try dsimp only at H
      have A25 := Aside0.mk A250
      clear A250
      by_cases c26 : t159 = true
      ·subst c26
       have H1 : (some true) = some r := by rw [if_pos rfl] at H; exact H
       clear H
       have H := H1
       clear H1
       obtain rfl := Option.some.inj H
       go_enter Try.func5, Try.ntmps5
       try go_wp2_with (first | ((with_reducible refine gate_dst (N := 2) rfl ?_); refine box_event ?hg (N := 2) ?hd (cs := #[.int .i64 a0_0, .slice A0_1 l0_1.length c0_1]) (t := 24) ?hr ?_; (case hd => rfl); (case hg => rfl); (case hr => first | (go_simp; done) | (go_simp; rfl)); intro gb129 hg w27 hbox hb; have BK129 := Aside0.mk (hbox); have GW129 := gH HB hg; have GE129 := gH HB hg; replace HB := sH HB hb; clear hb hbox hg; have hcz28_0 : w27.cell? ⟨gb129, 0, none⟩ = some (.int .i64 a0_0) := cB BK129 0; have hcz28_1 : w27.cell? ⟨gb129, 1, none⟩ = some (.slice A0_1 l0_1.length c0_1) := cB BK129 1; have hfz28_0 := zB BK129 0; have hfz28_1 := zB BK129 1) | ((with_reducible refine gate_callee (f := 13) rfl ?_); refine cl_ (some 14) Try.func13 #[.agg #[.int .i64 a0_0, .slice A0_1 l0_1.length c0_1], .int .i64 1048576] ?_; (with_reducible refine (laws_szComplex.calls a0_0 _ _ l0_1 1048576 t130 _ ?side1 ?side2 A3.out).mono ?_); (case side1 => exact pC ((Kd.C_below HR0_1.out HB.out))); (case side2 => exact HC0_1.out); rintro e w29 ⟨rfl, hb⟩; refine ⟨_, rfl, ?_⟩; replace BK129 := sB BK129 hb; replace HB := sH HB hb; (try clear hb); (try clear hi)) | ((with_reducible refine gate_callee (f := 23) rfl ?_); refine cl_ (some 19) Try.func23 #[.slice A1 l1.length c1, .int .i64 t130] ?_; (with_reducible refine (laws_szPairS.calls _ _ l1 t130 t131 _ ?side1 ?side2 A8.out).mono ?_); (case side1 => exact pC ((Kd.C_below HR1.out HB.out))); (case side2 => exact HC1.out); rintro e w' ⟨rfl, ⟨nd, rfl⟩⟩; refine ⟨_, rfl, ?_⟩; (try (rw [drewN_self w29]; generalize hq_ : World.drewN w29 _ = w29; have n0_ : Aside0 (w29.heap[gb129]? = some (.cells #[.int .i64 a0_0, .slice A0_1 l0_1.length c0_1] 24 (0, 0))) := ⟨by rw [← hq_]; exact (pB BK129)⟩; have n1_ : Aside0 (Below w.heap.size w w29) := ⟨by rw [← hq_]; exact (pH HB)⟩; clear BK129 HB hq_; have BK129 := n0_; have HB := n1_; clear n0_ n1_)); (try (have hcz30_0 : w29.cell? ⟨gb129, 0, none⟩ = some (.int .i64 a0_0) := cB BK129 0; have hcz30_1 : w29.cell? ⟨gb129, 1, none⟩ = some (.slice A0_1 l0_1.length c0_1) := cB BK129 1; have hfz30_0 := zB BK129 0; have hfz30_1 := zB BK129 1)); have hcz31_0 : w29.cell? ⟨gb129, 0, none⟩ = some (.int .i64 a0_0) := cB BK129 0; have hcz31_1 : w29.cell? ⟨gb129, 1, none⟩ = some (.slice A0_1 l0_1.length c0_1) := cB BK129 1; have hfz31_0 := zB BK129 0; have hfz31_1 := zB BK129 1) | ((with_reducible refine gate_callee (f := 15) rfl ?_); refine cl_ (some 24) Try.func15 #[.agg #[.int .i64 a0_0, .slice A0_1 l0_1.length c0_1]] ?_; (with_reducible refine (laws_toComplex.calls k a0_0 _ _ l0_1 t132 t133 _ ?side1 ?side2 A13.out).mono ?_); (case side1 => exact pC ((Kd.C_below HR0_1.out HB.out))); (case side2 => exact HC0_1.out); rintro e w32 ⟨v134, rfl, ho0, hb⟩; refine ⟨_, rfl, ?_⟩; have HO135 := Aside0.mk (Kd.R_lower ho0 (below_size (pH HB))); replace BK129 := sB BK129 hb; replace HB := sH HB hb; (try clear hb); (try clear hi); (try clear ho0)) | ((with_reducible refine gate_callee (f := 25) rfl ?_); refine cl_ (some 26) Try.func25 #[.slice A1 l1.length c1] ?_; (with_reducible refine (laws_toPairS.calls k _ _ l1 t136 _ ?side1 ?side2 A14.out).mono ?_); (case side1 => exact pC ((Kd.C_below HR1.out HB.out))); (case side2 => exact HC1.out); rintro e w33 ⟨v137, rfl, ho0, hb⟩; refine ⟨_, rfl, ?_⟩; replace HO135 := sR HO135 hb; have HO138 := Aside0.mk (Kd.R_lower ho0 (below_size (pH HB))); replace BK129 := sB BK129 hb; replace HB := sH HB hb; (try clear hb); (try clear hi); (try clear ho0); obtain ⟨Ao34, co34, eo34⟩ := Kd.R_slice HO135.out; subst eo34; obtain ⟨Ao35, co35, eo35⟩ := Kd.R_slice HO138.out; subst eo35) | ((with_reducible refine gate_callee (f := 30) rfl ?_); refine cl_ (some 27) Try.func30 #[.agg #[.int .i64 t132, .slice Ao34 t133.length co34], .slice Ao35 t136.length co35] ?_; (with_reducible refine (spec_IsPerfect.calls t132 _ _ t133 _ _ t136 t139 t140 _ ?side1 ?side2 ?side3 ?side4 A15.out).mono ?_); (case side1 => exact pC ((Kd.R_reads' HO135.out).2.2)); (case side2 => exact (Kd.R_reads' HO135.out).2.1); (case side3 => exact pC ((Kd.R_reads' HO138.out).2.2)); (case side4 => exact (Kd.R_reads' HO138.out).2.1); rintro e w36 ⟨rfl, hb⟩; refine ⟨_, rfl, ?_⟩; replace HO135 := sR HO135 hb; replace HO138 := sR HO138 hb; replace BK129 := sB BK129 hb; replace HB := sH HB hb; (try clear hb); (try clear hi); have hcz37_0 : w36.cell? ⟨gb129, 0, none⟩ = some (.int .i64 a0_0) := cB BK129 0; have hcz37_1 : w36.cell? ⟨gb129, 1, none⟩ = some (.slice A0_1 l0_1.length c0_1) := cB BK129 1; have hfz37_0 := zB BK129 0; have hfz37_1 := zB BK129 1) | ((with_reducible refine gate_callee (f := 15) rfl ?_); refine cl_ (some 31) Try.func15 #[.agg #[.int .i64 a0_0, .slice A0_1 l0_1.length c0_1]] ?_; (with_reducible refine (laws_toComplex.calls k a0_0 _ _ l0_1 t141 t142 _ ?side1 ?side2 A16.out).mono ?_); (case side1 => exact pC ((Kd.C_below HR0_1.out HB.out))); (case side2 => exact HC0_1.out); rintro e w38 ⟨v143, rfl, ho0, hb⟩; refine ⟨_, rfl, ?_⟩; replace HO138 := sR HO138 hb; have HO144 := Aside0.mk (Kd.R_lower (Kd.R_new' ho0 (Kd.R_lt (pR HO135))) (below_size (pH HB))); replace HO135 := Aside0.mk (Kd.R_elder' (pR HO135) (Kd.R_base ho0) hb); replace BK129 := sB BK129 hb; replace HB := sH HB hb; (try clear hb); (try clear hi); (try clear ho0)) | ((with_reducible refine gate_dst (N := 8) rfl ?_); refine box_event ?hg (N := 8) ?hd (cs := #[.int .i64 0, .slice none 0 0]) (t := 28) ?hr ?_; (case hd => rfl); (case hg => rfl); (case hr => first | (go_simp; done) | (go_simp; rfl)); intro gb145 hg w39 hbox hb; replace HO135 := sR HO135 hb; replace HO138 := sR HO138 hb; replace HO144 := sR HO144 hb; have BK145 := Aside0.mk (hbox); have GW145 := gH HB hg; have GE145 := gH HB hg; replace HB := sH HB hb; have NB129_145 := nB BK129 hg; have NB145_129 := oB BK129 hg; replace BK129 := sB BK129 hb; clear hb hbox hg; (try have hnb40 := NB145_129.out); (try have hnc40 := NB129_145.out); have hcz41_0 : w39.cell? ⟨gb145, 0, none⟩ = some (.int .i64 0) := cB BK145 0; have hcz41_1 : w39.cell? ⟨gb145, 1, none⟩ = some (.slice none 0 0) := cB BK145 1; have hfz41_0 := zB BK145 0; have hfz41_1 := zB BK145 1; obtain ⟨Ao42, co42, eo42⟩ := Kd.R_slice HO144.out; subst eo42) | ((with_reducible refine gate_callee (f := 25) rfl ?_); refine cl_ (some 33) Try.func25 #[.slice A1 l1.length c1] ?_; (with_reducible refine (laws_toPairS.calls k _ _ l1 t146 _ ?side1 ?side2 A17.out).mono ?_); (case side1 => exact Kd.C_below HR1.out (pH HB)); (case side2 => exact HC1.out); rintro e w43 ⟨v147, rfl, ho0, hb⟩; refine ⟨_, rfl, ?_⟩; have n0_ := Aside0.mk (Kd.R_below (by (with_reducible repeat (first | apply Kd.R_alloc | apply Kd.R_drewN | apply Kd.R_drew)); exact (Kd.R_mono (Kd.R_far (p := ⟨gb145, 1, none⟩) (Kd.R_far (p := ⟨gb145, 0, none⟩) (Kd.R_types HO135.out BK145.out (by decide)) (fun _ hk => hk.2) (.int .i64 t141)) (fun _ hk => hk.2) (.slice Ao42 t142.length co42)) (fun _ h_ => h_.1))) hb); have n1_ := Aside0.mk (Kd.R_elder' (by (with_reducible repeat (first | apply Kd.R_alloc | apply Kd.R_drewN | apply Kd.R_drew)); exact (Kd.R_mono (Kd.R_far (p := ⟨gb145, 1, none⟩) (Kd.R_far (p := ⟨gb145, 0, none⟩) (Kd.R_types HO138.out BK145.out (by decide)) (fun _ hk => hk.2) (.int .i64 t141)) (fun _ hk => hk.2) (.slice Ao42 t142.length co42)) (fun _ h_ => h_.1))) (Kd.R_base ho0) hb); have n2_ := Aside0.mk (Kd.R_below (by (with_reducible repeat (first | apply Kd.R_alloc | apply Kd.R_drewN | apply Kd.R_drew)); exact (Kd.R_mono (Kd.R_far (p := ⟨gb145, 1, none⟩) (Kd.R_far (p := ⟨gb145, 0, none⟩) (Kd.R_types HO144.out BK145.out (by decide)) (fun _ hk => hk.2) (.int .i64 t141)) (fun _ hk => hk.2) (.slice Ao42 t142.length co42)) (fun _ h_ => h_.1))) hb); have n3_ := Aside0.mk (Kd.R_lower (Kd.R_new' ho0 (Kd.R_lt (by (with_reducible repeat (first | apply Kd.R_alloc | apply Kd.R_drewN | apply Kd.R_drew)); exact (Kd.R_mono (Kd.R_far (p := ⟨gb145, 1, none⟩) (Kd.R_far (p := ⟨gb145, 0, none⟩) (Kd.R_types HO138.out BK145.out (by decide)) (fun _ hk => hk.2) (.int .i64 t141)) (fun _ hk => hk.2) (.slice Ao42 t142.length co42)) (fun _ h_ => h_.1))))) (below_size (pH HB))); have n4_ := Aside0.mk (blk_below (g := gb129) (o := .cells #[.int .i64 a0_0, .slice A0_1 l0_1.length c0_1] 24 (0, 0)) (by (with_reducible repeat (first | refine blk_drewN ?_ _ | refine blk_drew ?_ | refine blk_alloc ?_ _)); refine blk_far ?_ NB129_145.out _; (with_reducible repeat (first | refine blk_drewN ?_ _ | refine blk_drew ?_ | refine blk_alloc ?_ _)); refine blk_far ?_ NB129_145.out _; (with_reducible repeat (first | refine blk_drewN ?_ _ | refine blk_drew ?_ | refine blk_alloc ?_ _)); exact BK129.out) hb); have n5_ := Aside0.mk (blk_below (g := gb145) (o := .cells #[.int .i64 t141, .slice Ao42 t142.length co42] 28 (0, 0)) (by (with_reducible repeat (first | refine blk_drewN ?_ _ | refine blk_drew ?_ | refine blk_alloc ?_ _)); refine blk_put (cs := #[.int .i64 t141, .slice none 0 0]) ?_ 1 _ rfl; (with_reducible repeat (first | refine blk_drewN ?_ _ | refine blk_drew ?_ | refine blk_alloc ?_ _)); refine blk_put (cs := #[.int .i64 0, .slice none 0 0]) ?_ 0 _ rfl; (with_reducible repeat (first | refine blk_drewN ?_ _ | refine blk_drew ?_ | refine blk_alloc ?_ _)); exact BK145.out) hb); have n6_ := sH HB hb; clear HO135; clear HO138; clear HO144; clear BK129; clear BK145; clear HB; have HO135 := n0_; have HO138 := n1_; have HO144 := n2_; have HO148 := n3_; have BK129 := n4_; have BK145 := n5_; have HB := n6_; clear n0_ n1_ n2_ n3_ n4_ n5_ n6_; (try clear hb); (try clear hi); (try clear ho0); have hcz44_0 : w43.cell? ⟨gb145, 0, none⟩ = some (.int .i64 t141) := cB BK145 0; have hcz44_1 : w43.cell? ⟨gb145, 1, none⟩ = some (.slice Ao42 t142.length co42) := cB BK145 1; have hfz44_0 := zB BK145 0; have hfz44_1 := zB BK145 1; obtain ⟨Ao45, co45, eo45⟩ := Kd.R_slice HO148.out; subst eo45) | ((with_reducible refine gate_callee (f := 31) rfl ?_); refine cl_ (some 37) Try.func31 #[.agg #[.int .i64 t141, .slice Ao42 t142.length co42], .slice Ao45 t146.length co45] ?_; (with_reducible refine (impl_IsPerfect.calls t141 _ _ t142 _ _ t146 t149 t150 _ ?side1 ?side2 ?side3 ?side4 A18.out).mono ?_); (case side1 => exact pC ((Kd.R_reads' HO144.out).2.2)); (case side2 => exact (Kd.R_reads' HO144.out).2.1); (case side3 => exact pC ((Kd.R_reads' HO148.out).2.2)); (case side4 => exact (Kd.R_reads' HO148.out).2.1); rintro e w46 ⟨rfl, hb⟩; refine ⟨_, rfl, ?_⟩; replace HO135 := sR HO135 hb; replace HO138 := sR HO138 hb; replace HO144 := sR HO144 hb; replace HO148 := sR HO148 hb; replace BK129 := sB BK129 hb; replace BK145 := sB BK145 hb; replace HB := sH HB hb; (try clear hb); (try clear hi)))
       replace HO135 := Aside0.mk (Kd.R_drew HO135.out)
       replace HO138 := Aside0.mk (Kd.R_drew HO138.out)
       replace HO144 := Aside0.mk (Kd.R_drew HO144.out)
       replace HO148 := Aside0.mk (Kd.R_drew HO148.out)
       replace BK129 := dB BK129
       replace BK145 := dB BK145
       replace HB := dH HB
       refine st_ 5 (S := fun w' => w'.cell? ⟨gb145, 0, none⟩ = some (.int .i64 t141) ∧ w'.cell? ⟨gb145, 1, none⟩ = some (.slice Ao42 t142.length co42) ∧ w'.cell? ⟨gb129, 0, none⟩ = some (.int .i64 a0_0) ∧ w'.cell? ⟨gb129, 1, none⟩ = some (.slice A0_1 l0_1.length c0_1)) (ds := []) ⟨cB BK145 0, cB BK145 1, cB BK129 0, cB BK129 1⟩ (fun hHeld => ?_)
       generalize w46.drew = w47 at HO135 HO138 HO144 HO148 BK129 BK145 HB hHeld ⊢
       refine take_ (i := 0) (N := some 48) (v := ?_) (a' := ?_) (mB 5 1) rfl rfl (by kernel_rfl) (fun _ _ _ h => h) (Or.inl ⟨by rfl, ?_⟩) hHeld ?_ ?_
       rotate_left
       ·rintro w' ⟨s0, s1, s2, s3⟩
        go_simp
        with_reducible rfl
       rotate_left
       ·simp only [Act.put, List.setIfInBounds_toArray, List.set_cons_zero, List.set_cons_succ, i64_w, i32_w]
        rfl
       refine take_ (i := 1) (N := some 49) (v := ?_) (a' := ?_) (mB 5 3) rfl rfl (by kernel_rfl) (fun _ _ _ h => h) (Or.inl ⟨by rfl, ?_⟩) hHeld ?_ ?_
       rotate_left
       ·rintro w' ⟨s0, s1, s2, s3⟩
        go_simp
        with_reducible rfl
       rotate_left
       ·simp only [Act.put, List.setIfInBounds_toArray, List.set_cons_zero, List.set_cons_succ, i64_w, i32_w]
        rfl
       refine one_ (i := 2) (N := some 50) (mB 5 7) rfl rfl (by kernel_rfl) (by decide) (fun K hK => ?_)
       refine ca_ Try.func15 #[.agg #[.int .i64 a0_0, .slice A0_1 l0_1.length c0_1]] ?_
       with_reducible refine (laws_toComplex.calls k a0_0 _ _ l0_1 t151 t152 _ ?side1 ?side2 A21.out).mono ?_
       (case side1 => exact pC ((Kd.C_below HR0_1.out HB.out)))
       (case side2 => exact HC0_1.out)
       rintro e w48 ⟨v153, rfl, ho0, hb⟩
       refine ⟨_, rfl, ?_⟩
       replace HO138 := sR HO138 hb
       replace HO148 := sR HO148 hb
       have HO154 := Aside0.mk (Kd.R_lower (Kd.R_new' (Kd.R_new' ho0 (Kd.R_lt (pR HO135))) (Kd.R_lt (pR HO144))) (below_size (pH HB)))
       replace HO135 := Aside0.mk (Kd.R_elder' (pR HO135) (Kd.R_base ho0) hb)
       replace HO144 := Aside0.mk (Kd.R_elder' (pR HO144) (Kd.R_base ho0) hb)
       replace BK129 := sB BK129 hb
       replace BK145 := sB BK145 hb
       replace HB := sH HB hb
       (try clear hb)
       (try clear hb2)
       (try clear hk)
       (try clear hi)
       (try clear ho0)
       obtain ⟨Ao49, co49, eo49⟩ := Kd.R_slice HO154.out
       (first | subst eo49 | (injection eo49 with f1_ f2_ f3_; have f4_ := f1_.symm; have f5_ := f3_.symm; clear f1_ f2_ f3_; subst f4_; subst f5_))
       refine hK.out _ _ ⟨cB BK145 0, cB BK145 1, cB BK129 0, cB BK129 1⟩ (fun hHeld => ?_)
       clear hK K
       refine nm_ ?_
       refine one_ (i := 3) (N := some 51) (mB 5 15) rfl rfl (by kernel_rfl) (by decide) (fun K hK => ?_)
       refine ca_ Try.func19 #[.agg #[.int .i64 t141, .slice Ao42 t142.length co42], .agg #[.int .i64 t151, .slice Ao49 t152.length co49]] ?_
       with_reducible refine (laws_eqComplex.calls k t141 _ _ t142 t151 _ _ t152 true _ ?side1 ?side2 ?side3 ?side4 A22.out).mono ?_
       (case side1 => exact pC ((Kd.R_reads' HO144.out).2.2))
       (case side2 => exact (Kd.R_reads' HO144.out).2.1)
       (case side3 => exact pC ((Kd.R_reads' HO154.out).2.2))
       (case side4 => exact (Kd.R_reads' HO154.out).2.1)
       rintro e w50 ⟨rfl, hb⟩
       refine ⟨_, rfl, ?_⟩
       replace HO135 := sR HO135 hb
       replace HO138 := sR HO138 hb
       replace HO144 := sR HO144 hb
       replace HO148 := sR HO148 hb
       replace HO154 := sR HO154 hb
       replace BK129 := sB BK129 hb
       replace BK145 := sB BK145 hb
       replace HB := sH HB hb
       (try clear hb)
       (try clear hb2)
       (try clear hk)
       (try clear hi)
       refine hK.out _ _ ⟨cB BK145 0, cB BK145 1, cB BK129 0, cB BK129 1⟩ (fun hHeld => ?_)
       clear hK K
       refine nm_ ?_
       refine pure_ (i := 4) (N := some 52) (v := ?_) (a' := ?_) (mB 5 31) rfl rfl (by kernel_rfl) (fun _ _ _ h => h) (Or.inl ⟨by rfl, ?_⟩) ?_ ?_
       rotate_left
       ·intro w'
        go_simp
        with_reducible rfl
       rotate_left
       ·simp only [Act.put, List.setIfInBounds_toArray, List.set_cons_zero, List.set_cons_succ, i64_w, i32_w]
        rfl
       refine done_ (by kernel_rfl) ?_
       try go_wp2_with (first | ((with_reducible refine gate_callee (f := 25) rfl ?_); refine cl_ (some 55) Try.func25 #[.slice A1 l1.length c1] ?_; (with_reducible refine (laws_toPairS.calls k _ _ l1 t156 _ ?side1 ?side2 A24.out).mono ?_); (case side1 => exact pC ((Kd.C_below HR1.out HB.out))); (case side2 => exact HC1.out); rintro e w51 ⟨v157, rfl, ho0, hb⟩; refine ⟨_, rfl, ?_⟩; replace HO135 := sR HO135 hb; replace HO144 := sR HO144 hb; replace HO154 := sR HO154 hb; have HO158 := Aside0.mk (Kd.R_lower (Kd.R_new' (Kd.R_new' ho0 (Kd.R_lt (pR HO138))) (Kd.R_lt (pR HO148))) (below_size (pH HB))); replace HO138 := Aside0.mk (Kd.R_elder' (pR HO138) (Kd.R_base ho0) hb); replace HO148 := Aside0.mk (Kd.R_elder' (pR HO148) (Kd.R_base ho0) hb); replace BK129 := sB BK129 hb; replace BK145 := sB BK145 hb; replace HB := sH HB hb; (try clear hb); (try clear hi); (try clear ho0); have nD_ := Aside0.mk (Kd.R_mono (ok' := fun k_ => True) HO144.out (fun k_ hk => trivial)); clear HO144; have HO144 := nD_; clear nD_; have nD_ := Aside0.mk (Kd.R_mono (ok' := fun k_ => some k_ ≠ (v157 : Value).ownBlock) HO148.out (fun k_ hk => hk.2)); clear HO148; have HO148 := nD_; clear nD_; have nD_ := Aside0.mk (Kd.R_mono (ok' := fun k_ => some k_ ≠ (.slice Ao45 t146.length co45 : Value).ownBlock) HO158.out (fun k_ hk => hk.2)); clear HO158; have HO158 := nD_; clear nD_; clear HO135 HO138 HO154; obtain ⟨Ao52, co52, eo52⟩ := Kd.R_slice HO158.out; subst eo52) | ((with_reducible refine gate_callee (f := 27) rfl ?_); refine cl_ (some 56) Try.func27 #[.slice Ao45 t146.length co45, .slice Ao52 t156.length co52] ?_; (with_reducible refine (laws_eqPairS.calls k _ _ t146 _ _ t156 true _ ?side1 ?side2 ?side3 ?side4 A25.out).mono ?_); (case side1 => exact pC ((Kd.R_reads' HO148.out).2.2)); (case side2 => exact (Kd.R_reads' HO148.out).2.1); (case side3 => exact pC ((Kd.R_reads' HO158.out).2.2)); (case side4 => exact (Kd.R_reads' HO158.out).2.1); rintro e w53 ⟨rfl, hb⟩; refine ⟨_, rfl, ?_⟩; replace HO144 := sR HO144 hb; replace HO148 := sR HO148 hb; replace HO158 := sR HO158 hb; replace BK129 := sB BK129 hb; replace BK145 := sB BK145 hb; replace HB := sH HB hb; (try clear hb); (try clear hi); clear HO148 HO158))
       go_ret
       exact ⟨by first | rfl | (simp [errW_none, errW_some] <;> rfl) | (simp [*, errW_none, errW_some] <;> rfl) | (exfalso; simp_all), pH HB⟩
      ·replace c26 := Bool.eq_false_iff.mpr c26
       subst c26
       have H1 : (none) = some r := by rw [if_neg (show ¬ (false = true) by decide)] at H; exact H
       clear H
       have H := H1
       clear H1
       exact absurd H (by simp)
     ·replace c23 := Bool.eq_false_iff.mpr c23
      subst c23
      have H1 : (none) = some r := by rw [if_neg (show ¬ (false = true) by decide)] at H; exact H
      clear H
      have H := H1
      clear H1
      exact absurd H (by simp)
    ·rw [if_neg c20] at H
     exact absurd H (by simp)
end Go.Proofs.Ytomdfjohnmikdaa.QFnExactIsPerfect
namespace Go.Proofs.Ytomdfjohnmikdaa.Pu
set_option linter.unusedVariables false
set_option linter.unusedSimpArgs false
open Go.RowKit Go.Proofs.Ytomdfjohnmikdaa.Kp Go.Proofs.Ytomdfjohnmikdaa.Ext Go.Proofs.Ytomdfjohnmikdaa.QS Go.Proofs.Ytomdfjohnmikdaa.Im Go.Proofs.YtomdfjohnmikdaaW.PrintWords Go.Proofs.YtomdfjohnmikdaaW.PrintLast Go.Proofs.YtomdfjohnmikdaaW.PrintMore
def FacesP (l : List Pr) : Prop := ∀ q ∈ l, (1 ≤ q.f0 ∧ q.f0 ≤ 63) ∧ 1 ≤ q.f1 ∧ q.f1 ≤ 63
def highZ (l : List Pr) (a : Int) : Int := ((l.find? fun q => q.f0 == a).map (·.f1)).getD 0
def nextZ (l : List Pr) (a : Int) : List Int := if highZ l a = 0 then [] else (bordersL (highZ l a)).filter fun y => !(y == a)
theorem border_all : ((List.range 64).all fun f => f == 0 || (bordersL (f : Int)).all fun y => decide (1 ≤ y) && decide (y ≤ 63)) = true := by decide +kernel
theorem border_range {f y : Int} (h1 : 1 ≤ f) (h2 : f ≤ 63) (hy : y ∈ bordersL f) : 1 ≤ y ∧ y ≤ 63 := by
  obtain ⟨m, rfl⟩ := Int.eq_ofNat_of_zero_le (show 0 ≤ f by omega)
  have h := List.all_eq_true.1 border_all m (List.mem_range.2 (by omega))
  have h0 : (m == 0) = false := by simp; omega
  rw [h0, Bool.false_or] at h
  simpa using List.all_eq_true.1 h y hy
theorem highZ_range {l : List Pr} (h : FacesP l) (a : Int) : highZ l a = 0 ∨ (1 ≤ highZ l a ∧ highZ l a ≤ 63) := by
  unfold highZ
  cases hq : l.find? (fun q => q.f0 == a) with
  | none => exact .inl rfl
  | some q => exact .inr (h q (List.mem_of_find?_eq_some hq)).2
theorem nextZ_range {l : List Pr} (h : FacesP l) {a y : Int} (hy : y ∈ nextZ l a) : 1 ≤ y ∧ y ≤ 63 := by
  unfold nextZ at hy
  rcases highZ_range h a with h0 | ⟨h1, h2⟩
  · rw [if_pos h0] at hy; cases hy
  · rw [if_neg (by omega)] at hy
    exact border_range h1 h2 (List.mem_filter.1 hy).1
theorem nextZ_len {l : List Pr} {a : Int} : (nextZ l a).length ≤ 6 := by
  unfold nextZ
  split
  · simp
  · exact Nat.le_trans (List.length_filter_le _ _) borders_len6
theorem fstP_none {p : Pr → Bool} {xs : List Pr} (h : xs.find? p = none) : firstP p xs = -1 := by
  rw [firstP, if_neg]
  intro ha
  obtain ⟨x, hx, hp⟩ := List.any_eq_true.1 ha
  exact List.find?_eq_none.1 h x hx hp
theorem fstP_some {p : Pr → Bool} {xs : List Pr} {q : Pr} (h : xs.find? p = some q) : ∃ i : Nat, firstP p xs = (i : Int) ∧ i < xs.length ∧ xs.getD i z73 = q := by
  have hq := List.find?_some h
  have hm := List.mem_of_find?_eq_some h
  have ha : xs.any p = true := List.any_eq_true.2 ⟨q, hm, hq⟩
  refine ⟨xs.findIdx p, by rw [firstP, if_pos ha], List.findIdx_lt_length_of_exists ⟨q, hm, hq⟩, ?_⟩
  rw [List.find?_eq_some_iff_getElem] at h
  obtain ⟨_, i, hi, he, hj⟩ := h
  have : xs.findIdx p = i := by
    rw [List.findIdx_eq hi]
    exact ⟨by rw [he]; exact hq, fun j hji => by simpa using hj j hji⟩
  rw [this, List.getD_eq_getElem?_getD, List.getElem?_eq_getElem hi]
  exact he
theorem find_ext {α : Type} {p p' : α → Bool} : ∀ (l : List α), (∀ q ∈ l, p q = p' q) → l.find? p = l.find? p'
  | [], _ => rfl
  | q :: l, h => by
    have h1 := h q (by simp)
    have h2 := find_ext l (fun x hx => h x (by simp [hx]))
    cases hp : p q with
    | true => rw [List.find?_cons_of_pos hp, List.find?_cons_of_pos (by rw [← h1]; exact hp)]
    | false => rw [List.find?_cons_of_neg (by simp [hp]), List.find?_cons_of_neg (by rw [← h1]; simp [hp]), h2]
theorem steps_f {l : List Pr} (hl : l.length ≤ 1048576) (hr : FacesP l) (a : Int) : QA.impl_steps.f l a = some (nextZ l a) := by
  obtain ⟨s1, p1⟩ := ofP_face (f := fun x y => QA.impl_steps_1.f x y a) (p := fun q : Pr => q.f0 == a) (fun x y _ _ _ _ => rfl)
  obtain ⟨s2, _, p2⟩ := ofI_face (f := fun x => QA.impl_steps_2.f x a) (p := fun x => x == a) (fun x _ _ => rfl)
  have hd : okDomP (QA.clo_200 a) l = true := by
    rw [okDomP, Bool.or_eq_true]
    refine .inr (List.all_eq_true.2 fun q hq => ?_)
    have := hr q hq
    simp; omega
  have hi : slices_IndexFunc_impl_Pair_impl_Pair.f l (QA.clo_200 a) = some (firstP (QA.clo_200 a).pP l) := by
    unfold slices_IndexFunc_impl_Pair_impl_Pair.f
    rw [if_pos ⟨by omega, s1, hd⟩]
  have hf : l.find? (QA.clo_200 a).pP = l.find? (fun q => q.f0 == a) := find_ext l (fun q hq => by have := hr q hq; exact p1 q (by omega) (by omega) (by omega) (by omega))
  unfold QA.impl_steps.f
  rw [hi, Option.bind_some]
  cases hq : l.find? (fun q => q.f0 == a) with
  | none =>
    rw [fstP_none (hf.trans hq), if_pos (by omega)]
    unfold nextZ highZ
    rw [hq]
    first | done | rfl
  | some q =>
    obtain ⟨i, e1, e2, e3⟩ := fstP_some (hf.trans hq)
    have hm := hr q (List.mem_of_find?_eq_some hq)
    have hz : highZ l a = q.f1 := by unfold highZ; rw [hq]; rfl
    have hrd : rd_T73 l (i : Int) = q := by rw [← e3]; rfl
    have hb : impl_borders.f q.f1 = some (bordersL q.f1) := by unfold impl_borders.f; rw [if_pos trivial]
    have hdom : okDom (QA.clo_201 a) (bordersL q.f1) = true := by
      rw [okDom, Bool.or_eq_true]
      refine .inr (List.all_eq_true.2 fun y hy => ?_)
      have := border_range hm.2.1 hm.2.2 hy
      simp; omega
    have hdel : slices_DeleteFunc_int64_int64.f (bordersL q.f1) (QA.clo_201 a) = some ((bordersL q.f1).filter fun x => !(QA.clo_201 a).pI x) := by
      unfold slices_DeleteFunc_int64_int64.f
      rw [if_pos ⟨by have := borders_len6 (f := q.f1); omega, s2, hdom⟩]
    rw [e1, if_neg (by omega), if_pos (by omega), if_pos (by omega), hrd, hb, Option.bind_some, hdel, Option.bind_some]
    unfold nextZ
    rw [hz, if_neg (by omega)]
    refine congrArg some (List.filter_congr fun y hy => ?_)
    have := border_range hm.2.1 hm.2.2 hy
    exact congrArg (!·) (p2 y (by omega) (by omega))
inductive Rch (l : List Pr) : Int → Int → Prop
  | one {x y : Int} : y ∈ nextZ l x → Rch l x y
  | more {x y z : Int} : y ∈ nextZ l x → Rch l y z → Rch l x z
theorem Rch.snoc {l : List Pr} {x y z : Int} (h : Rch l x y) (hz : z ∈ nextZ l y) : Rch l x z := by
  induction h with
  | one h => exact .more h (.one hz)
  | more h _ ih => exact .more h (ih hz)
theorem Rch.trans {l : List Pr} {x y z : Int} (h : Rch l x y) (k : Rch l y z) : Rch l x z := by
  induction h with
  | one h => exact .more h k
  | more h _ ih => exact .more h (ih k)
theorem Rch.range {l : List Pr} (hr : FacesP l) {x y : Int} (h : Rch l x y) : 1 ≤ y ∧ y ≤ 63 := by
  induction h with
  | one h => exact nextZ_range hr h
  | more _ _ ih => exact ih
theorem nodup_len : ∀ (n : Nat) (L : List Int), L.Nodup → (∀ x ∈ L, 1 ≤ x ∧ x ≤ (n : Int)) → L.length ≤ n := by
  intro n
  induction n with
  | zero =>
    intro L _ h
    cases L with
    | nil => simp
    | cons x L => have := h x (by simp); omega
  | succ n ih =>
    intro L hn h
    by_cases hm : ((n + 1 : Nat) : Int) ∈ L
    · have h1 := List.length_erase_of_mem hm
      have h2 := ih (L.erase ((n + 1 : Nat) : Int)) (hn.erase _) (fun x hx => by
        have hx' := (List.Nodup.mem_erase_iff hn).1 hx
        have := h x hx'.2
        have := hx'.1
        omega)
      omega
    · have := ih L hn (fun x hx => by
        have h1 := h x hx
        have : x ≠ ((n + 1 : Nat) : Int) := fun e => hm (e ▸ hx)
        omega)
      omega
def OkM (M : List (Int × Bool)) : Prop := (M.map (·.1)).Nodup ∧ ∀ p ∈ M, p.2 = true ∧ 1 ≤ p.1 ∧ p.1 ≤ 63
theorem OkM.len {M : List (Int × Bool)} (h : OkM M) : M.length ≤ 63 := by
  have := nodup_len 63 (M.map (·.1)) h.1 (fun x hx => by
    obtain ⟨p, hp, rfl⟩ := List.mem_map.1 hx
    have := h.2 p hp
    omega)
  simpa using this
theorem getM_false {M : List (Int × Bool)} (h0 : OkM M) {x : Int} (hx : ¬ getM M x = true) : x ∉ M.map (·.1) := by
  have h := h0.2
  clear h0
  induction M with
  | nil => simp
  | cons p M ih =>
    simp only [getM] at hx
    by_cases he : x = p.1
    · rw [if_pos he] at hx
      exact absurd (h p (by simp)).1 hx
    · rw [if_neg he] at hx
      have := ih hx (fun q hq => h q (by simp [hq]))
      simp only [List.map_cons, List.mem_cons]
      exact fun hh => hh.elim he this
theorem putM_new {M : List (Int × Bool)} {x : Int} (h : x ∉ M.map (·.1)) : putM M x true = M ++ [(x, true)] := by
  induction M with
  | nil => rfl
  | cons p M ih =>
    simp only [List.map_cons, List.mem_cons, not_or] at h
    simp only [putM, if_neg h.1, ih h.2, List.cons_append]
theorem okM_put {M : List (Int × Bool)} (h : OkM M) {x : Int} (hx : ¬ getM M x = true) (hr : 1 ≤ x ∧ x ≤ 63) : OkM (putM M x true) := by
  have hn := getM_false h hx
  rw [putM_new hn]
  refine ⟨?_, fun p hp => ?_⟩
  · rw [List.map_append, List.nodup_append]
    refine ⟨h.1, by simp, fun a ha b hb e => ?_⟩
    simp only [List.map_cons, List.map_nil, List.mem_singleton] at hb
    subst hb
    exact hn (e ▸ ha)
  · rcases List.mem_append.1 hp with hp | hp
    · exact h.2 p hp
    · obtain rfl := List.mem_singleton.1 hp
      exact ⟨rfl, hr⟩
theorem fold_spec : ∀ (fs : List Int) (M : List (Int × Bool)) (qs : List Int), OkM M → (∀ y ∈ fs, 1 ≤ y ∧ y ≤ 63) →
    OkM (fs.foldl stepM (M, qs)).1 ∧ (∀ y, getM (fs.foldl stepM (M, qs)).1 y = true ↔ getM M y = true ∨ y ∈ fs) ∧
    ∃ new, (fs.foldl stepM (M, qs)).2 = qs ++ new ∧ (fs.foldl stepM (M, qs)).1.length = M.length + new.length ∧ (∀ y ∈ new, y ∈ fs) ∧ (∀ y ∈ fs, getM M y = true ∨ y ∈ new)
  | [], M, qs, h, _ => ⟨h, fun y => by simp, [], by simp, by simp, by simp, by simp⟩
  | f :: fs, M, qs, h, hr => by
    rw [List.foldl_cons]
    by_cases hg : getM M f = true
    · rw [show stepM (M, qs) f = (M, qs) by unfold stepM; rw [if_pos hg]]
      obtain ⟨a, b, new, c, d, e, g⟩ := fold_spec fs M qs h (fun y hy => hr y (by simp [hy]))
      refine ⟨a, fun y => ?_, new, c, d, fun y hy => by simp [e y hy], fun y hy => ?_⟩
      · rw [b y, List.mem_cons]
        constructor
        · rintro (h1 | h1)
          · exact .inl h1
          · exact .inr (.inr h1)
        · rintro (h1 | rfl | h1)
          · exact .inl h1
          · exact .inl hg
          · exact .inr h1
      · rcases List.mem_cons.1 hy with rfl | hy
        · exact .inl hg
        · exact g y hy
    · rw [show stepM (M, qs) f = (putM M f true, qs ++ [f]) by unfold stepM; rw [if_neg hg]]
      have hk := okM_put h hg (hr f (by simp))
      obtain ⟨a, b, new, c, d, e, g⟩ := fold_spec fs (putM M f true) (qs ++ [f]) hk (fun y hy => hr y (by simp [hy]))
      refine ⟨a, fun y => ?_, f :: new, by rw [c]; simp, by rw [d, putM_new (getM_false h hg)]; simp; omega, fun y hy => ?_, fun y hy => ?_⟩
      · rw [b y, getM_put, List.mem_cons]
        by_cases hy : y = f
        · simp [hy]
        · simp [hy]
      · rcases List.mem_cons.1 hy with rfl | hy
        · simp
        · simp [e y hy]
      · rcases List.mem_cons.1 hy with rfl | hy
        · exact .inr (by simp)
        · rcases g y hy with h1 | h1
          · rw [getM_put] at h1
            by_cases hyf : y = f
            · exact .inr (by simp [hyf])
            · rw [if_neg hyf] at h1
              exact .inl h1
          · exact .inr (by simp [h1])
theorem bfs_spec {l : List Pr} (hl : l.length ≤ 1048576) (hr : FacesP l) (a : Int) : ∀ (d : Nat) (M : List (Int × Bool)) (qs : List Int), OkM M → qs.length + 63 - M.length = d → (∀ y, getM M y = true → Rch l a y) → (∀ x ∈ qs, x = a ∨ getM M x = true) →
    (∀ x, x = a ∨ getM M x = true → x ∈ qs ∨ ∀ y ∈ nextZ l x, getM M y = true) → d ≤ 900 → ∀ k, d < k → ∃ M', bfs l k M qs = some M' ∧ ∀ y, getM M' y = true ↔ Rch l a y := by
  intro d
  induction d with
  | zero =>
    intro M qs hM hd h1 h2 h3 hb k hk
    obtain ⟨k, rfl⟩ : ∃ m, k = m + 1 := ⟨k - 1, by omega⟩
    have := hM.len
    obtain rfl : qs = [] := List.eq_nil_of_length_eq_zero (by omega)
    refine ⟨M, rfl, fun y => ⟨h1 y, fun hy => ?_⟩⟩
    have key : ∀ x z, Rch l x z → (x = a ∨ getM M x = true) → getM M z = true := by
      intro x z hx
      induction hx with
      | one hy => exact fun hx => ((h3 _ hx).resolve_left (by simp)) _ hy
      | more hy _ ih => exact fun hx => ih (.inr (((h3 _ hx).resolve_left (by simp)) _ hy))
    exact key a y hy (.inl rfl)
  | succ d ih =>
    intro M qs hM hd h1 h2 h3 hb k hk
    obtain ⟨k, rfl⟩ : ∃ m, k = m + 1 := ⟨k - 1, by omega⟩
    have hlen := hM.len
    cases qs with
    | nil =>
      refine ⟨M, rfl, fun y => ⟨h1 y, fun hy => ?_⟩⟩
      have key : ∀ x z, Rch l x z → (x = a ∨ getM M x = true) → getM M z = true := by
        intro x z hx
        induction hx with
        | one hy => exact fun hx => ((h3 _ hx).resolve_left (by simp)) _ hy
        | more hy _ ih => exact fun hx => ih (.inr (((h3 _ hx).resolve_left (by simp)) _ hy))
      exact key a y hy (.inl rfl)
    | cons x qs =>
      simp only [List.length_cons] at hd
      have hn := nextZ_len (l := l) (a := x)
      obtain ⟨f1, f2, new, f3, f4, f5, f6⟩ := fold_spec (nextZ l x) M (x :: qs) hM (fun y hy => nextZ_range hr hy)
      simp only [bfs]
      rw [if_pos (by omega), steps_f hl hr, Option.bind_some, if_pos (by omega)]
      have hlen' := f1.len
      refine ih _ _ f1 (by rw [f3, f4]; simp; omega) (fun y hy => ?_) (fun z hz => ?_) (fun z hz => ?_) (by omega) k (by omega)
      · rcases (f2 y).1 hy with h | h
        · exact h1 y h
        · rcases h2 x (by simp) with rfl | hx
          · exact .one h
          · exact (h1 x hx).snoc h
      · rw [f3] at hz
        simp only [List.cons_append, List.drop_succ_cons, List.drop_zero, List.mem_append] at hz
        rcases hz with hz | hz
        · rcases h2 z (by simp [hz]) with h | h
          · exact .inl h
          · exact .inr ((f2 z).2 (.inl h))
        · exact .inr ((f2 z).2 (.inr (f5 z hz)))
      · rw [f3]
        simp only [List.cons_append, List.drop_succ_cons, List.drop_zero, List.mem_append]
        have hold : (z = a ∨ getM M z = true) → (z ∈ qs ∨ z ∈ new) ∨ ∀ y ∈ nextZ l z, getM (List.foldl stepM (M, x :: qs) (nextZ l x)).fst y = true := by
          intro hz
          rcases h3 z hz with h | h
          · rcases List.mem_cons.1 h with rfl | h
            · exact .inr (fun y hy => (f2 y).2 (.inr hy))
            · exact .inl (.inl h)
          · exact .inr (fun y hy => (f2 y).2 (.inl (h y hy)))
        rcases hz with hz | hz
        · exact hold (.inl hz)
        · rcases (f2 z).1 hz with h | h
          · exact hold (.inr h)
          · rcases f6 z h with h' | h'
            · exact hold (.inr h')
            · exact .inl (.inr h')
theorem bfs_ok {l : List Pr} (hl : l.length ≤ 1048576) (hr : FacesP l) (a : Int) : ∃ M, bfs l 1000 [] [a] = some M ∧ ∀ y, getM M y = true ↔ Rch l a y :=
  bfs_spec hl hr a 64 [] [a] ⟨by simp, by simp⟩ (by simp) (fun y hy => by simp [getM] at hy) (fun x hx => .inl (by simpa using hx)) (fun x hx => .inl (by rcases hx with rfl | hx; simp; simp [getM] at hx)) (by simp) 1000 (by omega)
theorem okBfs_of {l : List Pr} (hl : l.length ≤ 1048576) (hr : FacesP l) : okBfs l = true := by
  unfold okBfs
  rw [Bool.and_eq_true]
  refine ⟨decide_eq_true hl, List.all_eq_true.2 fun q _ => ?_⟩
  obtain ⟨M, h, _⟩ := bfs_ok hl hr q.f0
  rw [h]; rfl
theorem loopB_iff {l : List Pr} (hl : l.length ≤ 1048576) (hr : FacesP l) (a : Int) : loopB l a = true ↔ Rch l a a := by
  obtain ⟨M, h, h2⟩ := bfs_ok hl hr a
  unfold loopB
  rw [h]
  exact h2 a
end Go.Proofs.Ytomdfjohnmikdaa.Pu
namespace Go.Proofs.Ytomdfjohnmikdaa.Pu
set_option linter.unusedVariables false
set_option linter.unusedSimpArgs false
open Go.RowKit Go.Proofs.Ytomdfjohnmikdaa.Kp Go.Proofs.Ytomdfjohnmikdaa.Ext Go.Proofs.Ytomdfjohnmikdaa.QS Go.Proofs.Ytomdfjohnmikdaa.Im Go.Proofs.YtomdfjohnmikdaaW.PrintWords Go.Proofs.YtomdfjohnmikdaaW.PrintLast Go.Proofs.YtomdfjohnmikdaaW.PrintMore
theorem succ64 {i : Nat} (h : i ≤ 4611686018427387904) : wrap64 ((i : Int) + 1) = ((i + 1 : Nat) : Int) := by rw [w64 (by omega) (by omega)]; omega
theorem rdP_at {l : List Pr} {i : Nat} (h : i < l.length) : rd_T73 l (i : Int) = l[i] := by unfold rd_T73; rw [List.getD_eq_getElem?_getD, Int.toNat_natCast, List.getElem?_eq_getElem h]; rfl
theorem high_loop (l : List Pr) (a : Int) (hl : l.length ≤ 1048576) : ∀ d (i : Nat), l.length - i = d → i ≤ l.length → Ev (fun k => spec_l02High.l0 k l a i) (highZ (l.drop i) a) := by
  intro d
  induction d with
  | zero =>
    intro i hd hi
    rw [List.drop_eq_nil_of_le (by omega)]
    refine Ev.step (f := fun k => some 0) (fun k => ?_) (Ev.now _)
    simp only [spec_l02High.l0]; rw [if_neg (by omega)]
  | succ d ih =>
    intro i hd hi
    have hi' : i < l.length := by omega
    rw [List.drop_eq_getElem_cons hi']
    by_cases h : l[i].f0 = a
    · refine Ev.step (f := fun k => some l[i].f1) (fun k => ?_) (by unfold highZ; rw [List.find?_cons_of_pos (by simp [h])]; exact Ev.now _)
      simp only [spec_l02High.l0]; rw [if_pos (by omega), if_pos (by omega), rdP_at hi', if_pos h]
    · refine Ev.step (fun k => ?_) (by have := ih (i + 1) (by omega) (by omega); unfold highZ at this ⊢; rw [List.find?_cons_of_neg (by simp [h])]; exact this)
      simp only [spec_l02High.l0]; rw [if_pos (by omega), if_pos (by omega), rdP_at hi', if_neg h, succ64 (by omega)]
theorem ev_high {l : List Pr} (hl : l.length ≤ 1048576) (a : Int) : Ev (fun k => spec_l02High.f k l a) (highZ l a) := by
  unfold spec_l02High.f
  exact high_loop l a hl _ 0 rfl (Nat.zero_le _)
theorem next_loop (a : Int) (b : List Int) (hb : b.length ≤ 1000) : ∀ d (i : Nat) (acc : List Int), b.length - i = d → i ≤ b.length → acc.length ≤ i → Ev (fun k => spec_l02Next.l0 k a acc b i) (acc ++ (b.drop i).filter fun y => !(y == a)) := by
  intro d
  induction d with
  | zero =>
    intro i acc hd hi ha
    rw [List.drop_eq_nil_of_le (by omega)]
    refine Ev.step (f := fun k => some acc) (fun k => ?_) (by simpa using Ev.now acc)
    simp only [spec_l02Next.l0]; rw [if_neg (by omega)]
  | succ d ih =>
    intro i acc hd hi ha
    have hi' : i < b.length := by omega
    rw [List.drop_eq_getElem_cons hi', List.filter_cons]
    by_cases h : b[i] = a
    · refine Ev.step (f := fun k => spec_l02Next.l0 k a acc b ((i + 1 : Nat) : Int)) (fun k => ?_) (by have := ih (i + 1) acc (by omega) (by omega) (by omega); rw [h]; simpa using this)
      simp only [spec_l02Next.l0]; rw [if_pos (by omega), if_pos (by omega), rd_at hi', if_pos h, succ64 (by omega)]
    · refine Ev.step (f := fun k => spec_l02Next.l0 k a (acc ++ [b[i]]) b ((i + 1 : Nat) : Int)) (fun k => ?_) (by have := ih (i + 1) (acc ++ [b[i]]) (by omega) (by omega) (by simp; omega); simpa [h] using this)
      simp only [spec_l02Next.l0]; rw [if_pos (by omega), if_pos (by omega), rd_at hi', if_neg h, if_pos (by omega), succ64 (by omega)]
theorem ev_next {l : List Pr} (hl : l.length ≤ 1048576) (hr : FacesP l) (a : Int) : Ev (fun k => spec_l02Next.f k l a) (nextZ l a) := by
  unfold spec_l02Next.f nextZ
  refine Ev.bind (ev_high hl a) ?_
  simp only [Option.bind_some]
  by_cases h : highZ l a = 0
  · simp only [if_pos h]; exact Ev.now _
  · simp only [if_neg h]
    have hz := (highZ_range hr a).resolve_left h
    refine Ev.bind (ev_below hz.1 hz.2) ?_
    have := next_loop a (bordersL (highZ l a)) (by have := borders_len6 (f := highZ l a); omega) _ 0 [] rfl (Nat.zero_le _) (by simp)
    simpa using this
/-- The reference's stack. -/
theorem reached_loop {l : List Pr} (hl : l.length ≤ 1048576) (hr : FacesP l) (a : Int) : ∀ (d : Nat) (B : List Bool) (st : List Int), B.length = 64 → st.length + 7 * B.count false = d → d ≤ 1000 → (∀ x ∈ st, 1 ≤ x ∧ x ≤ 63) →
    (∀ y : Nat, B[y]?.getD false = true → Rch l a y) → (∀ x ∈ st, Rch l a x) → (∀ x : Nat, B[x]?.getD false = true → ∀ y ∈ nextZ l x, B[y.toNat]?.getD false = true ∨ y ∈ st) → (∀ y ∈ nextZ l a, B[y.toNat]?.getD false = true ∨ y ∈ st) →
    ∃ B' : List Bool, Ev (fun k => spec_l02Reached.l0 k l B st) B' ∧ B'.length = 64 ∧ ∀ y : Int, 1 ≤ y → y ≤ 63 → (B'[y.toNat]?.getD false = true ↔ Rch l a y) := by
  intro d
  induction d using Nat.strongRecOn with
  | _ d ih =>
    intro B st hB hd hdb hst h1 h2 h3 h4
    rcases List.eq_nil_or_concat st with rfl | ⟨rest, x, rfl⟩
    · refine ⟨B, Ev.step (f := fun k => some B) (fun k => ?_) (Ev.now _), hB, fun y hy1 hy2 => ⟨fun h => by have := h1 y.toNat h; rwa [Int.toNat_of_nonneg (by omega)] at this, fun hy => ?_⟩⟩
      · simp only [spec_l02Reached.l0]; rw [if_neg (by simp)]
      · have key : ∀ x z, Rch l x z → (∀ y ∈ nextZ l x, B[y.toNat]?.getD false = true) → B[z.toNat]?.getD false = true := by
          intro x z hx
          induction hx with
          | one hy => exact fun hx => hx _ hy
          | more hy hyz ih =>
            intro hx
            have hm := hx _ hy
            refine ih (fun u hu => ?_)
            have hyr := nextZ_range hr hy
            have := h3 _ hm u (by rw [Int.toNat_of_nonneg (by omega)]; exact hu)
            exact this.resolve_right (by simp)
        exact key a y hy (fun u hu => (h4 u hu).resolve_right (by simp))
    · rw [List.concat_eq_append] at *
      have hx := hst x (by simp)
      have hlen : (rest ++ [x]).length = rest.length + 1 := by simp
      have hw : wrap64 (((rest ++ [x]).length : Int) - 1) = (rest.length : Int) := by rw [w64 (by omega) (by omega)]; omega
      have htk : (rest ++ [x]).take ((rest.length : Int)).toNat = rest := by simp
      have hrd : rd (rest ++ [x]) (rest.length : Int) = x := by rw [rd_at (by simp)]; simp
      obtain ⟨m, rfl⟩ := Int.eq_ofNat_of_zero_le (show 0 ≤ x by omega)
      have hrb : rdOf false B (m : Int) = B[m]?.getD false := by simp [rdOf, List.getD_eq_getElem?_getD]
      have hmB : m < B.length := by omega
      by_cases hm : B[m]?.getD false = true
      · obtain ⟨B', e1, e2, e3⟩ := ih (d - 1) (by omega) B rest hB (by omega) (by omega) (fun y hy => hst y (by simp [hy])) h1 (fun y hy => h2 y (by simp [hy]))
          (fun y hy z hz => by
            rcases h3 y hy z hz with h | h
            · exact .inl h
            · rcases List.mem_append.1 h with h | h
              · exact .inr h
              · obtain rfl := List.mem_singleton.1 h
                exact .inl (by simpa using hm))
          (fun z hz => by
            rcases h4 z hz with h | h
            · exact .inl h
            · rcases List.mem_append.1 h with h | h
              · exact .inr h
              · obtain rfl := List.mem_singleton.1 h
                exact .inl (by simpa using hm))
        refine ⟨B', Ev.step (fun k => ?_) e1, e2, e3⟩
        simp only [spec_l02Reached.l0]
        rw [if_pos (by omega), hw, if_pos (by omega), if_pos (by omega), if_pos (by omega), htk, Option.bind_some, hrd, if_pos (by omega), if_pos (by omega), hrb, if_pos hm]
      · have hmf : B[m]?.getD false = false := by simpa using hm
        have hm2 : B[m] = false := by rw [List.getElem?_eq_getElem hmB] at hmf; simpa using hmf
        have hcnt : (B.set m true).count false + 1 = B.count false := by
          rw [List.count_set hmB]
          have : 0 < B.count false := List.count_pos_iff.2 (by rw [← hm2]; exact List.getElem_mem hmB)
          simp [hm2]
          omega
        have hn := nextZ_len (l := l) (a := (m : Int))
        have hset : ∀ y : Nat, ((B.set m true)[y]?.getD false = true) ↔ (y = m ∨ B[y]?.getD false = true) := by
          intro y
          rw [List.getElem?_set]
          by_cases hy : m = y
          · subst hy; simp [hmB]
          · rw [if_neg hy]
            constructor
            · exact fun h => .inr h
            · rintro (h | h)
              · exact absurd h.symm hy
              · exact h
        have hnew : ∀ y ∈ nextZ l (m : Int), y ∈ rest ++ nextZ l (m : Int) := fun y hy => by simp [hy]
        obtain ⟨B', e1, e2, e3⟩ := ih (rest.length + (nextZ l (m : Int)).length + 7 * (B.set m true).count false) (by simp at hd; omega) (B.set m true) (rest ++ nextZ l (m : Int)) (by simpa using hB) (by simp) (by simp at hd; omega)
          (fun y hy => by
            rcases List.mem_append.1 hy with h | h
            · exact hst y (by simp [h])
            · exact nextZ_range hr h)
          (fun y hy => by
            rcases (hset y).1 hy with rfl | h
            · exact h2 _ (by simp)
            · exact h1 y h)
          (fun y hy => by
            rcases List.mem_append.1 hy with h | h
            · exact h2 y (by simp [h])
            · exact (h2 (m : Int) (by simp)).snoc h)
          (fun y hy z hz => by
            rcases (hset y).1 hy with rfl | h
            · exact .inr (by simp [hz])
            · rcases h3 y h z hz with h | h
              · exact .inl ((hset _).2 (.inr h))
              · rcases List.mem_append.1 h with h | h
                · exact .inr (by simp [h])
                · obtain rfl := List.mem_singleton.1 h
                  exact .inl ((hset _).2 (.inl (by simp))))
          (fun z hz => by
            rcases h4 z hz with h | h
            · exact .inl ((hset _).2 (.inr h))
            · rcases List.mem_append.1 h with h | h
              · exact .inr (by simp [h])
              · obtain rfl := List.mem_singleton.1 h
                exact .inl ((hset _).2 (.inl (by simp))))
        refine ⟨B', Ev.step (f := fun k => (spec_l02Next.f k l (m : Int)).bind fun t => if rest.length + t.length < 17592186044416 then spec_l02Reached.l0 k l (B.set m true) (rest ++ t) else none) (fun k => ?_) (Ev.bind (ev_next hl hr _) ?_), e2, e3⟩
        · simp only [spec_l02Reached.l0]
          rw [if_pos (by omega), hw, if_pos (by omega), if_pos (by omega), if_pos (by omega), htk, Option.bind_some, hrd, if_pos (by omega), if_pos (by omega), hrb, if_neg hm]
          rfl
        · simp only [if_pos (show rest.length + (nextZ l (m : Int)).length < 17592186044416 by simp at hd; omega)]
          exact e1
theorem ev_reached {l : List Pr} (hl : l.length ≤ 1048576) (hr : FacesP l) (a : Int) : ∃ B : List Bool, Ev (fun k => spec_l02Reached.f k l a) B ∧ B.length = 64 ∧ ∀ y : Int, 1 ≤ y → y ≤ 63 → (B[y.toNat]?.getD false = true ↔ Rch l a y) := by
  have hn := nextZ_len (l := l) (a := a)
  have hf : ∀ y : Nat, ((List.replicate 64 false)[y]?.getD false = true) → False := fun y h => by
    rw [List.getElem?_replicate] at h
    split at h <;> simp at h
  obtain ⟨B, e1, e2, e3⟩ := reached_loop hl hr a _ (List.replicate 64 false) (nextZ l a) (by simp) rfl (by simp [List.count_replicate]; omega) (fun x hx => nextZ_range hr hx) (fun y hy => (hf y hy).elim) (fun x hx => .one hx) (fun y hy => (hf y hy).elim) (fun y hy => .inr hy)
  refine ⟨B, ?_, e2, e3⟩
  unfold spec_l02Reached.f
  simp only [show (64 : Nat) ≤ 281474976710656 from by decide, if_true]
  exact Ev.bind (ev_next hl hr a) e1
theorem acyc_loop {l : List Pr} (hl : l.length ≤ 1048576) (hr : FacesP l) : ∀ d (i : Nat), l.length - i = d → i ≤ l.length → Ev (fun k => spec_l02Acyclic.l0 k l i) ((l.drop i).all fun q => !loopB l q.f0) := by
  intro d
  induction d with
  | zero =>
    intro i hd hi
    rw [List.drop_eq_nil_of_le (by omega)]
    refine Ev.step (f := fun k => some true) (fun k => ?_) (Ev.now _)
    simp only [spec_l02Acyclic.l0]; rw [if_neg (by omega)]
  | succ d ih =>
    intro i hd hi
    have hi' : i < l.length := by omega
    have hq := hr _ (List.getElem_mem hi')
    obtain ⟨B, e1, e2, e3⟩ := ev_reached hl hr l[i].f0
    have e4 := e3 l[i].f0 (by omega) (by omega)
    rw [← loopB_iff hl hr] at e4
    rw [List.drop_eq_getElem_cons hi', List.all_cons]
    have hrb : rdOf false B l[i].f0 = loopB l l[i].f0 := by
      rw [show rdOf false B l[i].f0 = B[l[i].f0.toNat]?.getD false from by simp [rdOf, List.getD_eq_getElem?_getD], Bool.eq_iff_iff]
      exact e4
    refine Ev.step (f := fun k => (spec_l02Reached.f k l l[i].f0).bind fun t => if 0 ≤ l[i].f0 then if l[i].f0 < (t.length : Int) then if rdOf false t l[i].f0 = true then some false else spec_l02Acyclic.l0 k l ((i + 1 : Nat) : Int) else none else none) (fun k => ?_) (Ev.bind e1 ?_)
    · simp only [spec_l02Acyclic.l0]; rw [if_pos (by omega), if_pos (by omega), rdP_at hi', succ64 (by omega)]
    · simp only [if_pos (show 0 ≤ l[i].f0 by omega), if_pos (show l[i].f0 < (B.length : Int) by omega), hrb]
      cases loopB l l[i].f0 with
      | true => simp only [if_true]; exact Ev.now _
      | false => simp only [Bool.false_eq_true, if_false, Bool.not_false, Bool.true_and]; exact ih (i + 1) (by omega) (by omega)
theorem ev_acyclic {l : List Pr} (hl : l.length ≤ 1048576) (hr : FacesP l) : Ev (fun k => spec_l02Acyclic.f k l) (acycB l) := by
  unfold spec_l02Acyclic.f acycB
  exact acyc_loop hl hr _ 0 rfl (Nat.zero_le _)
end Go.Proofs.Ytomdfjohnmikdaa.Pu
namespace Go.Proofs.Ytomdfjohnmikdaa.Pu
set_option linter.unusedVariables false
set_option linter.unusedSimpArgs false
open Go.RowKit Go.Proofs.Ytomdfjohnmikdaa.Kp Go.Proofs.Ytomdfjohnmikdaa.Ext Go.Proofs.Ytomdfjohnmikdaa.QS Go.Proofs.Ytomdfjohnmikdaa.Im Go.Proofs.YtomdfjohnmikdaaW.PrintWords Go.Proofs.YtomdfjohnmikdaaW.PrintLast Go.Proofs.YtomdfjohnmikdaaW.PrintMore
theorem inAnd_all : ((List.range 64).all fun f => (List.range 64).all fun g => (Go.bits .andNot .i64 (f : Int) (g : Int) == 0) == decide (Go.bits .and .i64 (f : Int) (g : Int) = (f : Int))) = true := by decide +kernel
theorem inAnd {f g : Int} (h0 : 0 ≤ f) (h1 : f ≤ 63) (g0 : 0 ≤ g) (g1 : g ≤ 63) : (Go.bits .andNot .i64 f g == 0) = decide (Go.bits .and .i64 f g = f) := by
  obtain ⟨m, rfl⟩ := Int.eq_ofNat_of_zero_le h0
  obtain ⟨k, rfl⟩ := Int.eq_ofNat_of_zero_le g0
  exact eq_of_beq (List.all_eq_true.1 (List.all_eq_true.1 inAnd_all m (List.mem_range.2 (by omega))) k (List.mem_range.2 (by omega)))
theorem ev_pair {n : Int} {xs : List Int} (hi : isC n xs = true) (p : Pr) : Ev (fun k => spec_l02Pair.f k n xs p.f0 p.f1) (pairB xs p) := by
  have hs := isC_small hi
  have r := isC_63 hi
  have hm : xs.length ≤ maxLen := by unfold maxLen; omega
  unfold spec_l02Pair.f pairB
  refine Ev.bind (ev_has hm n p.f0) ?_
  by_cases h0 : p.f0 ∈ xs
  · simp only [h0, decide_true, if_true, Bool.true_and]
    refine Ev.bind (ev_has hm n p.f1) ?_
    by_cases h1 : p.f1 ∈ xs
    · have a0 := r _ h0
      have a1 := r _ h1
      simp only [h1, decide_true, if_true, Bool.true_and]
      rw [inAnd (by omega) (by omega) (by omega) (by omega)]
      by_cases h2 : Go.bits .and .i64 p.f0 p.f1 = p.f0
      · simp only [h2, if_true, decide_true, Bool.true_and]
        refine Ev.bind (ev_ones (by omega) (by omega)) ?_
        refine Ev.bind (ev_ones (by omega) (by omega)) ?_
        have hv := verts_len p.f0
        rw [w64 (x := onesZ p.f0 + 1) (by unfold onesZ; omega) (by unfold onesZ; omega)]
        exact Ev.now _
      · simp only [h2, if_false, decide_false, Bool.false_and]
        exact Ev.now _
    · simp only [h1, decide_false, Bool.false_eq_true, if_false, Bool.false_and]
      exact Ev.now _
  · simp only [h0, decide_false, Bool.false_eq_true, if_false, Bool.false_and]
    exact Ev.now _
theorem less_f (p q : Pr) : spec_l02Less.f p.f0 p.f1 q.f0 q.f1 = some (decide (cmpP p q < 0)) := by
  unfold spec_l02Less.f cmpP cmpI
  by_cases h1 : p.f0 < q.f0
  · rw [if_pos h1]; simp [h1]
  · rw [if_neg h1]
    by_cases h2 : p.f0 = q.f0
    · rw [if_pos h2]
      by_cases h3 : p.f1 < q.f1
      · simp [h2, h3]
      · by_cases h4 : p.f1 > q.f1
        · simp [h2, h3, h4]
        · simp [h2, h3, h4]
    · rw [if_neg h2]
      have : p.f0 > q.f0 := by omega
      simp [h1, this]
theorem is2_l1 (n : Int) (xs : List Int) (l : List Pr) (hl : l.length ≤ 1048576) {i : Nat} (hi : i < l.length) (R : Bool) (hR : Ev (fun k => spec_l02Is.l0 k l ((i + 1 : Nat) : Int) n xs) R) :
    ∀ d (j : Nat), i - j = d → j ≤ i → Ev (fun k => spec_l02Is.l1 k l i j n xs) (!(((l.take i).drop j).any fun q => hasF l[i].f0 q || hasF l[i].f1 q) && R) := by
  intro d
  induction d with
  | zero =>
    intro j hd hj
    rw [List.drop_eq_nil_of_le (by rw [List.length_take]; omega)]
    refine Ev.step (f := fun k => spec_l02Is.l0 k l ((i + 1 : Nat) : Int) n xs) (fun k => ?_) (by simpa using hR)
    simp only [spec_l02Is.l1]; rw [if_neg (by omega), succ64 (by omega)]
  | succ d ih =>
    intro j hd hj
    have hj' : j < l.length := by omega
    have hjt : j < (l.take i).length := by rw [List.length_take]; omega
    rw [List.drop_eq_getElem_cons hjt, List.any_cons, List.getElem_take]
    cases hq : (hasF l[i].f0 l[j] || hasF l[i].f1 l[j]) with
    | true =>
      refine Ev.step (f := fun k => some false) (fun k => ?_) (by simpa using Ev.now false)
      simp only [spec_l02Is.l1]
      rw [if_pos (by omega), if_pos (by omega), if_pos (by omega), if_pos (by omega), if_pos (by omega), rdP_at hi, rdP_at hj']
      simp only [hasF, Bool.or_eq_true, beq_iff_eq] at hq
      by_cases h1 : l[i].f0 = l[j].f0
      · rw [if_pos h1]
      · rw [if_neg h1]
        by_cases h2 : l[i].f0 = l[j].f1
        · rw [if_pos h2]
        · rw [if_neg h2]
          by_cases h3 : l[i].f1 = l[j].f0
          · rw [if_pos h3]
          · rw [if_neg h3, if_pos (by simpa [h1, h2, h3] using hq)]
    | false =>
      refine Ev.step (f := fun k => spec_l02Is.l1 k l i ((j + 1 : Nat) : Int) n xs) (fun k => ?_) (by have := ih (j + 1) (by omega) (by omega); simpa using this)
      simp only [spec_l02Is.l1]
      rw [if_pos (by omega), if_pos (by omega), if_pos (by omega), if_pos (by omega), if_pos (by omega), rdP_at hi, rdP_at hj', succ64 (by omega)]
      simp only [hasF, Bool.or_eq_false_iff, beq_eq_false_iff_ne] at hq
      rw [if_neg hq.1.1, if_neg hq.1.2, if_neg hq.2.1, if_neg hq.2.2]
theorem any_or {α : Type} (p q : α → Bool) (l : List α) : (l.any fun x => p x || q x) = (l.any p || l.any q) := by
  induction l with
  | nil => rfl
  | cons a l ih => simp only [List.any_cons, ih]; cases p a <;> cases q a <;> cases l.any p <;> rfl
theorem is2_loop {n : Int} {xs : List Int} (hi : isC n xs = true) {l : List Pr} (hl : l.length ≤ 1048576) : ∀ d (i : Nat), l.length - i = d → i ≤ l.length → Ev (fun k => spec_l02Is.l0 k l i n xs) ((List.range' i d).all (okPairAt xs l)) := by
  intro d
  induction d with
  | zero =>
    intro i hd hi'
    refine Ev.step (f := fun k => some true) (fun k => ?_) (Ev.now _)
    simp only [spec_l02Is.l0]; rw [if_neg (by omega)]
  | succ d ih =>
    intro i hd hi'
    have hlt : i < l.length := by omega
    have hR := ih (i + 1) (by omega) (by omega)
    have hgd : l.getD i z73 = l[i] := by rw [List.getD_eq_getElem?_getD, List.getElem?_eq_getElem hlt]; rfl
    rw [List.range'_succ, List.all_cons]
    have hj0 := is2_l1 n xs l hl hlt _ hR _ 0 rfl (Nat.zero_le _)
    rw [List.drop_zero, any_or] at hj0
    have hno : Ev (fun k => spec_l02Is.j1 k l i true n xs) false := Ev.step (f := fun k => some false) (fun k => by simp only [spec_l02Is.j1, if_true]) (Ev.now _)
    have hyes : Ev (fun k => spec_l02Is.j1 k l i false n xs) (!((l.take i).any (hasF l[i].f0) || (l.take i).any (hasF l[i].f1)) && (List.range' (i + 1) d).all (okPairAt xs l)) := Ev.step (f := fun k => spec_l02Is.l1 k l i ((0 : Nat) : Int) n xs) (fun k => by simp only [spec_l02Is.j1, Bool.false_eq_true, if_false]; rfl) hj0
    have hrd : rd_T73 l (i : Int) = l[i] := rdP_at hlt
    refine Ev.step (f := fun k => (spec_l02Pair.f k n xs l[i].f0 l[i].f1).bind fun t => (if t = true then (if (i : Int) > 0 then (if 0 ≤ (wrap64 ((i : Int) - 1)) then (if (wrap64 ((i : Int) - 1)) < (l.length : Int) then ((spec_l02Less.f ((rd_T73 l (wrap64 ((i : Int) - 1))).f0) ((rd_T73 l (wrap64 ((i : Int) - 1))).f1) l[i].f0 l[i].f1).bind fun t577 => (spec_l02Is.j1 k l i (!t577) n xs)) else (none)) else (none)) else (spec_l02Is.j1 k l i false n xs)) else (spec_l02Is.j1 k l i true n xs))) (fun k => ?_) (Ev.bind (ev_pair hi l[i]) ?_)
    · simp only [spec_l02Is.l0]
      rw [if_pos (by omega), if_pos (by omega), hrd]
    · clear hj0 hR ih
      generalize (List.range' (i + 1) d).all (okPairAt xs l) = G at hyes ⊢
      unfold okPairAt
      rw [hgd]
      cases hp : pairB xs l[i] with
      | false => simp only [Bool.false_eq_true, if_false, Bool.false_and]; exact hno
      | true =>
        simp only [if_true, Bool.true_and]
        rcases i with _ | m
        · simp only [show ¬ (((0 : Nat) : Int) > 0) by omega, if_false]
          simpa using hyes
        · have hm : m < l.length := by omega
          have hw : wrap64 (((m + 1 : Nat) : Int) - 1) = (m : Int) := by rw [w64 (by omega) (by omega)]; omega
          have hgm : l.getD m z73 = l[m] := by rw [List.getD_eq_getElem?_getD, List.getElem?_eq_getElem hm]; rfl
          simp only [show (((m + 1 : Nat) : Int) > 0) by omega, if_true, hw, show (0 : Int) ≤ (m : Int) by omega, show (m : Int) < (l.length : Int) by omega, rdP_at hm, less_f, Option.bind_some, Nat.add_sub_cancel, hgm]
          by_cases hc : cmpP l[m] l[m + 1] < 0
          · simp only [hc, decide_true, Bool.not_true]
            simpa [Bool.and_assoc] using hyes
          · simp only [hc, decide_false, Bool.not_false]
            simpa using hno
theorem ev_is2 {n : Int} {xs : List Int} (hi : isC n xs = true) {l : List Pr} (hl : l.length ≤ 1048576) : Ev (fun k => spec_l02Is.f k n xs l) (pairingB xs l) := by
  unfold spec_l02Is.f pairingB
  rw [List.range_eq_range']
  exact is2_loop hi hl _ 0 rfl (Nat.zero_le _)
theorem cmpP_mem {n : Int} {xs : List Int} {l : List Pr} (h : pairingB xs l = true) : ∀ q ∈ l, q.f0 ∈ xs ∧ q.f1 ∈ xs := by
  intro q hq
  obtain ⟨i, hi, rfl⟩ := List.mem_iff_getElem.1 hq
  have h1 := List.all_eq_true.1 h i (List.mem_range.2 hi)
  unfold okPairAt at h1
  rw [show l.getD i z73 = l[i] by rw [List.getD_eq_getElem?_getD, List.getElem?_eq_getElem hi]; rfl] at h1
  have h2 := (Bool.and_eq_true _ _ ▸ h1).1
  unfold pairB at h2
  simp only [Bool.and_eq_true, decide_eq_true_eq] at h2
  exact ⟨h2.1, h2.2.1⟩
theorem facesP_of {n : Int} {xs : List Int} (hi : isC n xs = true) {l : List Pr} (h : pairingB xs l = true) : FacesP l := fun q hq => by
  have h1 := cmpP_mem (n := n) h q hq
  have r := isC_63 hi
  exact ⟨r _ h1.1, r _ h1.2⟩
def pcode (n : Int) (xs : List Int) (l : List Pr) : Int := if isC n xs then (if pairingB xs l then 0 else 2) else 1
theorem ev_pcode (n : Int) {xs : List Int} (hx : xs.length ≤ 1048576) {l : List Pr} (hl : l.length ≤ 1048576) : Ev (fun k => spec_l02Code.f k n xs l []) (pcode n xs l) := by
  unfold spec_l02Code.f pcode
  refine Ev.bind (ev_is n (by unfold maxLen; omega)) ?_
  cases hi : isC n xs with
  | false => exact Ev.now _
  | true =>
    simp only [if_true]
    refine Ev.bind (ev_is2 hi hl) ?_
    cases pairingB xs l with
    | false => exact Ev.now _
    | true =>
      simp only [if_true]
      exact Ev.step (f := fun _ => some 0) (fun k => by simp [spec_l02Code.l0]) (Ev.now _)
def critP (l : List Pr) (f : Int) : Bool := !l.any fun p => p.f0 == f || p.f1 == f
def critL (xs : List Int) (l : List Pr) : List Int := xs.filter (critP l)
theorem crit_l1 (n : Int) (xs : List Int) (l : List Pr) (hl : l.length ≤ 1048576) (hx : xs.length ≤ 1048576) {i : Nat} (hi : i < xs.length) (acc : List Int) (ha : acc.length ≤ i) (R : List Int)
    (h1 : Ev (fun k => spec_l02Critical.l0 k l (acc ++ [xs[i]]) ((i + 1 : Nat) : Int) n xs) R ∧ critP l xs[i] = true ∨ Ev (fun k => spec_l02Critical.l0 k l acc ((i + 1 : Nat) : Int) n xs) R ∧ critP l xs[i] = false) :
    ∀ d (j : Nat) (b : Bool), l.length - j = d → j ≤ l.length → (b && critP (l.drop j) xs[i]) = critP l xs[i] → Ev (fun k => spec_l02Critical.l1 k l acc i b j n xs) R := by
  intro d
  induction d with
  | zero =>
    intro j b hd hj hb
    rw [List.drop_eq_nil_of_le (by omega)] at hb
    simp only [critP, List.any_nil, Bool.not_false, Bool.and_true] at hb
    rcases h1 with ⟨h1, h2⟩ | ⟨h1, h2⟩
    · have hbt : b = true := by rw [hb]; exact h2
      subst hbt
      refine Ev.step (fun k => ?_) h1
      simp only [spec_l02Critical.l1]
      rw [if_neg (by omega), if_pos trivial, if_pos (by omega), if_pos (by omega), if_pos (by omega), rd_at hi, succ64 (by omega)]
    · have hbf : b = false := by rw [hb]; exact h2
      subst hbf
      refine Ev.step (fun k => ?_) h1
      simp only [spec_l02Critical.l1]
      rw [if_neg (by omega), if_neg (by simp), succ64 (by omega)]
  | succ d ih =>
    intro j b hd hj hb
    have hj' : j < l.length := by omega
    rw [List.drop_eq_getElem_cons hj'] at hb
    simp only [critP, List.any_cons, Bool.not_or] at hb
    cases b with
    | false =>
      refine Ev.step (fun k => ?_) (ih (j + 1) false (by omega) (by omega) (by simpa [critP] using hb))
      simp only [spec_l02Critical.l1]
      rw [if_pos (by omega), if_neg (by simp), succ64 (by omega)]
    | true =>
      by_cases h : l[j].f0 = xs[i]
      · refine Ev.step (fun k => ?_) (ih (j + 1) false (by omega) (by omega) (by simpa [critP, h] using hb))
        simp only [spec_l02Critical.l1]
        rw [if_pos (by omega), if_pos trivial, if_pos (by omega), if_pos (by omega), if_pos (by omega), rdP_at hj', rd_at hi, if_pos h, succ64 (by omega)]
      · refine Ev.step (fun k => ?_) (ih (j + 1) (l[j].f1 != xs[i]) (by omega) (by omega) (by simpa [critP, beq_eq_false_iff_ne.2 h, bne] using hb))
        simp only [spec_l02Critical.l1]
        rw [if_pos (by omega), if_pos trivial, if_pos (by omega), if_pos (by omega), if_pos (by omega), rdP_at hj', rd_at hi, if_neg h, succ64 (by omega)]
theorem crit_l0 (n : Int) (xs : List Int) (l : List Pr) (hl : l.length ≤ 1048576) (hx : xs.length ≤ 1048576) : ∀ d (i : Nat) (acc : List Int), xs.length - i = d → i ≤ xs.length → acc.length ≤ i → Ev (fun k => spec_l02Critical.l0 k l acc i n xs) (acc ++ (xs.drop i).filter (critP l)) := by
  intro d
  induction d with
  | zero =>
    intro i acc hd hi ha
    rw [List.drop_eq_nil_of_le (by omega)]
    refine Ev.step (f := fun _ => some acc) (fun k => ?_) (by simpa using Ev.now acc)
    simp only [spec_l02Critical.l0]; rw [if_neg (by omega)]
  | succ d ih =>
    intro i acc hd hi ha
    have hi' : i < xs.length := by omega
    rw [List.drop_eq_getElem_cons hi', List.filter_cons]
    refine Ev.step (f := fun k => spec_l02Critical.l1 k l acc i true ((0 : Nat) : Int) n xs) (fun k => ?_) (crit_l1 n xs l hl hx hi' acc ha _ ?_ _ 0 true rfl (Nat.zero_le _) (by simp))
    · simp only [spec_l02Critical.l0]; rw [if_pos (by omega)]; rfl
    · cases hc : critP l xs[i] with
      | true => exact .inl ⟨by have := ih (i + 1) (acc ++ [xs[i]]) (by omega) (by omega) (by simp; omega); simpa using this, rfl⟩
      | false => exact .inr ⟨by have := ih (i + 1) acc (by omega) (by omega) (by omega); simpa using this, rfl⟩
theorem ev_crit (n : Int) {xs : List Int} (hx : xs.length ≤ 1048576) {l : List Pr} (hl : l.length ≤ 1048576) : Ev (fun k => spec_l02Critical.f k n xs l) (critL xs l) := by
  unfold spec_l02Critical.f critL
  have := crit_l0 n xs l hl hx _ 0 [] rfl (Nat.zero_le _) (by simp)
  simpa using this
theorem pcode_zero {n : Int} {xs : List Int} {l : List Pr} (h : pcode n xs l = 0) : isC n xs = true ∧ pairingB xs l = true := by
  unfold pcode at h
  cases h1 : isC n xs <;> cases h2 : pairingB xs l <;> simp [h1, h2] at h ⊢
end Go.Proofs.Ytomdfjohnmikdaa.Pu
namespace Go.Proofs.Ytomdfjohnmikdaa.Im
set_option linter.unusedVariables false
set_option linter.unusedSimpArgs false
open Go.RowKit Go.Shelf Go.Proofs.Ytomdfjohnmikdaa.Kp Go.Proofs.Ytomdfjohnmikdaa.Ext Go.Proofs.Ytomdfjohnmikdaa.Cw Go.Proofs.YtomdfjohnmikdaaW.PrintWords Go.Proofs.YtomdfjohnmikdaaW.PrintLast Go.Proofs.YtomdfjohnmikdaaW.PrintMore
section
variable {P : Program}
variable {ops : Array Oper} {rest : List Oper} {o : Oper} {a : Act} {w : World} {Q : Exit → Act → World → Prop} {K : Act → World → Prop} {E : Prop}
end
def fl : List Pr → List Value
  | [] => []
  | x :: l => .int .i64 x.f0 :: .int .i64 x.f1 :: fl l
theorem fl_len : ∀ l : List Pr, (fl l).length = l.length * 2
  | [] => rfl
  | x :: l => by simp [fl, fl_len l]; omega
theorem reps_fl {w : World} {base : Nat} {ok : Nat → Prop} : ∀ (l : List Pr) (cs : List Value), Reps (k73.M w base ok) 2 l cs → cs = fl l
  | [], cs, h => List.eq_nil_of_length_eq_zero (by simpa using h.1)
  | x :: l, cs, h => by
    obtain ⟨hl, hr⟩ := h
    match cs, hl, hr with
    | [], hl, hr => simp at hl
    | [a], hl, hr => simp at hl; omega
    | a :: b :: cs, hl, hr =>
      have h0 := k73_openM (hr 0 x rfl)
      simp only [Nat.zero_mul, List.drop_zero, List.take_succ_cons, List.take_zero, List.cons.injEq, and_true] at h0
      obtain ⟨rfl, rfl⟩ := h0
      rw [reps_fl l cs ⟨by simp at hl ⊢; omega, fun j p hj => by
        have := hr (j + 1) p (by simpa using hj)
        rwa [Nat.succ_mul, show (Value.int .i64 x.f0 :: Value.int .i64 x.f1 :: cs).drop (j * 2 + 2) = cs.drop (j * 2) from by simp] at this⟩]
      rfl
theorem fl_reps (w : World) (base : Nat) (ok : Nat → Prop) : ∀ l : List Pr, Reps (k73.M w base ok) 2 l (fl l)
  | [] => Reps.none _ _
  | x :: l => by
    obtain ⟨hl, hr⟩ := fl_reps w base ok l
    refine ⟨by simp [fl, hl]; omega, fun j p hj => ?_⟩
    rcases j with _ | j
    · obtain rfl : x = p := by simpa using hj
      exact k73_mkM w base ok x
    · have := hr j p (by simpa using hj)
      rw [Nat.succ_mul, show (fl (x :: l)).drop (j * 2 + 2) = (fl l).drop (j * 2) from by simp [fl]]
      exact this
/-- A row of pairs of one's own. -/
abbrev PO (w : World) (base : Nat) (v : Value) (xs : List Pr) : Prop := Kd.R k73 73 w base (fun _ => True) v xs
theorem PO.open {w : World} {base : Nat} {v : Value} {xs : List Pr} (h : PO w base v xs) : (v = .slice none 0 0 ∧ xs = []) ∨ ∃ g cap cur, v = .slice (some ⟨g, 0, none⟩) xs.length cap ∧ base ≤ g ∧ w.heap[g]? = some (.cells (List.toArray cur) 73 (0, 0)) ∧ xs.length ≤ cap ∧ cap ≤ maxLen ∧ cur.length = cap * 2 ∧ cur.take (xs.length * 2) = fl xs := by
  obtain ⟨_, inner, ⟨hl, ho⟩, hr⟩ := h
  have he := reps_fl xs inner hr
  subst he
  rcases ho with ⟨rfl, h0⟩ | ⟨g, cap, cur, rfl, hb, hg, hn, hc, hs, ht⟩
  · exact .inl ⟨rfl, List.eq_nil_of_length_eq_zero h0⟩
  · exact .inr ⟨g, cap, cur.toList, rfl, hb, by simpa using hg, hn, hc, hs, ht⟩
theorem PO.mk {w : World} {base g cap : Nat} {cur : List Value} {xs : List Pr} (hb : base ≤ g) (hg : w.heap[g]? = some (.cells cur.toArray 73 (0, 0))) (hn : xs.length ≤ cap) (hc : cap ≤ maxLen) (hs : cur.length = cap * 2) (ht : cur.take (xs.length * 2) = fl xs) :
    PO w base (.slice (some ⟨g, 0, none⟩) xs.length cap) xs :=
  ⟨fun _ _ => trivial, fl xs, ⟨fl_len xs, .inr ⟨g, cap, cur.toArray, rfl, hb, hg, hn, hc, hs, ht⟩⟩, fl_reps _ _ _ xs⟩
section
variable {ops : Array Oper} {rest : List Oper} {o : Oper} {a : Act} {Q : Exit → Act → World → Prop}
end
theorem PO.made (w : World) (base cap : Nat) (cur : Array Value) (hb : base ≤ w.heap.size) (hm : cap ≤ maxLen) (hs : cur.size = cap * 2) : PO (w.alloc (.cells cur 73)) base (.slice (some ⟨w.heap.size, 0, none⟩) 0 cap) [] :=
  ⟨fun _ _ => trivial, [], World.ownsRow_made w cur cap hb hm hs, Reps.none _ _⟩
end Go.Proofs.Ytomdfjohnmikdaa.Im
namespace Go.Proofs.Ytomdfjohnmikdaa.Im
set_option linter.unusedVariables false
set_option linter.unusedSimpArgs false
open Go.RowKit Go.Shelf Go.Proofs.Ytomdfjohnmikdaa.Kp Go.Proofs.Ytomdfjohnmikdaa.Ext Go.Proofs.Ytomdfjohnmikdaa.Cw Go.Proofs.YtomdfjohnmikdaaW.PrintWords Go.Proofs.YtomdfjohnmikdaaW.PrintLast Go.Proofs.YtomdfjohnmikdaaW.PrintMore
end Go.Proofs.Ytomdfjohnmikdaa.Im
namespace Go.Proofs.Ytomdfjohnmikdaa.Im
set_option linter.unusedVariables false
set_option linter.unusedSimpArgs false
open Go.RowKit Go.Shelf Go.Proofs.Ytomdfjohnmikdaa.Kp Go.Proofs.Ytomdfjohnmikdaa.Ext Go.Proofs.Ytomdfjohnmikdaa.Cw Go.Proofs.YtomdfjohnmikdaaW.PrintWords Go.Proofs.YtomdfjohnmikdaaW.PrintLast Go.Proofs.YtomdfjohnmikdaaW.PrintMore
section
variable {ops : Array Oper} {o : Oper} {a : Act} {Q : Exit → Act → World → Prop} {K : Act → World → Prop}
end
theorem PO.one (w : World) (base : Nat) (p : Pr) (hb : base ≤ w.heap.size) : PO (w.alloc (.cells #[.int .i64 p.f0, .int .i64 p.f1] 73)) base (.slice (some ⟨w.heap.size, 0, none⟩) 1 1) [p] :=
  PO.mk (xs := [p]) (cap := 1) (cur := [.int .i64 p.f0, .int .i64 p.f1]) hb (heap_alloc_new w _) (Nat.le_refl _) (by simp [maxLen]) rfl rfl
end Go.Proofs.Ytomdfjohnmikdaa.Im
namespace Go.Proofs.Ytomdfjohnmikdaa.QS
set_option linter.unusedVariables false
set_option linter.unusedSimpArgs false
open Go.RowKit Go.Proofs.Ytomdfjohnmikdaa.Kp Go.Proofs.Ytomdfjohnmikdaa.Ext Go.Proofs.YtomdfjohnmikdaaW.PrintWords Go.Proofs.YtomdfjohnmikdaaW.PrintLast Go.Proofs.YtomdfjohnmikdaaW.PrintMore
end Go.Proofs.Ytomdfjohnmikdaa.QS
namespace Go.Proofs.Ytomdfjohnmikdaa.QS
open Go.Proofs.Ytomdfjohnmikdaa.Cw Go.Proofs.Ytomdfjohnmikdaa.Kp Go.Proofs.Ytomdfjohnmikdaa.Ext Go.RowKit Go.Proofs.YtomdfjohnmikdaaW.PrintWords Go.Proofs.YtomdfjohnmikdaaW.PrintLast Go.Proofs.YtomdfjohnmikdaaW.PrintMore
attribute [local go_sem] max2_int min2_int max_two min_two max_three min_three max_four min_four   -- for this text's walks alone
set_option linter.unusedVariables false
set_option linter.unusedSimpArgs false
end Go.Proofs.Ytomdfjohnmikdaa.QS
namespace Go.Proofs.Ytomdfjohnmikdaa.QS
open Go.Proofs.Ytomdfjohnmikdaa.Cw Go.Proofs.Ytomdfjohnmikdaa.Kp Go.Proofs.Ytomdfjohnmikdaa.Ext Go.RowKit Go.Proofs.YtomdfjohnmikdaaW.PrintWords Go.Proofs.YtomdfjohnmikdaaW.PrintLast Go.Proofs.YtomdfjohnmikdaaW.PrintMore
attribute [local go_sem] max2_int min2_int max_two min_two max_three min_three max_four min_four   -- for this text's walks alone
set_option linter.unusedVariables false
set_option linter.unusedSimpArgs false
end Go.Proofs.Ytomdfjohnmikdaa.QS
namespace Go.Proofs.Ytomdfjohnmikdaa.Pu
set_option linter.unusedVariables false
set_option linter.unusedSimpArgs false
open Go.RowKit Go.Proofs.Ytomdfjohnmikdaa.Kp Go.Proofs.Ytomdfjohnmikdaa.Ext Go.Proofs.Ytomdfjohnmikdaa.QS Go.Proofs.Ytomdfjohnmikdaa.Im Go.Proofs.YtomdfjohnmikdaaW.PrintWords Go.Proofs.YtomdfjohnmikdaaW.PrintLast Go.Proofs.YtomdfjohnmikdaaW.PrintMore
/-- The reference's code of an acyclic pairing. -/
def acode (n : Int) (xs : List Int) (l : List Pr) : Int := if pcode n xs l = 0 then (if acycB l then 0 else 5) else pcode n xs l
theorem ev_code8 (n : Int) {xs : List Int} (hx : xs.length ≤ 1048576) {l : List Pr} (hl : l.length ≤ 1048576) : Ev (fun k => spec_l08Code.f k n xs l) (acode n xs l) := by
  unfold spec_l08Code.f acode
  refine Ev.bind (ev_pcode n hx hl) ?_
  by_cases h0 : pcode n xs l = 0
  · simp only [h0, if_true]
    obtain ⟨hi, hp⟩ := pcode_zero h0
    refine Ev.bind (ev_acyclic hl (facesP_of hi hp)) ?_
    cases acycB l <;> exact Ev.now _
  · simp only [if_neg h0]
    exact Ev.now _
end Go.Proofs.Ytomdfjohnmikdaa.Pu
namespace Go.Proofs.Ytomdfjohnmikdaa.Pu
set_option linter.unusedVariables false
set_option linter.unusedSimpArgs false
open Go.RowKit Go.Proofs.Ytomdfjohnmikdaa.Ext Go.Proofs.Ytomdfjohnmikdaa.Im Go.Proofs.YtomdfjohnmikdaaW.PrintWords Go.Proofs.YtomdfjohnmikdaaW.PrintLast Go.Proofs.YtomdfjohnmikdaaW.PrintMore
/-- How many faces of l have j + 1 vertices, for each j below D. -/
def cntL (D : Nat) (l : List Int) : List Int := (List.range D).map fun j => ((l.filter fun x => onesZ x == ((j + 1 : Nat) : Int)).length : Int)
theorem cntL_len (D : Nat) (l : List Int) : (cntL D l).length = D := by simp [cntL]
theorem cntL_at {D j : Nat} (l : List Int) (h : j < D) : (cntL D l)[j]? = some ((l.filter fun x => onesZ x == ((j + 1 : Nat) : Int)).length : Int) := by simp [cntL, h]
theorem cntL_nil (D : Nat) : cntL D [] = List.replicate D 0 := by
  refine List.ext_getElem? fun j => ?_
  rcases Nat.lt_or_ge j D with h | h
  · rw [cntL_at [] h]; simp [h]
  · rw [List.getElem?_eq_none (by rw [cntL_len]; exact h), List.getElem?_eq_none (by simp; exact h)]
theorem cntL_snoc {D d : Nat} (l : List Int) (x : Int) (hd : d < D) (hx : onesZ x = ((d + 1 : Nat) : Int)) : (cntL D l).set d ((cntL D l)[d]?.getD 0 + 1) = cntL D (l ++ [x]) := by
  refine List.ext_getElem? fun j => ?_
  rcases Nat.lt_or_ge j D with h | h
  · rw [cntL_at (l ++ [x]) h, List.filter_append, List.length_append, cntL_at l hd]
    by_cases e : d = j
    · subst e
      rw [List.getElem?_set_self (by rw [cntL_len]; exact h)]
      simp [hx]
    · rw [List.getElem?_set_ne e, cntL_at l h]
      have : (onesZ x == ((j + 1 : Nat) : Int)) = false := by rw [hx]; simp; omega
      rw [List.filter_cons_of_neg (a := x) (l := []) (by rw [this]; exact Bool.false_ne_true), List.filter_nil]; simp
  · rw [List.getElem?_eq_none (by rw [List.length_set, cntL_len]; exact h), List.getElem?_eq_none (by rw [cntL_len]; exact h)]
theorem cntL_le {D d : Nat} (l : List Int) : (cntL D l)[d]?.getD 0 ≤ (l.length : Int) ∧ 0 ≤ (cntL D l)[d]?.getD 0 := by
  rcases Nat.lt_or_ge d D with h | h
  · rw [cntL_at l h]
    have := List.length_filter_le (fun x => onesZ x == ((d + 1 : Nat) : Int)) l
    simp only [Option.getD_some]; omega
  · rw [List.getElem?_eq_none (by rw [cntL_len]; exact h)]; simp
theorem ones1_all : ((List.range 64).all fun f => f == 0 || decide (1 ≤ onesZ (f : Int))) = true := by decide +kernel
theorem ones1 {x : Int} (h : 1 ≤ x ∧ x ≤ 63) : 1 ≤ onesZ x := by
  obtain ⟨m, rfl⟩ := Int.eq_ofNat_of_zero_le (show 0 ≤ x by omega)
  have h2 := List.all_eq_true.1 ones1_all m (List.mem_range.2 (by omega))
  have h0 : (m == 0) = false := by simp; omega
  rw [h0, Bool.false_or] at h2
  exact of_decide_eq_true h2
theorem dimE_eq {x : Int} (h0 : 0 ≤ x) (h6 : x ≤ 63) : QE.impl_dimension.f x = some (onesZ x - 1) :=
  (show QE.impl_dimension.f x = QI.impl_dimension.f x from rfl).trans (dim_eq h0 h6)
theorem count_loop (D : Nat) (l : List Int) (hr : ∀ x ∈ l, (1 ≤ x ∧ x ≤ 63) ∧ 1 ≤ onesZ x ∧ onesZ x ≤ (D : Int)) (hm : l.length ≤ 1048576) :
    ∀ d (i : Nat), l.length - i = d → i ≤ l.length → Ev (fun k => QE.impl_Complex_count.l0 k (cntL D (l.take i)) l (l.length : Int) i) (cntL D l) := by
  intro d
  induction d with
  | zero =>
    intro i hd hi
    rw [List.take_of_length_le (by omega)]
    refine Ev.step (f := fun k => some (cntL D l)) (fun k => ?_) (Ev.now _)
    simp only [QE.impl_Complex_count.l0]; rw [if_neg (by omega)]
  | succ d ih =>
    intro i hd hi
    have hi' : i < l.length := by omega
    obtain ⟨hx, hx1, hx2⟩ := hr _ (List.getElem_mem hi')
    obtain ⟨e, he⟩ : ∃ e : Nat, onesZ l[i] = ((e + 1 : Nat) : Int) := ⟨(onesZ l[i]).toNat - 1, by omega⟩
    have heD : e < D := by omega
    have hle := cntL_le (D := D) (d := e) (l.take i)
    rw [List.length_take] at hle
    have hlen := cntL_len D (l.take i)
    refine Ev.step (f := fun k => QE.impl_Complex_count.l0 k (cntL D (l.take (i + 1))) l (l.length : Int) ((i + 1 : Nat) : Int)) (fun k => ?_) (ih (i + 1) (by omega) (by omega))
    simp only [QE.impl_Complex_count.l0]
    rw [if_pos (by omega), if_pos (by omega), if_pos (by omega), rd_at' hi', dimE_eq (by omega) (by omega)]
    simp only [Option.bind_some]
    rw [he, show ((e + 1 : Nat) : Int) - 1 = (e : Int) by omega, if_pos (by omega), if_pos (by omega)]
    have hrd : rd (cntL D (l.take i)) (e : Int) = (cntL D (l.take i))[e]?.getD 0 := by simp [rd, List.getD_eq_getElem?_getD]
    rw [hrd, w64' (by omega) (by omega), Int.toNat_natCast, cntL_snoc (l.take i) l[i] heD he, show wrap64 ((i : Int) + 1) = ((i + 1 : Nat) : Int) by rw [w64' (by omega) (by omega)]; omega]
    rw [List.take_add_one, List.getElem?_eq_getElem hi']
    rfl
theorem dim_rng (l : List Int) : -1 ≤ dimL l ∧ dimL l ≤ 5 ∧ ∀ x ∈ l, onesZ x ≤ dimL l + 1 := by
  obtain ⟨h1, h2⟩ := foldmax_ge (fun x => onesZ x - 1) l (-1)
  refine ⟨h1, ?_, fun x hx => ?_⟩
  · rcases foldmax_hit (fun x => onesZ x - 1) l (-1) with h | ⟨x, _, h⟩
    · unfold dimL; omega
    · have h3 : onesZ x - 1 = dimL l := h
      have := ones_le x
      omega
  · have := h2 x hx
    have h3 : onesZ x - 1 ≤ dimL l := this
    omega
theorem ev_cntE {n : Int} {l : List Int} (hi : isC n l = true) {m : List Int} (hm : ∀ x ∈ m, x ∈ l) (hl : m.length ≤ 1048576) : Ev (fun k => QE.impl_Complex_count.f k n l m) (cntL (dimL l + 1).toNat m) := by
  have hs := isC_small hi
  have h63 := isC_63 hi
  obtain ⟨d1, d2, d3⟩ := dim_rng l
  obtain ⟨D, hD⟩ := Int.eq_ofNat_of_zero_le (show 0 ≤ dimL l + 1 by omega)
  have hdm : impl_Complex_dimension.f n l = some (dimL l) := by unfold impl_Complex_dimension.f; rw [if_pos hi]
  unfold QE.impl_Complex_count.f
  simp only [hdm, Option.bind_some]
  rw [w64 (by omega) (by omega), hD]
  simp only [if_pos (show (0 : Int) ≤ (D : Int) by omega), Int.toNat_natCast, if_pos (show D ≤ 35184372088832 by omega)]
  have := count_loop D m (fun x hx => ⟨h63 x (hm x hx), ones1 (h63 x (hm x hx)), by have := d3 x (hm x hx); omega⟩) hl _ 0 rfl (Nat.zero_le _)
  rw [List.take_zero, cntL_nil] at this
  exact this
theorem elim_le (lo : Nat → Nat) (M : List (List Int)) : ∀ m, (elimAll lo M m).2 ≤ m := by
  intro m
  unfold elimAll
  induction m with
  | zero => exact Nat.le_refl _
  | succ m ih =>
    rw [List.range_succ, List.foldl_append]
    generalize (List.range m).foldl (elimStep lo) (M, 0) = s at ih
    show (elimStep lo s m).2 ≤ m + 1
    unfold elimStep
    cases findZ s.1 m s.2 with
    | none => exact Nat.le_succ_of_le ih
    | some i => exact Nat.succ_le_succ ih
theorem rank_rng {n : Int} {xs : List Int} (hi : isC n xs = true) (d : Int) : 0 ≤ rankS xs d ∧ rankS xs d ≤ 63 := by
  have hs := isC_small hi
  unfold rankS
  split
  · omega
  · have := elim_le id (matZ (ofL xs (d.toNat - 1)) (ofL xs d.toNat) bordersL) (ofL xs (d.toNat - 1)).length
    have hl : (ofL xs (d.toNat - 1)).length ≤ xs.length := List.length_filter_le _ _
    omega
/-- The Betti numbers modulo 2. -/
def bettiAt (xs : List Int) (d : Nat) : Int := ((ofL xs d).length : Int) - rankS xs (d : Int) - rankS xs ((d + 1 : Nat) : Int)
def bettiL (xs : List Int) : List Int := (List.range (dimL xs + 1).toNat).map (bettiAt xs)
theorem rankO_f {n : Int} {xs : List Int} (hi : isC n xs = true) (d : Int) : spec_l03RankOf.f n xs d 2 = some (rankS xs d) := by unfold spec_l03RankOf.f; rw [if_pos ⟨hi, rfl⟩]
theorem bt_loop {n : Int} {xs : List Int} (hi : isC n xs = true) {D : Nat} (hD : dimL xs + 1 = (D : Int)) : ∀ d (i : Nat), D - i = d → i ≤ D → Ev (fun k => Ql03Betti.spec_l03Betti.l0 k 2 ((List.range i).map (bettiAt xs)) (i : Int) n xs) ((List.range D).map (bettiAt xs)) := by
  have hr := dim_rng xs
  have hs := isC_small hi
  intro d
  induction d with
  | zero =>
    intro i hd hil
    obtain rfl : i = D := by omega
    refine Ev.step (f := fun k => (QS.spec_l01Dim.f k n xs).bind fun t => (some ((List.range i).map (bettiAt xs)) : Option (List Int))) (fun k => ?_) (Ev.bind (ev_dimO hi) (Ev.now _))
    simp only [Ql03Betti.spec_l03Betti.l0]
    cases hdm : QS.spec_l01Dim.f k n xs with
    | none => rfl
    | some t =>
      have : t = dimL xs := by
        have h1 := (ev_dimO hi)
        obtain ⟨K, hK⟩ := h1
        have h2 := at_rounds (fun k => QS.spec_l01Dim.mono _ _ k) (Nat.le_max_left k K) hdm
        have h3 := hK (max k K) (Nat.le_max_right _ _)
        exact Option.some.inj (h2.symm.trans h3)
      subst this
      simp only [Option.bind_some]
      rw [if_neg (by omega)]
  | succ d ih =>
    intro i hd hil
    have hil' : i < D := by omega
    have h1 := rank_rng hi (i : Int)
    have h2 := rank_rng hi ((i + 1 : Nat) : Int)
    have hfl : (ofL xs i).length ≤ xs.length := List.length_filter_le _ _
    have hih := ih (i + 1) (by omega) (by omega)
    rw [List.range_succ, List.map_append] at hih
    refine Ev.step (f := fun k => (QS.spec_l01Dim.f k n xs).bind fun t118 => if (i : Int) ≤ t118 then (QS.spec_l01Of.f k n xs (i : Int)).bind fun t119 => Ql03Betti.spec_l03Betti.l0 k 2 ((List.range i).map (bettiAt xs) ++ [wrap64 (wrap64 ((t119.length : Int) - rankS xs (i : Int)) - rankS xs ((i + 1 : Nat) : Int))]) ((i + 1 : Nat) : Int) n xs else some ((List.range i).map (bettiAt xs))) (fun k => ?_) ?_
    · simp only [Ql03Betti.spec_l03Betti.l0]
      rw [show wrap64 ((i : Int) + 1) = ((i + 1 : Nat) : Int) by rw [w64 (by omega) (by omega)]; omega]
      simp only [rankO_f hi, Option.bind_some, List.length_map, List.length_range, if_pos (show i < 17592186044416 by omega)]
    · refine Ev.bind (ev_dimO hi) ?_
      simp only [if_pos (show (i : Int) ≤ dimL xs by omega)]
      refine Ev.bind (ev_ofO hi i (by omega)) ?_
      rw [show wrap64 (wrap64 (((xs.filter fun x => onesZ x == ((i + 1 : Nat) : Int)).length : Int) - rankS xs (i : Int)) - rankS xs ((i + 1 : Nat) : Int)) = bettiAt xs i by
        rw [show (xs.filter fun x => onesZ x == ((i + 1 : Nat) : Int)) = ofL xs i from rfl, w64 (x := ((ofL xs i).length : Int) - rankS xs (i : Int)) (by omega) (by omega), w64 (by omega) (by omega)]; rfl]
      exact hih
theorem ev_bettiS {n : Int} {xs : List Int} (hi : isC n xs = true) : Ev (fun k => Ql03Betti.spec_l03Betti.f k n xs 2) (bettiL xs) := by
  have hr := dim_rng xs
  obtain ⟨D, hD⟩ := Int.eq_ofNat_of_zero_le (show 0 ≤ dimL xs + 1 by omega)
  have := bt_loop hi hD D 0 rfl (Nat.zero_le _)
  unfold Ql03Betti.spec_l03Betti.f bettiL
  rw [show (dimL xs + 1).toNat = D by omega]
  exact this
theorem rankE_f {n : Int} {xs : List Int} (hi : isC n xs = true) (d : Nat) (hd : d ≤ 100) : impl_Complex_rank.f n xs (d : Int) 2 = some (rankS xs (d : Int)) := by unfold impl_Complex_rank.f; rw [if_pos ⟨hi, by omega, by omega, rfl⟩]
/-- The numbers of faces, with those below i turned to Betti numbers. -/
def mixL (xs : List Int) (D i : Nat) : List Int := (List.range D).map fun j => if j < i then bettiAt xs j else ((ofL xs j).length : Int)
theorem mix_next (xs : List Int) {D i : Nat} (hi : i < D) : (mixL xs D i).set i (bettiAt xs i) = mixL xs D (i + 1) := by
  refine List.ext_getElem (by simp [mixL]) fun j h1 h2 => ?_
  have hj : j < D := by simpa [mixL] using h2
  rw [List.getElem_set]
  by_cases h : i = j
  · subst h
    rw [if_pos rfl]
    simp [mixL]
  · rw [if_neg h]
    simp only [mixL, List.getElem_map, List.getElem_range]
    by_cases h3 : j < i
    · rw [if_pos h3, if_pos (by omega)]
    · rw [if_neg h3, if_neg (by omega)]
theorem be_loop {n : Int} {xs : List Int} (hi : isC n xs = true) {D : Nat} (hD : D ≤ 6) : ∀ d (i : Nat), D - i = d → i ≤ D → Ev (fun k => QE.impl_Complex_betti.l0 k 2 (mixL xs D i) (D : Int) (i : Int) n xs) ((List.range D).map (bettiAt xs)) := by
  have hs := isC_small hi
  intro d
  induction d with
  | zero =>
    intro i hd hil
    obtain rfl : i = D := by omega
    have : mixL xs i i = (List.range i).map (bettiAt xs) := by
      refine List.ext_getElem (by simp [mixL]) fun j h1 h2 => ?_
      have hj : j < i := by simpa using h2
      simp [mixL, hj]
    rw [this]
    refine Ev.step (f := fun k => some ((List.range i).map (bettiAt xs))) (fun k => ?_) (Ev.now _)
    simp only [QE.impl_Complex_betti.l0]
    rw [if_neg (by omega)]
  | succ d ih =>
    intro i hd hil
    have hil' : i < D := by omega
    have h1 := rank_rng hi (i : Int)
    have h2 := rank_rng hi ((i + 1 : Nat) : Int)
    have hfl : (ofL xs i).length ≤ xs.length := List.length_filter_le _ _
    have hml : (mixL xs D i).length = D := by simp [mixL]
    have hat : rd (mixL xs D i) (i : Int) = ((ofL xs i).length : Int) := by
      rw [rd_at (by omega)]
      simp [mixL]
    refine Ev.step (fun k => ?_) (ih (i + 1) (by omega) (by omega))
    simp only [QE.impl_Complex_betti.l0]
    rw [if_pos (by omega), if_pos (by omega), if_pos (by omega), show wrap64 ((i : Int) + 1) = ((i + 1 : Nat) : Int) by rw [w64 (by omega) (by omega)]; omega]
    simp only [rankE_f hi i (by omega), rankE_f hi (i + 1) (by omega), Option.bind_some, Int.toNat_natCast]
    rw [hat, w64 (x := rankS xs (i : Int) + rankS xs ((i + 1 : Nat) : Int)) (by omega) (by omega), w64 (by omega) (by omega), ← mix_next xs hil']
    congr 2
    unfold bettiAt
    omega
theorem cnt_mix (xs : List Int) (D : Nat) : cntL D xs = mixL xs D 0 := by
  unfold cntL mixL
  refine List.map_congr_left fun j hj => ?_
  rw [if_neg (Nat.not_lt_zero _)]
  rfl
theorem ev_bettiE {n : Int} {xs : List Int} (hi : isC n xs = true) : Ev (fun k => QE.impl_Complex_betti.f k n xs 2) (bettiL xs) := by
  have hr := dim_rng xs
  obtain ⟨D, hD⟩ := Int.eq_ofNat_of_zero_le (show 0 ≤ dimL xs + 1 by omega)
  have hs := isC_small hi
  unfold QE.impl_Complex_betti.f
  refine Ev.bind (ev_cntE hi (m := xs) (fun x hx => hx) (by omega)) ?_
  rw [show (dimL xs + 1).toNat = D by omega, cnt_mix]
  have := be_loop hi (D := D) (by omega) D 0 rfl (Nat.zero_le _)
  unfold bettiL
  rw [show (dimL xs + 1).toNat = D by omega]
  simpa [mixL] using this
end Go.Proofs.Ytomdfjohnmikdaa.Pu
namespace Go.Proofs.Ytomdfjohnmikdaa.Pu
set_option linter.unusedVariables false
set_option linter.unusedSimpArgs false
open Go.RowKit Go.Proofs.Ytomdfjohnmikdaa.Kp Go.Proofs.Ytomdfjohnmikdaa.Ext Go.Proofs.Ytomdfjohnmikdaa.QS Go.Proofs.Ytomdfjohnmikdaa.Im Go.Proofs.YtomdfjohnmikdaaW.PrintWords Go.Proofs.YtomdfjohnmikdaaW.PrintLast Go.Proofs.YtomdfjohnmikdaaW.PrintMore
theorem crit_clo (f : Int) : (QG.clo_125 f).sort = 2 ∧ ∀ q : Pr, 0 ≤ q.f0 → q.f0 ≤ 63 → 0 ≤ q.f1 → q.f1 ≤ 63 → (QG.clo_125 f).pP q = (q.f0 == f || q.f1 == f) :=
  ofP_face (p := fun q : Pr => q.f0 == f || q.f1 == f) fun x y _ _ _ _ => by
    unfold QG.impl_Complex_critical_1_1.f
    by_cases h : x = f <;> simp [h]
theorem okDomP_faces {l : List Pr} (hr : FacesP l) (a : Pred) : okDomP a l = true := by
  rw [okDomP, Bool.or_eq_true]
  refine .inr (List.all_eq_true.2 fun q hq => ?_)
  have := hr q hq
  simp; omega
theorem any_congr_mem {α : Type} {p q : α → Bool} {l : List α} (h : ∀ x ∈ l, p x = q x) : l.any p = l.any q := by
  induction l with
  | nil => rfl
  | cons a l ih => rw [List.any_cons, List.any_cons, h a (by simp), ih (fun x hx => h x (by simp [hx]))]
theorem crit1_f {l : List Pr} (hl : l.length ≤ 1048576) (hr : FacesP l) (f : Int) : QG.impl_Complex_critical_1.f f l = some (!critP l f) := by
  obtain ⟨s1, p1⟩ := crit_clo f
  unfold QG.impl_Complex_critical_1.f slices_ContainsFunc_impl_Pair_impl_Pair.f
  rw [if_pos ⟨by omega, s1, okDomP_faces hr _⟩, Option.bind_some]
  unfold critP
  rw [Bool.not_not, any_congr_mem fun q hq => by have := hr q hq; exact p1 q (by omega) (by omega) (by omega) (by omega)]
theorem crit_f {n : Int} {xs : List Int} (hi : isC n xs = true) {l : List Pr} (hl : l.length ≤ 1048576) (hr : FacesP l) : QG.impl_Complex_critical.f n xs l = some (critL xs l) := by
  have hs := isC_small hi
  have r := isC_63 hi
  obtain ⟨s2, _, p2⟩ := ofI_face (f := fun x => QG.impl_Complex_critical_1.f x l) (p := fun x => !critP l x) (fun x _ _ => crit1_f hl hr x)
  have hd : okDom (QG.clo_123 l) xs = true := by
    rw [okDom, Bool.or_eq_true]
    refine .inr (List.all_eq_true.2 fun x hx => ?_)
    have := r x hx
    simp; omega
  unfold QG.impl_Complex_critical.f slices_Clone_int64_int64.f slices_DeleteFunc_int64_int64.f
  rw [if_pos (by omega), Option.bind_some, if_pos ⟨by omega, s2, hd⟩, Option.bind_some]
  unfold critL
  refine congrArg some (List.filter_congr fun x hx => ?_)
  have := r x hx
  rw [show (QG.clo_123 l).pI x = !critP l x from p2 x (by omega) (by omega), Bool.not_not]
theorem pcodeG_f (n : Int) {xs : List Int} (hx : xs.length ≤ 1048576) {l : List Pr} (hl : l.length ≤ 1048576) (b : Bool) : QG.impl_pairingCode.f n xs l b = some (if isC n xs then (if b && pairingB xs l then 0 else 2) else 1) := by
  unfold QG.impl_pairingCode.f impl_complexCode.f
  cases hi : isC n xs with
  | false =>
    rw [if_pos ⟨by omega, fun h => by cases h⟩]; rfl
  | true =>
    have hp : QG.impl_pairingCode_1.f b n xs l = some (b && pairingB xs l) := by
      unfold QG.impl_pairingCode_1.f impl_Complex_isPairing.f
      have hc : isC n xs = true ∧ l.length ≤ 1099511627776 := ⟨hi, by omega⟩
      cases b with
      | false => simp
      | true => simp [hc]
    unfold QG.clo_163
    rw [hp, if_pos ⟨by omega, fun _ => rfl⟩]
    cases b <;> cases pairingB xs l <;> rfl
theorem acodeG_f (n : Int) {xs : List Int} (hx : xs.length ≤ 1048576) {l : List Pr} (hl : l.length ≤ 1048576) : QG.impl_acyclicCode.f n xs l true = some (acode n xs l) := by
  unfold QG.impl_acyclicCode.f acode pcode
  rw [pcodeG_f n hx hl true, Option.bind_some]
  cases hi : isC n xs with
  | false => rfl
  | true =>
    cases hp : pairingB xs l with
    | false => rfl
    | true =>
      have ho := okBfs_of hl (facesP_of hi hp)
      unfold impl_Complex_isAcyclic.f
      rw [if_pos ho]
      cases acycB l <;> rfl
theorem same_drop {a b : List Int} {i : Nat} (h1 : i < a.length) (h2 : i < b.length) : (decide (a.drop i = b.drop i)) = (decide (a[i] = b[i]) && decide (a.drop (i + 1) = b.drop (i + 1))) := by
  rw [Bool.eq_iff_iff, Bool.and_eq_true, decide_eq_true_eq, decide_eq_true_eq, decide_eq_true_eq, List.drop_eq_getElem_cons h1, List.drop_eq_getElem_cons h2, List.cons.injEq]
theorem equal_loop {a b : List Int} (hl : a.length = b.length) (hm : a.length ≤ 1048576) : ∀ d (i : Nat), a.length - i = d → i ≤ a.length → Ev (fun k => QG.slices_Equal_int64_int64.l0 k a b (a.length : Int) (i : Int)) (decide (a.drop i = b.drop i)) := by
  intro d
  induction d with
  | zero =>
    intro i hd hil
    rw [List.drop_eq_nil_of_le (by omega), List.drop_eq_nil_of_le (by omega), decide_eq_true rfl]
    refine Ev.step (f := fun k => some true) (fun k => ?_) (Ev.now _)
    simp only [QG.slices_Equal_int64_int64.l0]
    rw [if_neg (by omega)]
  | succ d ih =>
    intro i hd hil
    have h1 : i < a.length := by omega
    have h2 : i < b.length := by omega
    rw [same_drop h1 h2]
    by_cases he : a[i] = b[i]
    · rw [decide_eq_true he, Bool.true_and]
      refine Ev.step (fun k => ?_) (ih (i + 1) (by omega) (by omega))
      simp only [QG.slices_Equal_int64_int64.l0]
      rw [if_pos (by omega), if_pos (by omega), if_pos (by omega), if_pos (by omega), rd_at h1, rd_at h2, if_pos he, succ64 (by omega)]
    · rw [decide_eq_false he, Bool.false_and]
      refine Ev.step (f := fun k => some false) (fun k => ?_) (Ev.now _)
      simp only [QG.slices_Equal_int64_int64.l0]
      rw [if_pos (by omega), if_pos (by omega), if_pos (by omega), if_pos (by omega), rd_at h1, rd_at h2, if_neg he]
theorem ev_equalG {a b : List Int} (hm : a.length ≤ 1048576) : Ev (fun k => QG.slices_Equal_int64_int64.f k a b) (decide (a = b)) := by
  unfold QG.slices_Equal_int64_int64.f
  by_cases hl : a.length = b.length
  · simp only [if_pos (show (a.length : Int) = (b.length : Int) by omega)]
    exact equal_loop hl hm _ 0 rfl (Nat.zero_le _)
  · simp only [if_neg (show ¬ (a.length : Int) = (b.length : Int) by omega)]
    rw [decide_eq_false (fun h => hl (by rw [h]))]
    exact Ev.now _
theorem same_loop {a b : List Int} (hl : a.length = b.length) (hm : a.length ≤ 1048576) : ∀ d (i : Nat), a.length - i = d → i ≤ a.length → Ev (fun k => spec_l06Same.l0 k a b (i : Int)) (decide (a.drop i = b.drop i)) := by
  intro d
  induction d with
  | zero =>
    intro i hd hil
    rw [List.drop_eq_nil_of_le (by omega), List.drop_eq_nil_of_le (by omega), decide_eq_true rfl]
    refine Ev.step (f := fun k => some true) (fun k => ?_) (Ev.now _)
    simp only [spec_l06Same.l0]
    rw [if_neg (by omega)]
  | succ d ih =>
    intro i hd hil
    have h1 : i < a.length := by omega
    have h2 : i < b.length := by omega
    rw [same_drop h1 h2]
    by_cases he : a[i] = b[i]
    · rw [decide_eq_true he, Bool.true_and]
      refine Ev.step (fun k => ?_) (ih (i + 1) (by omega) (by omega))
      simp only [spec_l06Same.l0]
      rw [if_pos (by omega), if_pos (by omega), if_pos (by omega), rd_at h1, rd_at h2, if_pos he, succ64 (by omega)]
    · rw [decide_eq_false he, Bool.false_and]
      refine Ev.step (f := fun k => some false) (fun k => ?_) (Ev.now _)
      simp only [spec_l06Same.l0]
      rw [if_pos (by omega), if_pos (by omega), if_pos (by omega), rd_at h1, rd_at h2, if_neg he]
theorem ev_same {a b : List Int} (hm : a.length ≤ 1048576) : Ev (fun k => spec_l06Same.f k a b) (decide (a = b)) := by
  unfold spec_l06Same.f
  by_cases hl : a.length = b.length
  · simp only [if_pos (show (a.length : Int) = (b.length : Int) by omega)]
    exact same_loop hl hm _ 0 rfl (Nat.zero_le _)
  · simp only [if_neg (show ¬ (a.length : Int) = (b.length : Int) by omega)]
    rw [decide_eq_false (fun h => hl (by rw [h]))]
    exact Ev.now _
theorem ev_dim2 {x : Int} (h1 : 1 ≤ x) (h2 : x ≤ 63) : Ev (fun k => spec_l02Dim.f k x) (onesZ x - 1) := by
  have := ones_le x
  unfold spec_l02Dim.f
  refine Ev.bind (ev_ones (by omega) (by omega)) ?_
  have h : wrap64 (onesZ x - 1) = onesZ x - 1 := w64 (by have := ones1 ⟨h1, h2⟩; omega) (by omega)
  rw [h]
  exact Ev.now _
theorem num_l1 (D : Nat) (l : List Int) (hr : ∀ x ∈ l, (1 ≤ x ∧ x ≤ 63) ∧ 1 ≤ onesZ x ∧ onesZ x ≤ (D : Int)) (hm : l.length ≤ 1048576) :
    ∀ d (i : Nat), l.length - i = d → i ≤ l.length → Ev (fun k => spec_l02Numbers.l1 k (cntL D (l.take i)) l (i : Int)) (cntL D l) := by
  intro d
  induction d with
  | zero =>
    intro i hd hi
    rw [List.take_of_length_le (by omega)]
    refine Ev.step (f := fun k => some (cntL D l)) (fun k => ?_) (Ev.now _)
    simp only [spec_l02Numbers.l1]; rw [if_neg (by omega)]
  | succ d ih =>
    intro i hd hi
    have hi' : i < l.length := by omega
    obtain ⟨hx, hx1, hx2⟩ := hr _ (List.getElem_mem hi')
    obtain ⟨e, he⟩ : ∃ e : Nat, onesZ l[i] = ((e + 1 : Nat) : Int) := ⟨(onesZ l[i]).toNat - 1, by omega⟩
    have heD : e < D := by omega
    have hle := cntL_le (D := D) (d := e) (l.take i)
    rw [List.length_take] at hle
    have hlen := cntL_len D (l.take i)
    refine Ev.step (f := fun k => (spec_l02Dim.f k l[i]).bind fun t => if 0 ≤ t then (if t < ((cntL D (l.take i)).length : Int) then spec_l02Numbers.l1 k ((cntL D (l.take i)).set t.toNat (wrap64 (rd (cntL D (l.take i)) t + 1))) l ((i + 1 : Nat) : Int) else none) else none) (fun k => ?_) ?_
    · simp only [spec_l02Numbers.l1]
      rw [if_pos (by omega), if_pos (by omega), rd_at hi', succ64 (by omega)]
    · refine Ev.bind (ev_dim2 hx.1 hx.2) ?_
      rw [he, show ((e + 1 : Nat) : Int) - 1 = (e : Int) by omega]
      simp only [if_pos (show (0 : Int) ≤ (e : Int) by omega), if_pos (show (e : Int) < ((cntL D (l.take i)).length : Int) by omega), Int.toNat_natCast]
      have hrd : rd (cntL D (l.take i)) (e : Int) = (cntL D (l.take i))[e]?.getD 0 := by rw [rd_at (by omega), List.getElem?_eq_getElem (by omega)]; rfl
      rw [hrd, w64 (by omega) (by omega), cntL_snoc (l.take i) l[i] heD he, ← List.take_succ_eq_append_getElem hi']
      exact ih (i + 1) (by omega) (by omega)
theorem num_l0 {n : Int} {xs : List Int} (hi : isC n xs = true) {l : List Pr} (hl : l.length ≤ 1048576) : ∀ d (i : Nat) (a : Int), xs.length - i = d → i ≤ xs.length → (xs.drop i).foldl (fun a x => max a (onesZ x - 1)) a = dimL xs → -1 ≤ a ∧ a ≤ 5 → Ev (fun k => spec_l02Numbers.l0 k l a (i : Int) n xs) (cntL (dimL xs + 1).toNat (critL xs l)) := by
  have hs := isC_small hi
  have h63 := isC_63 hi
  obtain ⟨d1, d2, d3⟩ := dim_rng xs
  intro d
  induction d with
  | zero =>
    intro i a hd hil hf ha
    rw [List.drop_eq_nil_of_le (by omega)] at hf
    have hf' : a = dimL xs := hf
    subst hf'
    have hcl : (critL xs l).length ≤ xs.length := List.length_filter_le _ _
    have hcm : ∀ x ∈ critL xs l, x ∈ xs := fun x hx => (List.mem_filter.1 hx).1
    obtain ⟨D, hD⟩ := Int.eq_ofNat_of_zero_le (show 0 ≤ dimL xs + 1 by omega)
    refine Ev.step (f := fun k => (spec_l02Critical.f k n xs l).bind fun t => spec_l02Numbers.l1 k (List.replicate D 0) t 0) (fun k => ?_) ?_
    · simp only [spec_l02Numbers.l0]
      rw [if_neg (by omega), w64 (by omega) (by omega), hD, if_pos (by omega), if_pos (by omega), Int.toNat_natCast]
    · refine Ev.bind (ev_crit n (by omega) hl) ?_
      rw [hD, Int.toNat_natCast]
      have := num_l1 D (critL xs l) (fun x hx => ⟨h63 x (hcm x hx), ones1 (h63 x (hcm x hx)), by have := d3 x (hcm x hx); omega⟩) (by omega) _ 0 rfl (Nat.zero_le _)
      rw [List.take_zero, cntL_nil] at this
      exact this
  | succ d ih =>
    intro i a hd hil hf ha
    have hi' : i < xs.length := by omega
    have hx := h63 _ (List.getElem_mem hi')
    have h1 := ones_le xs[i]
    have h2 := ones1 hx
    rw [List.drop_eq_getElem_cons hi', List.foldl_cons] at hf
    refine Ev.step (f := fun k => (spec_l02Dim.f k xs[i]).bind fun t => spec_l02Numbers.l0 k l (mx a t) ((i + 1 : Nat) : Int) n xs) (fun k => ?_) (Ev.bind (ev_dim2 hx.1 hx.2) ?_)
    · simp only [spec_l02Numbers.l0]
      rw [if_pos (by omega), if_pos (by omega), rd_at hi', succ64 (by omega)]
    · rw [show mx a (onesZ xs[i] - 1) = max a (onesZ xs[i] - 1) by unfold mx; split <;> omega]
      exact ih (i + 1) _ (by omega) (by omega) hf (by omega)
theorem ev_numbers {n : Int} {xs : List Int} (hi : isC n xs = true) {l : List Pr} (hl : l.length ≤ 1048576) : Ev (fun k => spec_l02Numbers.f k n xs l) (cntL (dimL xs + 1).toNat (critL xs l)) := by
  unfold spec_l02Numbers.f
  exact num_l0 hi hl _ 0 (-1) rfl (Nat.zero_le _) rfl (by omega)
theorem perf_law (n : Int) {xs : List Int} (hx : xs.length ≤ 1048576) {l : List Pr} (hl : l.length ≤ 1048576) : ∃ D, Ev (fun k => QG.impl_IsPerfect.f k n xs l) D ∧ Ev (fun k => QIsPerfect.spec_IsPerfect.f k n xs l) D := by
  unfold QG.impl_IsPerfect.f QIsPerfect.spec_IsPerfect.f
  simp only [acodeG_f n hx hl, Option.bind_some]
  by_cases h0 : acode n xs l = 0
  · have hp0 : pcode n xs l = 0 := by
      unfold acode at h0
      by_cases hp : pcode n xs l = 0
      · exact hp
      · rwa [if_neg hp] at h0
    obtain ⟨hi, hp⟩ := pcode_zero hp0
    have hs := isC_small hi
    have hcl : (critL xs l).length ≤ xs.length := List.length_filter_le _ _
    have hcr := crit_f hi hl (facesP_of hi hp)
    have hct := impl_Complex_count.come n xs (critL xs l) (ev_cntE hi (m := critL xs l) (fun x hx => (List.mem_filter.1 hx).1) (by omega))
    have hbe := impl_Complex_betti.come n xs 2 (ev_bettiE hi)
    have hbs := spec_l03Betti.come n xs 2 (ev_bettiS hi)
    have hdr := dim_rng xs
    have hcl2 : (cntL (dimL xs + 1).toNat (critL xs l)).length ≤ 1048576 := by rw [cntL_len]; omega
    refine ⟨(decide (cntL (dimL xs + 1).toNat (critL xs l) = bettiL xs), 0), ?_, ?_⟩
    · simp only [if_pos h0, hcr, hct, hbe, Option.bind_some]
      exact Ev.bind (ev_equalG hcl2) (Ev.now _)
    · refine Ev.bind (ev_code8 n hx hl) ?_
      simp only [if_pos h0]
      refine Ev.bind (ev_numbers hi hl) ?_
      simp only [hbs, Option.bind_some]
      exact Ev.bind (ev_same hcl2) (Ev.now _)
  · refine ⟨(false, acode n xs l), ?_, ?_⟩
    · simp only [if_neg h0]; exact Ev.now _
    · refine Ev.bind (ev_code8 n hx hl) ?_
      simp only [if_neg h0]; exact Ev.now _
end Go.Proofs.Ytomdfjohnmikdaa.Pu
namespace Go.Proofs.Ytomdfjohnmikdaa.Pu
set_option linter.unusedVariables false
set_option linter.unusedSimpArgs false
open Go.RowKit Go.Proofs.Ytomdfjohnmikdaa.Kp Go.Proofs.Ytomdfjohnmikdaa.Ext Go.Proofs.Ytomdfjohnmikdaa.QS Go.Proofs.YtomdfjohnmikdaaW.PrintWords Go.Proofs.YtomdfjohnmikdaaW.PrintLast Go.Proofs.YtomdfjohnmikdaaW.PrintMore
theorem eqPair_loop (l : List Pr) (hl : l.length ≤ 1048576) : ∀ d (i : Nat), l.length - i = d → i ≤ l.length → Ev (fun k => laws_eqPairS.l0 k l l i) true := by
  intro d
  induction d with
  | zero =>
    intro i hd hi
    refine Ev.step (f := fun k => some true) (fun k => ?_) (Ev.now _)
    simp only [laws_eqPairS.l0]; rw [if_neg (by omega)]
  | succ d ih =>
    intro i hd hi
    refine Ev.step (fun k => ?_) (ih (i + 1) (by omega) (by omega))
    simp only [laws_eqPairS.l0]
    rw [if_pos (by omega), if_pos (by omega), if_pos (by omega), show wrap64 ((i : Int) + 1) = ((i + 1 : Nat) : Int) by rw [w64 (by omega) (by omega)]; omega]
    simp [laws_eqPair.f]
theorem ev_eqPairs {l : List Pr} (hl : l.length ≤ 1048576) : Ev (fun k => laws_eqPairS.f k l l) true := by
  unfold laws_eqPairS.f
  simp only [if_true]
  exact eqPair_loop l hl _ 0 rfl (Nat.zero_le _)
end Go.Proofs.Ytomdfjohnmikdaa.Pu
namespace Go.Proofs.Ytomdfjohnmikdaa.Pu
set_option linter.unusedVariables false
set_option linter.unusedSimpArgs false
open Go.RowKit Go.Proofs.Ytomdfjohnmikdaa.Kp Go.Proofs.Ytomdfjohnmikdaa.Ext Go.Proofs.Ytomdfjohnmikdaa.QS Go.Proofs.YtomdfjohnmikdaaW.PrintWords Go.Proofs.YtomdfjohnmikdaaW.PrintLast Go.Proofs.YtomdfjohnmikdaaW.PrintMore
def toPr (q : S72) : Pr := ⟨q.f0, q.f1⟩
theorem sz_prs {l : List S72} (hm : l.length ≤ maxLen) {b : Int} (h0 : 0 ≤ b) (h1 : b ≤ 1048576) : laws_szPairS.f l b = some (if b < (l.length : Int) then -1 else b - l.length) := by
  unfold laws_szPairS.f
  simp only [maxLen] at hm
  rw [w64 (by omega) (by omega)]
  by_cases h : b < (l.length : Int)
  · rw [if_pos (by omega), if_pos h]
  · rw [if_neg (by omega), if_neg h]
theorem rdA_at {l : List S72} {i : Nat} (h : i < l.length) : rd_T72 l (i : Int) = l[i] := by unfold rd_T72; rw [List.getD_eq_getElem?_getD, Int.toNat_natCast, List.getElem?_eq_getElem h]; rfl
theorem toPair_loop (l : List S72) (hl : l.length ≤ 1048576) : ∀ d (i : Nat) (x3 : List Pr), l.length - i = d → i ≤ l.length → x3.length = l.length → (∀ j, j < i → x3[j]? = (l[j]?).map toPr) → Ev (fun k => laws_toPairS.l0 k l x3 i) (l.map toPr) := by
  intro d
  induction d with
  | zero =>
    intro i x3 hd hi hx hj
    have he : x3 = l.map toPr := by
      apply List.ext_getElem?
      intro j
      rw [List.getElem?_map]
      rcases Nat.lt_or_ge j i with h | h
      · exact hj j h
      · rw [List.getElem?_eq_none (by omega), List.getElem?_eq_none (by omega)]; rfl
    refine Ev.step (f := fun _ => some x3) (fun k => ?_) (by rw [he]; exact Ev.now _)
    simp only [laws_toPairS.l0]; rw [if_neg (by omega)]
  | succ d ih =>
    intro i x3 hd hi hx hj
    have hi' : i < l.length := by omega
    refine Ev.step (f := fun k => laws_toPairS.l0 k l (x3.set i (toPr l[i])) ((i + 1 : Nat) : Int)) (fun k => ?_) (ih (i + 1) (x3.set i (toPr l[i])) (by omega) (by omega) (by simpa using hx) (fun j hji => ?_))
    · simp only [laws_toPairS.l0]
      rw [if_pos (by omega), if_pos (by omega), rdA_at hi', show wrap64 ((i : Int) + 1) = ((i + 1 : Nat) : Int) by rw [w64 (by omega) (by omega)]; omega]
      simp only [laws_toPair.f, Option.bind_some]
      rw [if_pos (by omega), Int.toNat_natCast]
      rfl
    · rw [List.getElem?_set]
      by_cases h : i = j
      · subst h
        rw [if_pos rfl, if_pos (by omega), List.getElem?_eq_getElem hi']; rfl
      · rw [if_neg h]
        exact hj j (by omega)
theorem ev_toPairs {l : List S72} (hl : l.length ≤ 1048576) : Ev (fun k => laws_toPairS.f k l) (l.map toPr) := by
  unfold laws_toPairS.f
  simp only [show (0 : Int) ≤ (l.length : Int) by omega, if_true, show ((l.length : Int)).toNat ≤ 17592186044416 by omega]
  exact toPair_loop l hl _ 0 _ rfl (Nat.zero_le _) (by simp) (fun j hj => absurd hj (Nat.not_lt_zero _))
end Go.Proofs.Ytomdfjohnmikdaa.Pu
namespace Go.Proofs.Ytomdfjohnmikdaa.Pu
set_option linter.unusedVariables false
set_option linter.unusedSimpArgs false
open Go.RowKit Go.Proofs.Ytomdfjohnmikdaa.Kp Go.Proofs.Ytomdfjohnmikdaa.Ext Go.Proofs.Ytomdfjohnmikdaa.QS Go.Proofs.Ytomdfjohnmikdaa.Im Go.Proofs.Ytomdfjohnmikdaa.QFnExactIsPerfect Go.Proofs.YtomdfjohnmikdaaW.PrintWords Go.Proofs.YtomdfjohnmikdaaW.PrintLast Go.Proofs.YtomdfjohnmikdaaW.PrintMore
theorem FnExactIsPerfect (n0 : Int) (l0 : List Int) (_ : (Lit.int .i64 n0).wf = true) (hm0 : l0.length ≤ maxLen) (_ : ∀ x ∈ l0, (Lit.int .i64 x).wf = true) (l1 : List S72) (hm1 : l1.length ≤ maxLen) (_ : ∀ x ∈ l1, (Lit.int .i64 x.f0).wf = true ∧ (Lit.int .i64 x.f1).wf = true) : ∃ k, laws_FnExactIsPerfect.f k n0 l0 l1 = some true := by
  apply Ev.rounds
  unfold laws_FnExactIsPerfect.f
  by_cases hb0 : (1048576 : Int) < (l0.length : Int)
  · simp only [sz_cx hm0 (show (0 : Int) ≤ (1048576 : Int) by omega) (show (1048576 : Int) ≤ 1048576 by omega), Option.bind_some, if_pos hb0, show ((-1 : Int) < 0) = True by simp, if_true]
    exact Ev.now _
  simp only [sz_cx hm0 (show (0 : Int) ≤ (1048576 : Int) by omega) (show (1048576 : Int) ≤ 1048576 by omega), Option.bind_some, if_neg hb0, if_neg (show ¬ ((1048576 : Int) - (l0.length : Int) < 0) by omega)]
  by_cases hb1 : ((1048576 : Int) - (l0.length : Int)) < (l1.length : Int)
  · simp only [sz_prs hm1 (show (0 : Int) ≤ ((1048576 : Int) - (l0.length : Int)) by omega) (show ((1048576 : Int) - (l0.length : Int)) ≤ 1048576 by omega), Option.bind_some, if_pos hb1, show ((-1 : Int) < 0) = True by simp, if_true]
    exact Ev.now _
  simp only [sz_prs hm1 (show (0 : Int) ≤ ((1048576 : Int) - (l0.length : Int)) by omega) (show ((1048576 : Int) - (l0.length : Int)) ≤ 1048576 by omega), Option.bind_some, if_neg hb1, if_neg (show ¬ (((1048576 : Int) - (l0.length : Int)) - (l1.length : Int) < 0) by omega)]
  have hl0 : l0.length ≤ 1048576 := by omega
  have hl1 : l1.length ≤ 1048576 := by omega
  have hT := ev_toPairs hl1
  have hq1 : (l1.map toPr).length ≤ 1048576 := by simpa using hl1
  generalize l1.map toPr = q1 at hT hq1
  obtain ⟨D, hJ, hS⟩ := perf_law n0 hl0 hq1
  have hI := impl_IsPerfect.come n0 l0 q1 hJ
  have hS2 := spec_IsPerfect.come n0 l0 q1 hS
  obtain ⟨r1, r2⟩ := D
  repeat (first
      | (exact Ev.now _)
      | (refine Ev.bind (ev_toComplex hl0) ?_)
      | (refine Ev.bind hT ?_)
      | (refine Ev.bind (ev_eqComplex hl0) ?_)
      | (refine Ev.bind (ev_eqPairs hq1) ?_)
      | (simp only [hI, hS2, Option.bind_some, if_true, bne_self_eq_false, Bool.false_eq_true, if_false]))
end Go.Proofs.Ytomdfjohnmikdaa.Pu
