/- Words and lemmas for FnExactRestrictionsOf, part 4: what the row's text comes to. -/
import Derived.Test.YtomdfjohnmikdaaProg
import Derived.Below
import Derived.Deep.Draws
import Derived.Deep.AppendLies
import Derived.Maps.AppendAt
import Derived.OwnWalk
import Derived.Laws.BytesArg
import Derived.Laws.MakeOwn
import Derived.Laws.OwnMore
import Derived.Deep.OwnRows
import Derived.Tactics
import Derived.Lib.ConvBytes
import Derived.Laws.Slices
import Derived.WalkKit
import Derived.KernelRfl
import Derived.RowKit3
import Derived.Deep.LoopGhost
import Derived.Deep.QuietTactic
import Derived.BigQuiet
import Derived.WideLaws
import Derived.Deep.DeepCutAuto
import Derived.Deep.CutBlock
import Derived.Deep.RegionHeld3
import Derived.Laws.Rows
import Derived.Lib.AppendStr
import Derived.ArgAppend
import Derived.Laws.IdiomCopy
import Derived.OrdersHeld
import Derived.Laws.BitsLemmas
import Derived.RowKit
import Derived.Test.YtomdfjohnmikdaaZFnExactRestrictionsOfc
namespace Go.Proofs.Ytomdfjohnmikdaa.QN
open Go.Proofs.Ytomdfjohnmikdaa.Cw Go.Proofs.Ytomdfjohnmikdaa.Kp Go.Proofs.Ytomdfjohnmikdaa.Ext Go.RowKit Go.Proofs.YtomdfjohnmikdaaW.PrintWords Go.Proofs.YtomdfjohnmikdaaW.PrintLast Go.Proofs.YtomdfjohnmikdaaW.PrintMore
attribute [local go_sem] max2_int min2_int max_two min_two max_three min_three max_four min_four   -- for this text's walks alone
set_option linter.unusedVariables false
set_option linter.unusedSimpArgs false
def errW : Option Int → Value
 | none => .nilIface
 | some c => .iface 0 (.int .i64 c)
theorem errW_none : errW none = .nilIface := rfl
theorem errW_some (c : Int) : errW (some c) = .iface 0 (.int .i64 c) := rfl
theorem info2 : (Try.prog.info? 2).map (fun i => (i.zero, i.size, i.bytes)) = some (some (.int .i64 0), 1, 8) := by kernel_rfl
end Go.Proofs.Ytomdfjohnmikdaa.QN
namespace Go.Proofs.Ytomdfjohnmikdaa.QN
open Go.Proofs.Ytomdfjohnmikdaa.Cw Go.Proofs.Ytomdfjohnmikdaa.Kp Go.Proofs.Ytomdfjohnmikdaa.Ext Go.RowKit Go.Proofs.YtomdfjohnmikdaaW.PrintWords Go.Proofs.YtomdfjohnmikdaaW.PrintLast Go.Proofs.YtomdfjohnmikdaaW.PrintMore
attribute [local go_sem] max2_int min2_int max_two min_two max_three min_three max_four min_four   -- for this text's walks alone
set_option linter.unusedVariables false
set_option linter.unusedSimpArgs false
def impl_pureCode.f (a0_0 : Int) (l0_1 : List Int) : Option (Int) := (impl_complexCode.f a0_0 l0_1 (fnp 127)).bind fun t102 => (if t102 = 0 then ((impl_Complex_isPure.f a0_0 l0_1).bind fun t103 => (if t103 = true then (some 0) else (some 5))) else (some t102))
set_option maxHeartbeats 8000000 in
set_option maxRecDepth 100000 in
theorem impl_pureCode.calls (a0_0 : Int) (A0_1 : Option Addr) (c0_1 : Nat) (l0_1 : List Int) (r : Int) (w : World) (hr0_1 : Kd.C (Kd.int .i64) w A0_1 l0_1.length l0_1) (hc0_1 : l0_1.length ≤ c0_1) (h : impl_pureCode.f a0_0 l0_1 = some r) :
  Calls Try.prog 83 #[.agg #[.int .i64 a0_0, .slice A0_1 l0_1.length c0_1]] w fun e w' => e = .returned (.int .i64 r) ∧ Below w.heap.size w w' := by
 have hu28 := Try.underlying28
 have HR0_1 := Aside0.mk hr0_1
 have HC0_1 := Aside0.mk hc0_1
 clear hr0_1 hc0_1
 have HB := Aside0.mk (Below.refl w.heap.size w)
 have H : ((impl_complexCode.f a0_0 l0_1 (fnp 127)).bind fun t102 => (if t102 = 0 then ((impl_Complex_isPure.f a0_0 l0_1).bind fun t103 => (if t103 = true then (some 0) else (some 5))) else (some t102))) = some r := h
 clear h
 replace H := Option.bind_eq_some_iff.mp H
 obtain ⟨t102, A20, H⟩ := H
 try dsimp only at H
 have A2 := Aside0.mk A20
 clear A20
 by_cases c3 : t102 = 0
 ·rw [if_pos c3] at H
  have c3b0 : (t102 == 0) = true := beq_iff_eq.mpr c3
  have c3b1 : (t102 != 0) = false := bne_eq_false_iff_eq.mpr c3
  clear c3
  replace H := Option.bind_eq_some_iff.mp H
  obtain ⟨t103, A40, H⟩ := H
  try dsimp only at H
  have A4 := Aside0.mk A40
  clear A40
  by_cases c5 : t103 = true
  ·subst c5
   have H1 : (some 0) = some r := by rw [if_pos rfl] at H; exact H
   clear H
   have H := H1
   clear H1
   obtain rfl := Option.some.inj H
   go_enter Try.func83, Try.ntmps83
   go_wp2_with (first | ((with_reducible refine gate_dst (N := 1) rfl ?_); refine box_event ?hg (N := 1) ?hd (cs := #[.int .i64 a0_0, .slice A0_1 l0_1.length c0_1]) (t := 28) ?hr ?_; (case hd => rfl); (case hg => rfl); (case hr => first | (go_simp; done) | (go_simp; rfl)); intro gb101 hg w6 hbox hb; have BK101 := Aside0.mk (hbox); have GW101 := gH HB hg; have GE101 := gH HB hg; replace HB := sH HB hb; clear hb hbox hg; have hcz7_0 : w6.cell? ⟨gb101, 0, none⟩ = some (.int .i64 a0_0) := cB BK101 0; have hcz7_1 : w6.cell? ⟨gb101, 1, none⟩ = some (.slice A0_1 l0_1.length c0_1) := cB BK101 1; have hfz7_0 := zB BK101 0; have hfz7_1 := zB BK101 1) | ((with_reducible refine gate_callee (f := 53) rfl ?_); refine cl_ (some 5) Try.func53 #[.agg #[.int .i64 a0_0, .slice A0_1 l0_1.length c0_1], .func (.func 127) #[] #[]] ?_; (with_reducible refine (impl_complexCode.calls a0_0 _ _ l0_1 _ (fnp 127) t102 _ ?side1 ?side2 ?side3 A2.out).mono ?_); (case side1 => exact pC ((Kd.C_below HR0_1.out HB.out))); (case side2 => exact HC0_1.out); (case side3 => exact fnp_ok_127 _); rintro e w8 ⟨rfl, hb⟩; refine ⟨_, rfl, ?_⟩; replace BK101 := sB BK101 hb; replace HB := sH HB hb; (try clear hb); (try clear hi); have hcz9_0 : w8.cell? ⟨gb101, 0, none⟩ = some (.int .i64 a0_0) := cB BK101 0; have hcz9_1 : w8.cell? ⟨gb101, 1, none⟩ = some (.slice A0_1 l0_1.length c0_1) := cB BK101 1; have hfz9_0 := zB BK101 0; have hfz9_1 := zB BK101 1) | ((with_reducible refine gate_callee (f := 133) rfl ?_); refine cl_ (some 10) Try.func133 #[.agg #[.int .i64 a0_0, .slice A0_1 l0_1.length c0_1]] ?_; (with_reducible refine (impl_Complex_isPure.calls a0_0 _ _ l0_1 true _ ?side1 ?side2 A4.out).mono ?_); (case side1 => exact pC ((Kd.C_below HR0_1.out HB.out))); (case side2 => exact HC0_1.out); rintro e w10 ⟨rfl, hb⟩; refine ⟨_, rfl, ?_⟩; replace BK101 := sB BK101 hb; replace HB := sH HB hb; (try clear hb); (try clear hi)))
   go_ret
   exact ⟨by first | rfl | (simp [errW_none, errW_some] <;> rfl) | (simp [*, errW_none, errW_some] <;> rfl) | (exfalso; simp_all), pH HB⟩
  ·replace c5 := Bool.eq_false_iff.mpr c5
   subst c5
   have H1 : (some 5) = some r := by rw [if_neg (show ¬ (false = true) by decide)] at H; exact H
   clear H
   have H := H1
   clear H1
   obtain rfl := Option.some.inj H
   go_enter Try.func83, Try.ntmps83
   go_wp2_with (first | ((with_reducible refine gate_dst (N := 1) rfl ?_); refine box_event ?hg (N := 1) ?hd (cs := #[.int .i64 a0_0, .slice A0_1 l0_1.length c0_1]) (t := 28) ?hr ?_; (case hd => rfl); (case hg => rfl); (case hr => first | (go_simp; done) | (go_simp; rfl)); intro gb101 hg w11 hbox hb; have BK101 := Aside0.mk (hbox); have GW101 := gH HB hg; have GE101 := gH HB hg; replace HB := sH HB hb; clear hb hbox hg; have hcz12_0 : w11.cell? ⟨gb101, 0, none⟩ = some (.int .i64 a0_0) := cB BK101 0; have hcz12_1 : w11.cell? ⟨gb101, 1, none⟩ = some (.slice A0_1 l0_1.length c0_1) := cB BK101 1; have hfz12_0 := zB BK101 0; have hfz12_1 := zB BK101 1) | ((with_reducible refine gate_callee (f := 53) rfl ?_); refine cl_ (some 5) Try.func53 #[.agg #[.int .i64 a0_0, .slice A0_1 l0_1.length c0_1], .func (.func 127) #[] #[]] ?_; (with_reducible refine (impl_complexCode.calls a0_0 _ _ l0_1 _ (fnp 127) t102 _ ?side1 ?side2 ?side3 A2.out).mono ?_); (case side1 => exact pC ((Kd.C_below HR0_1.out HB.out))); (case side2 => exact HC0_1.out); (case side3 => exact fnp_ok_127 _); rintro e w13 ⟨rfl, hb⟩; refine ⟨_, rfl, ?_⟩; replace BK101 := sB BK101 hb; replace HB := sH HB hb; (try clear hb); (try clear hi); have hcz14_0 : w13.cell? ⟨gb101, 0, none⟩ = some (.int .i64 a0_0) := cB BK101 0; have hcz14_1 : w13.cell? ⟨gb101, 1, none⟩ = some (.slice A0_1 l0_1.length c0_1) := cB BK101 1; have hfz14_0 := zB BK101 0; have hfz14_1 := zB BK101 1) | ((with_reducible refine gate_callee (f := 133) rfl ?_); refine cl_ (some 10) Try.func133 #[.agg #[.int .i64 a0_0, .slice A0_1 l0_1.length c0_1]] ?_; (with_reducible refine (impl_Complex_isPure.calls a0_0 _ _ l0_1 false _ ?side1 ?side2 A4.out).mono ?_); (case side1 => exact pC ((Kd.C_below HR0_1.out HB.out))); (case side2 => exact HC0_1.out); rintro e w15 ⟨rfl, hb⟩; refine ⟨_, rfl, ?_⟩; replace BK101 := sB BK101 hb; replace HB := sH HB hb; (try clear hb); (try clear hi)))
   go_ret
   exact ⟨by first | rfl | (simp [errW_none, errW_some] <;> rfl) | (simp [*, errW_none, errW_some] <;> rfl) | (exfalso; simp_all), pH HB⟩
 ·rw [if_neg c3] at H
  have c3b0 : (t102 == 0) = false := beq_eq_false_iff_ne.mpr c3
  have c3b1 : (t102 != 0) = true := bne_iff_ne.mpr c3
  obtain rfl := Option.some.inj H
  go_enter Try.func83, Try.ntmps83
  go_wp2_with (first | ((with_reducible refine gate_dst (N := 1) rfl ?_); refine box_event ?hg (N := 1) ?hd (cs := #[.int .i64 a0_0, .slice A0_1 l0_1.length c0_1]) (t := 28) ?hr ?_; (case hd => rfl); (case hg => rfl); (case hr => first | (go_simp; done) | (go_simp; rfl)); intro gb101 hg w16 hbox hb; have BK101 := Aside0.mk (hbox); have GW101 := gH HB hg; have GE101 := gH HB hg; replace HB := sH HB hb; clear hb hbox hg; have hcz17_0 : w16.cell? ⟨gb101, 0, none⟩ = some (.int .i64 a0_0) := cB BK101 0; have hcz17_1 : w16.cell? ⟨gb101, 1, none⟩ = some (.slice A0_1 l0_1.length c0_1) := cB BK101 1; have hfz17_0 := zB BK101 0; have hfz17_1 := zB BK101 1) | ((with_reducible refine gate_callee (f := 53) rfl ?_); refine cl_ (some 5) Try.func53 #[.agg #[.int .i64 a0_0, .slice A0_1 l0_1.length c0_1], .func (.func 127) #[] #[]] ?_; (with_reducible refine (impl_complexCode.calls a0_0 _ _ l0_1 _ (fnp 127) t102 _ ?side1 ?side2 ?side3 A2.out).mono ?_); (case side1 => exact pC ((Kd.C_below HR0_1.out HB.out))); (case side2 => exact HC0_1.out); (case side3 => exact fnp_ok_127 _); rintro e w18 ⟨rfl, hb⟩; refine ⟨_, rfl, ?_⟩; replace BK101 := sB BK101 hb; replace HB := sH HB hb; (try clear hb); (try clear hi)))
  go_ret
  exact ⟨by first | rfl | (simp [errW_none, errW_some] <;> rfl) | (simp [*, errW_none, errW_some] <;> rfl) | (exfalso; simp_all), pH HB⟩
def impl_vertices.l0 : Nat → Int → List Int → Int → Option (List Int)
 | 0, _, _, _ => none
 | k + 1, x0, x3, x5 => if x5 < 6 then (if 0 ≤ x5 then (if (Go.bits .and .i64 (shr .i64 x0 x5) 1) = 1 then (if x3.length < 17592186044416 then (impl_vertices.l0 k x0 (x3 ++ [x5]) (wrap64 (x5 + 1))) else (none)) else (impl_vertices.l0 k x0 x3 (wrap64 (x5 + 1)))) else (none)) else (some x3)
def impl_vertices.f (k : Nat) (a0 : Int) : Option (List Int) := impl_vertices.l0 k a0 ([] : List Int) 0
theorem impl_vertices.mono_l : ∀ k, (∀ y0 y1 y2, LeO (impl_vertices.l0 k y0 y1 y2) (impl_vertices.l0 (k + 1) y0 y1 y2))
 | 0 => fun _ _ _ r h => by simp [impl_vertices.l0] at h
 | k + 1 => by
  have ih0 := impl_vertices.mono_l k
  ·intro y0 y1 y2
   unfold impl_vertices.l0
   repeat' first
   | (with_reducible exact ih0 _ _ _)
   | (with_reducible exact LeO.refl _)
   | (with_reducible exact LeO.none _)
   | (with_reducible refine LeO.ite ?_ ?_)
   | (with_reducible refine LeO.bind ?_ (fun _ => ?_))
   | exact ih0 _ _ _
   | exact LeO.none _
   | refine LeO.ite ?_ ?_
   | refine LeO.bind ?_ (fun _ => ?_)
theorem impl_vertices.mono : ∀ a0 k, LeO (impl_vertices.f k a0) (impl_vertices.f (k + 1) a0) := by
 intro a0 k
 have ih0 := impl_vertices.mono_l k
 unfold impl_vertices.f
 repeat' first
   | (with_reducible exact ih0 _ _ _)
   | (with_reducible exact LeO.refl _)
   | (with_reducible exact LeO.none _)
   | (with_reducible refine LeO.ite ?_ ?_)
   | (with_reducible refine LeO.bind ?_ (fun _ => ?_))
   | exact ih0 _ _ _
   | exact LeO.none _
   | refine LeO.ite ?_ ?_
   | refine LeO.bind ?_ (fun _ => ?_)
set_option maxHeartbeats 8000000 in
set_option maxRecDepth 100000 in
theorem impl_vertices.calls (k : Nat) (a0 : Int) (r : List Int) (w : World) (h : impl_vertices.f k a0 = some r) :
  Calls Try.prog 89 #[.int .i64 a0] w fun e w' => ∃ v0_ : Value, e = .returned (v0_) ∧ Kd.R (Kd.int .i64) 2 w' w.heap.size (fun _ => True) v0_ r ∧ Below w.heap.size w w' := by
 have HB := Aside0.mk (Below.refl w.heap.size w)
 have H : (impl_vertices.l0 k a0 ([] : List Int) 0) = some r := h
 clear h
 have H' := Aside0.mk H
 clear H
 go_enter Try.func89, Try.ntmps89
 go_wp2
 go_loopg [3, 5] k (fun kq v3 v5 w' => ∃ (x3_1 : List Int) (x5_1 : Int), v5 = .int .i64 x5_1 ∧ Aside0 (impl_vertices.l0 kq a0 x3_1 x5_1 = some r) ∧ Aside0 (kq ≤ k) ∧ Aside0 (Kd.R (Kd.int .i64) 2 w' w.heap.size (fun _ => True) v3 x3_1) ∧ Aside0 (Below w.heap.size w w'))
 case atStart => exact ⟨(([] : List Int)), (0), (by first | rfl | (simp; done) | (simp [*]; done)), H', ⟨Nat.le_refl _⟩, ⟨by first | exact Kd.R_nil _ _ _ _ _ | exact Kd.N_nil _ _ _ _ _ | exact Kd.V_nil _ _ _ _ _ | exact Kd.Q_nil _ _ _ _ _ | exact Kd.S_nil _ _ _ _ _⟩, ⟨pH HB⟩⟩
 case round =>
  clear H'
  obtain ⟨x3_1, x5_1, rfl, HA, HK1, HO_3, HB⟩ := hrel
  cases gk with
  | zero => exact absurd HA.out (by simp [impl_vertices.l0])
  | succ k1 =>
   have H := HA.out
   clear HA
   simp only [impl_vertices.l0] at H
   by_cases c2 : x5_1 < 6
   ·rw [if_pos c2] at H
    have c2b0 : decide (x5_1 < 6) = true := decide_eq_true c2
    clear c2
    by_cases c3 : 0 ≤ x5_1
    ·rw [if_pos c3] at H
     have c3b0 := eq_true c3
     have c3b1 : decide (0 ≤ x5_1) = true := decide_eq_true c3
     clear c3
     obtain ⟨ji4, hji4⟩ : ∃ j_ : Int, (shr .i64 a0 x5_1) = j_ := ⟨_, rfl⟩
     replace H : (if (Go.bits .and .i64 (ji4) 1) = 1 then (if x3_1.length < 17592186044416 then (impl_vertices.l0 k1 a0 (x3_1 ++ [x5_1]) (wrap64 (x5_1 + 1))) else (none)) else (impl_vertices.l0 k1 a0 x3_1 (wrap64 (x5_1 + 1)))) = some r := by first | (rw [hji4] at H; exact H) | (simp only [hji4] at H ⊢; exact H)
     have hji4_ : (a0 / 2 ^ min x5_1.toNat 64) = ji4 := hji4
     have hji4z : x5_1 ≤ 64 → (a0 / 2 ^ x5_1.toNat) = ji4 := shr_small hji4
     by_cases c5 : (Go.bits .and .i64 (ji4) 1) = 1
     ·rw [if_pos c5] at H
      have c5b0 : ((Go.bits .and .i64 (ji4) 1) == 1) = true := beq_iff_eq.mpr c5
      have c5b1 : ((Go.bits .and .i64 (ji4) 1) != 1) = false := bne_eq_false_iff_eq.mpr c5
      clear c5
      by_cases c6 : x3_1.length < 17592186044416
      ·rw [if_pos c6] at H
       have LMc6 := Aside0.mk c6
       clear c6
       obtain ⟨y107, hy107⟩ : ∃ y_ : List Int, y_ = (x3_1 ++ [x5_1]) := ⟨_, rfl⟩
       replace H : (impl_vertices.l0 k1 a0 y107 (wrap64 (x5_1 + 1))) = some r := by first | (rw [hy107]; with_reducible exact H) | (have H2_ := (Option.bind_some _ _).symm.trans H; rw [hy107]; with_reducible exact H2_) | (have H2_ := (Option.bind_some _ _).symm.trans H; with_reducible exact H2_) | with_reducible exact H | (rw [hy107]; exact H) | exact H
       have Ny107 := Aside0.mk hy107
       clear hy107
       have H' := Aside0.mk H
       clear H
       go_wp2_with (first | ((with_reducible refine gate_builtin (b := .append) (xs := #[.tmp 13, .tmp 15]) rfl ?_); at_builtin; refine Kd.R_append (Kd.int .i64) (w0 := w) w.heap.size rfl (.tmp 13) (.tmp 15) 22 2 (.int .i64 0) 8 rfl Try.underlying22 info2 rfl (by decide) (by omega) u3 x3_1 x5_1 [.int .i64 x5_1] (fun _ => True) (fun _ => False) rfl rfl ?aP (fun _ hk => hk.elim) ?aF ?aO ?aB ?aS ?aL ?_; (case aP => exact rfl); (case aB => exact (pH HB)); (case aF => exact (fun _ _ => trivial)); (case aO => exact (pR HO_3)); (case aS => exact (below_size (pH HB))); (case aL => have := LMc6.out; omega); intro v108 w7 ho hb hg hat; rw [← Ny107.out] at ho; replace HB := Aside0.mk (hb); have HO109 := Aside0.mk (ho); clear HO_3; clear ho hb hg hat))
       go_roundg k1
       case measure => have := HK1.out; omega
       case rel => exact ⟨(y107), (wrap64 (x5_1 + 1)), (by first | rfl | (simp; done) | (simp [*]; done)), H', ⟨by have := HK1.out; omega⟩, ⟨by (with_reducible repeat (first | apply Kd.R_alloc | apply Kd.R_drewN | apply Kd.R_drew)); exact HO109.out⟩, ⟨pH HB⟩⟩
      ·rw [if_neg c6] at H
       exact absurd H (by simp)
     ·rw [if_neg c5] at H
      have c5b0 : ((Go.bits .and .i64 (ji4) 1) == 1) = false := beq_eq_false_iff_ne.mpr c5
      have c5b1 : ((Go.bits .and .i64 (ji4) 1) != 1) = true := bne_iff_ne.mpr c5
      have H' := Aside0.mk H
      clear H
      go_wp2
      go_roundg k1
      case measure => have := HK1.out; omega
      case rel => exact ⟨(x3_1), (wrap64 (x5_1 + 1)), (by first | rfl | (simp; done) | (simp [*]; done)), H', ⟨by have := HK1.out; omega⟩, ⟨by (with_reducible repeat (first | apply Kd.R_alloc | apply Kd.R_drewN | apply Kd.R_drew)); exact HO_3.out⟩, ⟨pH HB⟩⟩
    ·rw [if_neg c3] at H
     exact absurd H (by simp)
   ·rw [if_neg c2] at H
    have c2b0 : decide (x5_1 < 6) = false := decide_eq_false c2
    clear c2
    obtain rfl := Option.some.inj H
    go_wp2
    go_ret
    exact ⟨_, by first | rfl | (simp [errW_none, errW_some] <;> rfl) | (simp [*, errW_none, errW_some] <;> rfl) | (exfalso; simp_all), by (with_reducible repeat (first | apply Kd.R_alloc | apply Kd.R_drewN | apply Kd.R_drew)); exact HO_3.out, pH HB⟩
def impl_RestrictionsOf_1.f (a0 : Int) (a1_0 : Int) (a2_0 : Int) : Option (Bool) := if 0 ≤ a2_0 then ((impl_isIn.f (Go.bits .andNot .i64 a1_0 (shl .i64 1 a2_0)) a0).bind fun t112 => (some t112)) else (none)
set_option maxHeartbeats 8000000 in
set_option maxRecDepth 100000 in
theorem impl_RestrictionsOf_1.calls (a0 : Int) (g1 : Nat) (a1_0 : Int) (g2 : Nat) (a2_0 : Int) (r : Bool) (w : World) (hb1 : w.heap[g1]? = some (.cells #[.int .i64 a1_0] 2 (0, 0))) (hb2 : w.heap[g2]? = some (.cells #[.int .i64 a2_0] 2 (0, 0))) (h : impl_RestrictionsOf_1.f a0 a1_0 a2_0 = some r) :
  Calls Try.prog 91 #[.int .i64 a0, .pointer (some ⟨g1, 0, none⟩), .pointer (some ⟨g2, 0, none⟩)] w fun e w' => e = .returned (.bool r) ∧ Below w.heap.size w w' := by
 have BK110 := Aside0.mk hb1
 clear hb1
 have BK111 := Aside0.mk hb2
 clear hb2
 have HB := Aside0.mk (Below.refl w.heap.size w)
 have H : (if 0 ≤ a2_0 then ((impl_isIn.f (Go.bits .andNot .i64 a1_0 (shl .i64 1 a2_0)) a0).bind fun t112 => (some t112)) else (none)) = some r := h
 clear h
 by_cases c4 : 0 ≤ a2_0
 ·rw [if_pos c4] at H
  have c4b0 := eq_true c4
  have c4b1 : decide (0 ≤ a2_0) = true := decide_eq_true c4
  clear c4
  obtain ⟨ji5, hji5⟩ : ∃ j_ : Int, (shl .i64 1 a2_0) = j_ := ⟨_, rfl⟩
  replace H : ((impl_isIn.f (Go.bits .andNot .i64 a1_0 (ji5)) a0).bind fun t112 => (some t112)) = some r := by first | (rw [hji5] at H; exact H) | (simp only [hji5] at H ⊢; exact H)
  have hji5_ : (IntKind.i64.wrap (1 * 2 ^ min a2_0.toNat 64)) = ji5 := hji5
  have hji5z : a2_0 ≤ 64 → (IntKind.i64.wrap (1 * 2 ^ a2_0.toNat)) = ji5 := shl_small hji5
  have hji5u : (IntKind.i64.wrap (2 ^ min a2_0.toNat 64)) = ji5 := by have h_ := hji5_; rw [Int.one_mul] at h_; exact h_
  have hji5v : a2_0 ≤ 64 → (IntKind.i64.wrap (2 ^ a2_0.toNat)) = ji5 := fun hle_ => by have h_ := hji5z hle_; rw [Int.one_mul] at h_; exact h_
  have hji5y : (wrap64 (1 * 2 ^ min a2_0.toNat 64)) = ji5 := (i64_w _).symm.trans hji5_
  have hji5x : a2_0 ≤ 64 → (wrap64 (1 * 2 ^ a2_0.toNat)) = ji5 := fun h_ => (i64_w _).symm.trans (hji5z h_)
  replace H := Option.bind_eq_some_iff.mp H
  obtain ⟨t112, A60, H⟩ := H
  try dsimp only at H
  have A6 := Aside0.mk A60
  clear A60
  obtain rfl := Option.some.inj H
  go_enter Try.func91, Try.ntmps91
  try go_wp2
  replace BK110 := dB BK110
  replace BK111 := dB BK111
  replace HB := dH HB
  refine st_ 7 (S := fun w' => w'.cell? ⟨g1, 0, none⟩ = some (.int .i64 a1_0) ∧ w'.cell? ⟨g2, 0, none⟩ = some (.int .i64 a2_0)) (ds := []) ⟨cB BK110 0, cB BK111 0⟩ (fun hHeld => ?_)
  generalize w.drew = w7 at BK110 BK111 HB hHeld ⊢
  refine pure_ (i := 4) (N := some 9) (v := ?_) (a' := ?_) (mB 7 16) rfl rfl (by kernel_rfl) (fun _ _ _ h => h) (Or.inl ⟨by rfl, ?_⟩) ?_ ?_
  rotate_left
  ·intro w'
   go_simp
   with_reducible rfl
  rotate_left
  ·simp only [Act.put, List.setIfInBounds_toArray, List.set_cons_zero, List.set_cons_succ, i64_w, i32_w]
   rfl
  refine take_ (i := 0) (N := some 5) (v := ?_) (a' := ?_) (mB 7 17) rfl rfl (by kernel_rfl) (fun _ _ _ h => h) (Or.inl ⟨by rfl, ?_⟩) hHeld ?_ ?_
  rotate_left
  ·rintro w' ⟨s0, s1⟩
   go_simp
   with_reducible rfl
  rotate_left
  ·simp only [Act.put, List.setIfInBounds_toArray, List.set_cons_zero, List.set_cons_succ, i64_w, i32_w]
   rfl
  refine take_ (i := 1) (N := some 6) (v := ?_) (a' := ?_) (mB 7 19) rfl rfl (by kernel_rfl) (fun _ _ _ h => h) (Or.inl ⟨by rfl, ?_⟩) hHeld ?_ ?_
  rotate_left
  ·rintro w' ⟨s0, s1⟩
   go_simp
   with_reducible rfl
  rotate_left
  ·simp only [Act.put, List.setIfInBounds_toArray, List.set_cons_zero, List.set_cons_succ, i64_w, i32_w]
   rfl
  refine pure_ (i := 2) (N := some 7) (v := ?_) (a' := ?_) (mB 7 23) rfl rfl (by kernel_rfl) (fun _ _ _ h => h) (Or.inl ⟨by rfl, ?_⟩) ?_ ?_
  rotate_left
  ·intro w'
   go_simp
   with_reducible rfl
  rotate_left
  ·simp only [Act.put, List.setIfInBounds_toArray, List.set_cons_zero, List.set_cons_succ, i64_w, i32_w]
   rfl
  refine pure_ (i := 3) (N := some 8) (v := ?_) (a' := ?_) (mB 7 31) rfl rfl (by kernel_rfl) (fun _ _ _ h => h) (Or.inl ⟨by rfl, ?_⟩) ?_ ?_
  rotate_left
  ·intro w'
   go_simp
   with_reducible rfl
  rotate_left
  ·simp only [Act.put, List.setIfInBounds_toArray, List.set_cons_zero, List.set_cons_succ, i64_w, i32_w]
   rfl
  refine one_ (i := 5) (N := some 10) (mB 7 63) rfl rfl (by kernel_rfl) (by decide) (fun K hK => ?_)
  refine ca_ Try.func92 #[.int .i64 (Go.bits .andNot .i64 a1_0 (ji5)), .int .i64 a0] (hargs := by (try simp only [List.map_toArray, List.map_cons, List.map_nil]); first | done | (simp only [hji5]; rfl) | rfl | (simp only [List.length_drop, List.length_take]; rfl)) ?_
  with_reducible refine (impl_isIn.calls (Go.bits .andNot .i64 a1_0 (ji5)) a0 t112 _ A6.out).mono ?_
  rintro e w8 ⟨rfl, hb⟩
  refine ⟨_, rfl, ?_⟩
  replace BK110 := sB BK110 hb
  replace BK111 := sB BK111 hb
  replace HB := sH HB hb
  (try clear hb)
  (try clear hb2)
  (try clear hk)
  (try clear hi)
  refine hK.out _ _ ⟨cB BK110 0, cB BK111 0⟩ (fun hHeld => ?_)
  clear hK K
  refine nm_ ?_
  refine pure_ (i := 6) (N := some 4) (v := ?_) (a' := ?_) (mB 7 127) rfl rfl (by kernel_rfl) (fun _ _ _ h => h) (Or.inl ⟨by rfl, ?_⟩) ?_ ?_
  rotate_left
  ·intro w'
   go_simp
   with_reducible rfl
  rotate_left
  ·simp only [Act.put, List.setIfInBounds_toArray, List.set_cons_zero, List.set_cons_succ, i64_w, i32_w]
   rfl
  refine done_ (by kernel_rfl) ?_
  try go_wp2
  go_ret
  exact ⟨by first | rfl | (simp [errW_none, errW_some] <;> rfl) | (simp only [← hji5]; first | rfl | (simp [errW_none, errW_some] <;> rfl)) | (simp [*, errW_none, errW_some] <;> rfl) | (exfalso; simp_all), pH HB⟩
 ·rw [if_neg c4] at H
  exact absurd H (by simp)
def clo_91 (a1_0 : Int) (a2_0 : Int) : Pred := Pred.ofI (fun x => impl_RestrictionsOf_1.f x a1_0 a2_0)
set_option maxRecDepth 100000 in
theorem clo_ok_91 {W : World} {g1 : Nat} {a1_0 : Int} {g2 : Nat} {a2_0 : Int} (hb1 : W.heap[g1]? = some (.cells #[.int .i64 a1_0] 2 (0, 0))) (hb2 : W.heap[g2]? = some (.cells #[.int .i64 a2_0] 2 (0, 0)))  : FnOk (.func (.func 91) #[] #[.pointer (some ⟨g1, 0, none⟩), .pointer (some ⟨g2, 0, none⟩)]) (clo_91 a1_0 a2_0) W :=
 FnOk.ofI (enters_of Try.func91 (by kernel_rfl) rfl) (fun V x b hV hr => by
  show Calls Try.prog 91 #[.int .i64 x, .pointer (some ⟨g1, 0, none⟩), .pointer (some ⟨g2, 0, none⟩)] V _
  exact (impl_RestrictionsOf_1.calls x g1 a1_0 g2 a2_0 b V ((hV.block g1 (blk_lt hb1)).trans hb1) ((hV.block g2 (blk_lt hb2)).trans hb2) hr).mono (fun e w' h_ => ⟨h_.1, h_.2⟩))
mutual
def impl_RestrictionsOf.l0 : Nat → List Int → List Int → List Int → Int → Int → Option (List Int × Int)
 | 0, _, _, _, _, _ => none
 | k + 1, x1, x7, x22, x23, x24 => if x24 < x23 then (if 0 ≤ x24 then (if x24 < (x22.length : Int) then ((impl_vertices.f k (rd x22 x24)).bind fun t118 => (impl_RestrictionsOf.l1 k x1 x7 x24 0 x22 x23 x24 t118 (t118.length : Int) 0 (rd x22 x24))) else (none)) else (none)) else (some (x7, 0))
def impl_RestrictionsOf.l1 : Nat → List Int → List Int → Int → Int → List Int → Int → Int → List Int → Int → Int → Int → Option (List Int × Int)
 | 0, _, _, _, _, _, _, _, _, _, _, _ => none
 | k + 1, x1, x7, x8, x10, x22, x23, x24, x30, x31, x32, x118000 => if x32 < x31 then (if 0 ≤ x32 then (if x32 < (x30.length : Int) then (if 0 ≤ x8 then (if x8 ≤ (x1.length : Int) then ((slices_ContainsFunc_int64_int64.f (x1.take (x8 : Int).toNat) (clo_91 x118000 (rd x30 x32))).bind fun t124 => (if t124 = true then (if 0 ≤ (rd x30 x32) then (impl_RestrictionsOf.l1 k x1 x7 x8 (Go.bits .or .i64 x10 (shl .i64 1 (rd x30 x32))) x22 x23 x24 x30 x31 (wrap64 (x32 + 1)) x118000) else (none)) else (impl_RestrictionsOf.l1 k x1 x7 x8 x10 x22 x23 x24 x30 x31 (wrap64 (x32 + 1)) x118000))) else (none)) else (none)) else (none)) else (none)) else (if x7.length < 17592186044416 then (impl_RestrictionsOf.l0 k x1 (x7 ++ [x10]) x22 x23 (wrap64 (x24 + 1))) else (none))
end
def impl_RestrictionsOf.f (k : Nat) (a0_0 : Int) (l0_1 : List Int) (l1 : List Int) : Option (List Int × Int) := (impl_pureCode.f a0_0 l0_1).bind fun t114 => (if t114 = 0 then ((impl_Complex_isShelling.f a0_0 l0_1 l1).bind fun t115 => (if t115 = true then (impl_RestrictionsOf.l0 k l1 ([] : List Int) l1 (l1.length : Int) 0) else (some (([] : List Int), 5)))) else (some (([] : List Int), t114)))
theorem impl_RestrictionsOf.mono_l : ∀ k, (∀ y0 y1 y2 y3 y4, LeO (impl_RestrictionsOf.l0 k y0 y1 y2 y3 y4) (impl_RestrictionsOf.l0 (k + 1) y0 y1 y2 y3 y4)) ∧ (∀ y0 y1 y2 y3 y4 y5 y6 y7 y8 y9 y10, LeO (impl_RestrictionsOf.l1 k y0 y1 y2 y3 y4 y5 y6 y7 y8 y9 y10) (impl_RestrictionsOf.l1 (k + 1) y0 y1 y2 y3 y4 y5 y6 y7 y8 y9 y10))
 | 0 => ⟨fun _ _ _ _ _ r h => by simp [impl_RestrictionsOf.l0] at h, fun _ _ _ _ _ _ _ _ _ _ _ r h => by simp [impl_RestrictionsOf.l1] at h⟩
 | k + 1 => by
  obtain ⟨ih0, ih1⟩ := impl_RestrictionsOf.mono_l k
  refine ⟨?_, ?_⟩
  ·intro y0 y1 y2 y3 y4
   unfold impl_RestrictionsOf.l0
   repeat' first
   | (with_reducible exact ih0 _ _ _ _ _)
   | (with_reducible exact ih1 _ _ _ _ _ _ _ _ _ _ _)
   | (with_reducible exact impl_vertices.mono _ _)
   | (with_reducible exact LeO.refl _)
   | (with_reducible exact LeO.none _)
   | (with_reducible refine LeO.ite ?_ ?_)
   | (with_reducible refine LeO.bind ?_ (fun _ => ?_))
   | exact ih0 _ _ _ _ _
   | exact ih1 _ _ _ _ _ _ _ _ _ _ _
   | exact impl_vertices.mono _ _
   | exact LeO.none _
   | refine LeO.ite ?_ ?_
   | refine LeO.bind ?_ (fun _ => ?_)
  ·intro y0 y1 y2 y3 y4 y5 y6 y7 y8 y9 y10
   unfold impl_RestrictionsOf.l1
   repeat' first
   | (with_reducible exact ih0 _ _ _ _ _)
   | (with_reducible exact ih1 _ _ _ _ _ _ _ _ _ _ _)
   | (with_reducible exact impl_vertices.mono _ _)
   | (with_reducible exact LeO.refl _)
   | (with_reducible exact LeO.none _)
   | (with_reducible refine LeO.ite ?_ ?_)
   | (with_reducible refine LeO.bind ?_ (fun _ => ?_))
   | exact ih0 _ _ _ _ _
   | exact ih1 _ _ _ _ _ _ _ _ _ _ _
   | exact impl_vertices.mono _ _
   | exact LeO.none _
   | refine LeO.ite ?_ ?_
   | refine LeO.bind ?_ (fun _ => ?_)
theorem impl_RestrictionsOf.mono : ∀ a0 a1 a2 k, LeO (impl_RestrictionsOf.f k a0 a1 a2) (impl_RestrictionsOf.f (k + 1) a0 a1 a2) := by
 intro a0 a1 a2 k
 obtain ⟨ih0, ih1⟩ := impl_RestrictionsOf.mono_l k
 unfold impl_RestrictionsOf.f
 repeat' first
   | (with_reducible exact ih0 _ _ _ _ _)
   | (with_reducible exact ih1 _ _ _ _ _ _ _ _ _ _ _)
   | (with_reducible exact impl_vertices.mono _ _)
   | (with_reducible exact LeO.refl _)
   | (with_reducible exact LeO.none _)
   | (with_reducible refine LeO.ite ?_ ?_)
   | (with_reducible refine LeO.bind ?_ (fun _ => ?_))
   | exact ih0 _ _ _ _ _
   | exact ih1 _ _ _ _ _ _ _ _ _ _ _
   | exact impl_vertices.mono _ _
   | exact LeO.none _
   | refine LeO.ite ?_ ?_
   | refine LeO.bind ?_ (fun _ => ?_)
set_option maxHeartbeats 8000000 in
set_option maxRecDepth 100000 in
theorem impl_RestrictionsOf.calls (k : Nat) (a0_0 : Int) (A0_1 : Option Addr) (c0_1 : Nat) (l0_1 : List Int) (A1 : Option Addr) (c1 : Nat) (l1 : List Int) (r1 : List Int) (r2 : Int) (w : World) (hr0_1 : Kd.C (Kd.int .i64) w A0_1 l0_1.length l0_1) (hc0_1 : l0_1.length ≤ c0_1) (hr1 : Kd.C (Kd.int .i64) w A1 l1.length l1) (hc1 : l1.length ≤ c1) (h : impl_RestrictionsOf.f k a0_0 l0_1 l1 = some (r1, r2)) :
  Calls Try.prog 39 #[.agg #[.int .i64 a0_0, .slice A0_1 l0_1.length c0_1], .slice A1 l1.length c1] w fun e w' => ∃ v0_ : Value, e = .returned (.tuple #[v0_, .int .i64 r2]) ∧ Kd.R (Kd.int .i64) 2 w' w.heap.size (fun _ => True) v0_ r1 ∧ Below w.heap.size w w' := by
 have hu28 := Try.underlying28
 have HR0_1 := Aside0.mk hr0_1
 have HC0_1 := Aside0.mk hc0_1
 clear hr0_1 hc0_1
 have HR1 := Aside0.mk hr1
 have HC1 := Aside0.mk hc1
 clear hr1 hc1
 have HB := Aside0.mk (Below.refl w.heap.size w)
 have H : ((impl_pureCode.f a0_0 l0_1).bind fun t114 => (if t114 = 0 then ((impl_Complex_isShelling.f a0_0 l0_1 l1).bind fun t115 => (if t115 = true then (impl_RestrictionsOf.l0 k l1 ([] : List Int) l1 (l1.length : Int) 0) else (some (([] : List Int), 5)))) else (some (([] : List Int), t114)))) = some (r1, r2) := h
 clear h
 replace H := Option.bind_eq_some_iff.mp H
 obtain ⟨t114, A30, H⟩ := H
 try dsimp only at H
 have A3 := Aside0.mk A30
 clear A30
 by_cases c4 : t114 = 0
 ·rw [if_pos c4] at H
  have c4b0 : (t114 == 0) = true := beq_iff_eq.mpr c4
  have c4b1 : (t114 != 0) = false := bne_eq_false_iff_eq.mpr c4
  clear c4
  replace H := Option.bind_eq_some_iff.mp H
  obtain ⟨t115, A50, H⟩ := H
  try dsimp only at H
  have A5 := Aside0.mk A50
  clear A50
  by_cases c6 : t115 = true
  ·subst c6
   have H1 : (impl_RestrictionsOf.l0 k l1 ([] : List Int) l1 (l1.length : Int) 0) = some (r1, r2) := by rw [if_pos rfl] at H; exact H
   clear H
   have H := H1
   clear H1
   have H' := Aside0.mk H
   clear H
   go_enter Try.func39, Try.ntmps39
   go_wp2_with (first | ((with_reducible refine gate_dst (N := 2) rfl ?_); refine box_event ?hg (N := 2) ?hd (cs := #[.int .i64 a0_0, .slice A0_1 l0_1.length c0_1]) (t := 28) ?hr ?_; (case hd => rfl); (case hg => rfl); (case hr => first | (go_simp; done) | (go_simp; rfl)); intro gb113 hg w7 hbox hb; have BK113 := Aside0.mk (hbox); have GW113 := gH HB hg; have GE113 := gH HB hg; replace HB := sH HB hb; clear hb hbox hg; have hcz8_0 : w7.cell? ⟨gb113, 0, none⟩ = some (.int .i64 a0_0) := cB BK113 0; have hcz8_1 : w7.cell? ⟨gb113, 1, none⟩ = some (.slice A0_1 l0_1.length c0_1) := cB BK113 1; have hfz8_0 := zB BK113 0; have hfz8_1 := zB BK113 1) | ((with_reducible refine gate_callee (f := 83) rfl ?_); refine cl_ (some 14) Try.func83 #[.agg #[.int .i64 a0_0, .slice A0_1 l0_1.length c0_1]] ?_; (with_reducible refine (impl_pureCode.calls a0_0 _ _ l0_1 t114 _ ?side1 ?side2 A3.out).mono ?_); (case side1 => exact pC ((Kd.C_below HR0_1.out HB.out))); (case side2 => exact HC0_1.out); rintro e w9 ⟨rfl, hb⟩; refine ⟨_, rfl, ?_⟩; replace BK113 := sB BK113 hb; replace HB := sH HB hb; (try clear hb); (try clear hi); have hcz10_0 : w9.cell? ⟨gb113, 0, none⟩ = some (.int .i64 a0_0) := cB BK113 0; have hcz10_1 : w9.cell? ⟨gb113, 1, none⟩ = some (.slice A0_1 l0_1.length c0_1) := cB BK113 1; have hfz10_0 := zB BK113 0; have hfz10_1 := zB BK113 1) | ((with_reducible refine gate_callee (f := 88) rfl ?_); refine cl_ (some 20) Try.func88 #[.agg #[.int .i64 a0_0, .slice A0_1 l0_1.length c0_1], .slice A1 l1.length c1] ?_; (with_reducible refine (impl_Complex_isShelling.calls a0_0 _ _ l0_1 _ _ l1 true _ ?side1 ?side2 ?side3 ?side4 A5.out).mono ?_); (case side1 => exact pC ((Kd.C_below HR0_1.out HB.out))); (case side2 => exact HC0_1.out); (case side3 => exact pC ((Kd.C_below HR1.out HB.out))); (case side4 => exact HC1.out); rintro e w11 ⟨rfl, hb⟩; refine ⟨_, rfl, ?_⟩; replace BK113 := sB BK113 hb; replace HB := sH HB hb; (try clear hb); (try clear hi)))
   go_loopg [7, 24] k (fun kq v7 v24 w' => ∃ (x7_1 : List Int) (x24_1 : Int), v24 = .int .i64 x24_1 ∧ Aside0 (impl_RestrictionsOf.l0 kq l1 x7_1 l1 (l1.length : Int) x24_1 = some (r1, r2)) ∧ Aside0 (kq ≤ k) ∧ Aside0 (Kd.R (Kd.int .i64) 2 w' w.heap.size (fun _ => True) v7 x7_1) ∧ Aside0 (w'.heap[gb113]? = some (.cells #[.int .i64 a0_0, (.slice A0_1 l0_1.length c0_1)] 28 (0, 0))) ∧ Aside0 (Below w.heap.size w w'))
   case atStart => exact ⟨(([] : List Int)), (0), (by first | rfl | (simp; done) | (simp [*]; done)), H', ⟨Nat.le_refl _⟩, ⟨by first | exact Kd.R_nil _ _ _ _ _ | exact Kd.N_nil _ _ _ _ _ | exact Kd.V_nil _ _ _ _ _ | exact Kd.Q_nil _ _ _ _ _ | exact Kd.S_nil _ _ _ _ _⟩, ⟨pB BK113⟩, ⟨pH HB⟩⟩
   case round =>
    clear H'
    try clear c1
    try clear p2
    try clear c3
    try clear c4
    try clear c4b0
    try clear c4b1
    try clear c6
    try clear c8
    try clear hcz10_0
    try clear hcz10_1
    try clear hcz8_0
    try clear hcz8_1
    try clear hfz10_0
    try clear hfz10_1
    try clear hfz8_0
    try clear hfz8_1
    obtain ⟨x7_1, x24_1, rfl, HA, HK1, HO_7, BK113, HB⟩ := hrel
    cases gk with
    | zero => exact absurd HA.out (by simp [impl_RestrictionsOf.l0])
    | succ k1 =>
     have H := HA.out
     clear HA
     simp only [impl_RestrictionsOf.l0] at H
     by_cases c12 : x24_1 < (l1.length : Int)
     ·rw [if_pos c12] at H
      have c12b0 : decide (x24_1 < (l1.length : Int)) = true := decide_eq_true c12
      clear c12
      by_cases c13 : 0 ≤ x24_1
      ·rw [if_pos c13] at H
       have c13b0 : decide (0 ≤ x24_1) = true := decide_eq_true c13
       clear c13
       by_cases c14 : x24_1 < (l1.length : Int)
       ·rw [if_pos c14] at H
        have c14b0 : decide (x24_1 < (l1.length : Int)) = true := decide_eq_true c14
        clear c14
        replace H := Option.bind_eq_some_iff.mp H
        obtain ⟨t118, A150, H⟩ := H
        try dsimp only at H
        have A15 := Aside0.mk A150
        clear A150
        have H' := Aside0.mk H
        clear H
        have p116 : 0 ≤ (x24_1 : Int) := of_decide_eq_true (by first | (with_reducible assumption) | assumption)
        have q116 : x24_1 < (l1.length : Int) := of_decide_eq_true (by first | (with_reducible assumption) | assumption)
        obtain ⟨ad116, e116, hx116_0⟩ := Kd.at_int HR1.out x24_1 p116 q116
        cases e116
        replace hx116_0 := cH HB hx116_0
        replace p116 := eq_true p116
        replace q116 := eq_true q116
        go_wp2_with (first | ((with_reducible refine gate_dst (N := 9) rfl ?_); refine box_event ?hg (N := 9) ?hd (cs := #[.int .i64 0]) (t := 2) ?hr ?_; (case hd => rfl); (case hg => rfl); (case hr => first | (go_simp; done) | (go_simp; rfl)); intro gb117 hg w16 hbox hb; replace HO_7 := Aside0.mk (Kd.R_below (Kd.R_elderB (pR HO_7) gb117 (Nat.le_of_eq hg.symm)) hb); have BK117 := Aside0.mk (hbox); have GW117 := gH HB hg; have GE117 := gH HB hg; replace HB := sH HB hb; have NB113_117 := nB BK113 hg; have NB117_113 := oB BK113 hg; replace BK113 := sB BK113 hb; clear hb hbox hg; (try have hnb17 := NB117_113.out); (try have hnc17 := NB113_117.out); have hcz18_0 : w16.cell? ⟨gb117, 0, none⟩ = some (.int .i64 0) := cB BK117 0; have hfz18_0 := zB BK117 0) | ((with_reducible refine gate_callee (f := 89) rfl ?_); refine cl_ (some 30) Try.func89 #[.int .i64 (rd l1 x24_1)] ?_; (with_reducible refine (impl_vertices.calls k1 (rd l1 x24_1) t118 _ A15.out).mono ?_); rintro e w19 ⟨v119, rfl, ho0, hb⟩; refine ⟨_, rfl, ?_⟩; have n0_ := Aside0.mk (Kd.R_elder' (by (with_reducible repeat (first | apply Kd.R_alloc | apply Kd.R_drewN | apply Kd.R_drew)); exact (Kd.R_mono (Kd.R_far (p := ⟨gb117, 0, none⟩) (Kd.R_mono HO_7.out (fun k_ hk => (⟨hk, hk.2⟩ : _ ∧ k_ ≠ gb117))) (fun _ hk => hk.2) (.int .i64 (rd l1 x24_1))) (fun _ h_ => h_.1))) (Kd.R_base ho0) hb); have n1_ := Aside0.mk (Kd.R_lower (Kd.R_newB (Kd.R_new' ho0 (Kd.R_lt (by (with_reducible repeat (first | apply Kd.R_alloc | apply Kd.R_drewN | apply Kd.R_drew)); exact (Kd.R_mono (Kd.R_far (p := ⟨gb117, 0, none⟩) (Kd.R_mono HO_7.out (fun k_ hk => (⟨hk, hk.2⟩ : _ ∧ k_ ≠ gb117))) (fun _ hk => hk.2) (.int .i64 (rd l1 x24_1))) (fun _ h_ => h_.1))))) (g := gb117) (o := .cells #[.int .i64 (rd l1 x24_1)] 2 (0, 0)) (by (with_reducible repeat (first | refine blk_drewN ?_ _ | refine blk_drew ?_ | refine blk_alloc ?_ _)); refine blk_put (cs := #[.int .i64 0]) ?_ 0 _ rfl; (with_reducible repeat (first | refine blk_drewN ?_ _ | refine blk_drew ?_ | refine blk_alloc ?_ _)); exact BK117.out)) (below_size (pH HB))); have n2_ := Aside0.mk (blk_below (g := gb113) (o := .cells #[.int .i64 a0_0, .slice A0_1 l0_1.length c0_1] 28 (0, 0)) (by (with_reducible repeat (first | refine blk_drewN ?_ _ | refine blk_drew ?_ | refine blk_alloc ?_ _)); refine blk_far ?_ NB113_117.out _; (with_reducible repeat (first | refine blk_drewN ?_ _ | refine blk_drew ?_ | refine blk_alloc ?_ _)); exact BK113.out) hb); have n3_ := Aside0.mk (blk_below (g := gb117) (o := .cells #[.int .i64 (rd l1 x24_1)] 2 (0, 0)) (by (with_reducible repeat (first | refine blk_drewN ?_ _ | refine blk_drew ?_ | refine blk_alloc ?_ _)); refine blk_put (cs := #[.int .i64 0]) ?_ 0 _ rfl; (with_reducible repeat (first | refine blk_drewN ?_ _ | refine blk_drew ?_ | refine blk_alloc ?_ _)); exact BK117.out) hb); have n4_ := sH HB hb; clear HO_7; clear BK113; clear BK117; clear HB; have HO_7 := n0_; have HO120 := n1_; have BK113 := n2_; have BK117 := n3_; have HB := n4_; clear n0_ n1_ n2_ n3_ n4_; (try clear hb); (try clear hi); (try clear ho0); obtain ⟨Ao20, co20, eo20⟩ := Kd.R_slice HO120.out; subst eo20))
        go_loopg [10, 32] k1 (fun kq v10 v32 w' => ∃ (x10_2 : Int) (x32_2 : Int), v10 = .int .i64 x10_2 ∧ v32 = .int .i64 x32_2 ∧ Aside0 (impl_RestrictionsOf.l1 kq l1 x7_1 x24_1 x10_2 l1 (l1.length : Int) x24_1 t118 (t118.length : Int) x32_2 (rd l1 x24_1) = some (r1, r2)) ∧ Aside0 (kq ≤ k1) ∧ Aside0 (Kd.R (Kd.int .i64) 2 w' w.heap.size (fun k_ => some k_ ≠ ((.slice Ao20 t118.length co20) : Value).ownBlock ∧ k_ ≠ gb117) u7 x7_1) ∧ Aside0 (Kd.R (Kd.int .i64) 2 w' w.heap.size (fun k_ => some k_ ≠ (u7 : Value).ownBlock ∧ k_ ≠ gb117) (.slice Ao20 t118.length co20) t118) ∧ Aside0 (w'.heap[gb113]? = some (.cells #[.int .i64 a0_0, (.slice A0_1 l0_1.length c0_1)] 28 (0, 0))) ∧ Aside0 (w'.heap[gb117]? = some (.cells #[.int .i64 (rd l1 x24_1)] 2 (0, 0))) ∧ Aside0 (Below w.heap.size w w'))
        case atStart => exact ⟨(0), (0), (by first | rfl | (simp; done) | (simp [*]; done)), (by first | rfl | (simp; done) | (simp [*]; done)), H', ⟨Nat.le_refl _⟩, ⟨by (with_reducible repeat (first | apply Kd.R_alloc | apply Kd.R_drewN | apply Kd.R_drew)); exact Kd.R_mono HO_7.out (fun _ hk => ⟨hk.2, hk.1.2⟩)⟩, ⟨by (with_reducible repeat (first | apply Kd.R_alloc | apply Kd.R_drewN | apply Kd.R_drew)); exact Kd.R_mono HO120.out (fun _ hk => ⟨hk.1.2, hk.2⟩)⟩, ⟨pB BK113⟩, ⟨pB BK117⟩, ⟨pH HB⟩⟩
        case round =>
         clear H'
         try clear c1
         try clear p1
         try clear q1
         try clear hx1
         try clear p2
         try clear c3
         try clear c4
         try clear c4b0
         try clear c4b1
         try clear c6
         try clear c8
         try clear p11
         try clear q11
         try clear hx11
         try clear c12
         try clear c12b0
         try clear c13
         try clear c13b0
         try clear c14
         try clear c14b0
         try clear c17
         try clear hcz10_0
         try clear hcz10_1
         try clear hcz18_0
         try clear hcz8_0
         try clear hcz8_1
         try clear hfz10_0
         try clear hfz10_1
         try clear hfz18_0
         try clear hfz8_0
         try clear hfz8_1
         try clear hx116_0
         try clear p116
         try clear p2
         try clear q116
         obtain ⟨x10_2, x32_2, rfl, rfl, HA, HK2, HO_7, HO_30, BK113, BK117, HB⟩ := hrel
         cases gk with
         | zero => exact absurd HA.out (by simp [impl_RestrictionsOf.l1])
         | succ k2 =>
          have H := HA.out
          clear HA
          simp only [impl_RestrictionsOf.l1] at H
          by_cases c21 : x32_2 < (t118.length : Int)
          ·rw [if_pos c21] at H
           have c21b0 : decide (x32_2 < (t118.length : Int)) = true := decide_eq_true c21
           clear c21
           by_cases c22 : 0 ≤ x32_2
           ·rw [if_pos c22] at H
            have c22b0 : decide (0 ≤ x32_2) = true := decide_eq_true c22
            clear c22
            by_cases c23 : x32_2 < (t118.length : Int)
            ·rw [if_pos c23] at H
             have c23b0 : decide (x32_2 < (t118.length : Int)) = true := decide_eq_true c23
             clear c23
             by_cases c24 : 0 ≤ x24_1
             ·rw [if_pos c24] at H
              have c24b0 := eq_true c24
              have c24b1 : decide (0 ≤ x24_1) = true := decide_eq_true c24
              clear c24
              by_cases c25 : x24_1 ≤ (l1.length : Int)
              ·rw [if_pos c25] at H
               have c25b0 := eq_true c25
               have c25b1 : decide (x24_1 ≤ (l1.length : Int)) = true := decide_eq_true c25
               clear c25
               replace H := Option.bind_eq_some_iff.mp H
               obtain ⟨t124, A260, H⟩ := H
               try dsimp only at H
               have A26 := Aside0.mk A260
               clear A260
               by_cases c27 : t124 = true
               ·subst c27
                have H1 : (if 0 ≤ (rd t118 x32_2) then (impl_RestrictionsOf.l1 k2 l1 x7_1 x24_1 (Go.bits .or .i64 x10_2 (shl .i64 1 (rd t118 x32_2))) l1 (l1.length : Int) x24_1 t118 (t118.length : Int) (wrap64 (x32_2 + 1)) (rd l1 x24_1)) else (none)) = some (r1, r2) := by rw [if_pos rfl] at H; exact H
                clear H
                have H := H1
                clear H1
                by_cases c28 : 0 ≤ (rd t118 x32_2)
                ·rw [if_pos c28] at H
                 have c28b0 := eq_true c28
                 have c28b1 : decide (0 ≤ (rd t118 x32_2)) = true := decide_eq_true c28
                 clear c28
                 obtain ⟨ji29, hji29⟩ : ∃ j_ : Int, (shl .i64 1 (rd t118 x32_2)) = j_ := ⟨_, rfl⟩
                 replace H : (impl_RestrictionsOf.l1 k2 l1 x7_1 x24_1 (Go.bits .or .i64 x10_2 (ji29)) l1 (l1.length : Int) x24_1 t118 (t118.length : Int) (wrap64 (x32_2 + 1)) (rd l1 x24_1)) = some (r1, r2) := by first | (rw [hji29] at H; exact H) | (simp only [hji29] at H ⊢; exact H)
                 (try rw [hji29] at A26)
                 have hji29_ : (IntKind.i64.wrap (1 * 2 ^ min (rd t118 x32_2).toNat 64)) = ji29 := hji29
                 have hji29z : (rd t118 x32_2) ≤ 64 → (IntKind.i64.wrap (1 * 2 ^ (rd t118 x32_2).toNat)) = ji29 := shl_small hji29
                 have hji29u : (IntKind.i64.wrap (2 ^ min (rd t118 x32_2).toNat 64)) = ji29 := by have h_ := hji29_; rw [Int.one_mul] at h_; exact h_
                 have hji29v : (rd t118 x32_2) ≤ 64 → (IntKind.i64.wrap (2 ^ (rd t118 x32_2).toNat)) = ji29 := fun hle_ => by have h_ := hji29z hle_; rw [Int.one_mul] at h_; exact h_
                 have hji29y : (wrap64 (1 * 2 ^ min (rd t118 x32_2).toNat 64)) = ji29 := (i64_w _).symm.trans hji29_
                 have hji29x : (rd t118 x32_2) ≤ 64 → (wrap64 (1 * 2 ^ (rd t118 x32_2).toNat)) = ji29 := fun h_ => (i64_w _).symm.trans (hji29z h_)
                 have H' := Aside0.mk H
                 clear H
                 have p121 : 0 ≤ (x32_2 : Int) := of_decide_eq_true (by first | (with_reducible assumption) | assumption)
                 have q121 : x32_2 < (t118.length : Int) := of_decide_eq_true (by first | (with_reducible assumption) | assumption)
                 obtain ⟨ad121, e121, hx121_0⟩ := Kd.at_int (Kd.R_reads' HO_30.out).2.2 x32_2 p121 q121
                 cases e121
                 replace p121 := eq_true p121
                 replace q121 := eq_true q121
                 go_wp2_with (first | ((with_reducible refine gate_dst (N := 12) rfl ?_); refine box_event ?hg (N := 12) ?hd (cs := #[.int .i64 0]) (t := 2) ?hr ?_; (case hd => rfl); (case hg => rfl); (case hr => first | (go_simp; done) | (go_simp; rfl)); intro gb122 hg w30 hbox hb; replace HO_7 := Aside0.mk (Kd.R_below (Kd.R_elderB (pR HO_7) gb122 (Nat.le_of_eq hg.symm)) hb); replace HO_30 := Aside0.mk (Kd.R_below (Kd.R_elderB (pR HO_30) gb122 (Nat.le_of_eq hg.symm)) hb); have BK122 := Aside0.mk (hbox); have GW122 := gH HB hg; have GE122 := gH HB hg; replace HB := sH HB hb; have NB113_122 := nB BK113 hg; have NB122_113 := oB BK113 hg; replace BK113 := sB BK113 hb; have NB117_122 := nB BK117 hg; have NB122_117 := oB BK117 hg; replace BK117 := sB BK117 hb; clear hb hbox hg; (try have hnb31 := NB122_113.out); (try have hnc31 := NB113_122.out); (try have hnb32 := NB122_117.out); (try have hnc32 := NB117_122.out); have hcz33_0 : w30.cell? ⟨gb122, 0, none⟩ = some (.int .i64 0) := cB BK122 0; have hfz33_0 := zB BK122 0; obtain ⟨i034, hi034, _, hsz34, _⟩ := info_parts info2; obtain ⟨hcut34, hA34, hC34⟩ := print_take_of (P := Try.prog) (Value.int .i64) 0 22 2 .i64 Try.underlying22 hi034 hsz34 (some ad116) c1 l1 x24_1 (of_decide_eq_true (by first | (with_reducible assumption) | assumption)) (of_decide_eq_true (by first | (with_reducible assumption) | assumption)) HC1.out; have HR123 := Aside0.mk (Kd.C_of_reads (h1 := fun _ => rfl) (hA34 _ (Kd.reads_of_C HR1.out))); have HC123 := Aside0.mk hC34; clear hA34 hC34 hi034 hsz34) | ((with_reducible refine gate_callee (f := 90) rfl ?_); refine cl_ (some 40) Try.func90 #[.slice (some ad116) (l1.take (x24_1 : Int).toNat).length c1, .func (.func 91) #[] #[.pointer (some ⟨gb117, 0, none⟩), .pointer (some ⟨gb122, 0, none⟩)]] (hargs := by (try simp only [List.map_toArray, List.map_cons, List.map_nil]); first | done | (rw [show (l1.take (x24_1 : Int).toNat).length = x24_1.toNat from (by rw [List.length_take]; have h_ : (x24_1 : Int) ≤ (l1.length : Int) := of_decide_eq_true (by first | (with_reducible assumption) | assumption); omega)] <;> rfl) | rfl | (simp only [List.length_drop, List.length_take]; rfl)) ?_; (with_reducible refine (slices_ContainsFunc_int64_int64.calls _ _ (l1.take (x24_1 : Int).toNat) _ (clo_91 (rd l1 x24_1) (rd t118 x32_2)) true _ ?side1 ?side2 ?side3 A26.out).mono ?_); (case side1 => exact Kd.C_below HR123.out (pH HB)); (case side2 => exact HC123.out); (case side3 => exact clo_ok_91 (by (with_reducible repeat (first | refine blk_drewN ?_ _ | refine blk_drew ?_ | refine blk_alloc ?_ _)); refine blk_far ?_ NB117_122.out _; (with_reducible repeat (first | refine blk_drewN ?_ _ | refine blk_drew ?_ | refine blk_alloc ?_ _)); exact BK117.out) (by (with_reducible repeat (first | refine blk_drewN ?_ _ | refine blk_drew ?_ | refine blk_alloc ?_ _)); refine blk_put (cs := #[.int .i64 0]) ?_ 0 _ rfl; (with_reducible repeat (first | refine blk_drewN ?_ _ | refine blk_drew ?_ | refine blk_alloc ?_ _)); exact BK122.out) ); rintro e w35 ⟨rfl, hb⟩; refine ⟨_, rfl, ?_⟩; have n0_ := Aside0.mk (Kd.R_below (by (with_reducible repeat (first | apply Kd.R_alloc | apply Kd.R_drewN | apply Kd.R_drew)); exact (Kd.R_mono (Kd.R_far (p := ⟨gb122, 0, none⟩) (Kd.R_mono HO_7.out (fun k_ hk => (⟨hk, hk.2⟩ : _ ∧ k_ ≠ gb122))) (fun _ hk => hk.2) (.int .i64 (rd t118 x32_2))) (fun _ h_ => h_.1))) hb); have n1_ := Aside0.mk (Kd.R_below (by (with_reducible repeat (first | apply Kd.R_alloc | apply Kd.R_drewN | apply Kd.R_drew)); exact (Kd.R_mono (Kd.R_far (p := ⟨gb122, 0, none⟩) (Kd.R_mono HO_30.out (fun k_ hk => (⟨hk, hk.2⟩ : _ ∧ k_ ≠ gb122))) (fun _ hk => hk.2) (.int .i64 (rd t118 x32_2))) (fun _ h_ => h_.1))) hb); have n2_ := Aside0.mk (blk_below (g := gb113) (o := .cells #[.int .i64 a0_0, .slice A0_1 l0_1.length c0_1] 28 (0, 0)) (by (with_reducible repeat (first | refine blk_drewN ?_ _ | refine blk_drew ?_ | refine blk_alloc ?_ _)); refine blk_far ?_ NB113_122.out _; (with_reducible repeat (first | refine blk_drewN ?_ _ | refine blk_drew ?_ | refine blk_alloc ?_ _)); exact BK113.out) hb); have n3_ := Aside0.mk (blk_below (g := gb117) (o := .cells #[.int .i64 (rd l1 x24_1)] 2 (0, 0)) (by (with_reducible repeat (first | refine blk_drewN ?_ _ | refine blk_drew ?_ | refine blk_alloc ?_ _)); refine blk_far ?_ NB117_122.out _; (with_reducible repeat (first | refine blk_drewN ?_ _ | refine blk_drew ?_ | refine blk_alloc ?_ _)); exact BK117.out) hb); have n4_ := Aside0.mk (blk_below (g := gb122) (o := .cells #[.int .i64 (rd t118 x32_2)] 2 (0, 0)) (by (with_reducible repeat (first | refine blk_drewN ?_ _ | refine blk_drew ?_ | refine blk_alloc ?_ _)); refine blk_put (cs := #[.int .i64 0]) ?_ 0 _ rfl; (with_reducible repeat (first | refine blk_drewN ?_ _ | refine blk_drew ?_ | refine blk_alloc ?_ _)); exact BK122.out) hb); have n5_ := sH HB hb; clear HO_7; clear HO_30; clear BK113; clear BK117; clear BK122; clear HB; have HO_7 := n0_; have HO_30 := n1_; have BK113 := n2_; have BK117 := n3_; have BK122 := n4_; have HB := n5_; clear n0_ n1_ n2_ n3_ n4_ n5_; (try clear hb); (try clear hi); have hcz36_0 : w35.cell? ⟨gb122, 0, none⟩ = some (.int .i64 (rd t118 x32_2)) := cB BK122 0; have hfz36_0 := zB BK122 0))
                 go_roundg k2
                 case measure => have := HK1.out; have := HK2.out; omega
                 case rel => exact ⟨(Go.bits .or .i64 x10_2 (ji29)), (wrap64 (x32_2 + 1)), (by first | rfl | (simp; done) | (simp only [← hji29] <;> (first | rfl | simp)) | (simp [*]; done)), (by first | rfl | (simp; done) | (simp [*]; done)), H', ⟨by have := HK1.out; have := HK2.out; omega⟩, ⟨by (with_reducible repeat (first | apply Kd.R_alloc | apply Kd.R_drewN | apply Kd.R_drew)); exact Kd.R_mono HO_7.out (fun _ hk => ⟨hk.1.1, hk.1.2⟩)⟩, ⟨by (with_reducible repeat (first | apply Kd.R_alloc | apply Kd.R_drewN | apply Kd.R_drew)); exact Kd.R_mono HO_30.out (fun _ hk => ⟨hk.1.1, hk.1.2⟩)⟩, ⟨pB BK113⟩, ⟨pB BK117⟩, ⟨pH HB⟩⟩
                ·rw [if_neg c28] at H
                 exact absurd H (by simp)
               ·replace c27 := Bool.eq_false_iff.mpr c27
                subst c27
                have H1 : (impl_RestrictionsOf.l1 k2 l1 x7_1 x24_1 x10_2 l1 (l1.length : Int) x24_1 t118 (t118.length : Int) (wrap64 (x32_2 + 1)) (rd l1 x24_1)) = some (r1, r2) := by rw [if_neg (show ¬ (false = true) by decide)] at H; exact H
                clear H
                have H := H1
                clear H1
                have H' := Aside0.mk H
                clear H
                have p121 : 0 ≤ (x32_2 : Int) := of_decide_eq_true (by first | (with_reducible assumption) | assumption)
                have q121 : x32_2 < (t118.length : Int) := of_decide_eq_true (by first | (with_reducible assumption) | assumption)
                obtain ⟨ad121, e121, hx121_0⟩ := Kd.at_int (Kd.R_reads' HO_30.out).2.2 x32_2 p121 q121
                cases e121
                replace p121 := eq_true p121
                replace q121 := eq_true q121
                go_wp2_with (first | ((with_reducible refine gate_dst (N := 12) rfl ?_); refine box_event ?hg (N := 12) ?hd (cs := #[.int .i64 0]) (t := 2) ?hr ?_; (case hd => rfl); (case hg => rfl); (case hr => first | (go_simp; done) | (go_simp; rfl)); intro gb122 hg w37 hbox hb; replace HO_7 := Aside0.mk (Kd.R_below (Kd.R_elderB (pR HO_7) gb122 (Nat.le_of_eq hg.symm)) hb); replace HO_30 := Aside0.mk (Kd.R_below (Kd.R_elderB (pR HO_30) gb122 (Nat.le_of_eq hg.symm)) hb); have BK122 := Aside0.mk (hbox); have GW122 := gH HB hg; have GE122 := gH HB hg; replace HB := sH HB hb; have NB113_122 := nB BK113 hg; have NB122_113 := oB BK113 hg; replace BK113 := sB BK113 hb; have NB117_122 := nB BK117 hg; have NB122_117 := oB BK117 hg; replace BK117 := sB BK117 hb; clear hb hbox hg; (try have hnb38 := NB122_113.out); (try have hnc38 := NB113_122.out); (try have hnb39 := NB122_117.out); (try have hnc39 := NB117_122.out); have hcz40_0 : w37.cell? ⟨gb122, 0, none⟩ = some (.int .i64 0) := cB BK122 0; have hfz40_0 := zB BK122 0; obtain ⟨i041, hi041, _, hsz41, _⟩ := info_parts info2; obtain ⟨hcut41, hA41, hC41⟩ := print_take_of (P := Try.prog) (Value.int .i64) 0 22 2 .i64 Try.underlying22 hi041 hsz41 (some ad116) c1 l1 x24_1 (of_decide_eq_true (by first | (with_reducible assumption) | assumption)) (of_decide_eq_true (by first | (with_reducible assumption) | assumption)) HC1.out; have HR123 := Aside0.mk (Kd.C_of_reads (h1 := fun _ => rfl) (hA41 _ (Kd.reads_of_C HR1.out))); have HC123 := Aside0.mk hC41; clear hA41 hC41 hi041 hsz41) | ((with_reducible refine gate_callee (f := 90) rfl ?_); refine cl_ (some 40) Try.func90 #[.slice (some ad116) (l1.take (x24_1 : Int).toNat).length c1, .func (.func 91) #[] #[.pointer (some ⟨gb117, 0, none⟩), .pointer (some ⟨gb122, 0, none⟩)]] (hargs := by (try simp only [List.map_toArray, List.map_cons, List.map_nil]); first | done | (rw [show (l1.take (x24_1 : Int).toNat).length = x24_1.toNat from (by rw [List.length_take]; have h_ : (x24_1 : Int) ≤ (l1.length : Int) := of_decide_eq_true (by first | (with_reducible assumption) | assumption); omega)] <;> rfl) | rfl | (simp only [List.length_drop, List.length_take]; rfl)) ?_; (with_reducible refine (slices_ContainsFunc_int64_int64.calls _ _ (l1.take (x24_1 : Int).toNat) _ (clo_91 (rd l1 x24_1) (rd t118 x32_2)) false _ ?side1 ?side2 ?side3 A26.out).mono ?_); (case side1 => exact Kd.C_below HR123.out (pH HB)); (case side2 => exact HC123.out); (case side3 => exact clo_ok_91 (by (with_reducible repeat (first | refine blk_drewN ?_ _ | refine blk_drew ?_ | refine blk_alloc ?_ _)); refine blk_far ?_ NB117_122.out _; (with_reducible repeat (first | refine blk_drewN ?_ _ | refine blk_drew ?_ | refine blk_alloc ?_ _)); exact BK117.out) (by (with_reducible repeat (first | refine blk_drewN ?_ _ | refine blk_drew ?_ | refine blk_alloc ?_ _)); refine blk_put (cs := #[.int .i64 0]) ?_ 0 _ rfl; (with_reducible repeat (first | refine blk_drewN ?_ _ | refine blk_drew ?_ | refine blk_alloc ?_ _)); exact BK122.out) ); rintro e w42 ⟨rfl, hb⟩; refine ⟨_, rfl, ?_⟩; have n0_ := Aside0.mk (Kd.R_below (by (with_reducible repeat (first | apply Kd.R_alloc | apply Kd.R_drewN | apply Kd.R_drew)); exact (Kd.R_mono (Kd.R_far (p := ⟨gb122, 0, none⟩) (Kd.R_mono HO_7.out (fun k_ hk => (⟨hk, hk.2⟩ : _ ∧ k_ ≠ gb122))) (fun _ hk => hk.2) (.int .i64 (rd t118 x32_2))) (fun _ h_ => h_.1))) hb); have n1_ := Aside0.mk (Kd.R_below (by (with_reducible repeat (first | apply Kd.R_alloc | apply Kd.R_drewN | apply Kd.R_drew)); exact (Kd.R_mono (Kd.R_far (p := ⟨gb122, 0, none⟩) (Kd.R_mono HO_30.out (fun k_ hk => (⟨hk, hk.2⟩ : _ ∧ k_ ≠ gb122))) (fun _ hk => hk.2) (.int .i64 (rd t118 x32_2))) (fun _ h_ => h_.1))) hb); have n2_ := Aside0.mk (blk_below (g := gb113) (o := .cells #[.int .i64 a0_0, .slice A0_1 l0_1.length c0_1] 28 (0, 0)) (by (with_reducible repeat (first | refine blk_drewN ?_ _ | refine blk_drew ?_ | refine blk_alloc ?_ _)); refine blk_far ?_ NB113_122.out _; (with_reducible repeat (first | refine blk_drewN ?_ _ | refine blk_drew ?_ | refine blk_alloc ?_ _)); exact BK113.out) hb); have n3_ := Aside0.mk (blk_below (g := gb117) (o := .cells #[.int .i64 (rd l1 x24_1)] 2 (0, 0)) (by (with_reducible repeat (first | refine blk_drewN ?_ _ | refine blk_drew ?_ | refine blk_alloc ?_ _)); refine blk_far ?_ NB117_122.out _; (with_reducible repeat (first | refine blk_drewN ?_ _ | refine blk_drew ?_ | refine blk_alloc ?_ _)); exact BK117.out) hb); have n4_ := Aside0.mk (blk_below (g := gb122) (o := .cells #[.int .i64 (rd t118 x32_2)] 2 (0, 0)) (by (with_reducible repeat (first | refine blk_drewN ?_ _ | refine blk_drew ?_ | refine blk_alloc ?_ _)); refine blk_put (cs := #[.int .i64 0]) ?_ 0 _ rfl; (with_reducible repeat (first | refine blk_drewN ?_ _ | refine blk_drew ?_ | refine blk_alloc ?_ _)); exact BK122.out) hb); have n5_ := sH HB hb; clear HO_7; clear HO_30; clear BK113; clear BK117; clear BK122; clear HB; have HO_7 := n0_; have HO_30 := n1_; have BK113 := n2_; have BK117 := n3_; have BK122 := n4_; have HB := n5_; clear n0_ n1_ n2_ n3_ n4_ n5_; (try clear hb); (try clear hi)))
                go_roundg k2
                case measure => have := HK1.out; have := HK2.out; omega
                case rel => exact ⟨(x10_2), (wrap64 (x32_2 + 1)), (by first | rfl | (simp; done) | (simp [*]; done)), (by first | rfl | (simp; done) | (simp [*]; done)), H', ⟨by have := HK1.out; have := HK2.out; omega⟩, ⟨by (with_reducible repeat (first | apply Kd.R_alloc | apply Kd.R_drewN | apply Kd.R_drew)); exact Kd.R_mono HO_7.out (fun _ hk => ⟨hk.1.1, hk.1.2⟩)⟩, ⟨by (with_reducible repeat (first | apply Kd.R_alloc | apply Kd.R_drewN | apply Kd.R_drew)); exact Kd.R_mono HO_30.out (fun _ hk => ⟨hk.1.1, hk.1.2⟩)⟩, ⟨pB BK113⟩, ⟨pB BK117⟩, ⟨pH HB⟩⟩
              ·rw [if_neg c25] at H
               exact absurd H (by simp)
             ·rw [if_neg c24] at H
              exact absurd H (by simp)
            ·rw [if_neg c23] at H
             exact absurd H (by simp)
           ·rw [if_neg c22] at H
            exact absurd H (by simp)
          ·rw [if_neg c21] at H
           have c21b0 : decide (x32_2 < (t118.length : Int)) = false := decide_eq_false c21
           clear c21
           by_cases c43 : x7_1.length < 17592186044416
           ·rw [if_pos c43] at H
            have LMc43 := Aside0.mk c43
            clear c43
            obtain ⟨y125, hy125⟩ : ∃ y_ : List Int, y_ = (x7_1 ++ [x10_2]) := ⟨_, rfl⟩
            replace H : (impl_RestrictionsOf.l0 k2 l1 y125 l1 (l1.length : Int) (wrap64 (x24_1 + 1))) = some (r1, r2) := by first | (rw [hy125]; with_reducible exact H) | (have H2_ := (Option.bind_some _ _).symm.trans H; rw [hy125]; with_reducible exact H2_) | (have H2_ := (Option.bind_some _ _).symm.trans H; with_reducible exact H2_) | with_reducible exact H | (rw [hy125]; exact H) | exact H
            have Ny125 := Aside0.mk hy125
            clear hy125
            have H' := Aside0.mk H
            clear H
            go_wp2_with (first | ((with_reducible refine gate_builtin (b := .append) (xs := #[.tmp 46, .tmp 48]) rfl ?_); at_builtin; refine Kd.R_append (Kd.int .i64) (w0 := w) w.heap.size rfl (.tmp 46) (.tmp 48) 22 2 (.int .i64 0) 8 rfl Try.underlying22 info2 rfl (by decide) (by omega) u7 x7_1 x10_2 [.int .i64 x10_2] (fun k_ => some k_ ≠ (.slice Ao20 t118.length co20 : Value).ownBlock ∧ k_ ≠ gb117) (fun _ => False) rfl rfl ?aP (fun _ hk => hk.elim) ?aF ?aO ?aB ?aS ?aL ?_; (case aP => exact rfl); (case aB => exact (pH HB)); (case aF => exact (fun k_ hk => ⟨Kd.fresh' (Kd.R_lt (pR HO_30)) k_ hk, Kd.freshB (g := gb117) (o := .cells #[.int .i64 (rd l1 x24_1)] 2 (0, 0)) (pB BK117) k_ hk⟩)); (case aO => exact (pR HO_7)); (case aS => exact (below_size (pH HB))); (case aL => have := LMc43.out; omega); intro v126 w44 ho hb hg hat; rw [← Ny125.out] at ho; have n0_ := Aside0.mk (Kd.R_after (ok := (fun k_ => k_ ≠ gb117)) (by (with_reducible repeat (first | apply Kd.R_alloc | apply Kd.R_drewN | apply Kd.R_drew)); exact Kd.R_mono HO_30.out (fun _ hk => ⟨hk.2, hk.1⟩)) hg hat); have n1_ := Aside0.mk (blk_grown (g := gb113) (o := .cells #[.int .i64 a0_0, .slice A0_1 l0_1.length c0_1] 28 (0, 0)) (pB BK113) hg (Kd.R_ne HO_7.out BK113.out (by decide))); have n2_ := Aside0.mk (blk_grown (g := gb117) (o := .cells #[.int .i64 (rd l1 x24_1)] 2 (0, 0)) (pB BK117) hg (Kd.R_away HO_7.out (fun _ hk => hk.2))); have n3_ := Aside0.mk (hb); have n4_ := Aside0.mk (ho); clear HO_30; clear BK113; clear BK117; clear HB; clear HO_7; have HO_30 := n0_; have BK113 := n1_; have BK117 := n2_; have HB := n3_; have HO127 := n4_; clear n0_ n1_ n2_ n3_ n4_; clear ho hb hg hat))
            go_roundg k2
            case measure => have := HK1.out; have := HK2.out; omega
            case rel => exact ⟨(y125), (wrap64 (x24_1 + 1)), (by first | rfl | (simp; done) | (simp [*]; done)), H', ⟨by have := HK1.out; have := HK2.out; omega⟩, ⟨by (with_reducible repeat (first | apply Kd.R_alloc | apply Kd.R_drewN | apply Kd.R_drew)); exact Kd.R_mono HO127.out (fun _ hk => trivial)⟩, ⟨pB BK113⟩, ⟨pH HB⟩⟩
           ·rw [if_neg c43] at H
            exact absurd H (by simp)
       ·rw [if_neg c14] at H
        exact absurd H (by simp)
      ·rw [if_neg c13] at H
       exact absurd H (by simp)
     ·rw [if_neg c12] at H
      have c12b0 : decide (x24_1 < (l1.length : Int)) = false := decide_eq_false c12
      clear c12
      simp only [Option.some.injEq, Prod.mk.injEq] at H
      obtain ⟨rfl, rfl⟩ := H
      go_wp2
      go_ret2
      exact ⟨_, by first | rfl | (simp [errW_none, errW_some] <;> rfl) | (simp [*, errW_none, errW_some] <;> rfl) | (exfalso; simp_all), by (with_reducible repeat (first | apply Kd.R_alloc | apply Kd.R_drewN | apply Kd.R_drew)); exact HO_7.out, pH HB⟩
  ·replace c6 := Bool.eq_false_iff.mpr c6
   subst c6
   have H1 : (some (([] : List Int), 5)) = some (r1, r2) := by rw [if_neg (show ¬ (false = true) by decide)] at H; exact H
   clear H
   have H := H1
   clear H1
   simp only [Option.some.injEq, Prod.mk.injEq] at H
   obtain ⟨rfl, rfl⟩ := H
   go_enter Try.func39, Try.ntmps39
   go_wp2_with (first | ((with_reducible refine gate_dst (N := 2) rfl ?_); refine box_event ?hg (N := 2) ?hd (cs := #[.int .i64 a0_0, .slice A0_1 l0_1.length c0_1]) (t := 28) ?hr ?_; (case hd => rfl); (case hg => rfl); (case hr => first | (go_simp; done) | (go_simp; rfl)); intro gb113 hg w45 hbox hb; have BK113 := Aside0.mk (hbox); have GW113 := gH HB hg; have GE113 := gH HB hg; replace HB := sH HB hb; clear hb hbox hg; have hcz46_0 : w45.cell? ⟨gb113, 0, none⟩ = some (.int .i64 a0_0) := cB BK113 0; have hcz46_1 : w45.cell? ⟨gb113, 1, none⟩ = some (.slice A0_1 l0_1.length c0_1) := cB BK113 1; have hfz46_0 := zB BK113 0; have hfz46_1 := zB BK113 1) | ((with_reducible refine gate_callee (f := 83) rfl ?_); refine cl_ (some 14) Try.func83 #[.agg #[.int .i64 a0_0, .slice A0_1 l0_1.length c0_1]] ?_; (with_reducible refine (impl_pureCode.calls a0_0 _ _ l0_1 t114 _ ?side1 ?side2 A3.out).mono ?_); (case side1 => exact pC ((Kd.C_below HR0_1.out HB.out))); (case side2 => exact HC0_1.out); rintro e w47 ⟨rfl, hb⟩; refine ⟨_, rfl, ?_⟩; replace BK113 := sB BK113 hb; replace HB := sH HB hb; (try clear hb); (try clear hi); have hcz48_0 : w47.cell? ⟨gb113, 0, none⟩ = some (.int .i64 a0_0) := cB BK113 0; have hcz48_1 : w47.cell? ⟨gb113, 1, none⟩ = some (.slice A0_1 l0_1.length c0_1) := cB BK113 1; have hfz48_0 := zB BK113 0; have hfz48_1 := zB BK113 1) | ((with_reducible refine gate_callee (f := 88) rfl ?_); refine cl_ (some 20) Try.func88 #[.agg #[.int .i64 a0_0, .slice A0_1 l0_1.length c0_1], .slice A1 l1.length c1] ?_; (with_reducible refine (impl_Complex_isShelling.calls a0_0 _ _ l0_1 _ _ l1 false _ ?side1 ?side2 ?side3 ?side4 A5.out).mono ?_); (case side1 => exact pC ((Kd.C_below HR0_1.out HB.out))); (case side2 => exact HC0_1.out); (case side3 => exact pC ((Kd.C_below HR1.out HB.out))); (case side4 => exact HC1.out); rintro e w49 ⟨rfl, hb⟩; refine ⟨_, rfl, ?_⟩; replace BK113 := sB BK113 hb; replace HB := sH HB hb; (try clear hb); (try clear hi)))
   go_ret2
   exact ⟨_, by first | rfl | (simp [errW_none, errW_some] <;> rfl) | (simp [*, errW_none, errW_some] <;> rfl) | (exfalso; simp_all), by first | exact Kd.R_nil _ _ _ _ _ | exact Kd.N_nil _ _ _ _ _ | exact Kd.V_nil _ _ _ _ _ | exact Kd.Q_nil _ _ _ _ _ | exact Kd.S_nil _ _ _ _ _, pH HB⟩
 ·rw [if_neg c4] at H
  have c4b0 : (t114 == 0) = false := beq_eq_false_iff_ne.mpr c4
  have c4b1 : (t114 != 0) = true := bne_iff_ne.mpr c4
  simp only [Option.some.injEq, Prod.mk.injEq] at H
  obtain ⟨rfl, rfl⟩ := H
  go_enter Try.func39, Try.ntmps39
  go_wp2_with (first | ((with_reducible refine gate_dst (N := 2) rfl ?_); refine box_event ?hg (N := 2) ?hd (cs := #[.int .i64 a0_0, .slice A0_1 l0_1.length c0_1]) (t := 28) ?hr ?_; (case hd => rfl); (case hg => rfl); (case hr => first | (go_simp; done) | (go_simp; rfl)); intro gb113 hg w50 hbox hb; have BK113 := Aside0.mk (hbox); have GW113 := gH HB hg; have GE113 := gH HB hg; replace HB := sH HB hb; clear hb hbox hg; have hcz51_0 : w50.cell? ⟨gb113, 0, none⟩ = some (.int .i64 a0_0) := cB BK113 0; have hcz51_1 : w50.cell? ⟨gb113, 1, none⟩ = some (.slice A0_1 l0_1.length c0_1) := cB BK113 1; have hfz51_0 := zB BK113 0; have hfz51_1 := zB BK113 1) | ((with_reducible refine gate_callee (f := 83) rfl ?_); refine cl_ (some 14) Try.func83 #[.agg #[.int .i64 a0_0, .slice A0_1 l0_1.length c0_1]] ?_; (with_reducible refine (impl_pureCode.calls a0_0 _ _ l0_1 t114 _ ?side1 ?side2 A3.out).mono ?_); (case side1 => exact pC ((Kd.C_below HR0_1.out HB.out))); (case side2 => exact HC0_1.out); rintro e w52 ⟨rfl, hb⟩; refine ⟨_, rfl, ?_⟩; replace BK113 := sB BK113 hb; replace HB := sH HB hb; (try clear hb); (try clear hi)))
  go_ret2
  exact ⟨_, by first | rfl | (simp [errW_none, errW_some] <;> rfl) | (simp [*, errW_none, errW_some] <;> rfl) | (exfalso; simp_all), by first | exact Kd.R_nil _ _ _ _ _ | exact Kd.N_nil _ _ _ _ _ | exact Kd.V_nil _ _ _ _ _ | exact Kd.Q_nil _ _ _ _ _ | exact Kd.S_nil _ _ _ _ _, pH HB⟩
end Go.Proofs.Ytomdfjohnmikdaa.QN
namespace Go.Proofs.Ytomdfjohnmikdaa.Ext
open Go.Proofs.YtomdfjohnmikdaaW.PrintWords
open Classical in
noncomputable def limO {α : Type} (g : Nat → Option α) : Option α := if h : ∃ r : α, ∃ k, g k = some r then some (Classical.choose h) else none
theorem limO_get {α : Type} {g : Nat → Option α} {r : α} (h : limO g = some r) : ∃ k, g k = some r := by
  unfold limO at h
  split at h
  · rename_i hc
    obtain rfl := Option.some.inj h
    exact Classical.choose_spec hc
  · cases h
theorem limO_of {α : Type} {g : Nat → Option α} {r : α} (hg : ∀ k, LeO (g k) (g (k + 1))) (h : Ev g r) : limO g = some r := by
  obtain ⟨k, hk⟩ := h.rounds
  have hc : ∃ r : α, ∃ k, g k = some r := ⟨r, k, hk⟩
  unfold limO
  rw [dif_pos hc]
  obtain ⟨k', hk'⟩ := Classical.choose_spec hc
  obtain ⟨K, hK⟩ := h
  have h1 := at_rounds hg (Nat.le_max_left k' K) hk'
  have h2 := hK (max k' K) (Nat.le_max_right _ _)
  rw [h1] at h2
  exact h2
end Go.Proofs.Ytomdfjohnmikdaa.Ext
namespace Go.Proofs.Ytomdfjohnmikdaa.Ext
set_option linter.unusedVariables false
open Go.RowKit Go.Proofs.Ytomdfjohnmikdaa.Im Go.Proofs.Ytomdfjohnmikdaa.Kp Go.Proofs.YtomdfjohnmikdaaW.PrintWords Go.Proofs.YtomdfjohnmikdaaW.PrintLast Go.Proofs.YtomdfjohnmikdaaW.PrintMore
noncomputable def impl_RestrictionsOf.f (a0_0 : Int) (l0_1 : List Int) (l1 : List Int) : Option (List Int × Int) := limO fun k => QN.impl_RestrictionsOf.f k a0_0 l0_1 l1
theorem impl_RestrictionsOf.calls (a0_0 : Int) (A0_1 : Option Addr) (c0_1 : Nat) (l0_1 : List Int) (A1 : Option Addr) (c1 : Nat) (l1 : List Int) (r1 : List Int) (r2 : Int) (w : World) (hr0_1 : Kd.C (Kd.int .i64) w A0_1 l0_1.length l0_1) (hc0_1 : l0_1.length ≤ c0_1) (hr1 : Kd.C (Kd.int .i64) w A1 l1.length l1) (hc1 : l1.length ≤ c1) (h : impl_RestrictionsOf.f a0_0 l0_1 l1 = some (r1, r2)) :
    Calls Try.prog 39 #[.agg #[.int .i64 a0_0, .slice A0_1 l0_1.length c0_1], .slice A1 l1.length c1] w fun e w' => ∃ v0_ : Value, e = .returned (.tuple #[v0_, .int .i64 r2]) ∧ Kd.R (Kd.int .i64) 2 w' w.heap.size (fun _ => True) v0_ r1 ∧ Below w.heap.size w w' := by
  obtain ⟨k, hk⟩ := limO_get h
  exact QN.impl_RestrictionsOf.calls k a0_0 A0_1 c0_1 l0_1 A1 c1 l1 r1 r2 w hr0_1 hc0_1 hr1 hc1 hk
theorem impl_RestrictionsOf.come (a0_0 : Int) (l0_1 : List Int) (l1 : List Int) {r : (List Int × Int)} (h : Ev (fun k => QN.impl_RestrictionsOf.f k a0_0 l0_1 l1) r) : impl_RestrictionsOf.f a0_0 l0_1 l1 = some r := limO_of (fun k => QN.impl_RestrictionsOf.mono _ _ _ k) h
end Go.Proofs.Ytomdfjohnmikdaa.Ext
namespace Go.Proofs.Ytomdfjohnmikdaa.QS
open Go.Proofs.Ytomdfjohnmikdaa.Cw Go.Proofs.Ytomdfjohnmikdaa.Kp Go.Proofs.Ytomdfjohnmikdaa.Ext Go.RowKit Go.Proofs.YtomdfjohnmikdaaW.PrintWords Go.Proofs.YtomdfjohnmikdaaW.PrintLast Go.Proofs.YtomdfjohnmikdaaW.PrintMore
attribute [local go_sem] max2_int min2_int max_two min_two max_three min_three max_four min_four   -- for this text's walks alone
set_option linter.unusedVariables false
set_option linter.unusedSimpArgs false
mutual
def spec_l07Shelling.l0 : Nat → List Int → List Int → List Int → Int → Option (Bool × List Int)
 | 0, _, _, _, _ => none
 | k + 1, x1, x6, x7, x8 => if x8 < (x1.length : Int) then (spec_l07Shelling.l1 k x1 x6 x7 x8 false 0) else (some (true, x7))
def spec_l07Shelling.l1 : Nat → List Int → List Int → List Int → Int → Bool → Int → Option (Bool × List Int)
 | 0, _, _, _, _, _, _ => none
 | k + 1, x1, x6, x7, x8, x9, x10 => if x10 < (x6.length : Int) then (if x9 = true then (spec_l07Shelling.l1 k x1 x6 x7 x8 true (wrap64 (x10 + 1))) else (if 0 ≤ x10 then (if 0 ≤ x8 then (if x8 < (x1.length : Int) then (spec_l07Shelling.l1 k x1 x6 x7 x8 ((rd x6 x10) == (rd x1 x8)) (wrap64 (x10 + 1))) else (none)) else (none)) else (none))) else (spec_l07Shelling.l2 k x1 x6 x7 x8 x9 0)
def spec_l07Shelling.l2 : Nat → List Int → List Int → List Int → Int → Bool → Int → Option (Bool × List Int)
 | 0, _, _, _, _, _, _ => none
 | k + 1, x1, x6, x7, x8, x9, x11 => if x11 < x8 then (if x9 = true then (if 0 ≤ x11 then (if x11 < (x1.length : Int) then (if 0 ≤ x8 then (if x8 < (x1.length : Int) then (spec_l07Shelling.l2 k x1 x6 x7 x8 ((rd x1 x11) != (rd x1 x8)) (wrap64 (x11 + 1))) else (none)) else (none)) else (none)) else (none)) else (spec_l07Shelling.l2 k x1 x6 x7 x8 false (wrap64 (x11 + 1)))) else (if 0 ≤ x8 then (if x8 ≤ (x1.length : Int) then (if x8 < (x1.length : Int) then ((spec_l07Goes.f k (x1.take (x8 : Int).toNat) (rd x1 x8)).bind fun bt665 => (if x9 = true then (if bt665.1 = true then (if x7.length < 17592186044416 then (spec_l07Shelling.l0 k x1 x6 (x7 ++ [bt665.2]) (wrap64 (x8 + 1))) else (none)) else (some (false, x7))) else (some (false, x7)))) else (none)) else (none)) else (none))
end
def spec_l07Shelling.f (k : Nat) (a0_0 : Int) (l0_1 : List Int) (l1 : List Int) : Option (Bool × List Int) := (spec_l01Facets.f k a0_0 l0_1).bind fun t653 => ((some (([] : List Int) : List Int)).bind fun y656 => (if (l1.length : Int) = (t653.length : Int) then (spec_l07Shelling.l0 k l1 t653 y656 0) else (some (false, y656))))
set_option maxHeartbeats 8000000 in
set_option maxRecDepth 100000 in
theorem spec_l07Shelling.calls (k : Nat) (a0_0 : Int) (A0_1 : Option Addr) (c0_1 : Nat) (l0_1 : List Int) (A1 : Option Addr) (c1 : Nat) (l1 : List Int) (r1 : Bool) (r2 : List Int) (w : World) (hr0_1 : Kd.C (Kd.int .i64) w A0_1 l0_1.length l0_1) (hc0_1 : l0_1.length ≤ c0_1) (hr1 : Kd.C (Kd.int .i64) w A1 l1.length l1) (hc1 : l1.length ≤ c1) (h : spec_l07Shelling.f k a0_0 l0_1 l1 = some (r1, r2)) :
  Calls Try.prog 87 #[.agg #[.int .i64 a0_0, .slice A0_1 l0_1.length c0_1], .slice A1 l1.length c1] w fun e w' => ∃ v1_ : Value, e = .returned (.tuple #[.bool r1, v1_]) ∧ Kd.R (Kd.int .i64) 2 w' w.heap.size (fun _ => True) v1_ r2 ∧ Below w.heap.size w w' := by
 have hu28 := Try.underlying28
 have HR0_1 := Aside0.mk hr0_1
 have HC0_1 := Aside0.mk hc0_1
 clear hr0_1 hc0_1
 have HR1 := Aside0.mk hr1
 have HC1 := Aside0.mk hc1
 clear hr1 hc1
 have HB := Aside0.mk (Below.refl w.heap.size w)
 have H : ((spec_l01Facets.f k a0_0 l0_1).bind fun t653 => ((some (([] : List Int) : List Int)).bind fun y656 => (if (l1.length : Int) = (t653.length : Int) then (spec_l07Shelling.l0 k l1 t653 y656 0) else (some (false, y656))))) = some (r1, r2) := h
 clear h
 replace H := Option.bind_eq_some_iff.mp H
 obtain ⟨t653, A30, H⟩ := H
 try dsimp only at H
 have A3 := Aside0.mk A30
 clear A30
 obtain ⟨y656, hy656⟩ : ∃ y_ : List Int, y_ = (([] : List Int)) := ⟨_, rfl⟩
 replace H : (if (l1.length : Int) = (t653.length : Int) then (spec_l07Shelling.l0 k l1 t653 y656 0) else (some (false, y656))) = some (r1, r2) := by first | (rw [hy656]; with_reducible exact H) | (have H2_ := (Option.bind_some _ _).symm.trans H; rw [hy656]; with_reducible exact H2_) | (have H2_ := (Option.bind_some _ _).symm.trans H; with_reducible exact H2_) | with_reducible exact H | (rw [hy656]; exact H) | exact H
 have Ny656 := Aside0.mk hy656
 clear hy656
 by_cases c4 : (l1.length : Int) = (t653.length : Int)
 ·rw [if_pos c4] at H
  have c4b0 : ((l1.length : Int) == (t653.length : Int)) = true := beq_iff_eq.mpr c4
  have c4b1 : ((l1.length : Int) != (t653.length : Int)) = false := bne_eq_false_iff_eq.mpr c4
  have c4b2 : (l1.length == t653.length) = true := by first | simpa using c4 | (simp at c4 ⊢; omega)
  clear c4
  have H' := Aside0.mk H
  clear H
  go_enter Try.func87, Try.ntmps87
  go_wp2_with (first | ((with_reducible refine gate_dst (N := 2) rfl ?_); refine box_event ?hg (N := 2) ?hd (cs := #[.int .i64 a0_0, .slice A0_1 l0_1.length c0_1]) (t := 28) ?hr ?_; (case hd => rfl); (case hg => rfl); (case hr => first | (go_simp; done) | (go_simp; rfl)); intro gb652 hg w5 hbox hb; have BK652 := Aside0.mk (hbox); have GW652 := gH HB hg; have GE652 := gH HB hg; replace HB := sH HB hb; clear hb hbox hg; have hcz6_0 : w5.cell? ⟨gb652, 0, none⟩ = some (.int .i64 a0_0) := cB BK652 0; have hcz6_1 : w5.cell? ⟨gb652, 1, none⟩ = some (.slice A0_1 l0_1.length c0_1) := cB BK652 1; have hfz6_0 := zB BK652 0; have hfz6_1 := zB BK652 1) | (go_at_call 81; (with_reducible refine (spec_l01Facets.calls k a0_0 _ _ l0_1 t653 _ ?side1 ?side2 A3.out).mono ?_); (case side1 => exact pC ((Kd.C_below HR0_1.out HB.out))); (case side2 => exact HC0_1.out); rintro e w7 ⟨v654, rfl, ho0, hb⟩; have HO655 := Aside0.mk (Kd.R_lower ho0 (below_size (pH HB))); replace BK652 := sB BK652 hb; replace HB := sH HB hb; (try clear hb); (try clear hi); (try clear ho0)) | ((with_reducible refine gate_dst (N := 16) rfl ?_); refine Kd.R_lit (Kd.int .i64) _ 2 ?hg (N := 16) ?hd (xs := ([] : List Int)) (inner := []) (ok := fun _ => True) (okp := fun _ => True) ?hr ?hp (fun _ hk => hk) trivial (Below.refl _ _) (Nat.le_refl _) (by simp) ?_; (case hd => rfl); (case hg => rfl); (case hr => first | (go_simp; done) | (go_simp; rfl)); (case hp => exact (Reps.none _ _)); intro v657 w8 ho9 hb hg_ hnew_; clear hg_ hnew_; (first | rw [← Ny656.out] at ho9 | (simp only [Int.reduceToNat] at ho9; rw [← Ny656.out] at ho9)); have HO658 := Aside0.mk (Kd.R_lower (Kd.R_new' ho9 (Kd.R_lt (pR HO655))) (below_size (pH HB))); replace HO655 := Aside0.mk (Kd.R_elder' (pR HO655) (Kd.R_base ho9) hb); replace BK652 := sB BK652 hb; replace HB := sH HB hb; clear hb ho9; obtain ⟨Ao10, co10, eo10⟩ := Kd.R_slice HO655.out; subst eo10))
  repeat (go_quiet (first | ((with_reducible refine gate_dst (N := 2) rfl ?_); refine box_event ?hg (N := 2) ?hd (cs := #[.int .i64 a0_0, .slice A0_1 l0_1.length c0_1]) (t := 28) ?hr ?_; (case hd => rfl); (case hg => rfl); (case hr => first | (go_simp; done) | (go_simp; rfl)); intro gb652 hg w5 hbox hb; have BK652 := Aside0.mk (hbox); have GW652 := gH HB hg; have GE652 := gH HB hg; replace HB := sH HB hb; clear hb hbox hg; have hcz6_0 : w5.cell? ⟨gb652, 0, none⟩ = some (.int .i64 a0_0) := cB BK652 0; have hcz6_1 : w5.cell? ⟨gb652, 1, none⟩ = some (.slice A0_1 l0_1.length c0_1) := cB BK652 1; have hfz6_0 := zB BK652 0; have hfz6_1 := zB BK652 1) | (go_at_call 81; (with_reducible refine (spec_l01Facets.calls k a0_0 _ _ l0_1 t653 _ ?side1 ?side2 A3.out).mono ?_); (case side1 => exact pC ((Kd.C_below HR0_1.out HB.out))); (case side2 => exact HC0_1.out); rintro e w7 ⟨v654, rfl, ho0, hb⟩; have HO655 := Aside0.mk (Kd.R_lower ho0 (below_size (pH HB))); replace BK652 := sB BK652 hb; replace HB := sH HB hb; (try clear hb); (try clear hi); (try clear ho0)) | ((with_reducible refine gate_dst (N := 16) rfl ?_); refine Kd.R_lit (Kd.int .i64) _ 2 ?hg (N := 16) ?hd (xs := ([] : List Int)) (inner := []) (ok := fun _ => True) (okp := fun _ => True) ?hr ?hp (fun _ hk => hk) trivial (Below.refl _ _) (Nat.le_refl _) (by simp) ?_; (case hd => rfl); (case hg => rfl); (case hr => first | (go_simp; done) | (go_simp; rfl)); (case hp => exact (Reps.none _ _)); intro v657 w8 ho9 hb hg_ hnew_; clear hg_ hnew_; (first | rw [← Ny656.out] at ho9 | (simp only [Int.reduceToNat] at ho9; rw [← Ny656.out] at ho9)); have HO658 := Aside0.mk (Kd.R_lower (Kd.R_new' ho9 (Kd.R_lt (pR HO655))) (below_size (pH HB))); replace HO655 := Aside0.mk (Kd.R_elder' (pR HO655) (Kd.R_base ho9) hb); replace BK652 := sB BK652 hb; replace HB := sH HB hb; clear hb ho9; obtain ⟨Ao10, co10, eo10⟩ := Kd.R_slice HO655.out; subst eo10)); try go_wp2_with (first | ((with_reducible refine gate_dst (N := 2) rfl ?_); refine box_event ?hg (N := 2) ?hd (cs := #[.int .i64 a0_0, .slice A0_1 l0_1.length c0_1]) (t := 28) ?hr ?_; (case hd => rfl); (case hg => rfl); (case hr => first | (go_simp; done) | (go_simp; rfl)); intro gb652 hg w5 hbox hb; have BK652 := Aside0.mk (hbox); have GW652 := gH HB hg; have GE652 := gH HB hg; replace HB := sH HB hb; clear hb hbox hg; have hcz6_0 : w5.cell? ⟨gb652, 0, none⟩ = some (.int .i64 a0_0) := cB BK652 0; have hcz6_1 : w5.cell? ⟨gb652, 1, none⟩ = some (.slice A0_1 l0_1.length c0_1) := cB BK652 1; have hfz6_0 := zB BK652 0; have hfz6_1 := zB BK652 1) | (go_at_call 81; (with_reducible refine (spec_l01Facets.calls k a0_0 _ _ l0_1 t653 _ ?side1 ?side2 A3.out).mono ?_); (case side1 => exact pC ((Kd.C_below HR0_1.out HB.out))); (case side2 => exact HC0_1.out); rintro e w7 ⟨v654, rfl, ho0, hb⟩; have HO655 := Aside0.mk (Kd.R_lower ho0 (below_size (pH HB))); replace BK652 := sB BK652 hb; replace HB := sH HB hb; (try clear hb); (try clear hi); (try clear ho0)) | ((with_reducible refine gate_dst (N := 16) rfl ?_); refine Kd.R_lit (Kd.int .i64) _ 2 ?hg (N := 16) ?hd (xs := ([] : List Int)) (inner := []) (ok := fun _ => True) (okp := fun _ => True) ?hr ?hp (fun _ hk => hk) trivial (Below.refl _ _) (Nat.le_refl _) (by simp) ?_; (case hd => rfl); (case hg => rfl); (case hr => first | (go_simp; done) | (go_simp; rfl)); (case hp => exact (Reps.none _ _)); intro v657 w8 ho9 hb hg_ hnew_; clear hg_ hnew_; (first | rw [← Ny656.out] at ho9 | (simp only [Int.reduceToNat] at ho9; rw [← Ny656.out] at ho9)); have HO658 := Aside0.mk (Kd.R_lower (Kd.R_new' ho9 (Kd.R_lt (pR HO655))) (below_size (pH HB))); replace HO655 := Aside0.mk (Kd.R_elder' (pR HO655) (Kd.R_base ho9) hb); replace BK652 := sB BK652 hb; replace HB := sH HB hb; clear hb ho9; obtain ⟨Ao10, co10, eo10⟩ := Kd.R_slice HO655.out; subst eo10)))
  go_loopg [7, 8] k (fun kq v7 v8 w' => ∃ (x7_1 : List Int) (x8_1 : Int), v8 = .int .i64 x8_1 ∧ Aside0 (spec_l07Shelling.l0 kq l1 t653 x7_1 x8_1 = some (r1, r2)) ∧ Aside0 (kq ≤ k) ∧ Aside0 (Kd.R (Kd.int .i64) 2 w' w.heap.size (fun k_ => some k_ ≠ (v7 : Value).ownBlock) (.slice Ao10 t653.length co10) t653) ∧ Aside0 (Kd.R (Kd.int .i64) 2 w' w.heap.size (fun k_ => some k_ ≠ ((.slice Ao10 t653.length co10) : Value).ownBlock) v7 x7_1) ∧ Aside0 (w'.heap[gb652]? = some (.cells #[.int .i64 a0_0, (.slice A0_1 l0_1.length c0_1)] 28 (0, 0))) ∧ Aside0 (Below w.heap.size w w'))
  case atStart => exact ⟨(y656), (0), (by first | rfl | (simp; done) | (simp [*]; done)), H', ⟨Nat.le_refl _⟩, ⟨by (with_reducible repeat (first | apply Kd.R_alloc | apply Kd.R_drewN | apply Kd.R_drew)); exact Kd.R_mono HO655.out (fun _ hk => hk.2)⟩, ⟨by (with_reducible repeat (first | apply Kd.R_alloc | apply Kd.R_drewN | apply Kd.R_drew)); exact Kd.R_mono HO658.out (fun _ hk => hk.2)⟩, ⟨pB BK652⟩, ⟨pH HB⟩⟩
  case round =>
   clear H'
   try clear c1
   try clear p2
   try clear c4
   try clear c4b0
   try clear c4b1
   try clear c4b2
   try clear c8
   try clear hcz6_0
   try clear hcz6_1
   try clear hfz6_0
   try clear hfz6_1
   obtain ⟨x7_1, x8_1, rfl, HA, HK1, HO_6, HO_7, BK652, HB⟩ := hrel
   cases gk with
   | zero => exact absurd HA.out (by simp [spec_l07Shelling.l0])
   | succ k1 =>
    have H := HA.out
    clear HA
    simp only [spec_l07Shelling.l0] at H
    by_cases c11 : x8_1 < (l1.length : Int)
    ·rw [if_pos c11] at H
     have c11b0 : decide (x8_1 < (l1.length : Int)) = true := decide_eq_true c11
     clear c11
     have H' := Aside0.mk H
     clear H
     go_wp2
     repeat (go_quiet (fail); try go_wp2)
     go_loopg [9, 10] k1 (fun kq v9 v10 w' => ∃ (x9_2 : Bool) (x10_2 : Int), v9 = .bool x9_2 ∧ v10 = .int .i64 x10_2 ∧ Aside0 (spec_l07Shelling.l1 kq l1 t653 x7_1 x8_1 x9_2 x10_2 = some (r1, r2)) ∧ Aside0 (kq ≤ k1) ∧ Aside0 (Kd.R (Kd.int .i64) 2 w' w.heap.size (fun k_ => some k_ ≠ (u7 : Value).ownBlock) (.slice Ao10 t653.length co10) t653) ∧ Aside0 (Kd.R (Kd.int .i64) 2 w' w.heap.size (fun k_ => some k_ ≠ ((.slice Ao10 t653.length co10) : Value).ownBlock) u7 x7_1) ∧ Aside0 (w'.heap[gb652]? = some (.cells #[.int .i64 a0_0, (.slice A0_1 l0_1.length c0_1)] 28 (0, 0))) ∧ Aside0 (Below w.heap.size w w'))
     case atStart => exact ⟨(false), (0), (by first | rfl | (simp; done) | (simp [*]; done)), (by first | rfl | (simp; done) | (simp [*]; done)), H', ⟨Nat.le_refl _⟩, ⟨by (with_reducible repeat (first | apply Kd.R_alloc | apply Kd.R_drewN | apply Kd.R_drew)); exact HO_6.out⟩, ⟨by (with_reducible repeat (first | apply Kd.R_alloc | apply Kd.R_drewN | apply Kd.R_drew)); exact HO_7.out⟩, ⟨pB BK652⟩, ⟨pH HB⟩⟩
     case round =>
      clear H'
      try clear c1
      try clear p2
      try clear c4
      try clear c4b0
      try clear c4b1
      try clear c4b2
      try clear c8
      try clear c11
      try clear c11b0
      try clear hcz6_0
      try clear hcz6_1
      try clear hfz6_0
      try clear hfz6_1
      try clear p2
      obtain ⟨x9_2, x10_2, rfl, rfl, HA, HK2, HO_6, HO_7, BK652, HB⟩ := hrel
      cases gk with
      | zero => exact absurd HA.out (by simp [spec_l07Shelling.l1])
      | succ k2 =>
       have H := HA.out
       clear HA
       simp only [spec_l07Shelling.l1] at H
       by_cases c12 : x10_2 < (t653.length : Int)
       ·rw [if_pos c12] at H
        have c12b0 : decide (x10_2 < (t653.length : Int)) = true := decide_eq_true c12
        clear c12
        by_cases c13 : x9_2 = true
        ·subst c13
         have H1 : (spec_l07Shelling.l1 k2 l1 t653 x7_1 x8_1 true (wrap64 (x10_2 + 1))) = some (r1, r2) := by rw [if_pos rfl] at H; exact H
         clear H
         have H := H1
         clear H1
         have H' := Aside0.mk H
         clear H
         go_wp2
         repeat (go_quiet (fail); try go_wp2)
         go_roundg k2
         case measure => have := HK1.out; have := HK2.out; omega
         case rel => exact ⟨(true), (wrap64 (x10_2 + 1)), (by first | rfl | (simp; done) | (simp [*]; done)), (by first | rfl | (simp; done) | (simp [*]; done)), H', ⟨by have := HK1.out; have := HK2.out; omega⟩, ⟨by (with_reducible repeat (first | apply Kd.R_alloc | apply Kd.R_drewN | apply Kd.R_drew)); exact HO_6.out⟩, ⟨by (with_reducible repeat (first | apply Kd.R_alloc | apply Kd.R_drewN | apply Kd.R_drew)); exact HO_7.out⟩, ⟨pB BK652⟩, ⟨pH HB⟩⟩
        ·replace c13 := Bool.eq_false_iff.mpr c13
         subst c13
         have H1 : (if 0 ≤ x10_2 then (if 0 ≤ x8_1 then (if x8_1 < (l1.length : Int) then (spec_l07Shelling.l1 k2 l1 t653 x7_1 x8_1 ((rd t653 x10_2) == (rd l1 x8_1)) (wrap64 (x10_2 + 1))) else (none)) else (none)) else (none)) = some (r1, r2) := by rw [if_neg (show ¬ (false = true) by decide)] at H; exact H
         clear H
         have H := H1
         clear H1
         by_cases c14 : 0 ≤ x10_2
         ·rw [if_pos c14] at H
          have c14b0 : decide (0 ≤ x10_2) = true := decide_eq_true c14
          clear c14
          by_cases c15 : 0 ≤ x8_1
          ·rw [if_pos c15] at H
           have c15b0 : decide (0 ≤ x8_1) = true := decide_eq_true c15
           clear c15
           by_cases c16 : x8_1 < (l1.length : Int)
           ·rw [if_pos c16] at H
            have c16b0 : decide (x8_1 < (l1.length : Int)) = true := decide_eq_true c16
            clear c16
            have H' := Aside0.mk H
            clear H
            have p659 : 0 ≤ (x10_2 : Int) := of_decide_eq_true (by first | (with_reducible assumption) | assumption)
            have q659 : x10_2 < (t653.length : Int) := of_decide_eq_true (by first | (with_reducible assumption) | assumption)
            obtain ⟨ad659, e659, hx659_0⟩ := Kd.at_int (Kd.R_reads' HO_6.out).2.2 x10_2 p659 q659
            cases e659
            replace p659 := eq_true p659
            replace q659 := eq_true q659
            have p660 : 0 ≤ (x8_1 : Int) := of_decide_eq_true (by first | (with_reducible assumption) | assumption)
            have q660 : x8_1 < (l1.length : Int) := of_decide_eq_true (by first | (with_reducible assumption) | assumption)
            obtain ⟨ad660, e660, hx660_0⟩ := Kd.at_int HR1.out x8_1 p660 q660
            cases e660
            replace hx660_0 := cH HB hx660_0
            replace p660 := eq_true p660
            replace q660 := eq_true q660
            go_wp2
            repeat (go_quiet (fail); try go_wp2)
            go_roundg k2
            case measure => have := HK1.out; have := HK2.out; omega
            case rel => exact ⟨(((rd t653 x10_2) == (rd l1 x8_1))), (wrap64 (x10_2 + 1)), (by first | rfl | (simp; done) | (simp [*]; done)), (by first | rfl | (simp; done) | (simp [*]; done)), H', ⟨by have := HK1.out; have := HK2.out; omega⟩, ⟨by (with_reducible repeat (first | apply Kd.R_alloc | apply Kd.R_drewN | apply Kd.R_drew)); exact HO_6.out⟩, ⟨by (with_reducible repeat (first | apply Kd.R_alloc | apply Kd.R_drewN | apply Kd.R_drew)); exact HO_7.out⟩, ⟨pB BK652⟩, ⟨pH HB⟩⟩
           ·rw [if_neg c16] at H
            exact absurd H (by simp)
          ·rw [if_neg c15] at H
           exact absurd H (by simp)
         ·rw [if_neg c14] at H
          exact absurd H (by simp)
       ·rw [if_neg c12] at H
        have c12b0 : decide (x10_2 < (t653.length : Int)) = false := decide_eq_false c12
        clear c12
        have H' := Aside0.mk H
        clear H
        go_wp2
        repeat (go_quiet (fail); try go_wp2)
        go_loopg [9, 11] k2 (fun kq v9 v11 w' => ∃ (x9_3 : Bool) (x11_3 : Int), v9 = .bool x9_3 ∧ v11 = .int .i64 x11_3 ∧ Aside0 (spec_l07Shelling.l2 kq l1 t653 x7_1 x8_1 x9_3 x11_3 = some (r1, r2)) ∧ Aside0 (kq ≤ k2) ∧ Aside0 (Kd.R (Kd.int .i64) 2 w' w.heap.size (fun k_ => some k_ ≠ (u7 : Value).ownBlock) (.slice Ao10 t653.length co10) t653) ∧ Aside0 (Kd.R (Kd.int .i64) 2 w' w.heap.size (fun k_ => some k_ ≠ ((.slice Ao10 t653.length co10) : Value).ownBlock) u7 x7_1) ∧ Aside0 (w'.heap[gb652]? = some (.cells #[.int .i64 a0_0, (.slice A0_1 l0_1.length c0_1)] 28 (0, 0))) ∧ Aside0 (Below w.heap.size w w'))
        case atStart => exact ⟨(x9_2), (0), (by first | rfl | (simp; done) | (simp [*]; done)), (by first | rfl | (simp; done) | (simp [*]; done)), H', ⟨Nat.le_refl _⟩, ⟨by (with_reducible repeat (first | apply Kd.R_alloc | apply Kd.R_drewN | apply Kd.R_drew)); exact HO_6.out⟩, ⟨by (with_reducible repeat (first | apply Kd.R_alloc | apply Kd.R_drewN | apply Kd.R_drew)); exact HO_7.out⟩, ⟨pB BK652⟩, ⟨pH HB⟩⟩
        case round =>
         clear H'
         try clear c1
         try clear p2
         try clear c4
         try clear c4b0
         try clear c4b1
         try clear c4b2
         try clear p6
         try clear q6
         try clear hx6
         try clear c8
         try clear c11
         try clear c11b0
         try clear c12
         try clear c12b0
         try clear c13
         try clear c14
         try clear c14b0
         try clear c15
         try clear c15b0
         try clear c16
         try clear c16b0
         try clear hcz6_0
         try clear hcz6_1
         try clear hfz6_0
         try clear hfz6_1
         try clear hx659_0
         try clear hx660_0
         try clear p2
         try clear p659
         try clear p660
         try clear q659
         try clear q660
         obtain ⟨x9_3, x11_3, rfl, rfl, HA, HK3, HO_6, HO_7, BK652, HB⟩ := hrel
         cases gk with
         | zero => exact absurd HA.out (by simp [spec_l07Shelling.l2])
         | succ k3 =>
          have H := HA.out
          clear HA
          simp only [spec_l07Shelling.l2] at H
          by_cases c17 : x11_3 < x8_1
          ·rw [if_pos c17] at H
           have c17b0 : decide (x11_3 < x8_1) = true := decide_eq_true c17
           clear c17
           by_cases c18 : x9_3 = true
           ·subst c18
            have H1 : (if 0 ≤ x11_3 then (if x11_3 < (l1.length : Int) then (if 0 ≤ x8_1 then (if x8_1 < (l1.length : Int) then (spec_l07Shelling.l2 k3 l1 t653 x7_1 x8_1 ((rd l1 x11_3) != (rd l1 x8_1)) (wrap64 (x11_3 + 1))) else (none)) else (none)) else (none)) else (none)) = some (r1, r2) := by rw [if_pos rfl] at H; exact H
            clear H
            have H := H1
            clear H1
            by_cases c19 : 0 ≤ x11_3
            ·rw [if_pos c19] at H
             have c19b0 : decide (0 ≤ x11_3) = true := decide_eq_true c19
             clear c19
             by_cases c20 : x11_3 < (l1.length : Int)
             ·rw [if_pos c20] at H
              have c20b0 : decide (x11_3 < (l1.length : Int)) = true := decide_eq_true c20
              clear c20
              by_cases c21 : 0 ≤ x8_1
              ·rw [if_pos c21] at H
               have c21b0 : decide (0 ≤ x8_1) = true := decide_eq_true c21
               clear c21
               by_cases c22 : x8_1 < (l1.length : Int)
               ·rw [if_pos c22] at H
                have c22b0 : decide (x8_1 < (l1.length : Int)) = true := decide_eq_true c22
                clear c22
                have H' := Aside0.mk H
                clear H
                have p661 : 0 ≤ (x11_3 : Int) := of_decide_eq_true (by first | (with_reducible assumption) | assumption)
                have q661 : x11_3 < (l1.length : Int) := of_decide_eq_true (by first | (with_reducible assumption) | assumption)
                obtain ⟨ad661, e661, hx661_0⟩ := Kd.at_int HR1.out x11_3 p661 q661
                cases e661
                replace hx661_0 := cH HB hx661_0
                replace p661 := eq_true p661
                replace q661 := eq_true q661
                have p662 : 0 ≤ (x8_1 : Int) := of_decide_eq_true (by first | (with_reducible assumption) | assumption)
                have q662 : x8_1 < (l1.length : Int) := of_decide_eq_true (by first | (with_reducible assumption) | assumption)
                obtain ⟨ad662, e662, hx662_0⟩ := Kd.at_int HR1.out x8_1 p662 q662
                obtain rfl : ad661 = ad662 := (by injection e662)
                replace hx662_0 := cH HB hx662_0
                replace p662 := eq_true p662
                replace q662 := eq_true q662
                go_wp2
                repeat (go_quiet (fail); try go_wp2)
                go_roundg k3
                case measure => have := HK1.out; have := HK2.out; have := HK3.out; omega
                case rel => exact ⟨(((rd l1 x11_3) != (rd l1 x8_1))), (wrap64 (x11_3 + 1)), (by first | rfl | (simp; done) | (simp [*]; done)), (by first | rfl | (simp; done) | (simp [*]; done)), H', ⟨by have := HK1.out; have := HK2.out; have := HK3.out; omega⟩, ⟨by (with_reducible repeat (first | apply Kd.R_alloc | apply Kd.R_drewN | apply Kd.R_drew)); exact HO_6.out⟩, ⟨by (with_reducible repeat (first | apply Kd.R_alloc | apply Kd.R_drewN | apply Kd.R_drew)); exact HO_7.out⟩, ⟨pB BK652⟩, ⟨pH HB⟩⟩
               ·rw [if_neg c22] at H
                exact absurd H (by simp)
              ·rw [if_neg c21] at H
               exact absurd H (by simp)
             ·rw [if_neg c20] at H
              exact absurd H (by simp)
            ·rw [if_neg c19] at H
             exact absurd H (by simp)
           ·replace c18 := Bool.eq_false_iff.mpr c18
            subst c18
            have H1 : (spec_l07Shelling.l2 k3 l1 t653 x7_1 x8_1 false (wrap64 (x11_3 + 1))) = some (r1, r2) := by rw [if_neg (show ¬ (false = true) by decide)] at H; exact H
            clear H
            have H := H1
            clear H1
            have H' := Aside0.mk H
            clear H
            go_wp2
            repeat (go_quiet (fail); try go_wp2)
            go_roundg k3
            case measure => have := HK1.out; have := HK2.out; have := HK3.out; omega
            case rel => exact ⟨(false), (wrap64 (x11_3 + 1)), (by first | rfl | (simp; done) | (simp [*]; done)), (by first | rfl | (simp; done) | (simp [*]; done)), H', ⟨by have := HK1.out; have := HK2.out; have := HK3.out; omega⟩, ⟨by (with_reducible repeat (first | apply Kd.R_alloc | apply Kd.R_drewN | apply Kd.R_drew)); exact HO_6.out⟩, ⟨by (with_reducible repeat (first | apply Kd.R_alloc | apply Kd.R_drewN | apply Kd.R_drew)); exact HO_7.out⟩, ⟨pB BK652⟩, ⟨pH HB⟩⟩
          ·rw [if_neg c17] at H
           have c17b0 : decide (x11_3 < x8_1) = false := decide_eq_false c17
           clear c17
           by_cases c23 : 0 ≤ x8_1
           ·rw [if_pos c23] at H
            have c23b0 := eq_true c23
            have c23b1 : decide (0 ≤ x8_1) = true := decide_eq_true c23
            clear c23
            by_cases c24 : x8_1 ≤ (l1.length : Int)
            ·rw [if_pos c24] at H
             have c24b0 := eq_true c24
             have c24b1 : decide (x8_1 ≤ (l1.length : Int)) = true := decide_eq_true c24
             clear c24
             by_cases c25 : x8_1 < (l1.length : Int)
             ·rw [if_pos c25] at H
              have c25b0 : decide (x8_1 < (l1.length : Int)) = true := decide_eq_true c25
              clear c25
              replace H := Option.bind_eq_some_iff.mp H
              obtain ⟨⟨t665, t666⟩, A260, H⟩ := H
              try dsimp only at H
              have A26 := Aside0.mk A260
              clear A260
              by_cases c27 : x9_3 = true
              ·subst c27
               have H1 : (if t665 = true then (if x7_1.length < 17592186044416 then (spec_l07Shelling.l0 k3 l1 t653 (x7_1 ++ [t666]) (wrap64 (x8_1 + 1))) else (none)) else (some (false, x7_1))) = some (r1, r2) := by rw [if_pos rfl] at H; exact H
               clear H
               have H := H1
               clear H1
               by_cases c28 : t665 = true
               ·subst c28
                have H1 : (if x7_1.length < 17592186044416 then (spec_l07Shelling.l0 k3 l1 t653 (x7_1 ++ [t666]) (wrap64 (x8_1 + 1))) else (none)) = some (r1, r2) := by rw [if_pos rfl] at H; exact H
                clear H
                have H := H1
                clear H1
                by_cases c29 : x7_1.length < 17592186044416
                ·rw [if_pos c29] at H
                 have LMc29 := Aside0.mk c29
                 clear c29
                 obtain ⟨y667, hy667⟩ : ∃ y_ : List Int, y_ = (x7_1 ++ [t666]) := ⟨_, rfl⟩
                 replace H : (spec_l07Shelling.l0 k3 l1 t653 y667 (wrap64 (x8_1 + 1))) = some (r1, r2) := by first | (rw [hy667]; with_reducible exact H) | (have H2_ := (Option.bind_some _ _).symm.trans H; rw [hy667]; with_reducible exact H2_) | (have H2_ := (Option.bind_some _ _).symm.trans H; with_reducible exact H2_) | with_reducible exact H | (rw [hy667]; exact H) | exact H
                 have Ny667 := Aside0.mk hy667
                 clear hy667
                 have H' := Aside0.mk H
                 clear H
                 obtain ⟨i030, hi030, _, hsz30, _⟩ := info_parts info2
                 obtain ⟨hcut30, hA30, hC30⟩ := print_take_of (P := Try.prog) (Value.int .i64) 0 22 2 .i64 Try.underlying22 hi030 hsz30 A1 c1 l1 x8_1 (of_decide_eq_true (by first | (with_reducible assumption) | assumption)) (of_decide_eq_true (by first | (with_reducible assumption) | assumption)) HC1.out
                 have HR663 := Aside0.mk (Kd.C_of_reads (h1 := fun _ => rfl) (hA30 _ (Kd.reads_of_C HR1.out)))
                 have HC663 := Aside0.mk hC30
                 clear hA30 hC30 hi030 hsz30
                 have p664 : 0 ≤ (x8_1 : Int) := of_decide_eq_true (by first | (with_reducible assumption) | assumption)
                 have q664 : x8_1 < (l1.length : Int) := of_decide_eq_true (by first | (with_reducible assumption) | assumption)
                 obtain ⟨ad664, e664, hx664_0⟩ := Kd.at_int HR1.out x8_1 p664 q664
                 cases e664
                 replace hx664_0 := cH HB hx664_0
                 replace p664 := eq_true p664
                 replace q664 := eq_true q664
                 (try go_upto_region 16 with fail)
                 refine st_ 13 (S := fun w' => w'.cell? (ad664.add (x8_1).toNat) = some (.int .i64 (rd l1 x8_1))) (ds := []) hx664_0 (fun hHeld => ?_)
                 refine with_tabW (T := (true, [([], []), ([], []), ([0, 1], [0, 1]), ([], []), ([], []), ([3, 4], [3, 4]), ([5], [5]), ([2, 6], [2, 6]), ([7], [7]), ([8], [8]), ([8], [8]), ([9, 7, 0, 1, 2, 3, 4, 5, 6, 7, 8, 9], [9]), ([10, 11, 0, 1, 2, 3, 4, 5, 6, 7, 8, 9, 10, 11], [10])])) (B := [0, 0, 3, 0, 0, 24, 56, 127, 255, 511, 511, 1023, 4095]) (by kernel_rfl) (by kernel_rfl) (fun HT_ HW_ => ?_)
                 refine pd_ 0 65 1 HT_ ?_
                 refine pd_ 1 66 3 HT_ ?_
                 refine pd_ 2 67 7 HT_ ?_
                 refine pd_ 3 68 15 HT_ ?_
                 refine pd_ 4 69 31 HT_ ?_
                 refine pd_ 5 70 63 HT_ ?_
                 refine tk_ 6 71 127 HT_ HW_ hHeld ?_
                 refine on_ 7 (some 72) 255 HT_ (fun K hK => ?_)
                 refine ca_ Try.func131 #[.slice (some ad664) (x8_1 : Int).toNat c1, .int .i64 (rd l1 x8_1)] ?_
                 (have hl_ : (x8_1 : Int).toNat = (l1.take (x8_1 : Int).toNat).length := by rw [List.length_take]; have := of_eq_true q664; omega); rw [show (Value.slice (some ad664) (x8_1 : Int).toNat c1) = Value.slice (some ad664) (l1.take (x8_1 : Int).toNat).length c1 from by rw [← hl_]]; clear hl_; refine (spec_l07Goes.calls k3 _ _ (l1.take (x8_1 : Int).toNat) (rd l1 x8_1) true t666 _ ?side1 ?side2 A26.out).mono ?_; (case side1 => exact pC ((Kd.C_below HR663.out HB.out))); (case side2 => exact HC663.out); rintro e w' ⟨rfl, ⟨nd, rfl⟩⟩
                 refine ⟨_, rfl, ?_⟩
                 refine hK.out _ _ hHeld (fun hHeld => ?_)
                 clear hK K
                 refine nm_ ?_
                 refine pd_ 8 64 511 HT_ ?_
                 refine pd_ 9 73 1023 HT_ ?_
                 refine pd_ 10 74 2047 HT_ ?_
                 refine pd_ 11 12 4095 HT_ ?_
                 refine pd_ 12 13 8191 HT_ ?_
                 refine dn_ HT_ ?_
                 go_wp2_with (first | ((with_reducible refine gate_builtin (b := .append) (xs := #[.tmp 82, .tmp 84]) rfl ?_); at_builtin; refine Kd.R_append (Kd.int .i64) (w0 := w) w.heap.size rfl (.tmp 82) (.tmp 84) 22 2 (.int .i64 0) 8 rfl Try.underlying22 info2 rfl (by decide) (by omega) u7 x7_1 t666 [.int .i64 t666] (fun k_ => some k_ ≠ (.slice Ao10 t653.length co10 : Value).ownBlock) (fun _ => False) rfl rfl ?aP (fun _ hk => hk.elim) ?aF ?aO ?aB ?aS ?aL ?_; (case aP => exact rfl); (case aB => exact (pH HB)); (case aF => exact (fun k_ hk => Kd.fresh' (Kd.R_lt (pR HO_6)) k_ hk)); (case aO => exact (pR HO_7)); (case aS => exact (below_size (pH HB))); (case aL => have := LMc29.out; omega); intro v668 w31 ho hb hg hat; rw [← Ny667.out] at ho; have n0_ := Aside0.mk (Kd.R_after (ok := (fun _ => True)) (by (with_reducible repeat (first | apply Kd.R_alloc | apply Kd.R_drewN | apply Kd.R_drew)); exact Kd.R_mono HO_6.out (fun _ hk => ⟨trivial, hk⟩)) hg hat); have n1_ := Aside0.mk (blk_grown (g := gb652) (o := .cells #[.int .i64 a0_0, .slice A0_1 l0_1.length c0_1] 28 (0, 0)) (pB BK652) hg (Kd.R_ne HO_7.out BK652.out (by decide))); have n2_ := Aside0.mk (hb); have n3_ := Aside0.mk (ho); clear HO_6; clear BK652; clear HB; clear HO_7; have HO_6 := n0_; have BK652 := n1_; have HB := n2_; have HO669 := n3_; clear n0_ n1_ n2_ n3_; clear ho hb hg hat))
                 go_roundg k3
                 case measure => have := HK1.out; have := HK2.out; have := HK3.out; omega
                 case rel => exact ⟨(y667), (wrap64 (x8_1 + 1)), (by first | rfl | (simp; done) | (simp [*]; done)), H', ⟨by have := HK1.out; have := HK2.out; have := HK3.out; omega⟩, ⟨by (with_reducible repeat (first | apply Kd.R_alloc | apply Kd.R_drewN | apply Kd.R_drew)); exact Kd.R_mono HO_6.out (fun _ hk => hk.2)⟩, ⟨by (with_reducible repeat (first | apply Kd.R_alloc | apply Kd.R_drewN | apply Kd.R_drew)); exact HO669.out⟩, ⟨pB BK652⟩, ⟨pH HB⟩⟩
                ·rw [if_neg c29] at H
                 exact absurd H (by simp)
               ·replace c28 := Bool.eq_false_iff.mpr c28
                subst c28
                have H1 : (some (false, x7_1)) = some (r1, r2) := by rw [if_neg (show ¬ (false = true) by decide)] at H; exact H
                clear H
                have H := H1
                clear H1
                simp only [Option.some.injEq, Prod.mk.injEq] at H
                obtain ⟨rfl, rfl⟩ := H
                obtain ⟨i032, hi032, _, hsz32, _⟩ := info_parts info2
                obtain ⟨hcut32, hA32, hC32⟩ := print_take_of (P := Try.prog) (Value.int .i64) 0 22 2 .i64 Try.underlying22 hi032 hsz32 A1 c1 l1 x8_1 (of_decide_eq_true (by first | (with_reducible assumption) | assumption)) (of_decide_eq_true (by first | (with_reducible assumption) | assumption)) HC1.out
                have HR663 := Aside0.mk (Kd.C_of_reads (h1 := fun _ => rfl) (hA32 _ (Kd.reads_of_C HR1.out)))
                have HC663 := Aside0.mk hC32
                clear hA32 hC32 hi032 hsz32
                have p664 : 0 ≤ (x8_1 : Int) := of_decide_eq_true (by first | (with_reducible assumption) | assumption)
                have q664 : x8_1 < (l1.length : Int) := of_decide_eq_true (by first | (with_reducible assumption) | assumption)
                obtain ⟨ad664, e664, hx664_0⟩ := Kd.at_int HR1.out x8_1 p664 q664
                cases e664
                replace hx664_0 := cH HB hx664_0
                replace p664 := eq_true p664
                replace q664 := eq_true q664
                (try go_upto_region 16 with fail)
                refine st_ 13 (S := fun w' => w'.cell? (ad664.add (x8_1).toNat) = some (.int .i64 (rd l1 x8_1))) (ds := []) hx664_0 (fun hHeld => ?_)
                refine with_tabW (T := (true, [([], []), ([], []), ([0, 1], [0, 1]), ([], []), ([], []), ([3, 4], [3, 4]), ([5], [5]), ([2, 6], [2, 6]), ([7], [7]), ([8], [8]), ([8], [8]), ([9, 7, 0, 1, 2, 3, 4, 5, 6, 7, 8, 9], [9]), ([10, 11, 0, 1, 2, 3, 4, 5, 6, 7, 8, 9, 10, 11], [10])])) (B := [0, 0, 3, 0, 0, 24, 56, 127, 255, 511, 511, 1023, 4095]) (by kernel_rfl) (by kernel_rfl) (fun HT_ HW_ => ?_)
                refine pd_ 0 65 1 HT_ ?_
                refine pd_ 1 66 3 HT_ ?_
                refine pd_ 2 67 7 HT_ ?_
                refine pd_ 3 68 15 HT_ ?_
                refine pd_ 4 69 31 HT_ ?_
                refine pd_ 5 70 63 HT_ ?_
                refine tk_ 6 71 127 HT_ HW_ hHeld ?_
                refine on_ 7 (some 72) 255 HT_ (fun K hK => ?_)
                refine ca_ Try.func131 #[.slice (some ad664) (x8_1 : Int).toNat c1, .int .i64 (rd l1 x8_1)] ?_
                (have hl_ : (x8_1 : Int).toNat = (l1.take (x8_1 : Int).toNat).length := by rw [List.length_take]; have := of_eq_true q664; omega); rw [show (Value.slice (some ad664) (x8_1 : Int).toNat c1) = Value.slice (some ad664) (l1.take (x8_1 : Int).toNat).length c1 from by rw [← hl_]]; clear hl_; refine (spec_l07Goes.calls k3 _ _ (l1.take (x8_1 : Int).toNat) (rd l1 x8_1) false t666 _ ?side1 ?side2 A26.out).mono ?_; (case side1 => exact pC ((Kd.C_below HR663.out HB.out))); (case side2 => exact HC663.out); rintro e w' ⟨rfl, ⟨nd, rfl⟩⟩
                refine ⟨_, rfl, ?_⟩
                refine hK.out _ _ hHeld (fun hHeld => ?_)
                clear hK K
                refine nm_ ?_
                refine pd_ 8 64 511 HT_ ?_
                refine pd_ 9 73 1023 HT_ ?_
                refine pd_ 10 74 2047 HT_ ?_
                refine pd_ 11 12 4095 HT_ ?_
                refine pd_ 12 13 8191 HT_ ?_
                refine dn_ HT_ ?_
                go_wp2
                go_ret2
                exact ⟨_, by first | rfl | (simp [errW_none, errW_some] <;> rfl) | (simp [*, errW_none, errW_some] <;> rfl) | (exfalso; simp_all), by (with_reducible repeat (first | apply Kd.R_alloc | apply Kd.R_drewN | apply Kd.R_drew)); exact Kd.R_mono HO_7.out (fun _ hk => trivial), pH HB⟩
              ·replace c27 := Bool.eq_false_iff.mpr c27
               subst c27
               have H1 : (some (false, x7_1)) = some (r1, r2) := by rw [if_neg (show ¬ (false = true) by decide)] at H; exact H
               clear H
               have H := H1
               clear H1
               simp only [Option.some.injEq, Prod.mk.injEq] at H
               obtain ⟨rfl, rfl⟩ := H
               obtain ⟨i033, hi033, _, hsz33, _⟩ := info_parts info2
               obtain ⟨hcut33, hA33, hC33⟩ := print_take_of (P := Try.prog) (Value.int .i64) 0 22 2 .i64 Try.underlying22 hi033 hsz33 A1 c1 l1 x8_1 (of_decide_eq_true (by first | (with_reducible assumption) | assumption)) (of_decide_eq_true (by first | (with_reducible assumption) | assumption)) HC1.out
               have HR663 := Aside0.mk (Kd.C_of_reads (h1 := fun _ => rfl) (hA33 _ (Kd.reads_of_C HR1.out)))
               have HC663 := Aside0.mk hC33
               clear hA33 hC33 hi033 hsz33
               have p664 : 0 ≤ (x8_1 : Int) := of_decide_eq_true (by first | (with_reducible assumption) | assumption)
               have q664 : x8_1 < (l1.length : Int) := of_decide_eq_true (by first | (with_reducible assumption) | assumption)
               obtain ⟨ad664, e664, hx664_0⟩ := Kd.at_int HR1.out x8_1 p664 q664
               cases e664
               replace hx664_0 := cH HB hx664_0
               replace p664 := eq_true p664
               replace q664 := eq_true q664
               (try go_upto_region 16 with fail)
               refine st_ 13 (S := fun w' => w'.cell? (ad664.add (x8_1).toNat) = some (.int .i64 (rd l1 x8_1))) (ds := []) hx664_0 (fun hHeld => ?_)
               refine with_tabW (T := (true, [([], []), ([], []), ([0, 1], [0, 1]), ([], []), ([], []), ([3, 4], [3, 4]), ([5], [5]), ([2, 6], [2, 6]), ([7], [7]), ([8], [8]), ([8], [8]), ([9, 7, 0, 1, 2, 3, 4, 5, 6, 7, 8, 9], [9]), ([10, 11, 0, 1, 2, 3, 4, 5, 6, 7, 8, 9, 10, 11], [10])])) (B := [0, 0, 3, 0, 0, 24, 56, 127, 255, 511, 511, 1023, 4095]) (by kernel_rfl) (by kernel_rfl) (fun HT_ HW_ => ?_)
               refine pd_ 0 65 1 HT_ ?_
               refine pd_ 1 66 3 HT_ ?_
               refine pd_ 2 67 7 HT_ ?_
               refine pd_ 3 68 15 HT_ ?_
               refine pd_ 4 69 31 HT_ ?_
               refine pd_ 5 70 63 HT_ ?_
               refine tk_ 6 71 127 HT_ HW_ hHeld ?_
               refine on_ 7 (some 72) 255 HT_ (fun K hK => ?_)
               refine ca_ Try.func131 #[.slice (some ad664) (x8_1 : Int).toNat c1, .int .i64 (rd l1 x8_1)] ?_
               (have hl_ : (x8_1 : Int).toNat = (l1.take (x8_1 : Int).toNat).length := by rw [List.length_take]; have := of_eq_true q664; omega); rw [show (Value.slice (some ad664) (x8_1 : Int).toNat c1) = Value.slice (some ad664) (l1.take (x8_1 : Int).toNat).length c1 from by rw [← hl_]]; clear hl_; refine (spec_l07Goes.calls k3 _ _ (l1.take (x8_1 : Int).toNat) (rd l1 x8_1) t665 t666 _ ?side1 ?side2 A26.out).mono ?_; (case side1 => exact pC ((Kd.C_below HR663.out HB.out))); (case side2 => exact HC663.out); rintro e w' ⟨rfl, ⟨nd, rfl⟩⟩
               refine ⟨_, rfl, ?_⟩
               refine hK.out _ _ hHeld (fun hHeld => ?_)
               clear hK K
               refine nm_ ?_
               refine pd_ 8 64 511 HT_ ?_
               refine pd_ 9 73 1023 HT_ ?_
               refine pd_ 10 74 2047 HT_ ?_
               refine pd_ 11 12 4095 HT_ ?_
               refine pd_ 12 13 8191 HT_ ?_
               refine dn_ HT_ ?_
               go_wp2
               go_ret2
               exact ⟨_, by first | rfl | (simp [errW_none, errW_some] <;> rfl) | (simp [*, errW_none, errW_some] <;> rfl) | (exfalso; simp_all), by (with_reducible repeat (first | apply Kd.R_alloc | apply Kd.R_drewN | apply Kd.R_drew)); exact Kd.R_mono HO_7.out (fun _ hk => trivial), pH HB⟩
             ·rw [if_neg c25] at H
              exact absurd H (by simp)
            ·rw [if_neg c24] at H
             exact absurd H (by simp)
           ·rw [if_neg c23] at H
            exact absurd H (by simp)
    ·rw [if_neg c11] at H
     have c11b0 : decide (x8_1 < (l1.length : Int)) = false := decide_eq_false c11
     clear c11
     simp only [Option.some.injEq, Prod.mk.injEq] at H
     obtain ⟨rfl, rfl⟩ := H
     go_wp2
     repeat (go_quiet (fail); try go_wp2)
     go_ret2
     exact ⟨_, by first | rfl | (simp [errW_none, errW_some] <;> rfl) | (simp [*, errW_none, errW_some] <;> rfl) | (exfalso; simp_all), by (with_reducible repeat (first | apply Kd.R_alloc | apply Kd.R_drewN | apply Kd.R_drew)); exact Kd.R_mono HO_7.out (fun _ hk => trivial), pH HB⟩
 ·rw [if_neg c4] at H
  have c4b0 : ((l1.length : Int) == (t653.length : Int)) = false := beq_eq_false_iff_ne.mpr c4
  have c4b1 : ((l1.length : Int) != (t653.length : Int)) = true := bne_iff_ne.mpr c4
  have c4b2 : (l1.length == t653.length) = false := by first | simpa using c4 | (simp at c4 ⊢; omega)
  simp only [Option.some.injEq, Prod.mk.injEq] at H
  obtain ⟨rfl, rfl⟩ := H
  go_enter Try.func87, Try.ntmps87
  go_wp2_with (first | ((with_reducible refine gate_dst (N := 2) rfl ?_); refine box_event ?hg (N := 2) ?hd (cs := #[.int .i64 a0_0, .slice A0_1 l0_1.length c0_1]) (t := 28) ?hr ?_; (case hd => rfl); (case hg => rfl); (case hr => first | (go_simp; done) | (go_simp; rfl)); intro gb652 hg w34 hbox hb; have BK652 := Aside0.mk (hbox); have GW652 := gH HB hg; have GE652 := gH HB hg; replace HB := sH HB hb; clear hb hbox hg; have hcz35_0 : w34.cell? ⟨gb652, 0, none⟩ = some (.int .i64 a0_0) := cB BK652 0; have hcz35_1 : w34.cell? ⟨gb652, 1, none⟩ = some (.slice A0_1 l0_1.length c0_1) := cB BK652 1; have hfz35_0 := zB BK652 0; have hfz35_1 := zB BK652 1) | (go_at_call 81; (with_reducible refine (spec_l01Facets.calls k a0_0 _ _ l0_1 t653 _ ?side1 ?side2 A3.out).mono ?_); (case side1 => exact pC ((Kd.C_below HR0_1.out HB.out))); (case side2 => exact HC0_1.out); rintro e w36 ⟨v654, rfl, ho0, hb⟩; have HO655 := Aside0.mk (Kd.R_lower ho0 (below_size (pH HB))); replace BK652 := sB BK652 hb; replace HB := sH HB hb; (try clear hb); (try clear hi); (try clear ho0)) | ((with_reducible refine gate_dst (N := 16) rfl ?_); refine Kd.R_lit (Kd.int .i64) _ 2 ?hg (N := 16) ?hd (xs := ([] : List Int)) (inner := []) (ok := fun _ => True) (okp := fun _ => True) ?hr ?hp (fun _ hk => hk) trivial (Below.refl _ _) (Nat.le_refl _) (by simp) ?_; (case hd => rfl); (case hg => rfl); (case hr => first | (go_simp; done) | (go_simp; rfl)); (case hp => exact (Reps.none _ _)); intro v657 w37 ho38 hb hg_ hnew_; clear hg_ hnew_; (first | rw [← Ny656.out] at ho38 | (simp only [Int.reduceToNat] at ho38; rw [← Ny656.out] at ho38)); have HO658 := Aside0.mk (Kd.R_lower (Kd.R_new' ho38 (Kd.R_lt (pR HO655))) (below_size (pH HB))); replace HO655 := Aside0.mk (Kd.R_elder' (pR HO655) (Kd.R_base ho38) hb); replace BK652 := sB BK652 hb; replace HB := sH HB hb; clear hb ho38; obtain ⟨Ao39, co39, eo39⟩ := Kd.R_slice HO655.out; subst eo39))
  repeat (go_quiet (first | ((with_reducible refine gate_dst (N := 2) rfl ?_); refine box_event ?hg (N := 2) ?hd (cs := #[.int .i64 a0_0, .slice A0_1 l0_1.length c0_1]) (t := 28) ?hr ?_; (case hd => rfl); (case hg => rfl); (case hr => first | (go_simp; done) | (go_simp; rfl)); intro gb652 hg w34 hbox hb; have BK652 := Aside0.mk (hbox); have GW652 := gH HB hg; have GE652 := gH HB hg; replace HB := sH HB hb; clear hb hbox hg; have hcz35_0 : w34.cell? ⟨gb652, 0, none⟩ = some (.int .i64 a0_0) := cB BK652 0; have hcz35_1 : w34.cell? ⟨gb652, 1, none⟩ = some (.slice A0_1 l0_1.length c0_1) := cB BK652 1; have hfz35_0 := zB BK652 0; have hfz35_1 := zB BK652 1) | (go_at_call 81; (with_reducible refine (spec_l01Facets.calls k a0_0 _ _ l0_1 t653 _ ?side1 ?side2 A3.out).mono ?_); (case side1 => exact pC ((Kd.C_below HR0_1.out HB.out))); (case side2 => exact HC0_1.out); rintro e w36 ⟨v654, rfl, ho0, hb⟩; have HO655 := Aside0.mk (Kd.R_lower ho0 (below_size (pH HB))); replace BK652 := sB BK652 hb; replace HB := sH HB hb; (try clear hb); (try clear hi); (try clear ho0)) | ((with_reducible refine gate_dst (N := 16) rfl ?_); refine Kd.R_lit (Kd.int .i64) _ 2 ?hg (N := 16) ?hd (xs := ([] : List Int)) (inner := []) (ok := fun _ => True) (okp := fun _ => True) ?hr ?hp (fun _ hk => hk) trivial (Below.refl _ _) (Nat.le_refl _) (by simp) ?_; (case hd => rfl); (case hg => rfl); (case hr => first | (go_simp; done) | (go_simp; rfl)); (case hp => exact (Reps.none _ _)); intro v657 w37 ho38 hb hg_ hnew_; clear hg_ hnew_; (first | rw [← Ny656.out] at ho38 | (simp only [Int.reduceToNat] at ho38; rw [← Ny656.out] at ho38)); have HO658 := Aside0.mk (Kd.R_lower (Kd.R_new' ho38 (Kd.R_lt (pR HO655))) (below_size (pH HB))); replace HO655 := Aside0.mk (Kd.R_elder' (pR HO655) (Kd.R_base ho38) hb); replace BK652 := sB BK652 hb; replace HB := sH HB hb; clear hb ho38; obtain ⟨Ao39, co39, eo39⟩ := Kd.R_slice HO655.out; subst eo39)); try go_wp2_with (first | ((with_reducible refine gate_dst (N := 2) rfl ?_); refine box_event ?hg (N := 2) ?hd (cs := #[.int .i64 a0_0, .slice A0_1 l0_1.length c0_1]) (t := 28) ?hr ?_; (case hd => rfl); (case hg => rfl); (case hr => first | (go_simp; done) | (go_simp; rfl)); intro gb652 hg w34 hbox hb; have BK652 := Aside0.mk (hbox); have GW652 := gH HB hg; have GE652 := gH HB hg; replace HB := sH HB hb; clear hb hbox hg; have hcz35_0 : w34.cell? ⟨gb652, 0, none⟩ = some (.int .i64 a0_0) := cB BK652 0; have hcz35_1 : w34.cell? ⟨gb652, 1, none⟩ = some (.slice A0_1 l0_1.length c0_1) := cB BK652 1; have hfz35_0 := zB BK652 0; have hfz35_1 := zB BK652 1) | (go_at_call 81; (with_reducible refine (spec_l01Facets.calls k a0_0 _ _ l0_1 t653 _ ?side1 ?side2 A3.out).mono ?_); (case side1 => exact pC ((Kd.C_below HR0_1.out HB.out))); (case side2 => exact HC0_1.out); rintro e w36 ⟨v654, rfl, ho0, hb⟩; have HO655 := Aside0.mk (Kd.R_lower ho0 (below_size (pH HB))); replace BK652 := sB BK652 hb; replace HB := sH HB hb; (try clear hb); (try clear hi); (try clear ho0)) | ((with_reducible refine gate_dst (N := 16) rfl ?_); refine Kd.R_lit (Kd.int .i64) _ 2 ?hg (N := 16) ?hd (xs := ([] : List Int)) (inner := []) (ok := fun _ => True) (okp := fun _ => True) ?hr ?hp (fun _ hk => hk) trivial (Below.refl _ _) (Nat.le_refl _) (by simp) ?_; (case hd => rfl); (case hg => rfl); (case hr => first | (go_simp; done) | (go_simp; rfl)); (case hp => exact (Reps.none _ _)); intro v657 w37 ho38 hb hg_ hnew_; clear hg_ hnew_; (first | rw [← Ny656.out] at ho38 | (simp only [Int.reduceToNat] at ho38; rw [← Ny656.out] at ho38)); have HO658 := Aside0.mk (Kd.R_lower (Kd.R_new' ho38 (Kd.R_lt (pR HO655))) (below_size (pH HB))); replace HO655 := Aside0.mk (Kd.R_elder' (pR HO655) (Kd.R_base ho38) hb); replace BK652 := sB BK652 hb; replace HB := sH HB hb; clear hb ho38; obtain ⟨Ao39, co39, eo39⟩ := Kd.R_slice HO655.out; subst eo39)))
  go_ret2
  exact ⟨_, by first | rfl | (simp [errW_none, errW_some] <;> rfl) | (simp [*, errW_none, errW_some] <;> rfl) | (exfalso; simp_all), by (with_reducible repeat (first | apply Kd.R_alloc | apply Kd.R_drewN | apply Kd.R_drew)); exact Kd.R_mono HO658.out (fun _ hk => trivial), pH HB⟩
end Go.Proofs.Ytomdfjohnmikdaa.QS
namespace Go.Proofs.Ytomdfjohnmikdaa.QS
open Go.Proofs.Ytomdfjohnmikdaa.Cw Go.Proofs.Ytomdfjohnmikdaa.Kp Go.Proofs.Ytomdfjohnmikdaa.Ext Go.RowKit Go.Proofs.YtomdfjohnmikdaaW.PrintWords Go.Proofs.YtomdfjohnmikdaaW.PrintLast Go.Proofs.YtomdfjohnmikdaaW.PrintMore
attribute [local go_sem] max2_int min2_int max_two min_two max_three min_three max_four min_four   -- for this text's walks alone
set_option linter.unusedVariables false
set_option linter.unusedSimpArgs false
def spec_RestrictionsOf.f (k : Nat) (a0_0 : Int) (l0_1 : List Int) (l1 : List Int) : Option (List Int × Int) := (spec_l01Is.f k a0_0 l0_1).bind fun t678 => (if t678 = true then ((spec_l07Shelling.f k a0_0 l0_1 l1).bind fun bt679 => (if bt679.1 = true then ((spec_l07Pure.f k a0_0 l0_1).bind fun t683 => (if t683 = true then (some (bt679.2, 0)) else (some (([] : List Int), 5)))) else (some (([] : List Int), 5)))) else (some (([] : List Int), 1)))
set_option maxHeartbeats 8000000 in
set_option maxRecDepth 100000 in
theorem spec_RestrictionsOf.calls (k : Nat) (a0_0 : Int) (A0_1 : Option Addr) (c0_1 : Nat) (l0_1 : List Int) (A1 : Option Addr) (c1 : Nat) (l1 : List Int) (r1 : List Int) (r2 : Int) (w : World) (hr0_1 : Kd.C (Kd.int .i64) w A0_1 l0_1.length l0_1) (hc0_1 : l0_1.length ≤ c0_1) (hr1 : Kd.C (Kd.int .i64) w A1 l1.length l1) (hc1 : l1.length ≤ c1) (h : spec_RestrictionsOf.f k a0_0 l0_1 l1 = some (r1, r2)) :
  Calls Try.prog 38 #[.agg #[.int .i64 a0_0, .slice A0_1 l0_1.length c0_1], .slice A1 l1.length c1] w fun e w' => ∃ v0_ : Value, e = .returned (.tuple #[v0_, .int .i64 r2]) ∧ Kd.R (Kd.int .i64) 2 w' w.heap.size (fun _ => True) v0_ r1 ∧ Below w.heap.size w w' := by
 have hu28 := Try.underlying28
 have HR0_1 := Aside0.mk hr0_1
 have HC0_1 := Aside0.mk hc0_1
 clear hr0_1 hc0_1
 have HR1 := Aside0.mk hr1
 have HC1 := Aside0.mk hc1
 clear hr1 hc1
 have HB := Aside0.mk (Below.refl w.heap.size w)
 have H : ((spec_l01Is.f k a0_0 l0_1).bind fun t678 => (if t678 = true then ((spec_l07Shelling.f k a0_0 l0_1 l1).bind fun bt679 => (if bt679.1 = true then ((spec_l07Pure.f k a0_0 l0_1).bind fun t683 => (if t683 = true then (some (bt679.2, 0)) else (some (([] : List Int), 5)))) else (some (([] : List Int), 5)))) else (some (([] : List Int), 1)))) = some (r1, r2) := h
 clear h
 replace H := Option.bind_eq_some_iff.mp H
 obtain ⟨t678, A30, H⟩ := H
 try dsimp only at H
 have A3 := Aside0.mk A30
 clear A30
 by_cases c4 : t678 = true
 ·subst c4
  have H1 : ((spec_l07Shelling.f k a0_0 l0_1 l1).bind fun bt679 => (if bt679.1 = true then ((spec_l07Pure.f k a0_0 l0_1).bind fun t683 => (if t683 = true then (some (bt679.2, 0)) else (some (([] : List Int), 5)))) else (some (([] : List Int), 5)))) = some (r1, r2) := by rw [if_pos rfl] at H; exact H
  clear H
  have H := H1
  clear H1
  replace H := Option.bind_eq_some_iff.mp H
  obtain ⟨⟨t679, t680⟩, A50, H⟩ := H
  try dsimp only at H
  have A5 := Aside0.mk A50
  clear A50
  by_cases c6 : t679 = true
  ·subst c6
   have H1 : ((spec_l07Pure.f k a0_0 l0_1).bind fun t683 => (if t683 = true then (some (t680, 0)) else (some (([] : List Int), 5)))) = some (r1, r2) := by rw [if_pos rfl] at H; exact H
   clear H
   have H := H1
   clear H1
   replace H := Option.bind_eq_some_iff.mp H
   obtain ⟨t683, A70, H⟩ := H
   try dsimp only at H
   have A7 := Aside0.mk A70
   clear A70
   by_cases c8 : t683 = true
   ·subst c8
    have H1 : (some (t680, 0)) = some (r1, r2) := by rw [if_pos rfl] at H; exact H
    clear H
    have H := H1
    clear H1
    simp only [Option.some.injEq, Prod.mk.injEq] at H
    obtain ⟨rfl, rfl⟩ := H
    go_enter Try.func38, Try.ntmps38
    go_wp2_with (first | ((with_reducible refine gate_dst (N := 2) rfl ?_); refine box_event ?hg (N := 2) ?hd (cs := #[.int .i64 a0_0, .slice A0_1 l0_1.length c0_1]) (t := 28) ?hr ?_; (case hd => rfl); (case hg => rfl); (case hr => first | (go_simp; done) | (go_simp; rfl)); intro gb677 hg w9 hbox hb; have BK677 := Aside0.mk (hbox); have GW677 := gH HB hg; have GE677 := gH HB hg; replace HB := sH HB hb; clear hb hbox hg; have hcz10_0 : w9.cell? ⟨gb677, 0, none⟩ = some (.int .i64 a0_0) := cB BK677 0; have hcz10_1 : w9.cell? ⟨gb677, 1, none⟩ = some (.slice A0_1 l0_1.length c0_1) := cB BK677 1; have hfz10_0 := zB BK677 0; have hfz10_1 := zB BK677 1) | ((with_reducible refine gate_callee (f := 50) rfl ?_); refine cl_ (some 9) Try.func50 #[.agg #[.int .i64 a0_0, .slice A0_1 l0_1.length c0_1]] ?_; (with_reducible refine (spec_l01Is.calls k a0_0 _ _ l0_1 true _ ?side1 ?side2 A3.out).mono ?_); (case side1 => exact pC ((Kd.C_below HR0_1.out HB.out))); (case side2 => exact HC0_1.out); rintro e w11 ⟨rfl, hb⟩; refine ⟨_, rfl, ?_⟩; replace BK677 := sB BK677 hb; replace HB := sH HB hb; (try clear hb); (try clear hi); have hcz12_0 : w11.cell? ⟨gb677, 0, none⟩ = some (.int .i64 a0_0) := cB BK677 0; have hcz12_1 : w11.cell? ⟨gb677, 1, none⟩ = some (.slice A0_1 l0_1.length c0_1) := cB BK677 1; have hfz12_0 := zB BK677 0; have hfz12_1 := zB BK677 1) | ((with_reducible refine gate_callee (f := 87) rfl ?_); refine cl_ (some 14) Try.func87 #[.agg #[.int .i64 a0_0, .slice A0_1 l0_1.length c0_1], .slice A1 l1.length c1] ?_; (with_reducible refine (spec_l07Shelling.calls k a0_0 _ _ l0_1 _ _ l1 true t680 _ ?side1 ?side2 ?side3 ?side4 A5.out).mono ?_); (case side1 => exact pC ((Kd.C_below HR0_1.out HB.out))); (case side2 => exact HC0_1.out); (case side3 => exact pC ((Kd.C_below HR1.out HB.out))); (case side4 => exact HC1.out); rintro e w13 ⟨v681, rfl, ho0, hb⟩; refine ⟨_, rfl, ?_⟩; have HO682 := Aside0.mk (Kd.R_lower ho0 (below_size (pH HB))); replace BK677 := sB BK677 hb; replace HB := sH HB hb; (try clear hb); (try clear hi); (try clear ho0); have hcz14_0 : w13.cell? ⟨gb677, 0, none⟩ = some (.int .i64 a0_0) := cB BK677 0; have hcz14_1 : w13.cell? ⟨gb677, 1, none⟩ = some (.slice A0_1 l0_1.length c0_1) := cB BK677 1; have hfz14_0 := zB BK677 0; have hfz14_1 := zB BK677 1) | (go_at_call 80; (with_reducible refine (spec_l07Pure.calls k a0_0 _ _ l0_1 true _ ?side1 ?side2 A7.out).mono ?_); (case side1 => exact pC ((Kd.C_below HR0_1.out HB.out))); (case side2 => exact HC0_1.out); rintro e w15 ⟨rfl, hb⟩; replace HO682 := sR HO682 hb; replace BK677 := sB BK677 hb; replace HB := sH HB hb; (try clear hb); (try clear hi)))
    go_ret2
    exact ⟨_, by first | rfl | (simp [errW_none, errW_some] <;> rfl) | (simp [*, errW_none, errW_some] <;> rfl) | (exfalso; simp_all), by (with_reducible repeat (first | apply Kd.R_alloc | apply Kd.R_drewN | apply Kd.R_drew)); exact HO682.out, pH HB⟩
   ·replace c8 := Bool.eq_false_iff.mpr c8
    subst c8
    have H1 : (some (([] : List Int), 5)) = some (r1, r2) := by rw [if_neg (show ¬ (false = true) by decide)] at H; exact H
    clear H
    have H := H1
    clear H1
    simp only [Option.some.injEq, Prod.mk.injEq] at H
    obtain ⟨rfl, rfl⟩ := H
    go_enter Try.func38, Try.ntmps38
    go_wp2_with (first | ((with_reducible refine gate_dst (N := 2) rfl ?_); refine box_event ?hg (N := 2) ?hd (cs := #[.int .i64 a0_0, .slice A0_1 l0_1.length c0_1]) (t := 28) ?hr ?_; (case hd => rfl); (case hg => rfl); (case hr => first | (go_simp; done) | (go_simp; rfl)); intro gb677 hg w16 hbox hb; have BK677 := Aside0.mk (hbox); have GW677 := gH HB hg; have GE677 := gH HB hg; replace HB := sH HB hb; clear hb hbox hg; have hcz17_0 : w16.cell? ⟨gb677, 0, none⟩ = some (.int .i64 a0_0) := cB BK677 0; have hcz17_1 : w16.cell? ⟨gb677, 1, none⟩ = some (.slice A0_1 l0_1.length c0_1) := cB BK677 1; have hfz17_0 := zB BK677 0; have hfz17_1 := zB BK677 1) | ((with_reducible refine gate_callee (f := 50) rfl ?_); refine cl_ (some 9) Try.func50 #[.agg #[.int .i64 a0_0, .slice A0_1 l0_1.length c0_1]] ?_; (with_reducible refine (spec_l01Is.calls k a0_0 _ _ l0_1 true _ ?side1 ?side2 A3.out).mono ?_); (case side1 => exact pC ((Kd.C_below HR0_1.out HB.out))); (case side2 => exact HC0_1.out); rintro e w18 ⟨rfl, hb⟩; refine ⟨_, rfl, ?_⟩; replace BK677 := sB BK677 hb; replace HB := sH HB hb; (try clear hb); (try clear hi); have hcz19_0 : w18.cell? ⟨gb677, 0, none⟩ = some (.int .i64 a0_0) := cB BK677 0; have hcz19_1 : w18.cell? ⟨gb677, 1, none⟩ = some (.slice A0_1 l0_1.length c0_1) := cB BK677 1; have hfz19_0 := zB BK677 0; have hfz19_1 := zB BK677 1) | ((with_reducible refine gate_callee (f := 87) rfl ?_); refine cl_ (some 14) Try.func87 #[.agg #[.int .i64 a0_0, .slice A0_1 l0_1.length c0_1], .slice A1 l1.length c1] ?_; (with_reducible refine (spec_l07Shelling.calls k a0_0 _ _ l0_1 _ _ l1 true t680 _ ?side1 ?side2 ?side3 ?side4 A5.out).mono ?_); (case side1 => exact pC ((Kd.C_below HR0_1.out HB.out))); (case side2 => exact HC0_1.out); (case side3 => exact pC ((Kd.C_below HR1.out HB.out))); (case side4 => exact HC1.out); rintro e w20 ⟨v681, rfl, ho0, hb⟩; refine ⟨_, rfl, ?_⟩; have HO682 := Aside0.mk (Kd.R_lower ho0 (below_size (pH HB))); replace BK677 := sB BK677 hb; replace HB := sH HB hb; (try clear hb); (try clear hi); (try clear ho0); have hcz21_0 : w20.cell? ⟨gb677, 0, none⟩ = some (.int .i64 a0_0) := cB BK677 0; have hcz21_1 : w20.cell? ⟨gb677, 1, none⟩ = some (.slice A0_1 l0_1.length c0_1) := cB BK677 1; have hfz21_0 := zB BK677 0; have hfz21_1 := zB BK677 1) | (go_at_call 80; (with_reducible refine (spec_l07Pure.calls k a0_0 _ _ l0_1 false _ ?side1 ?side2 A7.out).mono ?_); (case side1 => exact pC ((Kd.C_below HR0_1.out HB.out))); (case side2 => exact HC0_1.out); rintro e w22 ⟨rfl, hb⟩; replace HO682 := sR HO682 hb; replace BK677 := sB BK677 hb; replace HB := sH HB hb; (try clear hb); (try clear hi)))
    go_ret2
    exact ⟨_, by first | rfl | (simp [errW_none, errW_some] <;> rfl) | (simp [*, errW_none, errW_some] <;> rfl) | (exfalso; simp_all), by first | exact Kd.R_nil _ _ _ _ _ | exact Kd.N_nil _ _ _ _ _ | exact Kd.V_nil _ _ _ _ _ | exact Kd.Q_nil _ _ _ _ _ | exact Kd.S_nil _ _ _ _ _, pH HB⟩
  ·replace c6 := Bool.eq_false_iff.mpr c6
   subst c6
   have H1 : (some (([] : List Int), 5)) = some (r1, r2) := by rw [if_neg (show ¬ (false = true) by decide)] at H; exact H
   clear H
   have H := H1
   clear H1
   simp only [Option.some.injEq, Prod.mk.injEq] at H
   obtain ⟨rfl, rfl⟩ := H
   go_enter Try.func38, Try.ntmps38
   go_wp2_with (first | ((with_reducible refine gate_dst (N := 2) rfl ?_); refine box_event ?hg (N := 2) ?hd (cs := #[.int .i64 a0_0, .slice A0_1 l0_1.length c0_1]) (t := 28) ?hr ?_; (case hd => rfl); (case hg => rfl); (case hr => first | (go_simp; done) | (go_simp; rfl)); intro gb677 hg w23 hbox hb; have BK677 := Aside0.mk (hbox); have GW677 := gH HB hg; have GE677 := gH HB hg; replace HB := sH HB hb; clear hb hbox hg; have hcz24_0 : w23.cell? ⟨gb677, 0, none⟩ = some (.int .i64 a0_0) := cB BK677 0; have hcz24_1 : w23.cell? ⟨gb677, 1, none⟩ = some (.slice A0_1 l0_1.length c0_1) := cB BK677 1; have hfz24_0 := zB BK677 0; have hfz24_1 := zB BK677 1) | ((with_reducible refine gate_callee (f := 50) rfl ?_); refine cl_ (some 9) Try.func50 #[.agg #[.int .i64 a0_0, .slice A0_1 l0_1.length c0_1]] ?_; (with_reducible refine (spec_l01Is.calls k a0_0 _ _ l0_1 true _ ?side1 ?side2 A3.out).mono ?_); (case side1 => exact pC ((Kd.C_below HR0_1.out HB.out))); (case side2 => exact HC0_1.out); rintro e w25 ⟨rfl, hb⟩; refine ⟨_, rfl, ?_⟩; replace BK677 := sB BK677 hb; replace HB := sH HB hb; (try clear hb); (try clear hi); have hcz26_0 : w25.cell? ⟨gb677, 0, none⟩ = some (.int .i64 a0_0) := cB BK677 0; have hcz26_1 : w25.cell? ⟨gb677, 1, none⟩ = some (.slice A0_1 l0_1.length c0_1) := cB BK677 1; have hfz26_0 := zB BK677 0; have hfz26_1 := zB BK677 1) | ((with_reducible refine gate_callee (f := 87) rfl ?_); refine cl_ (some 14) Try.func87 #[.agg #[.int .i64 a0_0, .slice A0_1 l0_1.length c0_1], .slice A1 l1.length c1] ?_; (with_reducible refine (spec_l07Shelling.calls k a0_0 _ _ l0_1 _ _ l1 false t680 _ ?side1 ?side2 ?side3 ?side4 A5.out).mono ?_); (case side1 => exact pC ((Kd.C_below HR0_1.out HB.out))); (case side2 => exact HC0_1.out); (case side3 => exact pC ((Kd.C_below HR1.out HB.out))); (case side4 => exact HC1.out); rintro e w27 ⟨v681, rfl, ho0, hb⟩; refine ⟨_, rfl, ?_⟩; have HO682 := Aside0.mk (Kd.R_lower ho0 (below_size (pH HB))); replace BK677 := sB BK677 hb; replace HB := sH HB hb; (try clear hb); (try clear hi); (try clear ho0)))
   go_ret2
   exact ⟨_, by first | rfl | (simp [errW_none, errW_some] <;> rfl) | (simp [*, errW_none, errW_some] <;> rfl) | (exfalso; simp_all), by first | exact Kd.R_nil _ _ _ _ _ | exact Kd.N_nil _ _ _ _ _ | exact Kd.V_nil _ _ _ _ _ | exact Kd.Q_nil _ _ _ _ _ | exact Kd.S_nil _ _ _ _ _, pH HB⟩
 ·replace c4 := Bool.eq_false_iff.mpr c4
  subst c4
  have H1 : (some (([] : List Int), 1)) = some (r1, r2) := by rw [if_neg (show ¬ (false = true) by decide)] at H; exact H
  clear H
  have H := H1
  clear H1
  simp only [Option.some.injEq, Prod.mk.injEq] at H
  obtain ⟨rfl, rfl⟩ := H
  go_enter Try.func38, Try.ntmps38
  go_wp2_with (first | ((with_reducible refine gate_dst (N := 2) rfl ?_); refine box_event ?hg (N := 2) ?hd (cs := #[.int .i64 a0_0, .slice A0_1 l0_1.length c0_1]) (t := 28) ?hr ?_; (case hd => rfl); (case hg => rfl); (case hr => first | (go_simp; done) | (go_simp; rfl)); intro gb677 hg w28 hbox hb; have BK677 := Aside0.mk (hbox); have GW677 := gH HB hg; have GE677 := gH HB hg; replace HB := sH HB hb; clear hb hbox hg; have hcz29_0 : w28.cell? ⟨gb677, 0, none⟩ = some (.int .i64 a0_0) := cB BK677 0; have hcz29_1 : w28.cell? ⟨gb677, 1, none⟩ = some (.slice A0_1 l0_1.length c0_1) := cB BK677 1; have hfz29_0 := zB BK677 0; have hfz29_1 := zB BK677 1) | ((with_reducible refine gate_callee (f := 50) rfl ?_); refine cl_ (some 9) Try.func50 #[.agg #[.int .i64 a0_0, .slice A0_1 l0_1.length c0_1]] ?_; (with_reducible refine (spec_l01Is.calls k a0_0 _ _ l0_1 false _ ?side1 ?side2 A3.out).mono ?_); (case side1 => exact pC ((Kd.C_below HR0_1.out HB.out))); (case side2 => exact HC0_1.out); rintro e w30 ⟨rfl, hb⟩; refine ⟨_, rfl, ?_⟩; replace BK677 := sB BK677 hb; replace HB := sH HB hb; (try clear hb); (try clear hi)))
  go_ret2
  exact ⟨_, by first | rfl | (simp [errW_none, errW_some] <;> rfl) | (simp [*, errW_none, errW_some] <;> rfl) | (exfalso; simp_all), by first | exact Kd.R_nil _ _ _ _ _ | exact Kd.N_nil _ _ _ _ _ | exact Kd.V_nil _ _ _ _ _ | exact Kd.Q_nil _ _ _ _ _ | exact Kd.S_nil _ _ _ _ _, pH HB⟩
end Go.Proofs.Ytomdfjohnmikdaa.QS
namespace Go.Proofs.Ytomdfjohnmikdaa.QFnExactRestrictionsOf
open Go.Proofs.Ytomdfjohnmikdaa.Cw Go.Proofs.Ytomdfjohnmikdaa.Kp Go.Proofs.Ytomdfjohnmikdaa.Ext Go.Proofs.Ytomdfjohnmikdaa.QS Go.RowKit Go.Proofs.YtomdfjohnmikdaaW.PrintWords Go.Proofs.YtomdfjohnmikdaaW.PrintLast Go.Proofs.YtomdfjohnmikdaaW.PrintMore
attribute [local go_sem] max2_int min2_int max_two min_two max_three min_three max_four min_four   -- for this text's walks alone
set_option linter.unusedVariables false
set_option linter.unusedSimpArgs false
theorem info2 : (Try.prog.info? 2).map (fun i => (i.zero, i.size, i.bytes)) = some (some (.int .i64 0), 1, 8) := by kernel_rfl
end Go.Proofs.Ytomdfjohnmikdaa.QFnExactRestrictionsOf
namespace Go.Proofs.Ytomdfjohnmikdaa.QFnExactRestrictionsOf
open Go.Proofs.Ytomdfjohnmikdaa.Cw Go.Proofs.Ytomdfjohnmikdaa.Kp Go.Proofs.Ytomdfjohnmikdaa.Ext Go.Proofs.Ytomdfjohnmikdaa.QS Go.RowKit Go.Proofs.YtomdfjohnmikdaaW.PrintWords Go.Proofs.YtomdfjohnmikdaaW.PrintLast Go.Proofs.YtomdfjohnmikdaaW.PrintMore
attribute [local go_sem] max2_int min2_int max_two min_two max_three min_three max_four min_four   -- for this text's walks alone
set_option linter.unusedVariables false
set_option linter.unusedSimpArgs false
noncomputable def laws_FnExactRestrictionsOf.f (k : Nat) (a0_0 : Int) (l0_1 : List Int) (l1 : List Int) : Option (Bool) := if (l1.length : Int) > 1048576 then (some true) else ((laws_szComplex.f a0_0 l0_1 1048576).bind fun t205 => (if t205 < 0 then (some true) else ((laws_toComplex.f k a0_0 l0_1).bind fun bt206 => ((laws_toInt64S.f k l1).bind fun t210 => ((spec_RestrictionsOf.f k bt206.1 bt206.2 t210).bind fun bt213 => ((laws_toComplex.f k a0_0 l0_1).bind fun bt217 => ((laws_toInt64S.f k l1).bind fun t222 => ((impl_RestrictionsOf.f bt217.1 bt217.2 t222).bind fun bt225 => ((laws_eqInt64S.f k bt225.1 bt213.1).bind fun t229 => (if t229 = true then (if bt225.2 = bt213.2 then ((laws_toComplex.f k a0_0 l0_1).bind fun bt230 => ((laws_eqComplex.f k bt217.1 bt217.2 bt230.1 bt230.2).bind fun t234 => (if t234 = true then ((laws_toInt64S.f k l1).bind fun t235 => ((laws_eqInt64S.f k t222 t235).bind fun t238 => (if t238 = true then ((laws_markComplex.f k bt217.1 bt217.2 1).bind fun bt239 => ((laws_markInt64S.f k t222 bt239.1).bind fun bt241 => (if bt241.1 < 0 then (none) else ((laws_eqInt64S.f k bt225.1 bt213.1).bind fun t243 => (if t243 = true then ((laws_markInt64S.f k bt225.1 1).bind fun bt244 => ((laws_heldInt64S.f k bt244.2 1).bind fun t246 => (if t246 < 0 then (none) else (if t246 = bt244.1 then ((laws_toComplex.f k a0_0 l0_1).bind fun bt247 => ((laws_toInt64S.f k l1).bind fun t251 => ((impl_RestrictionsOf.f bt247.1 bt247.2 t251).bind fun bt254 => ((laws_eqInt64S.f k bt254.1 bt213.1).bind fun t258 => (if t258 = true then (if bt254.2 = bt213.2 then ((laws_heldInt64S.f k bt244.2 1).bind fun t259 => (if t259 < 0 then (none) else (if t259 = bt244.1 then (some true) else (none)))) else (none)) else (none)))))) else (none))))) else (none)))))) else (none)))) else (none)))) else (none)) else (none)))))))))))
set_option maxHeartbeats 8000000 in
set_option maxRecDepth 100000 in
theorem laws_FnExactRestrictionsOf.calls (k : Nat) (a0_0 : Int) (A0_1 : Option Addr) (c0_1 : Nat) (l0_1 : List Int) (A1 : Option Addr) (c1 : Nat) (l1 : List Int) (r : Bool) (w : World) (hr0_1 : Kd.C (Kd.int .i64) w A0_1 l0_1.length l0_1) (hc0_1 : l0_1.length ≤ c0_1) (hr1 : Kd.C (Kd.int .i64) w A1 l1.length l1) (hc1 : l1.length ≤ c1) (h : laws_FnExactRestrictionsOf.f k a0_0 l0_1 l1 = some r) :
  Calls Try.prog 9 #[.agg #[.int .i64 a0_0, .slice A0_1 l0_1.length c0_1], .slice A1 l1.length c1] w fun e w' => e = .returned (.bool r) ∧ Below w.heap.size w w' := by
 have hu24 := Try.underlying24
 have hu28 := Try.underlying28
 have HR0_1 := Aside0.mk hr0_1
 have HC0_1 := Aside0.mk hc0_1
 clear hr0_1 hc0_1
 have HR1 := Aside0.mk hr1
 have HC1 := Aside0.mk hc1
 clear hr1 hc1
 have HB := Aside0.mk (Below.refl w.heap.size w)
 have H : (if (l1.length : Int) > 1048576 then (some true) else ((laws_szComplex.f a0_0 l0_1 1048576).bind fun t205 => (if t205 < 0 then (some true) else ((laws_toComplex.f k a0_0 l0_1).bind fun bt206 => ((laws_toInt64S.f k l1).bind fun t210 => ((spec_RestrictionsOf.f k bt206.1 bt206.2 t210).bind fun bt213 => ((laws_toComplex.f k a0_0 l0_1).bind fun bt217 => ((laws_toInt64S.f k l1).bind fun t222 => ((impl_RestrictionsOf.f bt217.1 bt217.2 t222).bind fun bt225 => ((laws_eqInt64S.f k bt225.1 bt213.1).bind fun t229 => (if t229 = true then (if bt225.2 = bt213.2 then ((laws_toComplex.f k a0_0 l0_1).bind fun bt230 => ((laws_eqComplex.f k bt217.1 bt217.2 bt230.1 bt230.2).bind fun t234 => (if t234 = true then ((laws_toInt64S.f k l1).bind fun t235 => ((laws_eqInt64S.f k t222 t235).bind fun t238 => (if t238 = true then ((laws_markComplex.f k bt217.1 bt217.2 1).bind fun bt239 => ((laws_markInt64S.f k t222 bt239.1).bind fun bt241 => (if bt241.1 < 0 then (none) else ((laws_eqInt64S.f k bt225.1 bt213.1).bind fun t243 => (if t243 = true then ((laws_markInt64S.f k bt225.1 1).bind fun bt244 => ((laws_heldInt64S.f k bt244.2 1).bind fun t246 => (if t246 < 0 then (none) else (if t246 = bt244.1 then ((laws_toComplex.f k a0_0 l0_1).bind fun bt247 => ((laws_toInt64S.f k l1).bind fun t251 => ((impl_RestrictionsOf.f bt247.1 bt247.2 t251).bind fun bt254 => ((laws_eqInt64S.f k bt254.1 bt213.1).bind fun t258 => (if t258 = true then (if bt254.2 = bt213.2 then ((laws_heldInt64S.f k bt244.2 1).bind fun t259 => (if t259 < 0 then (none) else (if t259 = bt244.1 then (some true) else (none)))) else (none)) else (none)))))) else (none))))) else (none)))))) else (none)))) else (none)))) else (none)) else (none)))))))))))) = some r := h
 clear h
 by_cases c3 : (l1.length : Int) > 1048576
 ·rw [if_pos c3] at H
  have c3b0 : decide (1048576 < (l1.length : Int)) = true := decide_eq_true c3
  have c3b1 : decide (1048576 < l1.length) = true := decide_eq_true (by omega)
  clear c3
  obtain rfl := Option.some.inj H
  go_enter Try.func9, Try.ntmps9
  go_wp2_with (first | ((with_reducible refine gate_dst (N := 2) rfl ?_); refine box_event ?hg (N := 2) ?hd (cs := #[.int .i64 a0_0, .slice A0_1 l0_1.length c0_1]) (t := 24) ?hr ?_; (case hd => rfl); (case hg => rfl); (case hr => first | (go_simp; done) | (go_simp; rfl)); intro gb204 hg w4 hbox hb; have BK204 := Aside0.mk (hbox); have GW204 := gH HB hg; have GE204 := gH HB hg; replace HB := sH HB hb; clear hb hbox hg))
  go_ret
  exact ⟨by first | rfl | (simp [errW_none, errW_some] <;> rfl) | (simp [*, errW_none, errW_some] <;> rfl) | (exfalso; simp_all), pH HB⟩
 ·rw [if_neg c3] at H
  have c3b0 : decide (1048576 < (l1.length : Int)) = false := decide_eq_false c3
  have c3b1 : decide (1048576 < l1.length) = false := decide_eq_false (by omega)
  clear c3
  replace H := Option.bind_eq_some_iff.mp H
  obtain ⟨t205, A50, H⟩ := H
  try dsimp only at H
  have A5 := Aside0.mk A50
  clear A50
  by_cases c6 : t205 < 0
  ·rw [if_pos c6] at H
   have c6b0 : decide (t205 < 0) = true := decide_eq_true c6
   clear c6
   obtain rfl := Option.some.inj H
   go_enter Try.func9, Try.ntmps9
   go_wp2_with (first | ((with_reducible refine gate_dst (N := 2) rfl ?_); refine box_event ?hg (N := 2) ?hd (cs := #[.int .i64 a0_0, .slice A0_1 l0_1.length c0_1]) (t := 24) ?hr ?_; (case hd => rfl); (case hg => rfl); (case hr => first | (go_simp; done) | (go_simp; rfl)); intro gb204 hg w7 hbox hb; have BK204 := Aside0.mk (hbox); have GW204 := gH HB hg; have GE204 := gH HB hg; replace HB := sH HB hb; clear hb hbox hg; have hcz8_0 : w7.cell? ⟨gb204, 0, none⟩ = some (.int .i64 a0_0) := cB BK204 0; have hcz8_1 : w7.cell? ⟨gb204, 1, none⟩ = some (.slice A0_1 l0_1.length c0_1) := cB BK204 1; have hfz8_0 := zB BK204 0; have hfz8_1 := zB BK204 1) | ((with_reducible refine gate_callee (f := 13) rfl ?_); refine cl_ (some 22) Try.func13 #[.agg #[.int .i64 a0_0, .slice A0_1 l0_1.length c0_1], .int .i64 1048576] ?_; (with_reducible refine (laws_szComplex.calls a0_0 _ _ l0_1 1048576 t205 _ ?side1 ?side2 A5.out).mono ?_); (case side1 => exact pC ((Kd.C_below HR0_1.out HB.out))); (case side2 => exact HC0_1.out); rintro e w9 ⟨rfl, hb⟩; refine ⟨_, rfl, ?_⟩; replace BK204 := sB BK204 hb; replace HB := sH HB hb; (try clear hb); (try clear hi)))
   go_ret
   exact ⟨by first | rfl | (simp [errW_none, errW_some] <;> rfl) | (simp [*, errW_none, errW_some] <;> rfl) | (exfalso; simp_all), pH HB⟩
  ·rw [if_neg c6] at H
   have c6b0 : decide (t205 < 0) = false := decide_eq_false c6
   clear c6
   replace H := Option.bind_eq_some_iff.mp H
   obtain ⟨⟨t206, t207⟩, A100, H⟩ := H
   try dsimp only at H
   have A10 := Aside0.mk A100
   clear A100
   replace H := Option.bind_eq_some_iff.mp H
   obtain ⟨t210, A110, H⟩ := H
   try dsimp only at H
   have A11 := Aside0.mk A110
   clear A110
   replace H := Option.bind_eq_some_iff.mp H
   obtain ⟨⟨t213, t216⟩, A120, H⟩ := H
   try dsimp only at H
   have A12 := Aside0.mk A120
   clear A120
   replace H := Option.bind_eq_some_iff.mp H
   obtain ⟨⟨t217, t218⟩, A130, H⟩ := H
   try dsimp only at H
   have A13 := Aside0.mk A130
   clear A130
   replace H := Option.bind_eq_some_iff.mp H
   obtain ⟨t222, A140, H⟩ := H
   try dsimp only at H
   have A14 := Aside0.mk A140
   clear A140
   replace H := Option.bind_eq_some_iff.mp H
   obtain ⟨⟨t225, t228⟩, A150, H⟩ := H
   try dsimp only at H
   have A15 := Aside0.mk A150
   clear A150
   replace H := Option.bind_eq_some_iff.mp H
   obtain ⟨t229, A160, H⟩ := H
   try dsimp only at H
   have A16 := Aside0.mk A160
   clear A160
   by_cases c17 : t229 = true
   ·subst c17
    have H1 : (if t228 = t216 then ((laws_toComplex.f k a0_0 l0_1).bind fun bt230 => ((laws_eqComplex.f k t217 t218 bt230.1 bt230.2).bind fun t234 => (if t234 = true then ((laws_toInt64S.f k l1).bind fun t235 => ((laws_eqInt64S.f k t222 t235).bind fun t238 => (if t238 = true then ((laws_markComplex.f k t217 t218 1).bind fun bt239 => ((laws_markInt64S.f k t222 bt239.1).bind fun bt241 => (if bt241.1 < 0 then (none) else ((laws_eqInt64S.f k t225 t213).bind fun t243 => (if t243 = true then ((laws_markInt64S.f k t225 1).bind fun bt244 => ((laws_heldInt64S.f k bt244.2 1).bind fun t246 => (if t246 < 0 then (none) else (if t246 = bt244.1 then ((laws_toComplex.f k a0_0 l0_1).bind fun bt247 => ((laws_toInt64S.f k l1).bind fun t251 => ((impl_RestrictionsOf.f bt247.1 bt247.2 t251).bind fun bt254 => ((laws_eqInt64S.f k bt254.1 t213).bind fun t258 => (if t258 = true then (if bt254.2 = t216 then ((laws_heldInt64S.f k bt244.2 1).bind fun t259 => (if t259 < 0 then (none) else (if t259 = bt244.1 then (some true) else (none)))) else (none)) else (none)))))) else (none))))) else (none)))))) else (none)))) else (none)))) else (none)) = some r := by rw [if_pos rfl] at H; exact H
    clear H
    have H := H1
    clear H1
    by_cases c18 : t228 = t216
    ·rw [if_pos c18] at H
     have c18b0 : (t228 == t216) = true := beq_iff_eq.mpr c18
     have c18b1 : (t228 != t216) = false := bne_eq_false_iff_eq.mpr c18
     clear c18
     replace H := Option.bind_eq_some_iff.mp H
     obtain ⟨⟨t230, t231⟩, A190, H⟩ := H
     try dsimp only at H
     have A19 := Aside0.mk A190
     clear A190
     replace H := Option.bind_eq_some_iff.mp H
     obtain ⟨t234, A200, H⟩ := H
     try dsimp only at H
     have A20 := Aside0.mk A200
     clear A200
     by_cases c21 : t234 = true
     ·subst c21
      have H1 : ((laws_toInt64S.f k l1).bind fun t235 => ((laws_eqInt64S.f k t222 t235).bind fun t238 => (if t238 = true then ((laws_markComplex.f k t217 t218 1).bind fun bt239 => ((laws_markInt64S.f k t222 bt239.1).bind fun bt241 => (if bt241.1 < 0 then (none) else ((laws_eqInt64S.f k t225 t213).bind fun t243 => (if t243 = true then ((laws_markInt64S.f k t225 1).bind fun bt244 => ((laws_heldInt64S.f k bt244.2 1).bind fun t246 => (if t246 < 0 then (none) else (if t246 = bt244.1 then ((laws_toComplex.f k a0_0 l0_1).bind fun bt247 => ((laws_toInt64S.f k l1).bind fun t251 => ((impl_RestrictionsOf.f bt247.1 bt247.2 t251).bind fun bt254 => ((laws_eqInt64S.f k bt254.1 t213).bind fun t258 => (if t258 = true then (if bt254.2 = t216 then ((laws_heldInt64S.f k bt244.2 1).bind fun t259 => (if t259 < 0 then (none) else (if t259 = bt244.1 then (some true) else (none)))) else (none)) else (none)))))) else (none))))) else (none)))))) else (none)))) = some r := by rw [if_pos rfl] at H; exact H
      clear H
      have H := H1
      clear H1
      replace H := Option.bind_eq_some_iff.mp H
      obtain ⟨t235, A220, H⟩ := H
      try dsimp only at H
      have A22 := Aside0.mk A220
      clear A220
      replace H := Option.bind_eq_some_iff.mp H
      obtain ⟨t238, A230, H⟩ := H
      try dsimp only at H
      have A23 := Aside0.mk A230
      clear A230
      by_cases c24 : t238 = true
      ·subst c24
       have H1 : ((laws_markComplex.f k t217 t218 1).bind fun bt239 => ((laws_markInt64S.f k t222 bt239.1).bind fun bt241 => (if bt241.1 < 0 then (none) else ((laws_eqInt64S.f k t225 t213).bind fun t243 => (if t243 = true then ((laws_markInt64S.f k t225 1).bind fun bt244 => ((laws_heldInt64S.f k bt244.2 1).bind fun t246 => (if t246 < 0 then (none) else (if t246 = bt244.1 then ((laws_toComplex.f k a0_0 l0_1).bind fun bt247 => ((laws_toInt64S.f k l1).bind fun t251 => ((impl_RestrictionsOf.f bt247.1 bt247.2 t251).bind fun bt254 => ((laws_eqInt64S.f k bt254.1 t213).bind fun t258 => (if t258 = true then (if bt254.2 = t216 then ((laws_heldInt64S.f k bt244.2 1).bind fun t259 => (if t259 < 0 then (none) else (if t259 = bt244.1 then (some true) else (none)))) else (none)) else (none)))))) else (none))))) else (none)))))) = some r := by rw [if_pos rfl] at H; exact H
       clear H
       have H := H1
       clear H1
       replace H := Option.bind_eq_some_iff.mp H
       obtain ⟨⟨t239, t240⟩, A250, H⟩ := H
       try dsimp only at H
       have A25 := Aside0.mk A250
       clear A250
       replace H := Option.bind_eq_some_iff.mp H
       obtain ⟨⟨t241, t242⟩, A260, H⟩ := H
       try dsimp only at H
       have A26 := Aside0.mk A260
       clear A260
       by_cases c27 : t241 < 0
       ·rw [if_pos c27] at H
        exact absurd H (by simp)
       ·rw [if_neg c27] at H
        have c27b0 : decide (t241 < 0) = false := decide_eq_false c27
        clear c27
        replace H := Option.bind_eq_some_iff.mp H
        obtain ⟨t243, A280, H⟩ := H
        try dsimp only at H
        have A28 := Aside0.mk A280
        clear A280
        by_cases c29 : t243 = true
        ·subst c29
         have H1 : ((laws_markInt64S.f k t225 1).bind fun bt244 => ((laws_heldInt64S.f k bt244.2 1).bind fun t246 => (if t246 < 0 then (none) else (if t246 = bt244.1 then ((laws_toComplex.f k a0_0 l0_1).bind fun bt247 => ((laws_toInt64S.f k l1).bind fun t251 => ((impl_RestrictionsOf.f bt247.1 bt247.2 t251).bind fun bt254 => ((laws_eqInt64S.f k bt254.1 t213).bind fun t258 => (if t258 = true then (if bt254.2 = t216 then ((laws_heldInt64S.f k bt244.2 1).bind fun t259 => (if t259 < 0 then (none) else (if t259 = bt244.1 then (some true) else (none)))) else (none)) else (none)))))) else (none))))) = some r := by rw [if_pos rfl] at H; exact H
         clear H
         have H := H1
         clear H1
         replace H := Option.bind_eq_some_iff.mp H
         obtain ⟨⟨t244, t245⟩, A300, H⟩ := H
         try dsimp only at H
         have A30 := Aside0.mk A300
         clear A300
         replace H := Option.bind_eq_some_iff.mp H
         obtain ⟨t246, A310, H⟩ := H
         try dsimp only at H
         have A31 := Aside0.mk A310
         clear A310
         by_cases c32 : t246 < 0
         ·rw [if_pos c32] at H
          exact absurd H (by simp)
         ·rw [if_neg c32] at H
          have c32b0 : decide (t246 < 0) = false := decide_eq_false c32
          clear c32
          by_cases c33 : t246 = t244
          ·rw [if_pos c33] at H
           have c33b0 : (t246 == t244) = true := beq_iff_eq.mpr c33
           have c33b1 : (t246 != t244) = false := bne_eq_false_iff_eq.mpr c33
           clear c33
           replace H := Option.bind_eq_some_iff.mp H
           obtain ⟨⟨t247, t248⟩, A340, H⟩ := H
           try dsimp only at H
           have A34 := Aside0.mk A340
           clear A340
           replace H := Option.bind_eq_some_iff.mp H
           obtain ⟨t251, A350, H⟩ := H
           try dsimp only at H
           have A35 := Aside0.mk A350
           clear A350
           replace H := Option.bind_eq_some_iff.mp H
           obtain ⟨⟨t254, t257⟩, A360, H⟩ := H
           try dsimp only at H
           have A36 := Aside0.mk A360
           clear A360
           replace H := Option.bind_eq_some_iff.mp H
           obtain ⟨t258, A370, H⟩ := H
           try dsimp only at H
           have A37 := Aside0.mk A370
           clear A370
           by_cases c38 : t258 = true
           ·subst c38
            have H1 : (if t257 = t216 then ((laws_heldInt64S.f k t245 1).bind fun t259 => (if t259 < 0 then (none) else (if t259 = t244 then (some true) else (none)))) else (none)) = some r := by rw [if_pos rfl] at H; exact H
            clear H
            have H := H1
            clear H1
            by_cases c39 : t257 = t216
            ·rw [if_pos c39] at H
             have c39b0 : (t257 == t216) = true := beq_iff_eq.mpr c39
             have c39b1 : (t257 != t216) = false := bne_eq_false_iff_eq.mpr c39
             clear c39
             replace H := Option.bind_eq_some_iff.mp H
             obtain ⟨t259, A400, H⟩ := H
             try dsimp only at H
             have A40 := Aside0.mk A400
             clear A400
             by_cases c41 : t259 < 0
             ·rw [if_pos c41] at H
              exact absurd H (by simp)
             ·rw [if_neg c41] at H
              have c41b0 : decide (t259 < 0) = false := decide_eq_false c41
              clear c41
              by_cases c42 : t259 = t244
              ·rw [if_pos c42] at H
               have c42b0 : (t259 == t244) = true := beq_iff_eq.mpr c42
               have c42b1 : (t259 != t244) = false := bne_eq_false_iff_eq.mpr c42
               clear c42
               obtain rfl := Option.some.inj H
               go_enter Try.func9, Try.ntmps9
               try go_wp2_with (first | ((with_reducible refine gate_dst (N := 2) rfl ?_); refine box_event ?hg (N := 2) ?hd (cs := #[.int .i64 a0_0, .slice A0_1 l0_1.length c0_1]) (t := 24) ?hr ?_; (case hd => rfl); (case hg => rfl); (case hr => first | (go_simp; done) | (go_simp; rfl)); intro gb204 hg w43 hbox hb; have BK204 := Aside0.mk (hbox); have GW204 := gH HB hg; have GE204 := gH HB hg; replace HB := sH HB hb; clear hb hbox hg; have hcz44_0 : w43.cell? ⟨gb204, 0, none⟩ = some (.int .i64 a0_0) := cB BK204 0; have hcz44_1 : w43.cell? ⟨gb204, 1, none⟩ = some (.slice A0_1 l0_1.length c0_1) := cB BK204 1; have hfz44_0 := zB BK204 0; have hfz44_1 := zB BK204 1) | ((with_reducible refine gate_callee (f := 13) rfl ?_); refine cl_ (some 22) Try.func13 #[.agg #[.int .i64 a0_0, .slice A0_1 l0_1.length c0_1], .int .i64 1048576] ?_; (with_reducible refine (laws_szComplex.calls a0_0 _ _ l0_1 1048576 t205 _ ?side1 ?side2 A5.out).mono ?_); (case side1 => exact pC ((Kd.C_below HR0_1.out HB.out))); (case side2 => exact HC0_1.out); rintro e w45 ⟨rfl, hb⟩; refine ⟨_, rfl, ?_⟩; replace BK204 := sB BK204 hb; replace HB := sH HB hb; (try clear hb); (try clear hi); have hcz46_0 : w45.cell? ⟨gb204, 0, none⟩ = some (.int .i64 a0_0) := cB BK204 0; have hcz46_1 : w45.cell? ⟨gb204, 1, none⟩ = some (.slice A0_1 l0_1.length c0_1) := cB BK204 1; have hfz46_0 := zB BK204 0; have hfz46_1 := zB BK204 1) | ((with_reducible refine gate_callee (f := 15) rfl ?_); refine cl_ (some 27) Try.func15 #[.agg #[.int .i64 a0_0, .slice A0_1 l0_1.length c0_1]] ?_; (with_reducible refine (laws_toComplex.calls k a0_0 _ _ l0_1 t206 t207 _ ?side1 ?side2 A10.out).mono ?_); (case side1 => exact pC ((Kd.C_below HR0_1.out HB.out))); (case side2 => exact HC0_1.out); rintro e w47 ⟨v208, rfl, ho0, hb⟩; refine ⟨_, rfl, ?_⟩; have HO209 := Aside0.mk (Kd.R_lower ho0 (below_size (pH HB))); replace BK204 := sB BK204 hb; replace HB := sH HB hb; (try clear hb); (try clear hi); (try clear ho0)) | ((with_reducible refine gate_callee (f := 16) rfl ?_); refine cl_ (some 29) Try.func16 #[.slice A1 l1.length c1] ?_; (with_reducible refine (laws_toInt64S.calls k _ _ l1 t210 _ ?side1 ?side2 A11.out).mono ?_); (case side1 => exact pC ((Kd.C_below HR1.out HB.out))); (case side2 => exact HC1.out); rintro e w48 ⟨v211, rfl, ho0, hb⟩; refine ⟨_, rfl, ?_⟩; have HO212 := Aside0.mk (Kd.R_lower (Kd.R_new' ho0 (Kd.R_lt (pR HO209))) (below_size (pH HB))); replace HO209 := Aside0.mk (Kd.R_elder' (pR HO209) (Kd.R_base ho0) hb); replace BK204 := sB BK204 hb; replace HB := sH HB hb; (try clear hb); (try clear hi); (try clear ho0); obtain ⟨Ao49, co49, eo49⟩ := Kd.R_slice HO209.out; subst eo49; obtain ⟨Ao50, co50, eo50⟩ := Kd.R_slice HO212.out; subst eo50) | ((with_reducible refine gate_callee (f := 38) rfl ?_); refine cl_ (some 30) Try.func38 #[.agg #[.int .i64 t206, .slice Ao49 t207.length co49], .slice Ao50 t210.length co50] ?_; (with_reducible refine (spec_RestrictionsOf.calls k t206 _ _ t207 _ _ t210 t213 t216 _ ?side1 ?side2 ?side3 ?side4 A12.out).mono ?_); (case side1 => exact pC ((Kd.R_reads' HO209.out).2.2)); (case side2 => exact (Kd.R_reads' HO209.out).2.1); (case side3 => exact pC ((Kd.R_reads' HO212.out).2.2)); (case side4 => exact (Kd.R_reads' HO212.out).2.1); rintro e w51 ⟨v214, rfl, ho0, hb⟩; refine ⟨_, rfl, ?_⟩; have HO215 := Aside0.mk (Kd.R_lower (Kd.R_new' (Kd.R_new' ho0 (Kd.R_lt (pR HO209))) (Kd.R_lt (pR HO212))) (below_size (pH HB))); replace HO209 := Aside0.mk (Kd.R_elder' (pR HO209) (Kd.R_base ho0) hb); replace HO212 := Aside0.mk (Kd.R_elder' (pR HO212) (Kd.R_base ho0) hb); replace BK204 := sB BK204 hb; replace HB := sH HB hb; (try clear hb); (try clear hi); (try clear ho0); have hcz52_0 : w51.cell? ⟨gb204, 0, none⟩ = some (.int .i64 a0_0) := cB BK204 0; have hcz52_1 : w51.cell? ⟨gb204, 1, none⟩ = some (.slice A0_1 l0_1.length c0_1) := cB BK204 1; have hfz52_0 := zB BK204 0; have hfz52_1 := zB BK204 1) | ((with_reducible refine gate_callee (f := 15) rfl ?_); refine cl_ (some 34) Try.func15 #[.agg #[.int .i64 a0_0, .slice A0_1 l0_1.length c0_1]] ?_; (with_reducible refine (laws_toComplex.calls k a0_0 _ _ l0_1 t217 t218 _ ?side1 ?side2 A13.out).mono ?_); (case side1 => exact pC ((Kd.C_below HR0_1.out HB.out))); (case side2 => exact HC0_1.out); rintro e w53 ⟨v219, rfl, ho0, hb⟩; refine ⟨_, rfl, ?_⟩; have HO220 := Aside0.mk (Kd.R_lower (Kd.R_new' (Kd.R_new' (Kd.R_new' ho0 (Kd.R_lt (pR HO209))) (Kd.R_lt (pR HO212))) (Kd.R_lt (pR HO215))) (below_size (pH HB))); replace HO209 := Aside0.mk (Kd.R_elder' (pR HO209) (Kd.R_base ho0) hb); replace HO212 := Aside0.mk (Kd.R_elder' (pR HO212) (Kd.R_base ho0) hb); replace HO215 := Aside0.mk (Kd.R_elder' (pR HO215) (Kd.R_base ho0) hb); replace BK204 := sB BK204 hb; replace HB := sH HB hb; (try clear hb); (try clear hi); (try clear ho0)) | ((with_reducible refine gate_dst (N := 8) rfl ?_); refine box_event ?hg (N := 8) ?hd (cs := #[.int .i64 0, .slice none 0 0]) (t := 28) ?hr ?_; (case hd => rfl); (case hg => rfl); (case hr => first | (go_simp; done) | (go_simp; rfl)); intro gb221 hg w54 hbox hb; replace HO209 := sR HO209 hb; replace HO212 := sR HO212 hb; replace HO215 := sR HO215 hb; replace HO220 := sR HO220 hb; have BK221 := Aside0.mk (hbox); have GW221 := gH HB hg; have GE221 := gH HB hg; replace HB := sH HB hb; have NB204_221 := nB BK204 hg; have NB221_204 := oB BK204 hg; replace BK204 := sB BK204 hb; clear hb hbox hg; (try have hnb55 := NB221_204.out); (try have hnc55 := NB204_221.out); have hcz56_0 : w54.cell? ⟨gb221, 0, none⟩ = some (.int .i64 0) := cB BK221 0; have hcz56_1 : w54.cell? ⟨gb221, 1, none⟩ = some (.slice none 0 0) := cB BK221 1; have hfz56_0 := zB BK221 0; have hfz56_1 := zB BK221 1; obtain ⟨Ao57, co57, eo57⟩ := Kd.R_slice HO220.out; subst eo57) | ((with_reducible refine gate_callee (f := 16) rfl ?_); refine cl_ (some 36) Try.func16 #[.slice A1 l1.length c1] ?_; (with_reducible refine (laws_toInt64S.calls k _ _ l1 t222 _ ?side1 ?side2 A14.out).mono ?_); (case side1 => exact Kd.C_below HR1.out (pH HB)); (case side2 => exact HC1.out); rintro e w58 ⟨v223, rfl, ho0, hb⟩; refine ⟨_, rfl, ?_⟩; have n0_ := Aside0.mk (Kd.R_elder' (by (with_reducible repeat (first | apply Kd.R_alloc | apply Kd.R_drewN | apply Kd.R_drew)); exact (Kd.R_mono (Kd.R_far (p := ⟨gb221, 1, none⟩) (Kd.R_far (p := ⟨gb221, 0, none⟩) (Kd.R_types HO209.out BK221.out (by decide)) (fun _ hk => hk.2) (.int .i64 t217)) (fun _ hk => hk.2) (.slice Ao57 t218.length co57)) (fun _ h_ => h_.1))) (Kd.R_base ho0) hb); have n1_ := Aside0.mk (Kd.R_elder' (by (with_reducible repeat (first | apply Kd.R_alloc | apply Kd.R_drewN | apply Kd.R_drew)); exact (Kd.R_mono (Kd.R_far (p := ⟨gb221, 1, none⟩) (Kd.R_far (p := ⟨gb221, 0, none⟩) (Kd.R_types HO212.out BK221.out (by decide)) (fun _ hk => hk.2) (.int .i64 t217)) (fun _ hk => hk.2) (.slice Ao57 t218.length co57)) (fun _ h_ => h_.1))) (Kd.R_base ho0) hb); have n2_ := Aside0.mk (Kd.R_elder' (by (with_reducible repeat (first | apply Kd.R_alloc | apply Kd.R_drewN | apply Kd.R_drew)); exact (Kd.R_mono (Kd.R_far (p := ⟨gb221, 1, none⟩) (Kd.R_far (p := ⟨gb221, 0, none⟩) (Kd.R_types HO215.out BK221.out (by decide)) (fun _ hk => hk.2) (.int .i64 t217)) (fun _ hk => hk.2) (.slice Ao57 t218.length co57)) (fun _ h_ => h_.1))) (Kd.R_base ho0) hb); have n3_ := Aside0.mk (Kd.R_elder' (by (with_reducible repeat (first | apply Kd.R_alloc | apply Kd.R_drewN | apply Kd.R_drew)); exact (Kd.R_mono (Kd.R_far (p := ⟨gb221, 1, none⟩) (Kd.R_far (p := ⟨gb221, 0, none⟩) (Kd.R_types HO220.out BK221.out (by decide)) (fun _ hk => hk.2) (.int .i64 t217)) (fun _ hk => hk.2) (.slice Ao57 t218.length co57)) (fun _ h_ => h_.1))) (Kd.R_base ho0) hb); have n4_ := Aside0.mk (Kd.R_lower (Kd.R_new' (Kd.R_new' (Kd.R_new' (Kd.R_new' ho0 (Kd.R_lt (by (with_reducible repeat (first | apply Kd.R_alloc | apply Kd.R_drewN | apply Kd.R_drew)); exact (Kd.R_mono (Kd.R_far (p := ⟨gb221, 1, none⟩) (Kd.R_far (p := ⟨gb221, 0, none⟩) (Kd.R_types HO209.out BK221.out (by decide)) (fun _ hk => hk.2) (.int .i64 t217)) (fun _ hk => hk.2) (.slice Ao57 t218.length co57)) (fun _ h_ => h_.1))))) (Kd.R_lt (by (with_reducible repeat (first | apply Kd.R_alloc | apply Kd.R_drewN | apply Kd.R_drew)); exact (Kd.R_mono (Kd.R_far (p := ⟨gb221, 1, none⟩) (Kd.R_far (p := ⟨gb221, 0, none⟩) (Kd.R_types HO212.out BK221.out (by decide)) (fun _ hk => hk.2) (.int .i64 t217)) (fun _ hk => hk.2) (.slice Ao57 t218.length co57)) (fun _ h_ => h_.1))))) (Kd.R_lt (by (with_reducible repeat (first | apply Kd.R_alloc | apply Kd.R_drewN | apply Kd.R_drew)); exact (Kd.R_mono (Kd.R_far (p := ⟨gb221, 1, none⟩) (Kd.R_far (p := ⟨gb221, 0, none⟩) (Kd.R_types HO215.out BK221.out (by decide)) (fun _ hk => hk.2) (.int .i64 t217)) (fun _ hk => hk.2) (.slice Ao57 t218.length co57)) (fun _ h_ => h_.1))))) (Kd.R_lt (by (with_reducible repeat (first | apply Kd.R_alloc | apply Kd.R_drewN | apply Kd.R_drew)); exact (Kd.R_mono (Kd.R_far (p := ⟨gb221, 1, none⟩) (Kd.R_far (p := ⟨gb221, 0, none⟩) (Kd.R_types HO220.out BK221.out (by decide)) (fun _ hk => hk.2) (.int .i64 t217)) (fun _ hk => hk.2) (.slice Ao57 t218.length co57)) (fun _ h_ => h_.1))))) (below_size (pH HB))); have n5_ := Aside0.mk (blk_below (g := gb204) (o := .cells #[.int .i64 a0_0, .slice A0_1 l0_1.length c0_1] 24 (0, 0)) (by (with_reducible repeat (first | refine blk_drewN ?_ _ | refine blk_drew ?_ | refine blk_alloc ?_ _)); refine blk_far ?_ NB204_221.out _; (with_reducible repeat (first | refine blk_drewN ?_ _ | refine blk_drew ?_ | refine blk_alloc ?_ _)); refine blk_far ?_ NB204_221.out _; (with_reducible repeat (first | refine blk_drewN ?_ _ | refine blk_drew ?_ | refine blk_alloc ?_ _)); exact BK204.out) hb); have n6_ := Aside0.mk (blk_below (g := gb221) (o := .cells #[.int .i64 t217, .slice Ao57 t218.length co57] 28 (0, 0)) (by (with_reducible repeat (first | refine blk_drewN ?_ _ | refine blk_drew ?_ | refine blk_alloc ?_ _)); refine blk_put (cs := #[.int .i64 t217, .slice none 0 0]) ?_ 1 _ rfl; (with_reducible repeat (first | refine blk_drewN ?_ _ | refine blk_drew ?_ | refine blk_alloc ?_ _)); refine blk_put (cs := #[.int .i64 0, .slice none 0 0]) ?_ 0 _ rfl; (with_reducible repeat (first | refine blk_drewN ?_ _ | refine blk_drew ?_ | refine blk_alloc ?_ _)); exact BK221.out) hb); have n7_ := sH HB hb; clear HO209; clear HO212; clear HO215; clear HO220; clear BK204; clear BK221; clear HB; have HO209 := n0_; have HO212 := n1_; have HO215 := n2_; have HO220 := n3_; have HO224 := n4_; have BK204 := n5_; have BK221 := n6_; have HB := n7_; clear n0_ n1_ n2_ n3_ n4_ n5_ n6_ n7_; (try clear hb); (try clear hi); (try clear ho0); have hcz59_0 : w58.cell? ⟨gb221, 0, none⟩ = some (.int .i64 t217) := cB BK221 0; have hcz59_1 : w58.cell? ⟨gb221, 1, none⟩ = some (.slice Ao57 t218.length co57) := cB BK221 1; have hfz59_0 := zB BK221 0; have hfz59_1 := zB BK221 1; obtain ⟨Ao60, co60, eo60⟩ := Kd.R_slice HO224.out; subst eo60) | ((with_reducible refine gate_callee (f := 39) rfl ?_); refine cl_ (some 40) Try.func39 #[.agg #[.int .i64 t217, .slice Ao57 t218.length co57], .slice Ao60 t222.length co60] ?_; (with_reducible refine (impl_RestrictionsOf.calls t217 _ _ t218 _ _ t222 t225 t228 _ ?side1 ?side2 ?side3 ?side4 A15.out).mono ?_); (case side1 => exact pC ((Kd.R_reads' HO220.out).2.2)); (case side2 => exact (Kd.R_reads' HO220.out).2.1); (case side3 => exact pC ((Kd.R_reads' HO224.out).2.2)); (case side4 => exact (Kd.R_reads' HO224.out).2.1); rintro e w61 ⟨v226, rfl, ho0, hb⟩; refine ⟨_, rfl, ?_⟩; have HO227 := Aside0.mk (Kd.R_lower (Kd.R_new' (Kd.R_new' (Kd.R_new' (Kd.R_new' (Kd.R_new' ho0 (Kd.R_lt (pR HO209))) (Kd.R_lt (pR HO212))) (Kd.R_lt (pR HO215))) (Kd.R_lt (pR HO220))) (Kd.R_lt (pR HO224))) (below_size (pH HB))); replace HO209 := Aside0.mk (Kd.R_elder' (pR HO209) (Kd.R_base ho0) hb); replace HO212 := Aside0.mk (Kd.R_elder' (pR HO212) (Kd.R_base ho0) hb); replace HO215 := Aside0.mk (Kd.R_elder' (pR HO215) (Kd.R_base ho0) hb); replace HO220 := Aside0.mk (Kd.R_elder' (pR HO220) (Kd.R_base ho0) hb); replace HO224 := Aside0.mk (Kd.R_elder' (pR HO224) (Kd.R_base ho0) hb); replace BK204 := sB BK204 hb; replace BK221 := sB BK221 hb; replace HB := sH HB hb; (try clear hb); (try clear hi); (try clear ho0); obtain ⟨Ao62, co62, eo62⟩ := Kd.R_slice HO227.out; subst eo62; obtain ⟨Ao63, co63, eo63⟩ := Kd.R_slice HO215.out; subst eo63) | ((with_reducible refine gate_callee (f := 18) rfl ?_); refine cl_ (some 45) Try.func18 #[.slice Ao62 t225.length co62, .slice Ao63 t213.length co63] ?_; (with_reducible refine (laws_eqInt64S.calls k _ _ t225 _ _ t213 true _ ?side1 ?side2 ?side3 ?side4 A16.out).mono ?_); (case side1 => exact pC ((Kd.R_reads' HO227.out).2.2)); (case side2 => exact (Kd.R_reads' HO227.out).2.1); (case side3 => exact pC ((Kd.R_reads' HO215.out).2.2)); (case side4 => exact (Kd.R_reads' HO215.out).2.1); rintro e w' ⟨rfl, ⟨nd, rfl⟩⟩; refine ⟨_, rfl, ?_⟩))
               (try (rw [drewN_self w61]; generalize hq_ : World.drewN w61 _ = w61; have n0_ : Aside0 (Kd.R (Kd.int .i64) 2 w61 w.heap.size (fun k_ => some k_ ≠ (.slice Ao50 t210.length co50 : Value).ownBlock ∧ some k_ ≠ (.slice Ao63 t213.length co63 : Value).ownBlock ∧ some k_ ≠ (.slice Ao57 t218.length co57 : Value).ownBlock ∧ some k_ ≠ (.slice Ao60 t222.length co60 : Value).ownBlock ∧ some k_ ≠ (.slice Ao62 t225.length co62 : Value).ownBlock) (.slice Ao49 t207.length co49) t207) := ⟨by rw [← hq_]; exact (by (with_reducible repeat (first | apply Kd.R_alloc | apply Kd.R_drewN | apply Kd.R_drew)); exact Kd.R_mono HO209.out (fun _ hk => ⟨hk.1.1.1.1.2, ⟨hk.1.1.1.2, ⟨hk.1.1.2, ⟨hk.1.2, hk.2⟩⟩⟩⟩))⟩; have n1_ : Aside0 (Kd.R (Kd.int .i64) 2 w61 w.heap.size (fun k_ => some k_ ≠ (.slice Ao49 t207.length co49 : Value).ownBlock ∧ some k_ ≠ (.slice Ao63 t213.length co63 : Value).ownBlock ∧ some k_ ≠ (.slice Ao57 t218.length co57 : Value).ownBlock ∧ some k_ ≠ (.slice Ao60 t222.length co60 : Value).ownBlock ∧ some k_ ≠ (.slice Ao62 t225.length co62 : Value).ownBlock) (.slice Ao50 t210.length co50) t210) := ⟨by rw [← hq_]; exact (by (with_reducible repeat (first | apply Kd.R_alloc | apply Kd.R_drewN | apply Kd.R_drew)); exact Kd.R_mono HO212.out (fun _ hk => ⟨hk.1.1.1.1.2, ⟨hk.1.1.1.2, ⟨hk.1.1.2, ⟨hk.1.2, hk.2⟩⟩⟩⟩))⟩; have n2_ : Aside0 (Kd.R (Kd.int .i64) 2 w61 w.heap.size (fun k_ => some k_ ≠ (.slice Ao49 t207.length co49 : Value).ownBlock ∧ some k_ ≠ (.slice Ao50 t210.length co50 : Value).ownBlock ∧ some k_ ≠ (.slice Ao57 t218.length co57 : Value).ownBlock ∧ some k_ ≠ (.slice Ao60 t222.length co60 : Value).ownBlock ∧ some k_ ≠ (.slice Ao62 t225.length co62 : Value).ownBlock) (.slice Ao63 t213.length co63) t213) := ⟨by rw [← hq_]; exact (by (with_reducible repeat (first | apply Kd.R_alloc | apply Kd.R_drewN | apply Kd.R_drew)); exact Kd.R_mono HO215.out (fun _ hk => ⟨hk.1.1.1.1.2, ⟨hk.1.1.1.2, ⟨hk.1.1.2, ⟨hk.1.2, hk.2⟩⟩⟩⟩))⟩; have n3_ : Aside0 (Kd.R (Kd.int .i64) 2 w61 w.heap.size (fun k_ => some k_ ≠ (.slice Ao49 t207.length co49 : Value).ownBlock ∧ some k_ ≠ (.slice Ao50 t210.length co50 : Value).ownBlock ∧ some k_ ≠ (.slice Ao63 t213.length co63 : Value).ownBlock ∧ some k_ ≠ (.slice Ao60 t222.length co60 : Value).ownBlock ∧ some k_ ≠ (.slice Ao62 t225.length co62 : Value).ownBlock) (.slice Ao57 t218.length co57) t218) := ⟨by rw [← hq_]; exact (by (with_reducible repeat (first | apply Kd.R_alloc | apply Kd.R_drewN | apply Kd.R_drew)); exact Kd.R_mono HO220.out (fun _ hk => ⟨hk.1.1.1.1.2, ⟨hk.1.1.1.2, ⟨hk.1.1.2, ⟨hk.1.2, hk.2⟩⟩⟩⟩))⟩; have n4_ : Aside0 (Kd.R (Kd.int .i64) 2 w61 w.heap.size (fun k_ => some k_ ≠ (.slice Ao49 t207.length co49 : Value).ownBlock ∧ some k_ ≠ (.slice Ao50 t210.length co50 : Value).ownBlock ∧ some k_ ≠ (.slice Ao63 t213.length co63 : Value).ownBlock ∧ some k_ ≠ (.slice Ao57 t218.length co57 : Value).ownBlock ∧ some k_ ≠ (.slice Ao62 t225.length co62 : Value).ownBlock) (.slice Ao60 t222.length co60) t222) := ⟨by rw [← hq_]; exact (by (with_reducible repeat (first | apply Kd.R_alloc | apply Kd.R_drewN | apply Kd.R_drew)); exact Kd.R_mono HO224.out (fun _ hk => ⟨hk.1.1.1.1.2, ⟨hk.1.1.1.2, ⟨hk.1.1.2, ⟨hk.1.2, hk.2⟩⟩⟩⟩))⟩; have n5_ : Aside0 (Kd.R (Kd.int .i64) 2 w61 w.heap.size (fun k_ => some k_ ≠ (.slice Ao49 t207.length co49 : Value).ownBlock ∧ some k_ ≠ (.slice Ao50 t210.length co50 : Value).ownBlock ∧ some k_ ≠ (.slice Ao63 t213.length co63 : Value).ownBlock ∧ some k_ ≠ (.slice Ao57 t218.length co57 : Value).ownBlock ∧ some k_ ≠ (.slice Ao60 t222.length co60 : Value).ownBlock) (.slice Ao62 t225.length co62) t225) := ⟨by rw [← hq_]; exact (by (with_reducible repeat (first | apply Kd.R_alloc | apply Kd.R_drewN | apply Kd.R_drew)); exact Kd.R_mono HO227.out (fun _ hk => ⟨hk.1.1.1.1.2, ⟨hk.1.1.1.2, ⟨hk.1.1.2, ⟨hk.1.2, hk.2⟩⟩⟩⟩))⟩; have n6_ : Aside0 (w61.heap[gb204]? = some (.cells #[.int .i64 a0_0, .slice A0_1 l0_1.length c0_1] 24 (0, 0))) := ⟨by rw [← hq_]; exact (pB BK204)⟩; have n7_ : Aside0 (w61.heap[gb221]? = some (.cells #[.int .i64 t217, .slice Ao57 t218.length co57] 28 (0, 0))) := ⟨by rw [← hq_]; exact (pB BK221)⟩; have n8_ : Aside0 (Below w.heap.size w w61) := ⟨by rw [← hq_]; exact (pH HB)⟩; clear HO209 HO212 HO215 HO220 HO224 HO227 BK204 BK221 HB hq_; have HO209 := n0_; have HO212 := n1_; have HO215 := n2_; have HO220 := n3_; have HO224 := n4_; have HO227 := n5_; have BK204 := n6_; have BK221 := n7_; have HB := n8_; clear n0_ n1_ n2_ n3_ n4_ n5_ n6_ n7_ n8_))
               (try (have hcz64_0 : w61.cell? ⟨gb204, 0, none⟩ = some (.int .i64 a0_0) := cB BK204 0; have hcz64_1 : w61.cell? ⟨gb204, 1, none⟩ = some (.slice A0_1 l0_1.length c0_1) := cB BK204 1; have hfz64_0 := zB BK204 0; have hfz64_1 := zB BK204 1))
               (try (have hcz65_0 : w61.cell? ⟨gb221, 0, none⟩ = some (.int .i64 t217) := cB BK221 0; have hcz65_1 : w61.cell? ⟨gb221, 1, none⟩ = some (.slice Ao57 t218.length co57) := cB BK221 1; have hfz65_0 := zB BK221 0; have hfz65_1 := zB BK221 1))
               replace HO209 := Aside0.mk (Kd.R_drew HO209.out)
               replace HO212 := Aside0.mk (Kd.R_drew HO212.out)
               replace HO215 := Aside0.mk (Kd.R_drew HO215.out)
               replace HO220 := Aside0.mk (Kd.R_drew HO220.out)
               replace HO224 := Aside0.mk (Kd.R_drew HO224.out)
               replace HO227 := Aside0.mk (Kd.R_drew HO227.out)
               replace BK204 := dB BK204
               replace BK221 := dB BK221
               replace HB := dH HB
               refine st_ 5 (S := fun w' => w'.cell? ⟨gb221, 0, none⟩ = some (.int .i64 t217) ∧ w'.cell? ⟨gb221, 1, none⟩ = some (.slice Ao57 t218.length co57) ∧ w'.cell? ⟨gb204, 0, none⟩ = some (.int .i64 a0_0) ∧ w'.cell? ⟨gb204, 1, none⟩ = some (.slice A0_1 l0_1.length c0_1)) (ds := []) ⟨cB BK221 0, cB BK221 1, cB BK204 0, cB BK204 1⟩ (fun hHeld => ?_)
               generalize w61.drew = w66 at HO209 HO212 HO215 HO220 HO224 HO227 BK204 BK221 HB hHeld ⊢
               refine take_ (i := 0) (N := some 52) (v := ?_) (a' := ?_) (mB 5 1) rfl rfl (by kernel_rfl) (fun _ _ _ h => h) (Or.inl ⟨by rfl, ?_⟩) hHeld ?_ ?_
               rotate_left
               ·rintro w' ⟨s0, s1, s2, s3⟩
                go_simp
                with_reducible rfl
               rotate_left
               ·simp only [Act.put, List.setIfInBounds_toArray, List.set_cons_zero, List.set_cons_succ, i64_w, i32_w]
                rfl
               refine take_ (i := 1) (N := some 53) (v := ?_) (a' := ?_) (mB 5 3) rfl rfl (by kernel_rfl) (fun _ _ _ h => h) (Or.inl ⟨by rfl, ?_⟩) hHeld ?_ ?_
               rotate_left
               ·rintro w' ⟨s0, s1, s2, s3⟩
                go_simp
                with_reducible rfl
               rotate_left
               ·simp only [Act.put, List.setIfInBounds_toArray, List.set_cons_zero, List.set_cons_succ, i64_w, i32_w]
                rfl
               refine one_ (i := 2) (N := some 54) (mB 5 7) rfl rfl (by kernel_rfl) (by decide) (fun K hK => ?_)
               refine ca_ Try.func15 #[.agg #[.int .i64 a0_0, .slice A0_1 l0_1.length c0_1]] ?_
               with_reducible refine (laws_toComplex.calls k a0_0 _ _ l0_1 t230 t231 _ ?side1 ?side2 A19.out).mono ?_
               (case side1 => exact pC ((Kd.C_below HR0_1.out HB.out)))
               (case side2 => exact HC0_1.out)
               rintro e w67 ⟨v232, rfl, ho0, hb⟩
               refine ⟨_, rfl, ?_⟩
               have HO233 := Aside0.mk (Kd.R_lower (Kd.R_new' (Kd.R_new' (Kd.R_new' (Kd.R_new' (Kd.R_new' (Kd.R_new' ho0 (Kd.R_lt (pR HO209))) (Kd.R_lt (pR HO212))) (Kd.R_lt (pR HO215))) (Kd.R_lt (pR HO220))) (Kd.R_lt (pR HO224))) (Kd.R_lt (pR HO227))) (below_size (pH HB)))
               replace HO209 := Aside0.mk (Kd.R_elder' (pR HO209) (Kd.R_base ho0) hb)
               replace HO212 := Aside0.mk (Kd.R_elder' (pR HO212) (Kd.R_base ho0) hb)
               replace HO215 := Aside0.mk (Kd.R_elder' (pR HO215) (Kd.R_base ho0) hb)
               replace HO220 := Aside0.mk (Kd.R_elder' (pR HO220) (Kd.R_base ho0) hb)
               replace HO224 := Aside0.mk (Kd.R_elder' (pR HO224) (Kd.R_base ho0) hb)
               replace HO227 := Aside0.mk (Kd.R_elder' (pR HO227) (Kd.R_base ho0) hb)
               replace BK204 := sB BK204 hb
               replace BK221 := sB BK221 hb
               replace HB := sH HB hb
               (try clear hb)
               (try clear hb2)
               (try clear hk)
               (try clear hi)
               (try clear ho0)
               obtain ⟨Ao68, co68, eo68⟩ := Kd.R_slice HO233.out
               (first | subst eo68 | (injection eo68 with f1_ f2_ f3_; have f4_ := f1_.symm; have f5_ := f3_.symm; clear f1_ f2_ f3_; subst f4_; subst f5_))
               refine hK.out _ _ ⟨cB BK221 0, cB BK221 1, cB BK204 0, cB BK204 1⟩ (fun hHeld => ?_)
               clear hK K
               refine nm_ ?_
               refine one_ (i := 3) (N := some 55) (mB 5 15) rfl rfl (by kernel_rfl) (by decide) (fun K hK => ?_)
               refine ca_ Try.func19 #[.agg #[.int .i64 t217, .slice Ao57 t218.length co57], .agg #[.int .i64 t230, .slice Ao68 t231.length co68]] ?_
               with_reducible refine (laws_eqComplex.calls k t217 _ _ t218 t230 _ _ t231 true _ ?side1 ?side2 ?side3 ?side4 A20.out).mono ?_
               (case side1 => exact pC ((Kd.R_reads' HO220.out).2.2))
               (case side2 => exact (Kd.R_reads' HO220.out).2.1)
               (case side3 => exact pC ((Kd.R_reads' HO233.out).2.2))
               (case side4 => exact (Kd.R_reads' HO233.out).2.1)
               rintro e w69 ⟨rfl, hb⟩
               refine ⟨_, rfl, ?_⟩
               replace HO209 := sR HO209 hb
               replace HO212 := sR HO212 hb
               replace HO215 := sR HO215 hb
               replace HO220 := sR HO220 hb
               replace HO224 := sR HO224 hb
               replace HO227 := sR HO227 hb
               replace HO233 := sR HO233 hb
               replace BK204 := sB BK204 hb
               replace BK221 := sB BK221 hb
               replace HB := sH HB hb
               (try clear hb)
               (try clear hb2)
               (try clear hk)
               (try clear hi)
               refine hK.out _ _ ⟨cB BK221 0, cB BK221 1, cB BK204 0, cB BK204 1⟩ (fun hHeld => ?_)
               clear hK K
               refine nm_ ?_
               refine pure_ (i := 4) (N := some 56) (v := ?_) (a' := ?_) (mB 5 31) rfl rfl (by kernel_rfl) (fun _ _ _ h => h) (Or.inl ⟨by rfl, ?_⟩) ?_ ?_
               rotate_left
               ·intro w'
                go_simp
                with_reducible rfl
               rotate_left
               ·simp only [Act.put, List.setIfInBounds_toArray, List.set_cons_zero, List.set_cons_succ, i64_w, i32_w]
                rfl
               refine done_ (by kernel_rfl) ?_
               try go_wp2_with (first | ((with_reducible refine gate_callee (f := 16) rfl ?_); refine cl_ (some 59) Try.func16 #[.slice A1 l1.length c1] ?_; (with_reducible refine (laws_toInt64S.calls k _ _ l1 t235 _ ?side1 ?side2 A22.out).mono ?_); (case side1 => exact pC ((Kd.C_below HR1.out HB.out))); (case side2 => exact HC1.out); rintro e w70 ⟨v236, rfl, ho0, hb⟩; refine ⟨_, rfl, ?_⟩; have HO237 := Aside0.mk (Kd.R_lower (Kd.R_new' (Kd.R_new' (Kd.R_new' (Kd.R_new' (Kd.R_new' (Kd.R_new' (Kd.R_new' ho0 (Kd.R_lt (pR HO209))) (Kd.R_lt (pR HO212))) (Kd.R_lt (pR HO215))) (Kd.R_lt (pR HO220))) (Kd.R_lt (pR HO224))) (Kd.R_lt (pR HO227))) (Kd.R_lt (pR HO233))) (below_size (pH HB))); replace HO209 := Aside0.mk (Kd.R_elder' (pR HO209) (Kd.R_base ho0) hb); replace HO212 := Aside0.mk (Kd.R_elder' (pR HO212) (Kd.R_base ho0) hb); replace HO215 := Aside0.mk (Kd.R_elder' (pR HO215) (Kd.R_base ho0) hb); replace HO220 := Aside0.mk (Kd.R_elder' (pR HO220) (Kd.R_base ho0) hb); replace HO224 := Aside0.mk (Kd.R_elder' (pR HO224) (Kd.R_base ho0) hb); replace HO227 := Aside0.mk (Kd.R_elder' (pR HO227) (Kd.R_base ho0) hb); replace HO233 := Aside0.mk (Kd.R_elder' (pR HO233) (Kd.R_base ho0) hb); replace BK204 := sB BK204 hb; replace BK221 := sB BK221 hb; replace HB := sH HB hb; (try clear hb); (try clear hi); (try clear ho0); have nD_ := Aside0.mk (Kd.R_mono (ok' := fun k_ => some k_ ≠ (.slice Ao57 t218.length co57 : Value).ownBlock ∧ some k_ ≠ (.slice Ao60 t222.length co60 : Value).ownBlock ∧ some k_ ≠ (.slice Ao62 t225.length co62 : Value).ownBlock ∧ some k_ ≠ (v236 : Value).ownBlock) HO215.out (fun k_ hk => ⟨hk.1.1.2.2.1, ⟨hk.1.1.2.2.2.1, ⟨hk.1.1.2.2.2.2, hk.2⟩⟩⟩)); clear HO215; have HO215 := nD_; clear nD_; have nD_ := Aside0.mk (Kd.R_mono (ok' := fun k_ => some k_ ≠ (.slice Ao63 t213.length co63 : Value).ownBlock ∧ some k_ ≠ (.slice Ao60 t222.length co60 : Value).ownBlock ∧ some k_ ≠ (.slice Ao62 t225.length co62 : Value).ownBlock ∧ some k_ ≠ (v236 : Value).ownBlock) HO220.out (fun k_ hk => ⟨hk.1.1.2.2.1, ⟨hk.1.1.2.2.2.1, ⟨hk.1.1.2.2.2.2, hk.2⟩⟩⟩)); clear HO220; have HO220 := nD_; clear nD_; have nD_ := Aside0.mk (Kd.R_mono (ok' := fun k_ => some k_ ≠ (.slice Ao63 t213.length co63 : Value).ownBlock ∧ some k_ ≠ (.slice Ao57 t218.length co57 : Value).ownBlock ∧ some k_ ≠ (.slice Ao62 t225.length co62 : Value).ownBlock ∧ some k_ ≠ (v236 : Value).ownBlock) HO224.out (fun k_ hk => ⟨hk.1.1.2.2.1, ⟨hk.1.1.2.2.2.1, ⟨hk.1.1.2.2.2.2, hk.2⟩⟩⟩)); clear HO224; have HO224 := nD_; clear nD_; have nD_ := Aside0.mk (Kd.R_mono (ok' := fun k_ => some k_ ≠ (.slice Ao63 t213.length co63 : Value).ownBlock ∧ some k_ ≠ (.slice Ao57 t218.length co57 : Value).ownBlock ∧ some k_ ≠ (.slice Ao60 t222.length co60 : Value).ownBlock ∧ some k_ ≠ (v236 : Value).ownBlock) HO227.out (fun k_ hk => ⟨hk.1.1.2.2.1, ⟨hk.1.1.2.2.2.1, ⟨hk.1.1.2.2.2.2, hk.2⟩⟩⟩)); clear HO227; have HO227 := nD_; clear nD_; have nD_ := Aside0.mk (Kd.R_mono (ok' := fun k_ => some k_ ≠ (.slice Ao63 t213.length co63 : Value).ownBlock ∧ some k_ ≠ (.slice Ao57 t218.length co57 : Value).ownBlock ∧ some k_ ≠ (.slice Ao60 t222.length co60 : Value).ownBlock ∧ some k_ ≠ (.slice Ao62 t225.length co62 : Value).ownBlock) HO237.out (fun k_ hk => ⟨hk.1.1.1.1.2, ⟨hk.1.1.1.2, ⟨hk.1.1.2, hk.1.2⟩⟩⟩)); clear HO237; have HO237 := nD_; clear nD_; clear HO209 HO212 HO233; obtain ⟨Ao71, co71, eo71⟩ := Kd.R_slice HO237.out; subst eo71) | ((with_reducible refine gate_callee (f := 18) rfl ?_); refine cl_ (some 60) Try.func18 #[.slice Ao60 t222.length co60, .slice Ao71 t235.length co71] ?_; (with_reducible refine (laws_eqInt64S.calls k _ _ t222 _ _ t235 true _ ?side1 ?side2 ?side3 ?side4 A23.out).mono ?_); (case side1 => exact pC ((Kd.R_reads' HO224.out).2.2)); (case side2 => exact (Kd.R_reads' HO224.out).2.1); (case side3 => exact pC ((Kd.R_reads' HO237.out).2.2)); (case side4 => exact (Kd.R_reads' HO237.out).2.1); rintro e w' ⟨rfl, ⟨nd, rfl⟩⟩; refine ⟨_, rfl, ?_⟩; have hcz72_0 : w70.cell? ⟨gb221, 0, none⟩ = some (.int .i64 t217) := cB BK221 0; have hcz72_1 : w70.cell? ⟨gb221, 1, none⟩ = some (.slice Ao57 t218.length co57) := cB BK221 1; have hfz72_0 := zB BK221 0; have hfz72_1 := zB BK221 1) | ((with_reducible refine gate_callee (f := 20) rfl ?_); refine cl_ (some 64) Try.func20 #[.agg #[.int .i64 t217, .slice Ao57 t218.length co57], .int .i64 1] ?_; (with_reducible refine (laws_markComplex.calls k t217 (fun k_ => some k_ = (.slice Ao57 t218.length co57 : Value).ownBlock) (.slice Ao57 t218.length co57) t218 1 t239 t240 w _ ?side1 ?side2 A25.out).mono ?_); (case side1 => repeat (first | (with_reducible first | exact HB.out | apply below_alloc | apply pw_below_drewN | apply below_drew1 | refine below_set ?_ GE204.out | refine below_set ?_ GE221.out) | exact HB.out)); (case side2 => exact Kd.R_tight rfl HO220.out); rintro e w73 ⟨rfl, hy0, hb, hkp⟩; refine ⟨_, rfl, ?_⟩; replace BK204 := Aside0.mk (blk_kept (pB BK204) hkp (fun hs_ => (fun e_ => (Kd.R_ne HO220.out BK204.out (by decide)) e_) hs_)); replace HO215 := Aside0.mk (Kd.R_mono (ok' := fun k_ => some k_ ≠ (.slice Ao57 t218.length co57 : Value).ownBlock ∧ some k_ ≠ (.slice Ao60 t222.length co60 : Value).ownBlock ∧ some k_ ≠ (.slice Ao62 t225.length co62 : Value).ownBlock ∧ some k_ ≠ (.slice Ao71 t235.length co71 : Value).ownBlock) (Kd.R_keptB (HO215.out) hkp (fun k_ hk_ hs_ => (hk_.1) hs_)) (fun k_ hk_ => ⟨hk_.1.1, hk_.1.2.1, hk_.1.2.2.1, hk_.1.2.2.2⟩)); replace BK221 := Aside0.mk (blk_kept (pB BK221) hkp (fun hs_ => (fun e_ => (Kd.R_ne HO220.out BK221.out (by decide)) e_) hs_)); replace HO220 := Aside0.mk (Kd.R_reok rfl hy0 (fun k_ e_ => HO220.out.1 k_ e_)); replace HO224 := Aside0.mk (Kd.R_mono (ok' := fun k_ => some k_ ≠ (.slice Ao63 t213.length co63 : Value).ownBlock ∧ some k_ ≠ (.slice Ao57 t218.length co57 : Value).ownBlock ∧ some k_ ≠ (.slice Ao62 t225.length co62 : Value).ownBlock ∧ some k_ ≠ (.slice Ao71 t235.length co71 : Value).ownBlock) (Kd.R_keptB (HO224.out) hkp (fun k_ hk_ hs_ => (hk_.2.1) hs_)) (fun k_ hk_ => ⟨hk_.1.1, hk_.1.2.1, hk_.1.2.2.1, hk_.1.2.2.2⟩)); replace HO227 := Aside0.mk (Kd.R_mono (ok' := fun k_ => some k_ ≠ (.slice Ao63 t213.length co63 : Value).ownBlock ∧ some k_ ≠ (.slice Ao57 t218.length co57 : Value).ownBlock ∧ some k_ ≠ (.slice Ao60 t222.length co60 : Value).ownBlock ∧ some k_ ≠ (.slice Ao71 t235.length co71 : Value).ownBlock) (Kd.R_keptB (HO227.out) hkp (fun k_ hk_ hs_ => (hk_.2.1) hs_)) (fun k_ hk_ => ⟨hk_.1.1, hk_.1.2.1, hk_.1.2.2.1, hk_.1.2.2.2⟩)); replace HO237 := Aside0.mk (Kd.R_mono (ok' := fun k_ => some k_ ≠ (.slice Ao63 t213.length co63 : Value).ownBlock ∧ some k_ ≠ (.slice Ao57 t218.length co57 : Value).ownBlock ∧ some k_ ≠ (.slice Ao60 t222.length co60 : Value).ownBlock ∧ some k_ ≠ (.slice Ao62 t225.length co62 : Value).ownBlock) (Kd.R_keptB (HO237.out) hkp (fun k_ hk_ hs_ => (hk_.2.1) hs_)) (fun k_ hk_ => ⟨hk_.1.1, hk_.1.2.1, hk_.1.2.2.1, hk_.1.2.2.2⟩)); replace HB := Aside0.mk (hb); (try clear hb); (try clear hkp); (try clear hy0); have nD_ := Aside0.mk (Kd.R_mono (ok' := fun k_ => some k_ ≠ (.slice Ao57 t218.length co57 : Value).ownBlock ∧ some k_ ≠ (.slice Ao60 t222.length co60 : Value).ownBlock ∧ some k_ ≠ (.slice Ao62 t225.length co62 : Value).ownBlock) HO215.out (fun k_ hk => ⟨hk.1, ⟨hk.2.1, hk.2.2.1⟩⟩)); clear HO215; have HO215 := nD_; clear nD_; have nD_ := Aside0.mk (Kd.R_mono (ok' := fun k_ => some k_ ≠ (.slice Ao63 t213.length co63 : Value).ownBlock ∧ some k_ ≠ (.slice Ao60 t222.length co60 : Value).ownBlock ∧ some k_ ≠ (.slice Ao62 t225.length co62 : Value).ownBlock) HO220.out (fun k_ hk => ⟨hk.1, ⟨hk.2.1, hk.2.2.1⟩⟩)); clear HO220; have HO220 := nD_; clear nD_; have nD_ := Aside0.mk (Kd.R_mono (ok' := fun k_ => some k_ ≠ (.slice Ao63 t213.length co63 : Value).ownBlock ∧ some k_ ≠ (.slice Ao57 t218.length co57 : Value).ownBlock ∧ some k_ ≠ (.slice Ao62 t225.length co62 : Value).ownBlock) HO224.out (fun k_ hk => ⟨hk.1, ⟨hk.2.1, hk.2.2.1⟩⟩)); clear HO224; have HO224 := nD_; clear nD_; have nD_ := Aside0.mk (Kd.R_mono (ok' := fun k_ => some k_ ≠ (.slice Ao63 t213.length co63 : Value).ownBlock ∧ some k_ ≠ (.slice Ao57 t218.length co57 : Value).ownBlock ∧ some k_ ≠ (.slice Ao60 t222.length co60 : Value).ownBlock) HO227.out (fun k_ hk => ⟨hk.1, ⟨hk.2.1, hk.2.2.1⟩⟩)); clear HO227; have HO227 := nD_; clear nD_; clear HO237) | ((with_reducible refine gate_callee (f := 21) rfl ?_); refine cl_ (some 67) Try.func21 #[.slice Ao60 t222.length co60, .int .i64 t239] ?_; (with_reducible refine (laws_markInt64S.calls k (fun k_ => some k_ = (.slice Ao60 t222.length co60 : Value).ownBlock) (.slice Ao60 t222.length co60) t222 t239 t241 t242 w _ ?side1 ?side2 A26.out).mono ?_); (case side1 => repeat (first | (with_reducible first | exact HB.out | apply below_alloc | apply pw_below_drewN | apply below_drew1 | refine below_set ?_ GE204.out | refine below_set ?_ GE221.out) | exact HB.out)); (case side2 => exact Kd.R_tight rfl HO224.out); rintro e w74 ⟨rfl, hy0, hb, hkp⟩; refine ⟨_, rfl, ?_⟩; replace BK204 := Aside0.mk (blk_kept (pB BK204) hkp (fun hs_ => (fun e_ => (Kd.R_ne HO224.out BK204.out (by decide)) e_) hs_)); replace HO215 := Aside0.mk (Kd.R_mono (ok' := fun k_ => some k_ ≠ (.slice Ao57 t218.length co57 : Value).ownBlock ∧ some k_ ≠ (.slice Ao60 t222.length co60 : Value).ownBlock ∧ some k_ ≠ (.slice Ao62 t225.length co62 : Value).ownBlock) (Kd.R_keptB (HO215.out) hkp (fun k_ hk_ hs_ => (hk_.2.1) hs_)) (fun k_ hk_ => ⟨hk_.1.1, hk_.1.2.1, hk_.1.2.2⟩)); replace HO220 := Aside0.mk (Kd.R_mono (ok' := fun k_ => some k_ ≠ (.slice Ao63 t213.length co63 : Value).ownBlock ∧ some k_ ≠ (.slice Ao60 t222.length co60 : Value).ownBlock ∧ some k_ ≠ (.slice Ao62 t225.length co62 : Value).ownBlock) (Kd.R_keptB (HO220.out) hkp (fun k_ hk_ hs_ => (hk_.2.1) hs_)) (fun k_ hk_ => ⟨hk_.1.1, hk_.1.2.1, hk_.1.2.2⟩)); replace BK221 := Aside0.mk (blk_kept (pB BK221) hkp (fun hs_ => (fun e_ => (Kd.R_ne HO224.out BK221.out (by decide)) e_) hs_)); replace HO224 := Aside0.mk (Kd.R_reok rfl hy0 (fun k_ e_ => HO224.out.1 k_ e_)); replace HO227 := Aside0.mk (Kd.R_mono (ok' := fun k_ => some k_ ≠ (.slice Ao63 t213.length co63 : Value).ownBlock ∧ some k_ ≠ (.slice Ao57 t218.length co57 : Value).ownBlock ∧ some k_ ≠ (.slice Ao60 t222.length co60 : Value).ownBlock) (Kd.R_keptB (HO227.out) hkp (fun k_ hk_ hs_ => (hk_.2.2) hs_)) (fun k_ hk_ => ⟨hk_.1.1, hk_.1.2.1, hk_.1.2.2⟩)); replace HB := Aside0.mk (hb); (try clear hb); (try clear hkp); (try clear hy0); have nD_ := Aside0.mk (Kd.R_mono (ok' := fun k_ => some k_ ≠ (.slice Ao57 t218.length co57 : Value).ownBlock ∧ some k_ ≠ (.slice Ao62 t225.length co62 : Value).ownBlock) HO215.out (fun k_ hk => ⟨hk.1, hk.2.2⟩)); clear HO215; have HO215 := nD_; clear nD_; have nD_ := Aside0.mk (Kd.R_mono (ok' := fun k_ => some k_ ≠ (.slice Ao63 t213.length co63 : Value).ownBlock ∧ some k_ ≠ (.slice Ao62 t225.length co62 : Value).ownBlock) HO220.out (fun k_ hk => ⟨hk.1, hk.2.2⟩)); clear HO220; have HO220 := nD_; clear nD_; have nD_ := Aside0.mk (Kd.R_mono (ok' := fun k_ => some k_ ≠ (.slice Ao63 t213.length co63 : Value).ownBlock ∧ some k_ ≠ (.slice Ao57 t218.length co57 : Value).ownBlock) HO227.out (fun k_ hk => ⟨hk.1, hk.2.1⟩)); clear HO227; have HO227 := nD_; clear nD_; clear HO224) | (go_at_call 18; (with_reducible refine (laws_eqInt64S.calls k _ _ t225 _ _ t213 true _ ?side1 ?side2 ?side3 ?side4 A28.out).mono ?_); (case side1 => exact pC ((Kd.R_reads' HO227.out).2.2)); (case side2 => exact (Kd.R_reads' HO227.out).2.1); (case side3 => exact pC ((Kd.R_reads' HO215.out).2.2)); (case side4 => exact (Kd.R_reads' HO215.out).2.1); rintro e w' ⟨rfl, ⟨nd, rfl⟩⟩) | ((with_reducible refine gate_callee (f := 21) rfl ?_); refine cl_ (some 83) Try.func21 #[.slice Ao62 t225.length co62, .int .i64 1] ?_; (with_reducible refine (laws_markInt64S.calls k (fun k_ => some k_ = (.slice Ao62 t225.length co62 : Value).ownBlock) (.slice Ao62 t225.length co62) t225 1 t244 t245 w _ ?side1 ?side2 A30.out).mono ?_); (case side1 => repeat (first | (with_reducible first | exact HB.out | apply below_alloc | apply pw_below_drewN | apply below_drew1 | refine below_set ?_ GE204.out | refine below_set ?_ GE221.out) | exact HB.out)); (case side2 => exact Kd.R_tight rfl HO227.out); rintro e w75 ⟨rfl, hy0, hb, hkp⟩; refine ⟨_, rfl, ?_⟩; replace BK204 := Aside0.mk (blk_kept (pB BK204) hkp (fun hs_ => (fun e_ => (Kd.R_ne HO227.out BK204.out (by decide)) e_) hs_)); replace HO215 := Aside0.mk (Kd.R_mono (ok' := fun k_ => some k_ ≠ (.slice Ao57 t218.length co57 : Value).ownBlock ∧ some k_ ≠ (.slice Ao62 t225.length co62 : Value).ownBlock) (Kd.R_keptB (HO215.out) hkp (fun k_ hk_ hs_ => (hk_.2) hs_)) (fun k_ hk_ => ⟨hk_.1.1, hk_.1.2⟩)); replace HO220 := Aside0.mk (Kd.R_mono (ok' := fun k_ => some k_ ≠ (.slice Ao63 t213.length co63 : Value).ownBlock ∧ some k_ ≠ (.slice Ao62 t225.length co62 : Value).ownBlock) (Kd.R_keptB (HO220.out) hkp (fun k_ hk_ hs_ => (hk_.2) hs_)) (fun k_ hk_ => ⟨hk_.1.1, hk_.1.2⟩)); replace BK221 := Aside0.mk (blk_kept (pB BK221) hkp (fun hs_ => (fun e_ => (Kd.R_ne HO227.out BK221.out (by decide)) e_) hs_)); replace HO227 := Aside0.mk (Kd.R_reok rfl hy0 (fun k_ e_ => HO227.out.1 k_ e_)); replace HB := Aside0.mk (hb); (try clear hb); (try clear hkp); (try clear hy0)) | ((with_reducible refine gate_callee (f := 22) rfl ?_); refine cl_ (some 86) Try.func22 #[.slice Ao62 t245.length co62, .int .i64 1] (hargs := by (try simp only [List.map_toArray, List.map_cons, List.map_nil]); first | done | (rw [show t245.length = t225.length from (Kd.R_reads' HO227.out).1.symm] <;> rfl) | rfl | (simp only [List.length_drop, List.length_take]; rfl)) ?_; (with_reducible refine (laws_heldInt64S.calls k _ _ t245 1 t246 _ ?side1 ?side2 A31.out).mono ?_); (case side1 => exact pC ((Kd.R_reads' HO227.out).2.2)); (case side2 => rw [show t245.length = t225.length from (Kd.R_reads' HO227.out).1.symm]; exact (Kd.R_reads' HO227.out).2.1); rintro e w' ⟨rfl, ⟨nd, rfl⟩⟩; refine ⟨_, rfl, ?_⟩; have hcz76_0 : w75.cell? ⟨gb204, 0, none⟩ = some (.int .i64 a0_0) := cB BK204 0; have hcz76_1 : w75.cell? ⟨gb204, 1, none⟩ = some (.slice A0_1 l0_1.length c0_1) := cB BK204 1; have hfz76_0 := zB BK204 0; have hfz76_1 := zB BK204 1) | ((with_reducible refine gate_callee (f := 15) rfl ?_); refine cl_ (some 94) Try.func15 #[.agg #[.int .i64 a0_0, .slice A0_1 l0_1.length c0_1]] ?_; (with_reducible refine (laws_toComplex.calls k a0_0 _ _ l0_1 t247 t248 _ ?side1 ?side2 A34.out).mono ?_); (case side1 => exact pC ((Kd.C_below HR0_1.out (pH HB)))); (case side2 => exact HC0_1.out); rintro e w77 ⟨v249, rfl, ho0, hb⟩; refine ⟨_, rfl, ?_⟩; have HO250 := Aside0.mk (Kd.R_lower (Kd.R_new' (Kd.R_new' (Kd.R_new' ho0 (Kd.R_lt (pR HO215))) (Kd.R_lt (pR HO220))) (Kd.R_lt (pR HO227))) (below_size (pH HB))); replace HO215 := Aside0.mk (Kd.R_elder' (pR HO215) (Kd.R_base ho0) hb); replace HO220 := Aside0.mk (Kd.R_elder' (pR HO220) (Kd.R_base ho0) hb); replace HO227 := Aside0.mk (Kd.R_elder' (pR HO227) (Kd.R_base ho0) hb); replace BK204 := sB BK204 hb; replace BK221 := sB BK221 hb; replace HB := sH HB hb; (try clear hb); (try clear hi); (try clear ho0)) | ((with_reducible refine gate_callee (f := 16) rfl ?_); refine cl_ (some 96) Try.func16 #[.slice A1 l1.length c1] ?_; (with_reducible refine (laws_toInt64S.calls k _ _ l1 t251 _ ?side1 ?side2 A35.out).mono ?_); (case side1 => exact pC ((Kd.C_below HR1.out HB.out))); (case side2 => exact HC1.out); rintro e w78 ⟨v252, rfl, ho0, hb⟩; refine ⟨_, rfl, ?_⟩; have HO253 := Aside0.mk (Kd.R_lower (Kd.R_new' (Kd.R_new' (Kd.R_new' (Kd.R_new' ho0 (Kd.R_lt (pR HO215))) (Kd.R_lt (pR HO220))) (Kd.R_lt (pR HO227))) (Kd.R_lt (pR HO250))) (below_size (pH HB))); replace HO215 := Aside0.mk (Kd.R_elder' (pR HO215) (Kd.R_base ho0) hb); replace HO220 := Aside0.mk (Kd.R_elder' (pR HO220) (Kd.R_base ho0) hb); replace HO227 := Aside0.mk (Kd.R_elder' (pR HO227) (Kd.R_base ho0) hb); replace HO250 := Aside0.mk (Kd.R_elder' (pR HO250) (Kd.R_base ho0) hb); replace BK204 := sB BK204 hb; replace BK221 := sB BK221 hb; replace HB := sH HB hb; (try clear hb); (try clear hi); (try clear ho0); obtain ⟨Ao79, co79, eo79⟩ := Kd.R_slice HO250.out; subst eo79; obtain ⟨Ao80, co80, eo80⟩ := Kd.R_slice HO253.out; subst eo80) | ((with_reducible refine gate_callee (f := 39) rfl ?_); refine cl_ (some 97) Try.func39 #[.agg #[.int .i64 t247, .slice Ao79 t248.length co79], .slice Ao80 t251.length co80] ?_; (with_reducible refine (impl_RestrictionsOf.calls t247 _ _ t248 _ _ t251 t254 t257 _ ?side1 ?side2 ?side3 ?side4 A36.out).mono ?_); (case side1 => exact pC ((Kd.R_reads' HO250.out).2.2)); (case side2 => exact (Kd.R_reads' HO250.out).2.1); (case side3 => exact pC ((Kd.R_reads' HO253.out).2.2)); (case side4 => exact (Kd.R_reads' HO253.out).2.1); rintro e w81 ⟨v255, rfl, ho0, hb⟩; refine ⟨_, rfl, ?_⟩; have HO256 := Aside0.mk (Kd.R_lower (Kd.R_new' (Kd.R_new' (Kd.R_new' (Kd.R_new' (Kd.R_new' ho0 (Kd.R_lt (pR HO215))) (Kd.R_lt (pR HO220))) (Kd.R_lt (pR HO227))) (Kd.R_lt (pR HO250))) (Kd.R_lt (pR HO253))) (below_size (pH HB))); replace HO215 := Aside0.mk (Kd.R_elder' (pR HO215) (Kd.R_base ho0) hb); replace HO220 := Aside0.mk (Kd.R_elder' (pR HO220) (Kd.R_base ho0) hb); replace HO227 := Aside0.mk (Kd.R_elder' (pR HO227) (Kd.R_base ho0) hb); replace HO250 := Aside0.mk (Kd.R_elder' (pR HO250) (Kd.R_base ho0) hb); replace HO253 := Aside0.mk (Kd.R_elder' (pR HO253) (Kd.R_base ho0) hb); replace BK204 := sB BK204 hb; replace BK221 := sB BK221 hb; replace HB := sH HB hb; (try clear hb); (try clear hi); (try clear ho0); have nD_ := Aside0.mk (Kd.R_mono (ok' := fun k_ => some k_ ≠ (.slice Ao57 t218.length co57 : Value).ownBlock ∧ some k_ ≠ (.slice Ao62 t225.length co62 : Value).ownBlock ∧ some k_ ≠ (v255 : Value).ownBlock) HO215.out (fun k_ hk => ⟨hk.1.1.1.1, ⟨hk.1.1.1.2, hk.2⟩⟩)); clear HO215; have HO215 := nD_; clear nD_; have nD_ := Aside0.mk (Kd.R_mono (ok' := fun k_ => some k_ ≠ (.slice Ao63 t213.length co63 : Value).ownBlock ∧ some k_ ≠ (.slice Ao62 t225.length co62 : Value).ownBlock ∧ some k_ ≠ (v255 : Value).ownBlock) HO220.out (fun k_ hk => ⟨hk.1.1.1.1, ⟨hk.1.1.1.2, hk.2⟩⟩)); clear HO220; have HO220 := nD_; clear nD_; have nD_ := Aside0.mk (Kd.R_mono (ok' := fun k_ => some k_ ≠ (.slice Ao63 t213.length co63 : Value).ownBlock ∧ some k_ ≠ (.slice Ao57 t218.length co57 : Value).ownBlock ∧ some k_ ≠ (v255 : Value).ownBlock) HO227.out (fun k_ hk => ⟨hk.1.1.1.1, ⟨hk.1.1.1.2, hk.2⟩⟩)); clear HO227; have HO227 := nD_; clear nD_; have nD_ := Aside0.mk (Kd.R_mono (ok' := fun k_ => some k_ ≠ (.slice Ao63 t213.length co63 : Value).ownBlock ∧ some k_ ≠ (.slice Ao57 t218.length co57 : Value).ownBlock ∧ some k_ ≠ (.slice Ao62 t225.length co62 : Value).ownBlock) HO256.out (fun k_ hk => ⟨hk.1.1.1.1.2, ⟨hk.1.1.1.2, hk.1.1.2⟩⟩)); clear HO256; have HO256 := nD_; clear nD_; clear HO250 HO253; obtain ⟨Ao82, co82, eo82⟩ := Kd.R_slice HO256.out; subst eo82) | ((with_reducible refine gate_callee (f := 18) rfl ?_); refine cl_ (some 102) Try.func18 #[.slice Ao82 t254.length co82, .slice Ao63 t213.length co63] ?_; (with_reducible refine (laws_eqInt64S.calls k _ _ t254 _ _ t213 true _ ?side1 ?side2 ?side3 ?side4 A37.out).mono ?_); (case side1 => exact pC ((Kd.R_reads' HO256.out).2.2)); (case side2 => exact (Kd.R_reads' HO256.out).2.1); (case side3 => exact pC ((Kd.R_reads' HO215.out).2.2)); (case side4 => exact (Kd.R_reads' HO215.out).2.1); rintro e w' ⟨rfl, ⟨nd, rfl⟩⟩; refine ⟨_, rfl, ?_⟩) | ((with_reducible refine gate_callee (f := 22) rfl ?_); refine cl_ (some 111) Try.func22 #[.slice Ao62 t245.length co62, .int .i64 1] (hargs := by (try simp only [List.map_toArray, List.map_cons, List.map_nil]); first | done | (rw [show t245.length = t225.length from (Kd.R_reads' HO227.out).1.symm] <;> rfl) | rfl | (simp only [List.length_drop, List.length_take]; rfl)) ?_; (with_reducible refine (laws_heldInt64S.calls k _ _ t245 1 t259 _ ?side1 ?side2 A40.out).mono ?_); (case side1 => exact pC ((Kd.R_reads' HO227.out).2.2)); (case side2 => rw [show t245.length = t225.length from (Kd.R_reads' HO227.out).1.symm]; exact (Kd.R_reads' HO227.out).2.1); rintro e w' ⟨rfl, ⟨nd, rfl⟩⟩; refine ⟨_, rfl, ?_⟩))
               go_ret
               exact ⟨by first | rfl | (simp [errW_none, errW_some] <;> rfl) | (simp [*, errW_none, errW_some] <;> rfl) | (exfalso; simp_all), pH HB⟩
              ·rw [if_neg c42] at H
               exact absurd H (by simp)
            ·rw [if_neg c39] at H
             exact absurd H (by simp)
           ·replace c38 := Bool.eq_false_iff.mpr c38
            subst c38
            have H1 : (none) = some r := by rw [if_neg (show ¬ (false = true) by decide)] at H; exact H
            clear H
            have H := H1
            clear H1
            exact absurd H (by simp)
          ·rw [if_neg c33] at H
           exact absurd H (by simp)
        ·replace c29 := Bool.eq_false_iff.mpr c29
         subst c29
         have H1 : (none) = some r := by rw [if_neg (show ¬ (false = true) by decide)] at H; exact H
         clear H
         have H := H1
         clear H1
         exact absurd H (by simp)
      ·replace c24 := Bool.eq_false_iff.mpr c24
       subst c24
       have H1 : (none) = some r := by rw [if_neg (show ¬ (false = true) by decide)] at H; exact H
       clear H
       have H := H1
       clear H1
       exact absurd H (by simp)
     ·replace c21 := Bool.eq_false_iff.mpr c21
      subst c21
      have H1 : (none) = some r := by rw [if_neg (show ¬ (false = true) by decide)] at H; exact H
      clear H
      have H := H1
      clear H1
      exact absurd H (by simp)
    ·rw [if_neg c18] at H
     exact absurd H (by simp)
   ·replace c17 := Bool.eq_false_iff.mpr c17
    subst c17
    have H1 : (none) = some r := by rw [if_neg (show ¬ (false = true) by decide)] at H; exact H
    clear H
    have H := H1
    clear H1
    exact absurd H (by simp)
end Go.Proofs.Ytomdfjohnmikdaa.QFnExactRestrictionsOf
namespace Go.Proofs.Ytomdfjohnmikdaa.QS
open Go.Proofs.Ytomdfjohnmikdaa.Cw Go.Proofs.Ytomdfjohnmikdaa.Kp Go.Proofs.Ytomdfjohnmikdaa.Ext Go.RowKit Go.Proofs.YtomdfjohnmikdaaW.PrintWords Go.Proofs.YtomdfjohnmikdaaW.PrintLast Go.Proofs.YtomdfjohnmikdaaW.PrintMore
attribute [local go_sem] max2_int min2_int max_two min_two max_three min_three max_four min_four   -- for this text's walks alone
set_option linter.unusedVariables false
set_option linter.unusedSimpArgs false
end Go.Proofs.Ytomdfjohnmikdaa.QS
namespace Go.Proofs.Ytomdfjohnmikdaa.Pu
set_option linter.unusedVariables false
set_option linter.unusedSimpArgs false
open Go.RowKit Go.Proofs.Ytomdfjohnmikdaa.Ext Go.Proofs.Ytomdfjohnmikdaa.QS Go.Proofs.Ytomdfjohnmikdaa.Im Go.Proofs.YtomdfjohnmikdaaW.PrintWords Go.Proofs.YtomdfjohnmikdaaW.PrintLast Go.Proofs.YtomdfjohnmikdaaW.PrintMore
def newB (fs ls : List Int) (m : Nat) : Bool := (fs.any fun g => g == ls.getD m 0) && (ls.take m).all fun g => g != ls.getD m 0
def goM (ls : List Int) (m : Nat) : Bool × Int := goesB (ls.take m) (ls.getD m 0)
def specLoop (fs ls : List Int) : Nat → Nat → List Int → Bool × List Int
  | 0, _, acc => (true, acc)
  | d + 1, i, acc => if newB fs ls i = true then (if (goM ls i).1 = true then specLoop fs ls d (i + 1) (acc ++ [(goM ls i).2]) else (false, acc)) else (false, acc)
theorem getD_lt {l : List Int} {i : Nat} (h : i < l.length) : l.getD i 0 = l[i] := by rw [List.getD_eq_getElem?_getD, List.getElem?_eq_getElem h]; rfl
section
variable {fs ls acc : List Int} {i : Nat} {D : Bool → Bool × List Int}
theorem sh_l2 (hl : ls.length ≤ 1048576) (hi : i < ls.length) (ha : acc.length ≤ 1048576) (hF : D false = (false, acc)) (hT : (goM ls i).1 = true → Ev (fun k => spec_l07Shelling.l0 k ls fs (acc ++ [(goM ls i).2]) ((i + 1 : Nat) : Int)) (D true)) (hT2 : (goM ls i).1 = false → D true = (false, acc)) :
    ∀ d (j : Nat) (b : Bool), i - j = d → j ≤ i → Ev (fun k => spec_l07Shelling.l2 k ls fs acc (i : Int) b (j : Int)) (D (b && ((ls.take i).drop j).all fun g => g != ls.getD i 0)) := by
  intro d
  induction d with
  | zero =>
    intro j b hd hj
    obtain rfl : j = i := by omega
    rw [List.drop_eq_nil_of_le (by rw [List.length_take]; omega), List.all_nil, Bool.and_true]
    refine Ev.step (fun k => ?_) (f := fun k => (spec_l07Goes.f k (ls.take j) ls[j]).bind fun bt => if b = true then (if bt.1 = true then spec_l07Shelling.l0 k ls fs (acc ++ [bt.2]) ((j + 1 : Nat) : Int) else some (false, acc)) else some (false, acc)) ?_
    · simp only [spec_l07Shelling.l2]
      rw [if_neg (by omega), if_pos (by omega), if_pos (by omega), if_pos (by omega), rd_at' hi, Int.toNat_natCast, show wrap64 ((j : Int) + 1) = ((j + 1 : Nat) : Int) by rw [w64' (by omega) (by omega)]; omega]
      simp only [if_pos (show acc.length < 17592186044416 by omega)]
    · refine Ev.bind (ev_goes (by rw [List.length_take]; omega) _) ?_
      have hg : goesB (ls.take j) ls[j] = goM ls j := by unfold goM; rw [getD_lt hi]
      rw [hg]
      cases b with
      | false => simp only [Bool.false_eq_true, if_false]; rw [hF]; exact Ev.now _
      | true =>
        simp only [if_true]
        cases hg1 : (goM ls j).1 with
        | true => simp only [if_true]; exact hT hg1
        | false => simp only [Bool.false_eq_true, if_false]; rw [hT2 hg1]; exact Ev.now _
  | succ d ih =>
    intro j b hd hj
    have hj' : j < ls.length := by omega
    have hjt : j < (ls.take i).length := by rw [List.length_take]; omega
    have hw : wrap64 ((j : Int) + 1) = ((j + 1 : Nat) : Int) := by rw [w64' (by omega) (by omega)]; omega
    rw [List.drop_eq_getElem_cons hjt, List.all_cons, List.getElem_take]
    cases b with
    | true =>
      have := ih (j + 1) (ls[j] != ls[i]) (by omega) (by omega)
      rw [getD_lt hi] at this ⊢
      rw [Bool.true_and]
      refine Ev.step (fun k => ?_) this
      simp only [spec_l07Shelling.l2]
      rw [if_pos (by omega), if_pos trivial, if_pos (by omega), if_pos (by omega), if_pos (by omega), if_pos (by omega), rd_at' hj', rd_at' hi, hw]
    | false =>
      have := ih (j + 1) false (by omega) (by omega)
      rw [Bool.false_and] at this ⊢
      refine Ev.step (fun k => ?_) this
      simp only [spec_l07Shelling.l2]
      rw [if_pos (by omega), if_neg Bool.false_ne_true, hw]
theorem sh_l1 (hfl : fs.length ≤ 1048576) (hl : ls.length ≤ 1048576) (hi : i < ls.length) (ha : acc.length ≤ 1048576) (hF : D false = (false, acc)) (hT : (goM ls i).1 = true → Ev (fun k => spec_l07Shelling.l0 k ls fs (acc ++ [(goM ls i).2]) ((i + 1 : Nat) : Int)) (D true)) (hT2 : (goM ls i).1 = false → D true = (false, acc)) :
    ∀ d (j : Nat) (b : Bool), fs.length - j = d → j ≤ fs.length → Ev (fun k => spec_l07Shelling.l1 k ls fs acc (i : Int) b (j : Int)) (D ((b || (fs.drop j).any fun g => g == ls.getD i 0) && (ls.take i).all fun g => g != ls.getD i 0)) := by
  intro d
  induction d with
  | zero =>
    intro j b hd hj
    rw [List.drop_eq_nil_of_le (by omega), List.any_nil, Bool.or_false]
    have := sh_l2 (fs := fs) hl hi ha hF hT hT2 _ 0 b rfl (Nat.zero_le _)
    rw [List.drop_zero] at this
    refine Ev.step (fun k => ?_) this
    simp only [spec_l07Shelling.l1]
    rw [if_neg (by omega)]
    rfl
  | succ d ih =>
    intro j b hd hj
    have hj' : j < fs.length := by omega
    have hw : wrap64 ((j : Int) + 1) = ((j + 1 : Nat) : Int) := by rw [w64' (by omega) (by omega)]; omega
    rw [List.drop_eq_getElem_cons hj', List.any_cons]
    cases b with
    | true =>
      have := ih (j + 1) true (by omega) (by omega)
      rw [Bool.true_or] at this ⊢
      refine Ev.step (fun k => ?_) this
      simp only [spec_l07Shelling.l1]
      rw [if_pos (by omega), if_pos trivial, hw]
    | false =>
      have := ih (j + 1) (fs[j] == ls[i]) (by omega) (by omega)
      rw [getD_lt hi] at this ⊢
      rw [Bool.false_or]
      refine Ev.step (fun k => ?_) this
      simp only [spec_l07Shelling.l1]
      rw [if_pos (by omega), if_neg Bool.false_ne_true, if_pos (by omega), if_pos (by omega), if_pos (by omega), rd_at' hj', rd_at' hi, hw]
end
theorem sh_l0 {fs ls : List Int} (hfl : fs.length ≤ 1048576) (hl : ls.length ≤ 1048576) : ∀ d (i : Nat) (acc : List Int), ls.length - i = d → i ≤ ls.length → acc.length ≤ i → Ev (fun k => spec_l07Shelling.l0 k ls fs acc (i : Int)) (specLoop fs ls d i acc) := by
  intro d
  induction d with
  | zero =>
    intro i acc hd hi ha
    refine Ev.step (f := fun k => some (true, acc)) (fun k => ?_) (Ev.now _)
    simp only [spec_l07Shelling.l0]
    rw [if_neg (by omega)]
  | succ d ih =>
    intro i acc hd hi ha
    have hi' : i < ls.length := by omega
    have := sh_l1 (fs := fs) (ls := ls) (acc := acc) (i := i) (D := fun b => if b = true then (if (goM ls i).1 = true then specLoop fs ls d (i + 1) (acc ++ [(goM ls i).2]) else (false, acc)) else (false, acc)) hfl hl hi' (by omega) (if_neg Bool.false_ne_true)
      (fun hg => by simp only [if_true, hg]; exact ih (i + 1) _ (by omega) (by omega) (by rw [List.length_append, List.length_singleton]; omega))
      (fun hg => by simp only [if_true, hg, Bool.false_eq_true, if_false]) _ 0 false rfl (Nat.zero_le _)
    rw [List.drop_zero, Bool.false_or] at this
    refine Ev.step (fun k => ?_) this
    simp only [spec_l07Shelling.l0]
    rw [if_pos (by omega)]
    rfl
def specSh (fs ls : List Int) : Bool × List Int := if ls.length = fs.length then specLoop fs ls ls.length 0 [] else (false, [])
theorem ev_shelling {n : Int} {xs ls : List Int} (hi : isC n xs = true) (hx : xs.length ≤ 1048576) (hl : ls.length ≤ 1048576) : Ev (fun k => spec_l07Shelling.f k n xs ls) (specSh (facetsL xs) ls) := by
  unfold spec_l07Shelling.f
  refine Ev.bind (ev_facets hi) ?_
  have hfl : (facetsL xs).length ≤ 1048576 := Nat.le_trans (List.length_filter_le _ _) hx
  simp only [Option.bind_some]
  unfold specSh
  by_cases h : ls.length = (facetsL xs).length
  · rw [if_pos h]
    simp only [if_pos (show (ls.length : Int) = ((facetsL xs).length : Int) by omega)]
    exact sh_l0 hfl hl _ 0 [] rfl (Nat.zero_le _) (Nat.zero_le _)
  · rw [if_neg h]
    simp only [if_neg (show ¬ (ls.length : Int) = ((facetsL xs).length : Int) by omega)]
    exact Ev.now _
theorem loop_ok (fs ls : List Int) : ∀ d i acc, (specLoop fs ls d i acc).1 = (List.range' i d).all (fun m => newB fs ls m && (goM ls m).1) ∧ ((specLoop fs ls d i acc).1 = true → (specLoop fs ls d i acc).2 = acc ++ (List.range' i d).map fun m => (goM ls m).2)
  | 0, i, acc => by simp [specLoop]
  | d + 1, i, acc => by
    rw [List.range'_succ, List.all_cons, List.map_cons]
    unfold specLoop
    cases h1 : newB fs ls i with
    | false => simp
    | true =>
      cases h2 : (goM ls i).1 with
      | false => simp
      | true =>
        simp only [if_true, Bool.true_and]
        obtain ⟨a, b⟩ := loop_ok fs ls d (i + 1) (acc ++ [(goM ls i).2])
        exact ⟨a, fun h => by rw [b h]; simp⟩
theorem sub_asc : ∀ {b a : List Int}, a.Pairwise (· < ·) → b.Pairwise (· < ·) → (∀ x ∈ a, x ∈ b) → a.Sublist b
  | [], a, _, _, h => by
    cases a with
    | nil => exact List.Sublist.refl _
    | cons x a => exact absurd (h x (by simp)) (by simp)
  | y :: b, [], _, _, _ => List.nil_sublist _
  | y :: b, x :: a, ha, hb, h => by
    obtain ⟨ha1, ha2⟩ := List.pairwise_cons.1 ha
    obtain ⟨hb1, hb2⟩ := List.pairwise_cons.1 hb
    rcases List.mem_cons.1 (h x (by simp)) with rfl | hx
    · refine List.Sublist.cons_cons _ (sub_asc ha2 hb2 fun z hz => ?_)
      rcases List.mem_cons.1 (h z (by simp [hz])) with rfl | h3
      · exact absurd (ha1 _ hz) (by omega)
      · exact h3
    · refine List.Sublist.cons _ (sub_asc ha hb2 fun z hz => ?_)
      have hyx := hb1 x hx
      rcases List.mem_cons.1 (h z hz) with rfl | h3
      · rcases List.mem_cons.1 hz with rfl | h4
        · omega
        · have := ha1 _ h4; omega
      · exact h3
theorem sortL_pw (ls : List Int) : (sortL ls).Pairwise (· ≤ ·) := by
  have := List.pairwise_mergeSort (le := fun x y : Int => decide (x ≤ y)) (fun a b c => by simp; omega) (fun a b => by simp; omega) ls
  exact this.imp fun h => by simpa using h
theorem nodup_iff (ls : List Int) : ls.Nodup ↔ ∀ m, m < ls.length → ∀ g ∈ ls.take m, g ≠ ls.getD m 0 := by
  unfold List.Nodup
  rw [List.pairwise_iff_getElem]
  constructor
  · intro h m hm g hg
    obtain ⟨j, hj, rfl⟩ := List.mem_iff_getElem.1 hg
    rw [List.length_take] at hj
    rw [List.getElem_take, getD_lt hm]
    exact h j m (by omega) hm (by omega)
  · intro h i j hi hj hij
    have := h j hj ls[i] (List.mem_iff_getElem.2 ⟨i, by rw [List.length_take]; omega, by rw [List.getElem_take]⟩)
    rwa [getD_lt hj] at this
theorem sort_iff {fs ls : List Int} (hf : fs.Pairwise (· < ·)) : (sortL ls = fs) ↔ (ls.length = fs.length ∧ ∀ m, m < ls.length → newB fs ls m = true) := by
  have hperm : (sortL ls).Perm ls := List.mergeSort_perm _ _
  constructor
  · intro h
    refine ⟨by rw [← h]; exact hperm.length_eq.symm, fun m hm => ?_⟩
    have hnd : ls.Nodup := hperm.nodup_iff.1 (by rw [h]; exact hf.imp fun h => by omega)
    unfold newB
    rw [Bool.and_eq_true]
    refine ⟨List.any_eq_true.2 ⟨ls.getD m 0, ?_, by simp⟩, List.all_eq_true.2 fun g hg => ?_⟩
    · rw [← h, getD_lt hm]; exact sort_mem.2 (List.getElem_mem hm)
    · simpa using (nodup_iff ls).1 hnd m hm g hg
  · rintro ⟨hlen, h⟩
    have hnd : ls.Nodup := (nodup_iff ls).2 fun m hm g hg => by
      have := h m hm
      unfold newB at this
      rw [Bool.and_eq_true] at this
      simpa using List.all_eq_true.1 this.2 g hg
    have hsn : (sortL ls).Nodup := hperm.nodup_iff.2 hnd
    have hlt : (sortL ls).Pairwise (· < ·) := by
      refine ((sortL_pw ls).and hsn).imp ?_
      rintro a b ⟨h1, h2⟩
      omega
    refine (sub_asc hlt hf fun x hx => ?_).eq_of_length (by rw [hperm.length_eq, hlen])
    obtain ⟨m, hm, rfl⟩ := List.mem_iff_getElem.1 (sort_mem.1 hx)
    have := h m hm
    unfold newB at this
    rw [Bool.and_eq_true] at this
    obtain ⟨g, hg, he⟩ := List.any_eq_true.1 this.1
    rw [getD_lt hm] at he
    rwa [← eq_of_beq he]
theorem sh_same {n : Int} {xs ls : List Int} (hi : isC n xs = true) : (specSh (facetsL xs) ls).1 = shOkB xs ls := by
  have hasc : (facetsL xs).Pairwise (· < ·) := List.Pairwise.filter _ (ascB_asc (isC_of hi).2.1)
  have hf63 : ∀ x ∈ facetsL xs, 0 ≤ x ∧ x ≤ 63 := fun x hx => by have := isC_63 hi x (List.mem_filter.1 hx).1; omega
  unfold specSh shOkB
  generalize facetsL xs = fs at hasc hf63 ⊢
  by_cases hs : sortL ls = fs
  · obtain ⟨hlen, hnew⟩ := (sort_iff hasc).1 hs
    have hls : ∀ x ∈ ls, 0 ≤ x ∧ x ≤ 63 := fun x hx => hf63 x (by rw [← hs]; exact sort_mem.2 hx)
    rw [if_pos hlen, (loop_ok fs ls ls.length 0 []).1, beq_iff_eq.2 hs, Bool.true_and]
    unfold nextsB
    rw [List.range_eq_range']
    refine all_congr_mem' fun m hm => ?_
    have hm' : m < ls.length := by have := List.mem_range'_1.1 hm; omega
    rw [hnew m hm', Bool.true_and]
    unfold goM
    exact goes_next (hls _ (by rw [getD_lt hm']; exact List.getElem_mem hm')) (fun x hx => hls x (List.mem_of_mem_take hx))
  · rw [beq_eq_false_iff_ne.2 hs, Bool.false_and]
    split
    · rename_i hlen
      rw [(loop_ok fs ls ls.length 0 []).1, Bool.eq_false_iff]
      intro h
      refine hs ((sort_iff hasc).2 ⟨hlen, fun m hm => ?_⟩)
      have := List.all_eq_true.1 h m (List.mem_range'_1.2 (by omega))
      rw [Bool.and_eq_true] at this
      exact this.1
    · rfl
end Go.Proofs.Ytomdfjohnmikdaa.Pu
namespace Go.Proofs.Ytomdfjohnmikdaa.Pu
set_option linter.unusedVariables false
set_option linter.unusedSimpArgs false
open Go.RowKit Go.Proofs.Ytomdfjohnmikdaa.Ext Go.Proofs.Ytomdfjohnmikdaa.QS Go.Proofs.Ytomdfjohnmikdaa.Im Go.Proofs.YtomdfjohnmikdaaW.PrintWords Go.Proofs.YtomdfjohnmikdaaW.PrintLast Go.Proofs.YtomdfjohnmikdaaW.PrintMore
theorem fi_all : ((List.range 64).all fun x => (List.range 64).all fun g => (nI (x : Int) (g : Int) == 0) == decide (aI (g : Int) (x : Int) = (x : Int))) = true := by decide +kernel
theorem fj_all : ((List.range 64).all fun f => (List.range 6).all fun v => (bitB (f : Int) v == hv (f : Int) v) && (!(hv (f : Int) v) || decide (nI (f : Int) (2 ^ v) = (f : Int) - 2 ^ v) && decide (0 ≤ (f : Int) - 2 ^ v) && decide ((f : Int) - 2 ^ v ≤ 63))) = true := by decide +kernel
theorem fk_all : ((List.range 64).all fun x => (List.range 64).all fun y => !((List.range 6).all fun v => hv (x : Int) v == hv (y : Int) v) || x == y) = true := by decide +kernel
theorem fi {x g : Int} (hx : 0 ≤ x ∧ x ≤ 63) (hg : 0 ≤ g ∧ g ≤ 63) : (nI x g == 0) = decide (aI g x = x) := by
  obtain ⟨a, rfl, ha⟩ := nat_of hx
  obtain ⟨c, rfl, hc⟩ := nat_of hg
  exact eq_of_beq (List.all_eq_true.1 (List.all_eq_true.1 fi_all a (List.mem_range.2 ha)) c (List.mem_range.2 hc))
theorem fj {f : Int} {v : Nat} (hf : 0 ≤ f ∧ f ≤ 63) (hv' : v < 6) : bitB f v = hv f v ∧ (hv f v = true → nI f (2 ^ v) = f - 2 ^ v ∧ 0 ≤ f - 2 ^ v ∧ f - 2 ^ v ≤ 63) := by
  obtain ⟨a, rfl, ha⟩ := nat_of hf
  have h := List.all_eq_true.1 (List.all_eq_true.1 fj_all a (List.mem_range.2 ha)) v (List.mem_range.2 hv')
  rw [Bool.and_eq_true] at h
  refine ⟨eq_of_beq h.1, fun h1 => ?_⟩
  have h2 := h.2
  rw [h1, Bool.not_true, Bool.false_or, Bool.and_eq_true, Bool.and_eq_true] at h2
  exact ⟨of_decide_eq_true h2.1.1, of_decide_eq_true h2.1.2, of_decide_eq_true h2.2⟩
theorem fk {x y : Int} (hx : 0 ≤ x ∧ x ≤ 63) (hy : 0 ≤ y ∧ y ≤ 63) (h : ∀ v, v < 6 → hv x v = hv y v) : x = y := by
  obtain ⟨a, rfl, ha⟩ := nat_of hx
  obtain ⟨c, rfl, hc⟩ := nat_of hy
  have h1 := List.all_eq_true.1 (List.all_eq_true.1 fk_all a (List.mem_range.2 ha)) c (List.mem_range.2 hc)
  have h2 : ((List.range 6).all fun v => hv (a : Int) v == hv (c : Int) v) = true := List.all_eq_true.2 fun v hv' => beq_iff_eq.2 (h v (List.mem_range.1 hv'))
  rw [h2, Bool.not_true, Bool.false_or, beq_iff_eq] at h1
  rw [h1]
/-- The program's step. -/
def stepP (before : List Int) (f : Int) (R : Int) (v : Nat) : Int := if (before.any fun g => nI (nI f (2 ^ v)) g == 0) = true then oI R (2 ^ v) else R
def vsN (f : Int) : List Nat := (List.range 6).filter (bitB f)
theorem prog_restr {before : List Int} {f : Int} (hf : 0 ≤ f ∧ f ≤ 63) (hb : ∀ x ∈ before, 0 ≤ x ∧ x ≤ 63) : (vsN f).foldl (stepP before f) 0 = restr before f := by
  have key : ∀ m, m ≤ 6 → (0 ≤ ((List.range m).filter (bitB f)).foldl (stepP before f) 0 ∧ ((List.range m).filter (bitB f)).foldl (stepP before f) 0 ≤ 63) ∧ ∀ u, u < 6 → hv (((List.range m).filter (bitB f)).foldl (stepP before f) 0) u = (decide (u < m) && inR before f u) := by
    intro m
    induction m with
    | zero =>
      intro _
      refine ⟨⟨by simp, by simp⟩, fun u hu => ?_⟩
      have := List.all_eq_true.1 fz_all u (List.mem_range.2 hu)
      simp only [List.range_zero, List.filter_nil, List.foldl_nil]
      simpa using this
    | succ m ih =>
      intro hm
      obtain ⟨h1, h2⟩ := ih (by omega)
      obtain ⟨j1, j2⟩ := fj hf (v := m) (by omega)
      rw [List.range_succ, List.filter_append, List.foldl_append]
      generalize ((List.range m).filter (bitB f)).foldl (stepP before f) 0 = R at h1 h2
      cases hz : hv f m with
      | true =>
        obtain ⟨j3, j4, j5⟩ := j2 hz
        rw [List.filter_cons, j1, hz, if_pos rfl, List.filter_nil, List.foldl_cons, List.foldl_nil]
        unfold stepP
        rw [j3, any_congr_mem (q := fun b => decide (aI b (f - 2 ^ m) = f - 2 ^ m)) (fun g hg => fi ⟨j4, j5⟩ (hb g hg))]
        have hin : inR before f m = before.any fun b => decide (aI b (f - 2 ^ m) = f - 2 ^ m) := by unfold inR; rw [hz, Bool.true_and]
        rw [← hin]
        cases hi : inR before f m with
        | true =>
          rw [if_pos rfl]
          obtain ⟨g1, g2⟩ := ff h1 (u := m) (by omega)
          refine ⟨g1, fun u hu => ?_⟩
          rw [g2 u hu, h2 u hu]
          by_cases hum : u = m
          · subst hum; simp [hi]
          · have e1 : (u == m) = false := by simpa using hum
            have e2 : decide (u < m + 1) = decide (u < m) := by rw [decide_eq_decide]; omega
            rw [e1, e2, Bool.or_false]
        | false =>
          rw [if_neg Bool.false_ne_true]
          refine ⟨h1, fun u hu => ?_⟩
          rw [h2 u hu]
          by_cases hum : u = m
          · subst hum; simp [hi]
          · have e2 : decide (u < m + 1) = decide (u < m) := by rw [decide_eq_decide]; omega
            rw [e2]
      | false =>
        rw [List.filter_cons, j1, hz, if_neg Bool.false_ne_true, List.filter_nil, List.foldl_nil]
        refine ⟨h1, fun u hu => ?_⟩
        rw [h2 u hu]
        by_cases hum : u = m
        · subst hum; simp [inR, hz]
        · have e2 : decide (u < m + 1) = decide (u < m) := by rw [decide_eq_decide]; omega
          rw [e2]
  obtain ⟨h1, h2⟩ := key 6 (Nat.le_refl _)
  obtain ⟨r1, r2⟩ := restr_bits (before := before) hf
  exact fk h1 r1 fun v hv' => by rw [show vsN f = (List.range 6).filter (bitB f) from rfl] at *; rw [h2 v hv', r2 v hv', decide_eq_true hv', Bool.true_and]
theorem shr_v {f : Int} {v : Nat} (hv' : v < 6) : shr .i64 f (v : Int) = f / 2 ^ v := by
  unfold shr
  rw [show min ((v : Int)).toNat IntKind.i64.bits = v by simp [IntKind.bits]; omega]
theorem shl_v2 {v : Nat} (hv' : v < 6) : shl .i64 1 (v : Int) = 2 ^ v := by
  obtain rfl | rfl | rfl | rfl | rfl | rfl : v = 0 ∨ v = 1 ∨ v = 2 ∨ v = 3 ∨ v = 4 ∨ v = 5 := by omega
  all_goals decide +kernel
theorem ev_vertices (f : Int) : Ev (fun k => QN.impl_vertices.f k f) ((vsN f).map fun v : Nat => (v : Int)) := by
  have key : ∀ d (v : Nat) (acc : List Int), 6 - v = d → v ≤ 6 → acc.length ≤ v → Ev (fun k => QN.impl_vertices.l0 k f acc (v : Int)) (acc ++ ((List.range' v (6 - v)).filter (bitB f)).map fun v : Nat => (v : Int)) := by
    intro d
    induction d with
    | zero =>
      intro v acc hd hv' ha
      obtain rfl : v = 6 := by omega
      refine Ev.step (f := fun k => some acc) (fun k => ?_) (by simp; exact Ev.now _)
      simp only [QN.impl_vertices.l0]; rw [if_neg (by omega)]
    | succ d ih =>
      intro v acc hd hv' ha
      have hv6 : v < 6 := by omega
      have hw : wrap64 ((v : Int) + 1) = ((v + 1 : Nat) : Int) := by rw [w64' (by omega) (by omega)]; omega
      rw [show 6 - v = (6 - (v + 1)) + 1 by omega, List.range'_succ, List.filter_cons]
      cases hb : bitB f v with
      | true =>
        have := ih (v + 1) (acc ++ [(v : Int)]) (by omega) (by omega) (by rw [List.length_append, List.length_singleton]; omega)
        rw [if_pos rfl, List.map_cons]
        rw [List.append_assoc, List.singleton_append] at this
        refine Ev.step (fun k => ?_) this
        simp only [QN.impl_vertices.l0]
        rw [if_pos (by omega), if_pos (by omega), shr_v hv6, if_pos (by unfold bitB at hb; exact eq_of_beq hb), if_pos (by omega), hw]
      | false =>
        have := ih (v + 1) acc (by omega) (by omega) (by omega)
        rw [if_neg Bool.false_ne_true]
        refine Ev.step (fun k => ?_) this
        simp only [QN.impl_vertices.l0]
        rw [if_pos (by omega), if_pos (by omega), shr_v hv6, if_neg (fun e => by unfold bitB at hb; rw [e] at hb; cases hb), hw]
  have := key 6 0 [] rfl (by omega) (by simp)
  rw [List.nil_append] at this
  unfold QN.impl_vertices.f vsN
  rw [List.range_eq_range']
  exact this
theorem rs_any {before : List Int} (hl : before.length ≤ 1048576) {f : Int} (hb : ∀ x ∈ before, 0 ≤ x ∧ x ≤ 63) {v : Nat} (hv' : v < 6) :
    slices_ContainsFunc_int64_int64.f before (QN.clo_91 f (v : Int)) = some (before.any fun g => nI (nI f (2 ^ v)) g == 0) := by
  obtain ⟨t1, _, q1⟩ := ofI_face (f := fun x => QN.impl_RestrictionsOf_1.f x f (v : Int)) (p := fun g => nI (nI f (2 ^ v)) g == 0) fun g g0 g6 => by
    unfold QN.impl_RestrictionsOf_1.f impl_isIn.f
    rw [if_pos (by omega), shl_v2 hv', if_pos trivial]; rfl
  unfold slices_ContainsFunc_int64_int64.f
  rw [if_pos ⟨by omega, t1, okDomN hb _⟩]
  exact congrArg some (any_congr_mem fun w hw => q1 w (hb w hw).1 (hb w hw).2)
def restrL (ls : List Int) : List Int := (List.range ls.length).map fun m => restr (ls.take m) (ls.getD m 0)
section
variable {ls acc : List Int} {i : Nat} {D : List Int × Int}
theorem rs_l1 (hl : ls.length ≤ 1048576) (hi : i < ls.length) (ha : acc.length ≤ 1048576) (hb : ∀ x ∈ ls, 0 ≤ x ∧ x ≤ 63) {f : Int} (vs : List Nat) (hvs : ∀ v ∈ vs, v < 6) (hvl : vs.length ≤ 6) (E : Int)
    (hD : Ev (fun k => QN.impl_RestrictionsOf.l0 k ls (acc ++ [E]) ls (ls.length : Int) ((i + 1 : Nat) : Int)) D) :
    ∀ d (j : Nat) (R : Int), vs.length - j = d → j ≤ vs.length → (vs.drop j).foldl (stepP (ls.take i) f) R = E →
      Ev (fun k => QN.impl_RestrictionsOf.l1 k ls acc (i : Int) R ls (ls.length : Int) (i : Int) (vs.map fun v : Nat => (v : Int)) (vs.length : Int) (j : Int) f) D := by
  intro d
  induction d with
  | zero =>
    intro j R hd hj hR
    rw [List.drop_eq_nil_of_le (by omega), List.foldl_nil] at hR
    subst hR
    refine Ev.step (fun k => ?_) hD
    simp only [QN.impl_RestrictionsOf.l1]
    rw [if_neg (by omega), if_pos (by omega), show wrap64 ((i : Int) + 1) = ((i + 1 : Nat) : Int) by rw [w64' (by omega) (by omega)]; omega]
  | succ d ih =>
    intro j R hd hj hR
    have hj' : j < vs.length := by omega
    have hw : wrap64 ((j : Int) + 1) = ((j + 1 : Nat) : Int) := by rw [w64' (by omega) (by omega)]; omega
    have hv6 := hvs _ (List.getElem_mem hj')
    have hjm : j < (vs.map fun v : Nat => (v : Int)).length := by rw [List.length_map]; exact hj'
    have hrd : rd (vs.map fun v : Nat => (v : Int)) (j : Int) = ((vs[j] : Nat) : Int) := by rw [rd_at' hjm, List.getElem_map]
    rw [List.drop_eq_getElem_cons hj', List.foldl_cons] at hR
    have hih := ih (j + 1) _ (by omega) (by omega) hR
    have hany := rs_any (before := ls.take i) (by rw [List.length_take]; omega) (f := f) (fun x hx => hb x (List.mem_of_mem_take hx)) hv6
    generalize vs[j] = v at hv6 hrd hih hany
    unfold stepP at hih
    cases hc : ((ls.take i).any fun g => nI (nI f (2 ^ v)) g == 0) with
    | true =>
      rw [hc, if_pos rfl] at hih
      rw [hc] at hany
      refine Ev.step (fun k => ?_) hih
      simp only [QN.impl_RestrictionsOf.l1]
      rw [if_pos (by omega), if_pos (by omega), if_pos (by omega), if_pos (by omega), if_pos (by omega), hrd, Int.toNat_natCast, hany, Option.bind_some, if_pos rfl, if_pos (by omega), shl_v2 hv6, hw]
    | false =>
      rw [hc, if_neg Bool.false_ne_true] at hih
      rw [hc] at hany
      refine Ev.step (fun k => ?_) hih
      simp only [QN.impl_RestrictionsOf.l1]
      rw [if_pos (by omega), if_pos (by omega), if_pos (by omega), if_pos (by omega), if_pos (by omega), hrd, Int.toNat_natCast, hany, Option.bind_some, if_neg Bool.false_ne_true, hw]
end
theorem vsN_len (f : Int) : (vsN f).length ≤ 6 := Nat.le_trans (List.length_filter_le _ _) (by simp)
theorem vsN_lt (f : Int) : ∀ v ∈ vsN f, v < 6 := fun v hv' => List.mem_range.1 (List.mem_filter.1 hv').1
theorem rs_l0 {ls : List Int} (hl : ls.length ≤ 1048576) (hb : ∀ x ∈ ls, 0 ≤ x ∧ x ≤ 63) : ∀ d (i : Nat) (acc : List Int), ls.length - i = d → i ≤ ls.length → acc.length ≤ i → Ev (fun k => QN.impl_RestrictionsOf.l0 k ls acc ls (ls.length : Int) (i : Int)) (acc ++ (List.range' i (ls.length - i)).map (fun m => restr (ls.take m) (ls.getD m 0)), 0) := by
  intro d
  induction d with
  | zero =>
    intro i acc hd hi ha
    refine Ev.step (f := fun k => some (acc, 0)) (fun k => ?_) (by rw [hd]; simp; exact Ev.now _)
    simp only [QN.impl_RestrictionsOf.l0]
    rw [if_neg (by omega)]
  | succ d ih =>
    intro i acc hd hi ha
    have hi' : i < ls.length := by omega
    have hf := hb _ (List.getElem_mem hi')
    rw [show ls.length - i = (ls.length - (i + 1)) + 1 by omega, List.range'_succ, List.map_cons, getD_lt hi']
    have hn := ih (i + 1) (acc ++ [restr (ls.take i) ls[i]]) (by omega) (by omega) (by rw [List.length_append, List.length_singleton]; omega)
    rw [List.append_assoc, List.singleton_append] at hn
    refine Ev.step (fun k => ?_) (f := fun k => (QN.impl_vertices.f k ls[i]).bind fun t => QN.impl_RestrictionsOf.l1 k ls acc (i : Int) 0 ls (ls.length : Int) (i : Int) t (t.length : Int) 0 ls[i]) ?_
    · simp only [QN.impl_RestrictionsOf.l0]
      rw [if_pos (by omega), if_pos (by omega), if_pos (by omega), rd_at' hi']
    · refine Ev.bind (ev_vertices _) ?_
      rw [List.length_map]
      exact rs_l1 hl hi' (by omega) hb (vsN ls[i]) (vsN_lt _) (vsN_len _) _ hn _ 0 0 rfl (Nat.zero_le _) (by rw [List.drop_zero]; exact prog_restr hf (fun x hx => hb x (List.mem_of_mem_take hx)))
def restrF (n : Int) (xs ls : List Int) : List Int × Int := if isC n xs = true then (if pureB xs = true then (if shOkB xs ls = true then (restrL ls, 0) else ([], 5)) else ([], 5)) else ([], 1)
end Go.Proofs.Ytomdfjohnmikdaa.Pu
namespace Go.Proofs.Ytomdfjohnmikdaa.Pu
set_option linter.unusedVariables false
set_option linter.unusedSimpArgs false
open Go.RowKit Go.Proofs.Ytomdfjohnmikdaa.Ext Go.Proofs.Ytomdfjohnmikdaa.QS Go.Proofs.Ytomdfjohnmikdaa.Im Go.Proofs.Ytomdfjohnmikdaa.QFnExactRestrictionsOf Go.Proofs.YtomdfjohnmikdaaW.PrintWords Go.Proofs.YtomdfjohnmikdaaW.PrintLast Go.Proofs.YtomdfjohnmikdaaW.PrintMore
theorem specSh_2 {n : Int} {xs ls : List Int} (hi : isC n xs = true) (h : shOkB xs ls = true) : specSh (facetsL xs) ls = (true, restrL ls) := by
  have h1 := sh_same (ls := ls) hi
  rw [h] at h1
  unfold specSh at h1 ⊢
  by_cases hlen : ls.length = (facetsL xs).length
  · rw [if_pos hlen] at h1 ⊢
    have h2 := (loop_ok (facetsL xs) ls ls.length 0 []).2 h1
    rw [List.nil_append] at h2
    refine Prod.ext h1 (h2.trans ?_)
    unfold restrL goM
    rw [List.range_eq_range']
    rfl
  · rw [if_neg hlen] at h1
    cases h1
theorem ev_restr (n : Int) {xs ls : List Int} (hx : xs.length ≤ 1048576) (hl : ls.length ≤ 1048576) : Ev (fun k => spec_RestrictionsOf.f k n xs ls) (restrF n xs ls) := by
  unfold spec_RestrictionsOf.f restrF
  refine Ev.bind (ev_is n (by simp only [maxLen]; omega)) ?_
  cases hi : isC n xs with
  | false => simp only [Bool.false_eq_true, if_false]; exact Ev.now _
  | true =>
    simp only [if_true]
    refine Ev.bind (ev_shelling hi hx hl) ?_
    cases hs : shOkB xs ls with
    | true =>
      rw [specSh_2 hi hs]
      simp only [if_true]
      refine Ev.bind (ev_pure hi) ?_
      cases hp : pureB xs with
      | false => simp only [Bool.false_eq_true, if_false]; exact Ev.now _
      | true => simp only [if_true]; exact Ev.now _
    | false =>
      rw [sh_same hi, hs]
      simp only [Bool.false_eq_true, if_false]
      cases hp : pureB xs with
      | false => simp only [Bool.false_eq_true, if_false]; exact Ev.now _
      | true => simp only [if_true]; exact Ev.now _
theorem shOk_rng {n : Int} {xs ls : List Int} (hi : isC n xs = true) (h : shOkB xs ls = true) : ∀ x ∈ ls, 0 ≤ x ∧ x ≤ 63 := by
  unfold shOkB at h
  rw [Bool.and_eq_true] at h
  have he := eq_of_beq h.1
  intro x hx
  have hm : x ∈ facetsL xs := by rw [← he]; exact sort_mem.2 hx
  have := isC_63 hi x (List.mem_filter.1 hm).1
  omega
theorem impl_restr (n : Int) {xs ls : List Int} (hx : xs.length ≤ 1048576) (hl : ls.length ≤ 1048576) : impl_RestrictionsOf.f n xs ls = some (restrF n xs ls) := by
  apply impl_RestrictionsOf.come
  unfold QN.impl_RestrictionsOf.f restrF
  have hcode : impl_complexCode.f n xs (fnp 127) = some (codeOf (isC n xs) true) := by unfold impl_complexCode.f; rw [if_pos ⟨by omega, fun _ => rfl⟩]; rfl
  have hpc : QN.impl_pureCode.f n xs = some (pureZ n xs) := by
    unfold QN.impl_pureCode.f pureZ
    rw [hcode, Option.bind_some]
    cases hi : isC n xs with
    | false => rfl
    | true =>
      unfold impl_Complex_isPure.f
      rw [if_pos hi]
      cases pureB xs <;> rfl
  simp only [hpc, Option.bind_some]
  unfold pureZ
  cases hi : isC n xs with
  | false => simp only [Bool.false_eq_true, if_false]; exact Ev.now _
  | true =>
    cases hp : pureB xs with
    | false => simp only [Bool.false_eq_true, if_false, if_true]; exact Ev.now _
    | true =>
      have hsh : impl_Complex_isShelling.f n xs ls = some (shOkB xs ls) := by unfold impl_Complex_isShelling.f; rw [if_pos (And.intro hi hl)]
      simp only [if_true, hsh, Option.bind_some]
      cases hs : shOkB xs ls with
      | false => simp only [Bool.false_eq_true, if_false]; exact Ev.now _
      | true =>
        simp only [if_true]
        have := rs_l0 hl (shOk_rng hi hs) _ 0 [] rfl (Nat.zero_le _) (Nat.zero_le _)
        rw [List.nil_append, Nat.sub_zero, ← List.range_eq_range'] at this
        exact this
theorem pure_lenR (n : Int) {xs ls : List Int} (hl : ls.length ≤ 1048576) : (restrF n xs ls).1.length ≤ 1048576 := by
  unfold restrF
  split
  · split
    · split
      · simp [restrL]; exact hl
      · simp
    · simp
  · simp
theorem FnExactRestrictionsOf (n0 : Int) (l0 : List Int) (_ : (Lit.int .i64 n0).wf = true) (hm0 : l0.length ≤ maxLen) (_ : ∀ x ∈ l0, (Lit.int .i64 x).wf = true) (l1 : List Int) (hm1 : l1.length ≤ maxLen) (hw1 : ∀ x ∈ l1, (Lit.int .i64 x).wf = true) : ∃ k, laws_FnExactRestrictionsOf.f k n0 l0 l1 = some true := by
  rcases Nat.lt_or_ge 1048576 l1.length with hl1 | hl1
  · refine ⟨0, ?_⟩
    unfold laws_FnExactRestrictionsOf.f
    rw [if_pos (by omega)]
  rcases Nat.lt_or_ge 1048576 l0.length with hl | hl
  · refine ⟨0, ?_⟩
    unfold laws_FnExactRestrictionsOf.f
    rw [if_neg (by omega), sz_big hm0 hl]
    rfl
  · apply Ev.rounds
    obtain ⟨t, ht, ht0⟩ := sz_ok (n := n0) hl
    have hS := ev_restr n0 hl hl1
    have hI := impl_restr n0 hl hl1
    have hR0 := pure_lenR n0 (xs := l0) hl1
    generalize restrF n0 l0 l1 = D at hS hI hR0
    obtain ⟨r1, r2⟩ := D
    simp only at hR0
    unfold laws_FnExactRestrictionsOf.f
    simp only [if_neg (show ¬ (l1.length : Int) > 1048576 by omega), ht, Option.bind_some, if_neg ht0]
    have hca0 : 0 ≤ (1 : Int) ∧ (1 : Int) ≤ 1073741824 := by omega
    have hca1 : 0 ≤ 1 + (l0.length : Int) ∧ 1 + (l0.length : Int) ≤ 1073741824 := by omega
    have hna1 : ¬ (1 + (l0.length : Int) < 0) := by omega
    have hna2 : ¬ (1 + (l0.length : Int) + (l1.length : Int) < 0) := by omega
    have hco0 : 0 ≤ (1 : Int) ∧ (1 : Int) ≤ 1073741824 := by omega
    have hno1 : ¬ (1 + (r1.length : Int) < 0) := by omega
    repeat (first
      | (exact Ev.now _)
      | (refine Ev.bind (ev_toComplex hl) ?_)
      | (refine Ev.bind (ev_toInt hl1) ?_)
      | (refine Ev.bind hS ?_)
      | (refine Ev.bind (ev_eqInt hR0) ?_)
      | (refine Ev.bind (ev_eqInt hl1) ?_)
      | (refine Ev.bind (ev_eqComplex hl) ?_)
      | (refine Ev.bind (ev_markComplex hl hca0) ?_)
      | (refine Ev.bind (ev_mark hl1 hca1) ?_)
      | (refine Ev.bind (ev_mark hR0 hco0) ?_)
      | (refine Ev.bind (ev_held hR0 hco0) ?_)
      | (simp only [hI, Option.bind_some, if_true, bne_self_eq_false, Bool.false_eq_true, if_false, if_neg hna1, if_neg hna2, if_neg hno1]))
end Go.Proofs.Ytomdfjohnmikdaa.Pu
