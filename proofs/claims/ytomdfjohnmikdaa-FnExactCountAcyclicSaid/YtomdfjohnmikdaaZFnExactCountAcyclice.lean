/- Words and lemmas for FnExactCountAcyclic, part 5: what the row's text comes to. -/
import Derived.Test.YtomdfjohnmikdaaProg
import Derived.Below
import Derived.Deep.Draws
import Derived.Deep.AppendLies
import Derived.Maps.AppendAt
import Derived.OwnWalk
import Derived.Laws.BytesArg
import Derived.Laws.MakeOwn
import Derived.Laws.OwnMore
import Derived.Deep.OwnRows
import Derived.Tactics
import Derived.Lib.ConvBytes
import Derived.Laws.Slices
import Derived.WalkKit
import Derived.KernelRfl
import Derived.RowKit3
import Derived.Deep.LoopGhost
import Derived.Deep.QuietTactic
import Derived.BigQuiet
import Derived.WideLaws
import Derived.Deep.DeepCutAuto
import Derived.Deep.CutBlock
import Derived.Deep.RegionHeld3
import Derived.Laws.Rows
import Derived.Lib.AppendStr
import Derived.ArgAppend
import Derived.Laws.IdiomCopy
import Derived.OrdersHeld
import Derived.Laws.BitsLemmas
import Derived.RowKit
import Derived.Test.YtomdfjohnmikdaaZFnExactCountAcyclicd
namespace Go.Proofs.Ytomdfjohnmikdaa.QS
open Go.Proofs.Ytomdfjohnmikdaa.Cw Go.Proofs.Ytomdfjohnmikdaa.Kp Go.Proofs.Ytomdfjohnmikdaa.Ext Go.RowKit Go.Proofs.YtomdfjohnmikdaaW.PrintWords Go.Proofs.YtomdfjohnmikdaaW.PrintLast Go.Proofs.YtomdfjohnmikdaaW.PrintMore
attribute [local go_sem] max2_int min2_int max_two min_two max_three min_three max_four min_four   -- for this text's walks alone
set_option linter.unusedVariables false
set_option linter.unusedSimpArgs false
end Go.Proofs.Ytomdfjohnmikdaa.QS
namespace Go.Proofs.Ytomdfjohnmikdaa.Pu
set_option linter.unusedVariables false
set_option linter.unusedSimpArgs false
open Go.RowKit Go.Proofs.Ytomdfjohnmikdaa.Kp Go.Proofs.Ytomdfjohnmikdaa.Ext Go.Proofs.Ytomdfjohnmikdaa.QS Go.Proofs.YtomdfjohnmikdaaW.PrintWords Go.Proofs.YtomdfjohnmikdaaW.PrintLast Go.Proofs.YtomdfjohnmikdaaW.PrintMore
end Go.Proofs.Ytomdfjohnmikdaa.Pu
namespace Go.Proofs.Ytomdfjohnmikdaa.Ext
set_option linter.unusedVariables false
set_option linter.unusedSimpArgs false
open Go.RowKit Go.Proofs.Ytomdfjohnmikdaa.Im Go.Proofs.Ytomdfjohnmikdaa.Kp Go.Proofs.YtomdfjohnmikdaaW.PrintWords Go.Proofs.YtomdfjohnmikdaaW.PrintLast Go.Proofs.YtomdfjohnmikdaaW.PrintMore
def impl_Complex_isPair.f (a0_0 : Int) (l0_1 : List Int) (a1_0 : Int) (a1_1 : Int) : Option (Bool) := if isC a0_0 l0_1 = true then some (pairB l0_1 ⟨a1_0, a1_1⟩) else none
theorem impl_Complex_isPair.calls (a0_0 : Int) (A0_1 : Option Addr) (c0_1 : Nat) (l0_1 : List Int) (a1_0 : Int) (a1_1 : Int) (r : Bool) (w : World) (hr0_1 : Kd.C (Kd.int .i64) w A0_1 l0_1.length l0_1) (_hc0_1 : l0_1.length ≤ c0_1) (h : impl_Complex_isPair.f a0_0 l0_1 a1_0 a1_1 = some r) :
    Calls Try.prog 114 #[.agg #[.int .i64 a0_0, .slice A0_1 l0_1.length c0_1], .agg #[.int .i64 a1_0, .int .i64 a1_1]] w fun e w' => e = .returned (.bool r) ∧ Below w.heap.size w w' := by
  unfold impl_Complex_isPair.f at h
  by_cases hl : isC a0_0 l0_1 = true
  · rw [if_pos hl] at h
    have hd := Option.some.inj h
    have := isPair_c a0_0 A0_1 c0_1 l0_1 ⟨a1_0, a1_1⟩ w hr0_1 _hc0_1 hl
    rw [hd] at this
    exact this
  · rw [if_neg hl] at h; cases h
end Go.Proofs.Ytomdfjohnmikdaa.Ext
namespace Go.Proofs.Ytomdfjohnmikdaa.Ext
open Go.RowKit Go.Proofs.Ytomdfjohnmikdaa.Im Go.Proofs.Ytomdfjohnmikdaa.Kp Go.Proofs.YtomdfjohnmikdaaW.PrintWords Go.Proofs.YtomdfjohnmikdaaW.PrintLast Go.Proofs.YtomdfjohnmikdaaW.PrintMore
end Go.Proofs.Ytomdfjohnmikdaa.Ext
namespace Go.Proofs.Ytomdfjohnmikdaa.Ext
set_option linter.unusedVariables false
set_option linter.unusedSimpArgs false
open Go.RowKit Go.Proofs.Ytomdfjohnmikdaa.Im Go.Proofs.Ytomdfjohnmikdaa.Kp Go.Proofs.YtomdfjohnmikdaaW.PrintWords Go.Proofs.YtomdfjohnmikdaaW.PrintLast Go.Proofs.YtomdfjohnmikdaaW.PrintMore
end Go.Proofs.Ytomdfjohnmikdaa.Ext
namespace Go.Proofs.Ytomdfjohnmikdaa.QD
open Go.Proofs.Ytomdfjohnmikdaa.Cw Go.Proofs.Ytomdfjohnmikdaa.Kp Go.Proofs.Ytomdfjohnmikdaa.Ext Go.RowKit Go.Proofs.YtomdfjohnmikdaaW.PrintWords Go.Proofs.YtomdfjohnmikdaaW.PrintLast Go.Proofs.YtomdfjohnmikdaaW.PrintMore
attribute [local go_sem] max2_int min2_int max_two min_two max_three min_three max_four min_four   -- for this text's walks alone
set_option linter.unusedVariables false
set_option linter.unusedSimpArgs false
def errW : Option Int → Value
 | none => .nilIface
 | some c => .iface 0 (.int .i64 c)
theorem errW_none : errW none = .nilIface := rfl
theorem errW_some (c : Int) : errW (some c) = .iface 0 (.int .i64 c) := rfl
theorem info73 : (Try.prog.info? 73).map (fun i => (i.zero, i.size, i.bytes)) = some (some (.agg #[(.int .i64 0), (.int .i64 0)]), 2, 16) := by kernel_rfl
end Go.Proofs.Ytomdfjohnmikdaa.QD
namespace Go.Proofs.Ytomdfjohnmikdaa.QD
open Go.Proofs.Ytomdfjohnmikdaa.Cw Go.Proofs.Ytomdfjohnmikdaa.Kp Go.Proofs.Ytomdfjohnmikdaa.Ext Go.RowKit Go.Proofs.YtomdfjohnmikdaaW.PrintWords Go.Proofs.YtomdfjohnmikdaaW.PrintLast Go.Proofs.YtomdfjohnmikdaaW.PrintMore
attribute [local go_sem] max2_int min2_int max_two min_two max_three min_three max_four min_four   -- for this text's walks alone
set_option linter.unusedVariables false
set_option linter.unusedSimpArgs false
mutual
def impl_Complex_pairs.l0 : Nat → List (S73) → List Int → Int → Int → Int → List Int → Option ((List (S73)))
 | 0, _, _, _, _, _, _ => none
 | k + 1, x3, x10, x11, x12, x102000, x102001 => if x12 < x11 then (if 0 ≤ x12 then (if x12 < (x10.length : Int) then (impl_Complex_pairs.l1 k x3 (rd x10 x12) x10 x11 x12 x102001 (x102001.length : Int) 0 x102000 x102001) else (none)) else (none)) else (some x3)
def impl_Complex_pairs.l1 : Nat → List (S73) → Int → List Int → Int → Int → List Int → Int → Int → Int → List Int → Option ((List (S73)))
 | 0, _, _, _, _, _, _, _, _, _, _ => none
 | k + 1, x3, x5, x10, x11, x12, x17, x18, x19, x102000, x102001 => if x19 < x18 then (if 0 ≤ x19 then (if x19 < (x17.length : Int) then ((impl_Complex_isPair.f x102000 x102001 x5 (rd x17 x19)).bind fun t105 => (if t105 = true then (if x3.length < 8796093022208 then (impl_Complex_pairs.l1 k (x3 ++ [(⟨x5, rd x17 x19⟩ : S73)]) x5 x10 x11 x12 x17 x18 (wrap64 (x19 + 1)) x102000 x102001) else (none)) else (impl_Complex_pairs.l1 k x3 x5 x10 x11 x12 x17 x18 (wrap64 (x19 + 1)) x102000 x102001))) else (none)) else (none)) else (impl_Complex_pairs.l0 k x3 x10 x11 (wrap64 (x12 + 1)) x102000 x102001)
end
def impl_Complex_pairs.f (k : Nat) (a0_0 : Int) (l0_1 : List Int) : Option ((List (S73))) := impl_Complex_pairs.l0 k ([] : List (S73)) l0_1 (l0_1.length : Int) 0 a0_0 l0_1
set_option maxHeartbeats 8000000 in
set_option maxRecDepth 100000 in
theorem impl_Complex_pairs.calls (k : Nat) (a0_0 : Int) (A0_1 : Option Addr) (c0_1 : Nat) (l0_1 : List Int) (r : List (S73)) (w : World) (hr0_1 : Kd.C (Kd.int .i64) w A0_1 l0_1.length l0_1) (hc0_1 : l0_1.length ≤ c0_1) (h : impl_Complex_pairs.f k a0_0 l0_1 = some r) :
  Calls Try.prog 67 #[.agg #[.int .i64 a0_0, .slice A0_1 l0_1.length c0_1]] w fun e w' => ∃ v0_ : Value, e = .returned (v0_) ∧ Kd.R k73 73 w' w.heap.size (fun _ => True) v0_ r ∧ Below w.heap.size w w' := by
 have hu28 := Try.underlying28
 have hu73 := Try.underlying73
 have HR0_1 := Aside0.mk hr0_1
 have HC0_1 := Aside0.mk hc0_1
 clear hr0_1 hc0_1
 have HB := Aside0.mk (Below.refl w.heap.size w)
 have H : (impl_Complex_pairs.l0 k ([] : List (S73)) l0_1 (l0_1.length : Int) 0 a0_0 l0_1) = some r := h
 clear h
 have H' := Aside0.mk H
 clear H
 go_enter Try.func67, Try.ntmps67
 go_wp2_with (first | ((with_reducible refine gate_dst (N := 1) rfl ?_); refine box_event ?hg (N := 1) ?hd (cs := #[.int .i64 a0_0, .slice A0_1 l0_1.length c0_1]) (t := 28) ?hr ?_; (case hd => rfl); (case hg => rfl); (case hr => first | (go_simp; done) | (go_simp; rfl)); intro gb101 hg w2 hbox hb; have BK101 := Aside0.mk (hbox); have GW101 := gH HB hg; have GE101 := gH HB hg; replace HB := sH HB hb; clear hb hbox hg; have hcz3_0 : w2.cell? ⟨gb101, 0, none⟩ = some (.int .i64 a0_0) := cB BK101 0; have hcz3_1 : w2.cell? ⟨gb101, 1, none⟩ = some (.slice A0_1 l0_1.length c0_1) := cB BK101 1; have hfz3_0 := zB BK101 0; have hfz3_1 := zB BK101 1))
 go_loopg [3, 12] k (fun kq v3 v12 w' => ∃ (x3_1 : List (S73)) (x12_1 : Int), v12 = .int .i64 x12_1 ∧ Aside0 (impl_Complex_pairs.l0 kq x3_1 l0_1 (l0_1.length : Int) x12_1 a0_0 l0_1 = some r) ∧ Aside0 (kq ≤ k) ∧ Aside0 (Kd.R k73 73 w' w.heap.size (fun _ => True) v3 x3_1) ∧ Aside0 (w'.heap[gb101]? = some (.cells #[.int .i64 a0_0, (.slice A0_1 l0_1.length c0_1)] 28 (0, 0))) ∧ Aside0 (Below w.heap.size w w'))
 case atStart => exact ⟨(([] : List (S73))), (0), (by first | rfl | (simp; done) | (simp [*]; done)), H', ⟨Nat.le_refl _⟩, ⟨by first | exact Kd.R_nil _ _ _ _ _ | exact Kd.N_nil _ _ _ _ _ | exact Kd.V_nil _ _ _ _ _ | exact Kd.Q_nil _ _ _ _ _ | exact Kd.S_nil _ _ _ _ _⟩, ⟨pB BK101⟩, ⟨pH HB⟩⟩
 case round =>
  clear H'
  try clear p2
  try clear hcz3_0
  try clear hcz3_1
  try clear hfz3_0
  try clear hfz3_1
  obtain ⟨x3_1, x12_1, rfl, HA, HK1, HO_3, BK101, HB⟩ := hrel
  cases gk with
  | zero => exact absurd HA.out (by simp [impl_Complex_pairs.l0])
  | succ k1 =>
   have H := HA.out
   clear HA
   simp only [impl_Complex_pairs.l0] at H
   by_cases c4 : x12_1 < (l0_1.length : Int)
   ·rw [if_pos c4] at H
    have c4b0 : decide (x12_1 < (l0_1.length : Int)) = true := decide_eq_true c4
    clear c4
    by_cases c5 : 0 ≤ x12_1
    ·rw [if_pos c5] at H
     have c5b0 : decide (0 ≤ x12_1) = true := decide_eq_true c5
     clear c5
     by_cases c6 : x12_1 < (l0_1.length : Int)
     ·rw [if_pos c6] at H
      have c6b0 : decide (x12_1 < (l0_1.length : Int)) = true := decide_eq_true c6
      clear c6
      have H' := Aside0.mk H
      clear H
      have p102 : 0 ≤ (x12_1 : Int) := of_decide_eq_true (by first | (with_reducible assumption) | assumption)
      have q102 : x12_1 < (l0_1.length : Int) := of_decide_eq_true (by first | (with_reducible assumption) | assumption)
      obtain ⟨ad102, e102, hx102_0⟩ := Kd.at_int HR0_1.out x12_1 p102 q102
      cases e102
      replace hx102_0 := cH HB hx102_0
      replace p102 := eq_true p102
      replace q102 := eq_true q102
      have hcz7_0 : wr.cell? ⟨gb101, 0, none⟩ = some (.int .i64 a0_0) := cB BK101 0
      have hcz7_1 : wr.cell? ⟨gb101, 1, none⟩ = some (.slice (some ad102) l0_1.length c0_1) := cB BK101 1
      have hfz7_0 := zB BK101 0
      have hfz7_1 := zB BK101 1
      go_wp2
      go_loopg [3, 19] k1 (fun kq v3 v19 w' => ∃ (x3_2 : List (S73)) (x19_2 : Int), v19 = .int .i64 x19_2 ∧ Aside0 (impl_Complex_pairs.l1 kq x3_2 (rd l0_1 x12_1) l0_1 (l0_1.length : Int) x12_1 l0_1 (l0_1.length : Int) x19_2 a0_0 l0_1 = some r) ∧ Aside0 (kq ≤ k1) ∧ Aside0 (Kd.R k73 73 w' w.heap.size (fun _ => True) v3 x3_2) ∧ Aside0 (w'.heap[gb101]? = some (.cells #[.int .i64 a0_0, (.slice (some ad102) l0_1.length c0_1)] 28 (0, 0))) ∧ Aside0 (Below w.heap.size w w'))
      case atStart => exact ⟨(x3_1), (0), (by first | rfl | (simp; done) | (simp [*]; done)), H', ⟨Nat.le_refl _⟩, ⟨by (with_reducible repeat (first | apply Kd.R_alloc | apply Kd.R_drewN | apply Kd.R_drew)); exact HO_3.out⟩, ⟨pB BK101⟩, ⟨pH HB⟩⟩
      case round =>
       clear H'
       try clear p1
       try clear q1
       try clear hx1
       try clear p2
       try clear c4
       try clear c4b0
       try clear c5
       try clear c5b0
       try clear c6
       try clear c6b0
       try clear hcz3_0
       try clear hcz3_1
       try clear hcz7_0
       try clear hcz7_1
       try clear hfz3_0
       try clear hfz3_1
       try clear hfz7_0
       try clear hfz7_1
       try clear hx102_0
       try clear p102
       try clear p2
       try clear q102
       obtain ⟨x3_2, x19_2, rfl, HA, HK2, HO_3, BK101, HB⟩ := hrel
       cases gk with
       | zero => exact absurd HA.out (by simp [impl_Complex_pairs.l1])
       | succ k2 =>
        have H := HA.out
        clear HA
        simp only [impl_Complex_pairs.l1] at H
        by_cases c8 : x19_2 < (l0_1.length : Int)
        ·rw [if_pos c8] at H
         have c8b0 : decide (x19_2 < (l0_1.length : Int)) = true := decide_eq_true c8
         clear c8
         by_cases c9 : 0 ≤ x19_2
         ·rw [if_pos c9] at H
          have c9b0 : decide (0 ≤ x19_2) = true := decide_eq_true c9
          clear c9
          by_cases c10 : x19_2 < (l0_1.length : Int)
          ·rw [if_pos c10] at H
           have c10b0 : decide (x19_2 < (l0_1.length : Int)) = true := decide_eq_true c10
           clear c10
           replace H := Option.bind_eq_some_iff.mp H
           obtain ⟨t105, A110, H⟩ := H
           try dsimp only at H
           have A11 := Aside0.mk A110
           clear A110
           by_cases c12 : t105 = true
           ·subst c12
            have H1 : (if x3_2.length < 8796093022208 then (impl_Complex_pairs.l1 k2 (x3_2 ++ [(⟨(rd l0_1 x12_1), rd l0_1 x19_2⟩ : S73)]) (rd l0_1 x12_1) l0_1 (l0_1.length : Int) x12_1 l0_1 (l0_1.length : Int) (wrap64 (x19_2 + 1)) a0_0 l0_1) else (none)) = some r := by rw [if_pos rfl] at H; exact H
            clear H
            have H := H1
            clear H1
            by_cases c13 : x3_2.length < 8796093022208
            ·rw [if_pos c13] at H
             have LMc13 := Aside0.mk c13
             clear c13
             obtain ⟨y106, hy106⟩ : ∃ y_ : List (S73), y_ = (x3_2 ++ [(⟨(rd l0_1 x12_1), rd l0_1 x19_2⟩ : S73)]) := ⟨_, rfl⟩
             replace H : (impl_Complex_pairs.l1 k2 y106 (rd l0_1 x12_1) l0_1 (l0_1.length : Int) x12_1 l0_1 (l0_1.length : Int) (wrap64 (x19_2 + 1)) a0_0 l0_1) = some r := by first | (rw [hy106]; with_reducible exact H) | (have H2_ := (Option.bind_some _ _).symm.trans H; rw [hy106]; with_reducible exact H2_) | (have H2_ := (Option.bind_some _ _).symm.trans H; with_reducible exact H2_) | with_reducible exact H | (rw [hy106]; exact H) | exact H
             have Ny106 := Aside0.mk hy106
             clear hy106
             have H' := Aside0.mk H
             clear H
             have p103 : 0 ≤ (x19_2 : Int) := of_decide_eq_true (by first | (with_reducible assumption) | assumption)
             have q103 : x19_2 < (l0_1.length : Int) := of_decide_eq_true (by first | (with_reducible assumption) | assumption)
             obtain ⟨ad103, e103, hx103_0⟩ := Kd.at_int HR0_1.out x19_2 p103 q103
             obtain rfl : ad102 = ad103 := (by injection e103)
             replace hx103_0 := cH HB hx103_0
             replace p103 := eq_true p103
             replace q103 := eq_true q103
             go_wp2_with (first | ((with_reducible refine gate_dst (N := 8) rfl ?_); refine box_event ?hg (N := 8) ?hd (cs := #[.int .i64 0, .int .i64 0]) (t := 73) ?hr ?_; (case hd => rfl); (case hg => rfl); (case hr => first | (go_simp; done) | (go_simp; rfl)); intro gb104 hg w14 hbox hb; replace HO_3 := Aside0.mk (Kd.R_below (Kd.R_elderB (pR HO_3) gb104 (Nat.le_of_eq hg.symm)) hb); have BK104 := Aside0.mk (hbox); have GW104 := gH HB hg; have GE104 := gH HB hg; replace HB := sH HB hb; have NB101_104 := nB BK101 hg; have NB104_101 := oB BK101 hg; replace BK101 := sB BK101 hb; clear hb hbox hg; (try have hnb15 := NB104_101.out); (try have hnc15 := NB101_104.out); have hcz16_0 : w14.cell? ⟨gb104, 0, none⟩ = some (.int .i64 0) := cB BK104 0; have hcz16_1 : w14.cell? ⟨gb104, 1, none⟩ = some (.int .i64 0) := cB BK104 1; have hfz16_0 := zB BK104 0; have hfz16_1 := zB BK104 1; have hcz17_0 : w14.cell? ⟨gb101, 0, none⟩ = some (.int .i64 a0_0) := cB BK101 0; have hcz17_1 : w14.cell? ⟨gb101, 1, none⟩ = some (.slice (some ad102) l0_1.length c0_1) := cB BK101 1; have hfz17_0 := zB BK101 0; have hfz17_1 := zB BK101 1) | ((with_reducible refine gate_callee (f := 114) rfl ?_); refine cl_ (some 28) Try.func114 #[.agg #[.int .i64 a0_0, .slice (some ad102) l0_1.length c0_1], .agg #[.int .i64 (rd l0_1 x12_1), .int .i64 (rd l0_1 x19_2)]] ?_; (with_reducible refine (impl_Complex_isPair.calls a0_0 _ _ l0_1 (rd l0_1 x12_1) (rd l0_1 x19_2) true _ ?side1 ?side2 A11.out).mono ?_); (case side1 => exact Kd.C_below HR0_1.out (pH HB)); (case side2 => exact HC0_1.out); rintro e w18 ⟨rfl, hb⟩; refine ⟨_, rfl, ?_⟩; have n0_ := Aside0.mk (Kd.R_below (by (with_reducible repeat (first | apply Kd.R_alloc | apply Kd.R_drewN | apply Kd.R_drew)); exact (Kd.R_mono (Kd.R_far (p := ⟨gb104, 1, none⟩) (Kd.R_far (p := ⟨gb104, 0, none⟩) (Kd.R_mono HO_3.out (fun k_ hk => (⟨hk, hk.2⟩ : _ ∧ k_ ≠ gb104))) (fun _ hk => hk.2) (.int .i64 (rd l0_1 x12_1))) (fun _ hk => hk.2) (.int .i64 (rd l0_1 x19_2))) (fun _ h_ => h_.1))) hb); have n1_ := Aside0.mk (blk_below (g := gb101) (o := .cells #[.int .i64 a0_0, .slice (some ad102) l0_1.length c0_1] 28 (0, 0)) (by (with_reducible repeat (first | refine blk_drewN ?_ _ | refine blk_drew ?_ | refine blk_alloc ?_ _)); refine blk_far ?_ NB101_104.out _; (with_reducible repeat (first | refine blk_drewN ?_ _ | refine blk_drew ?_ | refine blk_alloc ?_ _)); refine blk_far ?_ NB101_104.out _; (with_reducible repeat (first | refine blk_drewN ?_ _ | refine blk_drew ?_ | refine blk_alloc ?_ _)); exact BK101.out) hb); have n2_ := Aside0.mk (blk_below (g := gb104) (o := .cells #[.int .i64 (rd l0_1 x12_1), .int .i64 (rd l0_1 x19_2)] 73 (0, 0)) (by (with_reducible repeat (first | refine blk_drewN ?_ _ | refine blk_drew ?_ | refine blk_alloc ?_ _)); refine blk_put (cs := #[.int .i64 (rd l0_1 x12_1), .int .i64 0]) ?_ 1 _ rfl; (with_reducible repeat (first | refine blk_drewN ?_ _ | refine blk_drew ?_ | refine blk_alloc ?_ _)); refine blk_put (cs := #[.int .i64 0, .int .i64 0]) ?_ 0 _ rfl; (with_reducible repeat (first | refine blk_drewN ?_ _ | refine blk_drew ?_ | refine blk_alloc ?_ _)); exact BK104.out) hb); have n3_ := sH HB hb; clear HO_3; clear BK101; clear BK104; clear HB; have HO_3 := n0_; have BK101 := n1_; have BK104 := n2_; have HB := n3_; clear n0_ n1_ n2_ n3_; (try clear hb); (try clear hi); have hcz19_0 : w18.cell? ⟨gb104, 0, none⟩ = some (.int .i64 (rd l0_1 x12_1)) := cB BK104 0; have hcz19_1 : w18.cell? ⟨gb104, 1, none⟩ = some (.int .i64 (rd l0_1 x19_2)) := cB BK104 1; have hfz19_0 := zB BK104 0; have hfz19_1 := zB BK104 1) | ((with_reducible refine gate_builtin (b := .append) (xs := #[.tmp 29, .tmp 31]) rfl ?_); at_builtin; refine Kd.R_append k73 (w0 := w) w.heap.size rfl (.tmp 29) (.tmp 31) 38 73 (.agg #[(.int .i64 0), (.int .i64 0)]) 16 rfl Try.underlying38 info73 rfl (by decide) (by omega) u3 x3_2 (⟨(rd l0_1 x12_1), rd l0_1 x19_2⟩ : S73) [.int .i64 (rd l0_1 x12_1), .int .i64 (rd l0_1 x19_2)] (fun k_ => k_ ≠ gb104) (fun _ => False) rfl rfl ?aP (fun _ hk => hk.elim) ?aF ?aO ?aB ?aS ?aL ?_; (case aP => exact k73_mkM _ _ _ (⟨(rd l0_1 x12_1), rd l0_1 x19_2⟩ : S73)); (case aB => exact (pH HB)); (case aF => exact (fun k_ hk => Kd.freshB (g := gb104) (o := .cells #[.int .i64 (rd l0_1 x12_1), .int .i64 (rd l0_1 x19_2)] 73 (0, 0)) (pB BK104) k_ hk)); (case aO => exact (by (with_reducible repeat (first | apply Kd.R_alloc | apply Kd.R_drewN | apply Kd.R_drew)); exact Kd.R_mono HO_3.out (fun _ hk => hk.2))); (case aS => exact (below_size (pH HB))); (case aL => have := LMc13.out; omega); intro v107 w20 ho hb hg hat; rw [← Ny106.out] at ho; replace BK101 := Aside0.mk (blk_grown (g := gb101) (o := .cells #[.int .i64 a0_0, .slice (some ad102) l0_1.length c0_1] 28 (0, 0)) (pB BK101) hg (Kd.R_ne HO_3.out BK101.out (by decide))); replace BK104 := Aside0.mk (blk_grown (g := gb104) (o := .cells #[.int .i64 (rd l0_1 x12_1), .int .i64 (rd l0_1 x19_2)] 73 (0, 0)) (pB BK104) hg (Kd.R_away HO_3.out (fun _ hk => hk.2))); replace HB := Aside0.mk (hb); have HO108 := Aside0.mk (ho); clear HO_3; clear ho hb hg hat))
             go_roundg k2
             case measure => have := HK1.out; have := HK2.out; omega
             case rel => exact ⟨(y106), (wrap64 (x19_2 + 1)), (by first | rfl | (simp; done) | (simp [*]; done)), H', ⟨by have := HK1.out; have := HK2.out; omega⟩, ⟨by (with_reducible repeat (first | apply Kd.R_alloc | apply Kd.R_drewN | apply Kd.R_drew)); exact Kd.R_mono HO108.out (fun _ hk => trivial)⟩, ⟨pB BK101⟩, ⟨pH HB⟩⟩
            ·rw [if_neg c13] at H
             exact absurd H (by simp)
           ·replace c12 := Bool.eq_false_iff.mpr c12
            subst c12
            have H1 : (impl_Complex_pairs.l1 k2 x3_2 (rd l0_1 x12_1) l0_1 (l0_1.length : Int) x12_1 l0_1 (l0_1.length : Int) (wrap64 (x19_2 + 1)) a0_0 l0_1) = some r := by rw [if_neg (show ¬ (false = true) by decide)] at H; exact H
            clear H
            have H := H1
            clear H1
            have H' := Aside0.mk H
            clear H
            have p103 : 0 ≤ (x19_2 : Int) := of_decide_eq_true (by first | (with_reducible assumption) | assumption)
            have q103 : x19_2 < (l0_1.length : Int) := of_decide_eq_true (by first | (with_reducible assumption) | assumption)
            obtain ⟨ad103, e103, hx103_0⟩ := Kd.at_int HR0_1.out x19_2 p103 q103
            obtain rfl : ad102 = ad103 := (by injection e103)
            replace hx103_0 := cH HB hx103_0
            replace p103 := eq_true p103
            replace q103 := eq_true q103
            go_wp2_with (first | ((with_reducible refine gate_dst (N := 8) rfl ?_); refine box_event ?hg (N := 8) ?hd (cs := #[.int .i64 0, .int .i64 0]) (t := 73) ?hr ?_; (case hd => rfl); (case hg => rfl); (case hr => first | (go_simp; done) | (go_simp; rfl)); intro gb104 hg w21 hbox hb; replace HO_3 := Aside0.mk (Kd.R_below (Kd.R_elderB (pR HO_3) gb104 (Nat.le_of_eq hg.symm)) hb); have BK104 := Aside0.mk (hbox); have GW104 := gH HB hg; have GE104 := gH HB hg; replace HB := sH HB hb; have NB101_104 := nB BK101 hg; have NB104_101 := oB BK101 hg; replace BK101 := sB BK101 hb; clear hb hbox hg; (try have hnb22 := NB104_101.out); (try have hnc22 := NB101_104.out); have hcz23_0 : w21.cell? ⟨gb104, 0, none⟩ = some (.int .i64 0) := cB BK104 0; have hcz23_1 : w21.cell? ⟨gb104, 1, none⟩ = some (.int .i64 0) := cB BK104 1; have hfz23_0 := zB BK104 0; have hfz23_1 := zB BK104 1; have hcz24_0 : w21.cell? ⟨gb101, 0, none⟩ = some (.int .i64 a0_0) := cB BK101 0; have hcz24_1 : w21.cell? ⟨gb101, 1, none⟩ = some (.slice (some ad102) l0_1.length c0_1) := cB BK101 1; have hfz24_0 := zB BK101 0; have hfz24_1 := zB BK101 1) | ((with_reducible refine gate_callee (f := 114) rfl ?_); refine cl_ (some 28) Try.func114 #[.agg #[.int .i64 a0_0, .slice (some ad102) l0_1.length c0_1], .agg #[.int .i64 (rd l0_1 x12_1), .int .i64 (rd l0_1 x19_2)]] ?_; (with_reducible refine (impl_Complex_isPair.calls a0_0 _ _ l0_1 (rd l0_1 x12_1) (rd l0_1 x19_2) false _ ?side1 ?side2 A11.out).mono ?_); (case side1 => exact Kd.C_below HR0_1.out (pH HB)); (case side2 => exact HC0_1.out); rintro e w25 ⟨rfl, hb⟩; refine ⟨_, rfl, ?_⟩; have n0_ := Aside0.mk (Kd.R_below (by (with_reducible repeat (first | apply Kd.R_alloc | apply Kd.R_drewN | apply Kd.R_drew)); exact (Kd.R_mono (Kd.R_far (p := ⟨gb104, 1, none⟩) (Kd.R_far (p := ⟨gb104, 0, none⟩) (Kd.R_mono HO_3.out (fun k_ hk => (⟨hk, hk.2⟩ : _ ∧ k_ ≠ gb104))) (fun _ hk => hk.2) (.int .i64 (rd l0_1 x12_1))) (fun _ hk => hk.2) (.int .i64 (rd l0_1 x19_2))) (fun _ h_ => h_.1))) hb); have n1_ := Aside0.mk (blk_below (g := gb101) (o := .cells #[.int .i64 a0_0, .slice (some ad102) l0_1.length c0_1] 28 (0, 0)) (by (with_reducible repeat (first | refine blk_drewN ?_ _ | refine blk_drew ?_ | refine blk_alloc ?_ _)); refine blk_far ?_ NB101_104.out _; (with_reducible repeat (first | refine blk_drewN ?_ _ | refine blk_drew ?_ | refine blk_alloc ?_ _)); refine blk_far ?_ NB101_104.out _; (with_reducible repeat (first | refine blk_drewN ?_ _ | refine blk_drew ?_ | refine blk_alloc ?_ _)); exact BK101.out) hb); have n2_ := Aside0.mk (blk_below (g := gb104) (o := .cells #[.int .i64 (rd l0_1 x12_1), .int .i64 (rd l0_1 x19_2)] 73 (0, 0)) (by (with_reducible repeat (first | refine blk_drewN ?_ _ | refine blk_drew ?_ | refine blk_alloc ?_ _)); refine blk_put (cs := #[.int .i64 (rd l0_1 x12_1), .int .i64 0]) ?_ 1 _ rfl; (with_reducible repeat (first | refine blk_drewN ?_ _ | refine blk_drew ?_ | refine blk_alloc ?_ _)); refine blk_put (cs := #[.int .i64 0, .int .i64 0]) ?_ 0 _ rfl; (with_reducible repeat (first | refine blk_drewN ?_ _ | refine blk_drew ?_ | refine blk_alloc ?_ _)); exact BK104.out) hb); have n3_ := sH HB hb; clear HO_3; clear BK101; clear BK104; clear HB; have HO_3 := n0_; have BK101 := n1_; have BK104 := n2_; have HB := n3_; clear n0_ n1_ n2_ n3_; (try clear hb); (try clear hi)))
            go_roundg k2
            case measure => have := HK1.out; have := HK2.out; omega
            case rel => exact ⟨(x3_2), (wrap64 (x19_2 + 1)), (by first | rfl | (simp; done) | (simp [*]; done)), H', ⟨by have := HK1.out; have := HK2.out; omega⟩, ⟨by (with_reducible repeat (first | apply Kd.R_alloc | apply Kd.R_drewN | apply Kd.R_drew)); exact Kd.R_mono HO_3.out (fun _ hk => trivial)⟩, ⟨pB BK101⟩, ⟨pH HB⟩⟩
          ·rw [if_neg c10] at H
           exact absurd H (by simp)
         ·rw [if_neg c9] at H
          exact absurd H (by simp)
        ·rw [if_neg c8] at H
         have c8b0 : decide (x19_2 < (l0_1.length : Int)) = false := decide_eq_false c8
         clear c8
         have H' := Aside0.mk H
         clear H
         go_wp2
         go_roundg k2
         case measure => have := HK1.out; have := HK2.out; omega
         case rel => exact ⟨(x3_2), (wrap64 (x12_1 + 1)), (by first | rfl | (simp; done) | (simp [*]; done)), H', ⟨by have := HK1.out; have := HK2.out; omega⟩, ⟨by (with_reducible repeat (first | apply Kd.R_alloc | apply Kd.R_drewN | apply Kd.R_drew)); exact HO_3.out⟩, ⟨pB BK101⟩, ⟨pH HB⟩⟩
     ·rw [if_neg c6] at H
      exact absurd H (by simp)
    ·rw [if_neg c5] at H
     exact absurd H (by simp)
   ·rw [if_neg c4] at H
    have c4b0 : decide (x12_1 < (l0_1.length : Int)) = false := decide_eq_false c4
    clear c4
    obtain rfl := Option.some.inj H
    go_wp2
    go_ret
    exact ⟨_, by first | rfl | (simp [errW_none, errW_some] <;> rfl) | (simp [*, errW_none, errW_some] <;> rfl) | (exfalso; simp_all), by (with_reducible repeat (first | apply Kd.R_alloc | apply Kd.R_drewN | apply Kd.R_drew)); exact HO_3.out, pH HB⟩
def impl_limitCode.f (a0_0 : Int) (l0_1 : List Int) (a1 : Int) : Option (Int) := (impl_complexCode.f a0_0 l0_1 (fnp 127)).bind fun t110 => (if t110 = 0 then (if (l0_1.length : Int) > a1 then (some 3) else (some 0)) else (some t110))
set_option maxHeartbeats 8000000 in
set_option maxRecDepth 100000 in
theorem impl_limitCode.calls (a0_0 : Int) (A0_1 : Option Addr) (c0_1 : Nat) (l0_1 : List Int) (a1 : Int) (r : Int) (w : World) (hr0_1 : Kd.C (Kd.int .i64) w A0_1 l0_1.length l0_1) (hc0_1 : l0_1.length ≤ c0_1) (h : impl_limitCode.f a0_0 l0_1 a1 = some r) :
  Calls Try.prog 77 #[.agg #[.int .i64 a0_0, .slice A0_1 l0_1.length c0_1], .int .i64 a1] w fun e w' => e = .returned (.int .i64 r) ∧ Below w.heap.size w w' := by
 have hu28 := Try.underlying28
 have HR0_1 := Aside0.mk hr0_1
 have HC0_1 := Aside0.mk hc0_1
 clear hr0_1 hc0_1
 have HB := Aside0.mk (Below.refl w.heap.size w)
 have H : ((impl_complexCode.f a0_0 l0_1 (fnp 127)).bind fun t110 => (if t110 = 0 then (if (l0_1.length : Int) > a1 then (some 3) else (some 0)) else (some t110))) = some r := h
 clear h
 replace H := Option.bind_eq_some_iff.mp H
 obtain ⟨t110, A30, H⟩ := H
 try dsimp only at H
 have A3 := Aside0.mk A30
 clear A30
 by_cases c4 : t110 = 0
 ·rw [if_pos c4] at H
  have c4b0 : (t110 == 0) = true := beq_iff_eq.mpr c4
  have c4b1 : (t110 != 0) = false := bne_eq_false_iff_eq.mpr c4
  clear c4
  by_cases c5 : (l0_1.length : Int) > a1
  ·rw [if_pos c5] at H
   have c5b0 : decide (a1 < (l0_1.length : Int)) = true := decide_eq_true c5
   clear c5
   obtain rfl := Option.some.inj H
   go_enter Try.func77, Try.ntmps77
   go_wp2_with (first | ((with_reducible refine gate_dst (N := 2) rfl ?_); refine box_event ?hg (N := 2) ?hd (cs := #[.int .i64 a0_0, .slice A0_1 l0_1.length c0_1]) (t := 28) ?hr ?_; (case hd => rfl); (case hg => rfl); (case hr => first | (go_simp; done) | (go_simp; rfl)); intro gb109 hg w6 hbox hb; have BK109 := Aside0.mk (hbox); have GW109 := gH HB hg; have GE109 := gH HB hg; replace HB := sH HB hb; clear hb hbox hg; have hcz7_0 : w6.cell? ⟨gb109, 0, none⟩ = some (.int .i64 a0_0) := cB BK109 0; have hcz7_1 : w6.cell? ⟨gb109, 1, none⟩ = some (.slice A0_1 l0_1.length c0_1) := cB BK109 1; have hfz7_0 := zB BK109 0; have hfz7_1 := zB BK109 1) | ((with_reducible refine gate_callee (f := 53) rfl ?_); refine cl_ (some 7) Try.func53 #[.agg #[.int .i64 a0_0, .slice A0_1 l0_1.length c0_1], .func (.func 127) #[] #[]] ?_; (with_reducible refine (impl_complexCode.calls a0_0 _ _ l0_1 _ (fnp 127) t110 _ ?side1 ?side2 ?side3 A3.out).mono ?_); (case side1 => exact pC ((Kd.C_below HR0_1.out HB.out))); (case side2 => exact HC0_1.out); (case side3 => exact fnp_ok_127 _); rintro e w8 ⟨rfl, hb⟩; refine ⟨_, rfl, ?_⟩; replace BK109 := sB BK109 hb; replace HB := sH HB hb; (try clear hb); (try clear hi); have hcz9_0 : w8.cell? ⟨gb109, 0, none⟩ = some (.int .i64 a0_0) := cB BK109 0; have hcz9_1 : w8.cell? ⟨gb109, 1, none⟩ = some (.slice A0_1 l0_1.length c0_1) := cB BK109 1; have hfz9_0 := zB BK109 0; have hfz9_1 := zB BK109 1))
   go_ret
   exact ⟨by first | rfl | (simp [errW_none, errW_some] <;> rfl) | (simp [*, errW_none, errW_some] <;> rfl) | (exfalso; simp_all), pH HB⟩
  ·rw [if_neg c5] at H
   have c5b0 : decide (a1 < (l0_1.length : Int)) = false := decide_eq_false c5
   clear c5
   obtain rfl := Option.some.inj H
   go_enter Try.func77, Try.ntmps77
   go_wp2_with (first | ((with_reducible refine gate_dst (N := 2) rfl ?_); refine box_event ?hg (N := 2) ?hd (cs := #[.int .i64 a0_0, .slice A0_1 l0_1.length c0_1]) (t := 28) ?hr ?_; (case hd => rfl); (case hg => rfl); (case hr => first | (go_simp; done) | (go_simp; rfl)); intro gb109 hg w10 hbox hb; have BK109 := Aside0.mk (hbox); have GW109 := gH HB hg; have GE109 := gH HB hg; replace HB := sH HB hb; clear hb hbox hg; have hcz11_0 : w10.cell? ⟨gb109, 0, none⟩ = some (.int .i64 a0_0) := cB BK109 0; have hcz11_1 : w10.cell? ⟨gb109, 1, none⟩ = some (.slice A0_1 l0_1.length c0_1) := cB BK109 1; have hfz11_0 := zB BK109 0; have hfz11_1 := zB BK109 1) | ((with_reducible refine gate_callee (f := 53) rfl ?_); refine cl_ (some 7) Try.func53 #[.agg #[.int .i64 a0_0, .slice A0_1 l0_1.length c0_1], .func (.func 127) #[] #[]] ?_; (with_reducible refine (impl_complexCode.calls a0_0 _ _ l0_1 _ (fnp 127) t110 _ ?side1 ?side2 ?side3 A3.out).mono ?_); (case side1 => exact pC ((Kd.C_below HR0_1.out HB.out))); (case side2 => exact HC0_1.out); (case side3 => exact fnp_ok_127 _); rintro e w12 ⟨rfl, hb⟩; refine ⟨_, rfl, ?_⟩; replace BK109 := sB BK109 hb; replace HB := sH HB hb; (try clear hb); (try clear hi); have hcz13_0 : w12.cell? ⟨gb109, 0, none⟩ = some (.int .i64 a0_0) := cB BK109 0; have hcz13_1 : w12.cell? ⟨gb109, 1, none⟩ = some (.slice A0_1 l0_1.length c0_1) := cB BK109 1; have hfz13_0 := zB BK109 0; have hfz13_1 := zB BK109 1))
   go_ret
   exact ⟨by first | rfl | (simp [errW_none, errW_some] <;> rfl) | (simp [*, errW_none, errW_some] <;> rfl) | (exfalso; simp_all), pH HB⟩
 ·rw [if_neg c4] at H
  have c4b0 : (t110 == 0) = false := beq_eq_false_iff_ne.mpr c4
  have c4b1 : (t110 != 0) = true := bne_iff_ne.mpr c4
  obtain rfl := Option.some.inj H
  go_enter Try.func77, Try.ntmps77
  go_wp2_with (first | ((with_reducible refine gate_dst (N := 2) rfl ?_); refine box_event ?hg (N := 2) ?hd (cs := #[.int .i64 a0_0, .slice A0_1 l0_1.length c0_1]) (t := 28) ?hr ?_; (case hd => rfl); (case hg => rfl); (case hr => first | (go_simp; done) | (go_simp; rfl)); intro gb109 hg w14 hbox hb; have BK109 := Aside0.mk (hbox); have GW109 := gH HB hg; have GE109 := gH HB hg; replace HB := sH HB hb; clear hb hbox hg; have hcz15_0 : w14.cell? ⟨gb109, 0, none⟩ = some (.int .i64 a0_0) := cB BK109 0; have hcz15_1 : w14.cell? ⟨gb109, 1, none⟩ = some (.slice A0_1 l0_1.length c0_1) := cB BK109 1; have hfz15_0 := zB BK109 0; have hfz15_1 := zB BK109 1) | ((with_reducible refine gate_callee (f := 53) rfl ?_); refine cl_ (some 7) Try.func53 #[.agg #[.int .i64 a0_0, .slice A0_1 l0_1.length c0_1], .func (.func 127) #[] #[]] ?_; (with_reducible refine (impl_complexCode.calls a0_0 _ _ l0_1 _ (fnp 127) t110 _ ?side1 ?side2 ?side3 A3.out).mono ?_); (case side1 => exact pC ((Kd.C_below HR0_1.out HB.out))); (case side2 => exact HC0_1.out); (case side3 => exact fnp_ok_127 _); rintro e w16 ⟨rfl, hb⟩; refine ⟨_, rfl, ?_⟩; replace BK109 := sB BK109 hb; replace HB := sH HB hb; (try clear hb); (try clear hi)))
  go_ret
  exact ⟨by first | rfl | (simp [errW_none, errW_some] <;> rfl) | (simp [*, errW_none, errW_some] <;> rfl) | (exfalso; simp_all), pH HB⟩
end Go.Proofs.Ytomdfjohnmikdaa.QD
namespace Go.Proofs.Ytomdfjohnmikdaa.Im
set_option linter.unusedVariables false
set_option linter.unusedSimpArgs false
open Go.RowKit Go.Shelf Go.Proofs.Ytomdfjohnmikdaa.Kp Go.Proofs.Ytomdfjohnmikdaa.Cw Go.Proofs.Ytomdfjohnmikdaa.Ext Go.Proofs.Ytomdfjohnmikdaa.Pu Go.Proofs.YtomdfjohnmikdaaW.PrintWords Go.Proofs.YtomdfjohnmikdaaW.PrintLast Go.Proofs.YtomdfjohnmikdaaW.PrintMore
attribute [local go_sem] run_store_fn
theorem ac_all (w0 : World) (pd pa pk pg : Nat) (F : Value) (n : Int) (A : Option Addr) (c : Nat) (xs : List Int) (va : Value) (all : List Pr) {σ : Type} (upd : σ → List Pr → σ) (Inv : World → σ → Prop) (g : FuncId) (fs lb : Array Value)
    (hdo : DoOk w0 xs F upd Inv g fs lb) (hr : RC w0 A xs.length xs) (hc : xs.length ≤ c) (hi : isC n xs = true) (hal : all.length ≤ 1048576) (d : Nat) : AcOk w0 pd pa pk pg F n A c xs va all upd Inv d :=
  Nat.strongRecOn d fun d ih => ac_step w0 pd pa pk pg F n A c xs va all upd Inv g fs lb hdo hr hc hi hal d ih
set_option maxRecDepth 100000 in
set_option maxHeartbeats 8000000 in
theorem acyclic_c (w0 : World) (F : Value) (n : Int) (A : Option Addr) (c : Nat) (xs : List Int) {σ : Type} (upd : σ → List Pr → σ) (Inv : World → σ → Prop) (g : FuncId) (fs lb : Array Value) (s : σ) (W : World)
    (hdo : DoOk w0 xs F upd Inv g fs lb) (hr : RC w0 A xs.length xs) (hc : xs.length ≤ c) (hi : isC n xs = true) (hin : Inv W s) (hb : Below w0.heap.size w0 W) (kp : Nat) (hkp : QD.impl_Complex_pairs.f kp n xs = some (pairsL xs)) :
    Calls Try.prog 78 #[.agg #[.int .i64 n, .slice A xs.length c], F] W fun e w' => e = .returned (.tuple #[]) ∧ Inv w' ((enumL xs (pairsL xs) []).foldl upd s) ∧ Below w0.heap.size w0 w' := by
  have hF := hdo.eq
  subst hF
  have HX := Aside0.mk ((CxAt.new W n A xs.length c).below (below_alloc (Below.refl _ _) (.cells #[.func (.func g) fs lb] 89)))
  have HB := Aside0.mk (below_alloc (below_alloc (Below.refl W.heap.size W) (.cells #[.int .i64 n, .slice A xs.length c] 28)) (.cells #[.func (.func g) fs lb] 89))
  have HR := Aside0.mk hr
  have HC := Aside0.mk hc
  have HI := Aside0.mk hi
  have HDO := Aside0.mk hdo
  have HIN := Aside0.mk hin
  have HBW := Aside0.mk hb
  have HKP := Aside0.mk hkp
  have hx0 := HX.out.c0
  have hx1 := HX.out.c1
  have hfn : ((W.alloc (.cells #[.int .i64 n, .slice A xs.length c] 28)).alloc (.cells #[.func (.func g) fs lb] 89)).heap[W.heap.size + 1]? = some (.cells #[.func (.func g) fs lb] 89 (0, 0)) := by
    have := heap_alloc_new (W.alloc (.cells #[.int .i64 n, .slice A xs.length c] 28)) (.cells #[.func (.func g) fs lb] 89)
    rw [show (W.alloc (.cells #[.int .i64 n, .slice A xs.length c] 28)).heap.size = W.heap.size + 1 by simp] at this
    exact this
  have HFN := Aside0.mk hfn
  clear hr hc hi hdo hin hb hkp hfn
  go_enter Try.func78, Try.ntmps78
  go_upto_region 4 with (go_at_call 67; refine (QD.impl_Complex_pairs.calls kp n A c xs (pairsL xs) _ (Kd.C_below HR.out (below_in HBW.out HB.out)) HC.out HKP.out).mono ?_; rintro e w1 ⟨va, rfl, hv, hb⟩; have HX1 := Aside0.mk (HX.out.below hb); obtain ⟨Aa, ca, rfl⟩ := Kd.R_slice hv; have HV1 := Aside0.mk hv; have HB1 := Aside0.mk (below_in HB.out hb); have HB1f := Aside0.mk hb; clear hv hb hx0 hx1)
  have hes : ES ((w1.alloc (.cells #[.slice Aa (pairsL xs).length ca] 38)).alloc (.cells #[acV (W.heap.size + 1) w1.heap.size W.heap.size (w1.heap.size + 1)] 123)) w0 (W.heap.size + 1) w1.heap.size W.heap.size (w1.heap.size + 1) (.func (.func g) fs lb) n A c xs.length (.slice Aa (pairsL xs).length ca) (pairsL xs) := by
    have b1 := below_alloc (Below.refl w1.heap.size w1) (.cells #[.slice Aa (pairsL xs).length ca] 38)
    have b2 := below_alloc (Below.refl (w1.alloc (.cells #[.slice Aa (pairsL xs).length ca] 38)).heap.size (w1.alloc (.cells #[.slice Aa (pairsL xs).length ca] 38))) (.cells #[acV (W.heap.size + 1) w1.heap.size W.heap.size (w1.heap.size + 1)] 123)
    have b3 := below_in b1 b2
    have hsz : (w1.alloc (.cells #[.slice Aa (pairsL xs).length ca] 38)).heap.size = w1.heap.size + 1 := by simp
    have hn1 := heap_alloc_new w1 (.cells #[.slice Aa (pairsL xs).length ca] 38)
    have hn2 := heap_alloc_new (w1.alloc (.cells #[.slice Aa (pairsL xs).length ca] 38)) (.cells #[acV (W.heap.size + 1) w1.heap.size W.heap.size (w1.heap.size + 1)] 123)
    rw [hsz] at hn2
    have hf1 := (HB1f.out.block _ (blk_lt HFN.out)).trans HFN.out
    exact ⟨(b3.block _ (blk_lt hf1)).trans hf1, (b2.block _ (blk_lt hn1)).trans hn1, HX1.out.below b3, hn2, Kd.R_below (Kd.R_lower HV1.out (below_in HBW.out HB.out).size) b3, below_in (below_in HBW.out HB1.out) b3⟩
  have hinn := HDO.out.below _ _ _ (HDO.out.below _ _ _ (HDO.out.below _ _ _ HIN.out HB1.out) (below_alloc (Below.refl w1.heap.size w1) (.cells #[.slice Aa (pairsL xs).length ca] 38))) (below_alloc (Below.refl (w1.alloc (.cells #[.slice Aa (pairsL xs).length ca] 38)).heap.size (w1.alloc (.cells #[.slice Aa (pairsL xs).length ca] 38))) (.cells #[acV (W.heap.size + 1) w1.heap.size W.heap.size (w1.heap.size + 1)] 123))
  have hpl := pairs_len HI.out
  have hpn : pairingB xs [] = true := rfl
  have HES := Aside0.mk hes
  have HINN := Aside0.mk hinn
  clear hes hinn
  generalize hW4 : (w1.alloc (.cells #[.slice Aa (pairsL xs).length ca] 38)).alloc (.cells #[acV (W.heap.size + 1) w1.heap.size W.heap.size (w1.heap.size + 1)] 123) = W4 at HES HINN
  clear hW4
  have HCALL := Aside0.mk (ac_all w0 (W.heap.size + 1) w1.heap.size W.heap.size (w1.heap.size + 1) (.func (.func g) fs lb) n A c xs (.slice Aa (pairsL xs).length ca) (pairsL xs) upd Inv g fs lb HDO.out HR.out HC.out HI.out (by omega) ((pairsL xs).length - 0) [] s (.slice none 0 0) 0 W4 HES.out HINN.out (Kd.R_nil _ _ _ _ _) hpn (Nat.zero_le _) rfl)
  have hcg := HES.out.cg
  clear hpn hpl
  go_wp2_with (go_at_call 128; refine HCALL.out.mono ?_; rintro e w6 ⟨rfl, hin, hes, hk⟩; have HIN6 := Aside0.mk hin; have HES6 := Aside0.mk hes; clear hin hes hk HCALL hcg)
  exact bodyPost_end (results_none rfl _ _ _) rfl ⟨rfl, HIN6.out, HES6.out.hb⟩
def CaInv (b : Nat) (W : World) (s : Int) : Prop := W.heap[b]? = some (.cells #[.int .i64 s] 2 (0, 0))
def caUpd (s : Int) (_ : List Pr) : Int := wrap64 (s + 1)
set_option maxRecDepth 100000 in
theorem ca_do (w0 : World) (xs : List Int) (b : Nat) (hb : w0.heap.size ≤ b) : DoOk w0 xs (.func (.func 79) #[] #[.pointer (some ⟨b, 0, none⟩)]) caUpd (CaInv b) 79 #[] #[.pointer (some ⟨b, 0, none⟩)] where
  eq := rfl
  en := fun args w => enters_ Try.func79 (by kernel_rfl) (by rfl) args w
  below := fun W W1 s h hB => (hB.block _ (blk_lt h)).trans h
  call := by
    intro W s v l hin hB hl _
    obtain ⟨Al, cl, rfl⟩ := Kd.R_slice hl
    have hc0 : W.cell? ⟨b, 0, none⟩ = some (.int .i64 s) := (cell_of_row W b 0 _ _ _ hin).trans rfl
    have hf0 : W.frozen? ⟨b, 0, none⟩ = false := blk_frozen hin 0
    have HIN := Aside0.mk hin
    have HB := Aside0.mk hB
    obtain ⟨s1, hs1⟩ : ∃ s1, wrap64 (s + 1) = s1 := ⟨_, rfl⟩
    have hw1 : IntKind.i64.wrap (s + 1) = s1 := by rw [IntKind.wrap_i64]; unfold wrap64 at hs1; omega
    have HS1 := Aside0.mk hs1
    clear hin hB hl hs1
    go_enter Try.func79, Try.ntmps79
    go_wp2
    refine bodyPost_end (results_none rfl _ _ _) rfl ⟨rfl, ?_, KeepT.set' HIN.out (by decide) 0 _, HB.out.setCell (p := ⟨b, 0, none⟩) hb _⟩
    unfold CaInv caUpd
    rw [HS1.out]
    exact blk_put HIN.out 0 _ rfl
def limI (n : Int) (xs : List Int) (m : Int) : Int := if isC n xs = true then (if (xs.length : Int) > m then 3 else 0) else 1
theorem limD_f (n : Int) {xs : List Int} (hx : xs.length ≤ 1048576) (m : Int) : QD.impl_limitCode.f n xs m = some (limI n xs m) := by
  unfold QD.impl_limitCode.f limI
  have hcode : impl_complexCode.f n xs (fnp 127) = some (codeOf (isC n xs) true) := by unfold impl_complexCode.f; rw [if_pos ⟨by omega, fun _ => rfl⟩]; rfl
  rw [hcode, Option.bind_some]
  cases isC n xs with
  | false => rfl
  | true =>
    rw [if_pos (show codeOf true true = 0 from rfl)]
    simp only [if_true]
    split <;> rfl
def countI (n : Int) (xs : List Int) : Int × Int := if limI n xs 13 = 0 then ((enumL xs (pairsL xs) []).foldl caUpd 0, 0) else (0, limI n xs 13)
theorem limI_zero {n : Int} {xs : List Int} {m : Int} (h : limI n xs m = 0) : isC n xs = true := by
  unfold limI at h
  by_cases hi : isC n xs = true
  · exact hi
  · rw [if_neg hi] at h; exact absurd h (by decide)
theorem pairsD_l1 {n : Int} {xs : List Int} (hi : isC n xs = true) {i : Nat} (hil : i < xs.length) (R : List Pr)
    (hR : Ev (fun k => QD.impl_Complex_pairs.l0 k ((xs.take (i + 1)).flatMap (rowP xs)) xs (xs.length : Int) ((i + 1 : Nat) : Int) n xs) R) :
    ∀ d (j : Nat), xs.length - j = d → j ≤ xs.length →
      Ev (fun k => QD.impl_Complex_pairs.l1 k ((xs.take i).flatMap (rowP xs) ++ ((xs.take j).filter (overP xs[i])).map fun g => (⟨xs[i], g⟩ : Pr)) xs[i] xs (xs.length : Int) (i : Int) xs (xs.length : Int) (j : Int) n xs) R := by
  have hx := isC_small hi
  intro d
  induction d with
  | zero =>
    intro j hd hj
    refine Ev.step (fun k => ?_) hR
    simp only [QD.impl_Complex_pairs.l1]
    rw [if_neg (by omega), succ64 (by omega), List.take_of_length_le (by omega : xs.length ≤ j), List.take_succ_eq_append_getElem hil, List.flatMap_append, List.flatMap_singleton]
    rfl
  | succ d ih =>
    intro j hd hj
    have hj' : j < xs.length := by omega
    have hlen : ((xs.take i).flatMap (rowP xs) ++ ((xs.take j).filter (overP xs[i])).map (fun g => (⟨xs[i], g⟩ : Pr))).length < 8796093022208 := by
      have h1 := flat_len (xs := xs) (xs.take i)
      have h2 : (xs.take i).length * xs.length ≤ 63 * 63 := Nat.mul_le_mul (by rw [List.length_take]; omega) hx
      have h3 : ((xs.take j).filter (overP xs[i])).length ≤ (xs.take j).length := List.length_filter_le _ _
      rw [List.length_take] at h3
      rw [List.length_append, List.length_map]
      omega
    have hpr : impl_Complex_isPair.f n xs xs[i] xs[j] = some (overP xs[i] xs[j]) := by
      unfold impl_Complex_isPair.f
      rw [if_pos hi, pair_over hi (List.getElem_mem hil) (List.getElem_mem hj')]
    have hih := ih (j + 1) (by omega) (by omega)
    rw [List.take_succ_eq_append_getElem hj', List.filter_append, List.map_append, ← List.append_assoc] at hih
    cases ho : overP xs[i] xs[j] with
    | true =>
      rw [show ([xs[j]].filter (overP xs[i])).map (fun g => (⟨xs[i], g⟩ : Pr)) = [⟨xs[i], xs[j]⟩] by simp [ho]] at hih
      refine Ev.step (fun k => ?_) hih
      simp only [QD.impl_Complex_pairs.l1]
      rw [if_pos (by omega), if_pos (by omega), if_pos (by omega), rd_at hj', hpr, ho, succ64 (by omega)]
      simp only [Option.bind_some, if_true]
      rw [if_pos hlen]
    | false =>
      rw [show ([xs[j]].filter (overP xs[i])).map (fun g => (⟨xs[i], g⟩ : Pr)) = [] by simp [ho], List.append_nil] at hih
      refine Ev.step (fun k => ?_) hih
      simp only [QD.impl_Complex_pairs.l1]
      rw [if_pos (by omega), if_pos (by omega), if_pos (by omega), rd_at hj', hpr, ho, succ64 (by omega)]
      simp only [Option.bind_some, Bool.false_eq_true, if_false]
theorem pairsD_l0 {n : Int} {xs : List Int} (hi : isC n xs = true) : ∀ d (i : Nat), xs.length - i = d → i ≤ xs.length → Ev (fun k => QD.impl_Complex_pairs.l0 k ((xs.take i).flatMap (rowP xs)) xs (xs.length : Int) (i : Int) n xs) (pairsL xs) := by
  have hx := isC_small hi
  intro d
  induction d with
  | zero =>
    intro i hd hil
    refine Ev.step (f := fun k => some (pairsL xs)) (fun k => ?_) (Ev.now _)
    simp only [QD.impl_Complex_pairs.l0]
    rw [if_neg (by omega), List.take_of_length_le (by omega)]
    rfl
  | succ d ih =>
    intro i hd hil
    have hil' : i < xs.length := by omega
    have := pairsD_l1 hi hil' (pairsL xs) (ih (i + 1) (by omega) (by omega)) _ 0 rfl (Nat.zero_le _)
    simp only [List.take_zero, List.filter_nil, List.map_nil, List.append_nil] at this
    refine Ev.step (fun k => ?_) this
    simp only [QD.impl_Complex_pairs.l0]
    rw [if_pos (by omega), if_pos (by omega), if_pos (by omega), rd_at hil']
    rfl
theorem ev_pairsD {n : Int} {xs : List Int} (hi : isC n xs = true) : Ev (fun k => QD.impl_Complex_pairs.f k n xs) (pairsL xs) := by
  unfold QD.impl_Complex_pairs.f
  have := pairsD_l0 hi _ 0 rfl (Nat.zero_le _)
  simpa using this
set_option maxRecDepth 100000 in
set_option maxHeartbeats 8000000 in
theorem countI_c (n : Int) (A : Option Addr) (c : Nat) (xs : List Int) (w : World) (hr : RC w A xs.length xs) (hc : xs.length ≤ c) (hx : xs.length ≤ 1048576) :
    Calls Try.prog 33 #[.agg #[.int .i64 n, .slice A xs.length c]] w fun e w' => e = .returned (.tuple #[.int .i64 (countI n xs).1, .int .i64 (countI n xs).2]) ∧ Below w.heap.size w w' := by
  have HX := Aside0.mk (CxAt.new w n A xs.length c)
  have HB := Aside0.mk (below_alloc (Below.refl w.heap.size w) (.cells #[.int .i64 n, .slice A xs.length c] 28))
  have HR := Aside0.mk hr
  have HC := Aside0.mk hc
  have hx0 := HX.out.c0
  have hx1 := HX.out.c1
  have HKL := Aside0.mk (limD_f n hx 13)
  obtain ⟨R, hR⟩ : ∃ R, countI n xs = R := ⟨_, rfl⟩
  rw [hR]
  clear hr hc
  by_cases hz : limI n xs 13 = 0
  · have hi := limI_zero hz
    obtain rfl : R = ((enumL xs (pairsL xs) []).foldl caUpd 0, 0) := by rw [← hR]; unfold countI; rw [if_pos hz]
    rw [hz] at HKL
    have HI := Aside0.mk hi
    obtain ⟨kp, hkp⟩ := (ev_pairsD hi).rounds
    have HKP := Aside0.mk hkp
    clear hz hi hR hkp
    go_enter Try.func33, Try.ntmps33
    go_upto_region 5 with (go_at_call 77; refine (QD.impl_limitCode.calls n A c xs 13 0 _ (Kd.C_below HR.out HB.out) HC.out HKL.out).mono ?_; rintro e w1 ⟨rfl, hb⟩; have HB1 := Aside0.mk (below_in HB.out hb); have HX1 := Aside0.mk (HX.out.below hb); clear hb hx0 hx1)
    have HX2 := Aside0.mk (HX1.out.below (below_alloc (Below.refl w1.heap.size w1) (.cells #[.int .i64 0] 2)))
    have HB2 := Aside0.mk (below_in HB1.out (below_alloc (Below.refl w1.heap.size w1) (.cells #[.int .i64 0] 2)))
    have HN2 : Aside0 (CaInv w1.heap.size (w1.alloc (.cells #[.int .i64 0] 2)) 0) := ⟨heap_alloc_new w1 _⟩
    generalize w1.alloc (.cells #[.int .i64 0] 2) = w2 at HX2 HB2 HN2 ⊢
    have hy0 := HX2.out.c0
    have hy1 := HX2.out.c1
    have HCA := Aside0.mk (acyclic_c w (.func (.func 79) #[] #[.pointer (some ⟨w1.heap.size, 0, none⟩)]) n A c xs caUpd (CaInv w1.heap.size) 79 #[] #[.pointer (some ⟨w1.heap.size, 0, none⟩)] 0 w2 (ca_do w xs w1.heap.size HB1.out.size) HR.out HC.out HI.out HN2.out HB2.out kp HKP.out)
    go_wp2_with (go_at_call 78; refine HCA.out.mono ?_; rintro e w3 ⟨rfl, hin, hb⟩; have HB3 := Aside0.mk hb; have hcm : w3.cell? ⟨w1.heap.size, 0, none⟩ = some (.int .i64 ((enumL xs (pairsL xs) []).foldl caUpd 0)) := (cell_of_row w3 w1.heap.size 0 _ _ _ hin).trans rfl; clear hin hb HCA hy0 hy1)
    go_ret2
    exact ⟨rfl, HB3.out⟩
  · obtain rfl : R = (0, limI n xs 13) := by rw [← hR]; unfold countI; rw [if_neg hz]
    obtain ⟨z, hzz⟩ : ∃ z, limI n xs 13 = z := ⟨_, rfl⟩
    rw [hzz] at HKL hz ⊢
    have hz1 : (z == 0) = false := beq_eq_false_iff_ne.2 hz
    clear hR hzz
    go_enter Try.func33, Try.ntmps33
    go_wp2_with (go_at_call 77; refine (QD.impl_limitCode.calls n A c xs 13 z _ (Kd.C_below HR.out HB.out) HC.out HKL.out).mono ?_; rintro e w1 ⟨rfl, hb⟩; have HB1 := Aside0.mk (below_in HB.out hb); clear hb)
    go_ret2
    exact ⟨rfl, HB1.out⟩
end Go.Proofs.Ytomdfjohnmikdaa.Im
namespace Go.Proofs.Ytomdfjohnmikdaa.Im
set_option linter.unusedVariables false
set_option linter.unusedSimpArgs false
open Go.RowKit Go.Shelf Go.Proofs.Ytomdfjohnmikdaa.Cw Go.Proofs.YtomdfjohnmikdaaW.PrintWords Go.Proofs.YtomdfjohnmikdaaW.PrintLast Go.Proofs.YtomdfjohnmikdaaW.PrintMore
/-- A value of one cell, as it lies. -/
def kV : Kd Value where
  sz := 1
  E := []
  K := fun _ x cs => cs = [x] ∧ x.oneCell' = true
  M := fun _ _ _ x cs => cs = [x] ∧ x.oneCell' = true
  K_len := by rintro w x cs ⟨rfl, _⟩; rfl
  K_one := by rintro w x cs ⟨rfl, h⟩ u hu; rw [List.mem_singleton.1 hu]; exact h
  K_below := fun _ h => h
  K_of_M := fun h => h
  M_mono := fun _ h => h
  M_bound := fun h => h
  M_move := fun _ h => h
  M_lower := fun _ h => h
/-- The outer row, of one's own. -/
abbrev VO (w : World) (base : Nat) (v : Value) (vs : List Value) : Prop := Kd.R kV 22 w base (fun _ => True) v vs
theorem infoV : (Try.prog.info? 22).map (fun i => (i.zero, i.size, i.bytes)) = some (some (.slice none 0 0), 1, 24) := by kernel_rfl
section
variable {ops : Array Oper} {rest : List Oper} {o : Oper} {a : Act} {Q : Exit → Act → World → Prop}
/-- append(v, ys...) to an outer row of the call's own; behind 'at_builtin'. -/
theorem apVs {w0 W : World} (base : Nat) (hgd : o.guard = none) (s x : Operand)
    (ho : o.op = .call { callee := .builtin .append, args := #[s, x], argTypes := #[53, 53] })
    (v : Value) (xs ys : List Value) (A : Option Addr) (m c : Nat)
    (hs : a.eval s = v) (hx : a.eval x = .slice A m c) (HO : VO W base v xs) (HR : Kd.C kV W A m ys) (HB : Below base w0 W) (hbase : base ≤ W.heap.size) (hl : xs.length + m ≤ 1099511627776)
    (h : ∀ v1 w1, VO w1 base v1 (xs ++ ys) → Below base w0 w1 → W.grownBy w1 v.ownBlock → (v1.ownBlock = v.ownBlock ∨ ∃ b, v1.ownBlock = some b ∧ W.heap.size ≤ b) → wpList Try.prog ops Q rest (a.put o.dst v1) w1) :
    wpList Try.prog ops Q (o :: rest) a W :=
  Kd.R_append_rows kV base hgd s x 53 22 (.slice none 0 0) 24 ho Try.underlying53 infoV rfl (by decide) (by decide) v xs ys A m c (fun _ => True) (fun _ => False) hs hx HO HR
    (fun x cs h => h) (fun _ h => h.elim) (fun _ _ => trivial) HB hbase (by omega) h
end
theorem VO.slice {w : World} {base : Nat} {v : Value} {vs : List Value} (h : VO w base v vs) : ∃ A c, v = .slice A vs.length c := Kd.R_slice h
theorem VO.reads {w : World} {base : Nat} {A : Option Addr} {n c : Nat} {vs : List Value} (h : VO w base (.slice A n c) vs) : n = vs.length ∧ n ≤ c ∧ Kd.C kV w A vs.length vs := Kd.R_reads' h
theorem VC.cell {w : World} {A : Option Addr} {n : Nat} {vs : List Value} (h : Kd.C kV w A n vs) {i : Nat} (hi : i < vs.length) : ∃ ad, A = some ad ∧ w.cell? (ad.add i) = some vs[i] := by
  obtain ⟨ad, c, hA, _, ⟨rfl, _⟩, hc⟩ := Kd.C_get h (.slice none 0 0) (i : Int) (by omega) (by have := h.1; omega)
  refine ⟨ad, hA, ?_⟩
  have := hc 0 _ rfl
  rw [show ((i : Int)).toNat * kV.sz + 0 = i by simp [kV], show ((i : Int)).toNat = i by omega, List.getD_eq_getElem?_getD, List.getElem?_eq_getElem hi] at this
  exact this
theorem VO.made (w : World) (base cap : Nat) (cur : Array Value) (hb : base ≤ w.heap.size) (hm : cap ≤ maxLen) (hs : cur.size = cap) : VO (w.alloc (.cells cur 22)) base (.slice (some ⟨w.heap.size, 0, none⟩) 0 cap) [] :=
  ⟨fun _ _ => trivial, [], World.ownsRow_made w cur cap hb hm (by rw [hs]; exact (Nat.mul_one _).symm), Reps.none _ _⟩
theorem VO.one (w : World) (base : Nat) (u : Value) (hu : u.oneCell' = true) (hb : base ≤ w.heap.size) : VO (w.alloc (.cells #[u] 22)) base (.slice (some ⟨w.heap.size, 0, none⟩) 1 1) [u] := by
  refine ⟨fun _ _ => trivial, [u], ⟨rfl, .inr ⟨w.heap.size, 1, #[u], rfl, hb, heap_alloc_new w _, Nat.le_refl _, by simp [maxLen], rfl, rfl⟩⟩, rfl, fun j p hj => ?_⟩
  rcases j with _ | j
  · obtain rfl : u = p := by simpa using hj
    exact ⟨rfl, hu⟩
  · simp at hj
theorem VC.none (w : World) (A : Option Addr) : Kd.C kV w A 0 [] := ⟨rfl, by simp, fun h => absurd h (Nat.lt_irrefl _)⟩
/-- The inner rows. -/
def VI (w : World) (base : Nat) (vs : List Value) (M : List (List Int)) : Prop := vs.length = M.length ∧ ∀ i (h1 : i < vs.length) (h2 : i < M.length), RO w base vs[i] M[i]
section
variable {w w1 : World} {base base' : Nat} {vs : List Value} {M : List (List Int)}
theorem RO.moveI {v : Value} {xs : List Int} (h : RO w base v xs) (hm : ∀ (k : Nat) (cells : Array Value), w.heap[k]? = some (.cells cells 2 (0, 0)) → w1.heap[k]? = w.heap[k]?) : RO w1 base v xs :=
  Kd.R_mono (Kd.R_step (Kd.R_bound h) (fun k ho _ => by
    obtain ⟨_, _, _, q, hq, cells, hc⟩ := ho
    have hq' : q = 2 := by simpa [Kd.int, Kd.scalar] using hq
    subst hq'
    exact hm k cells hc)) (fun _ _ => trivial)
theorem VI.nil (w : World) (base : Nat) : VI w base [] [] := ⟨rfl, fun i h => absurd h (Nat.not_lt_zero _)⟩
theorem VI.move (h : VI w base vs M) (hm : ∀ (k : Nat) (cells : Array Value), w.heap[k]? = some (.cells cells 2 (0, 0)) → w1.heap[k]? = w.heap[k]?) : VI w1 base vs M := ⟨h.1, fun i h1 h2 => RO.moveI (h.2 i h1 h2) hm⟩
theorem VI.below (h : VI w base vs M) (hb : Below w.heap.size w w1) : VI w1 base vs M := h.move fun k cells hk => hb.block k (blk_lt hk)
theorem VI.take (h : VI w base vs M) (m : Nat) : VI w base (vs.take m) (M.take m) := ⟨by rw [List.length_take, List.length_take, h.1], fun i h1 h2 => by
  rw [List.getElem_take, List.getElem_take]
  exact h.2 i _ _⟩
theorem VI.drop (h : VI w base vs M) (m : Nat) : VI w base (vs.drop m) (M.drop m) := ⟨by rw [List.length_drop, List.length_drop, h.1], fun i h1 h2 => by
  rw [List.getElem_drop, List.getElem_drop]
  exact h.2 _ _ _⟩
theorem VI.append {us : List Value} {N : List (List Int)} (h : VI w base vs M) (h' : VI w base us N) : VI w base (vs ++ us) (M ++ N) := ⟨by rw [List.length_append, List.length_append, h.1, h'.1], fun i h1 h2 => by
  by_cases hi : i < vs.length
  · rw [List.getElem_append_left hi, List.getElem_append_left (by rw [← h.1]; exact hi)]
    exact h.2 i _ _
  · rw [List.getElem_append_right (by omega), List.getElem_append_right (by rw [← h.1]; omega)]
    simp only [h.1]
    exact h'.2 _ (by rw [List.length_append] at h1; have := h.1; omega) _⟩
theorem VI.one {v : Value} {xs : List Int} (h : RO w base v xs) : VI w base [v] [xs] := ⟨rfl, fun i h1 h2 => by
  obtain rfl : i = 0 := by simp at h1; exact h1
  exact h⟩
/-- An outer row grows: the inner rows stay. -/
theorem VI.grown {base2 : Nat} {v : Value} {us : List Value} (h : VI w base vs M) (ho : VO w base2 v us) (hg : w.grownBy w1 v.ownBlock) : VI w1 base vs M := h.move fun k cells hk => hg.block k (blk_lt hk) (fun e => by
  obtain ⟨inner, hown⟩ := Kd.R_own ho
  obtain ⟨cs, hc⟩ := own_typed hown k e.symm
  rw [hk] at hc
  injection hc with hc
  injection hc with _ hc
  revert hc
  decide)
end
end Go.Proofs.Ytomdfjohnmikdaa.Im
namespace Go.Proofs.Ytomdfjohnmikdaa.Im
set_option linter.unusedVariables false
set_option linter.unusedSimpArgs false
open Go.RowKit Go.Shelf Go.Proofs.Ytomdfjohnmikdaa.Kp Go.Proofs.Ytomdfjohnmikdaa.Ext Go.Proofs.Ytomdfjohnmikdaa.Cw Go.Proofs.YtomdfjohnmikdaaW.PrintWords Go.Proofs.YtomdfjohnmikdaaW.PrintLast Go.Proofs.YtomdfjohnmikdaaW.PrintMore
def ssC (n : Int) (A : Option Addr) (c len : Nat) (va vb : Value) (count most top : Int) (whole : Bool) (vf : Value) : Array Value := #[.int .i64 n, .slice A len c, va, vb, .int .i64 count, .int .i64 most, .int .i64 top, .bool whole, vf]
structure SS (W w0 : World) (y : Nat) (n : Int) (A : Option Addr) (c len : Nat) (va : Value) (all : List Pr) (vb : Value) (best : List Pr) (count most top : Int) (whole : Bool) (vf : Value) (vs : List Value) (found : List (List Int)) : Prop where
  b : W.heap[y]? = some (.cells (ssC n A c len va vb count most top whole vf) 85 (0, 0))
  y0 : w0.heap.size ≤ y
  ra : PO W w0.heap.size va all
  rb : PO W w0.heap.size vb best
  rv : VO W w0.heap.size vf vs
  ri : VI W w0.heap.size vs found
  hb : Below w0.heap.size w0 W
theorem VI.set {w : World} {base : Nat} {vs : List Value} {M : List (List Int)} (h : VI w base vs M) {g t : Nat} {cells : Array Value} (hb : w.heap[g]? = some (.cells cells t (0, 0))) (ht : 2 ≠ t) (j : Nat) (u : Value) : VI (w.setCell ⟨g, j, none⟩ u) base vs M :=
  h.move fun k cells' hk => Below.heap_setCell w ⟨g, j, none⟩ u k (blk_ne hk hb ht)
theorem KeepT.set {w : World} {g t : Nat} {cells : Array Value} (hb : w.heap[g]? = some (.cells cells t (0, 0))) (ht : t ∉ [73, 38, 28, 89, 123]) (j : Nat) (u : Value) : KeepT w (w.setCell ⟨g, j, none⟩ u) :=
  ⟨by simp, fun k cells' t' ht' hk => (Below.heap_setCell w ⟨g, j, none⟩ u k (blk_ne hk hb (fun e => ht (e ▸ ht')))).trans hk⟩
section
variable {W W1 w0 : World} {y : Nat} {n : Int} {A : Option Addr} {c len : Nat} {va : Value} {all : List Pr} {vb : Value} {best : List Pr} {count most top : Int} {whole : Bool} {vf : Value} {vs : List Value} {found : List (List Int)}
theorem SS.below (h : SS W w0 y n A c len va all vb best count most top whole vf vs found) (hb : Below W.heap.size W W1) : SS W1 w0 y n A c len va all vb best count most top whole vf vs found :=
  ⟨(hb.block _ (blk_lt h.b)).trans h.b, h.y0, Kd.R_below h.ra hb, Kd.R_below h.rb hb, Kd.R_below h.rv hb, h.ri.below hb, below_in h.hb hb⟩
theorem SS.drew (h : SS W w0 y n A c len va all vb best count most top whole vf vs found) : SS W.drew w0 y n A c len va all vb best count most top whole vf vs found := h.below (below_drew (Below.refl _ _))
theorem SS.keep (h : SS W w0 y n A c len va all vb best count most top whole vf vs found) (j : Nat) (u : Value) : KeepT W (W.setCell ⟨y, j, none⟩ u) := KeepT.set h.b (by decide) j u
theorem SS.c0 (h : SS W w0 y n A c len va all vb best count most top whole vf vs found) : W.cell? ⟨y, 0, none⟩ = some (.int .i64 n) := (cell_of_row W y 0 _ _ _ h.b).trans rfl
theorem SS.c1 (h : SS W w0 y n A c len va all vb best count most top whole vf vs found) : W.cell? ⟨y, 1, none⟩ = some (.slice A len c) := (cell_of_row W y 1 _ _ _ h.b).trans rfl
theorem SS.c2 (h : SS W w0 y n A c len va all vb best count most top whole vf vs found) : W.cell? ⟨y, 2, none⟩ = some va := (cell_of_row W y 2 _ _ _ h.b).trans rfl
theorem SS.c3 (h : SS W w0 y n A c len va all vb best count most top whole vf vs found) : W.cell? ⟨y, 3, none⟩ = some vb := (cell_of_row W y 3 _ _ _ h.b).trans rfl
theorem SS.c4 (h : SS W w0 y n A c len va all vb best count most top whole vf vs found) : W.cell? ⟨y, 4, none⟩ = some (.int .i64 count) := (cell_of_row W y 4 _ _ _ h.b).trans rfl
theorem SS.c5 (h : SS W w0 y n A c len va all vb best count most top whole vf vs found) : W.cell? ⟨y, 5, none⟩ = some (.int .i64 most) := (cell_of_row W y 5 _ _ _ h.b).trans rfl
theorem SS.c6 (h : SS W w0 y n A c len va all vb best count most top whole vf vs found) : W.cell? ⟨y, 6, none⟩ = some (.int .i64 top) := (cell_of_row W y 6 _ _ _ h.b).trans rfl
theorem SS.c7 (h : SS W w0 y n A c len va all vb best count most top whole vf vs found) : W.cell? ⟨y, 7, none⟩ = some (.bool whole) := (cell_of_row W y 7 _ _ _ h.b).trans rfl
theorem SS.c8 (h : SS W w0 y n A c len va all vb best count most top whole vf vs found) : W.cell? ⟨y, 8, none⟩ = some vf := (cell_of_row W y 8 _ _ _ h.b).trans rfl
theorem SS.fz (h : SS W w0 y n A c len va all vb best count most top whole vf vs found) (j : Nat) : W.frozen? ⟨y, j, none⟩ = false := blk_frozen h.b j
theorem SS.setCount (h : SS W w0 y n A c len va all vb best count most top whole vf vs found) (x : Int) : SS (W.setCell ⟨y, 4, none⟩ (.int .i64 x)) w0 y n A c len va all vb best x most top whole vf vs found :=
  ⟨blk_put h.b 4 _ rfl, h.y0, Kd.R_set h.ra h.b (by decide) 4 _, Kd.R_set h.rb h.b (by decide) 4 _, Kd.R_set h.rv h.b (by decide) 4 _, h.ri.set h.b (by decide) 4 _, h.hb.setCell (p := ⟨y, 4, none⟩) h.y0 _⟩
theorem SS.setMost (h : SS W w0 y n A c len va all vb best count most top whole vf vs found) (x : Int) : SS (W.setCell ⟨y, 5, none⟩ (.int .i64 x)) w0 y n A c len va all vb best count x top whole vf vs found :=
  ⟨blk_put h.b 5 _ rfl, h.y0, Kd.R_set h.ra h.b (by decide) 5 _, Kd.R_set h.rb h.b (by decide) 5 _, Kd.R_set h.rv h.b (by decide) 5 _, h.ri.set h.b (by decide) 5 _, h.hb.setCell (p := ⟨y, 5, none⟩) h.y0 _⟩
theorem SS.setBest (h : SS W w0 y n A c len va all vb best count most top whole vf vs found) {v : Value} {l : List Pr} (hv : PO W w0.heap.size v l) : SS (W.setCell ⟨y, 3, none⟩ v) w0 y n A c len va all v l count most top whole vf vs found :=
  ⟨blk_put h.b 3 _ rfl, h.y0, Kd.R_set h.ra h.b (by decide) 3 _, Kd.R_set hv h.b (by decide) 3 _, Kd.R_set h.rv h.b (by decide) 3 _, h.ri.set h.b (by decide) 3 _, h.hb.setCell (p := ⟨y, 3, none⟩) h.y0 _⟩
theorem SS.setFound (h : SS W w0 y n A c len va all vb best count most top whole vf vs found) {v : Value} {us : List Value} {N : List (List Int)} (hv : VO W w0.heap.size v us) (hi : VI W w0.heap.size us N) : SS (W.setCell ⟨y, 8, none⟩ v) w0 y n A c len va all vb best count most top whole v us N :=
  ⟨blk_put h.b 8 _ rfl, h.y0, Kd.R_set h.ra h.b (by decide) 8 _, Kd.R_set h.rb h.b (by decide) 8 _, Kd.R_set hv h.b (by decide) 8 _, hi.set h.b (by decide) 8 _, h.hb.setCell (p := ⟨y, 8, none⟩) h.y0 _⟩
end
end Go.Proofs.Ytomdfjohnmikdaa.Im
namespace Go.Proofs.Ytomdfjohnmikdaa.QS
open Go.Proofs.Ytomdfjohnmikdaa.Cw Go.Proofs.Ytomdfjohnmikdaa.Kp Go.Proofs.Ytomdfjohnmikdaa.Ext Go.RowKit Go.Proofs.YtomdfjohnmikdaaW.PrintWords Go.Proofs.YtomdfjohnmikdaaW.PrintLast Go.Proofs.YtomdfjohnmikdaaW.PrintMore
attribute [local go_sem] max2_int min2_int max_two min_two max_three min_three max_four min_four   -- for this text's walks alone
set_option linter.unusedVariables false
set_option linter.unusedSimpArgs false
def spec_l08Less.l0 : Nat → List Int → List Int → Int → Option (Bool)
 | 0, _, _, _ => none
 | k + 1, x0, x1, x5 => if x5 < (x0.length : Int) then (if 0 ≤ x5 then (if x5 < (x1.length : Int) then (if (rd x0 x5) = (rd x1 x5) then (spec_l08Less.l0 k x0 x1 (wrap64 (x5 + 1))) else (some (decide ((rd x0 x5) < (rd x1 x5))))) else (none)) else (none)) else (some false)
def spec_l08Less.f (k : Nat) (l0 : List Int) (l1 : List Int) : Option (Bool) := spec_l08Less.l0 k l0 l1 0
set_option maxHeartbeats 8000000 in
set_option maxRecDepth 100000 in
theorem spec_l08Less.calls (k : Nat) (A0 : Option Addr) (c0 : Nat) (l0 : List Int) (A1 : Option Addr) (c1 : Nat) (l1 : List Int) (r : Bool) (w : World) (hr0 : Kd.C (Kd.int .i64) w A0 l0.length l0) (hc0 : l0.length ≤ c0) (hr1 : Kd.C (Kd.int .i64) w A1 l1.length l1) (hc1 : l1.length ≤ c1) (h : spec_l08Less.f k l0 l1 = some r) :
  Calls Try.prog 193 #[.slice A0 l0.length c0, .slice A1 l1.length c1] w fun e w' => e = .returned (.bool r) ∧ Drawn0 w w' := by
 have HR0 := Aside0.mk hr0
 have HC0 := Aside0.mk hc0
 clear hr0 hc0
 have HR1 := Aside0.mk hr1
 have HC1 := Aside0.mk hc1
 clear hr1 hc1
 have H : (spec_l08Less.l0 k l0 l1 0) = some r := h
 clear h
 have H' := Aside0.mk H
 clear H
 go_enter Try.func193, Try.ntmps193
 go_wp2
 repeat (go_quiet (fail); try go_wp2)
 go_loopg [5] k (fun kq v5 w' => ∃ (x5_1 : Int), v5 = .int .i64 x5_1 ∧ Aside0 (spec_l08Less.l0 kq l0 l1 x5_1 = some r) ∧ Aside0 (kq ≤ k) ∧ Drawn0 w w')
 case atStart => exact ⟨(0), (by first | rfl | (simp; done) | (simp [*]; done)), H', ⟨Nat.le_refl _⟩, by repeat (first | exact Drawn0.refl _ | apply Drawn0.step)⟩
 case round =>
  clear H'
  try clear c1
  try clear p2
  obtain ⟨x5_1, rfl, HA, HK1, ⟨m1, rfl⟩⟩ := hrel
  cases gk with
  | zero => exact absurd HA.out (by simp [spec_l08Less.l0])
  | succ k1 =>
   have H := HA.out
   clear HA
   simp only [spec_l08Less.l0] at H
   by_cases c3 : x5_1 < (l0.length : Int)
   ·rw [if_pos c3] at H
    have c3b0 : decide (x5_1 < (l0.length : Int)) = true := decide_eq_true c3
    clear c3
    by_cases c4 : 0 ≤ x5_1
    ·rw [if_pos c4] at H
     have c4b0 : decide (0 ≤ x5_1) = true := decide_eq_true c4
     clear c4
     by_cases c5 : x5_1 < (l1.length : Int)
     ·rw [if_pos c5] at H
      have c5b0 : decide (x5_1 < (l1.length : Int)) = true := decide_eq_true c5
      clear c5
      by_cases c6 : (rd l0 x5_1) = (rd l1 x5_1)
      ·rw [if_pos c6] at H
       have c6b0 : ((rd l0 x5_1) == (rd l1 x5_1)) = true := beq_iff_eq.mpr c6
       have c6b1 : ((rd l0 x5_1) != (rd l1 x5_1)) = false := bne_eq_false_iff_eq.mpr c6
       clear c6
       have H' := Aside0.mk H
       clear H
       have p432 : 0 ≤ (x5_1 : Int) := of_decide_eq_true (by first | (with_reducible assumption) | assumption)
       have q432 : x5_1 < (l0.length : Int) := of_decide_eq_true (by first | (with_reducible assumption) | assumption)
       obtain ⟨ad432, e432, hx432_0⟩ := Kd.at_int HR0.out x5_1 p432 q432
       cases e432
       replace p432 := eq_true p432
       replace q432 := eq_true q432
       have p433 : 0 ≤ (x5_1 : Int) := of_decide_eq_true (by first | (with_reducible assumption) | assumption)
       have q433 : x5_1 < (l1.length : Int) := of_decide_eq_true (by first | (with_reducible assumption) | assumption)
       obtain ⟨ad433, e433, hx433_0⟩ := Kd.at_int HR1.out x5_1 p433 q433
       cases e433
       replace p433 := eq_true p433
       replace q433 := eq_true q433
       go_wp2
       repeat (go_quiet (fail); try go_wp2)
       go_roundg k1
       case measure => have := HK1.out; omega
       case rel => exact ⟨(wrap64 (x5_1 + 1)), (by first | rfl | (simp; done) | (simp [*]; done)), H', ⟨by have := HK1.out; omega⟩, by repeat (first | exact Drawn0.refl _ | apply Drawn0.step)⟩
      ·rw [if_neg c6] at H
       have c6b0 : ((rd l0 x5_1) == (rd l1 x5_1)) = false := beq_eq_false_iff_ne.mpr c6
       have c6b1 : ((rd l0 x5_1) != (rd l1 x5_1)) = true := bne_iff_ne.mpr c6
       obtain rfl := Option.some.inj H
       have p432 : 0 ≤ (x5_1 : Int) := of_decide_eq_true (by first | (with_reducible assumption) | assumption)
       have q432 : x5_1 < (l0.length : Int) := of_decide_eq_true (by first | (with_reducible assumption) | assumption)
       obtain ⟨ad432, e432, hx432_0⟩ := Kd.at_int HR0.out x5_1 p432 q432
       cases e432
       replace p432 := eq_true p432
       replace q432 := eq_true q432
       have p433 : 0 ≤ (x5_1 : Int) := of_decide_eq_true (by first | (with_reducible assumption) | assumption)
       have q433 : x5_1 < (l1.length : Int) := of_decide_eq_true (by first | (with_reducible assumption) | assumption)
       obtain ⟨ad433, e433, hx433_0⟩ := Kd.at_int HR1.out x5_1 p433 q433
       cases e433
       replace p433 := eq_true p433
       replace q433 := eq_true q433
       have p434 : 0 ≤ (x5_1 : Int) := of_decide_eq_true (by first | (with_reducible assumption) | assumption)
       have q434 : x5_1 < (l0.length : Int) := of_decide_eq_true (by first | (with_reducible assumption) | assumption)
       obtain ⟨ad434, e434, hx434_0⟩ := Kd.at_int HR0.out x5_1 p434 q434
       obtain rfl : ad432 = ad434 := (by injection e434)
       replace p434 := eq_true p434
       replace q434 := eq_true q434
       have p435 : 0 ≤ (x5_1 : Int) := of_decide_eq_true (by first | (with_reducible assumption) | assumption)
       have q435 : x5_1 < (l1.length : Int) := of_decide_eq_true (by first | (with_reducible assumption) | assumption)
       obtain ⟨ad435, e435, hx435_0⟩ := Kd.at_int HR1.out x5_1 p435 q435
       obtain rfl : ad433 = ad435 := (by injection e435)
       replace p435 := eq_true p435
       replace q435 := eq_true q435
       go_wp2
       repeat (go_quiet (fail); try go_wp2)
       go_ret
       exact ⟨by first | rfl | (simp; done) | (simp [*]; done), by repeat (first | exact Drawn0.refl _ | apply Drawn0.step)⟩
     ·rw [if_neg c5] at H
      exact absurd H (by simp)
    ·rw [if_neg c4] at H
     exact absurd H (by simp)
   ·rw [if_neg c3] at H
    have c3b0 : decide (x5_1 < (l0.length : Int)) = false := decide_eq_false c3
    clear c3
    obtain rfl := Option.some.inj H
    go_wp2
    repeat (go_quiet (fail); try go_wp2)
    go_ret
    exact ⟨by first | rfl | (simp; done) | (simp [*]; done), by repeat (first | exact Drawn0.refl _ | apply Drawn0.step)⟩
end Go.Proofs.Ytomdfjohnmikdaa.QS
namespace Go.Proofs.Ytomdfjohnmikdaa.QS
open Go.Proofs.Ytomdfjohnmikdaa.Cw Go.Proofs.Ytomdfjohnmikdaa.Kp Go.Proofs.Ytomdfjohnmikdaa.Ext Go.RowKit Go.Proofs.YtomdfjohnmikdaaW.PrintWords Go.Proofs.YtomdfjohnmikdaaW.PrintLast Go.Proofs.YtomdfjohnmikdaaW.PrintMore
attribute [local go_sem] max2_int min2_int max_two min_two max_three min_three max_four min_four   -- for this text's walks alone
set_option linter.unusedVariables false
set_option linter.unusedSimpArgs false
def spec_l06Same.l0 : Nat → List Int → List Int → Int → Option (Bool)
 | 0, _, _, _ => none
 | k + 1, x0, x1, x5 => if x5 < (x0.length : Int) then (if 0 ≤ x5 then (if x5 < (x1.length : Int) then (if (rd x0 x5) = (rd x1 x5) then (spec_l06Same.l0 k x0 x1 (wrap64 (x5 + 1))) else (some false)) else (none)) else (none)) else (some true)
def spec_l06Same.f (k : Nat) (l0 : List Int) (l1 : List Int) : Option (Bool) := if (l0.length : Int) = (l1.length : Int) then (spec_l06Same.l0 k l0 l1 0) else (some false)
set_option maxHeartbeats 8000000 in
set_option maxRecDepth 100000 in
theorem spec_l06Same.calls (k : Nat) (A0 : Option Addr) (c0 : Nat) (l0 : List Int) (A1 : Option Addr) (c1 : Nat) (l1 : List Int) (r : Bool) (w : World) (hr0 : Kd.C (Kd.int .i64) w A0 l0.length l0) (hc0 : l0.length ≤ c0) (hr1 : Kd.C (Kd.int .i64) w A1 l1.length l1) (hc1 : l1.length ≤ c1) (h : spec_l06Same.f k l0 l1 = some r) :
  Calls Try.prog 70 #[.slice A0 l0.length c0, .slice A1 l1.length c1] w fun e w' => e = .returned (.bool r) ∧ Drawn0 w w' := by
 have HR0 := Aside0.mk hr0
 have HC0 := Aside0.mk hc0
 clear hr0 hc0
 have HR1 := Aside0.mk hr1
 have HC1 := Aside0.mk hc1
 clear hr1 hc1
 have H : (if (l0.length : Int) = (l1.length : Int) then (spec_l06Same.l0 k l0 l1 0) else (some false)) = some r := h
 clear h
 by_cases c3 : (l0.length : Int) = (l1.length : Int)
 ·rw [if_pos c3] at H
  have c3b0 : ((l0.length : Int) == (l1.length : Int)) = true := beq_iff_eq.mpr c3
  have c3b1 : ((l0.length : Int) != (l1.length : Int)) = false := bne_eq_false_iff_eq.mpr c3
  have c3b2 : (l0.length == l1.length) = true := by first | simpa using c3 | (simp at c3 ⊢; omega)
  clear c3
  have H' := Aside0.mk H
  clear H
  go_enter Try.func70, Try.ntmps70
  go_wp2
  repeat (go_quiet (fail); try go_wp2)
  go_loopg [5] k (fun kq v5 w' => ∃ (x5_1 : Int), v5 = .int .i64 x5_1 ∧ Aside0 (spec_l06Same.l0 kq l0 l1 x5_1 = some r) ∧ Aside0 (kq ≤ k) ∧ Drawn0 w w')
  case atStart => exact ⟨(0), (by first | rfl | (simp; done) | (simp [*]; done)), H', ⟨Nat.le_refl _⟩, by repeat (first | exact Drawn0.refl _ | apply Drawn0.step)⟩
  case round =>
   clear H'
   try clear c1
   try clear p2
   try clear c3
   try clear c3b0
   try clear c3b1
   try clear c3b2
   obtain ⟨x5_1, rfl, HA, HK1, ⟨m1, rfl⟩⟩ := hrel
   cases gk with
   | zero => exact absurd HA.out (by simp [spec_l06Same.l0])
   | succ k1 =>
    have H := HA.out
    clear HA
    simp only [spec_l06Same.l0] at H
    by_cases c4 : x5_1 < (l0.length : Int)
    ·rw [if_pos c4] at H
     have c4b0 : decide (x5_1 < (l0.length : Int)) = true := decide_eq_true c4
     clear c4
     by_cases c5 : 0 ≤ x5_1
     ·rw [if_pos c5] at H
      have c5b0 : decide (0 ≤ x5_1) = true := decide_eq_true c5
      clear c5
      by_cases c6 : x5_1 < (l1.length : Int)
      ·rw [if_pos c6] at H
       have c6b0 : decide (x5_1 < (l1.length : Int)) = true := decide_eq_true c6
       clear c6
       by_cases c7 : (rd l0 x5_1) = (rd l1 x5_1)
       ·rw [if_pos c7] at H
        have c7b0 : ((rd l0 x5_1) == (rd l1 x5_1)) = true := beq_iff_eq.mpr c7
        have c7b1 : ((rd l0 x5_1) != (rd l1 x5_1)) = false := bne_eq_false_iff_eq.mpr c7
        clear c7
        have H' := Aside0.mk H
        clear H
        have p397 : 0 ≤ (x5_1 : Int) := of_decide_eq_true (by first | (with_reducible assumption) | assumption)
        have q397 : x5_1 < (l0.length : Int) := of_decide_eq_true (by first | (with_reducible assumption) | assumption)
        obtain ⟨ad397, e397, hx397_0⟩ := Kd.at_int HR0.out x5_1 p397 q397
        cases e397
        replace p397 := eq_true p397
        replace q397 := eq_true q397
        have p398 : 0 ≤ (x5_1 : Int) := of_decide_eq_true (by first | (with_reducible assumption) | assumption)
        have q398 : x5_1 < (l1.length : Int) := of_decide_eq_true (by first | (with_reducible assumption) | assumption)
        obtain ⟨ad398, e398, hx398_0⟩ := Kd.at_int HR1.out x5_1 p398 q398
        cases e398
        replace p398 := eq_true p398
        replace q398 := eq_true q398
        go_wp2
        repeat (go_quiet (fail); try go_wp2)
        go_roundg k1
        case measure => have := HK1.out; omega
        case rel => exact ⟨(wrap64 (x5_1 + 1)), (by first | rfl | (simp; done) | (simp [*]; done)), H', ⟨by have := HK1.out; omega⟩, by repeat (first | exact Drawn0.refl _ | apply Drawn0.step)⟩
       ·rw [if_neg c7] at H
        have c7b0 : ((rd l0 x5_1) == (rd l1 x5_1)) = false := beq_eq_false_iff_ne.mpr c7
        have c7b1 : ((rd l0 x5_1) != (rd l1 x5_1)) = true := bne_iff_ne.mpr c7
        obtain rfl := Option.some.inj H
        have p397 : 0 ≤ (x5_1 : Int) := of_decide_eq_true (by first | (with_reducible assumption) | assumption)
        have q397 : x5_1 < (l0.length : Int) := of_decide_eq_true (by first | (with_reducible assumption) | assumption)
        obtain ⟨ad397, e397, hx397_0⟩ := Kd.at_int HR0.out x5_1 p397 q397
        cases e397
        replace p397 := eq_true p397
        replace q397 := eq_true q397
        have p398 : 0 ≤ (x5_1 : Int) := of_decide_eq_true (by first | (with_reducible assumption) | assumption)
        have q398 : x5_1 < (l1.length : Int) := of_decide_eq_true (by first | (with_reducible assumption) | assumption)
        obtain ⟨ad398, e398, hx398_0⟩ := Kd.at_int HR1.out x5_1 p398 q398
        cases e398
        replace p398 := eq_true p398
        replace q398 := eq_true q398
        go_wp2
        repeat (go_quiet (fail); try go_wp2)
        go_ret
        exact ⟨by first | rfl | (simp; done) | (simp [*]; done), by repeat (first | exact Drawn0.refl _ | apply Drawn0.step)⟩
      ·rw [if_neg c6] at H
       exact absurd H (by simp)
     ·rw [if_neg c5] at H
      exact absurd H (by simp)
    ·rw [if_neg c4] at H
     have c4b0 : decide (x5_1 < (l0.length : Int)) = false := decide_eq_false c4
     clear c4
     obtain rfl := Option.some.inj H
     go_wp2
     repeat (go_quiet (fail); try go_wp2)
     go_ret
     exact ⟨by first | rfl | (simp; done) | (simp [*]; done), by repeat (first | exact Drawn0.refl _ | apply Drawn0.step)⟩
 ·rw [if_neg c3] at H
  have c3b0 : ((l0.length : Int) == (l1.length : Int)) = false := beq_eq_false_iff_ne.mpr c3
  have c3b1 : ((l0.length : Int) != (l1.length : Int)) = true := bne_iff_ne.mpr c3
  have c3b2 : (l0.length == l1.length) = false := by first | simpa using c3 | (simp at c3 ⊢; omega)
  obtain rfl := Option.some.inj H
  go_enter Try.func70, Try.ntmps70
  go_wp2
  repeat (go_quiet (fail); try go_wp2)
  go_ret
  exact ⟨by first | rfl | (simp; done) | (simp [*]; done), by repeat (first | exact Drawn0.refl _ | apply Drawn0.step)⟩
end Go.Proofs.Ytomdfjohnmikdaa.QS
namespace Go.Proofs.Ytomdfjohnmikdaa.Pu
set_option linter.unusedVariables false
set_option linter.unusedSimpArgs false
open Go.RowKit Go.Proofs.Ytomdfjohnmikdaa.Kp Go.Proofs.Ytomdfjohnmikdaa.Ext Go.Proofs.Ytomdfjohnmikdaa.QS Go.Proofs.Ytomdfjohnmikdaa.Im Go.Proofs.YtomdfjohnmikdaaW.PrintWords Go.Proofs.YtomdfjohnmikdaaW.PrintLast Go.Proofs.YtomdfjohnmikdaaW.PrintMore
def lessV : List Int → List Int → Bool
  | a :: p, b :: q => if a = b then lessV p q else decide (a < b)
  | _, _ => false
def backV (M : List (List Int)) (own : List Int) : Nat → Nat
  | 0 => 0
  | m + 1 => if lessV (M.getD m []) own = true then m + 1 else backV M own m
def putV (M : List (List Int)) (own : List Int) : List (List Int) :=
  if M[backV M own M.length]? = some own then M else M.take (backV M own M.length) ++ own :: M.drop (backV M own M.length)
theorem backV_le (M : List (List Int)) (own : List Int) : ∀ m, backV M own m ≤ m
  | 0 => Nat.le_refl _
  | m + 1 => by
    rw [backV]
    split
    · exact Nat.le_refl _
    · have := backV_le M own m; omega
theorem less_loop {a b : List Int} (hl : a.length ≤ b.length) (hm : a.length ≤ 1048576) : ∀ d (i : Nat), a.length - i = d → i ≤ a.length → Ev (fun k => spec_l08Less.l0 k a b (i : Int)) (lessV (a.drop i) (b.drop i)) := by
  intro d
  induction d with
  | zero =>
    intro i hd hil
    rw [List.drop_eq_nil_of_le (by omega), show lessV [] (b.drop i) = false by cases b.drop i <;> rfl]
    refine Ev.step (f := fun k => some false) (fun k => ?_) (Ev.now _)
    simp only [spec_l08Less.l0]
    rw [if_neg (by omega)]
  | succ d ih =>
    intro i hd hil
    have h1 : i < a.length := by omega
    have h2 : i < b.length := by omega
    rw [List.drop_eq_getElem_cons h1, List.drop_eq_getElem_cons h2, lessV]
    by_cases he : a[i] = b[i]
    · rw [if_pos he]
      refine Ev.step (fun k => ?_) (ih (i + 1) (by omega) (by omega))
      simp only [spec_l08Less.l0]
      rw [if_pos (by omega), if_pos (by omega), if_pos (by omega), rd_at h1, rd_at h2, if_pos he, succ64 (by omega)]
    · rw [if_neg he]
      refine Ev.step (f := fun k => some (decide (a[i] < b[i]))) (fun k => ?_) (Ev.now _)
      simp only [spec_l08Less.l0]
      rw [if_pos (by omega), if_pos (by omega), if_pos (by omega), rd_at h1, rd_at h2, if_neg he]
theorem ev_lessV {a b : List Int} (hl : a.length ≤ b.length) (hm : a.length ≤ 1048576) : Ev (fun k => spec_l08Less.f k a b) (lessV a b) := by
  unfold spec_l08Less.f
  exact less_loop hl hm _ 0 rfl (Nat.zero_le _)
theorem same_dropV {a b : List Int} {i : Nat} (h1 : i < a.length) (h2 : i < b.length) : (decide (a.drop i = b.drop i)) = (decide (a[i] = b[i]) && decide (a.drop (i + 1) = b.drop (i + 1))) := by
  rw [Bool.eq_iff_iff, Bool.and_eq_true, decide_eq_true_eq, decide_eq_true_eq, decide_eq_true_eq, List.drop_eq_getElem_cons h1, List.drop_eq_getElem_cons h2, List.cons.injEq]
theorem sameV_loop {a b : List Int} (hl : a.length = b.length) (hm : a.length ≤ 1048576) : ∀ d (i : Nat), a.length - i = d → i ≤ a.length → Ev (fun k => spec_l06Same.l0 k a b (i : Int)) (decide (a.drop i = b.drop i)) := by
  intro d
  induction d with
  | zero =>
    intro i hd hil
    rw [List.drop_eq_nil_of_le (by omega), List.drop_eq_nil_of_le (by omega), decide_eq_true rfl]
    refine Ev.step (f := fun k => some true) (fun k => ?_) (Ev.now _)
    simp only [spec_l06Same.l0]
    rw [if_neg (by omega)]
  | succ d ih =>
    intro i hd hil
    have h1 : i < a.length := by omega
    have h2 : i < b.length := by omega
    rw [same_dropV h1 h2]
    by_cases he : a[i] = b[i]
    · rw [decide_eq_true he, Bool.true_and]
      refine Ev.step (fun k => ?_) (ih (i + 1) (by omega) (by omega))
      simp only [spec_l06Same.l0]
      rw [if_pos (by omega), if_pos (by omega), if_pos (by omega), rd_at h1, rd_at h2, if_pos he, succ64 (by omega)]
    · rw [decide_eq_false he, Bool.false_and]
      refine Ev.step (f := fun k => some false) (fun k => ?_) (Ev.now _)
      simp only [spec_l06Same.l0]
      rw [if_pos (by omega), if_pos (by omega), if_pos (by omega), rd_at h1, rd_at h2, if_neg he]
theorem ev_sameV {a b : List Int} (hm : a.length ≤ 1048576) : Ev (fun k => spec_l06Same.f k a b) (decide (a = b)) := by
  unfold spec_l06Same.f
  by_cases hl : a.length = b.length
  · simp only [if_pos (show (a.length : Int) = (b.length : Int) by omega)]
    exact sameV_loop hl hm _ 0 rfl (Nat.zero_le _)
  · simp only [if_neg (show ¬ (a.length : Int) = (b.length : Int) by omega)]
    rw [decide_eq_false (fun h => hl (by rw [h]))]
    exact Ev.now _
end Go.Proofs.Ytomdfjohnmikdaa.Pu
namespace Go.Proofs.Ytomdfjohnmikdaa.Im
set_option linter.unusedVariables false
set_option linter.unusedSimpArgs false
open Go.RowKit Go.Shelf Go.Proofs.Ytomdfjohnmikdaa.Kp Go.Proofs.Ytomdfjohnmikdaa.Cw Go.Proofs.Ytomdfjohnmikdaa.Ext Go.Proofs.Ytomdfjohnmikdaa.Pu Go.Proofs.YtomdfjohnmikdaaW.PrintWords Go.Proofs.YtomdfjohnmikdaaW.PrintLast Go.Proofs.YtomdfjohnmikdaaW.PrintMore
def LputPost (w : World) (base : Nat) (R : List (List Int)) (e : Ending) (w' : World) : Prop := ∃ (v' : Value) (vs' : List Value), e = .returned v' ∧ VO w' base v' vs' ∧ VI w' base vs' R ∧ Below w.heap.size w w'
theorem drawn0_below {w w1 : World} (h : Drawn0 w w1) : Below w.heap.size w w1 := by
  obtain ⟨nd, rfl⟩ := h
  exact pw_below_drewN (Below.refl _ _) nd
/-- An inner row, as it is read. -/
theorem VI.at_ {w : World} {base : Nat} {vs : List Value} {M : List (List Int)} (h : VI w base vs M) {i : Nat} (hi : i < vs.length) : ∃ (h2 : i < M.length) (A : Option Addr) (c : Nat), vs[i] = .slice A M[i].length c ∧ M[i].length ≤ c ∧ RC w A M[i].length M[i] := by
  have h2 : i < M.length := by rw [← h.1]; exact hi
  have hr := h.2 i hi h2
  obtain ⟨A, c, hv⟩ := Kd.R_slice hr
  rw [hv] at hr
  exact ⟨h2, A, c, hv, (Kd.R_reads' hr).2.1, (Kd.R_reads' hr).2.2⟩
set_option maxRecDepth 100000 in
set_option maxHeartbeats 4000000 in
theorem lput_c (base : Nat) (A0 : Option Addr) (c0 : Nat) (vs : List Value) (M : List (List Int)) (A1 : Option Addr) (c1 : Nat) (own : List Int) (w : World) (ho : VO w base (.slice A0 vs.length c0) vs) (hi : VI w base vs M) (hown : RO w base (.slice A1 own.length c1) own)
    (hlen : ∀ r ∈ M, r.length = own.length) (hol : own.length ≤ 1000) (hml : vs.length ≤ 137438953472) (hb : base ≤ w.heap.size) :
    Calls Try.prog 171 #[.slice A0 vs.length c0, .slice A1 own.length c1] w (LputPost w base (putV M own)) := by
  have hML := hi.1
  have hR1 := (Kd.R_reads' hown)
  have hR0 := ho.reads
  have HO := Aside0.mk ho
  have HI := Aside0.mk hi
  have HOWN := Aside0.mk hown
  have HLEN := Aside0.mk hlen
  have HR0 := Aside0.mk hR0
  have HR1 := Aside0.mk hR1
  have hC0 := Aside0.mk hR0.2.1
  have HMLE := Aside0.mk hML
  have HBASE := Aside0.mk hb
  clear ho hi hown hlen hR0 hR1 hML hb
  go_enter Try.func171, Try.ntmps171
  go_wp2
  go_loopw [5] (fun s5 wr => ∃ m : Nat, m ≤ vs.length ∧ s5 = .int .i64 m ∧ Aside0 (backV M own M.length = backV M own m) ∧ Aside0 (Below w.heap.size w wr)) (fun s5 _ => (intOf s5).toNat)
  case atStart => exact ⟨vs.length, by omega, rfl, ⟨by rw [HMLE.out]⟩, ⟨Below.refl _ _⟩⟩
  case round =>
    obtain ⟨m, hm, rfl, hback, HB⟩ := hrel
    by_cases h0 : m = 0
    · have hgz : ¬ ((0 : Int) < (m : Int)) := by omega
      have hgn : ¬ (0 < m) := by omega
      have HM : Aside0 (backV M own M.length = m) := ⟨by rw [hback.out, h0]; rfl⟩
      clear h0 hback
      obtain ⟨D, hD⟩ : ∃ D, D = (if c0 = m then A0 else (A0 : Option Addr).map (·.add (m * 1))) := ⟨_, rfl⟩
      have hcutF : ∀ W : World, (Instr.slice 53 (.slice A0 vs.length c0) (some (.int .i64 (m : Int))) none none).run Try.prog W = .ok (.slice D (vs.length - m) (c0 - m)) W := by
        intro W
        obtain ⟨i0, hi0, hz0, hzs, hzb⟩ := info_parts infoV
        have := cut_from 53 22 .i64 Try.underlying53 hi0 1 hzs A0 vs.length c0 (m : Int) (by omega) (by omega) W
        rw [Int.toNat_natCast, ← hD] at this
        exact this
      have hcutT : ∀ W : World, (Instr.slice 53 (.slice A0 vs.length c0) none (some (.int .i64 (m : Int))) none).run Try.prog W = .ok (.slice A0 m c0) W := by
        intro W
        obtain ⟨i0, hi0, hz0, hzs, hzb⟩ := info_parts infoV
        have := cut_to 53 22 .i64 Try.underlying53 hi0 A0 vs.length c0 (m : Int) (by omega) (by omega) hC0.out W
        rw [Int.toNat_natCast] at this
        exact this
      have HRD : Aside0 (∀ W, Below w.heap.size w W → Kd.C kV W D (vs.length - m) (vs.drop m)) := ⟨fun W hW => by
        have := Kd.C_drop (Kd.C_below HR0.out.2.2 hW) hm hC0.out
        rw [List.length_drop] at this
        rw [hD]
        exact this⟩
      have HRT : Aside0 (∀ W, Below w.heap.size w W → Kd.C kV W A0 m (vs.take m)) := ⟨fun W hW => by
        have := Kd.C_take (Kd.C_below HR0.out.2.2 hW) hm
        rw [List.length_take, Nat.min_eq_left hm] at this
        exact this⟩
      have hd7 : ([Value.slice A1 own.length c1] ++ vs.drop m).length = vs.length - m + 1 := by simp <;> omega
      clear hD
      by_cases hmn : m < vs.length
      · obtain ⟨adm, hadm, hcm0⟩ := VC.cell HR0.out.2.2 hmn
        obtain rfl := hadm
        obtain ⟨h2m, Am, cm, hvm, hcm, hrm⟩ := HI.out.at_ hmn
        obtain ⟨rowm, hrw⟩ : ∃ rowm, M[m] = rowm := ⟨_, rfl⟩
        rw [hrw] at hvm hcm hrm
        rw [hvm] at hcm0
        have hcmr := pw_cell_below HB.out hcm0
        have HCM0 := Aside0.mk hcm0
        have HRM := Aside0.mk hrm
        have HCM := Aside0.mk hcm
        have hmnz : (m : Int) < (vs.length : Int) := by omega
        have hrml : rowm.length = own.length := HLEN.out _ (by rw [← hrw]; exact List.getElem_mem h2m)
        obtain ⟨k2, hk2⟩ := (ev_sameV (a := rowm) (b := own) (by omega)).rounds
        have HK2 := Aside0.mk hk2
        have hM2 : M[m]? = some rowm := by rw [List.getElem?_eq_getElem h2m, hrw]
        clear hcm0 hrm hcm hrw hvm hk2 hrml
        by_cases heq : rowm = own
        · have HPUT : Aside0 (putV M own = M) := ⟨by unfold putV; rw [HM.out, hM2, heq, if_pos rfl]⟩
          rw [decide_eq_true heq] at HK2
          clear heq hM2 h2m hcutF hcutT hd7
          go_wp2_with (first
            | (go_at_call 70; refine (QS.spec_l06Same.calls k2 Am cm rowm A1 c1 own true _ (Kd.C_below HRM.out HB.out) HCM.out (Kd.C_below HR1.out.2.2 HB.out) HR1.out.2.1 HK2.out).mono ?_; rintro e w2 ⟨rfl, hd⟩; have HB2 := Aside0.mk (below_in HB.out (drawn0_below hd)); clear hd))
          go_ret
          rw [HPUT.out]
          exact ⟨_, vs, rfl, Kd.R_below HO.out HB2.out, HI.out.below HB2.out, HB2.out⟩
        · have HPUT : Aside0 (putV M own = M.take m ++ own :: M.drop m) := ⟨by unfold putV; rw [HM.out, hM2, if_neg (fun h => heq (by injection h))]⟩
          rw [decide_eq_false heq] at HK2
          clear heq hM2 h2m
          go_wp2_with (first
            | (go_at_call 70; refine (QS.spec_l06Same.calls k2 Am cm rowm A1 c1 own false _ (Kd.C_below HRM.out HB.out) HCM.out (Kd.C_below HR1.out.2.2 HB.out) HR1.out.2.1 HK2.out).mono ?_; rintro e w2 ⟨rfl, hd⟩; have HB2 := Aside0.mk (below_in HB.out (drawn0_below hd)); clear hd; clear hcmr; have HO6 := Aside0.mk (VO.one w2 w.heap.size (.slice A1 own.length c1) rfl HB2.out.size); have HB6 : Aside0 (Below w.heap.size w (w2.alloc (.cells #[.slice A1 own.length c1] 22))) := ⟨HB2.out.alloc HB2.out.size _⟩)
            | ((with_reducible refine gate_builtin (b := .append) (xs := #[.tmp 37, .tmp 40]) rfl ?_); at_builtin; refine apVs w.heap.size rfl (.tmp 37) (.tmp 40) rfl _ [.slice A1 own.length c1] (vs.drop m) D (vs.length - m) (c0 - m) rfl rfl HO6.out (HRD.out _ HB6.out) HB6.out HB6.out.size (by simp <;> omega) ?_; intro v1 w7 ho hb hg hat; clear hat hg; have HV1 := Aside0.mk ho; have HB7 := Aside0.mk hb; clear ho hb; obtain ⟨A7, c7, rfl⟩ := HV1.out.slice; rw [hd7] at HV1 ⊢; have HO8 := Aside0.mk (VO.made w7 w.heap.size 0 #[] HB7.out.size (Nat.zero_le _) rfl); have HB8 : Aside0 (Below w.heap.size w (w7.alloc (.cells #[] 22))) := ⟨HB7.out.alloc HB7.out.size _⟩; have HV8 := Aside0.mk (Kd.R_alloc (Kd.R_mono (Kd.R_bound HV1.out) (fun k hk => hk.2.2.1)) (.cells #[] 22)))
            | ((with_reducible refine gate_builtin (b := .append) (xs := #[.tmp 42, .tmp 45]) rfl ?_); at_builtin; refine apVs w.heap.size rfl (.tmp 42) (.tmp 45) rfl _ _ (vs.take m) (some adm) m c0 rfl rfl HO8.out (HRT.out _ HB8.out) HB8.out HB8.out.size (by simp <;> omega) ?_; intro v9 w9 ho hb hg hat; have HV9 := Aside0.mk (Kd.R_grown HV8.out hg (fun k hk e => by injection e with e; exact absurd e (Nat.ne_of_lt hk))); have hrv := (Kd.R_reads' HV9.out).2.2; rw [hd7] at hrv; have HRV := Aside0.mk hrv; clear hat hg hrv; have HO9 := Aside0.mk ho; have HB9 := Aside0.mk hb; clear ho hb)
            | ((with_reducible refine gate_builtin (b := .append) (xs := #[.tmp 46, .tmp 47]) rfl ?_); at_builtin; refine apVs w.heap.size rfl (.tmp 46) (.tmp 47) rfl _ _ ([.slice A1 own.length c1] ++ vs.drop m) A7 _ _ rfl rfl HO9.out HRV.out HB9.out HB9.out.size (by simp <;> omega) ?_; intro v10 w10 ho hb hg hat; clear hat hg; rw [List.nil_append] at ho; have HO10 := Aside0.mk ho; have HB10 := Aside0.mk hb; clear ho hb))
          go_ret
          rw [HPUT.out]
          exact ⟨_, _, rfl, Kd.R_lower HO10.out HBASE.out, ((HI.out.below HB10.out).take m).append ((VI.one (Kd.R_below HOWN.out HB10.out)).append ((HI.out.below HB10.out).drop m)), HB10.out⟩
      · have hmnz : ¬ (m : Int) < (vs.length : Int) := by omega
        have HPUT : Aside0 (putV M own = M.take m ++ own :: M.drop m) := ⟨by
          unfold putV
          rw [HM.out, if_neg]
          rw [List.getElem?_eq_none (by have := HMLE.out; omega)]
          exact fun h => by cases h⟩
        have HO6 := Aside0.mk (VO.one wr w.heap.size (.slice A1 own.length c1) rfl HB.out.size)
        have HB6 : Aside0 (Below w.heap.size w (wr.alloc (.cells #[.slice A1 own.length c1] 22))) := ⟨HB.out.alloc HB.out.size _⟩
        go_wp2_with (first
          | ((with_reducible refine gate_builtin (b := .append) (xs := #[.tmp 37, .tmp 40]) rfl ?_); at_builtin; refine apVs w.heap.size rfl (.tmp 37) (.tmp 40) rfl _ [.slice A1 own.length c1] (vs.drop m) D (vs.length - m) (c0 - m) rfl rfl HO6.out (HRD.out _ HB6.out) HB6.out HB6.out.size (by simp <;> omega) ?_; intro v1 w7 ho hb hg hat; clear hat hg; have HV1 := Aside0.mk ho; have HB7 := Aside0.mk hb; clear ho hb; obtain ⟨A7, c7, rfl⟩ := HV1.out.slice; rw [hd7] at HV1 ⊢; have HO8 := Aside0.mk (VO.made w7 w.heap.size 0 #[] HB7.out.size (Nat.zero_le _) rfl); have HB8 : Aside0 (Below w.heap.size w (w7.alloc (.cells #[] 22))) := ⟨HB7.out.alloc HB7.out.size _⟩; have HV8 := Aside0.mk (Kd.R_alloc (Kd.R_mono (Kd.R_bound HV1.out) (fun k hk => hk.2.2.1)) (.cells #[] 22)))
            | ((with_reducible refine gate_builtin (b := .append) (xs := #[.tmp 42, .tmp 45]) rfl ?_); at_builtin; refine apVs w.heap.size rfl (.tmp 42) (.tmp 45) rfl _ _ (vs.take m) A0 m c0 rfl rfl HO8.out (HRT.out _ HB8.out) HB8.out HB8.out.size (by simp <;> omega) ?_; intro v9 w9 ho hb hg hat; have HV9 := Aside0.mk (Kd.R_grown HV8.out hg (fun k hk e => by injection e with e; exact absurd e (Nat.ne_of_lt hk))); have hrv := (Kd.R_reads' HV9.out).2.2; rw [hd7] at hrv; have HRV := Aside0.mk hrv; clear hat hg hrv; have HO9 := Aside0.mk ho; have HB9 := Aside0.mk hb; clear ho hb)
            | ((with_reducible refine gate_builtin (b := .append) (xs := #[.tmp 46, .tmp 47]) rfl ?_); at_builtin; refine apVs w.heap.size rfl (.tmp 46) (.tmp 47) rfl _ _ ([.slice A1 own.length c1] ++ vs.drop m) A7 _ _ rfl rfl HO9.out HRV.out HB9.out HB9.out.size (by simp <;> omega) ?_; intro v10 w10 ho hb hg hat; clear hat hg; rw [List.nil_append] at ho; have HO10 := Aside0.mk ho; have HB10 := Aside0.mk hb; clear ho hb))
        go_ret
        rw [HPUT.out]
        exact ⟨_, _, rfl, Kd.R_lower HO10.out HBASE.out, ((HI.out.below HB10.out).take m).append ((VI.one (Kd.R_below HOWN.out HB10.out)).append ((HI.out.below HB10.out).drop m)), HB10.out⟩
    · have hgz : (0 : Int) < (m : Int) := by omega
      have hgn : 0 < m := by omega
      obtain ⟨m', hm'⟩ : ∃ m', m = m' + 1 := ⟨m - 1, by omega⟩
      have hm1 : m' < vs.length := by omega
      obtain ⟨ad, rfl, hcell⟩ := VC.cell (Kd.C_below HR0.out.2.2 HB.out) hm1
      obtain ⟨h2, A', c', hv, hc', hrow⟩ := HI.out.at_ hm1
      obtain ⟨row, hrw⟩ : ∃ row, M[m'] = row := ⟨_, rfl⟩
      rw [hrw] at hv hc' hrow
      rw [hv] at hcell
      have hback' := hback.out
      have hrl : row.length = own.length := HLEN.out _ (by rw [← hrw]; exact List.getElem_mem h2)
      rw [hm', backV, List.getD_eq_getElem?_getD, List.getElem?_eq_getElem h2, Option.getD_some, hrw, ← hm'] at hback'
      obtain ⟨k, hk⟩ := (ev_lessV (a := row) (b := own) (by omega) (by omega)).rounds
      have HK := Aside0.mk hk
      have HBK := Aside0.mk hback'
      have HROW := Aside0.mk hrow
      have HC' := Aside0.mk hc'
      have HM' := Aside0.mk hm'
      have hmlt : (m' : Int) < (vs.length : Int) := by omega
      have hwm : wrap64 ((m : Int) - 1) = (m' : Int) := by unfold wrap64; omega
      have hwi : IntKind.i64.wrap ((m : Int) - 1) = (m' : Int) := by rw [IntKind.wrap_i64]; omega
      clear hk hback hback' hrow hc' hm' hrw hv h2 hrl
      cases hls : lessV row own with
      | true =>
        rw [hls] at HK
        have HM : Aside0 (backV M own M.length = m) := ⟨by have := HBK.out; rw [hls, if_pos rfl] at this; exact this⟩
        clear hls HBK
        obtain ⟨D, hD⟩ : ∃ D, D = (if c0 = m then (some ad) else ((some ad) : Option Addr).map (·.add (m * 1))) := ⟨_, rfl⟩
        have hcutF : ∀ W : World, (Instr.slice 53 (.slice (some ad) vs.length c0) (some (.int .i64 (m : Int))) none none).run Try.prog W = .ok (.slice D (vs.length - m) (c0 - m)) W := by
          intro W
          obtain ⟨i0, hi0, hz0, hzs, hzb⟩ := info_parts infoV
          have := cut_from 53 22 .i64 Try.underlying53 hi0 1 hzs (some ad) vs.length c0 (m : Int) (by omega) (by omega) W
          rw [Int.toNat_natCast, ← hD] at this
          exact this
        have hcutT : ∀ W : World, (Instr.slice 53 (.slice (some ad) vs.length c0) none (some (.int .i64 (m : Int))) none).run Try.prog W = .ok (.slice (some ad) m c0) W := by
          intro W
          obtain ⟨i0, hi0, hz0, hzs, hzb⟩ := info_parts infoV
          have := cut_to 53 22 .i64 Try.underlying53 hi0 (some ad) vs.length c0 (m : Int) (by omega) (by omega) hC0.out W
          rw [Int.toNat_natCast] at this
          exact this
        have HRD : Aside0 (∀ W, Below w.heap.size w W → Kd.C kV W D (vs.length - m) (vs.drop m)) := ⟨fun W hW => by
          have := Kd.C_drop (Kd.C_below HR0.out.2.2 hW) hm hC0.out
          rw [List.length_drop] at this
          rw [hD]
          exact this⟩
        have HRT : Aside0 (∀ W, Below w.heap.size w W → Kd.C kV W (some ad) m (vs.take m)) := ⟨fun W hW => by
          have := Kd.C_take (Kd.C_below HR0.out.2.2 hW) hm
          rw [List.length_take, Nat.min_eq_left hm] at this
          exact this⟩
        have hd7 : ([Value.slice A1 own.length c1] ++ vs.drop m).length = vs.length - m + 1 := by simp <;> omega
        clear hD
        by_cases hmn : m < vs.length
        · obtain ⟨adm, hadm, hcm0⟩ := VC.cell HR0.out.2.2 hmn
          obtain rfl : ad = adm := by injection hadm
          obtain ⟨h2m, Am, cm, hvm, hcm, hrm⟩ := HI.out.at_ hmn
          obtain ⟨rowm, hrw⟩ : ∃ rowm, M[m] = rowm := ⟨_, rfl⟩
          rw [hrw] at hvm hcm hrm
          rw [hvm] at hcm0
          have hcmr := pw_cell_below HB.out hcm0
          have HCM0 := Aside0.mk hcm0
          have HRM := Aside0.mk hrm
          have HCM := Aside0.mk hcm
          have hmnz : (m : Int) < (vs.length : Int) := by omega
          have hrml : rowm.length = own.length := HLEN.out _ (by rw [← hrw]; exact List.getElem_mem h2m)
          obtain ⟨k2, hk2⟩ := (ev_sameV (a := rowm) (b := own) (by omega)).rounds
          have HK2 := Aside0.mk hk2
          have hM2 : M[m]? = some rowm := by rw [List.getElem?_eq_getElem h2m, hrw]
          clear hcm0 hrm hcm hrw hvm hk2 hrml
          by_cases heq : rowm = own
          · have HPUT : Aside0 (putV M own = M) := ⟨by unfold putV; rw [HM.out, hM2, heq, if_pos rfl]⟩
            rw [decide_eq_true heq] at HK2
            clear heq hM2 h2m hcutF hcutT hd7
            go_wp2_with (first
              | (go_at_call 193; refine (QS.spec_l08Less.calls k A' c' row A1 c1 own true _ (Kd.C_below HROW.out HB.out) HC'.out (Kd.C_below HR1.out.2.2 HB.out) HR1.out.2.1 HK.out).mono ?_; rintro e w1 ⟨rfl, hd⟩; have HB1 := Aside0.mk (below_in HB.out (drawn0_below hd)); clear hd; clear hcell HB; have HB := HB1; clear HB1; clear hcmr; have hcmr := pw_cell_below HB.out HCM0.out)
              | (go_at_call 70; refine (QS.spec_l06Same.calls k2 Am cm rowm A1 c1 own true _ (Kd.C_below HRM.out HB.out) HCM.out (Kd.C_below HR1.out.2.2 HB.out) HR1.out.2.1 HK2.out).mono ?_; rintro e w2 ⟨rfl, hd⟩; have HB2 := Aside0.mk (below_in HB.out (drawn0_below hd)); clear hd))
            go_ret
            rw [HPUT.out]
            exact ⟨_, vs, rfl, Kd.R_below HO.out HB2.out, HI.out.below HB2.out, HB2.out⟩
          · have HPUT : Aside0 (putV M own = M.take m ++ own :: M.drop m) := ⟨by unfold putV; rw [HM.out, hM2, if_neg (fun h => heq (by injection h))]⟩
            rw [decide_eq_false heq] at HK2
            clear heq hM2 h2m
            go_wp2_with (first
              | (go_at_call 193; refine (QS.spec_l08Less.calls k A' c' row A1 c1 own true _ (Kd.C_below HROW.out HB.out) HC'.out (Kd.C_below HR1.out.2.2 HB.out) HR1.out.2.1 HK.out).mono ?_; rintro e w1 ⟨rfl, hd⟩; have HB1 := Aside0.mk (below_in HB.out (drawn0_below hd)); clear hd; clear hcell HB; have HB := HB1; clear HB1; clear hcmr; have hcmr := pw_cell_below HB.out HCM0.out)
              | (go_at_call 70; refine (QS.spec_l06Same.calls k2 Am cm rowm A1 c1 own false _ (Kd.C_below HRM.out HB.out) HCM.out (Kd.C_below HR1.out.2.2 HB.out) HR1.out.2.1 HK2.out).mono ?_; rintro e w2 ⟨rfl, hd⟩; have HB2 := Aside0.mk (below_in HB.out (drawn0_below hd)); clear hd; clear hcmr; have HO6 := Aside0.mk (VO.one w2 w.heap.size (.slice A1 own.length c1) rfl HB2.out.size); have HB6 : Aside0 (Below w.heap.size w (w2.alloc (.cells #[.slice A1 own.length c1] 22))) := ⟨HB2.out.alloc HB2.out.size _⟩)
              | ((with_reducible refine gate_builtin (b := .append) (xs := #[.tmp 37, .tmp 40]) rfl ?_); at_builtin; refine apVs w.heap.size rfl (.tmp 37) (.tmp 40) rfl _ [.slice A1 own.length c1] (vs.drop m) D (vs.length - m) (c0 - m) rfl rfl HO6.out (HRD.out _ HB6.out) HB6.out HB6.out.size (by simp <;> omega) ?_; intro v1 w7 ho hb hg hat; clear hat hg; have HV1 := Aside0.mk ho; have HB7 := Aside0.mk hb; clear ho hb; obtain ⟨A7, c7, rfl⟩ := HV1.out.slice; rw [hd7] at HV1 ⊢; have HO8 := Aside0.mk (VO.made w7 w.heap.size 0 #[] HB7.out.size (Nat.zero_le _) rfl); have HB8 : Aside0 (Below w.heap.size w (w7.alloc (.cells #[] 22))) := ⟨HB7.out.alloc HB7.out.size _⟩; have HV8 := Aside0.mk (Kd.R_alloc (Kd.R_mono (Kd.R_bound HV1.out) (fun k hk => hk.2.2.1)) (.cells #[] 22)))
              | ((with_reducible refine gate_builtin (b := .append) (xs := #[.tmp 42, .tmp 45]) rfl ?_); at_builtin; refine apVs w.heap.size rfl (.tmp 42) (.tmp 45) rfl _ _ (vs.take m) (some ad) m c0 rfl rfl HO8.out (HRT.out _ HB8.out) HB8.out HB8.out.size (by simp <;> omega) ?_; intro v9 w9 ho hb hg hat; have HV9 := Aside0.mk (Kd.R_grown HV8.out hg (fun k hk e => by injection e with e; exact absurd e (Nat.ne_of_lt hk))); have hrv := (Kd.R_reads' HV9.out).2.2; rw [hd7] at hrv; have HRV := Aside0.mk hrv; clear hat hg hrv; have HO9 := Aside0.mk ho; have HB9 := Aside0.mk hb; clear ho hb)
              | ((with_reducible refine gate_builtin (b := .append) (xs := #[.tmp 46, .tmp 47]) rfl ?_); at_builtin; refine apVs w.heap.size rfl (.tmp 46) (.tmp 47) rfl _ _ ([.slice A1 own.length c1] ++ vs.drop m) A7 _ _ rfl rfl HO9.out HRV.out HB9.out HB9.out.size (by simp <;> omega) ?_; intro v10 w10 ho hb hg hat; clear hat hg; rw [List.nil_append] at ho; have HO10 := Aside0.mk ho; have HB10 := Aside0.mk hb; clear ho hb))
            go_ret
            rw [HPUT.out]
            exact ⟨_, _, rfl, Kd.R_lower HO10.out HBASE.out, ((HI.out.below HB10.out).take m).append ((VI.one (Kd.R_below HOWN.out HB10.out)).append ((HI.out.below HB10.out).drop m)), HB10.out⟩
        · have hmnz : ¬ (m : Int) < (vs.length : Int) := by omega
          have HPUT : Aside0 (putV M own = M.take m ++ own :: M.drop m) := ⟨by
            unfold putV
            rw [HM.out, if_neg]
            rw [List.getElem?_eq_none (by have := HMLE.out; omega)]
            exact fun h => by cases h⟩
          go_wp2_with (first
            | (go_at_call 193; refine (QS.spec_l08Less.calls k A' c' row A1 c1 own true _ (Kd.C_below HROW.out HB.out) HC'.out (Kd.C_below HR1.out.2.2 HB.out) HR1.out.2.1 HK.out).mono ?_; rintro e w1 ⟨rfl, hd⟩; have HB1 := Aside0.mk (below_in HB.out (drawn0_below hd)); clear hd; clear hcell HB; have HB := HB1; clear HB1; have HO6 := Aside0.mk (VO.one w1 w.heap.size (.slice A1 own.length c1) rfl HB.out.size); have HB6 : Aside0 (Below w.heap.size w (w1.alloc (.cells #[.slice A1 own.length c1] 22))) := ⟨HB.out.alloc HB.out.size _⟩)
              | ((with_reducible refine gate_builtin (b := .append) (xs := #[.tmp 37, .tmp 40]) rfl ?_); at_builtin; refine apVs w.heap.size rfl (.tmp 37) (.tmp 40) rfl _ [.slice A1 own.length c1] (vs.drop m) D (vs.length - m) (c0 - m) rfl rfl HO6.out (HRD.out _ HB6.out) HB6.out HB6.out.size (by simp <;> omega) ?_; intro v1 w7 ho hb hg hat; clear hat hg; have HV1 := Aside0.mk ho; have HB7 := Aside0.mk hb; clear ho hb; obtain ⟨A7, c7, rfl⟩ := HV1.out.slice; rw [hd7] at HV1 ⊢; have HO8 := Aside0.mk (VO.made w7 w.heap.size 0 #[] HB7.out.size (Nat.zero_le _) rfl); have HB8 : Aside0 (Below w.heap.size w (w7.alloc (.cells #[] 22))) := ⟨HB7.out.alloc HB7.out.size _⟩; have HV8 := Aside0.mk (Kd.R_alloc (Kd.R_mono (Kd.R_bound HV1.out) (fun k hk => hk.2.2.1)) (.cells #[] 22)))
              | ((with_reducible refine gate_builtin (b := .append) (xs := #[.tmp 42, .tmp 45]) rfl ?_); at_builtin; refine apVs w.heap.size rfl (.tmp 42) (.tmp 45) rfl _ _ (vs.take m) (some ad) m c0 rfl rfl HO8.out (HRT.out _ HB8.out) HB8.out HB8.out.size (by simp <;> omega) ?_; intro v9 w9 ho hb hg hat; have HV9 := Aside0.mk (Kd.R_grown HV8.out hg (fun k hk e => by injection e with e; exact absurd e (Nat.ne_of_lt hk))); have hrv := (Kd.R_reads' HV9.out).2.2; rw [hd7] at hrv; have HRV := Aside0.mk hrv; clear hat hg hrv; have HO9 := Aside0.mk ho; have HB9 := Aside0.mk hb; clear ho hb)
              | ((with_reducible refine gate_builtin (b := .append) (xs := #[.tmp 46, .tmp 47]) rfl ?_); at_builtin; refine apVs w.heap.size rfl (.tmp 46) (.tmp 47) rfl _ _ ([.slice A1 own.length c1] ++ vs.drop m) A7 _ _ rfl rfl HO9.out HRV.out HB9.out HB9.out.size (by simp <;> omega) ?_; intro v10 w10 ho hb hg hat; clear hat hg; rw [List.nil_append] at ho; have HO10 := Aside0.mk ho; have HB10 := Aside0.mk hb; clear ho hb))
          go_ret
          rw [HPUT.out]
          exact ⟨_, _, rfl, Kd.R_lower HO10.out HBASE.out, ((HI.out.below HB10.out).take m).append ((VI.one (Kd.R_below HOWN.out HB10.out)).append ((HI.out.below HB10.out).drop m)), HB10.out⟩
      | false =>
        rw [hls] at HK
        have HBN : Aside0 (backV M own M.length = backV M own m') := ⟨by have := HBK.out; rw [hls, if_neg Bool.false_ne_true] at this; exact this⟩
        clear hls HBK
        go_wp2_with (go_at_call 193; refine (QS.spec_l08Less.calls k A' c' row A1 c1 own false _ (Kd.C_below HROW.out HB.out) HC'.out (Kd.C_below HR1.out.2.2 HB.out) HR1.out.2.1 HK.out).mono ?_; rintro e w1 ⟨rfl, hd⟩; have HB1 := Aside0.mk (below_in HB.out (drawn0_below hd)); clear hd; clear hcell HB)
        go_roundw
        case measure => have := HM'.out; simp only [intOf, hwm]; omega
        case rel => exact ⟨m', by have := HM'.out; omega, by first | rfl | rw [hwm] | rw [hwi] | go_num, HBN, HB1⟩
end Go.Proofs.Ytomdfjohnmikdaa.Im
namespace Go.Proofs.Ytomdfjohnmikdaa.Pu
set_option linter.unusedVariables false
set_option linter.unusedSimpArgs false
open Go.RowKit Go.Proofs.Ytomdfjohnmikdaa.Kp Go.Proofs.Ytomdfjohnmikdaa.Ext Go.Proofs.Ytomdfjohnmikdaa.QS Go.Proofs.Ytomdfjohnmikdaa.Im Go.Proofs.YtomdfjohnmikdaaW.PrintWords Go.Proofs.YtomdfjohnmikdaaW.PrintLast Go.Proofs.YtomdfjohnmikdaaW.PrintMore
def GoodR (D : Nat) (r : List Int) : Prop := r.length = D ∧ ∀ x ∈ r, 0 ≤ x ∧ x ≤ 63
def encV : List Int → Nat
  | [] => 0
  | x :: r => x.toNat * 64 ^ r.length + encV r
theorem enc_lt : ∀ (r : List Int), (∀ x ∈ r, 0 ≤ x ∧ x ≤ 63) → encV r < 64 ^ r.length
  | [], _ => by simp [encV]
  | x :: r, h => by
    have h1 := enc_lt r (fun y hy => h y (List.mem_cons_of_mem _ hy))
    have h2 := h x (List.mem_cons_self ..)
    have h3 : x.toNat * 64 ^ r.length ≤ 63 * 64 ^ r.length := Nat.mul_le_mul_right _ (by omega)
    rw [encV, List.length_cons, Nat.pow_succ]
    omega
theorem less_enc : ∀ (a b : List Int), a.length = b.length → (∀ x ∈ a, 0 ≤ x ∧ x ≤ 63) → (∀ x ∈ b, 0 ≤ x ∧ x ≤ 63) → (lessV a b = true ↔ encV a < encV b)
  | [], [], _, _, _ => by simp [lessV, encV]
  | [], _ :: _, h, _, _ => by cases h
  | _ :: _, [], h, _, _ => by cases h
  | x :: p, y :: q, h, ha, hb => by
    have hl : p.length = q.length := by simpa using h
    have ih := less_enc p q hl (fun z hz => ha z (List.mem_cons_of_mem _ hz)) (fun z hz => hb z (List.mem_cons_of_mem _ hz))
    have hp := enc_lt p (fun z hz => ha z (List.mem_cons_of_mem _ hz))
    have hq := enc_lt q (fun z hz => hb z (List.mem_cons_of_mem _ hz))
    have hx := ha x (List.mem_cons_self ..)
    have hy := hb y (List.mem_cons_self ..)
    rw [lessV, encV, encV, ← hl]
    rw [← hl] at hq
    by_cases he : x = y
    · subst he
      rw [if_pos rfl, ih]
      omega
    · rw [if_neg he, decide_eq_true_eq]
      generalize 64 ^ p.length = P at *
      rcases Int.lt_or_gt_of_ne he with h1 | h1
      · have h2 : (x.toNat + 1) * P ≤ y.toNat * P := Nat.mul_le_mul_right _ (by omega)
        rw [Nat.add_mul, Nat.one_mul] at h2
        exact ⟨fun _ => by omega, fun _ => h1⟩
      · have h2 : (y.toNat + 1) * P ≤ x.toNat * P := Nat.mul_le_mul_right _ (by omega)
        rw [Nat.add_mul, Nat.one_mul] at h2
        exact ⟨fun _ => by omega, fun _ => by omega⟩
theorem enc_inj : ∀ (a b : List Int), a.length = b.length → (∀ x ∈ a, 0 ≤ x ∧ x ≤ 63) → (∀ x ∈ b, 0 ≤ x ∧ x ≤ 63) → encV a = encV b → a = b
  | [], [], _, _, _, _ => rfl
  | [], _ :: _, h, _, _, _ => by cases h
  | _ :: _, [], h, _, _, _ => by cases h
  | x :: p, y :: q, h, ha, hb, e => by
    have hl : p.length = q.length := by simpa using h
    have ih := enc_inj p q hl (fun z hz => ha z (List.mem_cons_of_mem _ hz)) (fun z hz => hb z (List.mem_cons_of_mem _ hz))
    have hp := enc_lt p (fun z hz => ha z (List.mem_cons_of_mem _ hz))
    have hq := enc_lt q (fun z hz => hb z (List.mem_cons_of_mem _ hz))
    have hx := ha x (List.mem_cons_self ..)
    have hy := hb y (List.mem_cons_self ..)
    rw [encV, encV, ← hl] at e
    rw [← hl] at hq
    by_cases he : x = y
    · subst he
      rw [ih (by omega)]
    · exfalso
      generalize 64 ^ p.length = P at *
      rcases Int.lt_or_gt_of_ne he with h1 | h1
      · have h2 : (x.toNat + 1) * P ≤ y.toNat * P := Nat.mul_le_mul_right _ (by omega)
        rw [Nat.add_mul, Nat.one_mul] at h2
        omega
      · have h2 : (y.toNat + 1) * P ≤ x.toNat * P := Nat.mul_le_mul_right _ (by omega)
        rw [Nat.add_mul, Nat.one_mul] at h2
        omega
def SortE (M : List (List Int)) : Prop := (M.map encV).Pairwise (· < ·)
def GoodV (D : Nat) (M : List (List Int)) : Prop := SortE M ∧ ∀ r ∈ M, GoodR D r
theorem GoodV.nil (D : Nat) : GoodV D [] := ⟨List.Pairwise.nil, fun r h => by cases h⟩
theorem less_iff {D : Nat} {a b : List Int} (ha : GoodR D a) (hb : GoodR D b) : lessV a b = true ↔ encV a < encV b := less_enc a b (ha.1.trans hb.1.symm) ha.2 hb.2
/-- The place: those ahead of it are less, the others are not. -/
theorem back_cut {D : Nat} {M : List (List Int)} (h : GoodV D M) {own : List Int} (ho : GoodR D own) : ∀ m, m ≤ M.length → (∀ j (hj : j < M.length), m ≤ j → ¬ encV M[j] < encV own) → ∀ j (hj : j < M.length), (encV M[j] < encV own ↔ j < backV M own m)
  | 0, _, hge, j, hj => by
    rw [backV]
    exact ⟨fun h1 => absurd h1 (hge j hj (Nat.zero_le _)), fun h1 => absurd h1 (Nat.not_lt_zero _)⟩
  | m + 1, hm, hge, j, hj => by
    have hm' : m < M.length := by omega
    rw [backV, List.getD_eq_getElem?_getD, List.getElem?_eq_getElem hm', Option.getD_some]
    have hl := less_iff (h.2 _ (List.getElem_mem hm')) ho
    by_cases hc : lessV M[m] own = true
    · rw [if_pos hc]
      refine ⟨fun h1 => ?_, fun h1 => ?_⟩
      · rcases Nat.lt_or_ge j (m + 1) with h2 | h2
        · exact h2
        · exact absurd h1 (hge j hj h2)
      · rcases Nat.lt_or_ge j m with h2 | h2
        · have := List.pairwise_iff_getElem.1 h.1 j m (by simpa using hj) (by simpa using hm') h2
          rw [List.getElem_map, List.getElem_map] at this
          exact Nat.lt_trans this (hl.1 hc)
        · obtain rfl : j = m := by omega
          exact hl.1 hc
    · rw [if_neg hc]
      refine back_cut h ho m (by omega) (fun j hj h1 => ?_) j hj
      rcases Nat.lt_or_ge j (m + 1) with h2 | h2
      · obtain rfl : j = m := by omega
        exact fun h3 => hc (hl.2 h3)
      · exact hge j hj h2
theorem GoodV.put {D : Nat} {M : List (List Int)} (h : GoodV D M) {own : List Int} (ho : GoodR D own) : GoodV D (putV M own) := by
  have hcut := back_cut h ho M.length (Nat.le_refl _) (fun j hj h1 => absurd hj (by omega))
  have hle := backV_le M own M.length
  unfold putV
  generalize backV M own M.length = m at *
  by_cases he : M[m]? = some own
  · rw [if_pos he]; exact h
  · rw [if_neg he]
    refine ⟨?_, fun r hr => ?_⟩
    · unfold SortE
      rw [List.map_append, List.map_cons, List.map_take, List.map_drop, List.pairwise_append]
      have hs := h.1
      unfold SortE at hs
      refine ⟨hs.sublist (List.take_sublist _ _), List.pairwise_cons.2 ⟨fun x hx => ?_, hs.sublist (List.drop_sublist _ _)⟩, fun a ha b hb => ?_⟩
      · obtain ⟨j, hj, rfl⟩ := List.mem_iff_getElem.1 hx
        rw [List.getElem_drop, List.getElem_map]
        rw [List.length_drop, List.length_map] at hj
        have h1 := (not_congr (hcut (m + j) (by omega))).2 (by omega)
        rcases Nat.lt_or_ge (encV own) (encV (M[m + j]'(by omega))) with h2 | h2
        · exact h2
        · exfalso
          have h3 : encV (M[m + j]'(by omega)) = encV own := by omega
          have h4 := enc_inj _ _ ((h.2 _ (List.getElem_mem (by omega))).1.trans ho.1.symm) (h.2 _ (List.getElem_mem (by omega))).2 ho.2 h3
          rcases Nat.eq_zero_or_pos j with rfl | hjp
          · exact he (by rw [List.getElem?_eq_getElem (by omega)]; exact congrArg some h4)
          · have h5 := List.pairwise_iff_getElem.1 hs m (m + j) (by simpa using by omega) (by simpa using by omega) (by omega)
            rw [List.getElem_map, List.getElem_map] at h5
            have h6 := (not_congr (hcut m (by omega))).2 (by omega)
            omega
      · obtain ⟨i, hi, rfl⟩ := List.mem_iff_getElem.1 ha
        rw [List.length_take, List.length_map] at hi
        rw [List.getElem_take, List.getElem_map]
        have h1 := (hcut i (by omega)).2 (by omega)
        rcases List.mem_cons.1 hb with rfl | hb
        · exact h1
        · obtain ⟨j, hj, rfl⟩ := List.mem_iff_getElem.1 hb
          rw [List.length_drop, List.length_map] at hj
          have h5 := List.pairwise_iff_getElem.1 hs i (m + j) (by simpa using by omega) (by simpa using by omega) (by omega)
          rw [List.getElem_map] at h5
          rw [List.getElem_drop]
          exact h5
    · rcases List.mem_append.1 hr with hr | hr
      · exact h.2 r (List.mem_of_mem_take hr)
      · rcases List.mem_cons.1 hr with rfl | hr
        · exact ho
        · exact h.2 r (List.mem_of_mem_drop hr)
theorem incr_len : ∀ (L : List Nat) (a N : Nat), L.Pairwise (· < ·) → (∀ x ∈ L, a ≤ x ∧ x < N) → L.length ≤ N - a
  | [], _, _, _, _ => Nat.zero_le _
  | x :: L, a, N, hp, hr => by
    obtain ⟨h1, h2⟩ := List.pairwise_cons.1 hp
    have hx := hr x (List.mem_cons_self ..)
    have := incr_len L (x + 1) N h2 (fun y hy => ⟨h1 y hy, (hr y (List.mem_cons_of_mem _ hy)).2⟩)
    rw [List.length_cons]
    omega
theorem GoodV.len {D : Nat} {M : List (List Int)} (h : GoodV D M) (hD : D ≤ 6) : M.length ≤ 68719476736 := by
  have h1 := incr_len (M.map encV) 0 (64 ^ D) h.1 (fun x hx => by
    obtain ⟨r, hr, rfl⟩ := List.mem_map.1 hx
    have := h.2 r hr
    have h2 := enc_lt r this.2
    rw [this.1] at h2
    exact ⟨Nat.zero_le _, h2⟩)
  rw [List.length_map] at h1
  have h2 : 64 ^ D ≤ 64 ^ 6 := Nat.pow_le_pow_right (by decide) hD
  have h3 : (64 : Nat) ^ 6 = 68719476736 := by decide
  omega
end Go.Proofs.Ytomdfjohnmikdaa.Pu
namespace Go.Proofs.Ytomdfjohnmikdaa.QS
open Go.Proofs.Ytomdfjohnmikdaa.Cw Go.Proofs.Ytomdfjohnmikdaa.Kp Go.Proofs.Ytomdfjohnmikdaa.Ext Go.RowKit Go.Proofs.YtomdfjohnmikdaaW.PrintWords Go.Proofs.YtomdfjohnmikdaaW.PrintLast Go.Proofs.YtomdfjohnmikdaaW.PrintMore
attribute [local go_sem] max2_int min2_int max_two min_two max_three min_three max_four min_four   -- for this text's walks alone
set_option linter.unusedVariables false
set_option linter.unusedSimpArgs false
def spec_l02Dim.f (k : Nat) (a0 : Int) : Option (Int) := (spec_l01Ones.f k a0).bind fun t399 => (some (wrap64 (t399 - 1)))
set_option maxHeartbeats 8000000 in
set_option maxRecDepth 100000 in
theorem spec_l02Dim.calls (k : Nat) (a0 : Int) (r : Int) (w : World) (h : spec_l02Dim.f k a0 = some r) :
  Calls Try.prog 119 #[.int .i64 a0] w fun e w' => e = .returned (.int .i64 r) ∧ Drawn0 w w' := by
 have H : ((spec_l01Ones.f k a0).bind fun t399 => (some (wrap64 (t399 - 1)))) = some r := h
 clear h
 replace H := Option.bind_eq_some_iff.mp H
 obtain ⟨t399, A20, H⟩ := H
 try dsimp only at H
 have A2 := Aside0.mk A20
 clear A20
 obtain rfl := Option.some.inj H
 go_enter Try.func119, Try.ntmps119
 go_wp2_with (first | ((with_reducible refine gate_callee (f := 129) rfl ?_); refine cl_ (some 4) Try.func129 #[.int .i64 a0] ?_; (with_reducible refine (spec_l01Ones.calls k a0 t399 _ A2.out).mono ?_); rintro e w' ⟨rfl, ⟨nd, rfl⟩⟩; refine ⟨_, rfl, ?_⟩))
 go_ret
 exact ⟨by first | rfl | (simp; done) | (simp [*]; done), by repeat (first | exact Drawn0.refl _ | apply Drawn0.step)⟩
end Go.Proofs.Ytomdfjohnmikdaa.QS
namespace Go.Proofs.Ytomdfjohnmikdaa.QS
open Go.Proofs.Ytomdfjohnmikdaa.Cw Go.Proofs.Ytomdfjohnmikdaa.Kp Go.Proofs.Ytomdfjohnmikdaa.Ext Go.RowKit Go.Proofs.YtomdfjohnmikdaaW.PrintWords Go.Proofs.YtomdfjohnmikdaaW.PrintLast Go.Proofs.YtomdfjohnmikdaaW.PrintMore
attribute [local go_sem] max2_int min2_int max_two min_two max_three min_three max_four min_four   -- for this text's walks alone
set_option linter.unusedVariables false
set_option linter.unusedSimpArgs false
mutual
def spec_l02Numbers.l0 : Nat → List (S73) → Int → Int → Int → List Int → Option (List Int)
 | 0, _, _, _, _, _ => none
 | k + 1, x1, x5, x6, x413000, x413001 => if x6 < (x413001.length : Int) then (if 0 ≤ x6 then ((spec_l02Dim.f k (rd x413001 x6)).bind fun t414 => (spec_l02Numbers.l0 k x1 (mx x5 t414) (wrap64 (x6 + 1)) x413000 x413001)) else (none)) else (if 0 ≤ (wrap64 (x5 + 1)) then (if (wrap64 (x5 + 1) : Int).toNat ≤ 35184372088832 then ((spec_l02Critical.f k x413000 x413001 x1).bind fun t418 => (spec_l02Numbers.l1 k (List.replicate (wrap64 (x5 + 1) : Int).toNat 0) t418 0)) else (none)) else (none))
def spec_l02Numbers.l1 : Nat → List Int → List Int → Int → Option (List Int)
 | 0, _, _, _ => none
 | k + 1, x7, x8, x9 => if x9 < (x8.length : Int) then (if 0 ≤ x9 then ((spec_l02Dim.f k (rd x8 x9)).bind fun t422 => (if 0 ≤ t422 then (if t422 < (x7.length : Int) then (spec_l02Numbers.l1 k (x7.set (t422 : Int).toNat (wrap64 ((rd x7 t422) + 1))) x8 (wrap64 (x9 + 1))) else (none)) else (none))) else (none)) else (some x7)
end
def spec_l02Numbers.f (k : Nat) (a0_0 : Int) (l0_1 : List Int) (l1 : List (S73)) : Option (List Int) := spec_l02Numbers.l0 k l1 (-1) 0 a0_0 l0_1
def spec_l02Numbers.T6 : Bool × List (List Nat × List Nat) := (true, [([], []), ([0], [0]), ([1, 1], [1]), ([], []), ([], []), ([3, 4], [3, 4]), ([2, 5, 0, 1, 2], [2]), ([5, 6, 0, 1, 2, 3, 4, 5, 6], [5])])
def spec_l02Numbers.B6 : List Nat := [0, 1, 3, 0, 0, 24, 63, 127]
theorem spec_l02Numbers.tab6 : rtab .any (opsOf Try.f71 6) = spec_l02Numbers.T6 := by kernel_rfl
theorem spec_l02Numbers.bits6 : waitsOk spec_l02Numbers.T6.2 spec_l02Numbers.B6 = true := by kernel_rfl
set_option maxHeartbeats 8000000 in
set_option maxRecDepth 100000 in
theorem spec_l02Numbers.calls (k : Nat) (a0_0 : Int) (A0_1 : Option Addr) (c0_1 : Nat) (l0_1 : List Int) (A1 : Option Addr) (c1 : Nat) (l1 : List (S73)) (r : List Int) (w : World) (hr0_1 : Kd.C (Kd.int .i64) w A0_1 l0_1.length l0_1) (hc0_1 : l0_1.length ≤ c0_1) (hr1 : Kd.C k73 w A1 l1.length l1) (hc1 : l1.length ≤ c1) (h : spec_l02Numbers.f k a0_0 l0_1 l1 = some r) :
  Calls Try.prog 71 #[.agg #[.int .i64 a0_0, .slice A0_1 l0_1.length c0_1], .slice A1 l1.length c1] w fun e w' => ∃ v0_ : Value, e = .returned (v0_) ∧ Kd.R (Kd.int .i64) 2 w' w.heap.size (fun _ => True) v0_ r ∧ Below w.heap.size w w' := by
 have hu28 := Try.underlying28
 have HR0_1 := Aside0.mk hr0_1
 have HC0_1 := Aside0.mk hc0_1
 clear hr0_1 hc0_1
 have HR1 := Aside0.mk hr1
 have HC1 := Aside0.mk hc1
 clear hr1 hc1
 have HB := Aside0.mk (Below.refl w.heap.size w)
 have H : (spec_l02Numbers.l0 k l1 (-1) 0 a0_0 l0_1) = some r := h
 clear h
 have H' := Aside0.mk H
 clear H
 go_enter Try.func71, Try.ntmps71
 go_wp2_with (first | ((with_reducible refine gate_dst (N := 2) rfl ?_); refine box_event ?hg (N := 2) ?hd (cs := #[.int .i64 a0_0, .slice A0_1 l0_1.length c0_1]) (t := 28) ?hr ?_; (case hd => rfl); (case hg => rfl); (case hr => first | (go_simp; done) | (go_simp; rfl)); intro gb412 hg w3 hbox hb; have BK412 := Aside0.mk (hbox); have GW412 := gH HB hg; have GE412 := gH HB hg; replace HB := sH HB hb; clear hb hbox hg))
 go_loopg [5, 6] k (fun kq v5 v6 w' => ∃ (x5_1 : Int) (x6_1 : Int), v5 = .int .i64 x5_1 ∧ v6 = .int .i64 x6_1 ∧ Aside0 (spec_l02Numbers.l0 kq l1 x5_1 x6_1 a0_0 l0_1 = some r) ∧ Aside0 (kq ≤ k) ∧ Aside0 (w'.heap[gb412]? = some (.cells #[.int .i64 a0_0, (.slice A0_1 l0_1.length c0_1)] 28 (0, 0))) ∧ Aside0 (Below w.heap.size w w'))
 case atStart => exact ⟨((-1)), (0), (by first | rfl | (simp; done) | (simp [*]; done)), (by first | rfl | (simp; done) | (simp [*]; done)), H', ⟨Nat.le_refl _⟩, ⟨pB BK412⟩, ⟨pH HB⟩⟩
 case round =>
  clear H'
  try clear c1
  try clear p2
  obtain ⟨x5_1, x6_1, rfl, rfl, HA, HK1, BK412, HB⟩ := hrel
  cases gk with
  | zero => exact absurd HA.out (by simp [spec_l02Numbers.l0])
  | succ k1 =>
   have H := HA.out
   clear HA
   simp only [spec_l02Numbers.l0] at H
   by_cases c4 : x6_1 < (l0_1.length : Int)
   ·rw [if_pos c4] at H
    have c4b0 : decide (x6_1 < (l0_1.length : Int)) = true := decide_eq_true c4
    clear c4
    by_cases c5 : 0 ≤ x6_1
    ·rw [if_pos c5] at H
     have c5b0 : decide (0 ≤ x6_1) = true := decide_eq_true c5
     clear c5
     replace H := Option.bind_eq_some_iff.mp H
     obtain ⟨t414, A60, H⟩ := H
     try dsimp only at H
     have A6 := Aside0.mk A60
     clear A60
     obtain ⟨ji7, hji7⟩ : ∃ j_ : Int, (mx x5_1 t414) = j_ := ⟨_, rfl⟩
     replace H : (spec_l02Numbers.l0 k1 l1 ji7 (wrap64 (x6_1 + 1)) a0_0 l0_1) = some r := by first | (rw [hji7] at H; exact H) | (simp only [hji7] at H ⊢; exact H)
     (try rw [hji7] at A6)
     have hji7_ : (if x5_1 < t414 then t414 else x5_1) = ji7 := hji7
     have H' := Aside0.mk H
     clear H
     have hcz8_0 : wr.cell? ⟨gb412, 0, none⟩ = some (.int .i64 a0_0) := cB BK412 0
     have hcz8_1 : wr.cell? ⟨gb412, 1, none⟩ = some (.slice A0_1 l0_1.length c0_1) := cB BK412 1
     have hfz8_0 := zB BK412 0
     have hfz8_1 := zB BK412 1
     have p413 : 0 ≤ (x6_1 : Int) := of_decide_eq_true (by first | (with_reducible assumption) | assumption)
     have q413 : x6_1 < (l0_1.length : Int) := of_decide_eq_true (by first | (with_reducible assumption) | assumption)
     obtain ⟨ad413, e413, hx413_0⟩ := Kd.at_int HR0_1.out x6_1 p413 q413
     cases e413
     replace hx413_0 := cH HB hx413_0
     replace p413 := eq_true p413
     replace q413 := eq_true q413
     go_wp2_with (first | ((with_reducible refine gate_callee (f := 119) rfl ?_); refine cl_ (some 23) Try.func119 #[.int .i64 (rd l0_1 x6_1)] ?_; (with_reducible refine (spec_l02Dim.calls k1 (rd l0_1 x6_1) t414 _ A6.out).mono ?_); rintro e w' ⟨rfl, ⟨nd, rfl⟩⟩; refine ⟨_, rfl, ?_⟩))
     go_roundg k1
     case measure => have := HK1.out; omega
     case rel => exact ⟨(ji7), (wrap64 (x6_1 + 1)), (by first | rfl | (simp; done) | (simp only [← hji7] <;> (first | rfl | simp)) | (simp [*]; done)), (by first | rfl | (simp; done) | (simp [*]; done)), H', ⟨by have := HK1.out; omega⟩, ⟨pB BK412⟩, ⟨pH HB⟩⟩
    ·rw [if_neg c5] at H
     exact absurd H (by simp)
   ·rw [if_neg c4] at H
    have c4b0 : decide (x6_1 < (l0_1.length : Int)) = false := decide_eq_false c4
    clear c4
    obtain ⟨ji9, hji9⟩ : ∃ j_ : Int, (wrap64 (x5_1 + 1)) = j_ := ⟨_, rfl⟩
    replace H : (if 0 ≤ (ji9) then (if (ji9 : Int).toNat ≤ 35184372088832 then ((spec_l02Critical.f k1 a0_0 l0_1 l1).bind fun t418 => (spec_l02Numbers.l1 k1 (List.replicate (ji9 : Int).toNat 0) t418 0)) else (none)) else (none)) = some r := by first | (rw [hji9] at H; exact H) | (simp only [hji9] at H ⊢; exact H)
    have hji9w : (IntKind.i64.wrap (x5_1 + 1)) = ji9 := (i64_w _).trans hji9
    by_cases c10 : 0 ≤ (ji9)
    ·rw [if_pos c10] at H
     have c10b0 := eq_true c10
     have c10b1 : decide (0 ≤ (ji9)) = true := decide_eq_true c10
     clear c10
     by_cases c11 : (ji9 : Int).toNat ≤ 35184372088832
     ·rw [if_pos c11] at H
      have c11b0 := eq_true c11
      have c11b1 : decide ((ji9 : Int).toNat ≤ 35184372088832) = true := decide_eq_true c11
      clear c11
      obtain ⟨y415, hy415⟩ : ∃ y_ : List Int, y_ = (List.replicate (ji9 : Int).toNat 0) := ⟨_, rfl⟩
      replace H : ((spec_l02Critical.f k1 a0_0 l0_1 l1).bind fun t418 => (spec_l02Numbers.l1 k1 y415 t418 0)) = some r := by first | (rw [hy415]; with_reducible exact H) | (have H2_ := (Option.bind_some _ _).symm.trans H; rw [hy415]; with_reducible exact H2_) | (have H2_ := (Option.bind_some _ _).symm.trans H; with_reducible exact H2_) | with_reducible exact H | (rw [hy415]; exact H) | exact H
      have Ny415 := Aside0.mk hy415
      clear hy415
      replace H := Option.bind_eq_some_iff.mp H
      obtain ⟨t418, A120, H⟩ := H
      try dsimp only at H
      have A12 := Aside0.mk A120
      clear A120
      have H' := Aside0.mk H
      clear H
      have hcz13_0 : wr.cell? ⟨gb412, 0, none⟩ = some (.int .i64 a0_0) := cB BK412 0
      have hcz13_1 : wr.cell? ⟨gb412, 1, none⟩ = some (.slice A0_1 l0_1.length c0_1) := cB BK412 1
      have hfz13_0 := zB BK412 0
      have hfz13_1 := zB BK412 1
      try go_wp2
      replace BK412 := dB BK412
      replace HB := dH HB
      refine st_ 8 (S := fun w' => w'.cell? ⟨gb412, 0, none⟩ = some (.int .i64 a0_0) ∧ w'.cell? ⟨gb412, 1, none⟩ = some (.slice A0_1 l0_1.length c0_1)) (ds := []) ⟨cB BK412 0, cB BK412 1⟩ (fun hHeld => ?_); refine with_tabW spec_l02Numbers.tab6 spec_l02Numbers.bits6 (fun HT_ HW_ => ?_)
      generalize wr.drew = w14 at BK412 HB hHeld ⊢
      refine pu_ 0 25 1 HT_ ?_
      refine pu_ 1 26 3 HT_ ?_
      refine pu_ 4 29 19 HT_ ?_
      refine tk_ 3 28 27 HT_ HW_ hHeld ?_
      refine join_ (σ := Value × Value) 2 (mB 8 63) (fun s_ => [(27, s_.1), (30, s_.2)]) (fun s_ w' => (w'.cell? ⟨gb412, 0, none⟩ = some (.int .i64 a0_0) ∧ w'.cell? ⟨gb412, 1, none⟩ = some (.slice A0_1 l0_1.length c0_1)) ∧ (Kd.R (Kd.int .i64) 2 w' w.heap.size (fun k_ => some k_ ≠ (s_.2 : Value).ownBlock) s_.1 y415) ∧ (Kd.R (Kd.int .i64) 2 w' w.heap.size (fun k_ => some k_ ≠ (s_.1 : Value).ownBlock) s_.2 t418) ∧ (w'.heap[gb412]? = some (.cells #[.int .i64 a0_0, .slice A0_1 l0_1.length c0_1] 28 (0, 0))) ∧ (Below w.heap.size w w')) ?_ ?_
      rotate_left
      ·intro hCont
       refine two_ (i := 2) (j := 5) (Ni := some 27) (Nj := some 30) (mB 8 31) (mB 8 59) rfl rfl rfl rfl (two_of HT_.out (by kernel_rfl)) (by decide) (by decide) (fun K hK => ?_) (fun K hK => ?_)
       ·skip
        refine Kd.R_make_step (Kd.int .i64) _ 2 (by rfl) (N := 27) rfl 22 _ _ rfl ji9 rfl rfl Try.underlying22 (.int .i64 0) 8 info2 rfl (by decide) (by omega) 0 (ok := fun _ => True) (okp := fun _ => True) rfl (fun _ hk => hk) trivial (of_decide_eq_true (by first | (with_reducible assumption) | assumption)) (Nat.le_trans (Nat.mul_le_mul_right _ (of_decide_eq_true (by first | (with_reducible assumption) | assumption) : ji9.toNat ≤ 35184372088832)) (by omega)) (Below.refl _ _) (Nat.le_refl _) ?_
        intro v416 w15 ho16 hb hg_ hnew_
        clear hg_ hnew_
        (first | rw [← Ny415.out] at ho16 | (simp only [Int.reduceToNat] at ho16; rw [← Ny415.out] at ho16))
        have HO417 := Aside0.mk (Kd.R_lower ho16 (below_size (pH HB)))
        replace BK412 := sB BK412 hb
        replace HB := sH HB hb
        clear hb ho16
        refine hK.out _ _ ⟨cB BK412 0, cB BK412 1⟩ (fun hHeld => ?_)
        clear hK K
        refine nm_ ?_
        refine on_ 5 (some 30) 63 HT_ (fun K hK => ?_)
        refine ca_ Try.func120 #[.agg #[.int .i64 a0_0, .slice A0_1 l0_1.length c0_1], .slice A1 l1.length c1] ?_
        with_reducible refine (spec_l02Critical.calls k1 a0_0 _ _ l0_1 _ _ l1 t418 _ ?side1 ?side2 ?side3 ?side4 A12.out).mono ?_
        (case side1 => exact pC ((Kd.C_below HR0_1.out HB.out)))
        (case side2 => exact HC0_1.out)
        (case side3 => exact pC ((Kd.C_below HR1.out HB.out)))
        (case side4 => exact HC1.out)
        rintro e w17 ⟨v419, rfl, ho0, hb⟩
        refine ⟨_, rfl, ?_⟩
        have HO420 := Aside0.mk (Kd.R_lower (Kd.R_new' ho0 (Kd.R_lt (pR HO417))) (below_size (pH HB)))
        replace HO417 := Aside0.mk (Kd.R_elder' (pR HO417) (Kd.R_base ho0) hb)
        replace BK412 := sB BK412 hb
        replace HB := sH HB hb
        (try clear hb)
        (try clear hb2)
        (try clear hk)
        (try clear hi)
        (try clear ho0)
        refine hK.out _ _ ⟨cB BK412 0, cB BK412 1⟩ (fun hHeld => ?_)
        clear hK K
        refine nm_ ?_
        exact norm_ (by simp only [putAll, Act.put, List.setIfInBounds_toArray, List.set_cons_zero, List.set_cons_succ]) (hCont (v416, v419) _ ⟨hHeld, (by (with_reducible repeat (first | apply Kd.R_alloc | apply Kd.R_drewN | apply Kd.R_drew)); exact Kd.R_mono HO417.out (fun _ hk => hk.2)), (by (with_reducible repeat (first | apply Kd.R_alloc | apply Kd.R_drewN | apply Kd.R_drew)); exact Kd.R_mono HO420.out (fun _ hk => hk.2)), (pB BK412), (pH HB)⟩)
       ·skip
        refine ca_ Try.func120 #[.agg #[.int .i64 a0_0, .slice A0_1 l0_1.length c0_1], .slice A1 l1.length c1] ?_
        with_reducible refine (spec_l02Critical.calls k1 a0_0 _ _ l0_1 _ _ l1 t418 _ ?side1 ?side2 ?side3 ?side4 A12.out).mono ?_
        (case side1 => exact pC ((Kd.C_below HR0_1.out HB.out)))
        (case side2 => exact HC0_1.out)
        (case side3 => exact pC ((Kd.C_below HR1.out HB.out)))
        (case side4 => exact HC1.out)
        rintro e w15 ⟨v419, rfl, ho0, hb⟩
        refine ⟨_, rfl, ?_⟩
        have HO420 := Aside0.mk (Kd.R_lower ho0 (below_size (pH HB)))
        replace BK412 := sB BK412 hb
        replace HB := sH HB hb
        (try clear hb)
        (try clear hb2)
        (try clear hk)
        (try clear hi)
        (try clear ho0)
        refine hK.out _ _ ⟨cB BK412 0, cB BK412 1⟩ (fun hHeld => ?_)
        clear hK K
        refine nm_ ?_
        refine on_ 2 (some 27) 63 HT_ (fun K hK => ?_)
        refine Kd.R_make_step (Kd.int .i64) _ 2 (by rfl) (N := 27) rfl 22 _ _ rfl ji9 rfl rfl Try.underlying22 (.int .i64 0) 8 info2 rfl (by decide) (by omega) 0 (ok := fun _ => True) (okp := fun _ => True) rfl (fun _ hk => hk) trivial (of_decide_eq_true (by first | (with_reducible assumption) | assumption)) (Nat.le_trans (Nat.mul_le_mul_right _ (of_decide_eq_true (by first | (with_reducible assumption) | assumption) : ji9.toNat ≤ 35184372088832)) (by omega)) (Below.refl _ _) (Nat.le_refl _) ?_
        intro v416 w16 ho17 hb hg_ hnew_
        clear hg_ hnew_
        (first | rw [← Ny415.out] at ho17 | (simp only [Int.reduceToNat] at ho17; rw [← Ny415.out] at ho17))
        have HO417 := Aside0.mk (Kd.R_lower (Kd.R_new' ho17 (Kd.R_lt (pR HO420))) (below_size (pH HB)))
        replace HO420 := Aside0.mk (Kd.R_elder' (pR HO420) (Kd.R_base ho17) hb)
        replace BK412 := sB BK412 hb
        replace HB := sH HB hb
        clear hb ho17
        refine hK.out _ _ ⟨cB BK412 0, cB BK412 1⟩ (fun hHeld => ?_)
        clear hK K
        refine nm_ ?_
        exact norm_ (by simp only [putAll, Act.put, List.setIfInBounds_toArray, List.set_cons_zero, List.set_cons_succ]) (hCont (v416, v419) _ ⟨hHeld, (by (with_reducible repeat (first | apply Kd.R_alloc | apply Kd.R_drewN | apply Kd.R_drew)); exact Kd.R_mono HO417.out (fun _ hk => hk.2)), (by (with_reducible repeat (first | apply Kd.R_alloc | apply Kd.R_drewN | apply Kd.R_drew)); exact Kd.R_mono HO420.out (fun _ hk => hk.2)), (pB BK412), (pH HB)⟩)
      rintro ⟨v416, v419⟩ w18 ⟨hS_, h0_, h1_, h2_, h3_⟩
      have n0_ : Aside0 (Kd.R (Kd.int .i64) 2 w18 w.heap.size (fun k_ => some k_ ≠ (v419 : Value).ownBlock) v416 y415) := ⟨h0_⟩
      have n1_ : Aside0 (Kd.R (Kd.int .i64) 2 w18 w.heap.size (fun k_ => some k_ ≠ (v416 : Value).ownBlock) v419 t418) := ⟨h1_⟩
      have n2_ : Aside0 (w18.heap[gb412]? = some (.cells #[.int .i64 a0_0, .slice A0_1 l0_1.length c0_1] 28 (0, 0))) := ⟨h2_⟩
      have n3_ : Aside0 (Below w.heap.size w w18) := ⟨h3_⟩
      clear BK412
      clear HB
      clear h0_ h1_ h2_ h3_
      have HO417 := n0_
      have HO420 := n1_
      have BK412 := n2_
      have HB := n3_
      clear n0_ n1_ n2_ n3_
      have hHeld : w18.cell? ⟨gb412, 0, none⟩ = some (.int .i64 a0_0) ∧ w18.cell? ⟨gb412, 1, none⟩ = some (.slice A0_1 l0_1.length c0_1) := hS_
      refine norm_ (a' := ?_) ?_ ?_
      rotate_left
      ·simp only [putAll, Act.put, List.setIfInBounds_toArray, List.set_cons_zero, List.set_cons_succ]
       rfl
      refine pu_ 6 7 127 HT_ ?_
      refine pu_ 7 8 255 HT_ ?_
      refine dn_ HT_ ?_
      try go_wp2
      go_loopg [9] k1 (fun kq v9 w' => ∃ (x7_2 : List Int) (x9_2 : Int), v9 = .int .i64 x9_2 ∧ Aside0 (spec_l02Numbers.l1 kq x7_2 t418 x9_2 = some r) ∧ Aside0 (kq ≤ k1) ∧ Aside0 (Kd.R (Kd.int .i64) 2 w' w.heap.size (fun k_ => some k_ ≠ (v419 : Value).ownBlock) v416 x7_2) ∧ Aside0 (Kd.R (Kd.int .i64) 2 w' w.heap.size (fun k_ => some k_ ≠ (v416 : Value).ownBlock) v419 t418) ∧ Aside0 (w'.heap[gb412]? = some (.cells #[.int .i64 a0_0, (.slice A0_1 l0_1.length c0_1)] 28 (0, 0))) ∧ Aside0 (Below w.heap.size w w'))
      case atStart => exact ⟨(y415), (0), (by first | rfl | (simp; done) | (simp [*]; done)), H', ⟨Nat.le_refl _⟩, ⟨by (with_reducible repeat (first | apply Kd.R_alloc | apply Kd.R_drewN | apply Kd.R_drew)); exact HO417.out⟩, ⟨by (with_reducible repeat (first | apply Kd.R_alloc | apply Kd.R_drewN | apply Kd.R_drew)); exact HO420.out⟩, ⟨pB BK412⟩, ⟨pH HB⟩⟩
      case round =>
       clear H'
       try clear c1
       try clear p2
       try clear c4
       try clear c4b0
       try clear p4
       try clear q4
       try clear hx4
       try clear c5
       try clear c5b0
       try clear p6
       try clear c7
       try clear c10
       try clear c10b0
       try clear c10b1
       try clear c11
       try clear c11b0
       try clear c11b1
       try clear c12
       try clear hcz13_0
       try clear hcz13_1
       try clear hcz8_0
       try clear hcz8_1
       try clear hfz13_0
       try clear hfz13_1
       try clear hfz8_0
       try clear hfz8_1
       try clear hx413_0
       try clear p2
       try clear p413
       try clear q413
       obtain ⟨x7_2, x9_2, rfl, HA, HK2, HO_7, HO_8, BK412, HB⟩ := hrel
       cases gk with
       | zero => exact absurd HA.out (by simp [spec_l02Numbers.l1])
       | succ k2 =>
        have H := HA.out
        clear HA
        simp only [spec_l02Numbers.l1] at H
        by_cases c19 : x9_2 < (t418.length : Int)
        ·rw [if_pos c19] at H
         have c19b0 : decide (x9_2 < (t418.length : Int)) = true := decide_eq_true c19
         clear c19
         by_cases c20 : 0 ≤ x9_2
         ·rw [if_pos c20] at H
          have c20b0 : decide (0 ≤ x9_2) = true := decide_eq_true c20
          clear c20
          replace H := Option.bind_eq_some_iff.mp H
          obtain ⟨t422, A210, H⟩ := H
          try dsimp only at H
          have A21 := Aside0.mk A210
          clear A210
          by_cases c22 : 0 ≤ t422
          ·rw [if_pos c22] at H
           have c22b0 : decide (0 ≤ t422) = true := decide_eq_true c22
           clear c22
           by_cases c23 : t422 < (x7_2.length : Int)
           ·rw [if_pos c23] at H
            have c23b0 : decide (t422 < (x7_2.length : Int)) = true := decide_eq_true c23
            clear c23
            obtain ⟨y424, hy424⟩ : ∃ y_ : List Int, y_ = (x7_2.set (t422 : Int).toNat (wrap64 ((rd x7_2 t422) + 1))) := ⟨_, rfl⟩
            replace H : (spec_l02Numbers.l1 k2 y424 t418 (wrap64 (x9_2 + 1))) = some r := by first | (rw [hy424]; with_reducible exact H) | (have H2_ := (Option.bind_some _ _).symm.trans H; rw [hy424]; with_reducible exact H2_) | (have H2_ := (Option.bind_some _ _).symm.trans H; with_reducible exact H2_) | with_reducible exact H | (rw [hy424]; exact H) | exact H
            have Ny424 := Aside0.mk hy424
            clear hy424
            have H' := Aside0.mk H
            clear H
            obtain ⟨Ao25, co25, eo25⟩ := Kd.R_slice HO_8.out
            subst eo25
            have p421 : 0 ≤ (x9_2 : Int) := of_decide_eq_true (by first | (with_reducible assumption) | assumption)
            have q421 : x9_2 < (t418.length : Int) := of_decide_eq_true (by first | (with_reducible assumption) | assumption)
            obtain ⟨ad421, e421, hx421_0⟩ := Kd.at_int (Kd.R_reads' HO_8.out).2.2 x9_2 p421 q421
            cases e421
            replace p421 := eq_true p421
            replace q421 := eq_true q421
            go_wp2_with (first | ((with_reducible refine gate_callee (f := 119) rfl ?_); refine cl_ (some 42) Try.func119 #[.int .i64 (rd t418 x9_2)] ?_; (with_reducible refine (spec_l02Dim.calls k2 (rd t418 x9_2) t422 _ A21.out).mono ?_); rintro e w' ⟨rfl, ⟨nd, rfl⟩⟩; refine ⟨_, rfl, ?_⟩; (try (rw [drewN_self wr]; generalize hq_ : World.drewN wr _ = wr; have n0_ : Aside0 (Kd.R (Kd.int .i64) 2 wr w.heap.size (fun k_ => some k_ ≠ (.slice (some ad421) t418.length co25 : Value).ownBlock) v416 x7_2) := ⟨by rw [← hq_]; exact (pR HO_7)⟩; have n1_ : Aside0 (Kd.R (Kd.int .i64) 2 wr w.heap.size (fun k_ => some k_ ≠ (v416 : Value).ownBlock) (.slice (some ad421) t418.length co25) t418) := ⟨by rw [← hq_]; exact (pR HO_8)⟩; have n2_ : Aside0 (wr.heap[gb412]? = some (.cells #[.int .i64 a0_0, .slice A0_1 l0_1.length c0_1] 28 (0, 0))) := ⟨by rw [← hq_]; exact (pB BK412)⟩; have n3_ : Aside0 (Below w.heap.size w wr) := ⟨by rw [← hq_]; exact (pH HB)⟩; clear HO_7 HO_8 BK412 HB hq_; have HO_7 := n0_; have HO_8 := n1_; have BK412 := n2_; have HB := n3_; clear n0_ n1_ n2_ n3_)); (try (have hcz26_0 : wr.cell? ⟨gb412, 0, none⟩ = some (.int .i64 a0_0) := cB BK412 0; have hcz26_1 : wr.cell? ⟨gb412, 1, none⟩ = some (.slice A0_1 l0_1.length c0_1) := cB BK412 1; have hfz26_0 := zB BK412 0; have hfz26_1 := zB BK412 1)); obtain ⟨Ao27, co27, eo27⟩ := Kd.R_slice HO_7.out; subst eo27; have p423 : 0 ≤ (t422 : Int) := of_decide_eq_true (by first | (with_reducible assumption) | assumption); have q423 : t422 < (x7_2.length : Int) := of_decide_eq_true (by first | (with_reducible assumption) | assumption); obtain ⟨ad423, e423, hx423_0⟩ := Kd.at_int (Kd.R_reads' HO_7.out).2.2 t422 p423 q423; cases e423; replace p423 := eq_true p423; replace q423 := eq_true q423; have p24 : 0 ≤ (t422 : Int) := of_decide_eq_true (by first | (with_reducible assumption) | assumption); have q24 : (t422 : Int) < ((x7_2.length : Int) : Int) := of_decide_eq_true (by first | (with_reducible assumption) | assumption); obtain ⟨go24, co24, eo24, gb24, gl24, cl24, HG24⟩ := Kd.R_form HO_7.out (by omega); (first | cases eo24 | (injection eo24 with ea_ en_ ec_; (first | subst ea_ | (injection ea_ with ea_; subst ea_)); subst ec_; clear en_)); have GB24 := Aside0.mk gb24; have GG24 := Aside0.mk HG24; clear gb24 gl24 HG24; (first | simp only [add_plain] at hx423_0 | skip); obtain ⟨hx24_0, hf24_0⟩ := Kd.R_celln 0 HO_7.out (t422 : Int) p24 q24; replace p24 := eq_true p24; replace q24 := eq_true q24; obtain ⟨hy28_, hz28_⟩ := Kd.R_celln 0 HO_7.out (t422 : Int) (of_decide_eq_true (by first | (with_reducible assumption) | assumption)) (of_decide_eq_true (by first | (with_reducible assumption) | assumption)); have HP28 := Kd.R_putg HO_7.out (t422 : Int) (wrap64 ((rd x7_2 t422) + 1))) | ((with_reducible refine gate_store (t := 2) (p := 46) rfl ?_); refine store_event (t := 2) (p := 46) (v := ?vo_w29) (w1 := (wr.setCell ⟨go24, (t422 : Int).toNat, none⟩ (.int .i64 (wrap64 ((rd x7_2 t422) + 1))))) ?hg ?ho ?hn ?hr ?_; (case ho => rfl); (case hg => rfl); (case hn => rfl); (case hr => first | (go_simp; done) | (go_simp; rfl)); intro w29 hw; have hg : wr.grownBy w29 (some go24) := (by rw [hw]; exact HP28.2); have hp_ : Kd.R (Kd.int .i64) 2 w29 w.heap.size (fun k_ => some k_ ≠ (.slice (some ad421) t418.length co25 : Value).ownBlock) (.slice (some ⟨go24, 0, none⟩) x7_2.length co27) y424 := (by rw [hw, Ny424.out]; exact HP28.1); clear HP28; have n0_ := Aside0.mk (hp_); have n1_ := Aside0.mk (Kd.R_after (v := (.slice (some ⟨go24, 0, none⟩) x7_2.length co27)) (v1 := (.slice (some ⟨go24, 0, none⟩) x7_2.length co27)) (ok := (fun _ => True)) (by (with_reducible repeat (first | apply Kd.R_alloc | apply Kd.R_drewN | apply Kd.R_drew)); exact Kd.R_mono HO_8.out (fun _ hk => ⟨trivial, hk⟩)) hg (.inl rfl)); have n2_ := Aside0.mk (blk_grown (g := gb412) (o := .cells #[.int .i64 a0_0, .slice A0_1 l0_1.length c0_1] 28 (0, 0)) (pB BK412) hg (Kd.R_ne HO_7.out BK412.out (by decide))); have n3_ := Aside0.mk ((by rw [hw]; exact below_set (HB.out) GB24.out : Below w.heap.size w w29)); clear HO_7; clear HO_8; clear BK412; clear HB; have HO_7 := n0_; have HO_8 := n1_; have BK412 := n2_; have HB := n3_; clear n0_ n1_ n2_ n3_; clear hg hw hp_))
            go_roundg k2
            case measure => have := HK1.out; have := HK2.out; omega
            case rel => exact ⟨(y424), (wrap64 (x9_2 + 1)), (by first | rfl | (simp; done) | (simp [*]; done)), H', ⟨by have := HK1.out; have := HK2.out; omega⟩, ⟨by (with_reducible repeat (first | apply Kd.R_alloc | apply Kd.R_drewN | apply Kd.R_drew)); exact HO_7.out⟩, ⟨by (with_reducible repeat (first | apply Kd.R_alloc | apply Kd.R_drewN | apply Kd.R_drew)); exact Kd.R_mono HO_8.out (fun _ hk => hk.2)⟩, ⟨pB BK412⟩, ⟨pH HB⟩⟩
           ·rw [if_neg c23] at H
            exact absurd H (by simp)
          ·rw [if_neg c22] at H
           exact absurd H (by simp)
         ·rw [if_neg c20] at H
          exact absurd H (by simp)
        ·rw [if_neg c19] at H
         have c19b0 : decide (x9_2 < (t418.length : Int)) = false := decide_eq_false c19
         clear c19
         obtain rfl := Option.some.inj H
         obtain ⟨Ao30, co30, eo30⟩ := Kd.R_slice HO_8.out
         subst eo30
         go_wp2
         go_ret
         exact ⟨_, by first | rfl | (simp [errW_none, errW_some] <;> rfl) | (simp only [← hji9]; first | rfl | (simp [errW_none, errW_some] <;> rfl)) | (simp [*, errW_none, errW_some] <;> rfl) | (exfalso; simp_all), by (with_reducible repeat (first | apply Kd.R_alloc | apply Kd.R_drewN | apply Kd.R_drew)); exact Kd.R_mono HO_7.out (fun _ hk => trivial), pH HB⟩
     ·rw [if_neg c11] at H
      exact absurd H (by simp)
    ·rw [if_neg c10] at H
     exact absurd H (by simp)
end Go.Proofs.Ytomdfjohnmikdaa.QS
namespace Go.Proofs.Ytomdfjohnmikdaa.Pu
set_option linter.unusedVariables false
set_option linter.unusedSimpArgs false
open Go.RowKit Go.Proofs.Ytomdfjohnmikdaa.Kp Go.Proofs.Ytomdfjohnmikdaa.Ext Go.Proofs.Ytomdfjohnmikdaa.QS Go.Proofs.Ytomdfjohnmikdaa.Im Go.Proofs.YtomdfjohnmikdaaW.PrintWords Go.Proofs.YtomdfjohnmikdaaW.PrintLast Go.Proofs.YtomdfjohnmikdaaW.PrintMore
/-- How many faces of l have j + 1 vertices, for each j below D. -/
def cntL (D : Nat) (l : List Int) : List Int := (List.range D).map fun j => ((l.filter fun x => onesZ x == ((j + 1 : Nat) : Int)).length : Int)
theorem cntL_len (D : Nat) (l : List Int) : (cntL D l).length = D := by simp [cntL]
theorem cntL_at {D j : Nat} (l : List Int) (h : j < D) : (cntL D l)[j]? = some ((l.filter fun x => onesZ x == ((j + 1 : Nat) : Int)).length : Int) := by simp [cntL, h]
theorem cntL_nil (D : Nat) : cntL D [] = List.replicate D 0 := by
  refine List.ext_getElem? fun j => ?_
  rcases Nat.lt_or_ge j D with h | h
  · rw [cntL_at [] h]; simp [h]
  · rw [List.getElem?_eq_none (by rw [cntL_len]; exact h), List.getElem?_eq_none (by simp; exact h)]
theorem cntL_snoc {D d : Nat} (l : List Int) (x : Int) (hd : d < D) (hx : onesZ x = ((d + 1 : Nat) : Int)) : (cntL D l).set d ((cntL D l)[d]?.getD 0 + 1) = cntL D (l ++ [x]) := by
  refine List.ext_getElem? fun j => ?_
  rcases Nat.lt_or_ge j D with h | h
  · rw [cntL_at (l ++ [x]) h, List.filter_append, List.length_append, cntL_at l hd]
    by_cases e : d = j
    · subst e
      rw [List.getElem?_set_self (by rw [cntL_len]; exact h)]
      simp [hx]
    · rw [List.getElem?_set_ne e, cntL_at l h]
      have : (onesZ x == ((j + 1 : Nat) : Int)) = false := by rw [hx]; simp; omega
      rw [List.filter_cons_of_neg (a := x) (l := []) (by rw [this]; exact Bool.false_ne_true), List.filter_nil]; simp
  · rw [List.getElem?_eq_none (by rw [List.length_set, cntL_len]; exact h), List.getElem?_eq_none (by rw [cntL_len]; exact h)]
theorem cntL_le {D d : Nat} (l : List Int) : (cntL D l)[d]?.getD 0 ≤ (l.length : Int) ∧ 0 ≤ (cntL D l)[d]?.getD 0 := by
  rcases Nat.lt_or_ge d D with h | h
  · rw [cntL_at l h]
    have := List.length_filter_le (fun x => onesZ x == ((d + 1 : Nat) : Int)) l
    simp only [Option.getD_some]; omega
  · rw [List.getElem?_eq_none (by rw [cntL_len]; exact h)]; simp
theorem ones1_all : ((List.range 64).all fun f => f == 0 || decide (1 ≤ onesZ (f : Int))) = true := by decide +kernel
theorem ones1 {x : Int} (h : 1 ≤ x ∧ x ≤ 63) : 1 ≤ onesZ x := by
  obtain ⟨m, rfl⟩ := Int.eq_ofNat_of_zero_le (show 0 ≤ x by omega)
  have h2 := List.all_eq_true.1 ones1_all m (List.mem_range.2 (by omega))
  have h0 : (m == 0) = false := by simp; omega
  rw [h0, Bool.false_or] at h2
  exact of_decide_eq_true h2
theorem foldmx_ge (g : Int → Int) : ∀ (l : List Int) (a : Int), a ≤ l.foldl (fun a x => max a (g x)) a ∧ ∀ x ∈ l, g x ≤ l.foldl (fun a x => max a (g x)) a
  | [], a => ⟨Int.le_refl _, fun x hx => by cases hx⟩
  | x :: l, a => by
    rw [List.foldl_cons]
    obtain ⟨h1, h2⟩ := foldmx_ge g l (max a (g x))
    refine ⟨by have := Int.le_max_left a (g x); omega, fun y hy => ?_⟩
    rcases List.mem_cons.1 hy with rfl | hy
    · have := Int.le_max_right a (g y); omega
    · exact h2 y hy
theorem foldmx_hit (g : Int → Int) : ∀ (l : List Int) (a : Int), l.foldl (fun a x => max a (g x)) a = a ∨ ∃ x ∈ l, g x = l.foldl (fun a x => max a (g x)) a
  | [], a => .inl rfl
  | x :: l, a => by
    rw [List.foldl_cons]
    rcases foldmx_hit g l (max a (g x)) with h | ⟨y, hy, h⟩
    · rw [h]
      rcases Int.le_total a (g x) with h1 | h1
      · rw [Int.max_eq_right h1]
        exact .inr ⟨x, by simp, rfl⟩
      · rw [Int.max_eq_left h1]
        exact .inl rfl
    · exact .inr ⟨y, by simp [hy], h⟩
theorem dim_rng (l : List Int) : -1 ≤ dimL l ∧ dimL l ≤ 5 ∧ ∀ x ∈ l, onesZ x ≤ dimL l + 1 := by
  obtain ⟨h1, h2⟩ := foldmx_ge (fun x => onesZ x - 1) l (-1)
  refine ⟨h1, ?_, fun x hx => ?_⟩
  · rcases foldmx_hit (fun x => onesZ x - 1) l (-1) with h | ⟨x, _, h⟩
    · unfold dimL; omega
    · have h3 : onesZ x - 1 = dimL l := h
      have := ones_le x
      omega
  · have := h2 x hx
    have h3 : onesZ x - 1 ≤ dimL l := this
    omega
theorem ev_dim2 {x : Int} (h1 : 1 ≤ x) (h2 : x ≤ 63) : Ev (fun k => spec_l02Dim.f k x) (onesZ x - 1) := by
  have := ones_le x
  unfold spec_l02Dim.f
  refine Ev.bind (ev_ones (by omega) (by omega)) ?_
  have h : wrap64 (onesZ x - 1) = onesZ x - 1 := w64 (by have := ones1 ⟨h1, h2⟩; omega) (by omega)
  rw [h]
  exact Ev.now _
theorem num_l1 (D : Nat) (l : List Int) (hr : ∀ x ∈ l, (1 ≤ x ∧ x ≤ 63) ∧ 1 ≤ onesZ x ∧ onesZ x ≤ (D : Int)) (hm : l.length ≤ 1048576) :
    ∀ d (i : Nat), l.length - i = d → i ≤ l.length → Ev (fun k => spec_l02Numbers.l1 k (cntL D (l.take i)) l (i : Int)) (cntL D l) := by
  intro d
  induction d with
  | zero =>
    intro i hd hi
    rw [List.take_of_length_le (by omega)]
    refine Ev.step (f := fun k => some (cntL D l)) (fun k => ?_) (Ev.now _)
    simp only [spec_l02Numbers.l1]; rw [if_neg (by omega)]
  | succ d ih =>
    intro i hd hi
    have hi' : i < l.length := by omega
    obtain ⟨hx, hx1, hx2⟩ := hr _ (List.getElem_mem hi')
    obtain ⟨e, he⟩ : ∃ e : Nat, onesZ l[i] = ((e + 1 : Nat) : Int) := ⟨(onesZ l[i]).toNat - 1, by omega⟩
    have heD : e < D := by omega
    have hle := cntL_le (D := D) (d := e) (l.take i)
    rw [List.length_take] at hle
    have hlen := cntL_len D (l.take i)
    refine Ev.step (f := fun k => (spec_l02Dim.f k l[i]).bind fun t => if 0 ≤ t then (if t < ((cntL D (l.take i)).length : Int) then spec_l02Numbers.l1 k ((cntL D (l.take i)).set t.toNat (wrap64 (rd (cntL D (l.take i)) t + 1))) l ((i + 1 : Nat) : Int) else none) else none) (fun k => ?_) ?_
    · simp only [spec_l02Numbers.l1]
      rw [if_pos (by omega), if_pos (by omega), rd_at hi', succ64 (by omega)]
    · refine Ev.bind (ev_dim2 hx.1 hx.2) ?_
      rw [he, show ((e + 1 : Nat) : Int) - 1 = (e : Int) by omega]
      simp only [if_pos (show (0 : Int) ≤ (e : Int) by omega), if_pos (show (e : Int) < ((cntL D (l.take i)).length : Int) by omega), Int.toNat_natCast]
      have hrd : rd (cntL D (l.take i)) (e : Int) = (cntL D (l.take i))[e]?.getD 0 := by rw [rd_at (by omega), List.getElem?_eq_getElem (by omega)]; rfl
      rw [hrd, w64 (by omega) (by omega), cntL_snoc (l.take i) l[i] heD he, ← List.take_succ_eq_append_getElem hi']
      exact ih (i + 1) (by omega) (by omega)
theorem num_l0 {n : Int} {xs : List Int} (hi : isC n xs = true) {l : List Pr} (hl : l.length ≤ 1048576) : ∀ d (i : Nat) (a : Int), xs.length - i = d → i ≤ xs.length → (xs.drop i).foldl (fun a x => max a (onesZ x - 1)) a = dimL xs → -1 ≤ a ∧ a ≤ 5 → Ev (fun k => spec_l02Numbers.l0 k l a (i : Int) n xs) (cntL (dimL xs + 1).toNat (critL xs l)) := by
  have hs := isC_small hi
  have h63 := isC_63 hi
  obtain ⟨d1, d2, d3⟩ := dim_rng xs
  intro d
  induction d with
  | zero =>
    intro i a hd hil hf ha
    rw [List.drop_eq_nil_of_le (by omega)] at hf
    have hf' : a = dimL xs := hf
    subst hf'
    have hcl : (critL xs l).length ≤ xs.length := List.length_filter_le _ _
    have hcm : ∀ x ∈ critL xs l, x ∈ xs := fun x hx => (List.mem_filter.1 hx).1
    obtain ⟨D, hD⟩ := Int.eq_ofNat_of_zero_le (show 0 ≤ dimL xs + 1 by omega)
    refine Ev.step (f := fun k => (spec_l02Critical.f k n xs l).bind fun t => spec_l02Numbers.l1 k (List.replicate D 0) t 0) (fun k => ?_) ?_
    · simp only [spec_l02Numbers.l0]
      rw [if_neg (by omega), w64 (by omega) (by omega), hD, if_pos (by omega), if_pos (by omega), Int.toNat_natCast]
    · refine Ev.bind (ev_crit n (by omega) hl) ?_
      rw [hD, Int.toNat_natCast]
      have := num_l1 D (critL xs l) (fun x hx => ⟨h63 x (hcm x hx), ones1 (h63 x (hcm x hx)), by have := d3 x (hcm x hx); omega⟩) (by omega) _ 0 rfl (Nat.zero_le _)
      rw [List.take_zero, cntL_nil] at this
      exact this
  | succ d ih =>
    intro i a hd hil hf ha
    have hi' : i < xs.length := by omega
    have hx := h63 _ (List.getElem_mem hi')
    have h1 := ones_le xs[i]
    have h2 := ones1 hx
    rw [List.drop_eq_getElem_cons hi', List.foldl_cons] at hf
    refine Ev.step (f := fun k => (spec_l02Dim.f k xs[i]).bind fun t => spec_l02Numbers.l0 k l (mx a t) ((i + 1 : Nat) : Int) n xs) (fun k => ?_) (Ev.bind (ev_dim2 hx.1 hx.2) ?_)
    · simp only [spec_l02Numbers.l0]
      rw [if_pos (by omega), if_pos (by omega), rd_at hi', succ64 (by omega)]
    · rw [show mx a (onesZ xs[i] - 1) = max a (onesZ xs[i] - 1) by unfold mx; split <;> omega]
      exact ih (i + 1) _ (by omega) (by omega) hf (by omega)
theorem ev_numbers {n : Int} {xs : List Int} (hi : isC n xs = true) {l : List Pr} (hl : l.length ≤ 1048576) : Ev (fun k => spec_l02Numbers.f k n xs l) (cntL (dimL xs + 1).toNat (critL xs l)) := by
  unfold spec_l02Numbers.f
  exact num_l0 hi hl _ 0 (-1) rfl (Nat.zero_le _) rfl (by omega)
end Go.Proofs.Ytomdfjohnmikdaa.Pu
namespace Go.Proofs.Ytomdfjohnmikdaa.Im
set_option linter.unusedVariables false
set_option linter.unusedSimpArgs false
open Go.RowKit Go.Shelf Go.Proofs.Ytomdfjohnmikdaa.Kp Go.Proofs.Ytomdfjohnmikdaa.Cw Go.Proofs.Ytomdfjohnmikdaa.Ext Go.Proofs.Ytomdfjohnmikdaa.Pu Go.Proofs.YtomdfjohnmikdaaW.PrintWords Go.Proofs.YtomdfjohnmikdaaW.PrintLast Go.Proofs.YtomdfjohnmikdaaW.PrintMore
def dimN (xs : List Int) : Nat := (dimL xs + 1).toNat
def numL (xs : List Int) (l : List Pr) : List Int := cntL (dimN xs) (critL xs l)
theorem dimN_le (xs : List Int) : dimN xs ≤ 6 := by
  have := dim_rng xs
  unfold dimN; omega
theorem num_good {n : Int} {xs : List Int} (hi : isC n xs = true) (l : List Pr) : GoodR (dimN xs) (numL xs l) := by
  refine ⟨cntL_len _ _, fun x hx => ?_⟩
  obtain ⟨j, hj, rfl⟩ := List.mem_iff_getElem.1 hx
  have h1 := cntL_le (D := dimN xs) (d := j) (critL xs l)
  have h2 : (critL xs l).length ≤ xs.length := List.length_filter_le _ _
  have h3 := isC_small hi
  have h4 : (numL xs l)[j]?.getD 0 = (numL xs l)[j] := by rw [List.getElem?_eq_getElem hj]; rfl
  unfold numL at h4 ⊢
  rw [h4] at h1
  omega
/-- What the search keeps. -/
structure GoS where
  count : Int
  most : Int
  best : List Pr
  found : List (List Int)
def updG (xs : List Int) (s : GoS) (l : List Pr) : GoS := ⟨wrap64 (s.count + 1), if s.most < (l.length : Int) then l.length else s.most, if s.most < (l.length : Int) then l else s.best, putV s.found (numL xs l)⟩
def GoPost (W w0 : World) (y : Nat) (n : Int) (A : Option Addr) (c : Nat) (xs : List Int) (va : Value) (all : List Pr) (top : Int) (S : GoS) (e : Ending) (w' : World) : Prop :=
  e = .returned (.tuple #[]) ∧ (∃ (vb vf : Value) (vs : List Value), SS w' w0 y n A c xs.length va all vb S.best S.count S.most top true vf vs S.found) ∧ GoodV (dimN xs) S.found ∧ KeepT W w'
def GoOk (w0 : World) (y : Nat) (n : Int) (A : Option Addr) (c : Nat) (xs : List Int) (va : Value) (all : List Pr) (top : Int) (d : Nat) : Prop :=
  ∀ (l : List Pr) (s : GoS) (v : Value) (i : Nat) (W : World) (vb vf : Value) (vs : List Value), SS W w0 y n A c xs.length va all vb s.best s.count s.most top true vf vs s.found → GoodV (dimN xs) s.found → PO W w0.heap.size v l → pairingB xs l = true → i ≤ all.length → all.length - i = d →
    Calls Try.prog 126 #[.pointer (some ⟨y, 0, none⟩), v, .int .i64 i] W (GoPost W w0 y n A c xs va all top ((enumL xs (all.drop i) l).foldl (updG xs) s))
set_option maxRecDepth 100000 in
set_option maxHeartbeats 8000000 in
theorem go_step (w0 : World) (y : Nat) (n : Int) (A : Option Addr) (c : Nat) (xs : List Int) (va : Value) (all : List Pr) (top : Int) (hr : RC w0 A xs.length xs) (hc : xs.length ≤ c) (hi : isC n xs = true) (hal : all.length ≤ 1048576) (d : Nat)
    (ih : ∀ d' < d, GoOk w0 y n A c xs va all top d') : GoOk w0 y n A c xs va all top d := by
  intro l s v i W vb vf vs hss hgv hl hpl hil hd
  obtain ⟨R, hR⟩ : ∃ R, (enumL xs (all.drop i) l).foldl (updG xs) s = R := ⟨_, rfl⟩
  have HR0 : Aside0 (R = (subsL xs (all.drop i) l).foldl (updG xs) (updG xs s l)) := ⟨hR.symm⟩
  rw [hR]
  have hll := pairing_len hi hpl
  obtain ⟨ct, mo, be, fo⟩ := s
  obtain ⟨c1, hc1⟩ : ∃ c1, wrap64 (ct + 1) = c1 := ⟨_, rfl⟩
  have hw1 : IntKind.i64.wrap (ct + 1) = c1 := by rw [IntKind.wrap_i64]; unfold wrap64 at hc1; omega
  have HC1 := Aside0.mk hc1
  have HS := Aside0.mk hss
  have HGV := Aside0.mk hgv
  have HL := Aside0.mk hl
  have HPL := Aside0.mk hpl
  have HIH := Aside0.mk ih
  have HR := Aside0.mk hr
  have HC := Aside0.mk hc
  have HI := Aside0.mk hi
  have HD := Aside0.mk hd
  obtain ⟨Al, cl, rfl⟩ := Kd.R_slice hl
  obtain ⟨Aa, ca, rfl⟩ := Kd.R_slice hss.ra
  have hc4 := hss.c4
  have hf4 := hss.fz 4
  clear hss hgv hl hpl ih hr hc hi hd hR
  go_enter Try.func126, Try.ntmps126
  go_upto_region 1 with fail
  have HS1 := Aside0.mk (HS.out.setCount c1)
  have HK1 := Aside0.mk (HS.out.keep 4 (.int .i64 c1))
  have HL1 := Aside0.mk (PO.keep HL.out HK1.out)
  clear HS HL hc4 hf4 hw1
  simp only [] at HS1
  generalize W.setCell ⟨y, 4, none⟩ (.int .i64 c1) = W1 at HS1 HK1 HL1 ⊢
  have hc5 := HS1.out.c5
  by_cases hgt : mo < (l.length : Int)
  · have HU : Aside0 (updG xs ⟨ct, mo, be, fo⟩ l = ⟨c1, (l.length : Int), l, putV fo (numL xs l)⟩) := ⟨by unfold updG; simp only [if_pos hgt, HC1.out]⟩
    have hf5 := HS1.out.fz 5
    go_upto_region 3 with fail
    have HS2 := Aside0.mk (HS1.out.setMost (l.length : Int))
    have HK2 := Aside0.mk (HK1.out.trans (HS1.out.keep 5 (.int .i64 (l.length : Int))))
    have HL2 := Aside0.mk (PO.keep HL1.out (HS1.out.keep 5 (.int .i64 (l.length : Int))))
    clear HS1 HL1 HK1 hc5 hf5 hc1
    generalize W1.setCell ⟨y, 5, none⟩ (.int .i64 (l.length : Int)) = W2 at HS2 HK2 HL2 ⊢
    have HO3 := Aside0.mk (PO.made W2 W2.heap.size 0 #[] (Nat.le_refl _) (Nat.zero_le _) rfl)
    have HB3 : Aside0 (Below W2.heap.size W2 (W2.alloc (.cells #[] 73))) := ⟨below_alloc (Below.refl _ _) _⟩
    have HRL : Aside0 (Kd.C k73 (W2.alloc (.cells #[] 73)) Al l.length l) := ⟨(Kd.R_reads' (Kd.R_alloc HL2.out _)).2.2⟩
    go_upto_region 4 with (at_builtin; refine apPs W2.heap.size rfl (.tmp 29) (.tmp 30) rfl _ [] l Al l.length cl rfl rfl HO3.out HRL.out HB3.out HB3.out.size (by simp <;> omega) ?_; intro v4 w4 ho hb hg hat; clear hat hg; rw [List.nil_append] at ho; have HV4 := Aside0.mk (Kd.R_lower ho HS2.out.hb.size); have HS3 := Aside0.mk (HS2.out.below hb); have HL3 := Aside0.mk (Kd.R_below HL2.out hb); have HK3 := Aside0.mk (HK2.out.trans (KeepT.below hb)); obtain ⟨A4, c4, rfl⟩ := Kd.R_slice HV4.out; have hc3 := HS3.out.c3; have hf3 := HS3.out.fz 3; clear ho hb HS2 HL2 HK2 HO3 HB3 HRL)
    have HS4 := Aside0.mk (HS3.out.setBest HV4.out)
    have HK4 := Aside0.mk (HK3.out.trans (HS3.out.keep 3 (.slice A4 l.length c4)))
    have HL4 := Aside0.mk (PO.keep HL3.out (HS3.out.keep 3 (.slice A4 l.length c4)))
    clear HS3 HL3 HK3 hc3 hf3 HV4
    generalize w4.setCell ⟨y, 3, none⟩ (.slice A4 l.length c4) = W4 at HS4 HK4 HL4 ⊢
    have hc7 := HS4.out.c7
    go_upto_region 5 with fail
    clear hc7
    have HUU : Aside0 (R = (subsL xs (all.drop i) l).foldl (updG xs) _) := ⟨HR0.out.trans (by rw [HU.out])⟩
    clear HR0 HU
    obtain ⟨Af, cf, rfl⟩ := HS4.out.rv.slice
    have hc8 := HS4.out.c8
    have hk0 := HS4.out.c0
    have hk1 := HS4.out.c1
    obtain ⟨kn, hkn⟩ := (ev_numbers HI.out (l := l) (by omega)).rounds
    have HKN : Aside0 (QS.spec_l02Numbers.f kn n xs l = some (numL xs l)) := ⟨hkn⟩
    have HNG := Aside0.mk (num_good HI.out l)
    have HFL : Aside0 (vs.length ≤ 137438953472) := ⟨by have h1 := HS4.out.ri.1; have h2 := HGV.out.len (dimN_le xs); simp only at h2; omega⟩
    have HNL : Aside0 ((numL xs l).length ≤ 1000) := ⟨by rw [HNG.out.1]; have := dimN_le xs; omega⟩
    clear hkn
    refine st_ 15 (S := fun w' => w'.cell? ⟨y, 8, none⟩ = some (.slice Af vs.length cf) ∧ w'.cell? ⟨y, 0, none⟩ = some (.int .i64 n) ∧ w'.cell? ⟨y, 1, none⟩ = some (.slice A xs.length c)) (ds := [14]) ⟨hc8, hk0, hk1⟩ (fun hHeld => ?_)
    refine with_tabW (T := (true, [([], []), ([], []), ([1], [1]), ([2], [2]), ([3], [3]), ([], []), ([5], [5]), ([6], [6]), ([7], [7]), ([], []), ([8, 9], [8, 9]), ([4, 10, 10], [4, 10]), ([0, 0, 1, 2, 3, 4, 5, 6, 7, 8, 9, 10, 11], [0]), ([12, 0, 1, 2, 3, 4, 5, 6, 7, 8, 9, 10, 11], [12]), ([13, 11, 11, 0, 1, 2, 3, 4, 5, 6, 7, 8, 9, 10, 11], [11, 13])])) (B := [0, 0, 2, 6, 14, 0, 32, 96, 224, 0, 992, 2046, 4095, 8191, 16383]) (by kernel_rfl) (by kernel_rfl) (fun HT_ HW_ => ?_)
    refine pd_ 0 38 1 HT_ ?_
    refine pd_ 1 39 3 HT_ ?_
    refine pd_ 2 40 7 HT_ ?_
    refine pd_ 3 41 15 HT_ ?_
    refine pd_ 5 43 47 HT_ ?_
    refine pd_ 6 44 111 HT_ ?_
    refine pd_ 7 45 239 HT_ ?_
    refine pd_ 9 47 751 HT_ ?_
    refine tk_ 4 42 767 HT_ HW_ hHeld ?_
    refine tk_ 8 46 1023 HT_ HW_ hHeld ?_
    refine on_ 10 (some 48) 2047 HT_ (fun K hK => ?_)
    refine ca_ Try.func71 #[.agg #[.int .i64 n, .slice A xs.length c], .slice Al l.length cl] ?_
    refine (QS.spec_l02Numbers.calls kn n A c xs Al cl l (numL xs l) _ (Kd.C_below HR.out HS4.out.drew.hb) HC.out (Kd.R_reads' (Kd.R_drew HL4.out)).2.2 (Kd.R_reads' HL4.out).2.1 HKN.out).mono ?_; rintro e w5 ⟨v5, rfl, hv, hb⟩; have hb0 : Below W4.heap.size W4 w5 := (below_drew (Below.refl _ _)).trans hb; have HV5 := Aside0.mk (Kd.R_lower hv HS4.out.drew.hb.size); have HS5 := Aside0.mk (HS4.out.below hb0); have HL5 := Aside0.mk (Kd.R_below HL4.out hb0); have HK5 := Aside0.mk (HK4.out.trans (KeepT.below hb0)); clear hv hb hb0 HS4 HL4 HK4 hc8 hk0 hk1; obtain ⟨A5, c5, rfl⟩ := Kd.R_slice HV5.out
    refine ⟨_, rfl, ?_⟩
    refine hK.out _ _ ⟨HS5.out.c8, HS5.out.c0, HS5.out.c1⟩ (fun hHeld => ?_)
    clear hK K
    refine nm_ ?_
    refine on_ 11 (some 49) 4095 HT_ (fun K hK => ?_)
    refine ca_ Try.func171 #[.slice Af vs.length cf, .slice A5 (numL xs l).length c5] ?_
    refine (lput_c w0.heap.size Af cf vs fo A5 c5 (numL xs l) _ HS5.out.rv HS5.out.ri HV5.out (fun r hr => (HGV.out.2 r hr).1.trans HNG.out.1.symm) HNL.out HFL.out HS5.out.hb.size).mono ?_; rintro e w6 ⟨v6, us, rfl, hv, hi, hb⟩; obtain ⟨A6, c6, rfl⟩ := hv.slice; have HV6 := Aside0.mk hv; have HI6 := Aside0.mk hi; have HS6 := Aside0.mk (HS5.out.below hb); have HL6 := Aside0.mk (Kd.R_below HL5.out hb); have HK6 := Aside0.mk (HK5.out.trans (KeepT.below hb)); clear hv hi hb HS5 HL5 HK5 HV5
    refine ⟨_, rfl, ?_⟩
    refine hK.out _ _ ⟨HS6.out.c8, HS6.out.c0, HS6.out.c1⟩ (fun hHeld => ?_)
    clear hK K
    refine nm_ ?_
    refine pd_ 12 50 8191 HT_ ?_
    refine pd_ 13 51 16383 HT_ ?_
    refine la_ 14 none 32767 HT_ (fun K hK => ?_)
    (have hc8' := HS6.out.c8; have hf8' := HS6.out.fz 8; refine skip_ (by rfl) rfl (w1 := w6.setCell ⟨y, 8, none⟩ (.slice A6 us.length c6)) (by go_simp) ?_; clear hc8' hf8')
    refine hK.out _ _ ?_
    clear hK K
    refine dn_ HT_ ?_
    have HS7 := Aside0.mk (HS6.out.setFound HV6.out HI6.out)
    have HK7 := Aside0.mk (HK6.out.trans (HS6.out.keep 8 (.slice A6 us.length c6)))
    have HL7 := Aside0.mk (PO.keep HL6.out (HS6.out.keep 8 (.slice A6 us.length c6)))
    have HG7 := Aside0.mk (HGV.out.put HNG.out)
    simp only [] at HG7
    clear HS6 HK6 HL6 HV6 HI6 HGV HNG HNL HFL HKN
    generalize w6.setCell ⟨y, 8, none⟩ (.slice A6 us.length c6) = W7 at HS7 HK7 HL7 ⊢
    go_wp2
    go_loopw [6] (fun s6 wr => ∃ (j : Nat) (s : GoS) (vb vf : Value) (vs : List Value), j ≤ all.length ∧ i ≤ j ∧ s6 = .int .i64 j ∧ Aside0 (R = (subsL xs (all.drop j) l).foldl (updG xs) s) ∧ Aside0 (SS wr w0 y n A c xs.length (.slice Aa all.length ca) all vb s.best s.count s.most top true vf vs s.found) ∧ Aside0 (GoodV (dimN xs) s.found) ∧ Aside0 (PO wr w0.heap.size (.slice Al l.length cl) l) ∧ Aside0 (KeepT W wr)) (fun s6 _ => all.length - (intOf s6).toNat)
    case atStart => exact ⟨i, _, _, _, _, hil, Nat.le_refl _, rfl, HUU, HS7, HG7, HL7, HK7⟩
    case round =>
      clear HUU HS7 HG7 HL7 HK7
      obtain ⟨j, s, vb, vf, vs, hj, hij, rfl, HR0, HS, HGV, HL, HK⟩ := hrel
      have hc2 := HS.out.c2
      by_cases hlt : j < all.length
      · have hltz : (j : Int) < (all.length : Int) := by omega
        have hc7 := HS.out.c7
        go_upto_region 9 with fail
        refine st_ 23 (S := fun w' => w'.cell? ⟨y, 7, none⟩ = some (.bool true)) (ds := []) hc7 (fun hHeld => ?_)
        refine with_tabW (T := (true, [([], []), ([0], [0]), ([1], [1]), ([2], [2]), ([3], [3]), ([4], [4]), ([5], [5]), ([6, 5], [5, 6]), ([7, 5], [5, 7]), ([8, 5], [5, 8]), ([5], [5]), ([10, 5], [5, 10]), ([11, 5], [5, 11]), ([12, 5], [5, 12]), ([9, 13, 5], [5, 9, 13]), ([14, 5, 5], [5, 14]), ([15], [15]), ([15], [15]), ([15], [15]), ([16, 17, 18, 15, 15], [15, 16, 17, 18]), ([19, 15], [15, 19]), ([15, 20, 5], [5, 15, 20]), ([5, 21], [5, 21])])) (B := [0, 1, 3, 7, 15, 31, 63, 127, 255, 511, 63, 1087, 3135, 7231, 16383, 32767, 65535, 65535, 65535, 524287, 1048575, 2097151, 4194303]) (by kernel_rfl) (by kernel_rfl) (fun HT_ HW_ => ?_)
        refine pd_ 0 62 1 HT_ ?_
        refine pd_ 1 63 3 HT_ ?_
        refine pd_ 2 64 7 HT_ ?_
        refine tk_ 3 65 15 HT_ HW_ hHeld ?_
        refine pd_ 4 66 31 HT_ ?_
        refine pd_ 5 67 63 HT_ ?_
        refine pn_ 6 68 127 HT_ ?_
        refine pn_ 7 69 255 HT_ ?_
        refine pn_ 8 70 511 HT_ ?_
        refine pn_ 9 71 1023 HT_ ?_
        refine pn_ 10 72 2047 HT_ ?_
        refine pn_ 11 73 4095 HT_ ?_
        refine pn_ 12 74 8191 HT_ ?_
        refine pn_ 13 75 16383 HT_ ?_
        refine pn_ 14 76 32767 HT_ ?_
        refine pn_ 15 77 65535 HT_ ?_
        refine pn_ 16 78 131071 HT_ ?_
        refine pn_ 17 79 262143 HT_ ?_
        refine pn_ 18 80 524287 HT_ ?_
        refine pn_ 19 81 1048575 HT_ ?_
        refine pn_ 20 82 2097151 HT_ ?_
        refine pn_ 21 83 4194303 HT_ ?_
        refine pd_ 22 84 8388607 HT_ ?_
        refine dn_ HT_ ?_
        clear hc7 hc2
        go_upto_region 10 with fail
        have HS9 := Aside0.mk HS.out.drew
        have HL9 := Aside0.mk (Kd.R_drew HL.out)
        have HK9 := Aside0.mk (HK.out.trans (KeepT.below (below_drew (Below.refl _ _))))
        clear HS HL HK
        generalize wr.drew = W9 at HS9 HL9 HK9 ⊢
        obtain ⟨ad, rfl, hp0, hp1⟩ := at_T73 (Kd.R_reads' HS9.out.ra).2.2 (j : Int) (by omega) (by omega)
        obtain ⟨p, hp⟩ : ∃ p, rd_T73 all (j : Int) = p := ⟨_, rfl⟩
        have hpj : all[j] = p := by rw [← rdP_at hlt, hp]
        rw [hp, show ((j : Int)).toNat = j by omega] at hp0 hp1
        have hk0 := HS9.out.c0
        have hk1 := HS9.out.c1
        have hc2 := HS9.out.c2
        obtain ⟨j1, hj1⟩ : ∃ j1 : Nat, j1 = j + 1 := ⟨_, rfl⟩
        have hw1 : IntKind.i64.wrap ((j : Int) + 1) = (j1 : Int) := by rw [IntKind.wrap_i64]; omega
        have HJ1 := Aside0.mk hj1
        obtain ⟨kw, hkw⟩ := (ev_with HI.out (sorted_of HPL.out) (by omega) p).rounds
        have HKW := Aside0.mk hkw
        obtain ⟨q, hq⟩ : ∃ q, withP l p = q := ⟨_, rfl⟩
        rw [hq] at HKW
        have HPJ := Aside0.mk hpj
        have HQ := Aside0.mk hq
        clear hkw hp hpj hj1 hq
        cases hpb : pairingB xs q with
        | false =>
          have HOK : Aside0 (okP xs l p = false) := ⟨by unfold okP; rw [HQ.out, hpb]; rfl⟩
          rw [hpb] at HKW
          clear hpb
          have HRN := Aside0.mk (HR0.out.trans (by rw [subs_no hlt (by rw [HPJ.out]; exact HOK.out), ← HJ1.out]))
          clear HR0 HOK
          refine st_ 18 (S := fun w' => w'.cell? ⟨y, 0, none⟩ = some (.int .i64 n) ∧ w'.cell? ⟨y, 1, none⟩ = some (.slice A xs.length c) ∧ w'.cell? ⟨y, 2, none⟩ = some (.slice (some ad) all.length ca) ∧ w'.cell? (ad.add (j * 2)) = some (.int .i64 p.f0) ∧ w'.cell? ⟨(ad.add (j * 2)).block, (ad.add (j * 2)).off + 1, none⟩ = some (.int .i64 p.f1)) (ds := [12]) ⟨hk0, hk1, hc2, hp0, hp1⟩ (fun hHeld => ?_)
          refine with_tabW (T := (true, [([], []), ([0], [0]), ([1], [1]), ([2], [2]), ([], []), ([], []), ([5], [5]), ([6], [6]), ([7], [7]), ([], []), ([8, 9], [8, 9]), ([10], [10]), ([3, 4, 11], [3, 4, 11]), ([12], [12]), ([13], [13]), ([13], [13]), ([14, 12, 0, 1, 2, 3, 4, 5, 6, 7, 8, 9, 10, 11, 12, 13, 14], [14]), ([15, 16, 0, 1, 2, 3, 4, 5, 6, 7, 8, 9, 10, 11, 12, 13, 14, 15, 16], [15])])) (B := [0, 1, 3, 7, 0, 0, 32, 96, 224, 0, 992, 2016, 4095, 8191, 16383, 16383, 32767, 131071]) (by kernel_rfl) (by kernel_rfl) (fun HT_ HW_ => ?_)
          refine pd_ 0 86 1 HT_ ?_
          refine pd_ 1 87 3 HT_ ?_
          refine pd_ 2 88 7 HT_ ?_
          refine pd_ 4 90 23 HT_ ?_
          refine pd_ 5 91 55 HT_ ?_
          refine pd_ 6 92 119 HT_ ?_
          refine pd_ 7 93 247 HT_ ?_
          refine pd_ 9 95 759 HT_ ?_
          refine tk_ 3 89 767 HT_ HW_ hHeld ?_
          refine tk_ 8 94 1023 HT_ HW_ hHeld ?_
          refine pd_ 10 96 2047 HT_ ?_
          refine tk_ 11 97 4095 HT_ HW_ hHeld ?_
          refine la_ 12 (some 98) 8191 HT_ (fun K hK => ?_)
          refine ca_ Try.func111 #[.agg #[.int .i64 n, .slice A xs.length c], .slice Al l.length cl, .agg #[.int .i64 p.f0, .int .i64 p.f1]] ?_
          refine (QS.spec_l02With.calls kw n A c xs Al cl l p.f0 p.f1 q false _ (Kd.C_below HR.out HS9.out.drew.hb) HC.out (Kd.R_reads' (Kd.R_drew HL9.out)).2.2 (Kd.R_reads' HL9.out).2.1 HKW.out).mono ?_; rintro e w5 ⟨v5, rfl, hv, hb⟩; have hb0 : Below W9.heap.size W9 w5 := (below_drew (Below.refl _ _)).trans hb; have HV5 := Aside0.mk (Kd.R_lower hv HS9.out.drew.hb.size); have HS5 := Aside0.mk (HS9.out.below hb0); have HL5 := Aside0.mk (Kd.R_below HL9.out hb0); have HK5 := Aside0.mk (HK9.out.trans (KeepT.below hb0)); clear hv hb hb0 HS9 HL9 HK9 hp0 hp1 hk0 hk1 hc2
          refine ⟨_, rfl, ?_⟩
          refine hK.out _ _ ?_
          clear hK K
          refine nm_ ?_
          refine pd_ 13 85 16383 HT_ ?_
          refine pd_ 14 99 32767 HT_ ?_
          refine pd_ 15 100 65535 HT_ ?_
          refine pd_ 16 7 131071 HT_ ?_
          refine pd_ 17 8 262143 HT_ ?_
          refine dn_ HT_ ?_
          go_wp2
          have hj1 := HJ1.out
          exact ⟨⟨j1, s, _, _, _, by omega, by omega, by go_num, HRN, HS5, HGV, HL5, HK5⟩, by simp [intOf]; omega⟩
        | true =>
          rw [hpb] at HKW
          have hql := pairing_len HI.out hpb
          obtain ⟨ka, hka⟩ := (ev_acyclic (l := q) (by omega) (facesP_of HI.out hpb)).rounds
          have HPQ := Aside0.mk hpb
          have HKA := Aside0.mk hka
          clear hpb hka hql
          cases hab : acycB q with
          | false =>
            have HOK : Aside0 (okP xs l p = false) := ⟨by unfold okP; rw [HQ.out, HPQ.out, hab]; rfl⟩
            rw [hab] at HKA
            clear hab
            have HRN := Aside0.mk (HR0.out.trans (by rw [subs_no hlt (by rw [HPJ.out]; exact HOK.out), ← HJ1.out]))
            clear HR0 HOK
            refine st_ 18 (S := fun w' => w'.cell? ⟨y, 0, none⟩ = some (.int .i64 n) ∧ w'.cell? ⟨y, 1, none⟩ = some (.slice A xs.length c) ∧ w'.cell? ⟨y, 2, none⟩ = some (.slice (some ad) all.length ca) ∧ w'.cell? (ad.add (j * 2)) = some (.int .i64 p.f0) ∧ w'.cell? ⟨(ad.add (j * 2)).block, (ad.add (j * 2)).off + 1, none⟩ = some (.int .i64 p.f1)) (ds := [12]) ⟨hk0, hk1, hc2, hp0, hp1⟩ (fun hHeld => ?_)
            refine with_tabW (T := (true, [([], []), ([0], [0]), ([1], [1]), ([2], [2]), ([], []), ([], []), ([5], [5]), ([6], [6]), ([7], [7]), ([], []), ([8, 9], [8, 9]), ([10], [10]), ([3, 4, 11], [3, 4, 11]), ([12], [12]), ([13], [13]), ([13], [13]), ([14, 12, 0, 1, 2, 3, 4, 5, 6, 7, 8, 9, 10, 11, 12, 13, 14], [14]), ([15, 16, 0, 1, 2, 3, 4, 5, 6, 7, 8, 9, 10, 11, 12, 13, 14, 15, 16], [15])])) (B := [0, 1, 3, 7, 0, 0, 32, 96, 224, 0, 992, 2016, 4095, 8191, 16383, 16383, 32767, 131071]) (by kernel_rfl) (by kernel_rfl) (fun HT_ HW_ => ?_)
            refine pd_ 0 86 1 HT_ ?_
            refine pd_ 1 87 3 HT_ ?_
            refine pd_ 2 88 7 HT_ ?_
            refine pd_ 4 90 23 HT_ ?_
            refine pd_ 5 91 55 HT_ ?_
            refine pd_ 6 92 119 HT_ ?_
            refine pd_ 7 93 247 HT_ ?_
            refine pd_ 9 95 759 HT_ ?_
            refine tk_ 3 89 767 HT_ HW_ hHeld ?_
            refine tk_ 8 94 1023 HT_ HW_ hHeld ?_
            refine pd_ 10 96 2047 HT_ ?_
            refine tk_ 11 97 4095 HT_ HW_ hHeld ?_
            refine la_ 12 (some 98) 8191 HT_ (fun K hK => ?_)
            refine ca_ Try.func111 #[.agg #[.int .i64 n, .slice A xs.length c], .slice Al l.length cl, .agg #[.int .i64 p.f0, .int .i64 p.f1]] ?_
            refine (QS.spec_l02With.calls kw n A c xs Al cl l p.f0 p.f1 q true _ (Kd.C_below HR.out HS9.out.drew.hb) HC.out (Kd.R_reads' (Kd.R_drew HL9.out)).2.2 (Kd.R_reads' HL9.out).2.1 HKW.out).mono ?_; rintro e w5 ⟨v5, rfl, hv, hb⟩; have hb0 : Below W9.heap.size W9 w5 := (below_drew (Below.refl _ _)).trans hb; have HV5 := Aside0.mk (Kd.R_lower hv HS9.out.drew.hb.size); have HS5 := Aside0.mk (HS9.out.below hb0); have HL5 := Aside0.mk (Kd.R_below HL9.out hb0); have HK5 := Aside0.mk (HK9.out.trans (KeepT.below hb0)); clear hv hb hb0 HS9 HL9 HK9 hp0 hp1 hk0 hk1 hc2
            refine ⟨_, rfl, ?_⟩
            refine hK.out _ _ ?_
            clear hK K
            refine nm_ ?_
            refine pd_ 13 85 16383 HT_ ?_
            refine pd_ 14 99 32767 HT_ ?_
            refine pd_ 15 100 65535 HT_ ?_
            refine pd_ 16 7 131071 HT_ ?_
            refine pd_ 17 8 262143 HT_ ?_
            refine dn_ HT_ ?_
            obtain ⟨A5, c5, rfl⟩ := Kd.R_slice HV5.out
            go_wp2_with (go_at_call 97; refine (QS.spec_l02Acyclic.calls ka A5 c5 q false _ (Kd.R_reads' HV5.out).2.2 (Kd.R_reads' HV5.out).2.1 HKA.out).mono ?_; rintro e w6 ⟨rfl, hb⟩; have HS6 := Aside0.mk (HS5.out.below hb); have HL6 := Aside0.mk (Kd.R_below HL5.out hb); have HK6 := Aside0.mk (HK5.out.trans (KeepT.below hb)); clear hb HS5 HL5 HK5)
            have hj1 := HJ1.out
            exact ⟨⟨j1, s, _, _, _, by omega, by omega, by go_num, HRN, HS6, HGV, HL6, HK6⟩, by simp [intOf]; omega⟩
          | true =>
            have HOK : Aside0 (okP xs l p = true) := ⟨by unfold okP; rw [HQ.out, HPQ.out, hab]; rfl⟩
            rw [hab] at HKA
            clear hab
            have HRN := Aside0.mk (HR0.out.trans (by rw [subs_yes hlt (by rw [HPJ.out]; exact HOK.out), HPJ.out, ← HJ1.out]))
            clear HR0 HOK
            refine st_ 18 (S := fun w' => w'.cell? ⟨y, 0, none⟩ = some (.int .i64 n) ∧ w'.cell? ⟨y, 1, none⟩ = some (.slice A xs.length c) ∧ w'.cell? ⟨y, 2, none⟩ = some (.slice (some ad) all.length ca) ∧ w'.cell? (ad.add (j * 2)) = some (.int .i64 p.f0) ∧ w'.cell? ⟨(ad.add (j * 2)).block, (ad.add (j * 2)).off + 1, none⟩ = some (.int .i64 p.f1)) (ds := [12]) ⟨hk0, hk1, hc2, hp0, hp1⟩ (fun hHeld => ?_)
            refine with_tabW (T := (true, [([], []), ([0], [0]), ([1], [1]), ([2], [2]), ([], []), ([], []), ([5], [5]), ([6], [6]), ([7], [7]), ([], []), ([8, 9], [8, 9]), ([10], [10]), ([3, 4, 11], [3, 4, 11]), ([12], [12]), ([13], [13]), ([13], [13]), ([14, 12, 0, 1, 2, 3, 4, 5, 6, 7, 8, 9, 10, 11, 12, 13, 14], [14]), ([15, 16, 0, 1, 2, 3, 4, 5, 6, 7, 8, 9, 10, 11, 12, 13, 14, 15, 16], [15])])) (B := [0, 1, 3, 7, 0, 0, 32, 96, 224, 0, 992, 2016, 4095, 8191, 16383, 16383, 32767, 131071]) (by kernel_rfl) (by kernel_rfl) (fun HT_ HW_ => ?_)
            refine pd_ 0 86 1 HT_ ?_
            refine pd_ 1 87 3 HT_ ?_
            refine pd_ 2 88 7 HT_ ?_
            refine pd_ 4 90 23 HT_ ?_
            refine pd_ 5 91 55 HT_ ?_
            refine pd_ 6 92 119 HT_ ?_
            refine pd_ 7 93 247 HT_ ?_
            refine pd_ 9 95 759 HT_ ?_
            refine tk_ 3 89 767 HT_ HW_ hHeld ?_
            refine tk_ 8 94 1023 HT_ HW_ hHeld ?_
            refine pd_ 10 96 2047 HT_ ?_
            refine tk_ 11 97 4095 HT_ HW_ hHeld ?_
            refine la_ 12 (some 98) 8191 HT_ (fun K hK => ?_)
            refine ca_ Try.func111 #[.agg #[.int .i64 n, .slice A xs.length c], .slice Al l.length cl, .agg #[.int .i64 p.f0, .int .i64 p.f1]] ?_
            refine (QS.spec_l02With.calls kw n A c xs Al cl l p.f0 p.f1 q true _ (Kd.C_below HR.out HS9.out.drew.hb) HC.out (Kd.R_reads' (Kd.R_drew HL9.out)).2.2 (Kd.R_reads' HL9.out).2.1 HKW.out).mono ?_; rintro e w5 ⟨v5, rfl, hv, hb⟩; have hb0 : Below W9.heap.size W9 w5 := (below_drew (Below.refl _ _)).trans hb; have HV5 := Aside0.mk (Kd.R_lower hv HS9.out.drew.hb.size); have HS5 := Aside0.mk (HS9.out.below hb0); have HL5 := Aside0.mk (Kd.R_below HL9.out hb0); have HK5 := Aside0.mk (HK9.out.trans (KeepT.below hb0)); clear hv hb hb0 HS9 HL9 HK9 hp0 hp1 hk0 hk1 hc2
            refine ⟨_, rfl, ?_⟩
            refine hK.out _ _ ?_
            clear hK K
            refine nm_ ?_
            refine pd_ 13 85 16383 HT_ ?_
            refine pd_ 14 99 32767 HT_ ?_
            refine pd_ 15 100 65535 HT_ ?_
            refine pd_ 16 7 131071 HT_ ?_
            refine pd_ 17 8 262143 HT_ ?_
            refine dn_ HT_ ?_
            obtain ⟨A5, c5, rfl⟩ := Kd.R_slice HV5.out
            go_wp2_with (first
              | (go_at_call 97; refine (QS.spec_l02Acyclic.calls ka A5 c5 q true _ (Kd.R_reads' HV5.out).2.2 (Kd.R_reads' HV5.out).2.1 HKA.out).mono ?_; rintro e w6 ⟨rfl, hb⟩; have HS6 := Aside0.mk (HS5.out.below hb); have HL6 := Aside0.mk (Kd.R_below HL5.out hb); have HK6 := Aside0.mk (HK5.out.trans (KeepT.below hb)); have HV6 := Aside0.mk (Kd.R_below HV5.out hb); clear hb HS5 HL5 HK5 HV5)
              | (go_at_call 126; refine (HIH.out (all.length - j1) (by have := HD.out; have := HJ1.out; omega) q s _ j1 _ _ _ _ HS6.out HGV.out HV6.out HPQ.out (by have := HJ1.out; omega) rfl).mono ?_; rw [HQ.out] at HRN; rintro e w7 ⟨rfl, ⟨vb7, vf7, vs7, hs⟩, hg, hk⟩; have HS8 := Aside0.mk hs; have HG8 := Aside0.mk hg; have HL8 := Aside0.mk (PO.keep HL6.out hk); have HK8 := Aside0.mk (HK6.out.trans hk); clear hs hg hk HS6 HL6 HK6 HV6 HGV))
            have hj1 := HJ1.out
            exact ⟨⟨j1, _, _, _, _, by omega, by omega, by go_num, HRN, HS8, HG8, HL8, HK8⟩, by simp [intOf]; omega⟩
      · obtain rfl : j = all.length := by omega
        have hltz : ¬ (all.length : Int) < (all.length : Int) := by omega
        have hR := HR0.out
        rw [subs_end (Nat.le_refl _)] at hR
        subst hR
        clear HR0
        go_wp2
        exact bodyPost_end (results_none rfl _ _ _) rfl ⟨rfl, ⟨_, _, _, HS.out⟩, HGV.out, HK.out⟩
  · have HU : Aside0 (updG xs ⟨ct, mo, be, fo⟩ l = ⟨c1, mo, be, putV fo (numL xs l)⟩) := ⟨by unfold updG; simp only [if_neg hgt, HC1.out]⟩
    go_upto_region 4 with fail
    clear hc5 hc1
    have HS4 := HS1
    have HK4 := HK1
    have HL4 := HL1
    clear HS1 HK1 HL1
    generalize W1 = W4 at HS4 HK4 HL4 ⊢
    have hc7 := HS4.out.c7
    go_upto_region 5 with fail
    clear hc7
    have HUU : Aside0 (R = (subsL xs (all.drop i) l).foldl (updG xs) _) := ⟨HR0.out.trans (by rw [HU.out])⟩
    clear HR0 HU
    obtain ⟨Af, cf, rfl⟩ := HS4.out.rv.slice
    have hc8 := HS4.out.c8
    have hk0 := HS4.out.c0
    have hk1 := HS4.out.c1
    obtain ⟨kn, hkn⟩ := (ev_numbers HI.out (l := l) (by omega)).rounds
    have HKN : Aside0 (QS.spec_l02Numbers.f kn n xs l = some (numL xs l)) := ⟨hkn⟩
    have HNG := Aside0.mk (num_good HI.out l)
    have HFL : Aside0 (vs.length ≤ 137438953472) := ⟨by have h1 := HS4.out.ri.1; have h2 := HGV.out.len (dimN_le xs); simp only at h2; omega⟩
    have HNL : Aside0 ((numL xs l).length ≤ 1000) := ⟨by rw [HNG.out.1]; have := dimN_le xs; omega⟩
    clear hkn
    refine st_ 15 (S := fun w' => w'.cell? ⟨y, 8, none⟩ = some (.slice Af vs.length cf) ∧ w'.cell? ⟨y, 0, none⟩ = some (.int .i64 n) ∧ w'.cell? ⟨y, 1, none⟩ = some (.slice A xs.length c)) (ds := [14]) ⟨hc8, hk0, hk1⟩ (fun hHeld => ?_)
    refine with_tabW (T := (true, [([], []), ([], []), ([1], [1]), ([2], [2]), ([3], [3]), ([], []), ([5], [5]), ([6], [6]), ([7], [7]), ([], []), ([8, 9], [8, 9]), ([4, 10, 10], [4, 10]), ([0, 0, 1, 2, 3, 4, 5, 6, 7, 8, 9, 10, 11], [0]), ([12, 0, 1, 2, 3, 4, 5, 6, 7, 8, 9, 10, 11], [12]), ([13, 11, 11, 0, 1, 2, 3, 4, 5, 6, 7, 8, 9, 10, 11], [11, 13])])) (B := [0, 0, 2, 6, 14, 0, 32, 96, 224, 0, 992, 2046, 4095, 8191, 16383]) (by kernel_rfl) (by kernel_rfl) (fun HT_ HW_ => ?_)
    refine pd_ 0 38 1 HT_ ?_
    refine pd_ 1 39 3 HT_ ?_
    refine pd_ 2 40 7 HT_ ?_
    refine pd_ 3 41 15 HT_ ?_
    refine pd_ 5 43 47 HT_ ?_
    refine pd_ 6 44 111 HT_ ?_
    refine pd_ 7 45 239 HT_ ?_
    refine pd_ 9 47 751 HT_ ?_
    refine tk_ 4 42 767 HT_ HW_ hHeld ?_
    refine tk_ 8 46 1023 HT_ HW_ hHeld ?_
    refine on_ 10 (some 48) 2047 HT_ (fun K hK => ?_)
    refine ca_ Try.func71 #[.agg #[.int .i64 n, .slice A xs.length c], .slice Al l.length cl] ?_
    refine (QS.spec_l02Numbers.calls kn n A c xs Al cl l (numL xs l) _ (Kd.C_below HR.out HS4.out.drew.hb) HC.out (Kd.R_reads' (Kd.R_drew HL4.out)).2.2 (Kd.R_reads' HL4.out).2.1 HKN.out).mono ?_; rintro e w5 ⟨v5, rfl, hv, hb⟩; have hb0 : Below W4.heap.size W4 w5 := (below_drew (Below.refl _ _)).trans hb; have HV5 := Aside0.mk (Kd.R_lower hv HS4.out.drew.hb.size); have HS5 := Aside0.mk (HS4.out.below hb0); have HL5 := Aside0.mk (Kd.R_below HL4.out hb0); have HK5 := Aside0.mk (HK4.out.trans (KeepT.below hb0)); clear hv hb hb0 HS4 HL4 HK4 hc8 hk0 hk1; obtain ⟨A5, c5, rfl⟩ := Kd.R_slice HV5.out
    refine ⟨_, rfl, ?_⟩
    refine hK.out _ _ ⟨HS5.out.c8, HS5.out.c0, HS5.out.c1⟩ (fun hHeld => ?_)
    clear hK K
    refine nm_ ?_
    refine on_ 11 (some 49) 4095 HT_ (fun K hK => ?_)
    refine ca_ Try.func171 #[.slice Af vs.length cf, .slice A5 (numL xs l).length c5] ?_
    refine (lput_c w0.heap.size Af cf vs fo A5 c5 (numL xs l) _ HS5.out.rv HS5.out.ri HV5.out (fun r hr => (HGV.out.2 r hr).1.trans HNG.out.1.symm) HNL.out HFL.out HS5.out.hb.size).mono ?_; rintro e w6 ⟨v6, us, rfl, hv, hi, hb⟩; obtain ⟨A6, c6, rfl⟩ := hv.slice; have HV6 := Aside0.mk hv; have HI6 := Aside0.mk hi; have HS6 := Aside0.mk (HS5.out.below hb); have HL6 := Aside0.mk (Kd.R_below HL5.out hb); have HK6 := Aside0.mk (HK5.out.trans (KeepT.below hb)); clear hv hi hb HS5 HL5 HK5 HV5
    refine ⟨_, rfl, ?_⟩
    refine hK.out _ _ ⟨HS6.out.c8, HS6.out.c0, HS6.out.c1⟩ (fun hHeld => ?_)
    clear hK K
    refine nm_ ?_
    refine pd_ 12 50 8191 HT_ ?_
    refine pd_ 13 51 16383 HT_ ?_
    refine la_ 14 none 32767 HT_ (fun K hK => ?_)
    (have hc8' := HS6.out.c8; have hf8' := HS6.out.fz 8; refine skip_ (by rfl) rfl (w1 := w6.setCell ⟨y, 8, none⟩ (.slice A6 us.length c6)) (by go_simp) ?_; clear hc8' hf8')
    refine hK.out _ _ ?_
    clear hK K
    refine dn_ HT_ ?_
    have HS7 := Aside0.mk (HS6.out.setFound HV6.out HI6.out)
    have HK7 := Aside0.mk (HK6.out.trans (HS6.out.keep 8 (.slice A6 us.length c6)))
    have HL7 := Aside0.mk (PO.keep HL6.out (HS6.out.keep 8 (.slice A6 us.length c6)))
    have HG7 := Aside0.mk (HGV.out.put HNG.out)
    simp only [] at HG7
    clear HS6 HK6 HL6 HV6 HI6 HGV HNG HNL HFL HKN
    generalize w6.setCell ⟨y, 8, none⟩ (.slice A6 us.length c6) = W7 at HS7 HK7 HL7 ⊢
    go_wp2
    go_loopw [6] (fun s6 wr => ∃ (j : Nat) (s : GoS) (vb vf : Value) (vs : List Value), j ≤ all.length ∧ i ≤ j ∧ s6 = .int .i64 j ∧ Aside0 (R = (subsL xs (all.drop j) l).foldl (updG xs) s) ∧ Aside0 (SS wr w0 y n A c xs.length (.slice Aa all.length ca) all vb s.best s.count s.most top true vf vs s.found) ∧ Aside0 (GoodV (dimN xs) s.found) ∧ Aside0 (PO wr w0.heap.size (.slice Al l.length cl) l) ∧ Aside0 (KeepT W wr)) (fun s6 _ => all.length - (intOf s6).toNat)
    case atStart => exact ⟨i, _, _, _, _, hil, Nat.le_refl _, rfl, HUU, HS7, HG7, HL7, HK7⟩
    case round =>
      clear HUU HS7 HG7 HL7 HK7
      obtain ⟨j, s, vb, vf, vs, hj, hij, rfl, HR0, HS, HGV, HL, HK⟩ := hrel
      have hc2 := HS.out.c2
      by_cases hlt : j < all.length
      · have hltz : (j : Int) < (all.length : Int) := by omega
        have hc7 := HS.out.c7
        go_upto_region 9 with fail
        refine st_ 23 (S := fun w' => w'.cell? ⟨y, 7, none⟩ = some (.bool true)) (ds := []) hc7 (fun hHeld => ?_)
        refine with_tabW (T := (true, [([], []), ([0], [0]), ([1], [1]), ([2], [2]), ([3], [3]), ([4], [4]), ([5], [5]), ([6, 5], [5, 6]), ([7, 5], [5, 7]), ([8, 5], [5, 8]), ([5], [5]), ([10, 5], [5, 10]), ([11, 5], [5, 11]), ([12, 5], [5, 12]), ([9, 13, 5], [5, 9, 13]), ([14, 5, 5], [5, 14]), ([15], [15]), ([15], [15]), ([15], [15]), ([16, 17, 18, 15, 15], [15, 16, 17, 18]), ([19, 15], [15, 19]), ([15, 20, 5], [5, 15, 20]), ([5, 21], [5, 21])])) (B := [0, 1, 3, 7, 15, 31, 63, 127, 255, 511, 63, 1087, 3135, 7231, 16383, 32767, 65535, 65535, 65535, 524287, 1048575, 2097151, 4194303]) (by kernel_rfl) (by kernel_rfl) (fun HT_ HW_ => ?_)
        refine pd_ 0 62 1 HT_ ?_
        refine pd_ 1 63 3 HT_ ?_
        refine pd_ 2 64 7 HT_ ?_
        refine tk_ 3 65 15 HT_ HW_ hHeld ?_
        refine pd_ 4 66 31 HT_ ?_
        refine pd_ 5 67 63 HT_ ?_
        refine pn_ 6 68 127 HT_ ?_
        refine pn_ 7 69 255 HT_ ?_
        refine pn_ 8 70 511 HT_ ?_
        refine pn_ 9 71 1023 HT_ ?_
        refine pn_ 10 72 2047 HT_ ?_
        refine pn_ 11 73 4095 HT_ ?_
        refine pn_ 12 74 8191 HT_ ?_
        refine pn_ 13 75 16383 HT_ ?_
        refine pn_ 14 76 32767 HT_ ?_
        refine pn_ 15 77 65535 HT_ ?_
        refine pn_ 16 78 131071 HT_ ?_
        refine pn_ 17 79 262143 HT_ ?_
        refine pn_ 18 80 524287 HT_ ?_
        refine pn_ 19 81 1048575 HT_ ?_
        refine pn_ 20 82 2097151 HT_ ?_
        refine pn_ 21 83 4194303 HT_ ?_
        refine pd_ 22 84 8388607 HT_ ?_
        refine dn_ HT_ ?_
        clear hc7 hc2
        go_upto_region 10 with fail
        have HS9 := Aside0.mk HS.out.drew
        have HL9 := Aside0.mk (Kd.R_drew HL.out)
        have HK9 := Aside0.mk (HK.out.trans (KeepT.below (below_drew (Below.refl _ _))))
        clear HS HL HK
        generalize wr.drew = W9 at HS9 HL9 HK9 ⊢
        obtain ⟨ad, rfl, hp0, hp1⟩ := at_T73 (Kd.R_reads' HS9.out.ra).2.2 (j : Int) (by omega) (by omega)
        obtain ⟨p, hp⟩ : ∃ p, rd_T73 all (j : Int) = p := ⟨_, rfl⟩
        have hpj : all[j] = p := by rw [← rdP_at hlt, hp]
        rw [hp, show ((j : Int)).toNat = j by omega] at hp0 hp1
        have hk0 := HS9.out.c0
        have hk1 := HS9.out.c1
        have hc2 := HS9.out.c2
        obtain ⟨j1, hj1⟩ : ∃ j1 : Nat, j1 = j + 1 := ⟨_, rfl⟩
        have hw1 : IntKind.i64.wrap ((j : Int) + 1) = (j1 : Int) := by rw [IntKind.wrap_i64]; omega
        have HJ1 := Aside0.mk hj1
        obtain ⟨kw, hkw⟩ := (ev_with HI.out (sorted_of HPL.out) (by omega) p).rounds
        have HKW := Aside0.mk hkw
        obtain ⟨q, hq⟩ : ∃ q, withP l p = q := ⟨_, rfl⟩
        rw [hq] at HKW
        have HPJ := Aside0.mk hpj
        have HQ := Aside0.mk hq
        clear hkw hp hpj hj1 hq
        cases hpb : pairingB xs q with
        | false =>
          have HOK : Aside0 (okP xs l p = false) := ⟨by unfold okP; rw [HQ.out, hpb]; rfl⟩
          rw [hpb] at HKW
          clear hpb
          have HRN := Aside0.mk (HR0.out.trans (by rw [subs_no hlt (by rw [HPJ.out]; exact HOK.out), ← HJ1.out]))
          clear HR0 HOK
          refine st_ 18 (S := fun w' => w'.cell? ⟨y, 0, none⟩ = some (.int .i64 n) ∧ w'.cell? ⟨y, 1, none⟩ = some (.slice A xs.length c) ∧ w'.cell? ⟨y, 2, none⟩ = some (.slice (some ad) all.length ca) ∧ w'.cell? (ad.add (j * 2)) = some (.int .i64 p.f0) ∧ w'.cell? ⟨(ad.add (j * 2)).block, (ad.add (j * 2)).off + 1, none⟩ = some (.int .i64 p.f1)) (ds := [12]) ⟨hk0, hk1, hc2, hp0, hp1⟩ (fun hHeld => ?_)
          refine with_tabW (T := (true, [([], []), ([0], [0]), ([1], [1]), ([2], [2]), ([], []), ([], []), ([5], [5]), ([6], [6]), ([7], [7]), ([], []), ([8, 9], [8, 9]), ([10], [10]), ([3, 4, 11], [3, 4, 11]), ([12], [12]), ([13], [13]), ([13], [13]), ([14, 12, 0, 1, 2, 3, 4, 5, 6, 7, 8, 9, 10, 11, 12, 13, 14], [14]), ([15, 16, 0, 1, 2, 3, 4, 5, 6, 7, 8, 9, 10, 11, 12, 13, 14, 15, 16], [15])])) (B := [0, 1, 3, 7, 0, 0, 32, 96, 224, 0, 992, 2016, 4095, 8191, 16383, 16383, 32767, 131071]) (by kernel_rfl) (by kernel_rfl) (fun HT_ HW_ => ?_)
          refine pd_ 0 86 1 HT_ ?_
          refine pd_ 1 87 3 HT_ ?_
          refine pd_ 2 88 7 HT_ ?_
          refine pd_ 4 90 23 HT_ ?_
          refine pd_ 5 91 55 HT_ ?_
          refine pd_ 6 92 119 HT_ ?_
          refine pd_ 7 93 247 HT_ ?_
          refine pd_ 9 95 759 HT_ ?_
          refine tk_ 3 89 767 HT_ HW_ hHeld ?_
          refine tk_ 8 94 1023 HT_ HW_ hHeld ?_
          refine pd_ 10 96 2047 HT_ ?_
          refine tk_ 11 97 4095 HT_ HW_ hHeld ?_
          refine la_ 12 (some 98) 8191 HT_ (fun K hK => ?_)
          refine ca_ Try.func111 #[.agg #[.int .i64 n, .slice A xs.length c], .slice Al l.length cl, .agg #[.int .i64 p.f0, .int .i64 p.f1]] ?_
          refine (QS.spec_l02With.calls kw n A c xs Al cl l p.f0 p.f1 q false _ (Kd.C_below HR.out HS9.out.drew.hb) HC.out (Kd.R_reads' (Kd.R_drew HL9.out)).2.2 (Kd.R_reads' HL9.out).2.1 HKW.out).mono ?_; rintro e w5 ⟨v5, rfl, hv, hb⟩; have hb0 : Below W9.heap.size W9 w5 := (below_drew (Below.refl _ _)).trans hb; have HV5 := Aside0.mk (Kd.R_lower hv HS9.out.drew.hb.size); have HS5 := Aside0.mk (HS9.out.below hb0); have HL5 := Aside0.mk (Kd.R_below HL9.out hb0); have HK5 := Aside0.mk (HK9.out.trans (KeepT.below hb0)); clear hv hb hb0 HS9 HL9 HK9 hp0 hp1 hk0 hk1 hc2
          refine ⟨_, rfl, ?_⟩
          refine hK.out _ _ ?_
          clear hK K
          refine nm_ ?_
          refine pd_ 13 85 16383 HT_ ?_
          refine pd_ 14 99 32767 HT_ ?_
          refine pd_ 15 100 65535 HT_ ?_
          refine pd_ 16 7 131071 HT_ ?_
          refine pd_ 17 8 262143 HT_ ?_
          refine dn_ HT_ ?_
          go_wp2
          have hj1 := HJ1.out
          exact ⟨⟨j1, s, _, _, _, by omega, by omega, by go_num, HRN, HS5, HGV, HL5, HK5⟩, by simp [intOf]; omega⟩
        | true =>
          rw [hpb] at HKW
          have hql := pairing_len HI.out hpb
          obtain ⟨ka, hka⟩ := (ev_acyclic (l := q) (by omega) (facesP_of HI.out hpb)).rounds
          have HPQ := Aside0.mk hpb
          have HKA := Aside0.mk hka
          clear hpb hka hql
          cases hab : acycB q with
          | false =>
            have HOK : Aside0 (okP xs l p = false) := ⟨by unfold okP; rw [HQ.out, HPQ.out, hab]; rfl⟩
            rw [hab] at HKA
            clear hab
            have HRN := Aside0.mk (HR0.out.trans (by rw [subs_no hlt (by rw [HPJ.out]; exact HOK.out), ← HJ1.out]))
            clear HR0 HOK
            refine st_ 18 (S := fun w' => w'.cell? ⟨y, 0, none⟩ = some (.int .i64 n) ∧ w'.cell? ⟨y, 1, none⟩ = some (.slice A xs.length c) ∧ w'.cell? ⟨y, 2, none⟩ = some (.slice (some ad) all.length ca) ∧ w'.cell? (ad.add (j * 2)) = some (.int .i64 p.f0) ∧ w'.cell? ⟨(ad.add (j * 2)).block, (ad.add (j * 2)).off + 1, none⟩ = some (.int .i64 p.f1)) (ds := [12]) ⟨hk0, hk1, hc2, hp0, hp1⟩ (fun hHeld => ?_)
            refine with_tabW (T := (true, [([], []), ([0], [0]), ([1], [1]), ([2], [2]), ([], []), ([], []), ([5], [5]), ([6], [6]), ([7], [7]), ([], []), ([8, 9], [8, 9]), ([10], [10]), ([3, 4, 11], [3, 4, 11]), ([12], [12]), ([13], [13]), ([13], [13]), ([14, 12, 0, 1, 2, 3, 4, 5, 6, 7, 8, 9, 10, 11, 12, 13, 14], [14]), ([15, 16, 0, 1, 2, 3, 4, 5, 6, 7, 8, 9, 10, 11, 12, 13, 14, 15, 16], [15])])) (B := [0, 1, 3, 7, 0, 0, 32, 96, 224, 0, 992, 2016, 4095, 8191, 16383, 16383, 32767, 131071]) (by kernel_rfl) (by kernel_rfl) (fun HT_ HW_ => ?_)
            refine pd_ 0 86 1 HT_ ?_
            refine pd_ 1 87 3 HT_ ?_
            refine pd_ 2 88 7 HT_ ?_
            refine pd_ 4 90 23 HT_ ?_
            refine pd_ 5 91 55 HT_ ?_
            refine pd_ 6 92 119 HT_ ?_
            refine pd_ 7 93 247 HT_ ?_
            refine pd_ 9 95 759 HT_ ?_
            refine tk_ 3 89 767 HT_ HW_ hHeld ?_
            refine tk_ 8 94 1023 HT_ HW_ hHeld ?_
            refine pd_ 10 96 2047 HT_ ?_
            refine tk_ 11 97 4095 HT_ HW_ hHeld ?_
            refine la_ 12 (some 98) 8191 HT_ (fun K hK => ?_)
            refine ca_ Try.func111 #[.agg #[.int .i64 n, .slice A xs.length c], .slice Al l.length cl, .agg #[.int .i64 p.f0, .int .i64 p.f1]] ?_
            refine (QS.spec_l02With.calls kw n A c xs Al cl l p.f0 p.f1 q true _ (Kd.C_below HR.out HS9.out.drew.hb) HC.out (Kd.R_reads' (Kd.R_drew HL9.out)).2.2 (Kd.R_reads' HL9.out).2.1 HKW.out).mono ?_; rintro e w5 ⟨v5, rfl, hv, hb⟩; have hb0 : Below W9.heap.size W9 w5 := (below_drew (Below.refl _ _)).trans hb; have HV5 := Aside0.mk (Kd.R_lower hv HS9.out.drew.hb.size); have HS5 := Aside0.mk (HS9.out.below hb0); have HL5 := Aside0.mk (Kd.R_below HL9.out hb0); have HK5 := Aside0.mk (HK9.out.trans (KeepT.below hb0)); clear hv hb hb0 HS9 HL9 HK9 hp0 hp1 hk0 hk1 hc2
            refine ⟨_, rfl, ?_⟩
            refine hK.out _ _ ?_
            clear hK K
            refine nm_ ?_
            refine pd_ 13 85 16383 HT_ ?_
            refine pd_ 14 99 32767 HT_ ?_
            refine pd_ 15 100 65535 HT_ ?_
            refine pd_ 16 7 131071 HT_ ?_
            refine pd_ 17 8 262143 HT_ ?_
            refine dn_ HT_ ?_
            obtain ⟨A5, c5, rfl⟩ := Kd.R_slice HV5.out
            go_wp2_with (go_at_call 97; refine (QS.spec_l02Acyclic.calls ka A5 c5 q false _ (Kd.R_reads' HV5.out).2.2 (Kd.R_reads' HV5.out).2.1 HKA.out).mono ?_; rintro e w6 ⟨rfl, hb⟩; have HS6 := Aside0.mk (HS5.out.below hb); have HL6 := Aside0.mk (Kd.R_below HL5.out hb); have HK6 := Aside0.mk (HK5.out.trans (KeepT.below hb)); clear hb HS5 HL5 HK5)
            have hj1 := HJ1.out
            exact ⟨⟨j1, s, _, _, _, by omega, by omega, by go_num, HRN, HS6, HGV, HL6, HK6⟩, by simp [intOf]; omega⟩
          | true =>
            have HOK : Aside0 (okP xs l p = true) := ⟨by unfold okP; rw [HQ.out, HPQ.out, hab]; rfl⟩
            rw [hab] at HKA
            clear hab
            have HRN := Aside0.mk (HR0.out.trans (by rw [subs_yes hlt (by rw [HPJ.out]; exact HOK.out), HPJ.out, ← HJ1.out]))
            clear HR0 HOK
            refine st_ 18 (S := fun w' => w'.cell? ⟨y, 0, none⟩ = some (.int .i64 n) ∧ w'.cell? ⟨y, 1, none⟩ = some (.slice A xs.length c) ∧ w'.cell? ⟨y, 2, none⟩ = some (.slice (some ad) all.length ca) ∧ w'.cell? (ad.add (j * 2)) = some (.int .i64 p.f0) ∧ w'.cell? ⟨(ad.add (j * 2)).block, (ad.add (j * 2)).off + 1, none⟩ = some (.int .i64 p.f1)) (ds := [12]) ⟨hk0, hk1, hc2, hp0, hp1⟩ (fun hHeld => ?_)
            refine with_tabW (T := (true, [([], []), ([0], [0]), ([1], [1]), ([2], [2]), ([], []), ([], []), ([5], [5]), ([6], [6]), ([7], [7]), ([], []), ([8, 9], [8, 9]), ([10], [10]), ([3, 4, 11], [3, 4, 11]), ([12], [12]), ([13], [13]), ([13], [13]), ([14, 12, 0, 1, 2, 3, 4, 5, 6, 7, 8, 9, 10, 11, 12, 13, 14], [14]), ([15, 16, 0, 1, 2, 3, 4, 5, 6, 7, 8, 9, 10, 11, 12, 13, 14, 15, 16], [15])])) (B := [0, 1, 3, 7, 0, 0, 32, 96, 224, 0, 992, 2016, 4095, 8191, 16383, 16383, 32767, 131071]) (by kernel_rfl) (by kernel_rfl) (fun HT_ HW_ => ?_)
            refine pd_ 0 86 1 HT_ ?_
            refine pd_ 1 87 3 HT_ ?_
            refine pd_ 2 88 7 HT_ ?_
            refine pd_ 4 90 23 HT_ ?_
            refine pd_ 5 91 55 HT_ ?_
            refine pd_ 6 92 119 HT_ ?_
            refine pd_ 7 93 247 HT_ ?_
            refine pd_ 9 95 759 HT_ ?_
            refine tk_ 3 89 767 HT_ HW_ hHeld ?_
            refine tk_ 8 94 1023 HT_ HW_ hHeld ?_
            refine pd_ 10 96 2047 HT_ ?_
            refine tk_ 11 97 4095 HT_ HW_ hHeld ?_
            refine la_ 12 (some 98) 8191 HT_ (fun K hK => ?_)
            refine ca_ Try.func111 #[.agg #[.int .i64 n, .slice A xs.length c], .slice Al l.length cl, .agg #[.int .i64 p.f0, .int .i64 p.f1]] ?_
            refine (QS.spec_l02With.calls kw n A c xs Al cl l p.f0 p.f1 q true _ (Kd.C_below HR.out HS9.out.drew.hb) HC.out (Kd.R_reads' (Kd.R_drew HL9.out)).2.2 (Kd.R_reads' HL9.out).2.1 HKW.out).mono ?_; rintro e w5 ⟨v5, rfl, hv, hb⟩; have hb0 : Below W9.heap.size W9 w5 := (below_drew (Below.refl _ _)).trans hb; have HV5 := Aside0.mk (Kd.R_lower hv HS9.out.drew.hb.size); have HS5 := Aside0.mk (HS9.out.below hb0); have HL5 := Aside0.mk (Kd.R_below HL9.out hb0); have HK5 := Aside0.mk (HK9.out.trans (KeepT.below hb0)); clear hv hb hb0 HS9 HL9 HK9 hp0 hp1 hk0 hk1 hc2
            refine ⟨_, rfl, ?_⟩
            refine hK.out _ _ ?_
            clear hK K
            refine nm_ ?_
            refine pd_ 13 85 16383 HT_ ?_
            refine pd_ 14 99 32767 HT_ ?_
            refine pd_ 15 100 65535 HT_ ?_
            refine pd_ 16 7 131071 HT_ ?_
            refine pd_ 17 8 262143 HT_ ?_
            refine dn_ HT_ ?_
            obtain ⟨A5, c5, rfl⟩ := Kd.R_slice HV5.out
            go_wp2_with (first
              | (go_at_call 97; refine (QS.spec_l02Acyclic.calls ka A5 c5 q true _ (Kd.R_reads' HV5.out).2.2 (Kd.R_reads' HV5.out).2.1 HKA.out).mono ?_; rintro e w6 ⟨rfl, hb⟩; have HS6 := Aside0.mk (HS5.out.below hb); have HL6 := Aside0.mk (Kd.R_below HL5.out hb); have HK6 := Aside0.mk (HK5.out.trans (KeepT.below hb)); have HV6 := Aside0.mk (Kd.R_below HV5.out hb); clear hb HS5 HL5 HK5 HV5)
              | (go_at_call 126; refine (HIH.out (all.length - j1) (by have := HD.out; have := HJ1.out; omega) q s _ j1 _ _ _ _ HS6.out HGV.out HV6.out HPQ.out (by have := HJ1.out; omega) rfl).mono ?_; rw [HQ.out] at HRN; rintro e w7 ⟨rfl, ⟨vb7, vf7, vs7, hs⟩, hg, hk⟩; have HS8 := Aside0.mk hs; have HG8 := Aside0.mk hg; have HL8 := Aside0.mk (PO.keep HL6.out hk); have HK8 := Aside0.mk (HK6.out.trans hk); clear hs hg hk HS6 HL6 HK6 HV6 HGV))
            have hj1 := HJ1.out
            exact ⟨⟨j1, _, _, _, _, by omega, by omega, by go_num, HRN, HS8, HG8, HL8, HK8⟩, by simp [intOf]; omega⟩
      · obtain rfl : j = all.length := by omega
        have hltz : ¬ (all.length : Int) < (all.length : Int) := by omega
        have hR := HR0.out
        rw [subs_end (Nat.le_refl _)] at hR
        subst hR
        clear HR0
        go_wp2
        exact bodyPost_end (results_none rfl _ _ _) rfl ⟨rfl, ⟨_, _, _, HS.out⟩, HGV.out, HK.out⟩
end Go.Proofs.Ytomdfjohnmikdaa.Im
namespace Go.Proofs.Ytomdfjohnmikdaa.Im
set_option linter.unusedVariables false
set_option linter.unusedSimpArgs false
open Go.RowKit Go.Shelf Go.Proofs.Ytomdfjohnmikdaa.Cw Go.Proofs.YtomdfjohnmikdaaW.PrintWords Go.Proofs.YtomdfjohnmikdaaW.PrintLast Go.Proofs.YtomdfjohnmikdaaW.PrintMore
section
variable {P : Program} {ops : Array Oper} {Q : Exit → Act → World → Prop} {S : World → Prop} {ds : List Nat} {md : Region.Mode} {T : Bool × List (List Nat × List Nat)} {n m fuel : Nat} {a : Act} {w : World} {oi oj ok : Oper}
/-- Three that may come up, in any order. -/
theorem tr_ (i j k : Nat) (Ni Nj Nk : Option Tmp) (mi mj mk : Nat) (hT : Aside0 (rtab md ops = T))
    (h1 : ∀ K : Act → World → Prop, Shut (∀ a' w', S w' → (S w' → wpAnyLast P md ops Q S ds fuel (mB n mi) a' w') → K a' w') → if Region.wanted oi (yielded ops a.tmps) = true then Oper.wp P oi a w K Q else K (a.put Ni undef) w)
    (h2 : ∀ K : Act → World → Prop, Shut (∀ a' w', S w' → (S w' → wpAnyLast P md ops Q S ds fuel (mB n mj) a' w') → K a' w') → if Region.wanted oj (yielded ops a.tmps) = true then Oper.wp P oj a w K Q else K (a.put Nj undef) w)
    (h3 : ∀ K : Act → World → Prop, Shut (∀ a' w', S w' → (S w' → wpAnyLast P md ops Q S ds fuel (mB n mk) a' w') → K a' w') → if Region.wanted ok (yielded ops a.tmps) = true then Oper.wp P ok a w K Q else K (a.put Nk undef) w)
    (hi : ops[i]? = some oi := by rfl) (hj : ops[j]? = some oj := by rfl) (hk : ops[k]? = some ok := by rfl) (hNi : oi.dst = Ni := by rfl) (hNj : oj.dst = Nj := by rfl) (hNk : ok.dst = Nk := by rfl)
    (hc : (readyT T.2 (mB n m).toList == [i, j, k] && (mB n m).toList.set i true == (mB n mi).toList && (mB n m).toList.set j true == (mB n mj).toList && (mB n m).toList.set k true == (mB n mk).toList) = true := by kernel_rfl) (hdi : i ∉ ds := by decide) (hdj : j ∉ ds := by decide) (hdk : k ∉ ds := by decide) :
    wpAnyLast P md ops Q S ds (fuel + 1) (mB n m) a w := three_ (mB n mi) (mB n mj) (mB n mk) hi hj hk hNi hNj hNk (three_of hT.out hc) hdi hdj hdk h1 h2 h3
end
end Go.Proofs.Ytomdfjohnmikdaa.Im
namespace Go.Proofs.Ytomdfjohnmikdaa.QS
open Go.Proofs.Ytomdfjohnmikdaa.Cw Go.Proofs.Ytomdfjohnmikdaa.Kp Go.Proofs.Ytomdfjohnmikdaa.Ext Go.RowKit Go.Proofs.YtomdfjohnmikdaaW.PrintWords Go.Proofs.YtomdfjohnmikdaaW.PrintLast Go.Proofs.YtomdfjohnmikdaaW.PrintMore
attribute [local go_sem] max2_int min2_int max_two min_two max_three min_three max_four min_four   -- for this text's walks alone
set_option linter.unusedVariables false
set_option linter.unusedSimpArgs false
def spec_l08Limit.f (k : Nat) (a0_0 : Int) (l0_1 : List Int) (a1 : Int) : Option (Int) := (spec_l01Is.f k a0_0 l0_1).bind fun t431 => (if t431 = true then (if (l0_1.length : Int) > a1 then (some 3) else (some 0)) else (some 1))
set_option maxHeartbeats 8000000 in
set_option maxRecDepth 100000 in
theorem spec_l08Limit.calls (k : Nat) (a0_0 : Int) (A0_1 : Option Addr) (c0_1 : Nat) (l0_1 : List Int) (a1 : Int) (r : Int) (w : World) (hr0_1 : Kd.C (Kd.int .i64) w A0_1 l0_1.length l0_1) (hc0_1 : l0_1.length ≤ c0_1) (h : spec_l08Limit.f k a0_0 l0_1 a1 = some r) :
  Calls Try.prog 75 #[.agg #[.int .i64 a0_0, .slice A0_1 l0_1.length c0_1], .int .i64 a1] w fun e w' => e = .returned (.int .i64 r) ∧ Below w.heap.size w w' := by
 have hu28 := Try.underlying28
 have HR0_1 := Aside0.mk hr0_1
 have HC0_1 := Aside0.mk hc0_1
 clear hr0_1 hc0_1
 have HB := Aside0.mk (Below.refl w.heap.size w)
 have H : ((spec_l01Is.f k a0_0 l0_1).bind fun t431 => (if t431 = true then (if (l0_1.length : Int) > a1 then (some 3) else (some 0)) else (some 1))) = some r := h
 clear h
 replace H := Option.bind_eq_some_iff.mp H
 obtain ⟨t431, A30, H⟩ := H
 try dsimp only at H
 have A3 := Aside0.mk A30
 clear A30
 by_cases c4 : t431 = true
 ·subst c4
  have H1 : (if (l0_1.length : Int) > a1 then (some 3) else (some 0)) = some r := by rw [if_pos rfl] at H; exact H
  clear H
  have H := H1
  clear H1
  by_cases c5 : (l0_1.length : Int) > a1
  ·rw [if_pos c5] at H
   have c5b0 : decide (a1 < (l0_1.length : Int)) = true := decide_eq_true c5
   clear c5
   obtain rfl := Option.some.inj H
   go_enter Try.func75, Try.ntmps75
   go_wp2_with (first | ((with_reducible refine gate_dst (N := 2) rfl ?_); refine box_event ?hg (N := 2) ?hd (cs := #[.int .i64 a0_0, .slice A0_1 l0_1.length c0_1]) (t := 28) ?hr ?_; (case hd => rfl); (case hg => rfl); (case hr => first | (go_simp; done) | (go_simp; rfl)); intro gb430 hg w6 hbox hb; have BK430 := Aside0.mk (hbox); have GW430 := gH HB hg; have GE430 := gH HB hg; replace HB := sH HB hb; clear hb hbox hg; have hcz7_0 : w6.cell? ⟨gb430, 0, none⟩ = some (.int .i64 a0_0) := cB BK430 0; have hcz7_1 : w6.cell? ⟨gb430, 1, none⟩ = some (.slice A0_1 l0_1.length c0_1) := cB BK430 1; have hfz7_0 := zB BK430 0; have hfz7_1 := zB BK430 1) | ((with_reducible refine gate_callee (f := 50) rfl ?_); refine cl_ (some 7) Try.func50 #[.agg #[.int .i64 a0_0, .slice A0_1 l0_1.length c0_1]] ?_; (with_reducible refine (spec_l01Is.calls k a0_0 _ _ l0_1 true _ ?side1 ?side2 A3.out).mono ?_); (case side1 => exact pC ((Kd.C_below HR0_1.out HB.out))); (case side2 => exact HC0_1.out); rintro e w8 ⟨rfl, hb⟩; refine ⟨_, rfl, ?_⟩; replace BK430 := sB BK430 hb; replace HB := sH HB hb; (try clear hb); (try clear hi); have hcz9_0 : w8.cell? ⟨gb430, 0, none⟩ = some (.int .i64 a0_0) := cB BK430 0; have hcz9_1 : w8.cell? ⟨gb430, 1, none⟩ = some (.slice A0_1 l0_1.length c0_1) := cB BK430 1; have hfz9_0 := zB BK430 0; have hfz9_1 := zB BK430 1))
   go_ret
   exact ⟨by first | rfl | (simp [errW_none, errW_some] <;> rfl) | (simp [*, errW_none, errW_some] <;> rfl) | (exfalso; simp_all), pH HB⟩
  ·rw [if_neg c5] at H
   have c5b0 : decide (a1 < (l0_1.length : Int)) = false := decide_eq_false c5
   clear c5
   obtain rfl := Option.some.inj H
   go_enter Try.func75, Try.ntmps75
   go_wp2_with (first | ((with_reducible refine gate_dst (N := 2) rfl ?_); refine box_event ?hg (N := 2) ?hd (cs := #[.int .i64 a0_0, .slice A0_1 l0_1.length c0_1]) (t := 28) ?hr ?_; (case hd => rfl); (case hg => rfl); (case hr => first | (go_simp; done) | (go_simp; rfl)); intro gb430 hg w10 hbox hb; have BK430 := Aside0.mk (hbox); have GW430 := gH HB hg; have GE430 := gH HB hg; replace HB := sH HB hb; clear hb hbox hg; have hcz11_0 : w10.cell? ⟨gb430, 0, none⟩ = some (.int .i64 a0_0) := cB BK430 0; have hcz11_1 : w10.cell? ⟨gb430, 1, none⟩ = some (.slice A0_1 l0_1.length c0_1) := cB BK430 1; have hfz11_0 := zB BK430 0; have hfz11_1 := zB BK430 1) | ((with_reducible refine gate_callee (f := 50) rfl ?_); refine cl_ (some 7) Try.func50 #[.agg #[.int .i64 a0_0, .slice A0_1 l0_1.length c0_1]] ?_; (with_reducible refine (spec_l01Is.calls k a0_0 _ _ l0_1 true _ ?side1 ?side2 A3.out).mono ?_); (case side1 => exact pC ((Kd.C_below HR0_1.out HB.out))); (case side2 => exact HC0_1.out); rintro e w12 ⟨rfl, hb⟩; refine ⟨_, rfl, ?_⟩; replace BK430 := sB BK430 hb; replace HB := sH HB hb; (try clear hb); (try clear hi); have hcz13_0 : w12.cell? ⟨gb430, 0, none⟩ = some (.int .i64 a0_0) := cB BK430 0; have hcz13_1 : w12.cell? ⟨gb430, 1, none⟩ = some (.slice A0_1 l0_1.length c0_1) := cB BK430 1; have hfz13_0 := zB BK430 0; have hfz13_1 := zB BK430 1))
   go_ret
   exact ⟨by first | rfl | (simp [errW_none, errW_some] <;> rfl) | (simp [*, errW_none, errW_some] <;> rfl) | (exfalso; simp_all), pH HB⟩
 ·replace c4 := Bool.eq_false_iff.mpr c4
  subst c4
  have H1 : (some 1) = some r := by rw [if_neg (show ¬ (false = true) by decide)] at H; exact H
  clear H
  have H := H1
  clear H1
  obtain rfl := Option.some.inj H
  go_enter Try.func75, Try.ntmps75
  go_wp2_with (first | ((with_reducible refine gate_dst (N := 2) rfl ?_); refine box_event ?hg (N := 2) ?hd (cs := #[.int .i64 a0_0, .slice A0_1 l0_1.length c0_1]) (t := 28) ?hr ?_; (case hd => rfl); (case hg => rfl); (case hr => first | (go_simp; done) | (go_simp; rfl)); intro gb430 hg w14 hbox hb; have BK430 := Aside0.mk (hbox); have GW430 := gH HB hg; have GE430 := gH HB hg; replace HB := sH HB hb; clear hb hbox hg; have hcz15_0 : w14.cell? ⟨gb430, 0, none⟩ = some (.int .i64 a0_0) := cB BK430 0; have hcz15_1 : w14.cell? ⟨gb430, 1, none⟩ = some (.slice A0_1 l0_1.length c0_1) := cB BK430 1; have hfz15_0 := zB BK430 0; have hfz15_1 := zB BK430 1) | ((with_reducible refine gate_callee (f := 50) rfl ?_); refine cl_ (some 7) Try.func50 #[.agg #[.int .i64 a0_0, .slice A0_1 l0_1.length c0_1]] ?_; (with_reducible refine (spec_l01Is.calls k a0_0 _ _ l0_1 false _ ?side1 ?side2 A3.out).mono ?_); (case side1 => exact pC ((Kd.C_below HR0_1.out HB.out))); (case side2 => exact HC0_1.out); rintro e w16 ⟨rfl, hb⟩; refine ⟨_, rfl, ?_⟩; replace BK430 := sB BK430 hb; replace HB := sH HB hb; (try clear hb); (try clear hi)))
  go_ret
  exact ⟨by first | rfl | (simp [errW_none, errW_some] <;> rfl) | (simp [*, errW_none, errW_some] <;> rfl) | (exfalso; simp_all), pH HB⟩
end Go.Proofs.Ytomdfjohnmikdaa.QS
namespace Go.Proofs.Ytomdfjohnmikdaa.Im
set_option linter.unusedVariables false
set_option linter.unusedSimpArgs false
open Go.RowKit Go.Shelf Go.Proofs.Ytomdfjohnmikdaa.Kp Go.Proofs.Ytomdfjohnmikdaa.Cw Go.Proofs.Ytomdfjohnmikdaa.Ext Go.Proofs.Ytomdfjohnmikdaa.Pu Go.Proofs.YtomdfjohnmikdaaW.PrintWords Go.Proofs.YtomdfjohnmikdaaW.PrintLast Go.Proofs.YtomdfjohnmikdaaW.PrintMore
theorem go_all (w0 : World) (y : Nat) (n : Int) (A : Option Addr) (c : Nat) (xs : List Int) (va : Value) (all : List Pr) (top : Int) (hr : RC w0 A xs.length xs) (hc : xs.length ≤ c) (hi : isC n xs = true) (hal : all.length ≤ 1048576) (d : Nat) : GoOk w0 y n A c xs va all top d :=
  Nat.strongRecOn d fun d ih => go_step w0 y n A c xs va all top hr hc hi hal d ih
/-- What the search has found. -/
def allG (xs : List Int) : GoS := (enumL xs (pairsL xs) []).foldl (updG xs) ⟨0, -1, [], []⟩
def WholePost (w : World) (n : Int) (A : Option Addr) (c : Nat) (xs : List Int) (e : Ending) (w' : World) : Prop :=
  ∃ (y : Nat) (va vb vf : Value) (vs : List Value), e = .returned (.pointer (some ⟨y, 0, none⟩)) ∧ SS w' w y n A c xs.length va (pairsL xs) vb (allG xs).best (allG xs).count (allG xs).most 0 true vf vs (allG xs).found ∧ GoodV (dimN xs) (allG xs).found
set_option maxRecDepth 100000 in
set_option maxHeartbeats 8000000 in
theorem whole_c (n : Int) (A : Option Addr) (c : Nat) (xs : List Int) (w : World) (hr : RC w A xs.length xs) (hc : xs.length ≤ c) (hi : isC n xs = true) :
    Calls Try.prog 76 #[.agg #[.int .i64 n, .slice A xs.length c]] w (WholePost w n A c xs) := by
  obtain ⟨ka, hka⟩ := (ev_all hi).rounds
  have HKA := Aside0.mk hka
  have HX := Aside0.mk (CxAt.new w n A xs.length c).drew'
  have HB := Aside0.mk (below_alloc (Below.refl w.heap.size w) (.cells #[.int .i64 n, .slice A xs.length c] 28)).drew
  have HR := Aside0.mk hr
  have HC := Aside0.mk hc
  have HI := Aside0.mk hi
  have hpl := pairs_len hi
  clear hr hc hi hka
  go_enter Try.func76, Try.ntmps76
  go_upto_region 1 with fail
  refine st_ 8 (S := fun w' => w'.cell? ⟨w.heap.size, 0, none⟩ = some (.int .i64 n) ∧ w'.cell? ⟨w.heap.size, 1, none⟩ = some (.slice A xs.length c)) (ds := []) ⟨HX.out.c0, HX.out.c1⟩ (fun hHeld => ?_)
  refine with_tabW (T := (true, [([], []), ([], []), ([1], [1]), ([], []), ([], []), ([0, 2, 3, 4], [0, 2, 3, 4]), ([5], [5]), ([6, 2, 0, 1, 2, 3, 4, 5, 6], [6])])) (B := [0, 0, 2, 0, 0, 31, 63, 127]) (by kernel_rfl) (by kernel_rfl) (fun HT_ HW_ => ?_)
  refine tk_ 0 4 1 HT_ HW_ hHeld ?_
  refine tk_ 1 5 3 HT_ HW_ hHeld ?_
  refine tr_ 2 3 4 (some 6) (some 7) (some 8) 7 11 19 HT_ (fun K hK => ?_) (fun K hK => ?_) (fun K hK => ?_)
  refine ca_ Try.func110 #[.agg #[.int .i64 n, .slice A xs.length c]] ?_
  refine (QS.spec_l02All.calls ka n A c xs (pairsL xs) _ (Kd.C_below HR.out HB.out) HC.out HKA.out).mono ?_; rintro e wz1 ⟨va, rfl, hv, hb⟩; have HV := Aside0.mk (Kd.R_lower hv HB.out.size); (try (have HO3n := Aside0.mk (Kd.R_below HO3.out hb); clear HO3; have HO3 := HO3n; clear HO3n)); (try (have HO4n := Aside0.mk (Kd.R_below HO4.out hb); clear HO4; have HO4 := HO4n; clear HO4n)); (try (have HXn := Aside0.mk (HX.out.below hb); clear HX; have HX := HXn; clear HXn)); (try (have HBn := Aside0.mk (below_in HB.out hb); clear HB; have HB := HBn; clear HBn)); clear hv hb; obtain ⟨Aa, ca, rfl⟩ := Kd.R_slice HV.out
  refine ⟨_, rfl, ?_⟩
  refine hK.out _ _ ⟨HX.out.c0, HX.out.c1⟩ (fun hHeld => ?_)
  clear hK K
  refine nm_ ?_
  refine tw_ 3 4 (some 7) (some 8) 15 23 HT_ (fun K hK => ?_) (fun K hK => ?_)
  (refine value_ (by rfl) rfl (v := .slice (some ⟨(wz1).heap.size, 0, none⟩) 0 0) (w1 := (wz1).alloc (.cells #[] 73)) (by go_simp) ?_; have HO3 := Aside0.mk (PO.made (wz1) w.heap.size 0 #[] HB.out.size (Nat.zero_le _) rfl); have hb := below_alloc (Below.refl (wz1).heap.size (wz1)) (.cells #[] 73); generalize (wz1).alloc (.cells #[] 73) = wz2 at hb HO3 ⊢; generalize (some (⟨(wz1).heap.size, 0, none⟩ : Addr)) = A3 at HO3 ⊢; (try (have HVn := Aside0.mk (Kd.R_below HV.out hb); clear HV; have HV := HVn; clear HVn)); (try (have HO4n := Aside0.mk (Kd.R_below HO4.out hb); clear HO4; have HO4 := HO4n; clear HO4n)); (try (have HXn := Aside0.mk (HX.out.below hb); clear HX; have HX := HXn; clear HXn)); (try (have HBn := Aside0.mk (below_in HB.out hb); clear HB; have HB := HBn; clear HBn)); clear hb)
  refine hK.out _ _ ⟨HX.out.c0, HX.out.c1⟩ (fun hHeld => ?_)
  clear hK K
  refine nm_ ?_
  refine on_ 4 (some 8) 31 HT_ (fun K hK => ?_)
  (refine value_ (by rfl) rfl (v := .slice (some ⟨(wz2).heap.size, 0, none⟩) 0 0) (w1 := (wz2).alloc (.cells #[] 22)) (by go_simp) ?_; have HO4 := Aside0.mk (VO.made (wz2) w.heap.size 0 #[] HB.out.size (Nat.zero_le _) rfl); have hb := below_alloc (Below.refl (wz2).heap.size (wz2)) (.cells #[] 22); generalize (wz2).alloc (.cells #[] 22) = wz3 at hb HO4 ⊢; generalize (some (⟨(wz2).heap.size, 0, none⟩ : Addr)) = A4 at HO4 ⊢; (try (have HVn := Aside0.mk (Kd.R_below HV.out hb); clear HV; have HV := HVn; clear HVn)); (try (have HO3n := Aside0.mk (Kd.R_below HO3.out hb); clear HO3; have HO3 := HO3n; clear HO3n)); (try (have HXn := Aside0.mk (HX.out.below hb); clear HX; have HX := HXn; clear HXn)); (try (have HBn := Aside0.mk (below_in HB.out hb); clear HB; have HB := HBn; clear HBn)); clear hb)
  refine hK.out _ _ ⟨HX.out.c0, HX.out.c1⟩ (fun hHeld => ?_)
  clear hK K
  refine nm_ ?_
  refine pd_ 5 9 63 HT_ ?_
  refine on_ 6 (some 10) 127 HT_ (fun K hK => ?_)
  (refine value_ (by rfl) rfl (v := .pointer (some ⟨(wz3).heap.size, 0, none⟩)) (w1 := (wz3).alloc (.cells (ssC n A c xs.length (.slice Aa (pairsL xs).length ca) (.slice A3 0 0) 0 (-1) 0 true (.slice A4 0 0)) 85)) (by go_simp; rfl) ?_; have hb := below_alloc (Below.refl (wz3).heap.size (wz3)) (.cells (ssC n A c xs.length (.slice Aa (pairsL xs).length ca) (.slice A3 0 0) 0 (-1) 0 true (.slice A4 0 0)) 85); have HNB := Aside0.mk (heap_alloc_new (wz3) (.cells (ssC n A c xs.length (.slice Aa (pairsL xs).length ca) (.slice A3 0 0) 0 (-1) 0 true (.slice A4 0 0)) 85)); have HY := Aside0.mk HB.out.size; (try (have HVn := Aside0.mk (Kd.R_below HV.out hb); clear HV; have HV := HVn; clear HVn)); (try (have HO3n := Aside0.mk (Kd.R_below HO3.out hb); clear HO3; have HO3 := HO3n; clear HO3n)); (try (have HO4n := Aside0.mk (Kd.R_below HO4.out hb); clear HO4; have HO4 := HO4n; clear HO4n)); (try (have HXn := Aside0.mk (HX.out.below hb); clear HX; have HX := HXn; clear HXn)); (try (have HBn := Aside0.mk (below_in HB.out hb); clear HB; have HB := HBn; clear HBn)); clear hb)
  refine hK.out _ _ ⟨HX.out.c0, HX.out.c1⟩ (fun hHeld => ?_)
  clear hK K
  refine nm_ ?_
  refine pd_ 7 3 255 HT_ ?_
  refine dn_ HT_ ?_
  rotate_left
  (refine value_ (by rfl) rfl (v := .slice (some ⟨(wz1).heap.size, 0, none⟩) 0 0) (w1 := (wz1).alloc (.cells #[] 22)) (by go_simp) ?_; have HO4 := Aside0.mk (VO.made (wz1) w.heap.size 0 #[] HB.out.size (Nat.zero_le _) rfl); have hb := below_alloc (Below.refl (wz1).heap.size (wz1)) (.cells #[] 22); generalize (wz1).alloc (.cells #[] 22) = wz2 at hb HO4 ⊢; generalize (some (⟨(wz1).heap.size, 0, none⟩ : Addr)) = A4 at HO4 ⊢; (try (have HVn := Aside0.mk (Kd.R_below HV.out hb); clear HV; have HV := HVn; clear HVn)); (try (have HO3n := Aside0.mk (Kd.R_below HO3.out hb); clear HO3; have HO3 := HO3n; clear HO3n)); (try (have HXn := Aside0.mk (HX.out.below hb); clear HX; have HX := HXn; clear HXn)); (try (have HBn := Aside0.mk (below_in HB.out hb); clear HB; have HB := HBn; clear HBn)); clear hb)
  refine hK.out _ _ ⟨HX.out.c0, HX.out.c1⟩ (fun hHeld => ?_)
  clear hK K
  refine nm_ ?_
  refine on_ 3 (some 7) 31 HT_ (fun K hK => ?_)
  (refine value_ (by rfl) rfl (v := .slice (some ⟨(wz2).heap.size, 0, none⟩) 0 0) (w1 := (wz2).alloc (.cells #[] 73)) (by go_simp) ?_; have HO3 := Aside0.mk (PO.made (wz2) w.heap.size 0 #[] HB.out.size (Nat.zero_le _) rfl); have hb := below_alloc (Below.refl (wz2).heap.size (wz2)) (.cells #[] 73); generalize (wz2).alloc (.cells #[] 73) = wz3 at hb HO3 ⊢; generalize (some (⟨(wz2).heap.size, 0, none⟩ : Addr)) = A3 at HO3 ⊢; (try (have HVn := Aside0.mk (Kd.R_below HV.out hb); clear HV; have HV := HVn; clear HVn)); (try (have HO4n := Aside0.mk (Kd.R_below HO4.out hb); clear HO4; have HO4 := HO4n; clear HO4n)); (try (have HXn := Aside0.mk (HX.out.below hb); clear HX; have HX := HXn; clear HXn)); (try (have HBn := Aside0.mk (below_in HB.out hb); clear HB; have HB := HBn; clear HBn)); clear hb)
  refine hK.out _ _ ⟨HX.out.c0, HX.out.c1⟩ (fun hHeld => ?_)
  clear hK K
  refine nm_ ?_
  refine pd_ 5 9 63 HT_ ?_
  refine on_ 6 (some 10) 127 HT_ (fun K hK => ?_)
  (refine value_ (by rfl) rfl (v := .pointer (some ⟨(wz3).heap.size, 0, none⟩)) (w1 := (wz3).alloc (.cells (ssC n A c xs.length (.slice Aa (pairsL xs).length ca) (.slice A3 0 0) 0 (-1) 0 true (.slice A4 0 0)) 85)) (by go_simp; rfl) ?_; have hb := below_alloc (Below.refl (wz3).heap.size (wz3)) (.cells (ssC n A c xs.length (.slice Aa (pairsL xs).length ca) (.slice A3 0 0) 0 (-1) 0 true (.slice A4 0 0)) 85); have HNB := Aside0.mk (heap_alloc_new (wz3) (.cells (ssC n A c xs.length (.slice Aa (pairsL xs).length ca) (.slice A3 0 0) 0 (-1) 0 true (.slice A4 0 0)) 85)); have HY := Aside0.mk HB.out.size; (try (have HVn := Aside0.mk (Kd.R_below HV.out hb); clear HV; have HV := HVn; clear HVn)); (try (have HO3n := Aside0.mk (Kd.R_below HO3.out hb); clear HO3; have HO3 := HO3n; clear HO3n)); (try (have HO4n := Aside0.mk (Kd.R_below HO4.out hb); clear HO4; have HO4 := HO4n; clear HO4n)); (try (have HXn := Aside0.mk (HX.out.below hb); clear HX; have HX := HXn; clear HXn)); (try (have HBn := Aside0.mk (below_in HB.out hb); clear HB; have HB := HBn; clear HBn)); clear hb)
  refine hK.out _ _ ⟨HX.out.c0, HX.out.c1⟩ (fun hHeld => ?_)
  clear hK K
  refine nm_ ?_
  refine pd_ 7 3 255 HT_ ?_
  refine dn_ HT_ ?_
  rotate_left
  (refine value_ (by rfl) rfl (v := .slice (some ⟨((w.alloc (.cells #[.int .i64 n, .slice A xs.length c] 28)).drew).heap.size, 0, none⟩) 0 0) (w1 := ((w.alloc (.cells #[.int .i64 n, .slice A xs.length c] 28)).drew).alloc (.cells #[] 73)) (by go_simp) ?_; have HO3 := Aside0.mk (PO.made ((w.alloc (.cells #[.int .i64 n, .slice A xs.length c] 28)).drew) w.heap.size 0 #[] HB.out.size (Nat.zero_le _) rfl); have hb := below_alloc (Below.refl ((w.alloc (.cells #[.int .i64 n, .slice A xs.length c] 28)).drew).heap.size ((w.alloc (.cells #[.int .i64 n, .slice A xs.length c] 28)).drew)) (.cells #[] 73); generalize ((w.alloc (.cells #[.int .i64 n, .slice A xs.length c] 28)).drew).alloc (.cells #[] 73) = wz1 at hb HO3 ⊢; generalize (some (⟨((w.alloc (.cells #[.int .i64 n, .slice A xs.length c] 28)).drew).heap.size, 0, none⟩ : Addr)) = A3 at HO3 ⊢; (try (have HVn := Aside0.mk (Kd.R_below HV.out hb); clear HV; have HV := HVn; clear HVn)); (try (have HO4n := Aside0.mk (Kd.R_below HO4.out hb); clear HO4; have HO4 := HO4n; clear HO4n)); (try (have HXn := Aside0.mk (HX.out.below hb); clear HX; have HX := HXn; clear HXn)); (try (have HBn := Aside0.mk (below_in HB.out hb); clear HB; have HB := HBn; clear HBn)); clear hb)
  refine hK.out _ _ ⟨HX.out.c0, HX.out.c1⟩ (fun hHeld => ?_)
  clear hK K
  refine nm_ ?_
  refine tw_ 2 4 (some 6) (some 8) 15 27 HT_ (fun K hK => ?_) (fun K hK => ?_)
  refine ca_ Try.func110 #[.agg #[.int .i64 n, .slice A xs.length c]] ?_
  refine (QS.spec_l02All.calls ka n A c xs (pairsL xs) _ (Kd.C_below HR.out HB.out) HC.out HKA.out).mono ?_; rintro e wz2 ⟨va, rfl, hv, hb⟩; have HV := Aside0.mk (Kd.R_lower hv HB.out.size); (try (have HO3n := Aside0.mk (Kd.R_below HO3.out hb); clear HO3; have HO3 := HO3n; clear HO3n)); (try (have HO4n := Aside0.mk (Kd.R_below HO4.out hb); clear HO4; have HO4 := HO4n; clear HO4n)); (try (have HXn := Aside0.mk (HX.out.below hb); clear HX; have HX := HXn; clear HXn)); (try (have HBn := Aside0.mk (below_in HB.out hb); clear HB; have HB := HBn; clear HBn)); clear hv hb; obtain ⟨Aa, ca, rfl⟩ := Kd.R_slice HV.out
  refine ⟨_, rfl, ?_⟩
  refine hK.out _ _ ⟨HX.out.c0, HX.out.c1⟩ (fun hHeld => ?_)
  clear hK K
  refine nm_ ?_
  refine on_ 4 (some 8) 31 HT_ (fun K hK => ?_)
  (refine value_ (by rfl) rfl (v := .slice (some ⟨(wz2).heap.size, 0, none⟩) 0 0) (w1 := (wz2).alloc (.cells #[] 22)) (by go_simp) ?_; have HO4 := Aside0.mk (VO.made (wz2) w.heap.size 0 #[] HB.out.size (Nat.zero_le _) rfl); have hb := below_alloc (Below.refl (wz2).heap.size (wz2)) (.cells #[] 22); generalize (wz2).alloc (.cells #[] 22) = wz3 at hb HO4 ⊢; generalize (some (⟨(wz2).heap.size, 0, none⟩ : Addr)) = A4 at HO4 ⊢; (try (have HVn := Aside0.mk (Kd.R_below HV.out hb); clear HV; have HV := HVn; clear HVn)); (try (have HO3n := Aside0.mk (Kd.R_below HO3.out hb); clear HO3; have HO3 := HO3n; clear HO3n)); (try (have HXn := Aside0.mk (HX.out.below hb); clear HX; have HX := HXn; clear HXn)); (try (have HBn := Aside0.mk (below_in HB.out hb); clear HB; have HB := HBn; clear HBn)); clear hb)
  refine hK.out _ _ ⟨HX.out.c0, HX.out.c1⟩ (fun hHeld => ?_)
  clear hK K
  refine nm_ ?_
  refine pd_ 5 9 63 HT_ ?_
  refine on_ 6 (some 10) 127 HT_ (fun K hK => ?_)
  (refine value_ (by rfl) rfl (v := .pointer (some ⟨(wz3).heap.size, 0, none⟩)) (w1 := (wz3).alloc (.cells (ssC n A c xs.length (.slice Aa (pairsL xs).length ca) (.slice A3 0 0) 0 (-1) 0 true (.slice A4 0 0)) 85)) (by go_simp; rfl) ?_; have hb := below_alloc (Below.refl (wz3).heap.size (wz3)) (.cells (ssC n A c xs.length (.slice Aa (pairsL xs).length ca) (.slice A3 0 0) 0 (-1) 0 true (.slice A4 0 0)) 85); have HNB := Aside0.mk (heap_alloc_new (wz3) (.cells (ssC n A c xs.length (.slice Aa (pairsL xs).length ca) (.slice A3 0 0) 0 (-1) 0 true (.slice A4 0 0)) 85)); have HY := Aside0.mk HB.out.size; (try (have HVn := Aside0.mk (Kd.R_below HV.out hb); clear HV; have HV := HVn; clear HVn)); (try (have HO3n := Aside0.mk (Kd.R_below HO3.out hb); clear HO3; have HO3 := HO3n; clear HO3n)); (try (have HO4n := Aside0.mk (Kd.R_below HO4.out hb); clear HO4; have HO4 := HO4n; clear HO4n)); (try (have HXn := Aside0.mk (HX.out.below hb); clear HX; have HX := HXn; clear HXn)); (try (have HBn := Aside0.mk (below_in HB.out hb); clear HB; have HB := HBn; clear HBn)); clear hb)
  refine hK.out _ _ ⟨HX.out.c0, HX.out.c1⟩ (fun hHeld => ?_)
  clear hK K
  refine nm_ ?_
  refine pd_ 7 3 255 HT_ ?_
  refine dn_ HT_ ?_
  rotate_left
  (refine value_ (by rfl) rfl (v := .slice (some ⟨(wz1).heap.size, 0, none⟩) 0 0) (w1 := (wz1).alloc (.cells #[] 22)) (by go_simp) ?_; have HO4 := Aside0.mk (VO.made (wz1) w.heap.size 0 #[] HB.out.size (Nat.zero_le _) rfl); have hb := below_alloc (Below.refl (wz1).heap.size (wz1)) (.cells #[] 22); generalize (wz1).alloc (.cells #[] 22) = wz2 at hb HO4 ⊢; generalize (some (⟨(wz1).heap.size, 0, none⟩ : Addr)) = A4 at HO4 ⊢; (try (have HVn := Aside0.mk (Kd.R_below HV.out hb); clear HV; have HV := HVn; clear HVn)); (try (have HO3n := Aside0.mk (Kd.R_below HO3.out hb); clear HO3; have HO3 := HO3n; clear HO3n)); (try (have HXn := Aside0.mk (HX.out.below hb); clear HX; have HX := HXn; clear HXn)); (try (have HBn := Aside0.mk (below_in HB.out hb); clear HB; have HB := HBn; clear HBn)); clear hb)
  refine hK.out _ _ ⟨HX.out.c0, HX.out.c1⟩ (fun hHeld => ?_)
  clear hK K
  refine nm_ ?_
  refine on_ 2 (some 6) 31 HT_ (fun K hK => ?_)
  refine ca_ Try.func110 #[.agg #[.int .i64 n, .slice A xs.length c]] ?_
  refine (QS.spec_l02All.calls ka n A c xs (pairsL xs) _ (Kd.C_below HR.out HB.out) HC.out HKA.out).mono ?_; rintro e wz3 ⟨va, rfl, hv, hb⟩; have HV := Aside0.mk (Kd.R_lower hv HB.out.size); (try (have HO3n := Aside0.mk (Kd.R_below HO3.out hb); clear HO3; have HO3 := HO3n; clear HO3n)); (try (have HO4n := Aside0.mk (Kd.R_below HO4.out hb); clear HO4; have HO4 := HO4n; clear HO4n)); (try (have HXn := Aside0.mk (HX.out.below hb); clear HX; have HX := HXn; clear HXn)); (try (have HBn := Aside0.mk (below_in HB.out hb); clear HB; have HB := HBn; clear HBn)); clear hv hb; obtain ⟨Aa, ca, rfl⟩ := Kd.R_slice HV.out
  refine ⟨_, rfl, ?_⟩
  refine hK.out _ _ ⟨HX.out.c0, HX.out.c1⟩ (fun hHeld => ?_)
  clear hK K
  refine nm_ ?_
  refine pd_ 5 9 63 HT_ ?_
  refine on_ 6 (some 10) 127 HT_ (fun K hK => ?_)
  (refine value_ (by rfl) rfl (v := .pointer (some ⟨(wz3).heap.size, 0, none⟩)) (w1 := (wz3).alloc (.cells (ssC n A c xs.length (.slice Aa (pairsL xs).length ca) (.slice A3 0 0) 0 (-1) 0 true (.slice A4 0 0)) 85)) (by go_simp; rfl) ?_; have hb := below_alloc (Below.refl (wz3).heap.size (wz3)) (.cells (ssC n A c xs.length (.slice Aa (pairsL xs).length ca) (.slice A3 0 0) 0 (-1) 0 true (.slice A4 0 0)) 85); have HNB := Aside0.mk (heap_alloc_new (wz3) (.cells (ssC n A c xs.length (.slice Aa (pairsL xs).length ca) (.slice A3 0 0) 0 (-1) 0 true (.slice A4 0 0)) 85)); have HY := Aside0.mk HB.out.size; (try (have HVn := Aside0.mk (Kd.R_below HV.out hb); clear HV; have HV := HVn; clear HVn)); (try (have HO3n := Aside0.mk (Kd.R_below HO3.out hb); clear HO3; have HO3 := HO3n; clear HO3n)); (try (have HO4n := Aside0.mk (Kd.R_below HO4.out hb); clear HO4; have HO4 := HO4n; clear HO4n)); (try (have HXn := Aside0.mk (HX.out.below hb); clear HX; have HX := HXn; clear HXn)); (try (have HBn := Aside0.mk (below_in HB.out hb); clear HB; have HB := HBn; clear HBn)); clear hb)
  refine hK.out _ _ ⟨HX.out.c0, HX.out.c1⟩ (fun hHeld => ?_)
  clear hK K
  refine nm_ ?_
  refine pd_ 7 3 255 HT_ ?_
  refine dn_ HT_ ?_
  rotate_left
  (refine value_ (by rfl) rfl (v := .slice (some ⟨((w.alloc (.cells #[.int .i64 n, .slice A xs.length c] 28)).drew).heap.size, 0, none⟩) 0 0) (w1 := ((w.alloc (.cells #[.int .i64 n, .slice A xs.length c] 28)).drew).alloc (.cells #[] 22)) (by go_simp) ?_; have HO4 := Aside0.mk (VO.made ((w.alloc (.cells #[.int .i64 n, .slice A xs.length c] 28)).drew) w.heap.size 0 #[] HB.out.size (Nat.zero_le _) rfl); have hb := below_alloc (Below.refl ((w.alloc (.cells #[.int .i64 n, .slice A xs.length c] 28)).drew).heap.size ((w.alloc (.cells #[.int .i64 n, .slice A xs.length c] 28)).drew)) (.cells #[] 22); generalize ((w.alloc (.cells #[.int .i64 n, .slice A xs.length c] 28)).drew).alloc (.cells #[] 22) = wz1 at hb HO4 ⊢; generalize (some (⟨((w.alloc (.cells #[.int .i64 n, .slice A xs.length c] 28)).drew).heap.size, 0, none⟩ : Addr)) = A4 at HO4 ⊢; (try (have HVn := Aside0.mk (Kd.R_below HV.out hb); clear HV; have HV := HVn; clear HVn)); (try (have HO3n := Aside0.mk (Kd.R_below HO3.out hb); clear HO3; have HO3 := HO3n; clear HO3n)); (try (have HXn := Aside0.mk (HX.out.below hb); clear HX; have HX := HXn; clear HXn)); (try (have HBn := Aside0.mk (below_in HB.out hb); clear HB; have HB := HBn; clear HBn)); clear hb)
  refine hK.out _ _ ⟨HX.out.c0, HX.out.c1⟩ (fun hHeld => ?_)
  clear hK K
  refine nm_ ?_
  refine tw_ 2 3 (some 6) (some 7) 23 27 HT_ (fun K hK => ?_) (fun K hK => ?_)
  refine ca_ Try.func110 #[.agg #[.int .i64 n, .slice A xs.length c]] ?_
  refine (QS.spec_l02All.calls ka n A c xs (pairsL xs) _ (Kd.C_below HR.out HB.out) HC.out HKA.out).mono ?_; rintro e wz2 ⟨va, rfl, hv, hb⟩; have HV := Aside0.mk (Kd.R_lower hv HB.out.size); (try (have HO3n := Aside0.mk (Kd.R_below HO3.out hb); clear HO3; have HO3 := HO3n; clear HO3n)); (try (have HO4n := Aside0.mk (Kd.R_below HO4.out hb); clear HO4; have HO4 := HO4n; clear HO4n)); (try (have HXn := Aside0.mk (HX.out.below hb); clear HX; have HX := HXn; clear HXn)); (try (have HBn := Aside0.mk (below_in HB.out hb); clear HB; have HB := HBn; clear HBn)); clear hv hb; obtain ⟨Aa, ca, rfl⟩ := Kd.R_slice HV.out
  refine ⟨_, rfl, ?_⟩
  refine hK.out _ _ ⟨HX.out.c0, HX.out.c1⟩ (fun hHeld => ?_)
  clear hK K
  refine nm_ ?_
  refine on_ 3 (some 7) 31 HT_ (fun K hK => ?_)
  (refine value_ (by rfl) rfl (v := .slice (some ⟨(wz2).heap.size, 0, none⟩) 0 0) (w1 := (wz2).alloc (.cells #[] 73)) (by go_simp) ?_; have HO3 := Aside0.mk (PO.made (wz2) w.heap.size 0 #[] HB.out.size (Nat.zero_le _) rfl); have hb := below_alloc (Below.refl (wz2).heap.size (wz2)) (.cells #[] 73); generalize (wz2).alloc (.cells #[] 73) = wz3 at hb HO3 ⊢; generalize (some (⟨(wz2).heap.size, 0, none⟩ : Addr)) = A3 at HO3 ⊢; (try (have HVn := Aside0.mk (Kd.R_below HV.out hb); clear HV; have HV := HVn; clear HVn)); (try (have HO4n := Aside0.mk (Kd.R_below HO4.out hb); clear HO4; have HO4 := HO4n; clear HO4n)); (try (have HXn := Aside0.mk (HX.out.below hb); clear HX; have HX := HXn; clear HXn)); (try (have HBn := Aside0.mk (below_in HB.out hb); clear HB; have HB := HBn; clear HBn)); clear hb)
  refine hK.out _ _ ⟨HX.out.c0, HX.out.c1⟩ (fun hHeld => ?_)
  clear hK K
  refine nm_ ?_
  refine pd_ 5 9 63 HT_ ?_
  refine on_ 6 (some 10) 127 HT_ (fun K hK => ?_)
  (refine value_ (by rfl) rfl (v := .pointer (some ⟨(wz3).heap.size, 0, none⟩)) (w1 := (wz3).alloc (.cells (ssC n A c xs.length (.slice Aa (pairsL xs).length ca) (.slice A3 0 0) 0 (-1) 0 true (.slice A4 0 0)) 85)) (by go_simp; rfl) ?_; have hb := below_alloc (Below.refl (wz3).heap.size (wz3)) (.cells (ssC n A c xs.length (.slice Aa (pairsL xs).length ca) (.slice A3 0 0) 0 (-1) 0 true (.slice A4 0 0)) 85); have HNB := Aside0.mk (heap_alloc_new (wz3) (.cells (ssC n A c xs.length (.slice Aa (pairsL xs).length ca) (.slice A3 0 0) 0 (-1) 0 true (.slice A4 0 0)) 85)); have HY := Aside0.mk HB.out.size; (try (have HVn := Aside0.mk (Kd.R_below HV.out hb); clear HV; have HV := HVn; clear HVn)); (try (have HO3n := Aside0.mk (Kd.R_below HO3.out hb); clear HO3; have HO3 := HO3n; clear HO3n)); (try (have HO4n := Aside0.mk (Kd.R_below HO4.out hb); clear HO4; have HO4 := HO4n; clear HO4n)); (try (have HXn := Aside0.mk (HX.out.below hb); clear HX; have HX := HXn; clear HXn)); (try (have HBn := Aside0.mk (below_in HB.out hb); clear HB; have HB := HBn; clear HBn)); clear hb)
  refine hK.out _ _ ⟨HX.out.c0, HX.out.c1⟩ (fun hHeld => ?_)
  clear hK K
  refine nm_ ?_
  refine pd_ 7 3 255 HT_ ?_
  refine dn_ HT_ ?_
  rotate_left
  (refine value_ (by rfl) rfl (v := .slice (some ⟨(wz1).heap.size, 0, none⟩) 0 0) (w1 := (wz1).alloc (.cells #[] 73)) (by go_simp) ?_; have HO3 := Aside0.mk (PO.made (wz1) w.heap.size 0 #[] HB.out.size (Nat.zero_le _) rfl); have hb := below_alloc (Below.refl (wz1).heap.size (wz1)) (.cells #[] 73); generalize (wz1).alloc (.cells #[] 73) = wz2 at hb HO3 ⊢; generalize (some (⟨(wz1).heap.size, 0, none⟩ : Addr)) = A3 at HO3 ⊢; (try (have HVn := Aside0.mk (Kd.R_below HV.out hb); clear HV; have HV := HVn; clear HVn)); (try (have HO4n := Aside0.mk (Kd.R_below HO4.out hb); clear HO4; have HO4 := HO4n; clear HO4n)); (try (have HXn := Aside0.mk (HX.out.below hb); clear HX; have HX := HXn; clear HXn)); (try (have HBn := Aside0.mk (below_in HB.out hb); clear HB; have HB := HBn; clear HBn)); clear hb)
  refine hK.out _ _ ⟨HX.out.c0, HX.out.c1⟩ (fun hHeld => ?_)
  clear hK K
  refine nm_ ?_
  refine on_ 2 (some 6) 31 HT_ (fun K hK => ?_)
  refine ca_ Try.func110 #[.agg #[.int .i64 n, .slice A xs.length c]] ?_
  refine (QS.spec_l02All.calls ka n A c xs (pairsL xs) _ (Kd.C_below HR.out HB.out) HC.out HKA.out).mono ?_; rintro e wz3 ⟨va, rfl, hv, hb⟩; have HV := Aside0.mk (Kd.R_lower hv HB.out.size); (try (have HO3n := Aside0.mk (Kd.R_below HO3.out hb); clear HO3; have HO3 := HO3n; clear HO3n)); (try (have HO4n := Aside0.mk (Kd.R_below HO4.out hb); clear HO4; have HO4 := HO4n; clear HO4n)); (try (have HXn := Aside0.mk (HX.out.below hb); clear HX; have HX := HXn; clear HXn)); (try (have HBn := Aside0.mk (below_in HB.out hb); clear HB; have HB := HBn; clear HBn)); clear hv hb; obtain ⟨Aa, ca, rfl⟩ := Kd.R_slice HV.out
  refine ⟨_, rfl, ?_⟩
  refine hK.out _ _ ⟨HX.out.c0, HX.out.c1⟩ (fun hHeld => ?_)
  clear hK K
  refine nm_ ?_
  refine pd_ 5 9 63 HT_ ?_
  refine on_ 6 (some 10) 127 HT_ (fun K hK => ?_)
  (refine value_ (by rfl) rfl (v := .pointer (some ⟨(wz3).heap.size, 0, none⟩)) (w1 := (wz3).alloc (.cells (ssC n A c xs.length (.slice Aa (pairsL xs).length ca) (.slice A3 0 0) 0 (-1) 0 true (.slice A4 0 0)) 85)) (by go_simp; rfl) ?_; have hb := below_alloc (Below.refl (wz3).heap.size (wz3)) (.cells (ssC n A c xs.length (.slice Aa (pairsL xs).length ca) (.slice A3 0 0) 0 (-1) 0 true (.slice A4 0 0)) 85); have HNB := Aside0.mk (heap_alloc_new (wz3) (.cells (ssC n A c xs.length (.slice Aa (pairsL xs).length ca) (.slice A3 0 0) 0 (-1) 0 true (.slice A4 0 0)) 85)); have HY := Aside0.mk HB.out.size; (try (have HVn := Aside0.mk (Kd.R_below HV.out hb); clear HV; have HV := HVn; clear HVn)); (try (have HO3n := Aside0.mk (Kd.R_below HO3.out hb); clear HO3; have HO3 := HO3n; clear HO3n)); (try (have HO4n := Aside0.mk (Kd.R_below HO4.out hb); clear HO4; have HO4 := HO4n; clear HO4n)); (try (have HXn := Aside0.mk (HX.out.below hb); clear HX; have HX := HXn; clear HXn)); (try (have HBn := Aside0.mk (below_in HB.out hb); clear HB; have HB := HBn; clear HBn)); clear hb)
  refine hK.out _ _ ⟨HX.out.c0, HX.out.c1⟩ (fun hHeld => ?_)
  clear hK K
  refine nm_ ?_
  refine pd_ 7 3 255 HT_ ?_
  refine dn_ HT_ ?_
  rotate_left
  all_goals
    have hpn : pairingB xs [] = true := rfl
    generalize wz3.alloc (.cells (ssC n A c xs.length (.slice Aa (pairsL xs).length ca) (.slice A3 0 0) 0 (-1) 0 true (.slice A4 0 0)) 85) = W4 at HX HB HV HO3 HO4 HNB ⊢
    obtain ⟨y, hy⟩ : ∃ y, wz3.heap.size = y := ⟨_, rfl⟩
    rw [hy] at HNB HY ⊢
    have HS : Aside0 (SS W4 w y n A c xs.length (.slice Aa (pairsL xs).length ca) (pairsL xs) (.slice A3 0 0) [] 0 (-1) 0 true (.slice A4 0 0) [] []) := ⟨⟨HNB.out, HY.out, HV.out, HO3.out, HO4.out, VI.nil _ _, HB.out⟩⟩
    have HL5 : Aside0 (PO (W4.alloc (.cells #[] 73)) w.heap.size (.slice (some ⟨W4.heap.size, 0, none⟩) 0 0) []) := ⟨PO.made W4 w.heap.size 0 #[] HB.out.size (Nat.zero_le _) rfl⟩
    have HS5 := Aside0.mk (HS.out.below (below_alloc (Below.refl _ _) (.cells #[] 73)))
    have HGO := Aside0.mk (go_all w y n A c xs (.slice Aa (pairsL xs).length ca) (pairsL xs) 0 HR.out HC.out HI.out (by omega) ((pairsL xs).length - 0) [] ⟨0, -1, [], []⟩ (.slice (some ⟨W4.heap.size, 0, none⟩) 0 0) 0 (W4.alloc (.cells #[] 73)) (.slice A3 0 0) (.slice A4 0 0) [] HS5.out (GoodV.nil _) HL5.out hpn (Nat.zero_le _) rfl)
    clear HX HB HV HO3 HO4 HNB HY HS HL5 HS5 hy hpn
    go_wp2_with (go_at_call 126; refine HGO.out.mono ?_; rintro e w6 ⟨rfl, ⟨vb, vf, vs, hs⟩, hg, hk⟩; have HS6 := Aside0.mk hs; have HG6 := Aside0.mk hg; clear hs hg hk HGO)
    go_ret
    exact ⟨y, _, vb, vf, vs, rfl, HS6.out, HG6.out⟩
def limZ (n : Int) (xs : List Int) (m : Int) : Int := if isC n xs = true then (if (xs.length : Int) > m then 3 else 0) else 1
theorem ev_limit (n : Int) {xs : List Int} (hx : xs.length ≤ 1048576) (m : Int) : Ev (fun k => QS.spec_l08Limit.f k n xs m) (limZ n xs m) := by
  unfold QS.spec_l08Limit.f limZ
  refine Ev.bind (ev_is n (Nat.le_trans hx (by decide))) ?_
  cases isC n xs with
  | false => exact Ev.now _
  | true =>
    by_cases h : (xs.length : Int) > m
    · simp only [if_true, if_pos h]; exact Ev.now _
    · simp only [if_true, if_neg h]; exact Ev.now _
def countZ (n : Int) (xs : List Int) : Int × Int := if limZ n xs 13 = 0 then ((allG xs).count, 0) else (0, limZ n xs 13)
theorem limZ_zero {n : Int} {xs : List Int} {m : Int} (h : limZ n xs m = 0) : isC n xs = true := by
  unfold limZ at h
  by_cases hi : isC n xs = true
  · exact hi
  · rw [if_neg hi] at h; exact absurd h (by decide)
set_option maxRecDepth 100000 in
set_option maxHeartbeats 8000000 in
theorem count_c (n : Int) (A : Option Addr) (c : Nat) (xs : List Int) (w : World) (hr : RC w A xs.length xs) (hc : xs.length ≤ c) (hx : xs.length ≤ 1048576) :
    Calls Try.prog 32 #[.agg #[.int .i64 n, .slice A xs.length c]] w fun e w' => e = .returned (.tuple #[.int .i64 (countZ n xs).1, .int .i64 (countZ n xs).2]) ∧ Below w.heap.size w w' := by
  have HX := Aside0.mk (CxAt.new w n A xs.length c)
  have HB := Aside0.mk (below_alloc (Below.refl w.heap.size w) (.cells #[.int .i64 n, .slice A xs.length c] 28))
  have HR := Aside0.mk hr
  have HC := Aside0.mk hc
  have hx0 := HX.out.c0
  have hx1 := HX.out.c1
  obtain ⟨kl, hkl⟩ := (ev_limit n hx 13).rounds
  have HKL := Aside0.mk hkl
  obtain ⟨R, hR⟩ : ∃ R, countZ n xs = R := ⟨_, rfl⟩
  rw [hR]
  clear hr hc hkl
  by_cases hz : limZ n xs 13 = 0
  · have hi := limZ_zero hz
    obtain rfl : R = ((allG xs).count, 0) := by rw [← hR]; unfold countZ; rw [if_pos hz]
    rw [hz] at HKL
    have HI := Aside0.mk hi
    clear hz hi hR
    go_enter Try.func32, Try.ntmps32
    go_wp2_with (first
      | (go_at_call 75; refine (QS.spec_l08Limit.calls kl n A c xs 13 0 _ (Kd.C_below HR.out HB.out) HC.out HKL.out).mono ?_; rintro e w1 ⟨rfl, hb⟩; have HB1 := Aside0.mk (below_in HB.out hb); have HX1 := Aside0.mk (HX.out.below hb); have hy0 := HX1.out.c0; have hy1 := HX1.out.c1; clear hb hx0 hx1)
      | (go_at_call 76; refine (whole_c n A c xs _ (Kd.C_below HR.out HB1.out) HC.out HI.out).mono ?_; rintro e w2 ⟨y, va, vb, vf, vs, rfl, hs, hg⟩; have HS2 := Aside0.mk hs; have hc4 := hs.c4; have HB2 := Aside0.mk (below_in HB1.out hs.hb); clear hs hg hy0 hy1))
    go_ret2
    exact ⟨rfl, HB2.out⟩
  · obtain rfl : R = (0, limZ n xs 13) := by rw [← hR]; unfold countZ; rw [if_neg hz]
    obtain ⟨z, hzz⟩ : ∃ z, limZ n xs 13 = z := ⟨_, rfl⟩
    rw [hzz] at HKL hz ⊢
    have hz1 : (z == 0) = false := beq_eq_false_iff_ne.2 hz
    clear hR hzz
    go_enter Try.func32, Try.ntmps32
    go_wp2_with (go_at_call 75; refine (QS.spec_l08Limit.calls kl n A c xs 13 z _ (Kd.C_below HR.out HB.out) HC.out HKL.out).mono ?_; rintro e w1 ⟨rfl, hb⟩; have HB1 := Aside0.mk (below_in HB.out hb); clear hb)
    go_ret2
    exact ⟨rfl, HB1.out⟩
end Go.Proofs.Ytomdfjohnmikdaa.Im
namespace Go.Proofs.Ytomdfjohnmikdaa.Ext
set_option linter.unusedVariables false
set_option linter.unusedSimpArgs false
open Go.RowKit Go.Proofs.Ytomdfjohnmikdaa.Im Go.Proofs.Ytomdfjohnmikdaa.Pu Go.Proofs.YtomdfjohnmikdaaW.PrintWords Go.Proofs.YtomdfjohnmikdaaW.PrintLast Go.Proofs.YtomdfjohnmikdaaW.PrintMore
def impl_CountAcyclic.f (a0_0 : Int) (l0_1 : List Int) : Option (Int × Int) := if l0_1.length ≤ 1048576 then some (countI a0_0 l0_1) else none
theorem impl_CountAcyclic.calls (a0_0 : Int) (A0_1 : Option Addr) (c0_1 : Nat) (l0_1 : List Int) (r1 : Int) (r2 : Int) (w : World) (hr0_1 : Kd.C (Kd.int .i64) w A0_1 l0_1.length l0_1) (_hc0_1 : l0_1.length ≤ c0_1) (h : impl_CountAcyclic.f a0_0 l0_1 = some (r1, r2)) :
    Calls Try.prog 33 #[.agg #[.int .i64 a0_0, .slice A0_1 l0_1.length c0_1]] w fun e w' => e = .returned (.tuple #[.int .i64 r1, .int .i64 r2]) ∧ Below w.heap.size w w' := by
  unfold impl_CountAcyclic.f at h
  by_cases hl : l0_1.length ≤ 1048576
  · rw [if_pos hl] at h
    have hd := Option.some.inj h
    have := countI_c a0_0 A0_1 c0_1 l0_1 w hr0_1 _hc0_1 hl
    rw [hd] at this
    exact this
  · rw [if_neg hl] at h; cases h
def spec_CountAcyclic.f (a0_0 : Int) (l0_1 : List Int) : Option (Int × Int) := if l0_1.length ≤ 1048576 then some (countZ a0_0 l0_1) else none
theorem spec_CountAcyclic.calls (a0_0 : Int) (A0_1 : Option Addr) (c0_1 : Nat) (l0_1 : List Int) (r1 : Int) (r2 : Int) (w : World) (hr0_1 : Kd.C (Kd.int .i64) w A0_1 l0_1.length l0_1) (_hc0_1 : l0_1.length ≤ c0_1) (h : spec_CountAcyclic.f a0_0 l0_1 = some (r1, r2)) :
    Calls Try.prog 32 #[.agg #[.int .i64 a0_0, .slice A0_1 l0_1.length c0_1]] w fun e w' => e = .returned (.tuple #[.int .i64 r1, .int .i64 r2]) ∧ Below w.heap.size w w' := by
  unfold spec_CountAcyclic.f at h
  by_cases hl : l0_1.length ≤ 1048576
  · rw [if_pos hl] at h
    have hd := Option.some.inj h
    have := count_c a0_0 A0_1 c0_1 l0_1 w hr0_1 _hc0_1 hl
    rw [hd] at this
    exact this
  · rw [if_neg hl] at h; cases h
end Go.Proofs.Ytomdfjohnmikdaa.Ext
namespace Go.Proofs.Ytomdfjohnmikdaa.QFnExactCountAcyclic
open Go.Proofs.Ytomdfjohnmikdaa.Cw Go.Proofs.Ytomdfjohnmikdaa.Kp Go.Proofs.Ytomdfjohnmikdaa.Ext Go.Proofs.Ytomdfjohnmikdaa.QS Go.RowKit Go.Proofs.YtomdfjohnmikdaaW.PrintWords Go.Proofs.YtomdfjohnmikdaaW.PrintLast Go.Proofs.YtomdfjohnmikdaaW.PrintMore
attribute [local go_sem] max2_int min2_int max_two min_two max_three min_three max_four min_four   -- for this text's walks alone
set_option linter.unusedVariables false
set_option linter.unusedSimpArgs false
theorem info2 : (Try.prog.info? 2).map (fun i => (i.zero, i.size, i.bytes)) = some (some (.int .i64 0), 1, 8) := by kernel_rfl
end Go.Proofs.Ytomdfjohnmikdaa.QFnExactCountAcyclic
namespace Go.Proofs.Ytomdfjohnmikdaa.QFnExactCountAcyclic
open Go.Proofs.Ytomdfjohnmikdaa.Cw Go.Proofs.Ytomdfjohnmikdaa.Kp Go.Proofs.Ytomdfjohnmikdaa.Ext Go.Proofs.Ytomdfjohnmikdaa.QS Go.RowKit Go.Proofs.YtomdfjohnmikdaaW.PrintWords Go.Proofs.YtomdfjohnmikdaaW.PrintLast Go.Proofs.YtomdfjohnmikdaaW.PrintMore
attribute [local go_sem] max2_int min2_int max_two min_two max_three min_three max_four min_four   -- for this text's walks alone
set_option linter.unusedVariables false
set_option linter.unusedSimpArgs false
def laws_FnExactCountAcyclic.f (k : Nat) (a0_0 : Int) (l0_1 : List Int) : Option (Bool) := (laws_szComplex.f a0_0 l0_1 1048576).bind fun t120 => (if t120 < 0 then (some true) else ((laws_toComplex.f k a0_0 l0_1).bind fun bt121 => ((spec_CountAcyclic.f bt121.1 bt121.2).bind fun bt125 => ((laws_toComplex.f k a0_0 l0_1).bind fun bt127 => ((impl_CountAcyclic.f bt127.1 bt127.2).bind fun bt132 => (if bt132.1 = bt125.1 then (if bt132.2 = bt125.2 then ((laws_toComplex.f k a0_0 l0_1).bind fun bt134 => ((laws_eqComplex.f k bt127.1 bt127.2 bt134.1 bt134.2).bind fun t138 => (if t138 = true then (some true) else (none)))) else (none)) else (none)))))))
set_option maxHeartbeats 8000000 in
set_option maxRecDepth 100000 in
theorem laws_FnExactCountAcyclic.calls (k : Nat) (a0_0 : Int) (A0_1 : Option Addr) (c0_1 : Nat) (l0_1 : List Int) (r : Bool) (w : World) (hr0_1 : Kd.C (Kd.int .i64) w A0_1 l0_1.length l0_1) (hc0_1 : l0_1.length ≤ c0_1) (h : laws_FnExactCountAcyclic.f k a0_0 l0_1 = some r) :
  Calls Try.prog 6 #[.agg #[.int .i64 a0_0, .slice A0_1 l0_1.length c0_1]] w fun e w' => e = .returned (.bool r) ∧ Below w.heap.size w w' := by
 have hu24 := Try.underlying24
 have hu28 := Try.underlying28
 have HR0_1 := Aside0.mk hr0_1
 have HC0_1 := Aside0.mk hc0_1
 clear hr0_1 hc0_1
 have HB := Aside0.mk (Below.refl w.heap.size w)
 have H : ((laws_szComplex.f a0_0 l0_1 1048576).bind fun t120 => (if t120 < 0 then (some true) else ((laws_toComplex.f k a0_0 l0_1).bind fun bt121 => ((spec_CountAcyclic.f bt121.1 bt121.2).bind fun bt125 => ((laws_toComplex.f k a0_0 l0_1).bind fun bt127 => ((impl_CountAcyclic.f bt127.1 bt127.2).bind fun bt132 => (if bt132.1 = bt125.1 then (if bt132.2 = bt125.2 then ((laws_toComplex.f k a0_0 l0_1).bind fun bt134 => ((laws_eqComplex.f k bt127.1 bt127.2 bt134.1 bt134.2).bind fun t138 => (if t138 = true then (some true) else (none)))) else (none)) else (none)))))))) = some r := h
 clear h
 replace H := Option.bind_eq_some_iff.mp H
 obtain ⟨t120, A20, H⟩ := H
 try dsimp only at H
 have A2 := Aside0.mk A20
 clear A20
 by_cases c3 : t120 < 0
 ·rw [if_pos c3] at H
  have c3b0 : decide (t120 < 0) = true := decide_eq_true c3
  clear c3
  obtain rfl := Option.some.inj H
  go_enter Try.func6, Try.ntmps6
  go_wp2_with (first | ((with_reducible refine gate_dst (N := 1) rfl ?_); refine box_event ?hg (N := 1) ?hd (cs := #[.int .i64 a0_0, .slice A0_1 l0_1.length c0_1]) (t := 24) ?hr ?_; (case hd => rfl); (case hg => rfl); (case hr => first | (go_simp; done) | (go_simp; rfl)); intro gb119 hg w4 hbox hb; have BK119 := Aside0.mk (hbox); have GW119 := gH HB hg; have GE119 := gH HB hg; replace HB := sH HB hb; clear hb hbox hg; have hcz5_0 : w4.cell? ⟨gb119, 0, none⟩ = some (.int .i64 a0_0) := cB BK119 0; have hcz5_1 : w4.cell? ⟨gb119, 1, none⟩ = some (.slice A0_1 l0_1.length c0_1) := cB BK119 1; have hfz5_0 := zB BK119 0; have hfz5_1 := zB BK119 1) | ((with_reducible refine gate_callee (f := 13) rfl ?_); refine cl_ (some 11) Try.func13 #[.agg #[.int .i64 a0_0, .slice A0_1 l0_1.length c0_1], .int .i64 1048576] ?_; (with_reducible refine (laws_szComplex.calls a0_0 _ _ l0_1 1048576 t120 _ ?side1 ?side2 A2.out).mono ?_); (case side1 => exact pC ((Kd.C_below HR0_1.out HB.out))); (case side2 => exact HC0_1.out); rintro e w6 ⟨rfl, hb⟩; refine ⟨_, rfl, ?_⟩; replace BK119 := sB BK119 hb; replace HB := sH HB hb; (try clear hb); (try clear hi)))
  go_ret
  exact ⟨by first | rfl | (simp [errW_none, errW_some] <;> rfl) | (simp [*, errW_none, errW_some] <;> rfl) | (exfalso; simp_all), pH HB⟩
 ·rw [if_neg c3] at H
  have c3b0 : decide (t120 < 0) = false := decide_eq_false c3
  clear c3
  replace H := Option.bind_eq_some_iff.mp H
  obtain ⟨⟨t121, t122⟩, A70, H⟩ := H
  try dsimp only at H
  have A7 := Aside0.mk A70
  clear A70
  replace H := Option.bind_eq_some_iff.mp H
  obtain ⟨⟨t125, t126⟩, A80, H⟩ := H
  try dsimp only at H
  have A8 := Aside0.mk A80
  clear A80
  replace H := Option.bind_eq_some_iff.mp H
  obtain ⟨⟨t127, t128⟩, A90, H⟩ := H
  try dsimp only at H
  have A9 := Aside0.mk A90
  clear A90
  replace H := Option.bind_eq_some_iff.mp H
  obtain ⟨⟨t132, t133⟩, A100, H⟩ := H
  try dsimp only at H
  have A10 := Aside0.mk A100
  clear A100
  by_cases c11 : t132 = t125
  ·rw [if_pos c11] at H
   have c11b0 : (t132 == t125) = true := beq_iff_eq.mpr c11
   have c11b1 : (t132 != t125) = false := bne_eq_false_iff_eq.mpr c11
   clear c11
   by_cases c12 : t133 = t126
   ·rw [if_pos c12] at H
    have c12b0 : (t133 == t126) = true := beq_iff_eq.mpr c12
    have c12b1 : (t133 != t126) = false := bne_eq_false_iff_eq.mpr c12
    clear c12
    replace H := Option.bind_eq_some_iff.mp H
    obtain ⟨⟨t134, t135⟩, A130, H⟩ := H
    try dsimp only at H
    have A13 := Aside0.mk A130
    clear A130
    replace H := Option.bind_eq_some_iff.mp H
    obtain ⟨t138, A140, H⟩ := H
    try dsimp only at H
    have A14 := Aside0.mk A140
    clear A140
    by_cases c15 : t138 = true
    ·subst c15
     have H1 : (some true) = some r := by rw [if_pos rfl] at H; exact H
     clear H
     have H := H1
     clear H1
     obtain rfl := Option.some.inj H
     go_enter Try.func6, Try.ntmps6
     try go_wp2_with (first | ((with_reducible refine gate_dst (N := 1) rfl ?_); refine box_event ?hg (N := 1) ?hd (cs := #[.int .i64 a0_0, .slice A0_1 l0_1.length c0_1]) (t := 24) ?hr ?_; (case hd => rfl); (case hg => rfl); (case hr => first | (go_simp; done) | (go_simp; rfl)); intro gb119 hg w16 hbox hb; have BK119 := Aside0.mk (hbox); have GW119 := gH HB hg; have GE119 := gH HB hg; replace HB := sH HB hb; clear hb hbox hg; have hcz17_0 : w16.cell? ⟨gb119, 0, none⟩ = some (.int .i64 a0_0) := cB BK119 0; have hcz17_1 : w16.cell? ⟨gb119, 1, none⟩ = some (.slice A0_1 l0_1.length c0_1) := cB BK119 1; have hfz17_0 := zB BK119 0; have hfz17_1 := zB BK119 1) | ((with_reducible refine gate_callee (f := 13) rfl ?_); refine cl_ (some 11) Try.func13 #[.agg #[.int .i64 a0_0, .slice A0_1 l0_1.length c0_1], .int .i64 1048576] ?_; (with_reducible refine (laws_szComplex.calls a0_0 _ _ l0_1 1048576 t120 _ ?side1 ?side2 A2.out).mono ?_); (case side1 => exact pC ((Kd.C_below HR0_1.out HB.out))); (case side2 => exact HC0_1.out); rintro e w18 ⟨rfl, hb⟩; refine ⟨_, rfl, ?_⟩; replace BK119 := sB BK119 hb; replace HB := sH HB hb; (try clear hb); (try clear hi); have hcz19_0 : w18.cell? ⟨gb119, 0, none⟩ = some (.int .i64 a0_0) := cB BK119 0; have hcz19_1 : w18.cell? ⟨gb119, 1, none⟩ = some (.slice A0_1 l0_1.length c0_1) := cB BK119 1; have hfz19_0 := zB BK119 0; have hfz19_1 := zB BK119 1) | ((with_reducible refine gate_callee (f := 15) rfl ?_); refine cl_ (some 16) Try.func15 #[.agg #[.int .i64 a0_0, .slice A0_1 l0_1.length c0_1]] ?_; (with_reducible refine (laws_toComplex.calls k a0_0 _ _ l0_1 t121 t122 _ ?side1 ?side2 A7.out).mono ?_); (case side1 => exact pC ((Kd.C_below HR0_1.out HB.out))); (case side2 => exact HC0_1.out); rintro e w20 ⟨v123, rfl, ho0, hb⟩; refine ⟨_, rfl, ?_⟩; have HO124 := Aside0.mk (Kd.R_lower ho0 (below_size (pH HB))); replace BK119 := sB BK119 hb; replace HB := sH HB hb; (try clear hb); (try clear hi); (try clear ho0); obtain ⟨Ao21, co21, eo21⟩ := Kd.R_slice HO124.out; subst eo21) | ((with_reducible refine gate_callee (f := 32) rfl ?_); refine cl_ (some 17) Try.func32 #[.agg #[.int .i64 t121, .slice Ao21 t122.length co21]] ?_; (with_reducible refine (spec_CountAcyclic.calls t121 _ _ t122 t125 t126 _ ?side1 ?side2 A8.out).mono ?_); (case side1 => exact pC ((Kd.R_reads' HO124.out).2.2)); (case side2 => exact (Kd.R_reads' HO124.out).2.1); rintro e w22 ⟨rfl, hb⟩; refine ⟨_, rfl, ?_⟩; replace HO124 := sR HO124 hb; replace BK119 := sB BK119 hb; replace HB := sH HB hb; (try clear hb); (try clear hi); have hcz23_0 : w22.cell? ⟨gb119, 0, none⟩ = some (.int .i64 a0_0) := cB BK119 0; have hcz23_1 : w22.cell? ⟨gb119, 1, none⟩ = some (.slice A0_1 l0_1.length c0_1) := cB BK119 1; have hfz23_0 := zB BK119 0; have hfz23_1 := zB BK119 1) | ((with_reducible refine gate_callee (f := 15) rfl ?_); refine cl_ (some 21) Try.func15 #[.agg #[.int .i64 a0_0, .slice A0_1 l0_1.length c0_1]] ?_; (with_reducible refine (laws_toComplex.calls k a0_0 _ _ l0_1 t127 t128 _ ?side1 ?side2 A9.out).mono ?_); (case side1 => exact pC ((Kd.C_below HR0_1.out HB.out))); (case side2 => exact HC0_1.out); rintro e w24 ⟨v129, rfl, ho0, hb⟩; refine ⟨_, rfl, ?_⟩; have HO130 := Aside0.mk (Kd.R_lower (Kd.R_new' ho0 (Kd.R_lt (pR HO124))) (below_size (pH HB))); replace HO124 := Aside0.mk (Kd.R_elder' (pR HO124) (Kd.R_base ho0) hb); replace BK119 := sB BK119 hb; replace HB := sH HB hb; (try clear hb); (try clear hi); (try clear ho0)) | ((with_reducible refine gate_dst (N := 6) rfl ?_); refine box_event ?hg (N := 6) ?hd (cs := #[.int .i64 0, .slice none 0 0]) (t := 28) ?hr ?_; (case hd => rfl); (case hg => rfl); (case hr => first | (go_simp; done) | (go_simp; rfl)); intro gb131 hg w25 hbox hb; replace HO124 := sR HO124 hb; replace HO130 := sR HO130 hb; have BK131 := Aside0.mk (hbox); have GW131 := gH HB hg; have GE131 := gH HB hg; replace HB := sH HB hb; have NB119_131 := nB BK119 hg; have NB131_119 := oB BK119 hg; replace BK119 := sB BK119 hb; clear hb hbox hg; (try have hnb26 := NB131_119.out); (try have hnc26 := NB119_131.out); have hcz27_0 : w25.cell? ⟨gb131, 0, none⟩ = some (.int .i64 0) := cB BK131 0; have hcz27_1 : w25.cell? ⟨gb131, 1, none⟩ = some (.slice none 0 0) := cB BK131 1; have hfz27_0 := zB BK131 0; have hfz27_1 := zB BK131 1; obtain ⟨Ao28, co28, eo28⟩ := Kd.R_slice HO130.out; subst eo28) | ((with_reducible refine gate_callee (f := 33) rfl ?_); refine cl_ (some 24) Try.func33 #[.agg #[.int .i64 t127, .slice Ao28 t128.length co28]] ?_; (with_reducible refine (impl_CountAcyclic.calls t127 _ _ t128 t132 t133 _ ?side1 ?side2 A10.out).mono ?_); (case side1 => refine (Kd.R_reads' (e := 2) (base := w.heap.size) (ok := fun k_ => (True ∧ some k_ ≠ (.slice Ao21 t122.length co21 : Value).ownBlock)) (n := t128.length) (c := co28) ?_).2.2; exact (by (with_reducible repeat (first | apply Kd.R_alloc | apply Kd.R_drewN | apply Kd.R_drew)); exact (Kd.R_mono (Kd.R_far (p := ⟨gb131, 1, none⟩) (Kd.R_far (p := ⟨gb131, 0, none⟩) (Kd.R_types HO130.out BK131.out (by decide)) (fun _ hk => hk.2) (.int .i64 t127)) (fun _ hk => hk.2) (.slice Ao28 t128.length co28)) (fun _ h_ => h_.1)))); (case side2 => exact (Kd.R_reads' HO130.out).2.1); rintro e w29 ⟨rfl, hb⟩; refine ⟨_, rfl, ?_⟩; have n0_ := Aside0.mk (Kd.R_below (by (with_reducible repeat (first | apply Kd.R_alloc | apply Kd.R_drewN | apply Kd.R_drew)); exact (Kd.R_mono (Kd.R_far (p := ⟨gb131, 1, none⟩) (Kd.R_far (p := ⟨gb131, 0, none⟩) (Kd.R_types HO124.out BK131.out (by decide)) (fun _ hk => hk.2) (.int .i64 t127)) (fun _ hk => hk.2) (.slice Ao28 t128.length co28)) (fun _ h_ => h_.1))) hb); have n1_ := Aside0.mk (Kd.R_below (by (with_reducible repeat (first | apply Kd.R_alloc | apply Kd.R_drewN | apply Kd.R_drew)); exact (Kd.R_mono (Kd.R_far (p := ⟨gb131, 1, none⟩) (Kd.R_far (p := ⟨gb131, 0, none⟩) (Kd.R_types HO130.out BK131.out (by decide)) (fun _ hk => hk.2) (.int .i64 t127)) (fun _ hk => hk.2) (.slice Ao28 t128.length co28)) (fun _ h_ => h_.1))) hb); have n2_ := Aside0.mk (blk_below (g := gb119) (o := .cells #[.int .i64 a0_0, .slice A0_1 l0_1.length c0_1] 24 (0, 0)) (by (with_reducible repeat (first | refine blk_drewN ?_ _ | refine blk_drew ?_ | refine blk_alloc ?_ _)); refine blk_far ?_ NB119_131.out _; (with_reducible repeat (first | refine blk_drewN ?_ _ | refine blk_drew ?_ | refine blk_alloc ?_ _)); refine blk_far ?_ NB119_131.out _; (with_reducible repeat (first | refine blk_drewN ?_ _ | refine blk_drew ?_ | refine blk_alloc ?_ _)); exact BK119.out) hb); have n3_ := Aside0.mk (blk_below (g := gb131) (o := .cells #[.int .i64 t127, .slice Ao28 t128.length co28] 28 (0, 0)) (by (with_reducible repeat (first | refine blk_drewN ?_ _ | refine blk_drew ?_ | refine blk_alloc ?_ _)); refine blk_put (cs := #[.int .i64 t127, .slice none 0 0]) ?_ 1 _ rfl; (with_reducible repeat (first | refine blk_drewN ?_ _ | refine blk_drew ?_ | refine blk_alloc ?_ _)); refine blk_put (cs := #[.int .i64 0, .slice none 0 0]) ?_ 0 _ rfl; (with_reducible repeat (first | refine blk_drewN ?_ _ | refine blk_drew ?_ | refine blk_alloc ?_ _)); exact BK131.out) hb); have n4_ := sH HB hb; clear HO124; clear HO130; clear BK119; clear BK131; clear HB; have HO124 := n0_; have HO130 := n1_; have BK119 := n2_; have BK131 := n3_; have HB := n4_; clear n0_ n1_ n2_ n3_ n4_; (try clear hb); (try clear hi)))
     replace HO124 := Aside0.mk (Kd.R_drew HO124.out)
     replace HO130 := Aside0.mk (Kd.R_drew HO130.out)
     replace BK119 := dB BK119
     replace BK131 := dB BK131
     replace HB := dH HB
     refine st_ 5 (S := fun w' => w'.cell? ⟨gb131, 0, none⟩ = some (.int .i64 t127) ∧ w'.cell? ⟨gb131, 1, none⟩ = some (.slice Ao28 t128.length co28) ∧ w'.cell? ⟨gb119, 0, none⟩ = some (.int .i64 a0_0) ∧ w'.cell? ⟨gb119, 1, none⟩ = some (.slice A0_1 l0_1.length c0_1)) (ds := []) ⟨cB BK131 0, cB BK131 1, cB BK119 0, cB BK119 1⟩ (fun hHeld => ?_)
     generalize w29.drew = w30 at HO124 HO130 BK119 BK131 HB hHeld ⊢
     refine take_ (i := 0) (N := some 35) (v := ?_) (a' := ?_) (mB 5 1) rfl rfl (by kernel_rfl) (fun _ _ _ h => h) (Or.inl ⟨by rfl, ?_⟩) hHeld ?_ ?_
     rotate_left
     ·rintro w' ⟨s0, s1, s2, s3⟩
      go_simp
      with_reducible rfl
     rotate_left
     ·simp only [Act.put, List.setIfInBounds_toArray, List.set_cons_zero, List.set_cons_succ, i64_w, i32_w]
      rfl
     refine take_ (i := 1) (N := some 36) (v := ?_) (a' := ?_) (mB 5 3) rfl rfl (by kernel_rfl) (fun _ _ _ h => h) (Or.inl ⟨by rfl, ?_⟩) hHeld ?_ ?_
     rotate_left
     ·rintro w' ⟨s0, s1, s2, s3⟩
      go_simp
      with_reducible rfl
     rotate_left
     ·simp only [Act.put, List.setIfInBounds_toArray, List.set_cons_zero, List.set_cons_succ, i64_w, i32_w]
      rfl
     refine one_ (i := 2) (N := some 37) (mB 5 7) rfl rfl (by kernel_rfl) (by decide) (fun K hK => ?_)
     refine ca_ Try.func15 #[.agg #[.int .i64 a0_0, .slice A0_1 l0_1.length c0_1]] ?_
     with_reducible refine (laws_toComplex.calls k a0_0 _ _ l0_1 t134 t135 _ ?side1 ?side2 A13.out).mono ?_
     (case side1 => exact pC ((Kd.C_below HR0_1.out HB.out)))
     (case side2 => exact HC0_1.out)
     rintro e w31 ⟨v136, rfl, ho0, hb⟩
     refine ⟨_, rfl, ?_⟩
     have HO137 := Aside0.mk (Kd.R_lower (Kd.R_new' (Kd.R_new' ho0 (Kd.R_lt (pR HO124))) (Kd.R_lt (pR HO130))) (below_size (pH HB)))
     replace HO124 := Aside0.mk (Kd.R_elder' (pR HO124) (Kd.R_base ho0) hb)
     replace HO130 := Aside0.mk (Kd.R_elder' (pR HO130) (Kd.R_base ho0) hb)
     replace BK119 := sB BK119 hb
     replace BK131 := sB BK131 hb
     replace HB := sH HB hb
     (try clear hb)
     (try clear hb2)
     (try clear hk)
     (try clear hi)
     (try clear ho0)
     obtain ⟨Ao32, co32, eo32⟩ := Kd.R_slice HO137.out
     (first | subst eo32 | (injection eo32 with f1_ f2_ f3_; have f4_ := f1_.symm; have f5_ := f3_.symm; clear f1_ f2_ f3_; subst f4_; subst f5_))
     refine hK.out _ _ ⟨cB BK131 0, cB BK131 1, cB BK119 0, cB BK119 1⟩ (fun hHeld => ?_)
     clear hK K
     refine nm_ ?_
     refine one_ (i := 3) (N := some 38) (mB 5 15) rfl rfl (by kernel_rfl) (by decide) (fun K hK => ?_)
     refine ca_ Try.func19 #[.agg #[.int .i64 t127, .slice Ao28 t128.length co28], .agg #[.int .i64 t134, .slice Ao32 t135.length co32]] ?_
     with_reducible refine (laws_eqComplex.calls k t127 _ _ t128 t134 _ _ t135 true _ ?side1 ?side2 ?side3 ?side4 A14.out).mono ?_
     (case side1 => exact pC ((Kd.R_reads' HO130.out).2.2))
     (case side2 => exact (Kd.R_reads' HO130.out).2.1)
     (case side3 => exact pC ((Kd.R_reads' HO137.out).2.2))
     (case side4 => exact (Kd.R_reads' HO137.out).2.1)
     rintro e w33 ⟨rfl, hb⟩
     refine ⟨_, rfl, ?_⟩
     replace HO124 := sR HO124 hb
     replace HO130 := sR HO130 hb
     replace HO137 := sR HO137 hb
     replace BK119 := sB BK119 hb
     replace BK131 := sB BK131 hb
     replace HB := sH HB hb
     (try clear hb)
     (try clear hb2)
     (try clear hk)
     (try clear hi)
     refine hK.out _ _ ⟨cB BK131 0, cB BK131 1, cB BK119 0, cB BK119 1⟩ (fun hHeld => ?_)
     clear hK K
     refine nm_ ?_
     refine pure_ (i := 4) (N := some 39) (v := ?_) (a' := ?_) (mB 5 31) rfl rfl (by kernel_rfl) (fun _ _ _ h => h) (Or.inl ⟨by rfl, ?_⟩) ?_ ?_
     rotate_left
     ·intro w'
      go_simp
      with_reducible rfl
     rotate_left
     ·simp only [Act.put, List.setIfInBounds_toArray, List.set_cons_zero, List.set_cons_succ, i64_w, i32_w]
      rfl
     refine done_ (by kernel_rfl) ?_
     try go_wp2
     go_ret
     exact ⟨by first | rfl | (simp [errW_none, errW_some] <;> rfl) | (simp [*, errW_none, errW_some] <;> rfl) | (exfalso; simp_all), pH HB⟩
    ·replace c15 := Bool.eq_false_iff.mpr c15
     subst c15
     have H1 : (none) = some r := by rw [if_neg (show ¬ (false = true) by decide)] at H; exact H
     clear H
     have H := H1
     clear H1
     exact absurd H (by simp)
   ·rw [if_neg c12] at H
    exact absurd H (by simp)
  ·rw [if_neg c11] at H
   exact absurd H (by simp)
end Go.Proofs.Ytomdfjohnmikdaa.QFnExactCountAcyclic
namespace Go.Proofs.Ytomdfjohnmikdaa.Pu
set_option linter.unusedVariables false
set_option linter.unusedSimpArgs false
open Go.RowKit Go.Proofs.Ytomdfjohnmikdaa.Kp Go.Proofs.Ytomdfjohnmikdaa.Ext Go.Proofs.Ytomdfjohnmikdaa.QS Go.Proofs.Ytomdfjohnmikdaa.Im Go.Proofs.Ytomdfjohnmikdaa.QFnExactCountAcyclic Go.Proofs.YtomdfjohnmikdaaW.PrintWords Go.Proofs.YtomdfjohnmikdaaW.PrintLast Go.Proofs.YtomdfjohnmikdaaW.PrintMore
theorem fold_count (xs : List Int) : ∀ (L : List (List Pr)) (s : GoS), (L.foldl (updG xs) s).count = L.foldl caUpd s.count
  | [], _ => rfl
  | l :: L, s => fold_count xs L (updG xs s l)
theorem count_same (n : Int) (xs : List Int) : countI n xs = countZ n xs := by
  unfold countI countZ allG
  rw [fold_count]
  rfl
theorem FnExactCountAcyclic (n0 : Int) (l0 : List Int) (_ : (Lit.int .i64 n0).wf = true) (hm0 : l0.length ≤ maxLen) (_ : ∀ x ∈ l0, (Lit.int .i64 x).wf = true) : ∃ k, laws_FnExactCountAcyclic.f k n0 l0 = some true := by
  rcases Nat.lt_or_ge 1048576 l0.length with hl | hl
  · refine ⟨0, ?_⟩
    unfold laws_FnExactCountAcyclic.f
    rw [sz_big hm0 hl]
    rfl
  · apply Ev.rounds
    obtain ⟨t, ht, ht0⟩ := sz_ok (n := n0) hl
    have hI : impl_CountAcyclic.f n0 l0 = some (countZ n0 l0) := by unfold impl_CountAcyclic.f; rw [if_pos hl, count_same]
    have hS : spec_CountAcyclic.f n0 l0 = some (countZ n0 l0) := by unfold spec_CountAcyclic.f; rw [if_pos hl]
    unfold laws_FnExactCountAcyclic.f
    rw [ht]
    simp only [Option.bind_some, if_neg ht0]
    refine Ev.bind (ev_toComplex hl) ?_
    simp only [hS, Option.bind_some]
    refine Ev.bind (ev_toComplex hl) ?_
    simp only [hI, Option.bind_some, if_true]
    refine Ev.bind (ev_toComplex hl) ?_
    refine Ev.bind (ev_eqComplex hl) ?_
    simp only [if_true]
    exact Ev.now _
end Go.Proofs.Ytomdfjohnmikdaa.Pu
