/- Words and lemmas for FnExactBestPairing, part 5: what the row's text comes to. -/
import Derived.Test.YtomdfjohnmikdaaProg
import Derived.Below
import Derived.Deep.Draws
import Derived.Deep.AppendLies
import Derived.Maps.AppendAt
import Derived.OwnWalk
import Derived.Laws.BytesArg
import Derived.Laws.MakeOwn
import Derived.Laws.OwnMore
import Derived.Deep.OwnRows
import Derived.Tactics
import Derived.Lib.ConvBytes
import Derived.Laws.Slices
import Derived.WalkKit
import Derived.KernelRfl
import Derived.RowKit3
import Derived.Deep.LoopGhost
import Derived.Deep.QuietTactic
import Derived.BigQuiet
import Derived.WideLaws
import Derived.Deep.DeepCutAuto
import Derived.Deep.CutBlock
import Derived.Deep.RegionHeld3
import Derived.Laws.Rows
import Derived.Lib.AppendStr
import Derived.ArgAppend
import Derived.Laws.IdiomCopy
import Derived.OrdersHeld
import Derived.Laws.BitsLemmas
import Derived.RowKit
import Derived.Test.YtomdfjohnmikdaaZFnExactBestPairingd
set_option linter.unusedVariables false
set_option linter.unusedSimpArgs false
namespace Go.Proofs.Ytomdfjohnmikdaa.QS
open Cw Kp Ext Go.RowKit YtomdfjohnmikdaaW.PrintWords YtomdfjohnmikdaaW.PrintLast YtomdfjohnmikdaaW.PrintMore
attribute [local go_sem] max2_int min2_int max_two min_two max_three min_three max_four min_four   -- for this text's walks alone
end Go.Proofs.Ytomdfjohnmikdaa.QS
namespace Go.Proofs.Ytomdfjohnmikdaa.Pu
open Go.RowKit Kp Ext QS YtomdfjohnmikdaaW.PrintWords YtomdfjohnmikdaaW.PrintLast YtomdfjohnmikdaaW.PrintMore
end Go.Proofs.Ytomdfjohnmikdaa.Pu
namespace Go.Proofs.Ytomdfjohnmikdaa.Ext
open Go.RowKit Im Kp YtomdfjohnmikdaaW.PrintWords YtomdfjohnmikdaaW.PrintLast YtomdfjohnmikdaaW.PrintMore
def impl_Complex_isPair.f (a0_0 : Int) (l0_1 : List Int) (a1_0 : Int) (a1_1 : Int) : Option (Bool) := if isC a0_0 l0_1 = true then some (pairB l0_1 ⟨a1_0, a1_1⟩) else none
theorem impl_Complex_isPair.calls (a0_0 : Int) (A0_1 : Option Addr) (c0_1 : Nat) (l0_1 : List Int) (a1_0 : Int) (a1_1 : Int) (r : Bool) (w : World) (hr0_1 : Kd.C (Kd.int .i64) w A0_1 l0_1.length l0_1) (_hc0_1 : l0_1.length ≤ c0_1) (h : impl_Complex_isPair.f a0_0 l0_1 a1_0 a1_1 = some r) :
    Calls Try.prog 114 #[.agg #[.int .i64 a0_0, .slice A0_1 l0_1.length c0_1], .agg #[.int .i64 a1_0, .int .i64 a1_1]] w fun e w' => e = .returned (.bool r) ∧ Below w.heap.size w w' := by
  unfold impl_Complex_isPair.f at h
  by_cases hl : isC a0_0 l0_1 = true
  · rw [if_pos hl] at h
    have hd := Option.some.inj h
    have := isPair_c a0_0 A0_1 c0_1 l0_1 ⟨a1_0, a1_1⟩ w hr0_1 _hc0_1 hl
    rw [hd] at this
    exact this
  · rw [if_neg hl] at h; cases h
end Go.Proofs.Ytomdfjohnmikdaa.Ext
namespace Go.Proofs.Ytomdfjohnmikdaa.QD
open Cw Kp Ext Go.RowKit YtomdfjohnmikdaaW.PrintWords YtomdfjohnmikdaaW.PrintLast YtomdfjohnmikdaaW.PrintMore
attribute [local go_sem] max2_int min2_int max_two min_two max_three min_three max_four min_four   -- for this text's walks alone
def errW : Option Int → Value
 | none => .nilIface
 | some c => .iface 0 (.int .i64 c)
theorem errW_none : errW none = .nilIface := rfl
theorem errW_some (c : Int) : errW (some c) = .iface 0 (.int .i64 c) := rfl
theorem info73 : (Try.prog.info? 73).map (fun i => (i.zero, i.size, i.bytes)) = some (some (.agg #[(.int .i64 0), (.int .i64 0)]), 2, 16) := by kernel_rfl
mutual
def impl_Complex_pairs.l0 : Nat → List (S73) → List Int → Int → Int → Int → List Int → Option ((List (S73)))
 | 0, _, _, _, _, _, _ => none
 | k + 1, x3, x10, x11, x12, x102000, x102001 => if x12 < x11 then (if 0 ≤ x12 then (if x12 < (x10.length : Int) then (impl_Complex_pairs.l1 k x3 (rd x10 x12) x10 x11 x12 x102001 (x102001.length : Int) 0 x102000 x102001) else (none)) else (none)) else (some x3)
def impl_Complex_pairs.l1 : Nat → List (S73) → Int → List Int → Int → Int → List Int → Int → Int → Int → List Int → Option ((List (S73)))
 | 0, _, _, _, _, _, _, _, _, _, _ => none
 | k + 1, x3, x5, x10, x11, x12, x17, x18, x19, x102000, x102001 => if x19 < x18 then (if 0 ≤ x19 then (if x19 < (x17.length : Int) then ((impl_Complex_isPair.f x102000 x102001 x5 (rd x17 x19)).bind fun t105 => (if t105 = true then (if x3.length < 8796093022208 then (impl_Complex_pairs.l1 k (x3 ++ [(⟨x5, rd x17 x19⟩ : S73)]) x5 x10 x11 x12 x17 x18 (wrap64 (x19 + 1)) x102000 x102001) else (none)) else (impl_Complex_pairs.l1 k x3 x5 x10 x11 x12 x17 x18 (wrap64 (x19 + 1)) x102000 x102001))) else (none)) else (none)) else (impl_Complex_pairs.l0 k x3 x10 x11 (wrap64 (x12 + 1)) x102000 x102001)
end
def impl_Complex_pairs.f (k : Nat) (a0_0 : Int) (l0_1 : List Int) : Option ((List (S73))) := impl_Complex_pairs.l0 k ([] : List (S73)) l0_1 (l0_1.length : Int) 0 a0_0 l0_1
set_option maxHeartbeats 8000000 in
set_option maxRecDepth 100000 in
theorem impl_Complex_pairs.calls (k : Nat) (a0_0 : Int) (A0_1 : Option Addr) (c0_1 : Nat) (l0_1 : List Int) (r : List (S73)) (w : World) (hr0_1 : Kd.C (Kd.int .i64) w A0_1 l0_1.length l0_1) (hc0_1 : l0_1.length ≤ c0_1) (h : impl_Complex_pairs.f k a0_0 l0_1 = some r) :
  Calls Try.prog 67 #[.agg #[.int .i64 a0_0, .slice A0_1 l0_1.length c0_1]] w fun e w' => ∃ v0_ : Value, e = .returned (v0_) ∧ Kd.R k73 73 w' w.heap.size (fun _ => True) v0_ r ∧ Below w.heap.size w w' := by
 have hu28 := Try.underlying28
 have hu73 := Try.underlying73
 have HR0_1 := Aside0.mk hr0_1
 have HC0_1 := Aside0.mk hc0_1
 clear hr0_1 hc0_1
 have HB := Aside0.mk (Below.refl w.heap.size w)
 have H : (impl_Complex_pairs.l0 k ([] : List (S73)) l0_1 (l0_1.length : Int) 0 a0_0 l0_1) = some r := h
 clear h
 have H' := Aside0.mk H
 clear H
 go_enter Try.func67, Try.ntmps67
 go_wp2_with (first | ((with_reducible refine gate_dst (N := 1) rfl ?_); refine box_event ?hg (N := 1) ?hd (cs := #[.int .i64 a0_0, .slice A0_1 l0_1.length c0_1]) (t := 28) ?hr ?_; (case hd => rfl); (case hg => rfl); (case hr => first | (go_simp; done) | (go_simp; rfl)); intro gb101 hg w2 hbox hb; have BK101 := Aside0.mk (hbox); have GW101 := gH HB hg; have GE101 := gH HB hg; replace HB := sH HB hb; clear hb hbox hg; have hcz3_0 : w2.cell? ⟨gb101, 0, none⟩ = some (.int .i64 a0_0) := cB BK101 0; have hcz3_1 : w2.cell? ⟨gb101, 1, none⟩ = some (.slice A0_1 l0_1.length c0_1) := cB BK101 1; have hfz3_0 := zB BK101 0; have hfz3_1 := zB BK101 1))
 go_loopg [3, 12] k (fun kq v3 v12 w' => ∃ (x3_1 : List (S73)) (x12_1 : Int), v12 = .int .i64 x12_1 ∧ Aside0 (impl_Complex_pairs.l0 kq x3_1 l0_1 (l0_1.length : Int) x12_1 a0_0 l0_1 = some r) ∧ Aside0 (kq ≤ k) ∧ Aside0 (Kd.R k73 73 w' w.heap.size (fun _ => True) v3 x3_1) ∧ Aside0 (w'.heap[gb101]? = some (.cells #[.int .i64 a0_0, (.slice A0_1 l0_1.length c0_1)] 28 (0, 0))) ∧ Aside0 (Below w.heap.size w w'))
 case atStart => exact ⟨(([] : List (S73))), (0), (by first | rfl | (simp; done) | (simp [*]; done)), H', ⟨Nat.le_refl _⟩, ⟨by first | exact Kd.R_nil _ _ _ _ _ | exact Kd.N_nil _ _ _ _ _ | exact Kd.V_nil _ _ _ _ _ | exact Kd.Q_nil _ _ _ _ _ | exact Kd.S_nil _ _ _ _ _⟩, ⟨pB BK101⟩, ⟨pH HB⟩⟩
 case round =>
  clear H'
  try clear p2
  try clear hcz3_0
  try clear hcz3_1
  try clear hfz3_0
  try clear hfz3_1
  obtain ⟨x3_1, x12_1, rfl, HA, HK1, HO_3, BK101, HB⟩ := hrel
  cases gk with
  | zero => exact absurd HA.out (by simp [impl_Complex_pairs.l0])
  | succ k1 =>
   have H := HA.out
   clear HA
   simp only [impl_Complex_pairs.l0] at H
   by_cases c4 : x12_1 < (l0_1.length : Int)
   ·rw [if_pos c4] at H
    have c4b0 : decide (x12_1 < (l0_1.length : Int)) = true := decide_eq_true c4
    clear c4
    by_cases c5 : 0 ≤ x12_1
    ·rw [if_pos c5] at H
     have c5b0 : decide (0 ≤ x12_1) = true := decide_eq_true c5
     clear c5
     by_cases c6 : x12_1 < (l0_1.length : Int)
     ·rw [if_pos c6] at H
      have c6b0 : decide (x12_1 < (l0_1.length : Int)) = true := decide_eq_true c6
      clear c6
      have H' := Aside0.mk H
      clear H
      have p102 : 0 ≤ (x12_1 : Int) := of_decide_eq_true (by first | (with_reducible assumption) | assumption)
      have q102 : x12_1 < (l0_1.length : Int) := of_decide_eq_true (by first | (with_reducible assumption) | assumption)
      obtain ⟨ad102, e102, hx102_0⟩ := Kd.at_int HR0_1.out x12_1 p102 q102
      cases e102
      replace hx102_0 := cH HB hx102_0
      replace p102 := eq_true p102
      replace q102 := eq_true q102
      have hcz7_0 : wr.cell? ⟨gb101, 0, none⟩ = some (.int .i64 a0_0) := cB BK101 0
      have hcz7_1 : wr.cell? ⟨gb101, 1, none⟩ = some (.slice (some ad102) l0_1.length c0_1) := cB BK101 1
      have hfz7_0 := zB BK101 0
      have hfz7_1 := zB BK101 1
      go_wp2
      go_loopg [3, 19] k1 (fun kq v3 v19 w' => ∃ (x3_2 : List (S73)) (x19_2 : Int), v19 = .int .i64 x19_2 ∧ Aside0 (impl_Complex_pairs.l1 kq x3_2 (rd l0_1 x12_1) l0_1 (l0_1.length : Int) x12_1 l0_1 (l0_1.length : Int) x19_2 a0_0 l0_1 = some r) ∧ Aside0 (kq ≤ k1) ∧ Aside0 (Kd.R k73 73 w' w.heap.size (fun _ => True) v3 x3_2) ∧ Aside0 (w'.heap[gb101]? = some (.cells #[.int .i64 a0_0, (.slice (some ad102) l0_1.length c0_1)] 28 (0, 0))) ∧ Aside0 (Below w.heap.size w w'))
      case atStart => exact ⟨(x3_1), (0), (by first | rfl | (simp; done) | (simp [*]; done)), H', ⟨Nat.le_refl _⟩, ⟨by (with_reducible repeat (first | apply Kd.R_alloc | apply Kd.R_drewN | apply Kd.R_drew)); exact HO_3.out⟩, ⟨pB BK101⟩, ⟨pH HB⟩⟩
      case round =>
       clear H'
       try clear p1
       try clear q1
       try clear hx1
       try clear p2
       try clear c4
       try clear c4b0
       try clear c5
       try clear c5b0
       try clear c6
       try clear c6b0
       try clear hcz3_0
       try clear hcz3_1
       try clear hcz7_0
       try clear hcz7_1
       try clear hfz3_0
       try clear hfz3_1
       try clear hfz7_0
       try clear hfz7_1
       try clear hx102_0
       try clear p102
       try clear p2
       try clear q102
       obtain ⟨x3_2, x19_2, rfl, HA, HK2, HO_3, BK101, HB⟩ := hrel
       cases gk with
       | zero => exact absurd HA.out (by simp [impl_Complex_pairs.l1])
       | succ k2 =>
        have H := HA.out
        clear HA
        simp only [impl_Complex_pairs.l1] at H
        by_cases c8 : x19_2 < (l0_1.length : Int)
        ·rw [if_pos c8] at H
         have c8b0 : decide (x19_2 < (l0_1.length : Int)) = true := decide_eq_true c8
         clear c8
         by_cases c9 : 0 ≤ x19_2
         ·rw [if_pos c9] at H
          have c9b0 : decide (0 ≤ x19_2) = true := decide_eq_true c9
          clear c9
          by_cases c10 : x19_2 < (l0_1.length : Int)
          ·rw [if_pos c10] at H
           have c10b0 : decide (x19_2 < (l0_1.length : Int)) = true := decide_eq_true c10
           clear c10
           replace H := Option.bind_eq_some_iff.mp H
           obtain ⟨t105, A110, H⟩ := H
           try dsimp only at H
           have A11 := Aside0.mk A110
           clear A110
           by_cases c12 : t105 = true
           ·subst c12
            have H1 : (if x3_2.length < 8796093022208 then (impl_Complex_pairs.l1 k2 (x3_2 ++ [(⟨(rd l0_1 x12_1), rd l0_1 x19_2⟩ : S73)]) (rd l0_1 x12_1) l0_1 (l0_1.length : Int) x12_1 l0_1 (l0_1.length : Int) (wrap64 (x19_2 + 1)) a0_0 l0_1) else (none)) = some r := by rw [if_pos rfl] at H; exact H
            clear H
            have H := H1
            clear H1
            by_cases c13 : x3_2.length < 8796093022208
            ·rw [if_pos c13] at H
             have LMc13 := Aside0.mk c13
             clear c13
             obtain ⟨y106, hy106⟩ : ∃ y_ : List (S73), y_ = (x3_2 ++ [(⟨(rd l0_1 x12_1), rd l0_1 x19_2⟩ : S73)]) := ⟨_, rfl⟩
             replace H : (impl_Complex_pairs.l1 k2 y106 (rd l0_1 x12_1) l0_1 (l0_1.length : Int) x12_1 l0_1 (l0_1.length : Int) (wrap64 (x19_2 + 1)) a0_0 l0_1) = some r := by first | (rw [hy106]; with_reducible exact H) | (have H2_ := (Option.bind_some _ _).symm.trans H; rw [hy106]; with_reducible exact H2_) | (have H2_ := (Option.bind_some _ _).symm.trans H; with_reducible exact H2_) | with_reducible exact H | (rw [hy106]; exact H) | exact H
             have Ny106 := Aside0.mk hy106
             clear hy106
             have H' := Aside0.mk H
             clear H
             have p103 : 0 ≤ (x19_2 : Int) := of_decide_eq_true (by first | (with_reducible assumption) | assumption)
             have q103 : x19_2 < (l0_1.length : Int) := of_decide_eq_true (by first | (with_reducible assumption) | assumption)
             obtain ⟨ad103, e103, hx103_0⟩ := Kd.at_int HR0_1.out x19_2 p103 q103
             obtain rfl : ad102 = ad103 := (by injection e103)
             replace hx103_0 := cH HB hx103_0
             replace p103 := eq_true p103
             replace q103 := eq_true q103
             go_wp2_with (first | ((with_reducible refine gate_dst (N := 8) rfl ?_); refine box_event ?hg (N := 8) ?hd (cs := #[.int .i64 0, .int .i64 0]) (t := 73) ?hr ?_; (case hd => rfl); (case hg => rfl); (case hr => first | (go_simp; done) | (go_simp; rfl)); intro gb104 hg w14 hbox hb; replace HO_3 := Aside0.mk (Kd.R_below (Kd.R_elderB (pR HO_3) gb104 (Nat.le_of_eq hg.symm)) hb); have BK104 := Aside0.mk (hbox); have GW104 := gH HB hg; have GE104 := gH HB hg; replace HB := sH HB hb; have NB101_104 := nB BK101 hg; have NB104_101 := oB BK101 hg; replace BK101 := sB BK101 hb; clear hb hbox hg; (try have hnb15 := NB104_101.out); (try have hnc15 := NB101_104.out); have hcz16_0 : w14.cell? ⟨gb104, 0, none⟩ = some (.int .i64 0) := cB BK104 0; have hcz16_1 : w14.cell? ⟨gb104, 1, none⟩ = some (.int .i64 0) := cB BK104 1; have hfz16_0 := zB BK104 0; have hfz16_1 := zB BK104 1; have hcz17_0 : w14.cell? ⟨gb101, 0, none⟩ = some (.int .i64 a0_0) := cB BK101 0; have hcz17_1 : w14.cell? ⟨gb101, 1, none⟩ = some (.slice (some ad102) l0_1.length c0_1) := cB BK101 1; have hfz17_0 := zB BK101 0; have hfz17_1 := zB BK101 1) | ((with_reducible refine gate_callee (f := 114) rfl ?_); refine cl_ (some 28) Try.func114 #[.agg #[.int .i64 a0_0, .slice (some ad102) l0_1.length c0_1], .agg #[.int .i64 (rd l0_1 x12_1), .int .i64 (rd l0_1 x19_2)]] ?_; (with_reducible refine (impl_Complex_isPair.calls a0_0 _ _ l0_1 (rd l0_1 x12_1) (rd l0_1 x19_2) true _ ?side1 ?side2 A11.out).mono ?_); (case side1 => exact Kd.C_below HR0_1.out (pH HB)); (case side2 => exact HC0_1.out); rintro e w18 ⟨rfl, hb⟩; refine ⟨_, rfl, ?_⟩; have n0_ := Aside0.mk (Kd.R_below (by (with_reducible repeat (first | apply Kd.R_alloc | apply Kd.R_drewN | apply Kd.R_drew)); exact (Kd.R_mono (Kd.R_far (p := ⟨gb104, 1, none⟩) (Kd.R_far (p := ⟨gb104, 0, none⟩) (Kd.R_mono HO_3.out (fun k_ hk => (⟨hk, hk.2⟩ : _ ∧ k_ ≠ gb104))) (fun _ hk => hk.2) (.int .i64 (rd l0_1 x12_1))) (fun _ hk => hk.2) (.int .i64 (rd l0_1 x19_2))) (fun _ h_ => h_.1))) hb); have n1_ := Aside0.mk (blk_below (g := gb101) (o := .cells #[.int .i64 a0_0, .slice (some ad102) l0_1.length c0_1] 28 (0, 0)) (by (with_reducible repeat (first | refine blk_drewN ?_ _ | refine blk_drew ?_ | refine blk_alloc ?_ _)); refine blk_far ?_ NB101_104.out _; (with_reducible repeat (first | refine blk_drewN ?_ _ | refine blk_drew ?_ | refine blk_alloc ?_ _)); refine blk_far ?_ NB101_104.out _; (with_reducible repeat (first | refine blk_drewN ?_ _ | refine blk_drew ?_ | refine blk_alloc ?_ _)); exact BK101.out) hb); have n2_ := Aside0.mk (blk_below (g := gb104) (o := .cells #[.int .i64 (rd l0_1 x12_1), .int .i64 (rd l0_1 x19_2)] 73 (0, 0)) (by (with_reducible repeat (first | refine blk_drewN ?_ _ | refine blk_drew ?_ | refine blk_alloc ?_ _)); refine blk_put (cs := #[.int .i64 (rd l0_1 x12_1), .int .i64 0]) ?_ 1 _ rfl; (with_reducible repeat (first | refine blk_drewN ?_ _ | refine blk_drew ?_ | refine blk_alloc ?_ _)); refine blk_put (cs := #[.int .i64 0, .int .i64 0]) ?_ 0 _ rfl; (with_reducible repeat (first | refine blk_drewN ?_ _ | refine blk_drew ?_ | refine blk_alloc ?_ _)); exact BK104.out) hb); have n3_ := sH HB hb; clear HO_3; clear BK101; clear BK104; clear HB; have HO_3 := n0_; have BK101 := n1_; have BK104 := n2_; have HB := n3_; clear n0_ n1_ n2_ n3_; (try clear hb); (try clear hi); have hcz19_0 : w18.cell? ⟨gb104, 0, none⟩ = some (.int .i64 (rd l0_1 x12_1)) := cB BK104 0; have hcz19_1 : w18.cell? ⟨gb104, 1, none⟩ = some (.int .i64 (rd l0_1 x19_2)) := cB BK104 1; have hfz19_0 := zB BK104 0; have hfz19_1 := zB BK104 1) | ((with_reducible refine gate_builtin (b := .append) (xs := #[.tmp 29, .tmp 31]) rfl ?_); at_builtin; refine Kd.R_append k73 (w0 := w) w.heap.size rfl (.tmp 29) (.tmp 31) 38 73 (.agg #[(.int .i64 0), (.int .i64 0)]) 16 rfl Try.underlying38 info73 rfl (by decide) (by omega) u3 x3_2 (⟨(rd l0_1 x12_1), rd l0_1 x19_2⟩ : S73) [.int .i64 (rd l0_1 x12_1), .int .i64 (rd l0_1 x19_2)] (fun k_ => k_ ≠ gb104) (fun _ => False) rfl rfl ?aP (fun _ hk => hk.elim) ?aF ?aO ?aB ?aS ?aL ?_; (case aP => exact k73_mkM _ _ _ (⟨(rd l0_1 x12_1), rd l0_1 x19_2⟩ : S73)); (case aB => exact (pH HB)); (case aF => exact (fun k_ hk => Kd.freshB (g := gb104) (o := .cells #[.int .i64 (rd l0_1 x12_1), .int .i64 (rd l0_1 x19_2)] 73 (0, 0)) (pB BK104) k_ hk)); (case aO => exact (by (with_reducible repeat (first | apply Kd.R_alloc | apply Kd.R_drewN | apply Kd.R_drew)); exact Kd.R_mono HO_3.out (fun _ hk => hk.2))); (case aS => exact (below_size (pH HB))); (case aL => have := LMc13.out; omega); intro v107 w20 ho hb hg hat; rw [← Ny106.out] at ho; replace BK101 := Aside0.mk (blk_grown (g := gb101) (o := .cells #[.int .i64 a0_0, .slice (some ad102) l0_1.length c0_1] 28 (0, 0)) (pB BK101) hg (Kd.R_ne HO_3.out BK101.out (by decide))); replace BK104 := Aside0.mk (blk_grown (g := gb104) (o := .cells #[.int .i64 (rd l0_1 x12_1), .int .i64 (rd l0_1 x19_2)] 73 (0, 0)) (pB BK104) hg (Kd.R_away HO_3.out (fun _ hk => hk.2))); replace HB := Aside0.mk (hb); have HO108 := Aside0.mk (ho); clear HO_3; clear ho hb hg hat))
             go_roundg k2
             case measure => have := HK1.out; have := HK2.out; omega
             case rel => exact ⟨(y106), (wrap64 (x19_2 + 1)), (by first | rfl | (simp; done) | (simp [*]; done)), H', ⟨by have := HK1.out; have := HK2.out; omega⟩, ⟨by (with_reducible repeat (first | apply Kd.R_alloc | apply Kd.R_drewN | apply Kd.R_drew)); exact Kd.R_mono HO108.out (fun _ hk => trivial)⟩, ⟨pB BK101⟩, ⟨pH HB⟩⟩
            ·rw [if_neg c13] at H
             exact absurd H (by simp)
           ·replace c12 := Bool.eq_false_iff.mpr c12
            subst c12
            have H1 : (impl_Complex_pairs.l1 k2 x3_2 (rd l0_1 x12_1) l0_1 (l0_1.length : Int) x12_1 l0_1 (l0_1.length : Int) (wrap64 (x19_2 + 1)) a0_0 l0_1) = some r := by rw [if_neg (show ¬ (false = true) by decide)] at H; exact H
            clear H
            have H := H1
            clear H1
            have H' := Aside0.mk H
            clear H
            have p103 : 0 ≤ (x19_2 : Int) := of_decide_eq_true (by first | (with_reducible assumption) | assumption)
            have q103 : x19_2 < (l0_1.length : Int) := of_decide_eq_true (by first | (with_reducible assumption) | assumption)
            obtain ⟨ad103, e103, hx103_0⟩ := Kd.at_int HR0_1.out x19_2 p103 q103
            obtain rfl : ad102 = ad103 := (by injection e103)
            replace hx103_0 := cH HB hx103_0
            replace p103 := eq_true p103
            replace q103 := eq_true q103
            go_wp2_with (first | ((with_reducible refine gate_dst (N := 8) rfl ?_); refine box_event ?hg (N := 8) ?hd (cs := #[.int .i64 0, .int .i64 0]) (t := 73) ?hr ?_; (case hd => rfl); (case hg => rfl); (case hr => first | (go_simp; done) | (go_simp; rfl)); intro gb104 hg w21 hbox hb; replace HO_3 := Aside0.mk (Kd.R_below (Kd.R_elderB (pR HO_3) gb104 (Nat.le_of_eq hg.symm)) hb); have BK104 := Aside0.mk (hbox); have GW104 := gH HB hg; have GE104 := gH HB hg; replace HB := sH HB hb; have NB101_104 := nB BK101 hg; have NB104_101 := oB BK101 hg; replace BK101 := sB BK101 hb; clear hb hbox hg; (try have hnb22 := NB104_101.out); (try have hnc22 := NB101_104.out); have hcz23_0 : w21.cell? ⟨gb104, 0, none⟩ = some (.int .i64 0) := cB BK104 0; have hcz23_1 : w21.cell? ⟨gb104, 1, none⟩ = some (.int .i64 0) := cB BK104 1; have hfz23_0 := zB BK104 0; have hfz23_1 := zB BK104 1; have hcz24_0 : w21.cell? ⟨gb101, 0, none⟩ = some (.int .i64 a0_0) := cB BK101 0; have hcz24_1 : w21.cell? ⟨gb101, 1, none⟩ = some (.slice (some ad102) l0_1.length c0_1) := cB BK101 1; have hfz24_0 := zB BK101 0; have hfz24_1 := zB BK101 1) | ((with_reducible refine gate_callee (f := 114) rfl ?_); refine cl_ (some 28) Try.func114 #[.agg #[.int .i64 a0_0, .slice (some ad102) l0_1.length c0_1], .agg #[.int .i64 (rd l0_1 x12_1), .int .i64 (rd l0_1 x19_2)]] ?_; (with_reducible refine (impl_Complex_isPair.calls a0_0 _ _ l0_1 (rd l0_1 x12_1) (rd l0_1 x19_2) false _ ?side1 ?side2 A11.out).mono ?_); (case side1 => exact Kd.C_below HR0_1.out (pH HB)); (case side2 => exact HC0_1.out); rintro e w25 ⟨rfl, hb⟩; refine ⟨_, rfl, ?_⟩; have n0_ := Aside0.mk (Kd.R_below (by (with_reducible repeat (first | apply Kd.R_alloc | apply Kd.R_drewN | apply Kd.R_drew)); exact (Kd.R_mono (Kd.R_far (p := ⟨gb104, 1, none⟩) (Kd.R_far (p := ⟨gb104, 0, none⟩) (Kd.R_mono HO_3.out (fun k_ hk => (⟨hk, hk.2⟩ : _ ∧ k_ ≠ gb104))) (fun _ hk => hk.2) (.int .i64 (rd l0_1 x12_1))) (fun _ hk => hk.2) (.int .i64 (rd l0_1 x19_2))) (fun _ h_ => h_.1))) hb); have n1_ := Aside0.mk (blk_below (g := gb101) (o := .cells #[.int .i64 a0_0, .slice (some ad102) l0_1.length c0_1] 28 (0, 0)) (by (with_reducible repeat (first | refine blk_drewN ?_ _ | refine blk_drew ?_ | refine blk_alloc ?_ _)); refine blk_far ?_ NB101_104.out _; (with_reducible repeat (first | refine blk_drewN ?_ _ | refine blk_drew ?_ | refine blk_alloc ?_ _)); refine blk_far ?_ NB101_104.out _; (with_reducible repeat (first | refine blk_drewN ?_ _ | refine blk_drew ?_ | refine blk_alloc ?_ _)); exact BK101.out) hb); have n2_ := Aside0.mk (blk_below (g := gb104) (o := .cells #[.int .i64 (rd l0_1 x12_1), .int .i64 (rd l0_1 x19_2)] 73 (0, 0)) (by (with_reducible repeat (first | refine blk_drewN ?_ _ | refine blk_drew ?_ | refine blk_alloc ?_ _)); refine blk_put (cs := #[.int .i64 (rd l0_1 x12_1), .int .i64 0]) ?_ 1 _ rfl; (with_reducible repeat (first | refine blk_drewN ?_ _ | refine blk_drew ?_ | refine blk_alloc ?_ _)); refine blk_put (cs := #[.int .i64 0, .int .i64 0]) ?_ 0 _ rfl; (with_reducible repeat (first | refine blk_drewN ?_ _ | refine blk_drew ?_ | refine blk_alloc ?_ _)); exact BK104.out) hb); have n3_ := sH HB hb; clear HO_3; clear BK101; clear BK104; clear HB; have HO_3 := n0_; have BK101 := n1_; have BK104 := n2_; have HB := n3_; clear n0_ n1_ n2_ n3_; (try clear hb); (try clear hi)))
            go_roundg k2
            case measure => have := HK1.out; have := HK2.out; omega
            case rel => exact ⟨(x3_2), (wrap64 (x19_2 + 1)), (by first | rfl | (simp; done) | (simp [*]; done)), H', ⟨by have := HK1.out; have := HK2.out; omega⟩, ⟨by (with_reducible repeat (first | apply Kd.R_alloc | apply Kd.R_drewN | apply Kd.R_drew)); exact Kd.R_mono HO_3.out (fun _ hk => trivial)⟩, ⟨pB BK101⟩, ⟨pH HB⟩⟩
          ·rw [if_neg c10] at H
           exact absurd H (by simp)
         ·rw [if_neg c9] at H
          exact absurd H (by simp)
        ·rw [if_neg c8] at H
         have c8b0 : decide (x19_2 < (l0_1.length : Int)) = false := decide_eq_false c8
         clear c8
         have H' := Aside0.mk H
         clear H
         go_wp2
         go_roundg k2
         case measure => have := HK1.out; have := HK2.out; omega
         case rel => exact ⟨(x3_2), (wrap64 (x12_1 + 1)), (by first | rfl | (simp; done) | (simp [*]; done)), H', ⟨by have := HK1.out; have := HK2.out; omega⟩, ⟨by (with_reducible repeat (first | apply Kd.R_alloc | apply Kd.R_drewN | apply Kd.R_drew)); exact HO_3.out⟩, ⟨pB BK101⟩, ⟨pH HB⟩⟩
     ·rw [if_neg c6] at H
      exact absurd H (by simp)
    ·rw [if_neg c5] at H
     exact absurd H (by simp)
   ·rw [if_neg c4] at H
    have c4b0 : decide (x12_1 < (l0_1.length : Int)) = false := decide_eq_false c4
    clear c4
    obtain rfl := Option.some.inj H
    go_wp2
    go_ret
    exact ⟨_, by first | rfl | (simp [errW_none, errW_some] <;> rfl) | (simp [*, errW_none, errW_some] <;> rfl) | (exfalso; simp_all), by (with_reducible repeat (first | apply Kd.R_alloc | apply Kd.R_drewN | apply Kd.R_drew)); exact HO_3.out, pH HB⟩
def impl_limitCode.f (a0_0 : Int) (l0_1 : List Int) (a1 : Int) : Option (Int) := (impl_complexCode.f a0_0 l0_1 (fnp 127)).bind fun t110 => (if t110 = 0 then (if (l0_1.length : Int) > a1 then (some 3) else (some 0)) else (some t110))
set_option maxHeartbeats 8000000 in
set_option maxRecDepth 100000 in
theorem impl_limitCode.calls (a0_0 : Int) (A0_1 : Option Addr) (c0_1 : Nat) (l0_1 : List Int) (a1 : Int) (r : Int) (w : World) (hr0_1 : Kd.C (Kd.int .i64) w A0_1 l0_1.length l0_1) (hc0_1 : l0_1.length ≤ c0_1) (h : impl_limitCode.f a0_0 l0_1 a1 = some r) :
  Calls Try.prog 77 #[.agg #[.int .i64 a0_0, .slice A0_1 l0_1.length c0_1], .int .i64 a1] w fun e w' => e = .returned (.int .i64 r) ∧ Below w.heap.size w w' := by
 have hu28 := Try.underlying28
 have HR0_1 := Aside0.mk hr0_1
 have HC0_1 := Aside0.mk hc0_1
 clear hr0_1 hc0_1
 have HB := Aside0.mk (Below.refl w.heap.size w)
 have H : ((impl_complexCode.f a0_0 l0_1 (fnp 127)).bind fun t110 => (if t110 = 0 then (if (l0_1.length : Int) > a1 then (some 3) else (some 0)) else (some t110))) = some r := h
 clear h
 replace H := Option.bind_eq_some_iff.mp H
 obtain ⟨t110, A30, H⟩ := H
 try dsimp only at H
 have A3 := Aside0.mk A30
 clear A30
 by_cases c4 : t110 = 0
 ·rw [if_pos c4] at H
  have c4b0 : (t110 == 0) = true := beq_iff_eq.mpr c4
  have c4b1 : (t110 != 0) = false := bne_eq_false_iff_eq.mpr c4
  clear c4
  by_cases c5 : (l0_1.length : Int) > a1
  ·rw [if_pos c5] at H
   have c5b0 : decide (a1 < (l0_1.length : Int)) = true := decide_eq_true c5
   clear c5
   obtain rfl := Option.some.inj H
   go_enter Try.func77, Try.ntmps77
   go_wp2_with (first | ((with_reducible refine gate_dst (N := 2) rfl ?_); refine box_event ?hg (N := 2) ?hd (cs := #[.int .i64 a0_0, .slice A0_1 l0_1.length c0_1]) (t := 28) ?hr ?_; (case hd => rfl); (case hg => rfl); (case hr => first | (go_simp; done) | (go_simp; rfl)); intro gb109 hg w6 hbox hb; have BK109 := Aside0.mk (hbox); have GW109 := gH HB hg; have GE109 := gH HB hg; replace HB := sH HB hb; clear hb hbox hg; have hcz7_0 : w6.cell? ⟨gb109, 0, none⟩ = some (.int .i64 a0_0) := cB BK109 0; have hcz7_1 : w6.cell? ⟨gb109, 1, none⟩ = some (.slice A0_1 l0_1.length c0_1) := cB BK109 1; have hfz7_0 := zB BK109 0; have hfz7_1 := zB BK109 1) | ((with_reducible refine gate_callee (f := 53) rfl ?_); refine cl_ (some 7) Try.func53 #[.agg #[.int .i64 a0_0, .slice A0_1 l0_1.length c0_1], .func (.func 127) #[] #[]] ?_; (with_reducible refine (impl_complexCode.calls a0_0 _ _ l0_1 _ (fnp 127) t110 _ ?side1 ?side2 ?side3 A3.out).mono ?_); (case side1 => exact pC ((Kd.C_below HR0_1.out HB.out))); (case side2 => exact HC0_1.out); (case side3 => exact fnp_ok_127 _); rintro e w8 ⟨rfl, hb⟩; refine ⟨_, rfl, ?_⟩; replace BK109 := sB BK109 hb; replace HB := sH HB hb; (try clear hb); (try clear hi); have hcz9_0 : w8.cell? ⟨gb109, 0, none⟩ = some (.int .i64 a0_0) := cB BK109 0; have hcz9_1 : w8.cell? ⟨gb109, 1, none⟩ = some (.slice A0_1 l0_1.length c0_1) := cB BK109 1; have hfz9_0 := zB BK109 0; have hfz9_1 := zB BK109 1))
   go_ret
   exact ⟨by first | rfl | (simp [errW_none, errW_some] <;> rfl) | (simp [*, errW_none, errW_some] <;> rfl) | (exfalso; simp_all), pH HB⟩
  ·rw [if_neg c5] at H
   have c5b0 : decide (a1 < (l0_1.length : Int)) = false := decide_eq_false c5
   clear c5
   obtain rfl := Option.some.inj H
   go_enter Try.func77, Try.ntmps77
   go_wp2_with (first | ((with_reducible refine gate_dst (N := 2) rfl ?_); refine box_event ?hg (N := 2) ?hd (cs := #[.int .i64 a0_0, .slice A0_1 l0_1.length c0_1]) (t := 28) ?hr ?_; (case hd => rfl); (case hg => rfl); (case hr => first | (go_simp; done) | (go_simp; rfl)); intro gb109 hg w10 hbox hb; have BK109 := Aside0.mk (hbox); have GW109 := gH HB hg; have GE109 := gH HB hg; replace HB := sH HB hb; clear hb hbox hg; have hcz11_0 : w10.cell? ⟨gb109, 0, none⟩ = some (.int .i64 a0_0) := cB BK109 0; have hcz11_1 : w10.cell? ⟨gb109, 1, none⟩ = some (.slice A0_1 l0_1.length c0_1) := cB BK109 1; have hfz11_0 := zB BK109 0; have hfz11_1 := zB BK109 1) | ((with_reducible refine gate_callee (f := 53) rfl ?_); refine cl_ (some 7) Try.func53 #[.agg #[.int .i64 a0_0, .slice A0_1 l0_1.length c0_1], .func (.func 127) #[] #[]] ?_; (with_reducible refine (impl_complexCode.calls a0_0 _ _ l0_1 _ (fnp 127) t110 _ ?side1 ?side2 ?side3 A3.out).mono ?_); (case side1 => exact pC ((Kd.C_below HR0_1.out HB.out))); (case side2 => exact HC0_1.out); (case side3 => exact fnp_ok_127 _); rintro e w12 ⟨rfl, hb⟩; refine ⟨_, rfl, ?_⟩; replace BK109 := sB BK109 hb; replace HB := sH HB hb; (try clear hb); (try clear hi); have hcz13_0 : w12.cell? ⟨gb109, 0, none⟩ = some (.int .i64 a0_0) := cB BK109 0; have hcz13_1 : w12.cell? ⟨gb109, 1, none⟩ = some (.slice A0_1 l0_1.length c0_1) := cB BK109 1; have hfz13_0 := zB BK109 0; have hfz13_1 := zB BK109 1))
   go_ret
   exact ⟨by first | rfl | (simp [errW_none, errW_some] <;> rfl) | (simp [*, errW_none, errW_some] <;> rfl) | (exfalso; simp_all), pH HB⟩
 ·rw [if_neg c4] at H
  have c4b0 : (t110 == 0) = false := beq_eq_false_iff_ne.mpr c4
  have c4b1 : (t110 != 0) = true := bne_iff_ne.mpr c4
  obtain rfl := Option.some.inj H
  go_enter Try.func77, Try.ntmps77
  go_wp2_with (first | ((with_reducible refine gate_dst (N := 2) rfl ?_); refine box_event ?hg (N := 2) ?hd (cs := #[.int .i64 a0_0, .slice A0_1 l0_1.length c0_1]) (t := 28) ?hr ?_; (case hd => rfl); (case hg => rfl); (case hr => first | (go_simp; done) | (go_simp; rfl)); intro gb109 hg w14 hbox hb; have BK109 := Aside0.mk (hbox); have GW109 := gH HB hg; have GE109 := gH HB hg; replace HB := sH HB hb; clear hb hbox hg; have hcz15_0 : w14.cell? ⟨gb109, 0, none⟩ = some (.int .i64 a0_0) := cB BK109 0; have hcz15_1 : w14.cell? ⟨gb109, 1, none⟩ = some (.slice A0_1 l0_1.length c0_1) := cB BK109 1; have hfz15_0 := zB BK109 0; have hfz15_1 := zB BK109 1) | ((with_reducible refine gate_callee (f := 53) rfl ?_); refine cl_ (some 7) Try.func53 #[.agg #[.int .i64 a0_0, .slice A0_1 l0_1.length c0_1], .func (.func 127) #[] #[]] ?_; (with_reducible refine (impl_complexCode.calls a0_0 _ _ l0_1 _ (fnp 127) t110 _ ?side1 ?side2 ?side3 A3.out).mono ?_); (case side1 => exact pC ((Kd.C_below HR0_1.out HB.out))); (case side2 => exact HC0_1.out); (case side3 => exact fnp_ok_127 _); rintro e w16 ⟨rfl, hb⟩; refine ⟨_, rfl, ?_⟩; replace BK109 := sB BK109 hb; replace HB := sH HB hb; (try clear hb); (try clear hi)))
  go_ret
  exact ⟨by first | rfl | (simp [errW_none, errW_some] <;> rfl) | (simp [*, errW_none, errW_some] <;> rfl) | (exfalso; simp_all), pH HB⟩
end Go.Proofs.Ytomdfjohnmikdaa.QD
namespace Go.Proofs.Ytomdfjohnmikdaa.Im
open Go.RowKit Go.Shelf Kp Cw Ext Pu YtomdfjohnmikdaaW.PrintWords YtomdfjohnmikdaaW.PrintLast YtomdfjohnmikdaaW.PrintMore
attribute [local go_sem] run_store_fn
def limI (n : Int) (xs : List Int) (m : Int) : Int := if isC n xs = true then (if (xs.length : Int) > m then 3 else 0) else 1
theorem limD_f (n : Int) {xs : List Int} (hx : xs.length ≤ 1048576) (m : Int) : QD.impl_limitCode.f n xs m = some (limI n xs m) := by
  unfold QD.impl_limitCode.f limI
  have hcode : impl_complexCode.f n xs (fnp 127) = some (codeOf (isC n xs) true) := by unfold impl_complexCode.f; rw [if_pos ⟨by omega, fun _ => rfl⟩]; rfl
  rw [hcode, Option.bind_some]
  cases isC n xs with
  | false => rfl
  | true =>
    rw [if_pos (show codeOf true true = 0 from rfl)]
    simp only [if_true]
    split <;> rfl
theorem limI_zero {n : Int} {xs : List Int} {m : Int} (h : limI n xs m = 0) : isC n xs = true := by
  unfold limI at h
  by_cases hi : isC n xs = true
  · exact hi
  · rw [if_neg hi] at h; exact absurd h (by decide)
theorem pairsD_l1 {n : Int} {xs : List Int} (hi : isC n xs = true) {i : Nat} (hil : i < xs.length) (R : List Pr)
    (hR : Ev (fun k => QD.impl_Complex_pairs.l0 k ((xs.take (i + 1)).flatMap (rowP xs)) xs (xs.length : Int) ((i + 1 : Nat) : Int) n xs) R) :
    ∀ d (j : Nat), xs.length - j = d → j ≤ xs.length →
      Ev (fun k => QD.impl_Complex_pairs.l1 k ((xs.take i).flatMap (rowP xs) ++ ((xs.take j).filter (overP xs[i])).map fun g => (⟨xs[i], g⟩ : Pr)) xs[i] xs (xs.length : Int) (i : Int) xs (xs.length : Int) (j : Int) n xs) R := by
  have hx := isC_small hi
  intro d
  induction d with
  | zero =>
    intro j hd hj
    refine Ev.step (fun k => ?_) hR
    simp only [QD.impl_Complex_pairs.l1]
    rw [if_neg (by omega), succ64 (by omega), List.take_of_length_le (by omega : xs.length ≤ j), List.take_succ_eq_append_getElem hil, List.flatMap_append, List.flatMap_singleton]
    rfl
  | succ d ih =>
    intro j hd hj
    have hj' : j < xs.length := by omega
    have hlen : ((xs.take i).flatMap (rowP xs) ++ ((xs.take j).filter (overP xs[i])).map (fun g => (⟨xs[i], g⟩ : Pr))).length < 8796093022208 := by
      have h1 := flat_len (xs := xs) (xs.take i)
      have h2 : (xs.take i).length * xs.length ≤ 63 * 63 := Nat.mul_le_mul (by rw [List.length_take]; omega) hx
      have h3 : ((xs.take j).filter (overP xs[i])).length ≤ (xs.take j).length := List.length_filter_le _ _
      rw [List.length_take] at h3
      rw [List.length_append, List.length_map]
      omega
    have hpr : impl_Complex_isPair.f n xs xs[i] xs[j] = some (overP xs[i] xs[j]) := by
      unfold impl_Complex_isPair.f
      rw [if_pos hi, pair_over hi (List.getElem_mem hil) (List.getElem_mem hj')]
    have hih := ih (j + 1) (by omega) (by omega)
    rw [List.take_succ_eq_append_getElem hj', List.filter_append, List.map_append, ← List.append_assoc] at hih
    cases ho : overP xs[i] xs[j] with
    | true =>
      rw [show ([xs[j]].filter (overP xs[i])).map (fun g => (⟨xs[i], g⟩ : Pr)) = [⟨xs[i], xs[j]⟩] by simp [ho]] at hih
      refine Ev.step (fun k => ?_) hih
      simp only [QD.impl_Complex_pairs.l1]
      rw [if_pos (by omega), if_pos (by omega), if_pos (by omega), rd_at hj', hpr, ho, succ64 (by omega)]
      simp only [Option.bind_some, if_true]
      rw [if_pos hlen]
    | false =>
      rw [show ([xs[j]].filter (overP xs[i])).map (fun g => (⟨xs[i], g⟩ : Pr)) = [] by simp [ho], List.append_nil] at hih
      refine Ev.step (fun k => ?_) hih
      simp only [QD.impl_Complex_pairs.l1]
      rw [if_pos (by omega), if_pos (by omega), if_pos (by omega), rd_at hj', hpr, ho, succ64 (by omega)]
      simp only [Option.bind_some, Bool.false_eq_true, if_false]
theorem pairsD_l0 {n : Int} {xs : List Int} (hi : isC n xs = true) : ∀ d (i : Nat), xs.length - i = d → i ≤ xs.length → Ev (fun k => QD.impl_Complex_pairs.l0 k ((xs.take i).flatMap (rowP xs)) xs (xs.length : Int) (i : Int) n xs) (pairsL xs) := by
  have hx := isC_small hi
  intro d
  induction d with
  | zero =>
    intro i hd hil
    refine Ev.step (f := fun k => some (pairsL xs)) (fun k => ?_) (Ev.now _)
    simp only [QD.impl_Complex_pairs.l0]
    rw [if_neg (by omega), List.take_of_length_le (by omega)]
    rfl
  | succ d ih =>
    intro i hd hil
    have hil' : i < xs.length := by omega
    have := pairsD_l1 hi hil' (pairsL xs) (ih (i + 1) (by omega) (by omega)) _ 0 rfl (Nat.zero_le _)
    simp only [List.take_zero, List.filter_nil, List.map_nil, List.append_nil] at this
    refine Ev.step (fun k => ?_) this
    simp only [QD.impl_Complex_pairs.l0]
    rw [if_pos (by omega), if_pos (by omega), if_pos (by omega), rd_at hil']
    rfl
theorem ev_pairsD {n : Int} {xs : List Int} (hi : isC n xs = true) : Ev (fun k => QD.impl_Complex_pairs.f k n xs) (pairsL xs) := by
  unfold QD.impl_Complex_pairs.f
  have := pairsD_l0 hi _ 0 rfl (Nat.zero_le _)
  simpa using this
end Go.Proofs.Ytomdfjohnmikdaa.Im
namespace Go.Proofs.Ytomdfjohnmikdaa.Im
def ent (M : List (List Int)) (i c : Nat) : Int := (M.getD i []).getD c 0
def Bit (x : Int) : Prop := x = 0 ∨ x = 1
def Bits (M : List (List Int)) : Prop := ∀ row ∈ M, ∀ x ∈ row, Bit x
def findZ (M : List (List Int)) (c r : Nat) : Option Nat := (List.range' r (M.length - r)).find? fun i => ent M i c != 0
def xr (x t y : Int) : Int := if t = 1 ∧ y = 1 then 1 - x else x
def stepR (lo c : Nat) (own row : List Int) (j : Nat) : List Int := row.mapIdx fun q x => if lo ≤ q ∧ q < j then xr x (row.getD c 0 * own.getD c 0) (own.getD q 0) else x
def elimTo (lo c r : Nat) (M : List (List Int)) (i : Nat) : List (List Int) := M.mapIdx fun q row => if r < q ∧ q < i then stepR lo c (M.getD r []) row row.length else row
def elimStep (lo : Nat → Nat) (s : List (List Int) × Nat) (c : Nat) : List (List Int) × Nat := match findZ s.1 c s.2 with
  | none => s
  | some i => (elimTo (lo c) c s.2 (swapL s.1 i s.2) s.1.length, s.2 + 1)
def elimAll (lo : Nat → Nat) (M : List (List Int)) (m : Nat) : List (List Int) × Nat := (List.range m).foldl (elimStep lo) (M, 0)
theorem bit_xr {x : Int} (t y : Int) (h : Bit x) : Bit (xr x t y) := by
  unfold xr
  unfold Bit at *
  split <;> omega
theorem bit_mul {x y : Int} (hx : Bit x) (hy : Bit y) : Bit (x * y) := by
  unfold Bit at *
  rcases hx with rfl | rfl <;> rcases hy with rfl | rfl <;> simp
theorem bit_getD {row : List Int} (h : ∀ x ∈ row, Bit x) (c : Nat) : Bit (row.getD c 0) := by
  rw [List.getD_eq_getElem?_getD]
  cases hc : row[c]? with
  | none => exact .inl rfl
  | some v => exact h v (List.mem_of_getElem? hc)
theorem bits_getD {M : List (List Int)} (h : Bits M) (i : Nat) : ∀ x ∈ M.getD i [], Bit x := by
  rw [List.getD_eq_getElem?_getD]
  cases hc : M[i]? with
  | none => intro x hx; simp at hx
  | some v => exact h v (List.mem_of_getElem? hc)
theorem bit_ent {M : List (List Int)} (h : Bits M) (i c : Nat) : Bit (ent M i c) := bit_getD (bits_getD h i) c
theorem ent_at {M : List (List Int)} {i c : Nat} (hi : i < M.length) (hc : c < M[i].length) : ent M i c = M[i][c] := by
  unfold ent
  rw [show M.getD i [] = M[i] by rw [List.getD_eq_getElem?_getD, List.getElem?_eq_getElem hi]; rfl, List.getD_eq_getElem?_getD, List.getElem?_eq_getElem hc]
  rfl
theorem stepR_len (lo c : Nat) (own row : List Int) (j : Nat) : (stepR lo c own row j).length = row.length := by unfold stepR; simp
theorem stepR_at {lo c : Nat} {own row : List Int} {j q : Nat} (hq : q < row.length) : (stepR lo c own row j)[q]'(by rw [stepR_len]; exact hq) = if lo ≤ q ∧ q < j then xr row[q] (row.getD c 0 * own.getD c 0) (own.getD q 0) else row[q] := by
  unfold stepR
  simp
theorem stepR_lo (lo c : Nat) (own row : List Int) {j : Nat} (h : j ≤ lo) : stepR lo c own row j = row := by
  apply List.ext_getElem
  · rw [stepR_len]
  · intro q h1 h2
    rw [stepR_at h2, if_neg (by omega)]
theorem stepR_next {lo c : Nat} {own row : List Int} {j : Nat} (hl : lo ≤ j) (hj : j < row.length) : (stepR lo c own row j).set j (xr row[j] (row.getD c 0 * own.getD c 0) (own.getD j 0)) = stepR lo c own row (j + 1) := by
  apply List.ext_getElem
  · simp [stepR_len]
  · intro q h1 h2
    have hq : q < row.length := by rw [stepR_len] at h2; exact h2
    rw [List.getElem_set]
    by_cases hqj : j = q
    · subst hqj
      rw [if_pos rfl, stepR_at hq, if_pos (by omega)]
    · rw [if_neg hqj, stepR_at hq, stepR_at hq]
      by_cases h3 : lo ≤ q ∧ q < j
      · rw [if_pos h3, if_pos (by omega)]
      · rw [if_neg h3, if_neg (by omega)]
theorem stepR_bits {lo c : Nat} {own row : List Int} {j : Nat} (h : ∀ x ∈ row, Bit x) : ∀ x ∈ stepR lo c own row j, Bit x := by
  intro x hx
  obtain ⟨q, hq, rfl⟩ := List.mem_iff_getElem.1 hx
  have hq' : q < row.length := by rw [stepR_len] at hq; exact hq
  rw [stepR_at hq']
  split
  · exact bit_xr _ _ (h _ (List.getElem_mem hq'))
  · exact h _ (List.getElem_mem hq')
theorem elimTo_len (lo c r : Nat) (M : List (List Int)) (i : Nat) : (elimTo lo c r M i).length = M.length := by unfold elimTo; simp
theorem elimTo_at {lo c r : Nat} {M : List (List Int)} {i q : Nat} (hq : q < M.length) : (elimTo lo c r M i)[q]'(by rw [elimTo_len]; exact hq) = if r < q ∧ q < i then stepR lo c (M.getD r []) M[q] M[q].length else M[q] := by
  unfold elimTo
  simp
theorem elimTo_lo (lo c r : Nat) (M : List (List Int)) {i : Nat} (h : i ≤ r + 1) : elimTo lo c r M i = M := by
  apply List.ext_getElem
  · rw [elimTo_len]
  · intro q h1 h2
    rw [elimTo_at h2, if_neg (by omega)]
theorem elimTo_next {lo c r : Nat} {M : List (List Int)} {i : Nat} (hr : r < i) (hi : i < M.length) : (elimTo lo c r M i).set i (stepR lo c (M.getD r []) M[i] M[i].length) = elimTo lo c r M (i + 1) := by
  apply List.ext_getElem
  · simp [elimTo_len]
  · intro q h1 h2
    have hq : q < M.length := by rw [elimTo_len] at h2; exact h2
    rw [List.getElem_set]
    by_cases hqi : i = q
    · subst hqi
      rw [if_pos rfl, elimTo_at hq, if_pos (by omega)]
    · rw [if_neg hqi, elimTo_at hq, elimTo_at hq]
      by_cases h3 : r < q ∧ q < i
      · rw [if_pos h3, if_pos (by omega)]
      · rw [if_neg h3, if_neg (by omega)]
theorem elimTo_bits {lo c r : Nat} {M : List (List Int)} {i : Nat} (h : Bits M) : Bits (elimTo lo c r M i) := by
  intro row hrow
  obtain ⟨q, hq, rfl⟩ := List.mem_iff_getElem.1 hrow
  have hq' : q < M.length := by rw [elimTo_len] at hq; exact hq
  rw [elimTo_at hq']
  split
  · exact stepR_bits (h _ (List.getElem_mem hq'))
  · exact h _ (List.getElem_mem hq')
theorem swap_bits {M : List (List Int)} {i j : Nat} (h : Bits M) (hi : i < M.length) (hj : j < M.length) : Bits (swapL M i j) := by
  intro row hrow
  obtain ⟨q, hq, rfl⟩ := List.mem_iff_getElem.1 hrow
  rw [swapL_at hi hj]
  split
  · exact h _ (List.getElem_mem hi)
  · split
    · exact h _ (List.getElem_mem hj)
    · exact h _ (List.getElem_mem _)
theorem findZ_none {M : List (List Int)} {c r : Nat} (h : ∀ i, r ≤ i → i < M.length → ent M i c = 0) : findZ M c r = none := by
  unfold findZ
  rw [List.find?_eq_none]
  intro i hi
  have := List.mem_range'_1.1 hi
  simp [h i this.1 (by omega)]
theorem findZ_some {M : List (List Int)} {c r i : Nat} (hr : r ≤ i) (hi : i < M.length) (hz : ent M i c ≠ 0) (h : ∀ j, r ≤ j → j < i → ent M j c = 0) : findZ M c r = some i := by
  unfold findZ
  rw [List.find?_eq_some_iff_append]
  refine ⟨by simpa using hz, List.range' r (i - r), List.range' (i + 1) (M.length - i - 1), ?_, ?_⟩
  · have h1 : List.range' r (M.length - r) = List.range' r (i - r) ++ List.range' (r + (i - r)) (M.length - i) := by
      rw [List.range'_append_1]
      congr 1
      omega
    rw [h1, show r + (i - r) = i by omega, show M.length - i = (M.length - i - 1) + 1 by omega, List.range'_succ]
    simp
  · intro j hj
    have := List.mem_range'_1.1 hj
    simp [h j this.1 (by omega)]
end Go.Proofs.Ytomdfjohnmikdaa.Im
namespace Go.Proofs.Ytomdfjohnmikdaa.Im
open Go.RowKit Go.Shelf Cw YtomdfjohnmikdaaW.PrintWords YtomdfjohnmikdaaW.PrintLast YtomdfjohnmikdaaW.PrintMore
def MxAll (w : World) (base b cap : Nat) (bs : List Nat) (n m : Nat) (M : List (List Int)) : Prop := M.length = n ∧ bs.length = n ∧ Bits M ∧ MxO w base b cap bs m ∧ MxI w base bs m M
theorem MxAll.outCell {w : World} {base b cap n m : Nat} {bs : List Nat} {M : List (List Int)} (h : MxAll w base b cap bs n m M) {i : Nat} (hi : i < n) : ∃ x, (∃ h1 : i < bs.length, bs[i] = x) ∧ w.cell? ⟨b, i, none⟩ = some (.slice (some ⟨x, 0, none⟩) m m) ∧ w.frozen? ⟨b, i, none⟩ = false := by
  obtain ⟨h1, h2, h3, h4, h5⟩ := h
  exact ⟨_, ⟨by omega, rfl⟩, (h4.cell (by omega)).1, (h4.cell (by omega)).2⟩
theorem MxAll.inCell {w : World} {base b cap n m : Nat} {bs : List Nat} {M : List (List Int)} (h : MxAll w base b cap bs n m M) {i j x : Nat} (hi : i < n) (hj : j < m) (hx : ∃ h1 : i < bs.length, bs[i] = x) : w.cell? ⟨x, j, none⟩ = some (.int .i64 (ent M i j)) ∧ w.frozen? ⟨x, j, none⟩ = false := by
  obtain ⟨h1, h2, h3, h4, h5⟩ := h
  obtain ⟨hb, rfl⟩ := hx
  have hr := h5.row (i := i) (by omega)
  have := h5.cell (i := i) (j := j) hb (by omega) hj
  rw [ent_at (by omega) (by omega)]
  exact this
theorem MxAll.put {w : World} {base b cap n m : Nat} {bs : List Nat} {M : List (List Int)} (h : MxAll w base b cap bs n m M) {i j x : Nat} (hi : i < n) (hj : j < m) (hx : ∃ h1 : i < bs.length, bs[i] = x) {v : Int} (hv : Bit v) : MxAll (w.setCell ⟨x, j, none⟩ (.int .i64 v)) base b cap bs n m (M.set i ((M.getD i []).set j v)) := by
  obtain ⟨h1, h2, h3, h4, h5⟩ := h
  obtain ⟨hb, rfl⟩ := hx
  have hg : M.getD i [] = M[i] := by rw [List.getD_eq_getElem?_getD, List.getElem?_eq_getElem (by omega)]; rfl
  have hp := h5.put (i := i) (j := j) hb (by omega) hj v
  rw [hg]
  refine ⟨by simpa using h1, h2, fun row hrow => ?_, h4.far (h5.ne h4 hb) _, hp⟩
  rcases List.mem_or_eq_of_mem_set hrow with h6 | rfl
  · exact h3 _ h6
  · intro u hu
    rcases List.mem_or_eq_of_mem_set hu with h7 | rfl
    · exact h3 _ (List.getElem_mem (by omega)) u h7
    · exact hv
theorem MxAll.below {w w1 : World} {base b cap n m : Nat} {bs : List Nat} {M : List (List Int)} (h : MxAll w base b cap bs n m M) (hb : Below w.heap.size w w1) : MxAll w1 base b cap bs n m M := ⟨h.1, h.2.1, h.2.2.1, h.2.2.2.1.below hb, h.2.2.2.2.below hb⟩
theorem MxAll.base {w : World} {base b cap n m : Nat} {bs : List Nat} {M : List (List Int)} (h : MxAll w base b cap bs n m M) {i x : Nat} (hi : i < n) (hx : ∃ h1 : i < bs.length, bs[i] = x) : base ≤ x := by
  obtain ⟨hb, rfl⟩ := hx
  exact (h.2.2.2.2.2.2 i hb (by have := h.1; omega)).1
theorem ent_elim {lo c r : Nat} {M : List (List Int)} {i q : Nat} (hq : q < M.length) (h : ¬ (r < q ∧ q < i)) (j : Nat) : ent (elimTo lo c r M i) q j = ent M q j := by
  unfold ent
  congr 1
  rw [List.getD_eq_getElem?_getD, List.getD_eq_getElem?_getD, List.getElem?_eq_getElem (show q < (elimTo lo c r M i).length by rw [elimTo_len]; exact hq), List.getElem?_eq_getElem hq, elimTo_at hq, if_neg h]
theorem ent_set {M : List (List Int)} {i : Nat} (hi : i < M.length) (row : List Int) (j : Nat) : ent (M.set i row) i j = row.getD j 0 := by
  unfold ent
  congr 1
  rw [List.getD_eq_getElem?_getD, List.getElem?_set_self hi]
  rfl
theorem ent_set_ne {M : List (List Int)} {i q : Nat} (h : q ≠ i) (row : List Int) (j : Nat) : ent (M.set i row) q j = ent M q j := by
  unfold ent
  congr 1
  rw [List.getD_eq_getElem?_getD, List.getD_eq_getElem?_getD, List.getElem?_set_ne (Ne.symm h)]
theorem getD_set {M : List (List Int)} {i : Nat} (hi : i < M.length) (row : List Int) : (M.set i row).getD i [] = row := by
  rw [List.getD_eq_getElem?_getD, List.getElem?_set_self hi]
  rfl
theorem getD_at {M : List (List Int)} {i : Nat} (hi : i < M.length) : M.getD i [] = M[i] := by rw [List.getD_eq_getElem?_getD, List.getElem?_eq_getElem hi]; rfl
theorem getD_lt {l : List Int} {j : Nat} (h : j < l.length) : l.getD j 0 = l[j] := by rw [List.getD_eq_getElem?_getD, List.getElem?_eq_getElem h]; rfl
theorem stepR_getD {lo c : Nat} {own row : List Int} {j : Nat} (hj : j < row.length) : (stepR lo c own row j).getD j 0 = row.getD j 0 := by
  rw [List.getD_eq_getElem?_getD, List.getD_eq_getElem?_getD, List.getElem?_eq_getElem (show j < (stepR lo c own row j).length by rw [stepR_len]; exact hj), List.getElem?_eq_getElem hj, stepR_at hj, if_neg (by omega)]
theorem xr_mod {x t y : Int} (hx : Bit x) (ht : Bit t) (hy : Bit y) : wrap64 (2 - t) = 2 - t ∧ wrap64 ((2 - t) * y) = (2 - t) * y ∧ wrap64 (x + (2 - t) * y) = x + (2 - t) * y ∧ Int.tmod (x + (2 - t) * y) 2 = xr x t y := by
  unfold Bit at *
  rcases hx with rfl | rfl <;> rcases ht with rfl | rfl <;> rcases hy with rfl | rfl <;> simp [xr, wrap64]
theorem mul_mod {x y : Int} (hx : Bit x) (hy : Bit y) : wrap64 (x * y) = x * y ∧ Int.tmod (x * y) 2 = x * y := by
  unfold Bit at *
  rcases hx with rfl | rfl <;> rcases hy with rfl | rfl <;> simp [wrap64]
set_option maxRecDepth 100000 in
set_option maxHeartbeats 4000000 in
theorem rankS_c (b cap n m base : Nat) (bs0 : List Nat) (M0 : List (List Int)) (w : World) (hM : MxAll w base b cap bs0 n m M0) (hn : 0 < n) (hm : 0 < m) (hn2 : n ≤ 1048576) (hm2 : m ≤ 1048576) (hb : base ≤ w.heap.size) :
    Calls Try.prog 150 #[.slice (some ⟨b, 0, none⟩) n cap, .int .i64 2] w fun e w' => e = .returned (.int .i64 ((elimAll id M0 m).2 : Int)) ∧ Below base w w' := by
  have HM0 := Aside0.mk hM
  clear hM
  go_enter Try.func150, Try.ntmps150
  go_wp2
  go_loopw [5, 6] (fun s5 s6 wr => ∃ (r c : Nat) (bs : List Nat) (M : List (List Int)), c ≤ m ∧ r ≤ c ∧ r ≤ n ∧ s5 = .int .i64 r ∧ s6 = .int .i64 c ∧ Aside0 ((List.range c).foldl (elimStep id) (M0, 0) = (M, r)) ∧ Aside0 (MxAll wr base b cap bs n m M) ∧ Aside0 (Below base w wr)) (fun _ s6 _ => m - (intOf s6).toNat)
  case atStart => exact ⟨0, 0, bs0, M0, by omega, by omega, by omega, rfl, rfl, ⟨rfl⟩, HM0, ⟨(Below.refl w.heap.size w).mono hb⟩⟩
  case round =>
    clear HM0
    obtain ⟨r, c, bs, M, hcm, hrc, hrn, rfl, rfl, HF, HM, HB⟩ := hrel
    obtain ⟨x0, hx0, hc0, _⟩ := HM.out.outCell hn
    have hnz : (0 : Int) < (n : Int) := by omega
    by_cases hlt : c < m
    · have hltz : (c : Int) < (m : Int) := by omega
      clear hx0
      go_wp2
      go_loopw [7, 8] (fun s7 s8 wq => wq = wr ∧ ∃ i : Nat, r ≤ i ∧ i ≤ n ∧ s8 = .int .i64 i ∧ ((s7 = .int .i64 (-1) ∧ ∀ q, r ≤ q → q < i → ent M q c = 0) ∨ (∃ p : Nat, i = p + 1 ∧ s7 = .int .i64 p ∧ r ≤ p ∧ ent M p c ≠ 0 ∧ ∀ q, r ≤ q → q < p → ent M q c = 0))) (fun _ s8 _ => n - (intOf s8).toNat)
      case atStart => exact ⟨rfl, r, by omega, by omega, rfl, .inl ⟨rfl, fun q h1 h2 => by omega⟩⟩
      case round =>
        obtain ⟨rfl, i, hri, hin, rfl, hcase⟩ := hrel
        rcases hcase with ⟨rfl, hz⟩ | ⟨p, rfl, rfl, hrp, hnz, hz⟩
        · by_cases hi : i < n
          · have hiz : (i : Int) < (n : Int) := by omega
            obtain ⟨x, hx, hxc, _⟩ := HM.out.outCell hi
            obtain ⟨hxe, _⟩ := HM.out.inCell hi hlt hx
            obtain ⟨v, hv⟩ : ∃ v, ent M i c = v := ⟨_, rfl⟩
            rw [hv] at hxe
            by_cases hv0 : v = 0
            · subst hv0
              go_wp2
              go_roundw
              case measure => simp [intOf]; omega
              case rel => exact ⟨trivial, i + 1, by omega, by omega, by go_num, .inl ⟨rfl, fun q h1 h2 => by rcases Nat.lt_or_ge q i with h3 | h3; exact hz q h1 h3; rw [show q = i by omega]; exact hv⟩⟩
            · have hv1 : (v == 0) = false := by simpa using hv0
              go_wp2
              go_roundw
              case measure => simp [intOf]; omega
              case rel => exact ⟨trivial, i + 1, by omega, by omega, by go_num, .inr ⟨i, rfl, rfl, hri, by rw [hv]; exact hv0, hz⟩⟩
          · have hiz : ¬ (i : Int) < (n : Int) := by omega
            have hzz : ∀ q, r ≤ q → q < M.length → ent M q c = 0 := fun q h1 h2 => hz q h1 (by have := HM.out.1; omega)
            have HF2 : Aside0 ((List.range (c + 1)).foldl (elimStep id) (M0, 0) = (M, r)) := ⟨by rw [List.range_succ, List.foldl_append, HF.out]; simp only [List.foldl_cons, List.foldl_nil, elimStep, findZ_none hzz]⟩
            clear hz hzz HF
            go_wp2
            exact ⟨⟨r, c + 1, bs, M, by omega, by omega, by omega, rfl, by go_num, HF2, HM, HB⟩, by simp [intOf]; omega⟩
        · have hpz : ¬ ((p : Int) < 0) := by omega
          have hpn : p < n := by omega
          have hrn' : r < n := by omega
          have hpi : (p : Int) < (n : Int) := by omega
          have hri2 : (r : Int) < (n : Int) := by omega
          have hML := HM.out.1
          have hBL := HM.out.2.1
          have hfind : findZ M c r = some p := findZ_some hrp (by omega) hnz hz
          have HFD := Aside0.mk hfind
          clear hnz hz hfind
          obtain ⟨xp, hxp, hcp, hfp⟩ := HM.out.outCell hpn
          obtain ⟨yr, hxr, hcr, hfr⟩ := HM.out.outCell hrn'
          have hxp' := hxp
          obtain ⟨hxp1, hxp2⟩ := hxp
          obtain ⟨hxr1, hxr2⟩ := hxr
          have hI0 := HM.out.2.2.2.2
          have ho1 := HM.out.2.2.2.1.put (i := p) (by omega) yr
          have ho2 := ho1.put (i := r) (by simp; omega) xp
          have hi2 := ((hI0.outer HM.out.2.2.2.1 p (rowV m yr)).outer ho1 r (rowV m xp)).swap (i := p) (j := r) (by omega) (by omega)
          have hbs : (bs.set p yr).set r xp = swapL bs p r := by rw [swapL_eq (by omega) (by omega), hxp2, hxr2]
          rw [hbs] at ho2
          have hcr1 := (ho1.cell (i := r) (by simp; omega))
          rw [show (bs.set p yr)[r]'(by simp; omega) = yr by rw [List.getElem_set]; split <;> first | rfl | exact hxr2] at hcr1
          obtain ⟨hcr1, hfr1⟩ := hcr1
          have HB1 : Aside0 (Below base w ((wr.setCell ⟨b, p, none⟩ (rowV m yr)).setCell ⟨b, r, none⟩ (rowV m xp))) := ⟨(HB.out.setCell (p := ⟨b, p, none⟩) ho1.1 _).setCell (p := ⟨b, r, none⟩) ho1.1 _⟩
          have HM1 : Aside0 (MxAll ((wr.setCell ⟨b, p, none⟩ (rowV m yr)).setCell ⟨b, r, none⟩ (rowV m xp)) base b cap (swapL bs p r) n m (swapL M p r)) := ⟨by rw [swapL_len]; exact hML, by rw [swapL_len]; exact hBL, swap_bits HM.out.2.2.1 (by omega) (by omega), ho2, hi2⟩
          have hw1 : IntKind.i64.wrap ((r : Int) + 1) = (r : Int) + 1 := by rw [IntKind.wrap_i64]; omega
          clear ho1 ho2 hi2 hI0 hbs HM HB hxp1 hxr1 hxp2 hxr2
          simp only [rowV] at hcr1 HB1 HM1
          obtain ⟨bs1, hbs1⟩ : ∃ z, z = swapL bs p r := ⟨_, rfl⟩
          obtain ⟨M1, hM1⟩ : ∃ z, z = swapL M p r := ⟨_, rfl⟩
          rw [← hbs1, ← hM1] at HM1
          have HOWN : Aside0 (∃ h1 : r < bs1.length, bs1[r] = xp) := ⟨by subst hbs1; exact ⟨by rw [swapL_len]; omega, by rw [swapL_at (by omega) (by omega), if_pos rfl]; exact hxp'.2⟩⟩
          have HE1 := Aside0.mk hM1
          have hM1l := HM1.out.1
          clear hbs1 hM1 hxp' hML hBL
          go_wp2
          all_goals
            go_loopw [10] (fun s10 wq => ∃ i : Nat, r < i ∧ i ≤ n ∧ s10 = .int .i64 i ∧ Aside0 (MxAll wq base b cap bs1 n m (elimTo c c r M1 i)) ∧ Aside0 (Below base w wq)) (fun s10 _ => n - (intOf s10).toNat)
            case atStart => exact ⟨r + 1, by omega, by omega, by go_num, ⟨by rw [elimTo_lo _ _ _ _ (Nat.le_refl _)]; exact HM1.out⟩, HB1⟩
            case round =>
              have HB0 := Aside0.mk HM1.out.2.2.1
              have HLEN : Aside0 (∀ q (h : q < M1.length), M1[q].length = m) := ⟨fun q h => HM1.out.2.2.2.2.row h⟩
              clear HM1 HB1
              obtain ⟨i, hri, hin, rfl, HM, HB⟩ := hrel
              by_cases hi : i < n
              · have hiz : (i : Int) < (n : Int) := by omega
                obtain ⟨xi, hxi, hci, hfi⟩ := HM.out.outCell hi
                obtain ⟨hxc, _⟩ := HM.out.inCell hi hlt hxi
                obtain ⟨hyc, _⟩ := HM.out.inCell hrn' hlt HOWN.out
                rw [ent_elim (by omega) (by omega)] at hxc hyc
                obtain ⟨x, hx⟩ : ∃ x, ent M1 i c = x := ⟨_, rfl⟩
                obtain ⟨y, hy⟩ : ∃ y, ent M1 r c = y := ⟨_, rfl⟩
                have hxb : Bit x := hx ▸ bit_ent HB0.out i c
                have hyb : Bit y := hy ▸ bit_ent HB0.out r c
                rw [hx] at hxc
                rw [hy] at hyc
                obtain ⟨hmw, hmm⟩ := mul_mod hxb hyb
                have htb := bit_mul hxb hyb
                have HX := Aside0.mk hx
                have HY := Aside0.mk hy
                have HXI := Aside0.mk hxi
                have HTB := Aside0.mk htb
                clear hx hy hxi hxb hyb htb
                go_wp2
                refine st_ 12 (S := fun w' => w'.cell? ⟨xi, c, none⟩ = some (.int .i64 x) ∧ w'.cell? ⟨xp, c, none⟩ = some (.int .i64 y)) (ds := []) ⟨hxc, hyc⟩ (fun hHeld => ?_)
                refine with_tabW (T := (true, [([], []), ([], []), ([0, 1], [0, 1]), ([2], [2]), ([], []), ([], []), ([4, 5], [4, 5]), ([6], [6]), ([3, 7], [3, 7]), ([], []), ([8, 9], [8, 9]), ([10, 0, 1, 2, 3, 4, 5, 6, 7, 8, 9, 10], [10])])) (B := [0, 0, 3, 7, 0, 0, 48, 112, 255, 0, 1023, 2047]) (by kernel_rfl) (by kernel_rfl) (fun HT_ HW_ => ?_)
                refine pd_ 0 76 1 HT_ ?_
                refine pd_ 1 77 3 HT_ ?_
                refine pd_ 2 78 7 HT_ ?_
                refine pd_ 4 80 23 HT_ ?_
                refine pd_ 5 81 55 HT_ ?_
                refine pd_ 6 82 119 HT_ ?_
                refine pd_ 9 85 631 HT_ ?_
                refine tk_ 3 79 639 HT_ HW_ hHeld ?_
                refine tk_ 7 83 767 HT_ HW_ hHeld ?_
                refine pd_ 8 84 1023 HT_ ?_
                refine pd_ 10 86 2047 HT_ ?_
                refine pd_ 11 12 4095 HT_ ?_
                refine dn_ HT_ ?_
                have HMd : Aside0 (MxAll wr.drew base b cap bs1 n m ((elimTo c c r M1 i).set i (stepR c c (M1.getD r []) (M1.getD i []) c))) := ⟨by
                  have hself : (elimTo c c r M1 i).set i (stepR c c (M1.getD r []) (M1.getD i []) c) = elimTo c c r M1 i := by
                    have hil : i < (elimTo c c r M1 i).length := by rw [elimTo_len]; omega
                    rw [stepR_lo _ _ _ _ (Nat.le_refl _), getD_at (by omega)]
                    have := elimTo_at (lo := c) (c := c) (r := r) (M := M1) (i := i) (q := i) (by omega)
                    rw [if_neg (by omega)] at this
                    conv => lhs; rw [← this]
                    exact List.set_getElem_self hil
                  rw [hself]; exact HM.out⟩
                have HBd : Aside0 (Below base w wr.drew) := ⟨HB.out.drew⟩
                clear HM HB hxc hyc hci hfi hHeld
                go_wp2
                go_loopw [13] (fun s13 wz => ∃ j : Nat, c ≤ j ∧ j ≤ m ∧ s13 = .int .i64 j ∧ Aside0 (MxAll wz base b cap bs1 n m ((elimTo c c r M1 i).set i (stepR c c (M1.getD r []) (M1.getD i []) j))) ∧ Aside0 (Below base w wz)) (fun s13 _ => m - (intOf s13).toNat)
                case atStart => exact ⟨c, by omega, by omega, rfl, HMd, HBd⟩
                case round =>
                  clear HMd HBd
                  obtain ⟨j, hcj, hjm, rfl, HM, HB⟩ := hrel
                  have hil : i < (elimTo c c r M1 i).length := by rw [elimTo_len]; omega
                  by_cases hj : j < m
                  · have hjz : (j : Int) < (m : Int) := by omega
                    obtain ⟨hac, haf⟩ := HM.out.inCell hi hj HXI.out
                    obtain ⟨hdc, _⟩ := HM.out.inCell hrn' hj HOWN.out
                    have hrl : (M1.getD i []).length = m := by rw [getD_at (by omega)]; exact HLEN.out i (by omega)
                    rw [ent_set hil, stepR_getD (by omega)] at hac
                    rw [ent_set_ne (by omega), ent_elim (by omega) (by omega)] at hdc
                    obtain ⟨u, hu⟩ : ∃ u, (M1.getD i []).getD j 0 = u := ⟨_, rfl⟩
                    obtain ⟨d, hd⟩ : ∃ d, ent M1 r j = d := ⟨_, rfl⟩
                    have hub : Bit u := hu ▸ bit_ent HB0.out i j
                    have hdb : Bit d := hd ▸ bit_ent HB0.out r j
                    rw [hu] at hac
                    rw [hd] at hdc
                    obtain ⟨h1, h2, h3, h4⟩ := xr_mod hub HTB.out hdb
                    have hzb : Bit (xr u (x * y) d) := bit_xr _ _ hub
                    have hnext : ((elimTo c c r M1 i).set i (stepR c c (M1.getD r []) (M1.getD i []) j)).set i ((((elimTo c c r M1 i).set i (stepR c c (M1.getD r []) (M1.getD i []) j)).getD i []).set j (xr u (x * y) d)) = (elimTo c c r M1 i).set i (stepR c c (M1.getD r []) (M1.getD i []) (j + 1)) := by
                      rw [getD_set hil, List.set_set]
                      congr 1
                      have := stepR_next (lo := c) (c := c) (own := M1.getD r []) (row := M1.getD i []) (j := j) hcj (by omega)
                      rw [← this]
                      congr 1
                      have e1 : (M1.getD i [])[j]'(by omega) = u := by rw [← hu]; exact (getD_lt (by omega)).symm
                      rw [e1, show (M1.getD i []).getD c 0 = x from HX.out, show (M1.getD r []).getD c 0 = y from HY.out, show (M1.getD r []).getD j 0 = d from hd]
                    have hput := HM.out.put hi hj HXI.out hzb
                    rw [hnext] at hput
                    have HPUT : Aside0 (MxAll (wr.drew.setCell ⟨xi, j, none⟩ (.int .i64 (xr u (x * y) d))) base b cap bs1 n m ((elimTo c c r M1 i).set i (stepR c c (M1.getD r []) (M1.getD i []) (j + 1)))) := ⟨hput⟩
                    have HBP : Aside0 (Below base w (wr.drew.setCell ⟨xi, j, none⟩ (.int .i64 (xr u (x * y) d)))) := ⟨HB.out.drew.setCell (p := ⟨xi, j, none⟩) (HM.out.base hi HXI.out) _⟩
                    clear hput hnext hu hd hub hdb hzb hrl HM HB
                    go_wp2
                    refine st_ 19 (S := fun w' => w'.cell? ⟨xi, j, none⟩ = some (.int .i64 u) ∧ w'.cell? ⟨xp, j, none⟩ = some (.int .i64 d)) (ds := [18]) ⟨hac, hdc⟩ (fun hHeld => ?_)
                    refine with_tabW (T := (true, [([], []), ([], []), ([], []), ([], []), ([2, 3], [2, 3]), ([4], [4]), ([], []), ([], []), ([6, 7], [6, 7]), ([], []), ([], []), ([9, 10], [9, 10]), ([11], [11]), ([8, 12], [8, 12]), ([5, 13], [5, 13]), ([], []), ([14, 15], [14, 15]), ([0, 1, 0, 1, 2, 3, 4, 5, 6, 7, 8, 9, 10, 11, 12, 13, 14, 15, 16], [0, 1]), ([17, 16, 0, 1, 2, 3, 4, 5, 6, 7, 8, 9, 10, 11, 12, 13, 14, 15, 16], [16, 17])])) (B := [0, 0, 0, 0, 12, 28, 0, 0, 192, 0, 0, 1536, 3584, 8128, 16380, 0, 65532, 131071, 262143]) (by kernel_rfl) (by kernel_rfl) (fun HT_ HW_ => ?_)
                    refine pd_ 0 94 1 HT_ ?_
                    refine pd_ 1 95 3 HT_ ?_
                    refine pd_ 2 96 7 HT_ ?_
                    refine pd_ 3 97 15 HT_ ?_
                    refine pd_ 4 98 31 HT_ ?_
                    refine pd_ 6 100 95 HT_ ?_
                    refine pd_ 7 101 223 HT_ ?_
                    refine pd_ 8 102 479 HT_ ?_
                    refine pd_ 9 103 991 HT_ ?_
                    refine pd_ 10 104 2015 HT_ ?_
                    refine pd_ 11 105 4063 HT_ ?_
                    refine pd_ 15 109 36831 HT_ ?_
                    refine tk_ 5 99 36863 HT_ HW_ hHeld ?_
                    refine tk_ 12 106 40959 HT_ HW_ hHeld ?_
                    refine pd_ 13 107 49151 HT_ ?_
                    refine pd_ 14 108 65535 HT_ ?_
                    refine pd_ 16 110 131071 HT_ ?_
                    refine pd_ 17 111 262143 HT_ ?_
                    refine la_ 18 none 524287 HT_ (fun K hK => ?_)
                    (have hac' : wr.drew.cell? ⟨xi, j, none⟩ = some (.int .i64 u) := hac; have haf' : wr.drew.frozen? ⟨xi, j, none⟩ = false := haf; refine skip_ (by rfl) rfl (w1 := wr.drew.setCell ⟨xi, j, none⟩ (.int .i64 (xr u (x * y) d))) (by go_simp) ?_)
                    refine hK.out _ _ ?_
                    clear hK K
                    refine dn_ HT_ ?_
                    go_wp2
                    go_roundw
                    case measure => simp [intOf]; omega
                    case rel => exact ⟨j + 1, by omega, by omega, by go_num, HPUT, HBP⟩
                  · obtain rfl : j = m := by omega
                    have hjz : ¬ (j : Int) < (j : Int) := by omega
                    have hfull : (elimTo c c r M1 i).set i (stepR c c (M1.getD r []) (M1.getD i []) j) = elimTo c c r M1 (i + 1) := by
                      rw [← elimTo_next hri (by omega), getD_at (show i < M1.length by omega), HLEN.out i (by omega)]
                    rw [hfull] at HM
                    clear hfull
                    go_wp2
                    exact ⟨⟨i + 1, by omega, by omega, by go_num, HM, HB⟩, by simp [intOf]; omega⟩
              · obtain rfl : i = n := by omega
                have hiz : ¬ (i : Int) < (i : Int) := by omega
                have HF2 : Aside0 ((List.range (c + 1)).foldl (elimStep id) (M0, 0) = (elimTo c c r M1 i, r + 1)) := ⟨by
                  rw [List.range_succ, List.foldl_append, HF.out]
                  simp only [List.foldl_cons, List.foldl_nil, elimStep, HFD.out, id]
                  rw [← HE1.out, show M.length = i by rw [← hM1l, HE1.out, swapL_len]]⟩
                go_wp2
                exact ⟨⟨r + 1, c + 1, bs1, _, by omega, by omega, by omega, by go_num, by go_num, HF2, HM, HB⟩, by simp [intOf]; omega⟩
    · obtain rfl : c = m := by omega
      have hltz : ¬ (c : Int) < (c : Int) := by omega
      go_wp2
      go_ret
      exact ⟨by unfold elimAll; rw [HF.out]; rfl, HB.out⟩
abbrev MxW (w : World) (base : Nat) (v : Value) (bs : List Nat) (m : Nat) : Prop := w.ownsRow base 22 1 v bs.length (encs (rowV m) bs)
theorem rowV_one (m x : Nat) : (rowV m x).oneCell' = true := rfl
theorem own_far {w : World} {base e size n : Nat} {v : Value} {xs : List Value} (h : w.ownsRow base e size v n xs) {y j : Nat} (hne : v.ownBlock ≠ some y) (u : Value) : (w.setCell ⟨y, j, none⟩ u).ownsRow base e size v n xs := by
  refine ⟨h.1, ?_⟩
  rcases h.2 with h0 | ⟨g, cap, cur, rfl, hb, hg, h1, h2, h3, h4⟩
  · exact .inl h0
  · have hgy : g ≠ y := fun e => hne (by rw [e]; rfl)
    exact .inr ⟨g, cap, cur, rfl, hb, (Below.heap_setCell w ⟨y, j, none⟩ u g hgy).trans hg, h1, h2, h3, h4⟩
theorem MxW.ne {w : World} {base : Nat} {v : Value} {bs : List Nat} {m y : Nat} {cells : Array Value} (h : MxW w base v bs m) (hy : w.heap[y]? = some (.cells cells 2 (0, 0))) : v.ownBlock ≠ some y := fun e => by
  obtain ⟨cs, hc⟩ := own_typed h y e
  exact blk_ne hc hy (by decide) rfl
theorem MxI.block {w : World} {base : Nat} {bs : List Nat} {m : Nat} {M : List (List Int)} (h : MxI w base bs m M) {i : Nat} (hi : i < bs.length) : ∃ cells, w.heap[bs[i]]? = some (.cells cells 2 (0, 0)) := ⟨_, (h.2.2 i hi (by rw [← h.1]; exact hi)).2.2⟩
theorem MxI.grown {w w1 : World} {base base' : Nat} {bs bs' : List Nat} {m : Nat} {M : List (List Int)} {v : Value} (h : MxI w base bs m M) (ho : MxW w base' v bs' m) (hg : w.grownBy w1 v.ownBlock) : MxI w1 base bs m M := by
  refine ⟨h.1, h.2.1, fun i h1 h2 => ?_⟩
  obtain ⟨a1, a2, a3⟩ := h.2.2 i h1 h2
  exact ⟨a1, a2, (hg.block _ (blk_lt a3) (fun e => ho.ne a3 e.symm)).trans a3⟩
theorem MxI.snoc {w : World} {base : Nat} {bs : List Nat} {m : Nat} {M : List (List Int)} (h : MxI w base bs m M) (hb : base ≤ w.heap.size) : MxI (w.alloc (.cells (numV (List.replicate m 0)).toArray 2)) base (bs ++ [w.heap.size]) m (M ++ [List.replicate m 0]) := by
  have hlt : ∀ x ∈ bs, x < w.heap.size := fun x hx => by
    obtain ⟨i, hi, rfl⟩ := List.mem_iff_getElem.1 hx
    obtain ⟨c, hc⟩ := h.block hi
    exact blk_lt hc
  refine ⟨by simp [h.1], ?_, fun i h1 h2 => ?_⟩
  · rw [List.nodup_append]
    refine ⟨h.2.1, by simp, fun a ha b hb' => ?_⟩
    obtain rfl : b = w.heap.size := by simpa using hb'
    exact Nat.ne_of_lt (hlt a ha)
  · by_cases hi : i < bs.length
    · have h2' : i < M.length := by rw [← h.1]; exact hi
      obtain ⟨a1, a2, a3⟩ := h.2.2 i hi h2'
      rw [List.getElem_append_left hi, List.getElem_append_left h2']
      exact ⟨a1, a2, ((below_alloc (Below.refl w.heap.size w) _).block _ (blk_lt a3)).trans a3⟩
    · have he : i = bs.length := by simp at h1; omega
      subst he
      have e1 : (bs ++ [w.heap.size])[bs.length]'h1 = w.heap.size := by simp
      have e2 : (M ++ [List.replicate m (0 : Int)])[bs.length]'h2 = List.replicate m 0 := by
        rw [List.getElem_append_right (by rw [h.1]; exact Nat.le_refl _)]
        simp
      rw [e1, e2]
      exact ⟨hb, by simp, heap_alloc_new w _⟩
theorem made_zero (m : Nat) : madeCells #[Value.int .i64 0] m = (numV (List.replicate m 0)).toArray := by
  apply Array.ext'
  apply List.ext_getElem
  · simp [madeCells, numV]
  · intro i h1 h2
    simp [madeCells, numV, Nat.mod_one]
theorem MxAll.of {w : World} {base : Nat} {v : Value} {bs : List Nat} {m : Nat} {M : List (List Int)} (ho : MxW w base v bs m) (hi : MxI w base bs m M) (hb : Bits M) (hn : 0 < M.length) : ∃ b cap, v = .slice (some ⟨b, 0, none⟩) M.length cap ∧ MxAll w base b cap bs M.length m M := by
  have hl := hi.1
  rcases ho.2 with ⟨_, h0⟩ | ⟨g, cap, cur, rfl, hbg, hg, h1, h2, h3, h4⟩
  · omega
  · refine ⟨g, cap, by rw [hl], rfl, hl, hb, ⟨hbg, h1, h2, cur.toList.drop bs.length, ?_, ?_⟩, hi⟩
    · rw [List.length_drop, Array.length_toList, h3]; omega
    · rw [Nat.mul_one] at h4
      rw [hg]
      congr 2
      apply Array.ext'
      have h5 : bs.map (rowV m) = cur.toList.take bs.length := h4.symm
      rw [h5, List.toList_toArray, List.take_append_drop]
def rowTo (C parts : List Int) (j : Nat) : List Int := C.map fun g => if g ∈ parts.take j then 1 else 0
theorem rowTo_zero (C parts : List Int) : rowTo C parts 0 = List.replicate C.length 0 := by
  unfold rowTo
  simp [List.map_const']
theorem rowTo_len (C parts : List Int) (j : Nat) : (rowTo C parts j).length = C.length := by unfold rowTo; simp
theorem rowTo_at {C parts : List Int} {j q : Nat} (hq : q < C.length) : (rowTo C parts j)[q]'(by rw [rowTo_len]; exact hq) = if C[q] ∈ parts.take j then 1 else 0 := by unfold rowTo; simp
theorem rowTo_next {C parts : List Int} (hC : C.Nodup) {j p : Nat} (hj : j < parts.length) (hp : p < C.length) (he : C[p] = parts[j]) : (rowTo C parts j).set p 1 = rowTo C parts (j + 1) := by
  apply List.ext_getElem
  · simp [rowTo_len]
  · intro q h1 h2
    have hq : q < C.length := by rw [rowTo_len] at h2; exact h2
    have hmem : ∀ z, z ∈ parts.take (j + 1) ↔ z ∈ parts.take j ∨ z = parts[j] := fun z => by
      rw [List.take_succ_eq_append_getElem hj]
      exact List.mem_append.trans (or_congr Iff.rfl List.mem_singleton)
    rw [List.getElem_set, rowTo_at (j := j + 1) hq]
    by_cases hpq : p = q
    · subst hpq
      rw [if_pos rfl, if_pos ((hmem _).2 (.inr he))]
    · rw [if_neg hpq, rowTo_at hq]
      have hne : C[q] ≠ parts[j] := fun e => hpq (nd_inj hC hp hq (he.trans e.symm))
      by_cases hz : C[q] ∈ parts.take j
      · rw [if_pos hz, if_pos ((hmem _).2 (.inl hz))]
      · rw [if_neg hz, if_neg (fun h => ((hmem _).1 h).elim hz hne)]
def matZ (C F : List Int) (P : Int → List Int) : List (List Int) := F.map fun f => rowTo C (P f) (P f).length
theorem rowTo_bits (C parts : List Int) (j : Nat) : ∀ x ∈ rowTo C parts j, Bit x := by
  intro x hx
  unfold rowTo at hx
  obtain ⟨g, _, rfl⟩ := List.mem_map.1 hx
  split
  · exact .inr rfl
  · exact .inl rfl
theorem matZ_bits (C F : List Int) (P : Int → List Int) : Bits (matZ C F P) := by
  intro row hrow
  unfold matZ at hrow
  obtain ⟨f, _, rfl⟩ := List.mem_map.1 hrow
  exact rowTo_bits _ _ _
end Go.Proofs.Ytomdfjohnmikdaa.Im
namespace Go.Proofs.Ytomdfjohnmikdaa.QS
open Cw Kp Ext Go.RowKit YtomdfjohnmikdaaW.PrintWords YtomdfjohnmikdaaW.PrintLast YtomdfjohnmikdaaW.PrintMore
attribute [local go_sem] max2_int min2_int max_two min_two max_three min_three max_four min_four   -- for this text's walks alone
def spec_l01Of.l0 : Nat → Int → List Int → Int → Int → List Int → Option (List Int)
 | 0, _, _, _, _, _ => none
 | k + 1, x1, x5, x6, x165000, x165001 => if x6 < (x165001.length : Int) then (if 0 ≤ x6 then ((spec_l01Ones.f k (rd x165001 x6)).bind fun t169 => (if t169 = (wrap64 (x1 + 1)) then (if x5.length < 17592186044416 then (spec_l01Of.l0 k x1 (x5 ++ [rd x165001 x6]) (wrap64 (x6 + 1)) x165000 x165001) else (none)) else (spec_l01Of.l0 k x1 x5 (wrap64 (x6 + 1)) x165000 x165001))) else (none)) else (some x5)
def spec_l01Of.f (k : Nat) (a0_0 : Int) (l0_1 : List Int) (a1 : Int) : Option (List Int) := spec_l01Of.l0 k a1 (([] : List Int)) 0 a0_0 l0_1
theorem spec_l01Of.mono_l : ∀ k, (∀ y0 y1 y2 y3 y4, LeO (spec_l01Of.l0 k y0 y1 y2 y3 y4) (spec_l01Of.l0 (k + 1) y0 y1 y2 y3 y4))
 | 0 => fun _ _ _ _ _ r h => by simp [spec_l01Of.l0] at h
 | k + 1 => by
  have ih0 := spec_l01Of.mono_l k
  ·intro y0 y1 y2 y3 y4
   unfold spec_l01Of.l0
   repeat' first
   | (with_reducible exact ih0 _ _ _ _ _)
   | (with_reducible exact spec_l01Ones.mono _ _)
   | (with_reducible exact LeO.refl _)
   | (with_reducible exact LeO.none _)
   | (with_reducible refine LeO.ite ?_ ?_)
   | (with_reducible refine LeO.bind ?_ (fun _ => ?_))
   | exact ih0 _ _ _ _ _
   | exact spec_l01Ones.mono _ _
   | exact LeO.none _
   | refine LeO.ite ?_ ?_
   | refine LeO.bind ?_ (fun _ => ?_)
theorem spec_l01Of.mono : ∀ a0 a1 a2 k, LeO (spec_l01Of.f k a0 a1 a2) (spec_l01Of.f (k + 1) a0 a1 a2) := by
 intro a0 a1 a2 k
 have ih0 := spec_l01Of.mono_l k
 unfold spec_l01Of.f
 repeat' first
   | (with_reducible exact ih0 _ _ _ _ _)
   | (with_reducible exact spec_l01Ones.mono _ _)
   | (with_reducible exact LeO.refl _)
   | (with_reducible exact LeO.none _)
   | (with_reducible refine LeO.ite ?_ ?_)
   | (with_reducible refine LeO.bind ?_ (fun _ => ?_))
   | exact ih0 _ _ _ _ _
   | exact spec_l01Ones.mono _ _
   | exact LeO.none _
   | refine LeO.ite ?_ ?_
   | refine LeO.bind ?_ (fun _ => ?_)
set_option maxHeartbeats 8000000 in
set_option maxRecDepth 100000 in
theorem spec_l01Of.calls (k : Nat) (a0_0 : Int) (A0_1 : Option Addr) (c0_1 : Nat) (l0_1 : List Int) (a1 : Int) (r : List Int) (w : World) (hr0_1 : Kd.C (Kd.int .i64) w A0_1 l0_1.length l0_1) (hc0_1 : l0_1.length ≤ c0_1) (h : spec_l01Of.f k a0_0 l0_1 a1 = some r) :
  Calls Try.prog 104 #[.agg #[.int .i64 a0_0, .slice A0_1 l0_1.length c0_1], .int .i64 a1] w fun e w' => ∃ v0_ : Value, e = .returned (v0_) ∧ Kd.R (Kd.int .i64) 2 w' w.heap.size (fun _ => True) v0_ r ∧ Below w.heap.size w w' := by
 have hu28 := Try.underlying28
 have HR0_1 := Aside0.mk hr0_1
 have HC0_1 := Aside0.mk hc0_1
 clear hr0_1 hc0_1
 have HB := Aside0.mk (Below.refl w.heap.size w)
 have H : (spec_l01Of.l0 k a1 (([] : List Int)) 0 a0_0 l0_1) = some r := h
 clear h
 obtain ⟨y165, hy165⟩ : ∃ y_ : List Int, y_ = (([] : List Int)) := ⟨_, rfl⟩
 replace H : (spec_l01Of.l0 k a1 y165 0 a0_0 l0_1) = some r := by first | (rw [hy165]; with_reducible exact H) | (have H2_ := (Option.bind_some _ _).symm.trans H; rw [hy165]; with_reducible exact H2_) | (have H2_ := (Option.bind_some _ _).symm.trans H; with_reducible exact H2_) | with_reducible exact H | (rw [hy165]; exact H) | exact H
 have Ny165 := Aside0.mk hy165
 clear hy165
 have H' := Aside0.mk H
 clear H
 go_enter Try.func104, Try.ntmps104
 go_wp2_with (first | ((with_reducible refine gate_dst (N := 2) rfl ?_); refine box_event ?hg (N := 2) ?hd (cs := #[.int .i64 a0_0, .slice A0_1 l0_1.length c0_1]) (t := 28) ?hr ?_; (case hd => rfl); (case hg => rfl); (case hr => first | (go_simp; done) | (go_simp; rfl)); intro gb164 hg w3 hbox hb; have BK164 := Aside0.mk (hbox); have GW164 := gH HB hg; have GE164 := gH HB hg; replace HB := sH HB hb; clear hb hbox hg) | ((with_reducible refine gate_dst (N := 7) rfl ?_); refine Kd.R_lit (Kd.int .i64) _ 2 ?hg (N := 7) ?hd (xs := ([] : List Int)) (inner := []) (ok := fun _ => True) (okp := fun _ => True) ?hr ?hp (fun _ hk => hk) trivial (Below.refl _ _) (Nat.le_refl _) (by simp) ?_; (case hd => rfl); (case hg => rfl); (case hr => first | (go_simp; done) | (go_simp; rfl)); (case hp => exact (Reps.none _ _)); intro v166 w4 ho5 hb hg_ hnew_; clear hg_ hnew_; (first | rw [← Ny165.out] at ho5 | (simp only [Int.reduceToNat] at ho5; rw [← Ny165.out] at ho5)); have HO167 := Aside0.mk (Kd.R_lower ho5 (below_size (pH HB))); replace BK164 := sB BK164 hb; replace HB := sH HB hb; clear hb ho5))
 go_loopg [5, 6] k (fun kq v5 v6 w' => ∃ (x5_1 : List Int) (x6_1 : Int), v6 = .int .i64 x6_1 ∧ Aside0 (spec_l01Of.l0 kq a1 x5_1 x6_1 a0_0 l0_1 = some r) ∧ Aside0 (kq ≤ k) ∧ Aside0 (Kd.R (Kd.int .i64) 2 w' w.heap.size (fun _ => True) v5 x5_1) ∧ Aside0 (w'.heap[gb164]? = some (.cells #[.int .i64 a0_0, (.slice A0_1 l0_1.length c0_1)] 28 (0, 0))) ∧ Aside0 (Below w.heap.size w w'))
 case atStart => exact ⟨(y165), (0), (by first | rfl | (simp; done) | (simp [*]; done)), H', ⟨Nat.le_refl _⟩, ⟨by (with_reducible repeat (first | apply Kd.R_alloc | apply Kd.R_drewN | apply Kd.R_drew)); exact HO167.out⟩, ⟨pB BK164⟩, ⟨pH HB⟩⟩
 case round =>
  clear H'
  try clear c1
  try clear p2
  obtain ⟨x5_1, x6_1, rfl, HA, HK1, HO_5, BK164, HB⟩ := hrel
  cases gk with
  | zero => exact absurd HA.out (by simp [spec_l01Of.l0])
  | succ k1 =>
   have H := HA.out
   clear HA
   simp only [spec_l01Of.l0] at H
   by_cases c6 : x6_1 < (l0_1.length : Int)
   ·rw [if_pos c6] at H
    have c6b0 : decide (x6_1 < (l0_1.length : Int)) = true := decide_eq_true c6
    clear c6
    by_cases c7 : 0 ≤ x6_1
    ·rw [if_pos c7] at H
     have c7b0 : decide (0 ≤ x6_1) = true := decide_eq_true c7
     clear c7
     replace H := Option.bind_eq_some_iff.mp H
     obtain ⟨t169, A80, H⟩ := H
     try dsimp only at H
     have A8 := Aside0.mk A80
     clear A80
     by_cases c9 : t169 = (wrap64 (a1 + 1))
     ·rw [if_pos c9] at H
      have c9b0 : (t169 == (wrap64 (a1 + 1))) = true := beq_iff_eq.mpr c9
      have c9b1 : (t169 != (wrap64 (a1 + 1))) = false := bne_eq_false_iff_eq.mpr c9
      clear c9
      by_cases c10 : x5_1.length < 17592186044416
      ·rw [if_pos c10] at H
       have LMc10 := Aside0.mk c10
       clear c10
       obtain ⟨y171, hy171⟩ : ∃ y_ : List Int, y_ = (x5_1 ++ [rd l0_1 x6_1]) := ⟨_, rfl⟩
       replace H : (spec_l01Of.l0 k1 a1 y171 (wrap64 (x6_1 + 1)) a0_0 l0_1) = some r := by first | (rw [hy171]; with_reducible exact H) | (have H2_ := (Option.bind_some _ _).symm.trans H; rw [hy171]; with_reducible exact H2_) | (have H2_ := (Option.bind_some _ _).symm.trans H; with_reducible exact H2_) | with_reducible exact H | (rw [hy171]; exact H) | exact H
       have Ny171 := Aside0.mk hy171
       clear hy171
       have H' := Aside0.mk H
       clear H
       have hcz11_0 : wr.cell? ⟨gb164, 0, none⟩ = some (.int .i64 a0_0) := cB BK164 0
       have hcz11_1 : wr.cell? ⟨gb164, 1, none⟩ = some (.slice A0_1 l0_1.length c0_1) := cB BK164 1
       have hfz11_0 := zB BK164 0
       have hfz11_1 := zB BK164 1
       have p168 : 0 ≤ (x6_1 : Int) := of_decide_eq_true (by first | (with_reducible assumption) | assumption)
       have q168 : x6_1 < (l0_1.length : Int) := of_decide_eq_true (by first | (with_reducible assumption) | assumption)
       obtain ⟨ad168, e168, hx168_0⟩ := Kd.at_int HR0_1.out x6_1 p168 q168
       cases e168
       replace hx168_0 := cH HB hx168_0
       replace p168 := eq_true p168
       replace q168 := eq_true q168
       go_wp2_with (first | ((with_reducible refine gate_callee (f := 129) rfl ?_); refine cl_ (some 20) Try.func129 #[.int .i64 (rd l0_1 x6_1)] ?_; (with_reducible refine (spec_l01Ones.calls k1 (rd l0_1 x6_1) t169 _ A8.out).mono ?_); rintro e w' ⟨rfl, ⟨nd, rfl⟩⟩; refine ⟨_, rfl, ?_⟩; have p170 : 0 ≤ (x6_1 : Int) := of_decide_eq_true (by first | (with_reducible assumption) | assumption); have q170 : x6_1 < (l0_1.length : Int) := of_decide_eq_true (by first | (with_reducible assumption) | assumption); obtain ⟨ad170, e170, hx170_0⟩ := Kd.at_int HR0_1.out x6_1 p170 q170; obtain rfl : ad168 = ad170 := (by injection e170); replace hx170_0 := cH HB hx170_0; replace p170 := eq_true p170; replace q170 := eq_true q170) | ((with_reducible refine gate_builtin (b := .append) (xs := #[.tmp 24, .tmp 30]) rfl ?_); at_builtin; refine Kd.R_append (Kd.int .i64) (w0 := w) w.heap.size rfl (.tmp 24) (.tmp 30) 22 2 (.int .i64 0) 8 rfl Try.underlying22 info2 rfl (by decide) (by omega) u5 x5_1 (rd l0_1 x6_1) [.int .i64 (rd l0_1 x6_1)] (fun _ => True) (fun _ => False) rfl rfl ?aP (fun _ hk => hk.elim) ?aF ?aO ?aB ?aS ?aL ?_; (case aP => exact rfl); (case aB => exact (pH HB)); (case aF => exact (fun _ _ => trivial)); (case aO => exact (pR HO_5)); (case aS => exact (below_size (pH HB))); (case aL => have := LMc10.out; omega); intro v172 w12 ho hb hg hat; rw [← Ny171.out] at ho; replace BK164 := Aside0.mk (blk_grown (g := gb164) (o := .cells #[.int .i64 a0_0, .slice (some ad168) l0_1.length c0_1] 28 (0, 0)) (pB BK164) hg (Kd.R_ne HO_5.out BK164.out (by decide))); replace HB := Aside0.mk (hb); have HO173 := Aside0.mk (ho); clear HO_5; clear ho hb hg hat))
       go_roundg k1
       case measure => have := HK1.out; omega
       case rel => exact ⟨(y171), (wrap64 (x6_1 + 1)), (by first | rfl | (simp; done) | (simp [*]; done)), H', ⟨by have := HK1.out; omega⟩, ⟨by (with_reducible repeat (first | apply Kd.R_alloc | apply Kd.R_drewN | apply Kd.R_drew)); exact HO173.out⟩, ⟨pB BK164⟩, ⟨pH HB⟩⟩
      ·rw [if_neg c10] at H
       exact absurd H (by simp)
     ·rw [if_neg c9] at H
      have c9b0 : (t169 == (wrap64 (a1 + 1))) = false := beq_eq_false_iff_ne.mpr c9
      have c9b1 : (t169 != (wrap64 (a1 + 1))) = true := bne_iff_ne.mpr c9
      have H' := Aside0.mk H
      clear H
      have hcz13_0 : wr.cell? ⟨gb164, 0, none⟩ = some (.int .i64 a0_0) := cB BK164 0
      have hcz13_1 : wr.cell? ⟨gb164, 1, none⟩ = some (.slice A0_1 l0_1.length c0_1) := cB BK164 1
      have hfz13_0 := zB BK164 0
      have hfz13_1 := zB BK164 1
      have p168 : 0 ≤ (x6_1 : Int) := of_decide_eq_true (by first | (with_reducible assumption) | assumption)
      have q168 : x6_1 < (l0_1.length : Int) := of_decide_eq_true (by first | (with_reducible assumption) | assumption)
      obtain ⟨ad168, e168, hx168_0⟩ := Kd.at_int HR0_1.out x6_1 p168 q168
      cases e168
      replace hx168_0 := cH HB hx168_0
      replace p168 := eq_true p168
      replace q168 := eq_true q168
      go_wp2_with (first | ((with_reducible refine gate_callee (f := 129) rfl ?_); refine cl_ (some 20) Try.func129 #[.int .i64 (rd l0_1 x6_1)] ?_; (with_reducible refine (spec_l01Ones.calls k1 (rd l0_1 x6_1) t169 _ A8.out).mono ?_); rintro e w' ⟨rfl, ⟨nd, rfl⟩⟩; refine ⟨_, rfl, ?_⟩))
      go_roundg k1
      case measure => have := HK1.out; omega
      case rel => exact ⟨(x5_1), (wrap64 (x6_1 + 1)), (by first | rfl | (simp; done) | (simp [*]; done)), H', ⟨by have := HK1.out; omega⟩, ⟨by (with_reducible repeat (first | apply Kd.R_alloc | apply Kd.R_drewN | apply Kd.R_drew)); exact HO_5.out⟩, ⟨pB BK164⟩, ⟨pH HB⟩⟩
    ·rw [if_neg c7] at H
     exact absurd H (by simp)
   ·rw [if_neg c6] at H
    have c6b0 : decide (x6_1 < (l0_1.length : Int)) = false := decide_eq_false c6
    clear c6
    obtain rfl := Option.some.inj H
    have hcz14_0 : wr.cell? ⟨gb164, 0, none⟩ = some (.int .i64 a0_0) := cB BK164 0
    have hcz14_1 : wr.cell? ⟨gb164, 1, none⟩ = some (.slice A0_1 l0_1.length c0_1) := cB BK164 1
    have hfz14_0 := zB BK164 0
    have hfz14_1 := zB BK164 1
    go_wp2
    go_ret
    exact ⟨_, by first | rfl | (simp [errW_none, errW_some] <;> rfl) | (simp [*, errW_none, errW_some] <;> rfl) | (exfalso; simp_all), by (with_reducible repeat (first | apply Kd.R_alloc | apply Kd.R_drewN | apply Kd.R_drew)); exact HO_5.out, pH HB⟩
def spec_l03Signs.l0 : Nat → List Int → Int → Option (List Int)
 | 0, _, _ => none
 | k + 1, x3, x4 => if x4 ≥ 0 then (if x3.length < 17592186044416 then (spec_l03Signs.l0 k (x3 ++ [wrap64 (1 - (wrap64 (2 * (Int.tmod x4 2))))]) (wrap64 (x4 - 1))) else (none)) else (some x3)
def spec_l03Signs.f (k : Nat) (a0 : Int) : Option (List Int) := (some (([] : List Int) : List Int)).bind fun y179 => ((spec_l01Ones.f k a0).bind fun t182 => (if (wrap64 (t182 - 1)) = 0 then (some y179) else (spec_l03Signs.l0 k y179 (wrap64 (t182 - 1)))))
theorem spec_l03Signs.mono_l : ∀ k, (∀ y0 y1, LeO (spec_l03Signs.l0 k y0 y1) (spec_l03Signs.l0 (k + 1) y0 y1))
 | 0 => fun _ _ r h => by simp [spec_l03Signs.l0] at h
 | k + 1 => by
  have ih0 := spec_l03Signs.mono_l k
  ·intro y0 y1
   unfold spec_l03Signs.l0
   repeat' first
   | (with_reducible exact ih0 _ _)
   | (with_reducible exact spec_l01Ones.mono _ _)
   | (with_reducible exact LeO.refl _)
   | (with_reducible exact LeO.none _)
   | (with_reducible refine LeO.ite ?_ ?_)
   | (with_reducible refine LeO.bind ?_ (fun _ => ?_))
   | exact ih0 _ _
   | exact spec_l01Ones.mono _ _
   | exact LeO.none _
   | refine LeO.ite ?_ ?_
   | refine LeO.bind ?_ (fun _ => ?_)
theorem spec_l03Signs.mono : ∀ a0 k, LeO (spec_l03Signs.f k a0) (spec_l03Signs.f (k + 1) a0) := by
 intro a0 k
 have ih0 := spec_l03Signs.mono_l k
 unfold spec_l03Signs.f
 repeat' first
   | (with_reducible exact ih0 _ _)
   | (with_reducible exact spec_l01Ones.mono _ _)
   | (with_reducible exact LeO.refl _)
   | (with_reducible exact LeO.none _)
   | (with_reducible refine LeO.ite ?_ ?_)
   | (with_reducible refine LeO.bind ?_ (fun _ => ?_))
   | exact ih0 _ _
   | exact spec_l01Ones.mono _ _
   | exact LeO.none _
   | refine LeO.ite ?_ ?_
   | refine LeO.bind ?_ (fun _ => ?_)
set_option maxHeartbeats 8000000 in
set_option maxRecDepth 100000 in
theorem spec_l03Signs.calls (k : Nat) (a0 : Int) (r : List Int) (w : World) (h : spec_l03Signs.f k a0 = some r) :
  Calls Try.prog 183 #[.int .i64 a0] w fun e w' => ∃ v0_ : Value, e = .returned (v0_) ∧ Kd.R (Kd.int .i64) 2 w' w.heap.size (fun _ => True) v0_ r ∧ Below w.heap.size w w' := by
 have HB := Aside0.mk (Below.refl w.heap.size w)
 have H : ((some (([] : List Int) : List Int)).bind fun y179 => ((spec_l01Ones.f k a0).bind fun t182 => (if (wrap64 (t182 - 1)) = 0 then (some y179) else (spec_l03Signs.l0 k y179 (wrap64 (t182 - 1)))))) = some r := h
 clear h
 obtain ⟨y179, hy179⟩ : ∃ y_ : List Int, y_ = (([] : List Int)) := ⟨_, rfl⟩
 replace H : ((spec_l01Ones.f k a0).bind fun t182 => (if (wrap64 (t182 - 1)) = 0 then (some y179) else (spec_l03Signs.l0 k y179 (wrap64 (t182 - 1))))) = some r := by first | (rw [hy179]; with_reducible exact H) | (have H2_ := (Option.bind_some _ _).symm.trans H; rw [hy179]; with_reducible exact H2_) | (have H2_ := (Option.bind_some _ _).symm.trans H; with_reducible exact H2_) | with_reducible exact H | (rw [hy179]; exact H) | exact H
 have Ny179 := Aside0.mk hy179
 clear hy179
 replace H := Option.bind_eq_some_iff.mp H
 obtain ⟨t182, A20, H⟩ := H
 try dsimp only at H
 have A2 := Aside0.mk A20
 clear A20
 by_cases c3 : (wrap64 (t182 - 1)) = 0
 ·rw [if_pos c3] at H
  have c3b0 : ((wrap64 (t182 - 1)) == 0) = true := beq_iff_eq.mpr c3
  have c3b1 : ((wrap64 (t182 - 1)) != 0) = false := bne_eq_false_iff_eq.mpr c3
  clear c3
  obtain rfl := Option.some.inj H
  go_enter Try.func183, Try.ntmps183
  go_wp2_with (first | ((with_reducible refine gate_dst (N := 5) rfl ?_); refine Kd.R_lit (Kd.int .i64) _ 2 ?hg (N := 5) ?hd (xs := ([] : List Int)) (inner := []) (ok := fun _ => True) (okp := fun _ => True) ?hr ?hp (fun _ hk => hk) trivial (Below.refl _ _) (Nat.le_refl _) (by simp) ?_; (case hd => rfl); (case hg => rfl); (case hr => first | (go_simp; done) | (go_simp; rfl)); (case hp => exact (Reps.none _ _)); intro v180 w4 ho5 hb hg_ hnew_; clear hg_ hnew_; (first | rw [← Ny179.out] at ho5 | (simp only [Int.reduceToNat] at ho5; rw [← Ny179.out] at ho5)); have HO181 := Aside0.mk (Kd.R_lower ho5 (below_size (pH HB))); replace HB := sH HB hb; clear hb ho5) | ((with_reducible refine gate_callee (f := 129) rfl ?_); refine cl_ (some 7) Try.func129 #[.int .i64 a0] ?_; (with_reducible refine (spec_l01Ones.calls k a0 t182 _ A2.out).mono ?_); rintro e w' ⟨rfl, ⟨nd, rfl⟩⟩; refine ⟨_, rfl, ?_⟩))
  go_ret
  exact ⟨_, by first | rfl | (simp [errW_none, errW_some] <;> rfl) | (simp [*, errW_none, errW_some] <;> rfl) | (exfalso; simp_all), by (with_reducible repeat (first | apply Kd.R_alloc | apply Kd.R_drewN | apply Kd.R_drew)); exact HO181.out, pH HB⟩
 ·rw [if_neg c3] at H
  have c3b0 : ((wrap64 (t182 - 1)) == 0) = false := beq_eq_false_iff_ne.mpr c3
  have c3b1 : ((wrap64 (t182 - 1)) != 0) = true := bne_iff_ne.mpr c3
  have H' := Aside0.mk H
  clear H
  go_enter Try.func183, Try.ntmps183
  go_wp2_with (first | ((with_reducible refine gate_dst (N := 5) rfl ?_); refine Kd.R_lit (Kd.int .i64) _ 2 ?hg (N := 5) ?hd (xs := ([] : List Int)) (inner := []) (ok := fun _ => True) (okp := fun _ => True) ?hr ?hp (fun _ hk => hk) trivial (Below.refl _ _) (Nat.le_refl _) (by simp) ?_; (case hd => rfl); (case hg => rfl); (case hr => first | (go_simp; done) | (go_simp; rfl)); (case hp => exact (Reps.none _ _)); intro v180 w6 ho7 hb hg_ hnew_; clear hg_ hnew_; (first | rw [← Ny179.out] at ho7 | (simp only [Int.reduceToNat] at ho7; rw [← Ny179.out] at ho7)); have HO181 := Aside0.mk (Kd.R_lower ho7 (below_size (pH HB))); replace HB := sH HB hb; clear hb ho7) | ((with_reducible refine gate_callee (f := 129) rfl ?_); refine cl_ (some 7) Try.func129 #[.int .i64 a0] ?_; (with_reducible refine (spec_l01Ones.calls k a0 t182 _ A2.out).mono ?_); rintro e w' ⟨rfl, ⟨nd, rfl⟩⟩; refine ⟨_, rfl, ?_⟩))
  go_loopg [3, 4] k (fun kq v3 v4 w' => ∃ (x3_1 : List Int) (x4_1 : Int), v4 = .int .i64 x4_1 ∧ Aside0 (spec_l03Signs.l0 kq x3_1 x4_1 = some r) ∧ Aside0 (kq ≤ k) ∧ Aside0 (Kd.R (Kd.int .i64) 2 w' w.heap.size (fun _ => True) v3 x3_1) ∧ Aside0 (Below w.heap.size w w'))
  case atStart => exact ⟨(y179), (wrap64 (t182 - 1)), (by first | rfl | (simp; done) | (simp [*]; done)), H', ⟨Nat.le_refl _⟩, ⟨by (with_reducible repeat (first | apply Kd.R_alloc | apply Kd.R_drewN | apply Kd.R_drew)); exact HO181.out⟩, ⟨pH HB⟩⟩
  case round =>
   clear H'
   try clear c1
   try clear p2
   try clear c3
   try clear c3b0
   try clear c3b1
   try clear p6
   obtain ⟨x3_1, x4_1, rfl, HA, HK1, HO_3, HB⟩ := hrel
   cases gk with
   | zero => exact absurd HA.out (by simp [spec_l03Signs.l0])
   | succ k1 =>
    have H := HA.out
    clear HA
    simp only [spec_l03Signs.l0] at H
    by_cases c8 : x4_1 ≥ 0
    ·rw [if_pos c8] at H
     have c8b0 : decide (0 ≤ x4_1) = true := decide_eq_true c8
     clear c8
     by_cases c9 : x3_1.length < 17592186044416
     ·rw [if_pos c9] at H
      have LMc9 := Aside0.mk c9
      clear c9
      obtain ⟨y183, hy183⟩ : ∃ y_ : List Int, y_ = (x3_1 ++ [wrap64 (1 - (wrap64 (2 * (Int.tmod x4_1 2))))]) := ⟨_, rfl⟩
      replace H : (spec_l03Signs.l0 k1 y183 (wrap64 (x4_1 - 1))) = some r := by first | (rw [hy183]; with_reducible exact H) | (have H2_ := (Option.bind_some _ _).symm.trans H; rw [hy183]; with_reducible exact H2_) | (have H2_ := (Option.bind_some _ _).symm.trans H; with_reducible exact H2_) | with_reducible exact H | (rw [hy183]; exact H) | exact H
      have Ny183 := Aside0.mk hy183
      clear hy183
      have H' := Aside0.mk H
      clear H
      go_wp2_with (first | ((with_reducible refine gate_builtin (b := .append) (xs := #[.tmp 16, .tmp 21]) rfl ?_); at_builtin; refine Kd.R_append (Kd.int .i64) (w0 := w) w.heap.size rfl (.tmp 16) (.tmp 21) 22 2 (.int .i64 0) 8 rfl Try.underlying22 info2 rfl (by decide) (by omega) u3 x3_1 (wrap64 (1 - (wrap64 (2 * (Int.tmod x4_1 2))))) [.int .i64 (wrap64 (1 - (wrap64 (2 * (Int.tmod x4_1 2)))))] (fun _ => True) (fun _ => False) rfl rfl ?aP (fun _ hk => hk.elim) ?aF ?aO ?aB ?aS ?aL ?_; (case aP => exact rfl); (case aB => exact (pH HB)); (case aF => exact (fun _ _ => trivial)); (case aO => exact (pR HO_3)); (case aS => exact (below_size (pH HB))); (case aL => have := LMc9.out; omega); intro v184 w10 ho hb hg hat; rw [← Ny183.out] at ho; replace HB := Aside0.mk (hb); have HO185 := Aside0.mk (ho); clear HO_3; clear ho hb hg hat))
      go_roundg k1
      case measure => have := HK1.out; omega
      case rel => exact ⟨(y183), (wrap64 (x4_1 - 1)), (by first | rfl | (simp; done) | (simp [*]; done)), H', ⟨by have := HK1.out; omega⟩, ⟨by (with_reducible repeat (first | apply Kd.R_alloc | apply Kd.R_drewN | apply Kd.R_drew)); exact HO185.out⟩, ⟨pH HB⟩⟩
     ·rw [if_neg c9] at H
      exact absurd H (by simp)
    ·rw [if_neg c8] at H
     have c8b0 : decide (0 ≤ x4_1) = false := decide_eq_false c8
     clear c8
     obtain rfl := Option.some.inj H
     go_wp2
     go_ret
     exact ⟨_, by first | rfl | (simp [errW_none, errW_some] <;> rfl) | (simp [*, errW_none, errW_some] <;> rfl) | (exfalso; simp_all), by (with_reducible repeat (first | apply Kd.R_alloc | apply Kd.R_drewN | apply Kd.R_drew)); exact HO_3.out, pH HB⟩
def spec_l03Place.l0 : Nat → List Int → Int → Int → Option (Int)
 | 0, _, _, _ => none
 | k + 1, x0, x1, x5 => if x5 < (x0.length : Int) then (if 0 ≤ x5 then (if (rd x0 x5) = x1 then (some x5) else (spec_l03Place.l0 k x0 x1 (wrap64 (x5 + 1)))) else (none)) else (some (-1))
def spec_l03Place.f (k : Nat) (l0 : List Int) (a1 : Int) : Option (Int) := spec_l03Place.l0 k l0 a1 0
set_option maxHeartbeats 8000000 in
set_option maxRecDepth 100000 in
theorem spec_l03Place.calls (k : Nat) (A0 : Option Addr) (c0 : Nat) (l0 : List Int) (a1 : Int) (r : Int) (w : World) (hr0 : Kd.C (Kd.int .i64) w A0 l0.length l0) (hc0 : l0.length ≤ c0) (h : spec_l03Place.f k l0 a1 = some r) :
  Calls Try.prog 184 #[.slice A0 l0.length c0, .int .i64 a1] w fun e w' => e = .returned (.int .i64 r) ∧ Drawn0 w w' := by
 have HR0 := Aside0.mk hr0
 have HC0 := Aside0.mk hc0
 clear hr0 hc0
 have H : (spec_l03Place.l0 k l0 a1 0) = some r := h
 clear h
 have H' := Aside0.mk H
 clear H
 go_enter Try.func184, Try.ntmps184
 go_wp2
 go_loopg [5] k (fun kq v5 w' => ∃ (x5_1 : Int), v5 = .int .i64 x5_1 ∧ Aside0 (spec_l03Place.l0 kq l0 a1 x5_1 = some r) ∧ Aside0 (kq ≤ k) ∧ Drawn0 w w')
 case atStart => exact ⟨(0), (by first | rfl | (simp; done) | (simp [*]; done)), H', ⟨Nat.le_refl _⟩, by repeat (first | exact Drawn0.refl _ | apply Drawn0.step)⟩
 case round =>
  clear H'
  try clear c1
  try clear p2
  obtain ⟨x5_1, rfl, HA, HK1, ⟨m1, rfl⟩⟩ := hrel
  cases gk with
  | zero => exact absurd HA.out (by simp [spec_l03Place.l0])
  | succ k1 =>
   have H := HA.out
   clear HA
   simp only [spec_l03Place.l0] at H
   by_cases c3 : x5_1 < (l0.length : Int)
   ·rw [if_pos c3] at H
    have c3b0 : decide (x5_1 < (l0.length : Int)) = true := decide_eq_true c3
    clear c3
    by_cases c4 : 0 ≤ x5_1
    ·rw [if_pos c4] at H
     have c4b0 : decide (0 ≤ x5_1) = true := decide_eq_true c4
     clear c4
     by_cases c5 : (rd l0 x5_1) = a1
     ·rw [if_pos c5] at H
      have c5b0 : ((rd l0 x5_1) == a1) = true := beq_iff_eq.mpr c5
      have c5b1 : ((rd l0 x5_1) != a1) = false := bne_eq_false_iff_eq.mpr c5
      clear c5
      obtain rfl := Option.some.inj H
      have p186 : 0 ≤ (x5_1 : Int) := of_decide_eq_true (by first | (with_reducible assumption) | assumption)
      have q186 : x5_1 < (l0.length : Int) := of_decide_eq_true (by first | (with_reducible assumption) | assumption)
      obtain ⟨ad186, e186, hx186_0⟩ := Kd.at_int HR0.out x5_1 p186 q186
      cases e186
      replace p186 := eq_true p186
      replace q186 := eq_true q186
      go_wp2
      go_ret
      exact ⟨by first | rfl | (simp; done) | (simp [*]; done), by repeat (first | exact Drawn0.refl _ | apply Drawn0.step)⟩
     ·rw [if_neg c5] at H
      have c5b0 : ((rd l0 x5_1) == a1) = false := beq_eq_false_iff_ne.mpr c5
      have c5b1 : ((rd l0 x5_1) != a1) = true := bne_iff_ne.mpr c5
      have H' := Aside0.mk H
      clear H
      have p186 : 0 ≤ (x5_1 : Int) := of_decide_eq_true (by first | (with_reducible assumption) | assumption)
      have q186 : x5_1 < (l0.length : Int) := of_decide_eq_true (by first | (with_reducible assumption) | assumption)
      obtain ⟨ad186, e186, hx186_0⟩ := Kd.at_int HR0.out x5_1 p186 q186
      cases e186
      replace p186 := eq_true p186
      replace q186 := eq_true q186
      go_wp2
      go_roundg k1
      case measure => have := HK1.out; omega
      case rel => exact ⟨(wrap64 (x5_1 + 1)), (by first | rfl | (simp; done) | (simp [*]; done)), H', ⟨by have := HK1.out; omega⟩, by repeat (first | exact Drawn0.refl _ | apply Drawn0.step)⟩
    ·rw [if_neg c4] at H
     exact absurd H (by simp)
   ·rw [if_neg c3] at H
    have c3b0 : decide (x5_1 < (l0.length : Int)) = false := decide_eq_false c3
    clear c3
    obtain rfl := Option.some.inj H
    go_wp2
    go_ret
    exact ⟨by first | rfl | (simp; done) | (simp [*]; done), by repeat (first | exact Drawn0.refl _ | apply Drawn0.step)⟩
end Go.Proofs.Ytomdfjohnmikdaa.QS
namespace Go.Proofs.Ytomdfjohnmikdaa.Im
open Go.RowKit Go.Shelf Cw YtomdfjohnmikdaaW.PrintWords YtomdfjohnmikdaaW.PrintLast YtomdfjohnmikdaaW.PrintMore
abbrev RI (w : World) (base : Nat) (ok : Nat → Prop) (v : Value) (xs : List Int) : Prop := Kd.R (Kd.int .i64) 2 w base ok v xs
def RowsPost (w : World) (m : Nat) (M : List (List Int)) (e : Ending) (w' : World) : Prop := ∃ (v : Value) (bs : List Nat), e = .returned v ∧ MxW w' w.heap.size v bs m ∧ MxI w' w.heap.size bs m M ∧ Below w.heap.size w w'
theorem infoR : (Try.prog.info? 22).map (fun i => (i.zero, i.size, i.bytes)) = some (some (.slice none 0 0), 1, 24) := by kernel_rfl
theorem RI.low {w : World} {base base' : Nat} {v : Value} {xs : List Int} (h : RI w base (fun _ => True) v xs) (hb : base' ≤ base) : RI w base' (fun k => k < w.heap.size) v xs := Kd.R_lower (Kd.R_mono (Kd.R_bound h) (fun k hk => hk.2.2.1)) hb
def Two (W : World) (base Y : Nat) (v7 : Value) (F : List Int) (v8 : Value) (C : List Int) : Prop := RI W base (fun k => k < Y) v7 F ∧ RI W base (fun k => k < Y) v8 C ∧ Y ≤ W.heap.size
section
variable {W W1 : World} {base Y : Nat} {v7 v8 : Value} {F C : List Int}
theorem Two.of (h7 : RI W base (fun _ => True) v7 F) (h8 : RI W base (fun _ => True) v8 C) : ∃ Y, Two W base Y v7 F v8 C := ⟨_, RI.low h7 (Nat.le_refl _), RI.low h8 (Nat.le_refl _), Nat.le_refl _⟩
theorem Two.below (h : Two W base Y v7 F v8 C) (hb : Below W.heap.size W W1) : Two W1 base Y v7 F v8 C := ⟨Kd.R_below h.1 hb, Kd.R_below h.2.1 hb, Nat.le_trans h.2.2 hb.size⟩
theorem Two.far (h : Two W base Y v7 F v8 C) {y : Nat} (hy : Y ≤ y) (j : Nat) (u : Value) : Two (W.setCell ⟨y, j, none⟩ u) base Y v7 F v8 C :=
  ⟨Kd.R_far h.1 (p := ⟨y, j, none⟩) (fun k hk => Nat.ne_of_lt (Nat.lt_of_lt_of_le hk hy)) u, Kd.R_far h.2.1 (p := ⟨y, j, none⟩) (fun k hk => Nat.ne_of_lt (Nat.lt_of_lt_of_le hk hy)) u, by simpa using h.2.2⟩
theorem Two.grown (h : Two W base Y v7 F v8 C) {base' m : Nat} {bs : List Nat} {v : Value} (ho : MxW W base' v bs m) (hg : W.grownBy W1 v.ownBlock) : Two W1 base Y v7 F v8 C :=
  ⟨Kd.R_over' h.1 (fun k hk => own_typed ho k hk) (by decide) hg, Kd.R_over' h.2.1 (fun k hk => own_typed ho k hk) (by decide) hg, Nat.le_trans h.2.2 hg.size⟩
end
theorem sign_mod {s : Int} (h : s = 1 ∨ s = -1) : wrap64 (s + 2) = s + 2 ∧ IntKind.i64.wrap (s + 2) = s + 2 ∧ Int.tmod (s + 2) 2 = 1 := by
  rcases h with rfl | rfl
  · refine ⟨by simp [wrap64], by rw [IntKind.wrap_i64]; simp, by decide⟩
  · refine ⟨by simp [wrap64], by rw [IntKind.wrap_i64]; simp, by decide⟩
theorem MxI.rowLast {w : World} {base : Nat} {bs : List Nat} {m y : Nat} {M : List (List Int)} {row : List Int} (h : MxI w base (bs ++ [y]) m (M ++ [row])) {p : Nat} (hp : p < m) : ∃ v, w.cell? ⟨y, p, none⟩ = some (.int .i64 v) ∧ w.frozen? ⟨y, p, none⟩ = false ∧ MxI (w.setCell ⟨y, p, none⟩ (.int .i64 1)) base (bs ++ [y]) m (M ++ [row.set p 1]) := by
  have hl : bs.length = M.length := by have := h.1; simp at this; exact this
  have h1 : bs.length < (bs ++ [y]).length := by simp
  have h2 : bs.length < (M ++ [row]).length := by simp; omega
  have hc := h.cell h1 h2 hp
  have hpu := h.put h1 h2 hp 1
  have e1 : (bs ++ [y])[bs.length]'h1 = y := by simp
  have e2 : (M ++ [row])[bs.length]'h2 = row := by
    rw [List.getElem_append_right (by omega)]
    simp
  rw [e1] at hc hpu
  refine ⟨_, hc.1, hc.2, ?_⟩
  rw [e2, hl, List.set_append_right _ _ (Nat.le_refl _), Nat.sub_self] at hpu
  exact hpu
set_option maxRecDepth 100000 in
set_option maxHeartbeats 4000000 in
theorem rows2_c (k : Nat) (n : Int) (A : Option Addr) (c : Nat) (xs : List Int) (d : Int) (F C : List Int) (P : Int → List Int) (w : World) (hr : RC w A xs.length xs) (hc : xs.length ≤ c) (hd : -1 ≤ d ∧ d ≤ 100)
    (hF : QS.spec_l01Of.f k n xs d = some F) (hC : QS.spec_l01Of.f k n xs (d - 1) = some C)
    (hP : ∀ f ∈ F, QS.spec_l01Below.f k f = some (P f) ∧ ∃ S, QS.spec_l03Signs.f k f = some S ∧ S.length = (P f).length ∧ ∀ s ∈ S, s = 1 ∨ s = -1)
    (hpl : ∀ f ∈ F, ∀ g ∈ P f, ∃ p : Nat, QS.spec_l03Place.f k C g = some (p : Int) ∧ ∃ h : p < C.length, C[p] = g) (hCn : C.Nodup) (hl1 : F.length ≤ 1000) (hl2 : C.length ≤ 1000) (hl3 : ∀ f ∈ F, (P f).length ≤ 1000) :
    Calls Try.prog 151 #[.agg #[.int .i64 n, .slice A xs.length c], .int .i64 d, .int .i64 2] w (RowsPost w C.length (matZ C F P)) := by
  have hx0 := Aside0.mk (CxAt.new w n A xs.length c).drew'
  have hb0 := Aside0.mk (below_alloc (Below.refl w.heap.size w) (.cells #[.int .i64 n, .slice A xs.length c] 28)).drew
  have HR := Aside0.mk hr
  have HC := Aside0.mk hc
  have HF := Aside0.mk hF
  have HCC := Aside0.mk hC
  have HPP := Aside0.mk hP
  have HPL := Aside0.mk hpl
  have HCN := Aside0.mk hCn
  have HL3 := Aside0.mk hl3
  have hdw : wrap64 (d - 1) = d - 1 := by unfold wrap64; omega
  have hdv : IntKind.i64.wrap (d - 1) = d - 1 := by rw [IntKind.wrap_i64]; omega
  clear hr hc hF hC hP hpl hCn hl3
  go_enter Try.func151, Try.ntmps151
  go_wp2
  have HX := hx0; have HB := hb0; clear hx0 hb0
  refine st_ 11 (S := fun w' => w'.cell? ⟨w.heap.size, 0, none⟩ = some (.int .i64 n) ∧ w'.cell? ⟨w.heap.size, 1, none⟩ = some (.slice A xs.length c)) (ds := []) ⟨HX.out.c0, HX.out.c1⟩ (fun hHeld => ?_)
  refine with_tabW (T := (true, [([], []), ([], []), ([0, 1], [0, 1]), ([], []), ([], []), ([4], [4]), ([3, 5, 2], [3, 5]), ([], []), ([2, 6, 0, 1, 2], [2]), ([6, 8, 0, 1, 2, 3, 4, 5, 6, 8], [6]), ([7, 9, 0, 1, 2, 3, 4, 5, 6, 7, 8, 9], [7])])) (B := [0, 0, 3, 0, 0, 16, 63, 0, 127, 383, 1023]) (by kernel_rfl) (by kernel_rfl) (fun HT_ HW_ => ?_)
  refine pd_ 1 16 2 HT_ ?_
  refine pd_ 4 19 18 HT_ ?_
  refine pd_ 5 20 50 HT_ ?_
  refine tk_ 0 15 51 HT_ HW_ hHeld ?_
  refine tk_ 3 18 59 HT_ HW_ hHeld ?_
  refine tw_ 2 7 (some 17) (some 22) 63 187 HT_ (fun K hK => ?_) (fun K hK => ?_)
  refine ca_ Try.func104 #[.agg #[.int .i64 n, .slice A xs.length c], .int .i64 d] ?_
  refine (QS.spec_l01Of.calls k n A c xs d F _ (Kd.C_below HR.out HB.out) HC.out HF.out).mono ?_; rintro e w2 ⟨v7, rfl, hv, hb⟩; have HV7 := Aside0.mk (Kd.R_lower hv HB.out.size); have HX2 := Aside0.mk (HX.out.below hb); have HB2 := Aside0.mk (below_in HB.out hb); clear HX HB hv hb; have HX := HX2; have HB := HB2; clear HX2 HB2
  refine ⟨_, rfl, ?_⟩
  refine hK.out _ _ ⟨HX.out.c0, HX.out.c1⟩ (fun hHeld => ?_)
  clear hK K
  refine nm_ ?_
  refine tw_ 6 7 (some 21) (some 22) 127 191 HT_ (fun K hK => ?_) (fun K hK => ?_)
  refine ca_ Try.func104 #[.agg #[.int .i64 n, .slice A xs.length c], .int .i64 (d - 1)] ?_
  refine (QS.spec_l01Of.calls k n A c xs (d - 1) C _ (Kd.C_below HR.out HB.out) HC.out HCC.out).mono ?_; rintro e w4 ⟨v8, rfl, hv, hb⟩; have HV8 := Aside0.mk (Kd.R_lower hv HB.out.size); have HX2 := Aside0.mk (HX.out.below hb); have HV72 := Aside0.mk (Kd.R_below HV7.out hb); have HB2 := Aside0.mk (below_in HB.out hb); clear HX HB HV7 hv hb; have HX := HX2; have HB := HB2; have HV7 := HV72; clear HX2 HB2 HV72
  refine ⟨_, rfl, ?_⟩
  refine hK.out _ _ ⟨HX.out.c0, HX.out.c1⟩ (fun hHeld => ?_)
  clear hK K
  refine nm_ ?_
  refine pd_ 8 7 383 HT_ ?_
  refine pd_ 9 8 895 HT_ ?_
  refine on_ 7 (some 22) 1023 HT_ (fun K hK => ?_)
  (refine value_ (by rfl) rfl (v := .slice (some ⟨w4.heap.size, 0, none⟩) 0 0) (w1 := w4.alloc (.cells #[] 22)) (by go_simp) ?_; have HX2 := Aside0.mk (HX.out.below (below_alloc (Below.refl _ _) (.cells #[] 22))); have HO : Aside0 (MxW (w4.alloc (.cells #[] 22)) w.heap.size (.slice (some ⟨w4.heap.size, 0, none⟩) 0 0) [] C.length) := ⟨World.ownsRow_made w4 #[] 0 HB.out.size (Nat.zero_le _) rfl⟩; have HV72 := Aside0.mk (Kd.R_alloc HV7.out (.cells #[] 22)); have HV82 := Aside0.mk (Kd.R_alloc HV8.out (.cells #[] 22)); have HB2 := Aside0.mk (HB.out.alloc HB.out.size (.cells #[] 22)); clear HX HB HV7 HV8; have HX := HX2; have HB := HB2; have HV7 := HV72; have HV8 := HV82; clear HX2 HB2 HV72 HV82)
  refine hK.out _ _ ⟨HX.out.c0, HX.out.c1⟩ (fun hHeld => ?_)
  clear hK K
  refine nm_ ?_
  refine pd_ 10 9 2047 HT_ ?_
  refine dn_ HT_ ?_
  rotate_left
  (refine value_ (by rfl) rfl (v := .slice (some ⟨w2.heap.size, 0, none⟩) 0 0) (w1 := w2.alloc (.cells #[] 22)) (by go_simp) ?_; have HX2 := Aside0.mk (HX.out.below (below_alloc (Below.refl _ _) (.cells #[] 22))); have HO : Aside0 (MxW (w2.alloc (.cells #[] 22)) w.heap.size (.slice (some ⟨w2.heap.size, 0, none⟩) 0 0) [] C.length) := ⟨World.ownsRow_made w2 #[] 0 HB.out.size (Nat.zero_le _) rfl⟩; have HV72 := Aside0.mk (Kd.R_alloc HV7.out (.cells #[] 22)); have HB2 := Aside0.mk (HB.out.alloc HB.out.size (.cells #[] 22)); clear HX HB HV7; have HX := HX2; have HB := HB2; have HV7 := HV72; clear HX2 HB2 HV72)
  refine hK.out _ _ ⟨HX.out.c0, HX.out.c1⟩ (fun hHeld => ?_)
  clear hK K
  refine nm_ ?_
  refine on_ 6 (some 21) 255 HT_ (fun K hK => ?_)
  refine ca_ Try.func104 #[.agg #[.int .i64 n, .slice A xs.length c], .int .i64 (d - 1)] ?_
  refine (QS.spec_l01Of.calls k n A c xs (d - 1) C _ (Kd.C_below HR.out HB.out) HC.out HCC.out).mono ?_; rintro e w4 ⟨v8, rfl, hv, hb⟩; have HV8 := Aside0.mk (Kd.R_lower hv HB.out.size); have HX2 := Aside0.mk (HX.out.below hb); have HV72 := Aside0.mk (Kd.R_below HV7.out hb); have HO2 := Aside0.mk (pw_own_below HO.out hb); have HB2 := Aside0.mk (below_in HB.out hb); clear HX HB HV7 HO hv hb; have HX := HX2; have HB := HB2; have HV7 := HV72; have HO := HO2; clear HX2 HB2 HV72 HO2
  refine ⟨_, rfl, ?_⟩
  refine hK.out _ _ ⟨HX.out.c0, HX.out.c1⟩ (fun hHeld => ?_)
  clear hK K
  refine nm_ ?_
  refine pd_ 8 7 511 HT_ ?_
  refine pd_ 9 8 1023 HT_ ?_
  refine pd_ 10 9 2047 HT_ ?_
  refine dn_ HT_ ?_
  rotate_left
  (refine value_ (by rfl) rfl (v := .slice (some ⟨(w.alloc (.cells #[.int .i64 n, .slice A xs.length c] 28)).drew.heap.size, 0, none⟩) 0 0) (w1 := (w.alloc (.cells #[.int .i64 n, .slice A xs.length c] 28)).drew.alloc (.cells #[] 22)) (by go_simp) ?_; have HX2 := Aside0.mk (HX.out.below (below_alloc (Below.refl _ _) (.cells #[] 22))); have HO : Aside0 (MxW ((w.alloc (.cells #[.int .i64 n, .slice A xs.length c] 28)).drew.alloc (.cells #[] 22)) w.heap.size (.slice (some ⟨(w.alloc (.cells #[.int .i64 n, .slice A xs.length c] 28)).drew.heap.size, 0, none⟩) 0 0) [] C.length) := ⟨World.ownsRow_made (w.alloc (.cells #[.int .i64 n, .slice A xs.length c] 28)).drew #[] 0 HB.out.size (Nat.zero_le _) rfl⟩; have HB2 := Aside0.mk (HB.out.alloc HB.out.size (.cells #[] 22)); clear HX HB ; have HX := HX2; have HB := HB2; clear HX2 HB2 )
  refine hK.out _ _ ⟨HX.out.c0, HX.out.c1⟩ (fun hHeld => ?_)
  clear hK K
  refine nm_ ?_
  refine on_ 2 (some 17) 191 HT_ (fun K hK => ?_)
  refine ca_ Try.func104 #[.agg #[.int .i64 n, .slice A xs.length c], .int .i64 d] ?_
  refine (QS.spec_l01Of.calls k n A c xs d F _ (Kd.C_below HR.out HB.out) HC.out HF.out).mono ?_; rintro e w2 ⟨v7, rfl, hv, hb⟩; have HV7 := Aside0.mk (Kd.R_lower hv HB.out.size); have HX2 := Aside0.mk (HX.out.below hb); have HO2 := Aside0.mk (pw_own_below HO.out hb); have HB2 := Aside0.mk (below_in HB.out hb); clear HX HB HO hv hb; have HX := HX2; have HB := HB2; have HO := HO2; clear HX2 HB2 HO2
  refine ⟨_, rfl, ?_⟩
  refine hK.out _ _ ⟨HX.out.c0, HX.out.c1⟩ (fun hHeld => ?_)
  clear hK K
  refine nm_ ?_
  refine on_ 6 (some 21) 255 HT_ (fun K hK => ?_)
  refine ca_ Try.func104 #[.agg #[.int .i64 n, .slice A xs.length c], .int .i64 (d - 1)] ?_
  refine (QS.spec_l01Of.calls k n A c xs (d - 1) C _ (Kd.C_below HR.out HB.out) HC.out HCC.out).mono ?_; rintro e w4 ⟨v8, rfl, hv, hb⟩; have HV8 := Aside0.mk (Kd.R_lower hv HB.out.size); have HX2 := Aside0.mk (HX.out.below hb); have HV72 := Aside0.mk (Kd.R_below HV7.out hb); have HO2 := Aside0.mk (pw_own_below HO.out hb); have HB2 := Aside0.mk (below_in HB.out hb); clear HX HB HV7 HO hv hb; have HX := HX2; have HB := HB2; have HV7 := HV72; have HO := HO2; clear HX2 HB2 HV72 HO2
  refine ⟨_, rfl, ?_⟩
  refine hK.out _ _ ⟨HX.out.c0, HX.out.c1⟩ (fun hHeld => ?_)
  clear hK K
  refine nm_ ?_
  refine pd_ 8 7 511 HT_ ?_
  refine pd_ 9 8 1023 HT_ ?_
  refine pd_ 10 9 2047 HT_ ?_
  refine dn_ HT_ ?_
  rotate_left
  all_goals
    obtain ⟨A7, c7, rfl⟩ := Kd.R_slice HV7.out
    obtain ⟨A8, c8, rfl⟩ := Kd.R_slice HV8.out
    obtain ⟨Y, h2⟩ := Two.of HV7.out HV8.out
    have H2 := Aside0.mk h2
    clear HV7 HV8 HX hHeld h2
    have hmk : ∀ W : World, (Instr.makeSlice 22 (.int .i64 (C.length : Int)) (.int .i64 (C.length : Int))).run Try.prog W = .ok (.slice (some ⟨W.heap.size, 0, none⟩) C.length C.length) (W.alloc (.cells (numV (List.replicate C.length 0)).toArray 2)) := fun W => by
      rw [← made_zero]
      exact print_make_of 22 2 (.int .i64 0) 8 Try.underlying22 info64 rfl (by decide) C.length (by omega) W
    go_wp2
    go_loopw [9, 10] (fun v9 s10 wr => ∃ (i : Nat) (bs : List Nat), i ≤ F.length ∧ s10 = .int .i64 i ∧ Aside0 (MxW wr w.heap.size v9 bs C.length) ∧ Aside0 (MxI wr w.heap.size bs C.length (matZ C (F.take i) P)) ∧ Aside0 (Two wr w.heap.size Y (.slice A7 F.length c7) F (.slice A8 C.length c8) C) ∧ Aside0 (Below w.heap.size w wr)) (fun _ s10 _ => F.length - (intOf s10).toNat)
    case atStart => exact ⟨0, [], by omega, rfl, (by first | exact HO | exact ⟨by have := HO.out; rw [show (w.alloc (.cells #[.int .i64 n, .slice A xs.length c] 28)).drew.heap.size = w.heap.size + 1 by simp] at this; exact this⟩), ⟨⟨rfl, List.nodup_nil, fun i h => absurd h (Nat.not_lt_zero _)⟩⟩, H2, HB⟩
    case round =>
      clear HO H2 HB
      obtain ⟨i, bs, hi, rfl, HO, HI, H2, HB⟩ := hrel
      have HBL : Aside0 (bs.length ≤ 1000) := ⟨by have := HI.out.1; unfold matZ at this; simp at this; omega⟩
      by_cases hlt : i < F.length
      · have hltz : (i : Int) < (F.length : Int) := by omega
        obtain ⟨af, rfl, hf0⟩ := Kd.at_int (Kd.R_reads' H2.out.1).2.2 i (by omega) (by omega)
        obtain ⟨f, hf⟩ : ∃ f, rd F i = f := ⟨_, rfl⟩
        rw [hf, show ((i : Int)).toNat = i by omega] at hf0
        have hfm : f ∈ F := by rw [← hf, rd_at' hlt]; exact List.getElem_mem hlt
        obtain ⟨hpf, Sg, hsf, hsl, hsg⟩ := HPP.out f hfm
        have hpl := HPL.out f hfm
        have hpl3 := HL3.out f hfm
        have HPF := Aside0.mk hpf
        have HSF := Aside0.mk hsf
        have HSG := Aside0.mk hsg
        have HPLF := Aside0.mk hpl
        have HFE : Aside0 (matZ C (F.take (i + 1)) P = matZ C (F.take i) P ++ [rowTo C (P f) (P f).length]) := ⟨by rw [List.take_succ_eq_append_getElem hlt, ← rd_at' hlt, hf]; unfold matZ; simp⟩
        have HS1 : Aside0 (MxI (wr.alloc (.cells (numV (List.replicate C.length 0)).toArray 2)).drew w.heap.size (bs ++ [wr.heap.size]) C.length (matZ C (F.take i) P ++ [List.replicate C.length 0])) := ⟨HI.out.snoc HB.out.size⟩
        have HO1 := Aside0.mk (show MxW (wr.alloc (.cells (numV (List.replicate C.length 0)).toArray 2)).drew w.heap.size _ bs C.length from pw_own_below HO.out (below_alloc (Below.refl wr.heap.size wr) (.cells (numV (List.replicate C.length 0)).toArray 2)).drew)
        have H21 : Aside0 (Two (wr.alloc (.cells (numV (List.replicate C.length 0)).toArray 2)).drew w.heap.size Y (.slice (some af) F.length c7) F (.slice A8 C.length c8) C) := ⟨H2.out.below (below_alloc (Below.refl wr.heap.size wr) (.cells (numV (List.replicate C.length 0)).toArray 2)).drew⟩
        have HB1 : Aside0 (Below w.heap.size w (wr.alloc (.cells (numV (List.replicate C.length 0)).toArray 2)).drew) := ⟨(HB.out.alloc HB.out.size (.cells (numV (List.replicate C.length 0)).toArray 2)).drew⟩
        have HYY : Aside0 (Y ≤ wr.heap.size) := ⟨H2.out.2.2⟩
        have HWW : Aside0 (w.heap.size ≤ wr.heap.size) := ⟨HB.out.size⟩
        have hf1 : (wr.alloc (.cells (numV (List.replicate C.length 0)).toArray 2)).drew.cell? (af.add i) = some (.int .i64 f) := pw_cell_below (below_alloc (Below.refl _ _) _) hf0
        clear HO HI H2 HB hpf hsf hsg hpl hf hfm hf0
        go_wp2
        refine st_ 12 (S := fun w' => w'.cell? (af.add i) = some (.int .i64 f)) (ds := []) hf1 (fun hHeld => ?_)
        refine with_tabW (T := (true, [([], []), ([], []), ([0, 1], [0, 1]), ([2], [2]), ([3], [3]), ([], []), ([], []), ([5, 6], [5, 6]), ([7], [7]), ([8, 4], [8]), ([4, 9, 0, 1, 2, 3, 4], [4]), ([9, 10, 0, 1, 2, 3, 4, 5, 6, 7, 8, 9, 10], [9])])) (B := [0, 0, 3, 7, 15, 0, 0, 96, 224, 511, 1023, 2047]) (by kernel_rfl) (by kernel_rfl) (fun HT_ HW_ => ?_)
        refine pd_ 0 32 1 HT_ ?_
        refine pd_ 1 33 3 HT_ ?_
        refine pd_ 2 34 7 HT_ ?_
        refine pd_ 5 37 39 HT_ ?_
        refine pd_ 6 38 103 HT_ ?_
        refine pd_ 7 39 231 HT_ ?_
        refine tk_ 3 35 239 HT_ HW_ hHeld ?_
        refine tk_ 8 40 495 HT_ HW_ hHeld ?_
        refine on_ 4 (some 36) 511 HT_ (fun K hK => ?_)
        refine ca_ Try.func101 #[.int .i64 f] ?_
        refine (QS.spec_l01Below.calls k f (P f) _ HPF.out).mono ?_; rintro e w2 ⟨vp, rfl, hv, hb⟩; have HVP := Aside0.mk (Kd.R_lower (Kd.R_mono (Kd.R_bound hv) (fun k hk => (show wr.heap.size + 1 ≤ k by have := hk.2.1; simpa using this))) (base' := w.heap.size) (HB1.out.size)); have HSZ : Aside0 (wr.heap.size + 1 ≤ w2.heap.size) := ⟨by have := hb.size; simpa using this⟩; have HS2 := Aside0.mk (HS1.out.below hb); have HO2 := Aside0.mk (pw_own_below HO1.out hb); have H22 := Aside0.mk (H21.out.below hb); have hf2 := pw_cell_below hb hf1; have HB2 := Aside0.mk (below_in HB1.out hb); clear HS1 HO1 H21 HB1 hf1; have HS1 := HS2; have HO1 := HO2; have H21 := H22; have HB1 := HB2; have hf1 := hf2; clear HS2 HO2 H22 HB2 hf2; clear hv hb
        refine ⟨_, rfl, ?_⟩
        refine hK.out _ _ hf1 (fun hHeld => ?_)
        clear hK K
        refine nm_ ?_
        refine on_ 9 (some 41) 1023 HT_ (fun K hK => ?_)
        refine ca_ Try.func183 #[.int .i64 f] ?_
        refine (QS.spec_l03Signs.calls k f Sg _ HSF.out).mono ?_; rintro e w3 ⟨vs, rfl, hv, hb⟩; have HVS := Aside0.mk (Kd.R_lower (Kd.R_mono (Kd.R_bound hv) (fun k hk => (Nat.le_trans HSZ.out hk.2.1))) (base' := w.heap.size) (HB1.out.size)); have HVP2 := Aside0.mk (Kd.R_below HVP.out hb); clear HVP; have HVP := HVP2; clear HVP2; have HS2 := Aside0.mk (HS1.out.below hb); have HO2 := Aside0.mk (pw_own_below HO1.out hb); have H22 := Aside0.mk (H21.out.below hb); have hf2 := pw_cell_below hb hf1; have HB2 := Aside0.mk (below_in HB1.out hb); clear HS1 HO1 H21 HB1 hf1; have HS1 := HS2; have HO1 := HO2; have H21 := H22; have HB1 := HB2; have hf1 := hf2; clear HS2 HO2 H22 HB2 hf2; clear hv hb
        refine ⟨_, rfl, ?_⟩
        refine hK.out _ _ hf1 (fun hHeld => ?_)
        clear hK K
        refine nm_ ?_
        refine pd_ 10 12 2047 HT_ ?_
        refine pd_ 11 13 4095 HT_ ?_
        refine dn_ HT_ ?_
        have hyy := HYY.out
        have hw0 := HWW.out
        obtain ⟨Ap, cp, rfl⟩ := Kd.R_slice HVP.out
        obtain ⟨As, cs, rfl⟩ := Kd.R_slice HVS.out
        have hz0 : List.replicate C.length (0 : Int) = rowTo C (P f) 0 := (rowTo_zero _ _).symm
        rw [hz0] at HS1
        clear hf1 hHeld hz0 HSZ HYY HWW
        generalize wr.heap.size = y0 at HS1 HVP HVS hyy hw0 ⊢
        have HYY := Aside0.mk hyy
        have HW0 : Aside0 (w.heap.size ≤ y0) := ⟨hw0⟩
        clear hw0
        clear hyy
        go_wp2
        go_loopw [14] (fun s14 wq => ∃ j : Nat, j ≤ (P f).length ∧ s14 = .int .i64 j ∧ Aside0 (MxI wq w.heap.size (bs ++ [y0]) C.length (matZ C (F.take i) P ++ [rowTo C (P f) j])) ∧ Aside0 (MxW wq w.heap.size u9 bs C.length) ∧ Aside0 (Two wq w.heap.size Y (.slice (some af) F.length c7) F (.slice A8 C.length c8) C) ∧ Aside0 (RI wq w.heap.size (fun k => y0 + 1 ≤ k) (.slice Ap (P f).length cp) (P f)) ∧ Aside0 (RI wq w.heap.size (fun k => y0 + 1 ≤ k) (.slice As Sg.length cs) Sg) ∧ Aside0 (Below w.heap.size w wq)) (fun s14 _ => (P f).length - (intOf s14).toNat)
        case atStart => exact ⟨0, by omega, rfl, HS1, HO1, H21, HVP, HVS, HB1⟩
        case round =>
          clear HS1 HO1 H21 HVP HVS HB1
          obtain ⟨j, hj, rfl, HS, HO, H2, HVP, HVS, HB⟩ := hrel
          by_cases hjl : j < (P f).length
          · have hjz : (j : Int) < ((P f).length : Int) := by omega
            have hjs : (j : Int) < (Sg.length : Int) := by omega
            obtain ⟨ap, rfl, hp0⟩ := Kd.at_int (Kd.R_reads' HVP.out).2.2 j (by omega) (by omega)
            obtain ⟨ag, rfl, hs0⟩ := Kd.at_int (Kd.R_reads' HVS.out).2.2 j (by omega) (by omega)
            obtain ⟨g, hg⟩ : ∃ g, rd (P f) j = g := ⟨_, rfl⟩
            obtain ⟨sg, hsg⟩ : ∃ sg, rd Sg j = sg := ⟨_, rfl⟩
            rw [hg, show ((j : Int)).toNat = j by omega] at hp0
            rw [hsg, show ((j : Int)).toNat = j by omega] at hs0
            have hgm : g ∈ P f := by rw [← hg, rd_at' hjl]; exact List.getElem_mem hjl
            have hsm : sg ∈ Sg := by rw [← hsg, rd_at' (by omega)]; exact List.getElem_mem (by omega)
            obtain ⟨q, hpk, hqC, hqe⟩ := HPLF.out g hgm
            obtain ⟨hm1, hm2, hm3⟩ := sign_mod (HSG.out sg hsm)
            have hge : (P f)[j] = g := by rw [← hg, rd_at' hjl]
            have HNX := Aside0.mk (rowTo_next HCN.out hjl hqC (hqe.trans hge.symm))
            have hqz : (q : Int) < (C.length : Int) := by omega
            have HPK := Aside0.mk hpk
            have hbd : Below wr.heap.size wr wr.drew := (Below.refl _ wr).drew
            have HSd := Aside0.mk (HS.out.below hbd); have HOd := Aside0.mk (pw_own_below HO.out hbd); have H2d := Aside0.mk (H2.out.below hbd); have HVPd := Aside0.mk (Kd.R_below HVP.out hbd); have HVSd := Aside0.mk (Kd.R_below HVS.out hbd); have HBd := Aside0.mk (below_in HB.out hbd)
            have hp1 : wr.drew.cell? (ap.add j) = some (.int .i64 g) := hp0
            have hs1 : wr.drew.cell? (ag.add j) = some (.int .i64 sg) := hs0
            clear hg hsg hgm hsm hqe hpk hge hbd HS HO H2 HVP HVS HB hp0 hs0
            go_wp2
            refine st_ 17 (S := fun w' => w'.cell? (ap.add j) = some (.int .i64 g) ∧ w'.cell? (ag.add j) = some (.int .i64 sg)) (ds := [16]) ⟨hp1, hs1⟩ (fun hHeld => ?_)
            refine with_tabW (T := (true, [([], []), ([], []), ([], []), ([], []), ([2, 3], [2, 3]), ([4], [4]), ([1, 5], [1, 5]), ([], []), ([], []), ([7, 8], [7, 8]), ([9], [9]), ([], []), ([10, 11], [10, 11]), ([], []), ([12, 13], [12, 13]), ([0, 6, 0, 1, 2, 3, 4, 5, 6, 7, 8, 9, 10, 11, 12, 13, 14], [0, 6]), ([15, 14, 6, 0, 1, 2, 3, 4, 5, 6, 7, 8, 9, 10, 11, 12, 13, 14], [14, 15])])) (B := [0, 0, 0, 0, 12, 28, 62, 0, 0, 384, 896, 0, 3968, 0, 16256, 32767, 65535]) (by kernel_rfl) (by kernel_rfl) (fun HT_ HW_ => ?_)
            refine pd_ 0 48 1 HT_ ?_
            refine pd_ 1 49 3 HT_ ?_
            refine pd_ 2 50 7 HT_ ?_
            refine pd_ 3 51 15 HT_ ?_
            refine pd_ 4 52 31 HT_ ?_
            refine pd_ 7 55 159 HT_ ?_
            refine pd_ 8 56 415 HT_ ?_
            refine pd_ 9 57 927 HT_ ?_
            refine pd_ 11 59 2975 HT_ ?_
            refine pd_ 13 61 11167 HT_ ?_
            refine tk_ 5 53 11199 HT_ HW_ hHeld ?_
            refine tk_ 10 58 12223 HT_ HW_ hHeld ?_
            refine pd_ 12 60 16319 HT_ ?_
            refine pd_ 14 62 32703 HT_ ?_
            refine on_ 6 (some 54) 32767 HT_ (fun K hK => ?_)
            refine ca_ Try.func184 #[.slice A8 C.length c8, .int .i64 g] ?_
            refine (QS.spec_l03Place.calls k A8 c8 C g (q : Int) _ (Kd.R_reads' H2d.out.2.1).2.2 (Kd.R_reads' H2d.out.2.1).2.1 HPK.out).mono ?_; rintro e w9 ⟨rfl, hdr⟩; have hb := hdr.below; have HS := Aside0.mk (HSd.out.below hb); have HO := Aside0.mk (pw_own_below HOd.out hb); have H2 := Aside0.mk (H2d.out.below hb); have HVP := Aside0.mk (Kd.R_below HVPd.out hb); have HVS := Aside0.mk (Kd.R_below HVSd.out hb); have HB := Aside0.mk (below_in HBd.out hb); have hp2 := pw_cell_below hb hp1; have hs2 := pw_cell_below hb hs1; clear HSd HOd H2d HVPd HVSd HBd hp1 hs1 hb hdr
            refine ⟨_, rfl, ?_⟩
            refine hK.out _ _ ⟨hp2, hs2⟩ (fun hHeld => ?_)
            clear hK K
            refine nm_ ?_
            refine pd_ 15 63 65535 HT_ ?_
            refine la_ 16 none 131071 HT_ (fun K hK => ?_)
            (obtain ⟨u, hu1, hu2, hu3⟩ := HS.out.rowLast hqC; rw [HNX.out] at hu3; have hblk := HS.out.block (i := bs.length) (by simp); rw [show (bs ++ [y0])[bs.length]'(by simp) = y0 by simp] at hblk; obtain ⟨cells, hblk⟩ := hblk; have HU3 := Aside0.mk hu3; have HOS := Aside0.mk (own_far HO.out (y := y0) (j := q) (MxW.ne HO.out hblk) (.int .i64 1)); have H2S := Aside0.mk (H2.out.far HYY.out q (.int .i64 1)); have HVPS := Aside0.mk (Kd.R_far HVP.out (p := ⟨y0, q, none⟩) (fun k hk => by have : y0 + 1 ≤ k := hk; show k ≠ y0; omega) (.int .i64 1)); have HVSS := Aside0.mk (Kd.R_far HVS.out (p := ⟨y0, q, none⟩) (fun k hk => by have : y0 + 1 ≤ k := hk; show k ≠ y0; omega) (.int .i64 1)); have HBS := Aside0.mk (HB.out.setCell (p := ⟨y0, q, none⟩) (HW0.out) (.int .i64 1)); clear hu3 hblk HS HO H2 HVP HVS HB hp2 hs2; refine skip_ (by rfl) rfl (w1 := w9.setCell ⟨y0, q, none⟩ (.int .i64 1)) (by go_simp) ?_)
            refine hK.out _ _ ?_
            clear hK K
            refine dn_ HT_ ?_
            go_wp2
            go_roundw
            case measure => simp [intOf]; omega
            case rel => exact ⟨j + 1, by omega, by go_num, HU3, HOS, H2S, HVPS, HVSS, HBS⟩
          · obtain rfl : j = (P f).length := by omega
            have hjz : ¬ ((P f).length : Int) < ((P f).length : Int) := by omega
            rw [← HFE.out] at HS
            go_wp2_with (at_builtin; refine print_append_of (rowV C.length) w.heap.size rfl (.tmp 64) (.tmp 66) 53 22 (.slice none 0 0) 24 rfl Try.underlying53 infoR rfl (by decide) _ bs y0 rfl rfl (rowV_one _ _) HO.out HB.out HB.out.size (by have := HBL.out; omega) ?_; intro v1 w9 ho hb hg hat; have HI9 := Aside0.mk (HS.out.grown HO.out hg); have H29 := Aside0.mk (H2.out.grown HO.out hg); have HO9 := Aside0.mk ho; have HB9 := Aside0.mk hb; clear ho hb hg hat)
            exact ⟨⟨i + 1, bs ++ [y0], by omega, by go_num, HO9, HI9, H29, HB9⟩, by simp [intOf]; omega⟩
      · obtain rfl : i = F.length := by omega
        have hltz : ¬ (F.length : Int) < (F.length : Int) := by omega
        rw [List.take_length] at HI
        go_wp2
        go_ret
        exact ⟨_, _, rfl, HO.out, HI.out, HB.out⟩
def firstR (p : Nat → Bool) (n : Nat) : Int := match (List.range n).find? p with
  | some i => (i : Int)
  | none => -1
theorem firstR_hit {p : Nat → Bool} {n k : Nat} (hk : k < n) (hp : p k = true) (hb : ∀ j, j < k → p j = false) : firstR p n = (k : Int) := by
  unfold firstR
  have h : (List.range n).find? p = some k := by
    rw [List.find?_range_eq_some]
    exact ⟨hp, List.mem_range.2 hk, fun j hj => by simpa using hb j hj⟩
  rw [h]
theorem firstR_miss {p : Nat → Bool} {n : Nat} (hb : ∀ j, j < n → p j = false) : firstR p n = -1 := by
  unfold firstR
  have h : (List.range n).find? p = none := List.find?_eq_none.2 (fun j hj => by simpa using hb j (List.mem_range.1 hj))
  rw [h]
set_option maxRecDepth 100000 in
set_option maxHeartbeats 1000000 in
theorem indexRows_c (A : Option Addr) (n c : Nat) (m : Nat) (ys : Nat → Nat) (g : FuncId) (fs lb : Array Value) (p : Nat → Bool) (w : World)
    (hr : ∀ W, Below w.heap.size w W → ∀ i, i < n → ∃ ad, A = some ad ∧ W.cell? (ad.add i) = some (.slice (some ⟨ys i, 0, none⟩) m m)) (eg : ∀ args w, (callFunc g args).run Try.prog w = .ok (.enter g args) w)
    (hcall : ∀ W i, Below w.heap.size w W → i < n → Calls Try.prog g (fs ++ #[.slice (some ⟨ys i, 0, none⟩) m m] ++ lb) W fun e w' => e = .returned (.bool (p i)) ∧ Below W.heap.size W w') (hl : n ≤ 1099511627776) :
    Calls Try.prog 160 #[.slice A n c, .func (.func g) fs lb] w fun e w' => e = .returned (.int .i64 (firstR p n)) ∧ Below w.heap.size w w' := by
  have HR := Aside0.mk hr
  have HC := Aside0.mk hcall
  clear hr hcall
  go_enter Try.func160, Try.ntmps160
  go_wp2
  go_loopw [5, 8] (fun _ i wr => ∃ k : Nat, k ≤ n ∧ i = .int .i64 k ∧ Aside0 (Below w.heap.size w wr) ∧ Aside0 (∀ j, j < k → p j = false)) (fun _ i _ => n - (intOf i).toNat)
  case atStart => exact ⟨0, by omega, rfl, ⟨Below.refl _ _⟩, ⟨fun j hj => absurd hj (Nat.not_lt_zero _)⟩⟩
  case round =>
    obtain ⟨k, hk, rfl, hB, hA⟩ := hrel
    by_cases hlt : k < n
    · have hltz : (k : Int) < (n : Int) := by omega
      obtain ⟨ad, rfl, h0⟩ := HR.out wr hB.out k hlt
      have HCY := Aside0.mk (HC.out wr k hB.out hlt)
      generalize ys k = y at h0 HCY
      cases hq : p k with
      | true =>
        rw [hq] at HCY
        have HQ := Aside0.mk hq
        clear hq
        go_wp2_with (go_at_fn g; refine HCY.out.mono ?_; rintro e w' ⟨rfl, hb⟩; have HB2 := Aside0.mk hb; clear hb)
        go_ret
        refine ⟨?_, below_in hB.out HB2.out⟩
        rw [firstR_hit hlt HQ.out hA.out]; rfl
      | false =>
        rw [hq] at HCY
        have HQ := Aside0.mk hq
        clear hq
        go_wp2_with (go_at_fn g; refine HCY.out.mono ?_; rintro e w' ⟨rfl, hb⟩; have HB2 := Aside0.mk hb; clear hb)
        go_roundw
        case measure => simp [intOf]; omega
        case rel =>
          refine ⟨k + 1, by omega, by go_num, ⟨below_in hB.out HB2.out⟩, ⟨fun j hj => ?_⟩⟩
          rcases Nat.lt_or_ge j k with h | h
          · exact hA.out j h
          · obtain rfl : j = k := by omega
            exact HQ.out
    · obtain rfl : k = n := by omega
      have hltz : ¬ (k : Int) < (k : Int) := by omega
      go_wp2
      go_ret
      exact ⟨by rw [firstR_miss hA.out]; rfl, hB.out⟩
set_option maxRecDepth 100000 in
theorem rank1_c (y m c : Nat) (v : Int) (bx : Nat) (w : World) (hb : w.cell? ⟨bx, 0, none⟩ = some (.int .i64 c)) (hc : c < m) (hv : w.cell? ⟨y, c, none⟩ = some (.int .i64 v)) :
    Calls Try.prog 161 #[.slice (some ⟨y, 0, none⟩) m m, .pointer (some ⟨bx, 0, none⟩)] w fun e w' => e = .returned (.bool (v != 0)) ∧ Below w.heap.size w w' := by
  have hcz : (c : Int) < (m : Int) := by omega
  go_enter Try.func161, Try.ntmps161
  go_wp2
  go_ret
  exact ⟨rfl, Below.refl _ _⟩
end Go.Proofs.Ytomdfjohnmikdaa.Im
namespace Go.Proofs.Ytomdfjohnmikdaa.QO
open Cw Kp Ext Go.RowKit YtomdfjohnmikdaaW.PrintWords YtomdfjohnmikdaaW.PrintLast YtomdfjohnmikdaaW.PrintMore
attribute [local go_sem] max2_int min2_int max_two min_two max_three min_three max_four min_four   -- for this text's walks alone
def errW : Option Int → Value
 | none => .nilIface
 | some c => .iface 0 (.int .i64 c)
theorem errW_none : errW none = .nilIface := rfl
theorem errW_some (c : Int) : errW (some c) = .iface 0 (.int .i64 c) := rfl
theorem info2 : (Try.prog.info? 2).map (fun i => (i.zero, i.size, i.bytes)) = some (some (.int .i64 0), 1, 8) := by kernel_rfl
open Go.Proofs.Ytomdfjohnmikdaa.QA (bits_OnesCount64.f)
open Go.Proofs.Ytomdfjohnmikdaa.QA (bits_OnesCount64.calls)
open Go.Proofs.Ytomdfjohnmikdaa.QA (impl_size.f)
open Go.Proofs.Ytomdfjohnmikdaa.QA (impl_size.calls)
def impl_dimension.f (a0 : Int) : Option (Int) := (impl_size.f a0).bind fun t102 => (some (wrap64 (t102 - 1)))
set_option maxHeartbeats 8000000 in
set_option maxRecDepth 100000 in
theorem impl_dimension.calls (a0 : Int) (r : Int) (w : World) (h : impl_dimension.f a0 = some r) :
  Calls Try.prog 107 #[.int .i64 a0] w fun e w' => e = .returned (.int .i64 r) ∧ Drawn0 w w' := by
 have H : ((impl_size.f a0).bind fun t102 => (some (wrap64 (t102 - 1)))) = some r := h
 clear h
 replace H := Option.bind_eq_some_iff.mp H
 obtain ⟨t102, A20, H⟩ := H
 try dsimp only at H
 have A2 := Aside0.mk A20
 clear A20
 obtain rfl := Option.some.inj H
 go_enter Try.func107, Try.ntmps107
 go_wp2_with (first | ((with_reducible refine gate_callee (f := 136) rfl ?_); refine cl_ (some 4) Try.func136 #[.int .i64 a0] ?_; (with_reducible refine (impl_size.calls a0 t102 _ A2.out).mono ?_); rintro e w' ⟨rfl, ⟨nd, rfl⟩⟩; refine ⟨_, rfl, ?_⟩))
 go_ret
 exact ⟨by first | rfl | (simp; done) | (simp [*]; done), by repeat (first | exact Drawn0.refl _ | apply Drawn0.step)⟩
def impl_Complex_of_1.f (a0 : Int) (a1_0 : Int) : Option (Bool) := (impl_dimension.f a0).bind fun t104 => (some (t104 != a1_0))
set_option maxHeartbeats 8000000 in
set_option maxRecDepth 100000 in
theorem impl_Complex_of_1.calls (a0 : Int) (g1 : Nat) (a1_0 : Int) (r : Bool) (w : World) (hb1 : w.heap[g1]? = some (.cells #[.int .i64 a1_0] 2 (0, 0))) (h : impl_Complex_of_1.f a0 a1_0 = some r) :
  Calls Try.prog 186 #[.int .i64 a0, .pointer (some ⟨g1, 0, none⟩)] w fun e w' => e = .returned (.bool r) ∧ Drawn0 w w' := by
 have BK103 := Aside0.mk hb1
 clear hb1
 have H : ((impl_dimension.f a0).bind fun t104 => (some (t104 != a1_0))) = some r := h
 clear h
 replace H := Option.bind_eq_some_iff.mp H
 obtain ⟨t104, A30, H⟩ := H
 try dsimp only at H
 have A3 := Aside0.mk A30
 clear A30
 obtain rfl := Option.some.inj H
 go_enter Try.func186, Try.ntmps186
 go_wp2_with (first | (go_at_call 107; (with_reducible refine (impl_dimension.calls a0 t104 _ A3.out).mono ?_); rintro e w' ⟨rfl, ⟨nd, rfl⟩⟩; (try first | exact ⟨rfl, _, World.drewN_drewN _ _ _⟩ | exact ⟨rfl, _, Eq.trans (World.drewN_drewN _ _ _) (congrArg (World.drewN _) (Nat.add_assoc _ _ _))⟩); have hcz4_0 : w.cell? ⟨g1, 0, none⟩ = some (.int .i64 a1_0) := cB BK103 0; have hfz4_0 := zB BK103 0))
 repeat (go_quiet (first | (go_at_call 107; (with_reducible refine (impl_dimension.calls a0 t104 _ A3.out).mono ?_); rintro e w' ⟨rfl, ⟨nd, rfl⟩⟩; (try first | exact ⟨rfl, _, World.drewN_drewN _ _ _⟩ | exact ⟨rfl, _, Eq.trans (World.drewN_drewN _ _ _) (congrArg (World.drewN _) (Nat.add_assoc _ _ _))⟩); have hcz4_0 : w.cell? ⟨g1, 0, none⟩ = some (.int .i64 a1_0) := cB BK103 0; have hfz4_0 := zB BK103 0)); try go_wp2_with (first | (go_at_call 107; (with_reducible refine (impl_dimension.calls a0 t104 _ A3.out).mono ?_); rintro e w' ⟨rfl, ⟨nd, rfl⟩⟩; (try first | exact ⟨rfl, _, World.drewN_drewN _ _ _⟩ | exact ⟨rfl, _, Eq.trans (World.drewN_drewN _ _ _) (congrArg (World.drewN _) (Nat.add_assoc _ _ _))⟩); have hcz4_0 : w.cell? ⟨g1, 0, none⟩ = some (.int .i64 a1_0) := cB BK103 0; have hfz4_0 := zB BK103 0)))
 go_ret
 exact ⟨by first | rfl | (simp; done) | (simp [*]; done), by repeat (first | exact Drawn0.refl _ | apply Drawn0.step)⟩
def clo_186 (a1_0 : Int) : Pred := Pred.ofI (fun x => impl_Complex_of_1.f x a1_0)
set_option maxRecDepth 100000 in
theorem clo_ok_186 {W : World} {g1 : Nat} {a1_0 : Int} (hb1 : W.heap[g1]? = some (.cells #[.int .i64 a1_0] 2 (0, 0)))  : FnOk (.func (.func 186) #[] #[.pointer (some ⟨g1, 0, none⟩)]) (clo_186 a1_0) W :=
 FnOk.ofI (enters_of Try.func186 (by kernel_rfl) rfl) (fun V x b hV hr => by
  show Calls Try.prog 186 #[.int .i64 x, .pointer (some ⟨g1, 0, none⟩)] V _
  exact (impl_Complex_of_1.calls x g1 a1_0 b V ((hV.block g1 (blk_lt hb1)).trans hb1) hr).mono (fun e w' h_ => ⟨h_.1, h_.2.below⟩))
def impl_Complex_of.f (a0_0 : Int) (l0_1 : List Int) (a1 : Int) : Option (List Int) := (slices_Clone_int64_int64.f l0_1).bind fun t107 => ((slices_DeleteFunc_int64_int64.f t107 (clo_186 a1)).bind fun t110 => (some t110))
set_option maxHeartbeats 8000000 in
set_option maxRecDepth 100000 in
theorem impl_Complex_of.calls (a0_0 : Int) (A0_1 : Option Addr) (c0_1 : Nat) (l0_1 : List Int) (a1 : Int) (r : List Int) (w : World) (hr0_1 : Kd.C (Kd.int .i64) w A0_1 l0_1.length l0_1) (hc0_1 : l0_1.length ≤ c0_1) (h : impl_Complex_of.f a0_0 l0_1 a1 = some r) :
  Calls Try.prog 157 #[.agg #[.int .i64 a0_0, .slice A0_1 l0_1.length c0_1], .int .i64 a1] w fun e w' => ∃ v0_ : Value, e = .returned (v0_) ∧ Kd.R (Kd.int .i64) 2 w' w.heap.size (fun _ => True) v0_ r ∧ Below w.heap.size w w' := by
 have hu28 := Try.underlying28
 have HR0_1 := Aside0.mk hr0_1
 have HC0_1 := Aside0.mk hc0_1
 clear hr0_1 hc0_1
 have HB := Aside0.mk (Below.refl w.heap.size w)
 have H : ((slices_Clone_int64_int64.f l0_1).bind fun t107 => ((slices_DeleteFunc_int64_int64.f t107 (clo_186 a1)).bind fun t110 => (some t110))) = some r := h
 clear h
 replace H := Option.bind_eq_some_iff.mp H
 obtain ⟨t107, A30, H⟩ := H
 try dsimp only at H
 have A3 := Aside0.mk A30
 clear A30
 replace H := Option.bind_eq_some_iff.mp H
 obtain ⟨t110, A40, H⟩ := H
 try dsimp only at H
 have A4 := Aside0.mk A40
 clear A40
 obtain rfl := Option.some.inj H
 go_enter Try.func157, Try.ntmps157
 go_wp2_with (first | ((with_reducible refine gate_dst (N := 2) rfl ?_); refine box_event ?hg (N := 2) ?hd (cs := #[.int .i64 a0_0, .slice A0_1 l0_1.length c0_1]) (t := 28) ?hr ?_; (case hd => rfl); (case hg => rfl); (case hr => first | (go_simp; done) | (go_simp; rfl)); intro gb105 hg w5 hbox hb; have BK105 := Aside0.mk (hbox); have GW105 := gH HB hg; have GE105 := gH HB hg; replace HB := sH HB hb; clear hb hbox hg) | ((with_reducible refine gate_dst (N := 3) rfl ?_); refine box_event ?hg (N := 3) ?hd (cs := #[.int .i64 a1]) (t := 2) ?hr ?_; (case hd => rfl); (case hg => rfl); (case hr => first | (go_simp; done) | (go_simp; rfl)); intro gb106 hg w6 hbox hb; have BK106 := Aside0.mk (hbox); have GW106 := gH HB hg; have GE106 := gH HB hg; replace HB := sH HB hb; have NB105_106 := nB BK105 hg; have NB106_105 := oB BK105 hg; replace BK105 := sB BK105 hb; clear hb hbox hg; (try have hnb7 := NB105_106.out); (try have hnc7 := NB106_105.out); have hcz8_0 : w6.cell? ⟨gb105, 0, none⟩ = some (.int .i64 a0_0) := cB BK105 0; have hcz8_1 : w6.cell? ⟨gb105, 1, none⟩ = some (.slice A0_1 l0_1.length c0_1) := cB BK105 1; have hfz8_0 := zB BK105 0; have hfz8_1 := zB BK105 1) | ((with_reducible refine gate_callee (f := 122) rfl ?_); refine cl_ (some 7) Try.func122 #[.slice A0_1 l0_1.length c0_1] ?_; (with_reducible refine (slices_Clone_int64_int64.calls _ _ l0_1 t107 _ ?side1 ?side2 A3.out).mono ?_); (case side1 => exact pC ((Kd.C_below HR0_1.out HB.out))); (case side2 => exact HC0_1.out); rintro e w9 ⟨v108, rfl, ho0, hb⟩; refine ⟨_, rfl, ?_⟩; have HO109 := Aside0.mk (Kd.R_lower (Kd.R_newB ho0 (g := gb106) (o := .cells #[.int .i64 a1] 2 (0, 0)) (pB BK106)) (below_size (pH HB))); replace BK105 := sB BK105 hb; replace BK106 := sB BK106 hb; replace HB := sH HB hb; (try clear hb); (try clear hi); (try clear ho0); obtain ⟨Ao10, co10, eo10⟩ := Kd.R_slice HO109.out; subst eo10) | ((with_reducible refine gate_callee (f := 121) rfl ?_); refine cl_ (some 9) Try.func121 #[.slice Ao10 t107.length co10, .func (.func 186) #[] #[.pointer (some ⟨gb106, 0, none⟩)]] ?_; (with_reducible refine (slices_DeleteFunc_int64_int64.calls (fun k_ => some k_ = (.slice Ao10 t107.length co10 : Value).ownBlock) (.slice Ao10 t107.length co10) t107 _ (clo_186 a1) t110 w _ ?side1 ?side2 ?side3 A4.out).mono ?_); (case side1 => repeat (first | (with_reducible first | exact HB.out | apply below_alloc | apply pw_below_drewN | apply below_drew1 | refine below_set ?_ GE105.out | refine below_set ?_ GE106.out) | exact HB.out)); (case side2 => exact Kd.R_tight rfl HO109.out); (case side3 => intro W_ hK_; exact clo_ok_186 (blk_kept (pB BK106) hK_ (fun hs_ => (fun e_ => (Kd.R_away HO109.out (fun _ hk => hk.2)) e_) hs_)) ); rintro e w11 ⟨v111, rfl, ho0, hb, hkp⟩; refine ⟨_, rfl, ?_⟩; have n0_ := Aside0.mk (blk_kept (pB BK105) hkp (fun hs_ => (fun e_ => (Kd.R_ne HO109.out BK105.out (by decide)) e_) hs_)); have n1_ := Aside0.mk (blk_kept (pB BK106) hkp (fun hs_ => (fun e_ => (Kd.R_away HO109.out (fun _ hk => hk.2)) e_) hs_)); have n2_ := Aside0.mk (Kd.R_mono (ok' := fun k_ => k_ ≠ gb106) ho0 (fun k_ hk_ => Or.elim hk_ (fun hs_ => fun e_ => (Kd.R_away HO109.out (fun _ hk => hk.2)) (by rw [← e_]; exact hs_)) (fun hn_ => (Kd.freshB (g := gb106) (o := .cells #[.int .i64 a1] 2 (0, 0)) (pB BK106) k_ hn_)))); have n3_ := Aside0.mk (hb); clear BK105; clear BK106; clear HB; clear HO109; have BK105 := n0_; have BK106 := n1_; have HO112 := n2_; have HB := n3_; clear n0_ n1_ n2_ n3_; (try clear hb); (try clear hkp); (try clear ho0)))
 go_ret
 exact ⟨_, by first | rfl | (simp [errW_none, errW_some] <;> rfl) | (simp [*, errW_none, errW_some] <;> rfl) | (exfalso; simp_all), by (with_reducible repeat (first | apply Kd.R_alloc | apply Kd.R_drewN | apply Kd.R_drew)); exact Kd.R_mono HO112.out (fun _ hk => trivial), pH HB⟩
def impl_signs.l0 : Nat → Int → List Int → Int → Int → Option (List Int)
 | 0, _, _, _, _ => none
 | k + 1, x0, x3, x7, x8 => if x8 < x7 then ((impl_size.f x0).bind fun t116 => (if x3.length < 17592186044416 then (impl_signs.l0 k x0 (x3 ++ [wrap64 (1 - (wrap64 (2 * (Int.tmod (wrap64 ((wrap64 (t116 - 1)) - x8)) 2))))]) x7 (wrap64 (x8 + 1))) else (none))) else (some x3)
def impl_signs.f (k : Nat) (a0 : Int) : Option (List Int) := (impl_borders.f a0).bind fun t113 => (impl_signs.l0 k a0 ([] : List Int) (t113.length : Int) 0)
theorem impl_signs.mono_l : ∀ k, (∀ y0 y1 y2 y3, LeO (impl_signs.l0 k y0 y1 y2 y3) (impl_signs.l0 (k + 1) y0 y1 y2 y3))
 | 0 => fun _ _ _ _ r h => by simp [impl_signs.l0] at h
 | k + 1 => by
  have ih0 := impl_signs.mono_l k
  ·intro y0 y1 y2 y3
   unfold impl_signs.l0
   repeat' first
   | (with_reducible exact ih0 _ _ _ _)
   | (with_reducible exact LeO.refl _)
   | (with_reducible exact LeO.none _)
   | (with_reducible refine LeO.ite ?_ ?_)
   | (with_reducible refine LeO.bind ?_ (fun _ => ?_))
   | exact ih0 _ _ _ _
   | exact LeO.none _
   | refine LeO.ite ?_ ?_
   | refine LeO.bind ?_ (fun _ => ?_)
theorem impl_signs.mono : ∀ a0 k, LeO (impl_signs.f k a0) (impl_signs.f (k + 1) a0) := by
 intro a0 k
 have ih0 := impl_signs.mono_l k
 unfold impl_signs.f
 repeat' first
   | (with_reducible exact ih0 _ _ _ _)
   | (with_reducible exact LeO.refl _)
   | (with_reducible exact LeO.none _)
   | (with_reducible refine LeO.ite ?_ ?_)
   | (with_reducible refine LeO.bind ?_ (fun _ => ?_))
   | exact ih0 _ _ _ _
   | exact LeO.none _
   | refine LeO.ite ?_ ?_
   | refine LeO.bind ?_ (fun _ => ?_)
set_option maxHeartbeats 8000000 in
set_option maxRecDepth 100000 in
theorem impl_signs.calls (k : Nat) (a0 : Int) (r : List Int) (w : World) (h : impl_signs.f k a0 = some r) :
  Calls Try.prog 159 #[.int .i64 a0] w fun e w' => ∃ v0_ : Value, e = .returned (v0_) ∧ Kd.R (Kd.int .i64) 2 w' w.heap.size (fun _ => True) v0_ r ∧ Below w.heap.size w w' := by
 have HB := Aside0.mk (Below.refl w.heap.size w)
 have H : ((impl_borders.f a0).bind fun t113 => (impl_signs.l0 k a0 ([] : List Int) (t113.length : Int) 0)) = some r := h
 clear h
 replace H := Option.bind_eq_some_iff.mp H
 obtain ⟨t113, A20, H⟩ := H
 try dsimp only at H
 have A2 := Aside0.mk A20
 clear A20
 have H' := Aside0.mk H
 clear H
 go_enter Try.func159, Try.ntmps159
 go_wp2_with (first | ((with_reducible refine gate_callee (f := 155) rfl ?_); refine cl_ (some 6) Try.func155 #[.int .i64 a0] ?_; (with_reducible refine (impl_borders.calls a0 t113 _ A2.out).mono ?_); rintro e w3 ⟨v114, rfl, ho0, hb⟩; refine ⟨_, rfl, ?_⟩; have HO115 := Aside0.mk (Kd.R_lower ho0 (below_size (pH HB))); replace HB := sH HB hb; (try clear hb); (try clear hi); (try clear ho0); obtain ⟨Ao4, co4, eo4⟩ := Kd.R_slice HO115.out; subst eo4))
 go_loopg [3, 8] k (fun kq v3 v8 w' => ∃ (x3_1 : List Int) (x8_1 : Int), v8 = .int .i64 x8_1 ∧ Aside0 (impl_signs.l0 kq a0 x3_1 (t113.length : Int) x8_1 = some r) ∧ Aside0 (kq ≤ k) ∧ Aside0 (Kd.R (Kd.int .i64) 2 w' w.heap.size (fun _ => True) v3 x3_1) ∧ Aside0 (Below w.heap.size w w'))
 case atStart => exact ⟨(([] : List Int)), (0), (by first | rfl | (simp; done) | (simp [*]; done)), H', ⟨Nat.le_refl _⟩, ⟨by first | exact Kd.R_nil _ _ _ _ _ | exact Kd.N_nil _ _ _ _ _ | exact Kd.V_nil _ _ _ _ _ | exact Kd.Q_nil _ _ _ _ _ | exact Kd.S_nil _ _ _ _ _⟩, ⟨pH HB⟩⟩
 case round =>
  clear H'
  try clear c1
  try clear p2
  obtain ⟨x3_1, x8_1, rfl, HA, HK1, HO_3, HB⟩ := hrel
  cases gk with
  | zero => exact absurd HA.out (by simp [impl_signs.l0])
  | succ k1 =>
   have H := HA.out
   clear HA
   simp only [impl_signs.l0] at H
   by_cases c5 : x8_1 < (t113.length : Int)
   ·rw [if_pos c5] at H
    have c5b0 : decide (x8_1 < (t113.length : Int)) = true := decide_eq_true c5
    clear c5
    replace H := Option.bind_eq_some_iff.mp H
    obtain ⟨t116, A60, H⟩ := H
    try dsimp only at H
    have A6 := Aside0.mk A60
    clear A60
    by_cases c7 : x3_1.length < 17592186044416
    ·rw [if_pos c7] at H
     have LMc7 := Aside0.mk c7
     clear c7
     obtain ⟨y117, hy117⟩ : ∃ y_ : List Int, y_ = (x3_1 ++ [wrap64 (1 - (wrap64 (2 * (Int.tmod (wrap64 ((wrap64 (t116 - 1)) - x8_1)) 2))))]) := ⟨_, rfl⟩
     replace H : (impl_signs.l0 k1 a0 y117 (t113.length : Int) (wrap64 (x8_1 + 1))) = some r := by first | (rw [hy117]; with_reducible exact H) | (have H2_ := (Option.bind_some _ _).symm.trans H; rw [hy117]; with_reducible exact H2_) | (have H2_ := (Option.bind_some _ _).symm.trans H; with_reducible exact H2_) | with_reducible exact H | (rw [hy117]; exact H) | exact H
     have Ny117 := Aside0.mk hy117
     clear hy117
     have H' := Aside0.mk H
     clear H
     go_wp2_with (first | ((with_reducible refine gate_callee (f := 136) rfl ?_); refine cl_ (some 13) Try.func136 #[.int .i64 a0] ?_; (with_reducible refine (impl_size.calls a0 t116 _ A6.out).mono ?_); rintro e w' ⟨rfl, ⟨nd, rfl⟩⟩; refine ⟨_, rfl, ?_⟩) | ((with_reducible refine gate_builtin (b := .append) (xs := #[.tmp 11, .tmp 20]) rfl ?_); at_builtin; refine Kd.R_append (Kd.int .i64) (w0 := w) w.heap.size rfl (.tmp 11) (.tmp 20) 22 2 (.int .i64 0) 8 rfl Try.underlying22 info2 rfl (by decide) (by omega) u3 x3_1 (wrap64 (1 - (wrap64 (2 * (Int.tmod (wrap64 ((wrap64 (t116 - 1)) - x8_1)) 2))))) [.int .i64 (wrap64 (1 - (wrap64 (2 * (Int.tmod (wrap64 ((wrap64 (t116 - 1)) - x8_1)) 2)))))] (fun _ => True) (fun _ => False) rfl rfl ?aP (fun _ hk => hk.elim) ?aF ?aO ?aB ?aS ?aL ?_; (case aP => exact rfl); (case aB => exact (pH HB)); (case aF => exact (fun _ _ => trivial)); (case aO => exact (pR HO_3)); (case aS => exact (below_size (pH HB))); (case aL => have := LMc7.out; omega); intro v118 w8 ho hb hg hat; rw [← Ny117.out] at ho; replace HB := Aside0.mk (hb); have HO119 := Aside0.mk (ho); clear HO_3; clear ho hb hg hat))
     go_roundg k1
     case measure => have := HK1.out; omega
     case rel => exact ⟨(y117), (wrap64 (x8_1 + 1)), (by first | rfl | (simp; done) | (simp [*]; done)), H', ⟨by have := HK1.out; omega⟩, ⟨by (with_reducible repeat (first | apply Kd.R_alloc | apply Kd.R_drewN | apply Kd.R_drew)); exact HO119.out⟩, ⟨pH HB⟩⟩
    ·rw [if_neg c7] at H
     exact absurd H (by simp)
   ·rw [if_neg c5] at H
    have c5b0 : decide (x8_1 < (t113.length : Int)) = false := decide_eq_false c5
    clear c5
    obtain rfl := Option.some.inj H
    go_wp2
    go_ret
    exact ⟨_, by first | rfl | (simp [errW_none, errW_some] <;> rfl) | (simp [*, errW_none, errW_some] <;> rfl) | (exfalso; simp_all), by (with_reducible repeat (first | apply Kd.R_alloc | apply Kd.R_drewN | apply Kd.R_drew)); exact HO_3.out, pH HB⟩
def cmp_isNaN_int64.f (a0 : Int) : Option (Bool) := some (a0 != a0)
set_option maxHeartbeats 8000000 in
set_option maxRecDepth 100000 in
theorem cmp_isNaN_int64.calls (a0 : Int) (r : Bool) (w : World) (h : cmp_isNaN_int64.f a0 = some r) :
  Calls Try.prog 199 #[.int .i64 a0] w fun e w' => e = .returned (.bool r) ∧ Drawn0 w w' := by
 have H : (some (a0 != a0)) = some r := h
 clear h
 obtain rfl := Option.some.inj H
 go_enter Try.func199, Try.ntmps199
 go_wp2
 go_ret
 exact ⟨by first | rfl | (simp; done) | (simp [*]; done), by repeat (first | exact Drawn0.refl _ | apply Drawn0.step)⟩
def cmp_Less_int64.f (a0 : Int) (a1 : Int) : Option (Bool) := (cmp_isNaN_int64.f a0).bind fun t120 => (if t120 = true then ((cmp_isNaN_int64.f a1).bind fun t121 => (if t121 = true then (some (decide (a0 < a1))) else (some true))) else (some (decide (a0 < a1))))
set_option maxHeartbeats 8000000 in
set_option maxRecDepth 100000 in
theorem cmp_Less_int64.calls (a0 : Int) (a1 : Int) (r : Bool) (w : World) (h : cmp_Less_int64.f a0 a1 = some r) :
  Calls Try.prog 187 #[.int .i64 a0, .int .i64 a1] w fun e w' => e = .returned (.bool r) ∧ Drawn0 w w' := by
 have H : ((cmp_isNaN_int64.f a0).bind fun t120 => (if t120 = true then ((cmp_isNaN_int64.f a1).bind fun t121 => (if t121 = true then (some (decide (a0 < a1))) else (some true))) else (some (decide (a0 < a1))))) = some r := h
 clear h
 replace H := Option.bind_eq_some_iff.mp H
 obtain ⟨t120, A30, H⟩ := H
 try dsimp only at H
 have A3 := Aside0.mk A30
 clear A30
 by_cases c4 : t120 = true
 ·subst c4
  have H1 : ((cmp_isNaN_int64.f a1).bind fun t121 => (if t121 = true then (some (decide (a0 < a1))) else (some true))) = some r := by rw [if_pos rfl] at H; exact H
  clear H
  have H := H1
  clear H1
  replace H := Option.bind_eq_some_iff.mp H
  obtain ⟨t121, A50, H⟩ := H
  try dsimp only at H
  have A5 := Aside0.mk A50
  clear A50
  by_cases c6 : t121 = true
  ·subst c6
   have H1 : (some (decide (a0 < a1))) = some r := by rw [if_pos rfl] at H; exact H
   clear H
   have H := H1
   clear H1
   obtain rfl := Option.some.inj H
   go_enter Try.func187, Try.ntmps187
   go_wp2_with (first | ((with_reducible refine gate_callee (f := 199) rfl ?_); refine cl_ (some 6) Try.func199 #[.int .i64 a0] ?_; (with_reducible refine (cmp_isNaN_int64.calls a0 true _ A3.out).mono ?_); rintro e w' ⟨rfl, ⟨nd, rfl⟩⟩; refine ⟨_, rfl, ?_⟩) | (go_at_call 199; (with_reducible refine (cmp_isNaN_int64.calls a1 true _ A5.out).mono ?_); rintro e w' ⟨rfl, ⟨nd, rfl⟩⟩))
   go_ret
   exact ⟨by first | rfl | (simp; done) | (simp [*]; done), by repeat (first | exact Drawn0.refl _ | apply Drawn0.step)⟩
  ·replace c6 := Bool.eq_false_iff.mpr c6
   subst c6
   have H1 : (some true) = some r := by rw [if_neg (show ¬ (false = true) by decide)] at H; exact H
   clear H
   have H := H1
   clear H1
   obtain rfl := Option.some.inj H
   go_enter Try.func187, Try.ntmps187
   go_wp2_with (first | ((with_reducible refine gate_callee (f := 199) rfl ?_); refine cl_ (some 6) Try.func199 #[.int .i64 a0] ?_; (with_reducible refine (cmp_isNaN_int64.calls a0 true _ A3.out).mono ?_); rintro e w' ⟨rfl, ⟨nd, rfl⟩⟩; refine ⟨_, rfl, ?_⟩) | (go_at_call 199; (with_reducible refine (cmp_isNaN_int64.calls a1 false _ A5.out).mono ?_); rintro e w' ⟨rfl, ⟨nd, rfl⟩⟩))
   go_ret
   exact ⟨by first | rfl | (simp; done) | (simp [*]; done), by repeat (first | exact Drawn0.refl _ | apply Drawn0.step)⟩
 ·replace c4 := Bool.eq_false_iff.mpr c4
  subst c4
  have H1 : (some (decide (a0 < a1))) = some r := by rw [if_neg (show ¬ (false = true) by decide)] at H; exact H
  clear H
  have H := H1
  clear H1
  obtain rfl := Option.some.inj H
  go_enter Try.func187, Try.ntmps187
  go_wp2_with (first | ((with_reducible refine gate_callee (f := 199) rfl ?_); refine cl_ (some 6) Try.func199 #[.int .i64 a0] ?_; (with_reducible refine (cmp_isNaN_int64.calls a0 false _ A3.out).mono ?_); rintro e w' ⟨rfl, ⟨nd, rfl⟩⟩; refine ⟨_, rfl, ?_⟩))
  go_ret
  exact ⟨by first | rfl | (simp; done) | (simp [*]; done), by repeat (first | exact Drawn0.refl _ | apply Drawn0.step)⟩
def slices_isNaN_int64.f (a0 : Int) : Option (Bool) := some (a0 != a0)
set_option maxHeartbeats 8000000 in
set_option maxRecDepth 100000 in
theorem slices_isNaN_int64.calls (a0 : Int) (r : Bool) (w : World) (h : slices_isNaN_int64.f a0 = some r) :
  Calls Try.prog 188 #[.int .i64 a0] w fun e w' => e = .returned (.bool r) ∧ Drawn0 w w' := by
 have H : (some (a0 != a0)) = some r := h
 clear h
 obtain rfl := Option.some.inj H
 go_enter Try.func188, Try.ntmps188
 go_wp2
 go_ret
 exact ⟨by first | rfl | (simp; done) | (simp [*]; done), by repeat (first | exact Drawn0.refl _ | apply Drawn0.step)⟩
def slices_BinarySearch_int64_int64.l0 : Nat → List Int → Int → Int → Int → Int → Option (Int × Bool)
 | 0, _, _, _, _, _ => none
 | k + 1, x0, x1, x6, x7, x8 => if x7 < x8 then (if 0 ≤ (wrap64 ((IntKind.u64.wrap (wrap64 (x7 + x8))) / 2)) then (if (wrap64 ((IntKind.u64.wrap (wrap64 (x7 + x8))) / 2)) < (x0.length : Int) then ((cmp_Less_int64.f (rd x0 (wrap64 ((IntKind.u64.wrap (wrap64 (x7 + x8))) / 2))) x1).bind fun t123 => (if t123 = true then (slices_BinarySearch_int64_int64.l0 k x0 x1 x6 (wrap64 ((wrap64 ((IntKind.u64.wrap (wrap64 (x7 + x8))) / 2)) + 1)) x8) else (slices_BinarySearch_int64_int64.l0 k x0 x1 x6 x7 (wrap64 ((IntKind.u64.wrap (wrap64 (x7 + x8))) / 2))))) else (none)) else (none)) else (if x7 < x6 then (if 0 ≤ x7 then (if x7 < (x0.length : Int) then (if (rd x0 x7) = x1 then (some (x7, true)) else ((slices_isNaN_int64.f (rd x0 x7)).bind fun t126 => (if t126 = true then ((slices_isNaN_int64.f x1).bind fun t127 => (some (x7, t127))) else (some (x7, false))))) else (none)) else (none)) else (some (x7, false)))
def slices_BinarySearch_int64_int64.f (k : Nat) (l0 : List Int) (a1 : Int) : Option (Int × Bool) := slices_BinarySearch_int64_int64.l0 k l0 a1 (l0.length : Int) 0 (l0.length : Int)
set_option maxHeartbeats 8000000 in
set_option maxRecDepth 100000 in
theorem slices_BinarySearch_int64_int64.calls (k : Nat) (A0 : Option Addr) (c0 : Nat) (l0 : List Int) (a1 : Int) (r1 : Int) (r2 : Bool) (w : World) (hr0 : Kd.C (Kd.int .i64) w A0 l0.length l0) (hc0 : l0.length ≤ c0) (h : slices_BinarySearch_int64_int64.f k l0 a1 = some (r1, r2)) :
  Calls Try.prog 158 #[.slice A0 l0.length c0, .int .i64 a1] w fun e w' => e = .returned (.tuple #[.int .i64 r1, .bool r2]) ∧ Drawn0 w w' := by
 have HR0 := Aside0.mk hr0
 have HC0 := Aside0.mk hc0
 clear hr0 hc0
 have H : (slices_BinarySearch_int64_int64.l0 k l0 a1 (l0.length : Int) 0 (l0.length : Int)) = some (r1, r2) := h
 clear h
 have H' := Aside0.mk H
 clear H
 go_enter Try.func158, Try.ntmps158
 go_wp2
 go_loopg [7, 8] k (fun kq v7 v8 w' => ∃ (x7_1 : Int) (x8_1 : Int), v7 = .int .i64 x7_1 ∧ v8 = .int .i64 x8_1 ∧ Aside0 (slices_BinarySearch_int64_int64.l0 kq l0 a1 (l0.length : Int) x7_1 x8_1 = some (r1, r2)) ∧ Aside0 (kq ≤ k) ∧ Drawn0 w w')
 case atStart => exact ⟨(0), ((l0.length : Int)), (by first | rfl | (simp; done) | (simp [*]; done)), (by first | rfl | (simp; done) | (simp [*]; done)), H', ⟨Nat.le_refl _⟩, by repeat (first | exact Drawn0.refl _ | apply Drawn0.step)⟩
 case round =>
  clear H'
  try clear c1
  try clear p2
  obtain ⟨x7_1, x8_1, rfl, rfl, HA, HK1, ⟨m1, rfl⟩⟩ := hrel
  cases gk with
  | zero => exact absurd HA.out (by simp [slices_BinarySearch_int64_int64.l0])
  | succ k1 =>
   have H := HA.out
   clear HA
   simp only [slices_BinarySearch_int64_int64.l0] at H
   by_cases c3 : x7_1 < x8_1
   ·rw [if_pos c3] at H
    have c3b0 : decide (x7_1 < x8_1) = true := decide_eq_true c3
    clear c3
    obtain ⟨ji4, hji4⟩ : ∃ j_ : Int, (wrap64 ((IntKind.u64.wrap (wrap64 (x7_1 + x8_1))) / 2)) = j_ := ⟨_, rfl⟩
    replace H : (if 0 ≤ (ji4) then (if (ji4) < (l0.length : Int) then ((cmp_Less_int64.f (rd l0 (ji4)) a1).bind fun t123 => (if t123 = true then (slices_BinarySearch_int64_int64.l0 k1 l0 a1 (l0.length : Int) (wrap64 ((ji4) + 1)) x8_1) else (slices_BinarySearch_int64_int64.l0 k1 l0 a1 (l0.length : Int) x7_1 ji4))) else (none)) else (none)) = some (r1, r2) := by first | (rw [hji4] at H; exact H) | (simp only [hji4] at H ⊢; exact H)
    have hji4w : (IntKind.i64.wrap ((IntKind.u64.wrap (wrap64 (x7_1 + x8_1))) / 2)) = ji4 := (i64_w _).trans hji4
    by_cases c5 : 0 ≤ (ji4)
    ·rw [if_pos c5] at H
     have c5b0 : decide (0 ≤ (ji4)) = true := decide_eq_true c5
     clear c5
     by_cases c6 : (ji4) < (l0.length : Int)
     ·rw [if_pos c6] at H
      have c6b0 : decide ((ji4) < (l0.length : Int)) = true := decide_eq_true c6
      clear c6
      replace H := Option.bind_eq_some_iff.mp H
      obtain ⟨t123, A70, H⟩ := H
      try dsimp only at H
      have A7 := Aside0.mk A70
      clear A70
      by_cases c8 : t123 = true
      ·subst c8
       have H1 : (slices_BinarySearch_int64_int64.l0 k1 l0 a1 (l0.length : Int) (wrap64 ((ji4) + 1)) x8_1) = some (r1, r2) := by rw [if_pos rfl] at H; exact H
       clear H
       have H := H1
       clear H1
       have H' := Aside0.mk H
       clear H
       have p122 : 0 ≤ ((ji4) : Int) := of_decide_eq_true (by first | (with_reducible assumption) | assumption)
       have q122 : (ji4) < (l0.length : Int) := of_decide_eq_true (by first | (with_reducible assumption) | assumption)
       obtain ⟨ad122, e122, hx122_0⟩ := Kd.at_int HR0.out (ji4) p122 q122
       cases e122
       replace p122 := eq_true p122
       replace q122 := eq_true q122
       go_wp2_with (first | ((with_reducible refine gate_callee (f := 187) rfl ?_); refine cl_ (some 27) Try.func187 #[.int .i64 (rd l0 (ji4)), .int .i64 a1] (hargs := by (try simp only [List.map_toArray, List.map_cons, List.map_nil]); first | done | (simp only [hji4]; rfl) | rfl | (simp only [List.length_drop, List.length_take]; rfl)) ?_; (with_reducible refine (cmp_Less_int64.calls (rd l0 (ji4)) a1 true _ A7.out).mono ?_); rintro e w' ⟨rfl, ⟨nd, rfl⟩⟩; refine ⟨_, rfl, ?_⟩))
       go_roundg k1
       case measure => have := HK1.out; omega
       case rel => exact ⟨(wrap64 ((ji4) + 1)), (x8_1), (by first | rfl | (simp; done) | (simp only [← hji4] <;> (first | rfl | simp)) | (simp [*]; done)), (by first | rfl | (simp; done) | (simp [*]; done)), H', ⟨by have := HK1.out; omega⟩, by repeat (first | exact Drawn0.refl _ | apply Drawn0.step)⟩
      ·replace c8 := Bool.eq_false_iff.mpr c8
       subst c8
       have H1 : (slices_BinarySearch_int64_int64.l0 k1 l0 a1 (l0.length : Int) x7_1 ji4) = some (r1, r2) := by rw [if_neg (show ¬ (false = true) by decide)] at H; exact H
       clear H
       have H := H1
       clear H1
       have H' := Aside0.mk H
       clear H
       have p122 : 0 ≤ ((ji4) : Int) := of_decide_eq_true (by first | (with_reducible assumption) | assumption)
       have q122 : (ji4) < (l0.length : Int) := of_decide_eq_true (by first | (with_reducible assumption) | assumption)
       obtain ⟨ad122, e122, hx122_0⟩ := Kd.at_int HR0.out (ji4) p122 q122
       cases e122
       replace p122 := eq_true p122
       replace q122 := eq_true q122
       go_wp2_with (first | ((with_reducible refine gate_callee (f := 187) rfl ?_); refine cl_ (some 27) Try.func187 #[.int .i64 (rd l0 (ji4)), .int .i64 a1] (hargs := by (try simp only [List.map_toArray, List.map_cons, List.map_nil]); first | done | (simp only [hji4]; rfl) | rfl | (simp only [List.length_drop, List.length_take]; rfl)) ?_; (with_reducible refine (cmp_Less_int64.calls (rd l0 (ji4)) a1 false _ A7.out).mono ?_); rintro e w' ⟨rfl, ⟨nd, rfl⟩⟩; refine ⟨_, rfl, ?_⟩))
       go_roundg k1
       case measure => have := HK1.out; omega
       case rel => exact ⟨(x7_1), (ji4), (by first | rfl | (simp; done) | (simp [*]; done)), (by first | rfl | (simp; done) | (simp only [← hji4] <;> (first | rfl | simp)) | (simp [*]; done)), H', ⟨by have := HK1.out; omega⟩, by repeat (first | exact Drawn0.refl _ | apply Drawn0.step)⟩
     ·rw [if_neg c6] at H
      exact absurd H (by simp)
    ·rw [if_neg c5] at H
     exact absurd H (by simp)
   ·rw [if_neg c3] at H
    have c3b0 : decide (x7_1 < x8_1) = false := decide_eq_false c3
    clear c3
    by_cases c9 : x7_1 < (l0.length : Int)
    ·rw [if_pos c9] at H
     have c9b0 : decide (x7_1 < (l0.length : Int)) = true := decide_eq_true c9
     clear c9
     by_cases c10 : 0 ≤ x7_1
     ·rw [if_pos c10] at H
      have c10b0 : decide (0 ≤ x7_1) = true := decide_eq_true c10
      clear c10
      by_cases c11 : x7_1 < (l0.length : Int)
      ·rw [if_pos c11] at H
       have c11b0 : decide (x7_1 < (l0.length : Int)) = true := decide_eq_true c11
       clear c11
       by_cases c12 : (rd l0 x7_1) = a1
       ·rw [if_pos c12] at H
        have c12b0 : ((rd l0 x7_1) == a1) = true := beq_iff_eq.mpr c12
        have c12b1 : ((rd l0 x7_1) != a1) = false := bne_eq_false_iff_eq.mpr c12
        clear c12
        simp only [Option.some.injEq, Prod.mk.injEq] at H
        obtain ⟨rfl, rfl⟩ := H
        have p124 : 0 ≤ (x7_1 : Int) := of_decide_eq_true (by first | (with_reducible assumption) | assumption)
        have q124 : x7_1 < (l0.length : Int) := of_decide_eq_true (by first | (with_reducible assumption) | assumption)
        obtain ⟨ad124, e124, hx124_0⟩ := Kd.at_int HR0.out x7_1 p124 q124
        cases e124
        replace p124 := eq_true p124
        replace q124 := eq_true q124
        go_wp2
        go_ret2
        exact ⟨by first | rfl | (simp; done) | (simp [*]; done), by repeat (first | exact Drawn0.refl _ | apply Drawn0.step)⟩
       ·rw [if_neg c12] at H
        have c12b0 : ((rd l0 x7_1) == a1) = false := beq_eq_false_iff_ne.mpr c12
        have c12b1 : ((rd l0 x7_1) != a1) = true := bne_iff_ne.mpr c12
        replace H := Option.bind_eq_some_iff.mp H
        obtain ⟨t126, A130, H⟩ := H
        try dsimp only at H
        have A13 := Aside0.mk A130
        clear A130
        by_cases c14 : t126 = true
        ·subst c14
         have H1 : ((slices_isNaN_int64.f a1).bind fun t127 => (some (x7_1, t127))) = some (r1, r2) := by rw [if_pos rfl] at H; exact H
         clear H
         have H := H1
         clear H1
         replace H := Option.bind_eq_some_iff.mp H
         obtain ⟨t127, A150, H⟩ := H
         try dsimp only at H
         have A15 := Aside0.mk A150
         clear A150
         simp only [Option.some.injEq, Prod.mk.injEq] at H
         obtain ⟨rfl, rfl⟩ := H
         have p124 : 0 ≤ (x7_1 : Int) := of_decide_eq_true (by first | (with_reducible assumption) | assumption)
         have q124 : x7_1 < (l0.length : Int) := of_decide_eq_true (by first | (with_reducible assumption) | assumption)
         obtain ⟨ad124, e124, hx124_0⟩ := Kd.at_int HR0.out x7_1 p124 q124
         cases e124
         replace p124 := eq_true p124
         replace q124 := eq_true q124
         have p125 : 0 ≤ (x7_1 : Int) := of_decide_eq_true (by first | (with_reducible assumption) | assumption)
         have q125 : x7_1 < (l0.length : Int) := of_decide_eq_true (by first | (with_reducible assumption) | assumption)
         obtain ⟨ad125, e125, hx125_0⟩ := Kd.at_int HR0.out x7_1 p125 q125
         obtain rfl : ad124 = ad125 := (by injection e125)
         replace p125 := eq_true p125
         replace q125 := eq_true q125
         go_wp2_with (first | (go_at_call 188; (with_reducible refine (slices_isNaN_int64.calls (rd l0 x7_1) true _ A13.out).mono ?_); rintro e w' ⟨rfl, ⟨nd, rfl⟩⟩) | (go_at_call 188; (with_reducible refine (slices_isNaN_int64.calls a1 t127 _ A15.out).mono ?_); rintro e w' ⟨rfl, ⟨nd, rfl⟩⟩))
         go_ret2
         exact ⟨by first | rfl | (simp; done) | (simp [*]; done), by repeat (first | exact Drawn0.refl _ | apply Drawn0.step)⟩
        ·replace c14 := Bool.eq_false_iff.mpr c14
         subst c14
         have H1 : (some (x7_1, false)) = some (r1, r2) := by rw [if_neg (show ¬ (false = true) by decide)] at H; exact H
         clear H
         have H := H1
         clear H1
         simp only [Option.some.injEq, Prod.mk.injEq] at H
         obtain ⟨rfl, rfl⟩ := H
         have p124 : 0 ≤ (x7_1 : Int) := of_decide_eq_true (by first | (with_reducible assumption) | assumption)
         have q124 : x7_1 < (l0.length : Int) := of_decide_eq_true (by first | (with_reducible assumption) | assumption)
         obtain ⟨ad124, e124, hx124_0⟩ := Kd.at_int HR0.out x7_1 p124 q124
         cases e124
         replace p124 := eq_true p124
         replace q124 := eq_true q124
         have p125 : 0 ≤ (x7_1 : Int) := of_decide_eq_true (by first | (with_reducible assumption) | assumption)
         have q125 : x7_1 < (l0.length : Int) := of_decide_eq_true (by first | (with_reducible assumption) | assumption)
         obtain ⟨ad125, e125, hx125_0⟩ := Kd.at_int HR0.out x7_1 p125 q125
         obtain rfl : ad124 = ad125 := (by injection e125)
         replace p125 := eq_true p125
         replace q125 := eq_true q125
         go_wp2_with (first | (go_at_call 188; (with_reducible refine (slices_isNaN_int64.calls (rd l0 x7_1) false _ A13.out).mono ?_); rintro e w' ⟨rfl, ⟨nd, rfl⟩⟩))
         go_ret2
         exact ⟨by first | rfl | (simp; done) | (simp [*]; done), by repeat (first | exact Drawn0.refl _ | apply Drawn0.step)⟩
      ·rw [if_neg c11] at H
       exact absurd H (by simp)
     ·rw [if_neg c10] at H
      exact absurd H (by simp)
    ·rw [if_neg c9] at H
     have c9b0 : decide (x7_1 < (l0.length : Int)) = false := decide_eq_false c9
     clear c9
     simp only [Option.some.injEq, Prod.mk.injEq] at H
     obtain ⟨rfl, rfl⟩ := H
     go_wp2
     go_ret2
     exact ⟨by first | rfl | (simp; done) | (simp [*]; done), by repeat (first | exact Drawn0.refl _ | apply Drawn0.step)⟩
end Go.Proofs.Ytomdfjohnmikdaa.QO
namespace Go.Proofs.Ytomdfjohnmikdaa.Im
open Go.RowKit Go.Shelf Cw Ext YtomdfjohnmikdaaW.PrintWords YtomdfjohnmikdaaW.PrintLast YtomdfjohnmikdaaW.PrintMore
theorem elimAll_nil (lo : Nat → Nat) (m : Nat) : elimAll lo [] m = ([], 0) := by
  unfold elimAll
  induction m with
  | zero => rfl
  | succ m ih => rw [List.range_succ, List.foldl_append, ih]; rfl
theorem xr_mod2 {x t y : Int} (hx : Bit x) (ht : Bit t) (hy : Bit y) : wrap64 (t * y) = t * y ∧ wrap64 (x - t * y) = x - t * y ∧ wrap64 (Int.tmod (x - t * y) 2 + 2) = Int.tmod (x - t * y) 2 + 2 ∧ Int.tmod (Int.tmod (x - t * y) 2 + 2) 2 = xr x t y := by
  unfold Bit at *
  rcases hx with rfl | rfl <;> rcases ht with rfl | rfl <;> rcases hy with rfl | rfl <;> (refine ⟨?_, ?_, ?_, ?_⟩ <;> first | decide | simp [xr, wrap64])
def CB (W : World) (y c : Nat) : Prop := W.heap[y]? = some (.cells #[.int .i64 c] 3 (0, 0))
section
variable {W W1 : World} {y c base b cap n m : Nat} {bs : List Nat} {M : List (List Int)}
theorem CB.cell (h : CB W y c) : W.cell? ⟨y, 0, none⟩ = some (.int .i64 c) := (cell_of_row W y 0 _ _ _ h).trans rfl
theorem CB.below (h : CB W y c) (hb : Below W.heap.size W W1) : CB W1 y c := (hb.block _ (blk_lt h)).trans h
theorem CB.outer (h : CB W y c) (ho : MxO W base b cap bs m) (j : Nat) (u : Value) : CB (W.setCell ⟨b, j, none⟩ u) y c := by
  obtain ⟨_, _, _, rest, _, h5⟩ := ho
  exact (Below.heap_setCell W ⟨b, j, none⟩ u y (blk_ne h h5 (by decide))).trans h
theorem CB.inner (h : CB W y c) (hi : MxI W base bs m M) {i x : Nat} (hx : ∃ h1 : i < bs.length, bs[i] = x) (j : Nat) (u : Value) : CB (W.setCell ⟨x, j, none⟩ u) y c := by
  obtain ⟨h1, rfl⟩ := hx
  obtain ⟨cells, hc⟩ := hi.block h1
  exact (Below.heap_setCell W ⟨bs[i], j, none⟩ u y (blk_ne h hc (by decide))).trans h
end
theorem swapL_comm {α : Type} {l : List α} {i j : Nat} (hi : i < l.length) (hj : j < l.length) : swapL l i j = swapL l j i := by
  apply List.ext_getElem
  · rw [swapL_len, swapL_len]
  · intro k h1 h2
    rw [swapL_at hi hj, swapL_at hj hi]
    by_cases h3 : k = j
    · subst h3
      rw [if_pos rfl]
      by_cases h4 : k = i
      · subst h4; rw [if_pos rfl]
      · rw [if_neg h4, if_pos rfl]
    · rw [if_neg h3]
      by_cases h4 : k = i
      · subst h4; rw [if_pos rfl, if_pos rfl]
      · rw [if_neg h4, if_neg h4, if_neg h3]
theorem rows_cut {w0 : World} {base b cap n0 m : Nat} {bs : List Nat} {M0 : List (List Int)} (h : MxAll w0 base b cap bs n0 m M0) (hl : n0 ≤ 1000) : ∀ (r : Nat), r ≤ n0 → ∃ D : Option Addr, (r < n0 → D = some ⟨b, r, none⟩) ∧ ∀ W : World, (Instr.slice 53 (.slice (some ⟨b, 0, none⟩) n0 cap) (some (.int .i64 r)) none none).run Try.prog W = .ok (.slice D (n0 - r) (cap - r)) W := by
  intro r hr
  obtain ⟨i0, hi0, hz0, hzs, hzb⟩ := info_parts infoR
  have hcap : n0 ≤ cap := by have := h.2.2.2.1.2.1; have := h.2.1; omega
  refine ⟨_, fun hlt => ?_, fun W => cut_from 53 22 .i64 Try.underlying53 hi0 1 hzs (some ⟨b, 0, none⟩) n0 cap r (by omega) (by omega) W⟩
  rw [Int.toNat_natCast, if_neg (by omega)]
  rw [Nat.mul_one]
  show some (Addr.add ⟨b, 0, none⟩ r) = _
  simp [Addr.add]
  exact fun h => h.symm
set_option maxRecDepth 100000 in
theorem rank_find {wr : World} {base b cap n0 m c r : Nat} {bs : List Nat} {M : List (List Int)} (h : MxAll wr base b cap bs n0 m M) (hlt : c < m) (hrn : r ≤ n0) (hl : n0 ≤ 1000) {D : Option Addr} (hD : r < n0 → D = some ⟨b, r, none⟩) :
    Calls Try.prog 160 #[.slice D (n0 - r) (cap - r), .func (.func 161) #[] #[.pointer (some ⟨wr.heap.size, 0, none⟩)]] (wr.alloc (.cells #[.int .i64 c] 3))
      fun e w' => e = .returned (.int .i64 (firstR (fun i => ent M (r + i) c != 0) (n0 - r))) ∧ Below (wr.alloc (.cells #[.int .i64 c] 3)).heap.size (wr.alloc (.cells #[.int .i64 c] 3)) w' := by
  have hba := below_alloc (Below.refl wr.heap.size wr) (.cells #[.int .i64 c] 3)
  have hM := h.below hba
  have hC : CB (wr.alloc (.cells #[.int .i64 c] 3)) wr.heap.size c := heap_alloc_new wr _
  generalize wr.alloc (.cells #[.int .i64 c] 3) = W0 at hM hC ⊢
  refine indexRows_c D (n0 - r) (cap - r) m (fun i => bs.getD (r + i) 0) 161 #[] #[.pointer (some ⟨wr.heap.size, 0, none⟩)] (fun i => ent M (r + i) c != 0) W0
    (fun W hW i hi => ?_) (enters_of Try.func161 (by kernel_rfl) rfl) (fun W i hW hi => ?_) (by omega)
  · refine ⟨⟨b, r, none⟩, hD (by omega), ?_⟩
    obtain ⟨x, ⟨hx1, hx2⟩, hx3, _⟩ := (hM.below hW).outCell (i := r + i) (by omega)
    have e : bs.getD (r + i) 0 = x := by rw [List.getD_eq_getElem?_getD, List.getElem?_eq_getElem hx1, hx2]; rfl
    show W.cell? (Addr.add ⟨b, r, none⟩ i) = some (.slice (some ⟨bs.getD (r + i) 0, 0, none⟩) m m)
    rw [e, show Addr.add ⟨b, r, none⟩ i = ⟨b, r + i, none⟩ by simp [Addr.add]]
    exact hx3
  · have hM2 := hM.below hW
    obtain ⟨x, hx, hx3, _⟩ := hM2.outCell (i := r + i) (by omega)
    have e : bs.getD (r + i) 0 = x := by obtain ⟨hx1, hx2⟩ := hx; rw [List.getD_eq_getElem?_getD, List.getElem?_eq_getElem hx1, hx2]; rfl
    obtain ⟨hc1, _⟩ := hM2.inCell (i := r + i) (by omega) hlt hx
    have := rank1_c x m c (ent M (r + i) c) wr.heap.size W (hC.below hW).cell hlt hc1
    simp only [e]
    exact this
theorem first_find (M : List (List Int)) (c r : Nat) : findZ M c r = ((List.range (M.length - r)).find? fun i => ent M (r + i) c != 0).map fun i => r + i := by
  unfold findZ
  rw [List.range'_eq_map_range, List.find?_map]
  rfl
theorem w64_ {x : Int} (h1 : -9223372036854775808 ≤ x) (h2 : x ≤ 9223372036854775807) : wrap64 x = x := by unfold wrap64; omega
theorem firstR_none {M : List (List Int)} {c r n : Nat} (h : findZ M c r = none) (hn : M.length = n) : firstR (fun i => ent M (r + i) c != 0) (n - r) = -1 := by
  subst hn
  rw [first_find] at h
  unfold firstR
  cases hf : (List.range (M.length - r)).find? fun i => ent M (r + i) c != 0 with
  | none => rfl
  | some i => rw [hf] at h; cases h
theorem firstR_some {M : List (List Int)} {c r n p : Nat} (h : findZ M c r = some p) (hn : M.length = n) : ∃ q, p = r + q ∧ firstR (fun i => ent M (r + i) c != 0) (n - r) = (q : Int) ∧ p < n ∧ ent M p c ≠ 0 := by
  subst hn
  rw [first_find] at h
  unfold firstR
  cases hf : (List.range (M.length - r)).find? fun i => ent M (r + i) c != 0 with
  | none => rw [hf] at h; cases h
  | some i =>
    rw [hf] at h
    have h1 := List.mem_range.1 (List.mem_of_find?_eq_some hf)
    have h2 := List.find?_some hf
    obtain rfl : r + i = p := Option.some.inj h
    exact ⟨i, rfl, rfl, by omega, by simpa using h2⟩
theorem fold_none {lo : Nat → Nat} {M0 M : List (List Int)} {c r : Nat} (h : (List.range c).foldl (elimStep lo) (M0, 0) = (M, r)) (hf : findZ M c r = none) : (List.range (c + 1)).foldl (elimStep lo) (M0, 0) = (M, r) := by
  rw [List.range_succ, List.foldl_append, h]
  simp only [List.foldl_cons, List.foldl_nil, elimStep, hf]
theorem fold_some {lo : Nat → Nat} {M0 M : List (List Int)} {c r p : Nat} (h : (List.range c).foldl (elimStep lo) (M0, 0) = (M, r)) (hf : findZ M c r = some p) : (List.range (c + 1)).foldl (elimStep lo) (M0, 0) = (elimTo (lo c) c r (swapL M p r) M.length, r + 1) := by
  rw [List.range_succ, List.foldl_append, h]
  simp only [List.foldl_cons, List.foldl_nil, elimStep, hf]
theorem firstR_z {M : List (List Int)} {c r n p : Nat} (h : findZ M c r = some p) (hn : M.length = n) : ∃ z : Int, (r : Int) + z = (p : Int) ∧ firstR (fun i => ent M (r + i) c != 0) (n - r) = z ∧ p < n ∧ ¬ z < 0 := by
  obtain ⟨q, h1, h2, h3, _⟩ := firstR_some h hn
  exact ⟨(q : Int), by omega, h2, h3, by omega⟩
theorem find_cases (M : List (List Int)) (c r : Nat) : findZ M c r = none ∨ ∃ p, findZ M c r = some p := by
  cases findZ M c r with
  | none => exact .inl rfl
  | some p => exact .inr ⟨p, rfl⟩
theorem swap_facts {w W : World} {base b cap n m y c r p xp yr : Nat} {bs : List Nat} {M : List (List Int)} (h : MxAll W base b cap bs n m M) (hC : CB W y c) (hB : Below base w W) (hr : r < n) (hp : p < n) (hxp : ∃ h1 : p < bs.length, bs[p] = xp) (hxr : ∃ h1 : r < bs.length, bs[r] = yr) :
    (∃ u, (W.setCell ⟨b, r, none⟩ (.slice (some ⟨xp, 0, none⟩) m m)).cell? ⟨b, p, none⟩ = some u) ∧ (W.setCell ⟨b, r, none⟩ (.slice (some ⟨xp, 0, none⟩) m m)).frozen? ⟨b, p, none⟩ = false ∧
    MxAll ((W.setCell ⟨b, r, none⟩ (.slice (some ⟨xp, 0, none⟩) m m)).setCell ⟨b, p, none⟩ (.slice (some ⟨yr, 0, none⟩) m m)) base b cap (swapL bs p r) n m (swapL M p r) ∧
    CB ((W.setCell ⟨b, r, none⟩ (.slice (some ⟨xp, 0, none⟩) m m)).setCell ⟨b, p, none⟩ (.slice (some ⟨yr, 0, none⟩) m m)) y c ∧
    Below base w ((W.setCell ⟨b, r, none⟩ (.slice (some ⟨xp, 0, none⟩) m m)).setCell ⟨b, p, none⟩ (.slice (some ⟨yr, 0, none⟩) m m)) ∧
    ((W.setCell ⟨b, r, none⟩ (.slice (some ⟨xp, 0, none⟩) m m)).setCell ⟨b, p, none⟩ (.slice (some ⟨yr, 0, none⟩) m m)).cell? ⟨b, r, none⟩ = some (.slice (some ⟨xp, 0, none⟩) m m) ∧ ∃ h1 : r < (swapL bs p r).length, (swapL bs p r)[r] = xp := by
  obtain ⟨h1, h2, h3, h4, h5⟩ := h
  obtain ⟨hp1, rfl⟩ := hxp
  obtain ⟨hr1, rfl⟩ := hxr
  have ho1 := h4.put (i := r) hr1 bs[p]
  have hl1 : (bs.set r bs[p]).length = bs.length := by simp
  have ho2 := ho1.put (i := p) (by omega) bs[r]
  have hc1 := ho1.cell (i := p) (by omega)
  have hbs : (bs.set r bs[p]).set p bs[r] = swapL bs p r := by rw [swapL_comm hp1 hr1, swapL_eq hr1 hp1]
  rw [hbs] at ho2
  have hsl : (swapL bs p r).length = bs.length := swapL_len _ _ _
  have hrr : (swapL bs p r)[r]'(by omega) = bs[p] := by rw [swapL_at hp1 hr1, if_pos rfl]
  have hc2 := (ho2.cell (i := r) (by omega)).1
  rw [hrr] at hc2
  have hi2 := ((h5.outer h4 r (rowV m bs[p])).outer ho1 p (rowV m bs[r])).swap (i := p) (j := r) (by omega) (by omega)
  exact ⟨⟨_, hc1.1⟩, hc1.2, ⟨by rw [swapL_len]; exact h1, by omega, swap_bits h3 (by omega) (by omega), ho2, hi2⟩, (hC.outer h4 r (rowV m bs[p])).outer ho1 p (rowV m bs[r]), (hB.setCell (p := ⟨b, r, none⟩) h4.1 _).setCell (p := ⟨b, p, none⟩) h4.1 _, hc2, by omega, hrr⟩
set_option maxRecDepth 100000 in
set_option maxHeartbeats 8000000 in
theorem rankI_c (k : Nat) (n : Int) (A : Option Addr) (c : Nat) (xs : List Int) (d : Int) (F C : List Int) (P : Int → List Int) (w : World) (hr : RC w A xs.length xs) (hc : xs.length ≤ c) (hd : -1 ≤ d ∧ d ≤ 100)
    (hF : QO.impl_Complex_of.f n xs d = some F) (hC : QO.impl_Complex_of.f n xs (d - 1) = some C)
    (hP : ∀ f ∈ F, impl_borders.f f = some (P f) ∧ ∃ S, QO.impl_signs.f k f = some S ∧ S.length = (P f).length ∧ ∀ s ∈ S, s = 1 ∨ s = -1)
    (hpl : ∀ f ∈ F, ∀ g ∈ P f, ∃ p : Nat, QO.slices_BinarySearch_int64_int64.f k C g = some ((p : Int), true) ∧ ∃ h : p < C.length, C[p] = g) (hCn : C.Nodup) (hl1 : F.length ≤ 1000) (hl2 : C.length ≤ 1000) (hl3 : ∀ f ∈ F, (P f).length ≤ 1000) :
    Calls Try.prog 109 #[.agg #[.int .i64 n, .slice A xs.length c], .int .i64 d, .int .i64 2] w fun e w' => e = .returned (.int .i64 ((elimAll (fun _ => 0) (matZ C F P) C.length).2 : Int)) ∧ Below w.heap.size w w' := by
  have hx0 := Aside0.mk (CxAt.new w n A xs.length c)
  have hb0 := Aside0.mk (below_alloc (Below.refl w.heap.size w) (.cells #[.int .i64 n, .slice A xs.length c] 28))
  have HR := Aside0.mk hr
  have HC := Aside0.mk hc
  have HF := Aside0.mk hF
  have HCC := Aside0.mk hC
  have HPP := Aside0.mk hP
  have HPL := Aside0.mk hpl
  have HCN := Aside0.mk hCn
  have HL3 := Aside0.mk hl3
  have hdw : wrap64 (d - 1) = d - 1 := by unfold wrap64; omega
  have hdv : IntKind.i64.wrap (d - 1) = d - 1 := by rw [IntKind.wrap_i64]; omega
  have hc0 := hx0.out.c0
  have hc1 := hx0.out.c1
  clear hr hc hF hC hP hpl hCn hl3
  go_enter Try.func109, Try.ntmps109
  go_wp2_with (first
    | (go_at_call 157; have hq_ := HV7.out; refine (QO.impl_Complex_of.calls n A c xs d F _ (Kd.C_below HR.out HB1.out) HC.out HF.out).mono ?_; rintro e w2 ⟨v31, rfl, hv, hb⟩; have HV31 := Aside0.mk (Kd.R_lower hv HB1.out.size); have HV72 := Aside0.mk (Kd.R_below HV7.out hb); have HB := Aside0.mk (below_in HB1.out hb); obtain ⟨A31, c31, rfl⟩ := Kd.R_slice HV31.out; clear hb hv HV7 HB1 hq_)
    | (go_at_call 157; refine (QO.impl_Complex_of.calls n A c xs (d - 1) C _ (Kd.C_below HR.out hb0.out) HC.out HCC.out).mono ?_; rintro e w1 ⟨v7, rfl, hv, hb⟩; have HV7 := Aside0.mk (Kd.R_lower hv hb0.out.size); have HX1 := Aside0.mk (hx0.out.below hb); have HB1 := Aside0.mk (below_in hb0.out hb); have hd0 := HX1.out.c0; have hd1 := HX1.out.c1; clear hb hv hc0 hc1))
  obtain ⟨A7, c7, rfl⟩ := Kd.R_slice HV72.out
  obtain ⟨Y, h2⟩ := Two.of HV31.out HV72.out
  have H2 := Aside0.mk h2
  have HO : Aside0 (MxW w2 w.heap.size (.slice none 0 0) [] C.length) := ⟨World.ownsRow_nil _ _ _ _⟩
  clear HV31 HV72 h2
  have hmk : ∀ W : World, (Instr.makeSlice 22 (.int .i64 (C.length : Int)) (.int .i64 (C.length : Int))).run Try.prog W = .ok (.slice (some ⟨W.heap.size, 0, none⟩) C.length C.length) (W.alloc (.cells (numV (List.replicate C.length 0)).toArray 2)) := fun W => by
    rw [← made_zero]
    exact print_make_of 22 2 (.int .i64 0) 8 Try.underlying22 info64 rfl (by decide) C.length (by omega) W
  go_loopw [8, 33] (fun v9 s10 wr => ∃ (i : Nat) (bs : List Nat), i ≤ F.length ∧ s10 = .int .i64 i ∧ Aside0 (MxW wr w.heap.size v9 bs C.length) ∧ Aside0 (MxI wr w.heap.size bs C.length (matZ C (F.take i) P)) ∧ Aside0 (Two wr w.heap.size Y (.slice A31 F.length c31) F (.slice A7 C.length c7) C) ∧ Aside0 (Below w.heap.size w wr)) (fun _ s10 _ => F.length - (intOf s10).toNat)
  case atStart => exact ⟨0, [], by omega, rfl, HO, ⟨⟨rfl, List.nodup_nil, fun i h => absurd h (Nat.not_lt_zero _)⟩⟩, H2, HB⟩
  case round =>
    clear HO H2 HB
    obtain ⟨i, bs, hi, rfl, HO, HI, H2, HB⟩ := hrel
    have HBL : Aside0 (bs.length ≤ 1000) := ⟨by have := HI.out.1; unfold matZ at this; simp at this; omega⟩
    by_cases hlt : i < F.length
    · have hltz : (i : Int) < (F.length : Int) := by omega
      obtain ⟨af, rfl, hf0⟩ := Kd.at_int (Kd.R_reads' H2.out.1).2.2 i (by omega) (by omega)
      obtain ⟨f, hf⟩ : ∃ f, rd F i = f := ⟨_, rfl⟩
      rw [hf, show ((i : Int)).toNat = i by omega] at hf0
      have hfm : f ∈ F := by rw [← hf, rd_at' hlt]; exact List.getElem_mem hlt
      obtain ⟨hpf, Sg, hsf, hsl, hsg⟩ := HPP.out f hfm
      have hpl := HPL.out f hfm
      have hpl3 := HL3.out f hfm
      have HPF := Aside0.mk hpf
      have HSF := Aside0.mk hsf
      have HSG := Aside0.mk hsg
      have HPLF := Aside0.mk hpl
      have HFE : Aside0 (matZ C (F.take (i + 1)) P = matZ C (F.take i) P ++ [rowTo C (P f) (P f).length]) := ⟨by rw [List.take_succ_eq_append_getElem hlt, ← rd_at' hlt, hf]; unfold matZ; simp⟩
      have hba : Below wr.heap.size wr (wr.alloc (.cells (numV (List.replicate C.length 0)).toArray 2)) := below_alloc (Below.refl _ _) _
      have HS1 := Aside0.mk (HI.out.snoc HB.out.size)
      have HO1 := Aside0.mk (pw_own_below HO.out hba)
      have H21 := Aside0.mk (H2.out.below hba)
      have HB1 := Aside0.mk (below_in HB.out hba)
      have hyy : Y ≤ wr.heap.size := H2.out.2.2
      have hw0 : w.heap.size ≤ wr.heap.size := HB.out.size
      have HYW : Aside0 (Y ≤ wr.heap.size ∧ w.heap.size ≤ wr.heap.size) := ⟨hyy, hw0⟩
      clear HO HI H2 HB hpf hsf hsg hpl hf hfm hba hyy hw0
      go_wp2_with (go_at_call 155; refine (impl_borders.calls f (P f) _ HPF.out).mono ?_; rintro e w4 ⟨v41, rfl, hv, hb⟩; have HVP := Aside0.mk (Kd.R_lower (Kd.R_mono (Kd.R_bound hv) (fun k hk => (show wr.heap.size + 1 ≤ k by have := hk.2.1; simpa using this))) (base' := w.heap.size) (HB1.out.size)); have HS2 := Aside0.mk (HS1.out.below hb); have HO2 := Aside0.mk (pw_own_below HO1.out hb); have H22 := Aside0.mk (H21.out.below hb); have HB2 := Aside0.mk (below_in HB1.out hb); obtain ⟨Ap, cp, rfl⟩ := Kd.R_slice HVP.out; clear hb hv HS1 HO1 H21 HB1)
      have hz0 : List.replicate C.length (0 : Int) = rowTo C (P f) 0 := (rowTo_zero _ _).symm
      rw [hz0] at HS2
      have hyw := HYW.out
      clear hz0 HYW
      generalize wr.heap.size = y0 at HS2 HVP hyw ⊢
      have HYY := Aside0.mk hyw.1
      have HW0 := Aside0.mk hyw.2
      clear hyw
      go_loopw [43] (fun s14 wq => ∃ j : Nat, j ≤ (P f).length ∧ s14 = .int .i64 j ∧ Aside0 (MxI wq w.heap.size (bs ++ [y0]) C.length (matZ C (F.take i) P ++ [rowTo C (P f) j])) ∧ Aside0 (MxW wq w.heap.size u8 bs C.length) ∧ Aside0 (Two wq w.heap.size Y (.slice (some af) F.length c31) F (.slice A7 C.length c7) C) ∧ Aside0 (RI wq w.heap.size (fun k => y0 + 1 ≤ k) (.slice Ap (P f).length cp) (P f)) ∧ Aside0 (Below w.heap.size w wq)) (fun s14 _ => (P f).length - (intOf s14).toNat)
      case atStart => exact ⟨0, by omega, rfl, HS2, HO2, H22, HVP, HB2⟩
      case round =>
        clear HS2 HO2 H22 HVP HB2
        obtain ⟨j, hj, rfl, HS, HO, H2, HVP, HB⟩ := hrel
        by_cases hjl : j < (P f).length
        · have hjz : (j : Int) < ((P f).length : Int) := by omega
          have hjs : (j : Int) < (Sg.length : Int) := by omega
          obtain ⟨ap, rfl, hp0⟩ := Kd.at_int (Kd.R_reads' HVP.out).2.2 j (by omega) (by omega)
          obtain ⟨g, hg⟩ : ∃ g, rd (P f) j = g := ⟨_, rfl⟩
          rw [hg, show ((j : Int)).toNat = j by omega] at hp0
          have hgm : g ∈ P f := by rw [← hg, rd_at' hjl]; exact List.getElem_mem hjl
          obtain ⟨q, hpk, hqC, hqe⟩ := HPLF.out g hgm
          obtain ⟨sg, hsg⟩ : ∃ sg, rd Sg j = sg := ⟨_, rfl⟩
          have hsm : sg ∈ Sg := by rw [← hsg, rd_at' (by omega)]; exact List.getElem_mem (by omega)
          obtain ⟨hm1, hm2, hm3⟩ := sign_mod (HSG.out sg hsm)
          have hge : (P f)[j] = g := by rw [← hg, rd_at' hjl]
          have HNX := Aside0.mk (rowTo_next HCN.out hjl hqC (hqe.trans hge.symm))
          have hqz : (q : Int) < (C.length : Int) := by omega
          have HPK := Aside0.mk hpk
          have HSGE := Aside0.mk hsg
          clear hg hgm hsm hqe hpk hge hsg
          go_wp2_with (first
            | (go_at_call 158; refine (QO.slices_BinarySearch_int64_int64.calls k A7 c7 C g (q : Int) true _ (Kd.R_reads' H2.out.2.1).2.2 (Kd.R_reads' H2.out.2.1).2.1 HPK.out).mono ?_; rintro e w5 ⟨rfl, hdr⟩; have hb := hdr.below; have HSa := Aside0.mk (HS.out.below hb); have HOa := Aside0.mk (pw_own_below HO.out hb); have H2a := Aside0.mk (H2.out.below hb); have HVPa := Aside0.mk (Kd.R_below HVP.out hb); have HBa := Aside0.mk (below_in HB.out hb); clear HS HO H2 HVP HB hp0 hb hdr)
            | (go_at_call 159; refine (QO.impl_signs.calls k f Sg _ HSF.out).mono ?_; rintro e w6 ⟨vs, rfl, hv, hb⟩; have HSb := Aside0.mk (HSa.out.below hb); have HOb := Aside0.mk (pw_own_below HOa.out hb); have H2b := Aside0.mk (H2a.out.below hb); have HVPb := Aside0.mk (Kd.R_below HVPa.out hb); have HBb := Aside0.mk (below_in HBa.out hb); obtain ⟨As, cs, rfl⟩ := Kd.R_slice hv; obtain ⟨ag, rfl, hs0⟩ := Kd.at_int (Kd.R_reads' hv).2.2 j (by omega) (by omega); rw [HSGE.out, show ((j : Int)).toNat = j by omega] at hs0; obtain ⟨u, hu1, hu2, hu3⟩ := HSb.out.rowLast hqC; rw [HNX.out] at hu3; have HU3 := Aside0.mk hu3; clear hb hv hu3 HSa HOa H2a HVPa HBa))
          have hblk := HSb.out.block (i := bs.length) (by simp)
          rw [show (bs ++ [y0])[bs.length]'(by simp) = y0 by simp] at hblk
          obtain ⟨cells, hblk⟩ := hblk
          have HOS := Aside0.mk (own_far HOb.out (y := y0) (j := q) (MxW.ne HOb.out hblk) (.int .i64 1))
          have H2S := Aside0.mk (H2b.out.far HYY.out q (.int .i64 1))
          have HVPS := Aside0.mk (Kd.R_far HVPb.out (p := ⟨y0, q, none⟩) (fun k hk => by have : y0 + 1 ≤ k := hk; show k ≠ y0; omega) (.int .i64 1))
          have HBS := Aside0.mk (HBb.out.setCell (p := ⟨y0, q, none⟩) (HW0.out) (.int .i64 1))
          go_roundw
          case measure => simp [intOf]; omega
          case rel => exact ⟨j + 1, by omega, by go_num, HU3, HOS, H2S, HVPS, HBS⟩
        · obtain rfl : j = (P f).length := by omega
          have hjz : ¬ ((P f).length : Int) < ((P f).length : Int) := by omega
          rw [← HFE.out] at HS
          go_wp2_with (at_builtin; refine print_append_of (rowV C.length) w.heap.size rfl (.tmp 67) (.tmp 69) 53 22 (.slice none 0 0) 24 rfl Try.underlying53 infoR rfl (by decide) _ bs y0 rfl rfl (rowV_one _ _) HO.out HB.out HB.out.size (by have := HBL.out; omega) ?_; intro v1 w9 ho hb hg hat; have HI9 := Aside0.mk (HS.out.grown HO.out hg); have H29 := Aside0.mk (H2.out.grown HO.out hg); have HO9 := Aside0.mk ho; have HB9 := Aside0.mk hb; clear ho hb hg hat)
          exact ⟨⟨i + 1, bs ++ [y0], by omega, by go_num, HO9, HI9, H29, HB9⟩, by simp [intOf]; omega⟩
    · obtain rfl : i = F.length := by omega
      have hltz : ¬ (F.length : Int) < (F.length : Int) := by omega
      rw [List.take_length] at HI
      by_cases hF0 : F = []
      · subst hF0
        have HZ : Aside0 ((elimAll (fun _ => 0) (matZ C [] P) C.length).2 = 0) := ⟨by rw [show matZ C [] P = [] from rfl, elimAll_nil]⟩
        obtain ⟨A8, c8, rfl⟩ : ∃ A8 c8, u8 = .slice A8 0 c8 := by
          rcases HO.out.2 with ⟨h, _⟩ | ⟨g, cap, cur, h, _⟩
          · exact ⟨_, _, h⟩
          · have hb0 : bs.length = 0 := by have := HI.out.1; simpa [matZ] using this
            rw [hb0] at h
            exact ⟨_, _, h⟩
        clear HO HI
        obtain ⟨D, hD⟩ : ∃ D, D = (if c8 = 0 then A8 else A8.map (·.add (0 * 1))) := ⟨_, rfl⟩
        have hcut : ∀ W : World, (Instr.slice 53 (.slice A8 0 c8) (some (.int .i64 0)) none none).run Try.prog W = .ok (.slice D 0 c8) W := by
          intro W
          obtain ⟨i0, hi0, hz0, hzs, hzb⟩ := info_parts infoR
          have := cut_from 53 22 .i64 Try.underlying53 hi0 1 hzs A8 0 c8 0 (by omega) (by omega) W
          simp only [Int.toNat_zero, Nat.sub_zero] at this
          rw [hD]
          exact this
        clear hD
        go_wp2
        go_loopw [16, 74] (fun s16 s74 wq => ∃ q : Nat, q ≤ C.length ∧ s16 = .int .i64 0 ∧ s74 = .int .i64 q ∧ Aside0 (Below w.heap.size w wq)) (fun _ s74 _ => C.length - (intOf s74).toNat)
        case atStart => exact ⟨0, by omega, rfl, rfl, HB⟩
        case round =>
          clear HB
          obtain ⟨q, hq, rfl, rfl, HB⟩ := hrel
          by_cases hql : q < C.length
          · have hqz : (q : Int) < (C.length : Int) := by omega
            go_wp2_with (go_at_call 160; refine (indexRows_c D 0 c8 0 (fun _ => 0) _ _ _ (fun _ => false) _ (fun W hW i hi => absurd hi (Nat.not_lt_zero _)) (enters_of Try.func161 (by kernel_rfl) rfl) (fun W i hW hi => absurd hi (Nat.not_lt_zero _)) (by omega)).mono ?_; rintro e w5 ⟨rfl, hb⟩; have HB5 := Aside0.mk hb; clear hb)
            exact ⟨⟨q + 1, by omega, rfl, by go_num, ⟨below_in (below_in HB.out (below_alloc (Below.refl _ _) _)) HB5.out⟩⟩, by simp [intOf]; omega⟩
          · obtain rfl : q = C.length := by omega
            have hqz : ¬ (C.length : Int) < (C.length : Int) := by omega
            go_wp2
            go_ret
            exact ⟨by rw [HZ.out]; rfl, HB.out⟩
      · have hn : 0 < (matZ C F P).length := by unfold matZ; rw [List.length_map]; exact List.length_pos_iff.2 hF0
        have hnF : (matZ C F P).length = F.length := by unfold matZ; rw [List.length_map]
        obtain ⟨b, cap, rfl, hall⟩ := MxAll.of HO.out HI.out (matZ_bits C F P) hn
        have HM0 := Aside0.mk hall
        clear HO HI H2 hall hmk HF HCC HPP HPL HCN HL3 HX1 hx0 hb0 hd0 hd1 HR HC HBL
        rw [← hnF] at hl1
        generalize hM0 : matZ C F P = M0 at HM0 hn hl1 ⊢
        generalize hm : C.length = m at HM0 hl2 ⊢
        generalize hnn : M0.length = n0 at HM0 hn hl1 ⊢
        have hcut := rows_cut HM0.out hl1
        have HCUT := Aside0.mk hcut
        clear hcut hnF hF0
        go_wp2
        go_loopw [16, 74] (fun s16 s74 wr => ∃ (r c : Nat) (bs : List Nat) (M : List (List Int)), c ≤ m ∧ r ≤ c ∧ r ≤ n0 ∧ s16 = .int .i64 r ∧ s74 = .int .i64 c ∧ Aside0 ((List.range c).foldl (elimStep fun _ => 0) (M0, 0) = (M, r)) ∧ Aside0 (MxAll wr w.heap.size b cap bs n0 m M) ∧ Aside0 (Below w.heap.size w wr)) (fun _ s74 _ => m - (intOf s74).toNat)
        case atStart => exact ⟨0, 0, bs, M0, by omega, by omega, by omega, rfl, rfl, ⟨rfl⟩, HM0, HB⟩
        case round =>
          clear HM0 HB
          obtain ⟨r, c, bs, M, hcm, hrc, hrn, rfl, rfl, HF, HM, HB⟩ := hrel
          by_cases hlt : c < m
          · have hltz : (c : Int) < (m : Int) := by omega
            obtain ⟨D, hD, hct⟩ := HCUT.out r hrn
            have hba := below_alloc (Below.refl wr.heap.size wr) (.cells #[.int .i64 c] 3)
            have HMa := Aside0.mk (HM.out.below hba)
            have HBa := Aside0.mk (below_in HB.out hba)
            have HCa : Aside0 (CB (wr.alloc (.cells #[.int .i64 c] 3)) wr.heap.size c) := ⟨heap_alloc_new wr _⟩
            have HIX := Aside0.mk (rank_find HM.out hlt hrn hl1 hD)
            rcases find_cases M c r with hfz | ⟨p, hfz⟩
            · have hfr : firstR (fun i => ent M (r + i) c != 0) (n0 - r) = -1 := firstR_none (h := hfz) HM.out.1
              rw [hfr] at HIX
              have HF2 := Aside0.mk (fold_none HF.out hfz)
              clear hfz hfr HF HM HB hba hD
              go_wp2_with (go_at_call 160; refine HIX.out.mono ?_; rintro e w5 ⟨rfl, hb⟩; have HM5 := Aside0.mk (HMa.out.below hb); have HB5 := Aside0.mk (below_in HBa.out hb); clear hb)
              exact ⟨⟨r, c + 1, bs, M, by omega, by omega, by omega, rfl, by go_num, HF2, HM5, HB5⟩, by simp [intOf]; omega⟩
            · obtain ⟨z, hzr, hfr, hpn, hz0⟩ := firstR_z hfz HM.out.1
              rw [hfr] at HIX
              have hrn' : r < n0 := by omega
              have hp0 : (0 : Int) ≤ (p : Int) := by omega
              have hpi : (p : Int) < (n0 : Int) := by omega
              have hri2 : (r : Int) < (n0 : Int) := by omega
              have HFD := Aside0.mk hfz
              obtain rfl := hD hrn'
              clear hfz hfr hba hD
              go_upto_region 22 with (go_at_call 160; refine HIX.out.mono ?_; rintro e w5 ⟨rfl, hb⟩; have HM5 := Aside0.mk (HMa.out.below hb); have HB5 := Aside0.mk (below_in HBa.out hb); have HC5 := Aside0.mk (HCa.out.below hb); clear hb HMa HBa HCa HM HB HIX)
              obtain ⟨xp, hxp, hcp, hfp⟩ := HM5.out.outCell hpn
              obtain ⟨yr, hxr, hcr, hfr⟩ := HM5.out.outCell hrn'
              obtain ⟨_, _, hm6, hc6, hb6, hcr6, hown⟩ := swap_facts (W := w5.drew) HM5.out HC5.out HB5.out.drew hrn' hpn hxp hxr
              obtain ⟨⟨u5, hcp1⟩, hfp1, _, _, _, _, _⟩ := swap_facts (W := w5) HM5.out HC5.out HB5.out hrn' hpn hxp hxr
              have HM6 := Aside0.mk hm6
              have HC6 := Aside0.mk hc6
              have HB6 := Aside0.mk hb6
              have HOWN := Aside0.mk hown
              clear hm6 hc6 hb6 hown HM5 HC5 HB5 hxp hxr
              go_wp2
              refine st_ 16 (S := fun w' => w'.cell? ⟨b, p, none⟩ = some (.slice (some ⟨xp, 0, none⟩) m m) ∧ w'.cell? ⟨b, r, none⟩ = some (.slice (some ⟨yr, 0, none⟩) m m)) (ds := [13, 15]) ⟨hcp, hcr⟩ (fun hHeld => ?_)
              refine with_tabW (T := (true, [([], []), ([], []), ([], []), ([], []), ([], []), ([], []), ([4, 5], [4, 5]), ([6], [6]), ([], []), ([], []), ([8, 9], [8, 9]), ([10], [10]), ([0, 1, 0, 1, 4, 5, 6, 7, 11], [0, 1]), ([12, 7, 0, 1, 4, 5, 6, 7, 11], [7, 12]), ([2, 3, 0, 1, 2, 3, 4, 5, 6, 7, 8, 9, 10, 11, 12, 13], [2, 3]), ([14, 11, 13, 0, 1, 2, 3, 4, 5, 6, 7, 8, 9, 10, 11, 12, 13], [11, 14])])) (B := [0, 0, 0, 0, 0, 0, 48, 112, 0, 0, 768, 1792, 4083, 8179, 16383, 32767]) (by kernel_rfl) (by kernel_rfl) (fun HT_ HW_ => ?_)
              refine pd_ 0 87 1 HT_ ?_
              refine pd_ 1 88 3 HT_ ?_
              refine pd_ 2 89 7 HT_ ?_
              refine pd_ 3 90 15 HT_ ?_
              refine pd_ 4 91 31 HT_ ?_
              refine pd_ 5 92 63 HT_ ?_
              refine pd_ 6 93 127 HT_ ?_
              refine pd_ 8 95 383 HT_ ?_
              refine pd_ 9 96 895 HT_ ?_
              refine pd_ 10 97 1919 HT_ ?_
              refine tk_ 7 94 2047 HT_ HW_ hHeld ?_
              refine tk_ 11 98 4095 HT_ HW_ hHeld ?_
              refine pd_ 12 99 8191 HT_ ?_
              refine la_ 13 none 16383 HT_ (fun K hK => ?_)
              (have hcr' : w5.drew.cell? ⟨b, r, none⟩ = some (.slice (some ⟨yr, 0, none⟩) m m) := hcr; have hfr' : w5.drew.frozen? ⟨b, r, none⟩ = false := hfr; refine skip_ (by rfl) rfl (w1 := w5.drew.setCell ⟨b, r, none⟩ (.slice (some ⟨xp, 0, none⟩) m m)) (by go_simp) ?_)
              refine hK.out _ _ ?_
              clear hK K
              refine pd_ 14 100 32767 HT_ ?_
              refine la_ 15 none 65535 HT_ (fun K hK => ?_)
              (refine skip_ (by rfl) rfl (w1 := (w5.drew.setCell ⟨b, r, none⟩ (.slice (some ⟨xp, 0, none⟩) m m)).setCell ⟨b, p, none⟩ (.slice (some ⟨yr, 0, none⟩) m m)) (by go_simp) ?_)
              refine hK.out _ _ ?_
              clear hK K
              refine dn_ HT_ ?_
              clear hcp hcr hfp hfr hcp1 hfp1 hHeld
              generalize (w5.drew.setCell ⟨b, r, none⟩ (.slice (some ⟨xp, 0, none⟩) m m)).setCell ⟨b, p, none⟩ (.slice (some ⟨yr, 0, none⟩) m m) = w6 at HM6 HC6 HB6 hcr6 ⊢
              obtain ⟨D2, hD2, hct2⟩ := HCUT.out (r + 1) (by omega)
              have hct3 : ∀ W : World, (Instr.slice 53 (.slice (some ⟨b, 0, none⟩) n0 cap) (some (.int .i64 ((r : Int) + 1))) none none).run Try.prog W = .ok (.slice D2 (n0 - (r + 1)) (cap - (r + 1))) W := fun W => by
                rw [show (r : Int) + 1 = ((r + 1 : Nat) : Int) by omega]
                exact hct2 W
              obtain ⟨bs1, hbs1⟩ : ∃ z, z = swapL bs p r := ⟨_, rfl⟩
              obtain ⟨M1, hM1⟩ : ∃ z, z = swapL M p r := ⟨_, rfl⟩
              rw [← hbs1, ← hM1] at HM6
              rw [← hbs1] at HOWN
              have HF2 := Aside0.mk (fold_some HF.out HFD.out)
              rw [← hM1] at HF2
              have hM1l := HM6.out.1
              have hMl : M.length = n0 := by rw [← hM1l, hM1, swapL_len]
              rw [hMl] at HF2
              clear hbs1 hM1 hct2 HF HFD hMl
              generalize wr.heap.size = y0 at HC6 ⊢
              go_wp2
              go_loopw [110] (fun s110 wq => ∃ i : Nat, i ≤ n0 - (r + 1) ∧ s110 = .int .i64 i ∧ Aside0 (MxAll wq w.heap.size b cap bs1 n0 m (elimTo 0 c r M1 (r + 1 + i))) ∧ Aside0 (CB wq y0 c) ∧ Aside0 (Below w.heap.size w wq)) (fun s110 _ => n0 - (r + 1) - (intOf s110).toNat)
              case atStart => exact ⟨0, by omega, rfl, ⟨by rw [elimTo_lo _ _ _ _ (by omega)]; exact HM6.out⟩, HC6, HB6⟩
              case round =>
                have HB0 := Aside0.mk HM6.out.2.2.1
                have HLEN : Aside0 (∀ q (h : q < M1.length), M1[q].length = m) := ⟨fun q h => HM6.out.2.2.2.2.row h⟩
                clear HM6 HB6 HC6
                obtain ⟨i, hin, rfl, HM, HC, HB⟩ := hrel
                by_cases hi : i < n0 - (r + 1)
                · have hiz : (i : Int) < ((n0 - (r + 1) : Nat) : Int) := by omega
                  obtain rfl := hD2 (by omega)
                  obtain ⟨R, hR⟩ : ∃ R, r + 1 + i = R := ⟨_, rfl⟩
                  have hRn : R < n0 := by omega
                  have hRr : r < R := by omega
                  rw [hR] at HM
                  obtain ⟨xi, hxi, hci, hfi⟩ := HM.out.outCell hRn
                  obtain ⟨hxc, _⟩ := HM.out.inCell hRn hlt hxi
                  obtain ⟨hyc, _⟩ := HM.out.inCell hrn' hlt HOWN.out
                  rw [ent_elim (by omega) (by omega)] at hxc hyc
                  obtain ⟨x, hx⟩ : ∃ x, ent M1 R c = x := ⟨_, rfl⟩
                  obtain ⟨y, hy⟩ : ∃ y, ent M1 r c = y := ⟨_, rfl⟩
                  have hxb : Bit x := hx ▸ bit_ent HB0.out R c
                  have hyb : Bit y := hy ▸ bit_ent HB0.out r c
                  rw [hx] at hxc
                  rw [hy] at hyc
                  obtain ⟨hmw, hmm⟩ := mul_mod hxb hyb
                  have htb := bit_mul hxb hyb
                  have HX := Aside0.mk hx
                  have HY := Aside0.mk hy
                  have HXI := Aside0.mk hxi
                  have HTB := Aside0.mk htb
                  have hyy := HC.out.cell
                  clear hx hy hxi hxb hyb htb
                  go_wp2
                  refine st_ 10 (S := fun w' => w'.cell? ⟨y0, 0, none⟩ = some (.int .i64 c) ∧ w'.cell? ⟨xi, c, none⟩ = some (.int .i64 x) ∧ w'.cell? ⟨xp, c, none⟩ = some (.int .i64 y)) (ds := []) ⟨hyy, hxc, hyc⟩ (fun hHeld => ?_)
                  refine with_tabW (T := (true, [([], []), ([], []), ([0, 1], [0, 1]), ([2], [2]), ([], []), ([], []), ([4, 5], [4, 5]), ([6], [6]), ([3, 7], [3, 7]), ([8, 0, 1, 2, 3, 4, 5, 6, 7, 8], [8])])) (B := [0, 0, 3, 7, 0, 0, 48, 112, 255, 511]) (by kernel_rfl) (by kernel_rfl) (fun HT_ HW_ => ?_)
                  refine pd_ 0 114 1 HT_ ?_
                  refine pd_ 4 118 17 HT_ ?_
                  refine tk_ 1 115 19 HT_ HW_ hHeld ?_
                  refine pd_ 2 116 23 HT_ ?_
                  refine tk_ 3 117 31 HT_ HW_ hHeld ?_
                  refine tk_ 5 119 63 HT_ HW_ hHeld ?_
                  refine pd_ 6 120 127 HT_ ?_
                  refine tk_ 7 121 255 HT_ HW_ hHeld ?_
                  refine pd_ 8 122 511 HT_ ?_
                  refine pd_ 9 23 1023 HT_ ?_
                  refine dn_ HT_ ?_
                  have HMd : Aside0 (MxAll wr.drew w.heap.size b cap bs1 n0 m ((elimTo 0 c r M1 R).set R (stepR 0 c (M1.getD r []) (M1.getD R []) 0))) := ⟨by
                    have hself : (elimTo 0 c r M1 R).set R (stepR 0 c (M1.getD r []) (M1.getD R []) 0) = elimTo 0 c r M1 R := by
                      have hil : R < (elimTo 0 c r M1 R).length := by rw [elimTo_len]; omega
                      rw [stepR_lo _ _ _ _ (Nat.le_refl _), getD_at (by omega)]
                      have := elimTo_at (lo := 0) (c := c) (r := r) (M := M1) (i := R) (q := R) (by omega)
                      rw [if_neg (by omega)] at this
                      conv => lhs; rw [← this]
                      exact List.set_getElem_self hil
                    rw [hself]; exact HM.out⟩
                  have HBd : Aside0 (Below w.heap.size w wr.drew) := ⟨HB.out.drew⟩
                  have HCd : Aside0 (CB wr.drew y0 c) := ⟨HC.out⟩
                  clear HM HB HC hxc hyc hci hfi hyy hHeld
                  go_wp2
                  go_loopw [125] (fun s125 wz => ∃ j : Nat, j ≤ m ∧ s125 = .int .i64 j ∧ Aside0 (MxAll wz w.heap.size b cap bs1 n0 m ((elimTo 0 c r M1 R).set R (stepR 0 c (M1.getD r []) (M1.getD R []) j))) ∧ Aside0 (CB wz y0 c) ∧ Aside0 (Below w.heap.size w wz)) (fun s125 _ => m - (intOf s125).toNat)
                  case atStart => exact ⟨0, by omega, rfl, HMd, HCd, HBd⟩
                  case round =>
                    clear HMd HBd HCd
                    obtain ⟨j, hjm, rfl, HM, HC, HB⟩ := hrel
                    have hil : R < (elimTo 0 c r M1 R).length := by rw [elimTo_len]; omega
                    by_cases hj : j < m
                    · have hjz : (j : Int) < (m : Int) := by omega
                      obtain ⟨hac, haf⟩ := HM.out.inCell hRn hj HXI.out
                      obtain ⟨hdc, _⟩ := HM.out.inCell hrn' hj HOWN.out
                      have hrl : (M1.getD R []).length = m := by rw [getD_at (by omega)]; exact HLEN.out R (by omega)
                      rw [ent_set hil, stepR_getD (by omega)] at hac
                      rw [ent_set_ne (by omega), ent_elim (by omega) (by omega)] at hdc
                      obtain ⟨u, hu⟩ : ∃ u, (M1.getD R []).getD j 0 = u := ⟨_, rfl⟩
                      obtain ⟨d1, hd1⟩ : ∃ d1, ent M1 r j = d1 := ⟨_, rfl⟩
                      have hub : Bit u := hu ▸ bit_ent HB0.out R j
                      have hdb : Bit d1 := hd1 ▸ bit_ent HB0.out r j
                      rw [hu] at hac
                      rw [hd1] at hdc
                      obtain ⟨h1, h2, h3, h4⟩ := xr_mod2 hub HTB.out hdb
                      have hzb : Bit (xr u (x * y) d1) := bit_xr _ _ hub
                      have hnext : ((elimTo 0 c r M1 R).set R (stepR 0 c (M1.getD r []) (M1.getD R []) j)).set R ((((elimTo 0 c r M1 R).set R (stepR 0 c (M1.getD r []) (M1.getD R []) j)).getD R []).set j (xr u (x * y) d1)) = (elimTo 0 c r M1 R).set R (stepR 0 c (M1.getD r []) (M1.getD R []) (j + 1)) := by
                        rw [getD_set hil, List.set_set]
                        congr 1
                        have := stepR_next (lo := 0) (c := c) (own := M1.getD r []) (row := M1.getD R []) (j := j) (Nat.zero_le _) (by omega)
                        rw [← this]
                        congr 1
                        have e1 : (M1.getD R [])[j]'(by omega) = u := by rw [← hu]; exact (getD_lt (by omega)).symm
                        rw [e1, show (M1.getD R []).getD c 0 = x from HX.out, show (M1.getD r []).getD c 0 = y from HY.out, show (M1.getD r []).getD j 0 = d1 from hd1]
                      have hput := HM.out.put hRn hj HXI.out hzb
                      rw [hnext] at hput
                      have HPUT : Aside0 (MxAll (wr.drew.setCell ⟨xi, j, none⟩ (.int .i64 (xr u (x * y) d1))) w.heap.size b cap bs1 n0 m ((elimTo 0 c r M1 R).set R (stepR 0 c (M1.getD r []) (M1.getD R []) (j + 1)))) := ⟨hput⟩
                      have HBP : Aside0 (Below w.heap.size w (wr.drew.setCell ⟨xi, j, none⟩ (.int .i64 (xr u (x * y) d1)))) := ⟨HB.out.drew.setCell (p := ⟨xi, j, none⟩) (HM.out.base hRn HXI.out) _⟩
                      have HCP : Aside0 (CB (wr.drew.setCell ⟨xi, j, none⟩ (.int .i64 (xr u (x * y) d1))) y0 c) := ⟨CB.inner (W := wr.drew) HC.out HM.out.2.2.2.2 HXI.out j _⟩
                      clear hput hnext hu hd1 hub hdb hzb hrl HM HB HC
                      go_wp2
                      refine st_ 21 (S := fun w' => w'.cell? ⟨xi, j, none⟩ = some (.int .i64 u) ∧ w'.cell? ⟨xp, j, none⟩ = some (.int .i64 d1)) (ds := [20]) ⟨hac, hdc⟩ (fun hHeld => ?_)
                      refine with_tabW (T := (true, [([], []), ([], []), ([], []), ([], []), ([2, 3], [2, 3]), ([4], [4]), ([], []), ([], []), ([], []), ([7, 8], [7, 8]), ([9], [9]), ([6, 10], [6, 10]), ([5, 11], [5, 11]), ([], []), ([12, 13], [12, 13]), ([], []), ([14, 15], [14, 15]), ([], []), ([16, 17], [16, 17]), ([0, 1, 0, 1, 2, 3, 4, 5, 6, 7, 8, 9, 10, 11, 12, 13, 14, 15, 16, 17, 18], [0, 1]), ([19, 18, 0, 1, 2, 3, 4, 5, 6, 7, 8, 9, 10, 11, 12, 13, 14, 15, 16, 17, 18], [18, 19])])) (B := [0, 0, 0, 0, 12, 28, 0, 0, 0, 384, 896, 1984, 4092, 0, 16380, 0, 65532, 0, 262140, 524287, 1048575]) (by kernel_rfl) (by kernel_rfl) (fun HT_ HW_ => ?_)
                      refine pd_ 0 128 1 HT_ ?_
                      refine pd_ 1 129 3 HT_ ?_
                      refine pd_ 2 130 7 HT_ ?_
                      refine pd_ 3 131 15 HT_ ?_
                      refine pd_ 4 132 31 HT_ ?_
                      refine pd_ 6 134 95 HT_ ?_
                      refine pd_ 7 135 223 HT_ ?_
                      refine pd_ 8 136 479 HT_ ?_
                      refine pd_ 9 137 991 HT_ ?_
                      refine pd_ 13 141 9183 HT_ ?_
                      refine pd_ 15 143 41951 HT_ ?_
                      refine pd_ 17 145 173023 HT_ ?_
                      refine tk_ 5 133 173055 HT_ HW_ hHeld ?_
                      refine tk_ 10 138 174079 HT_ HW_ hHeld ?_
                      refine pd_ 11 139 176127 HT_ ?_
                      refine pd_ 12 140 180223 HT_ ?_
                      refine pd_ 14 142 196607 HT_ ?_
                      refine pd_ 16 144 262143 HT_ ?_
                      refine pd_ 18 146 524287 HT_ ?_
                      refine pd_ 19 147 1048575 HT_ ?_
                      refine la_ 20 none 2097151 HT_ (fun K hK => ?_)
                      (have hac' : wr.drew.cell? ⟨xi, j, none⟩ = some (.int .i64 u) := hac; have haf' : wr.drew.frozen? ⟨xi, j, none⟩ = false := haf; refine skip_ (by rfl) rfl (w1 := wr.drew.setCell ⟨xi, j, none⟩ (.int .i64 (xr u (x * y) d1))) (by go_simp) ?_)
                      refine hK.out _ _ ?_
                      clear hK K
                      refine dn_ HT_ ?_
                      go_wp2
                      go_roundw
                      case measure => simp [intOf]; omega
                      case rel => exact ⟨j + 1, by omega, by go_num, HPUT, HCP, HBP⟩
                    · obtain rfl : j = m := by omega
                      have hjz : ¬ (j : Int) < (j : Int) := by omega
                      have hfull : (elimTo 0 c r M1 R).set R (stepR 0 c (M1.getD r []) (M1.getD R []) j) = elimTo 0 c r M1 (r + 1 + (i + 1)) := by
                        rw [show r + 1 + (i + 1) = R + 1 by omega, ← elimTo_next hRr (by omega), getD_at (show R < M1.length by omega), HLEN.out R (by omega)]
                      rw [hfull] at HM
                      clear hfull
                      go_wp2
                      exact ⟨⟨i + 1, by omega, by go_num, HM, HC, HB⟩, by simp [intOf]; omega⟩
                · obtain rfl : i = n0 - (r + 1) := by omega
                  have hiz : ¬ ((n0 - (r + 1) : Nat) : Int) < ((n0 - (r + 1) : Nat) : Int) := by omega
                  rw [show r + 1 + (n0 - (r + 1)) = n0 by omega] at HM
                  go_wp2
                  exact ⟨⟨r + 1, c + 1, bs1, _, by omega, by omega, by omega, by go_num, by go_num, HF2, HM, HB⟩, by simp [intOf]; omega⟩
          · obtain rfl : c = m := by omega
            have hltz : ¬ (c : Int) < (c : Int) := by omega
            go_wp2
            go_ret
            exact ⟨by unfold elimAll; (try rw [hM0]); (try rw [hm]); rw [HF.out]; rfl, HB.out⟩
end Go.Proofs.Ytomdfjohnmikdaa.Im
namespace Go.Proofs.Ytomdfjohnmikdaa.Im
def Zero (M : List (List Int)) (m r c : Nat) : Prop := Bits M ∧ (∀ row ∈ M, row.length = m) ∧ ∀ i, r ≤ i → i < M.length → ∀ q, q < c → ent M i q = 0
theorem xr_zero (x t : Int) : xr x t 0 = x := by
  unfold xr
  rw [if_neg (fun h => by have := h.2; omega)]
theorem stepR_low {lo c : Nat} {own row : List Int} (hlo : lo ≤ c) (h : ∀ q, q < c → own.getD q 0 = 0) (j : Nat) : stepR c c own row j = stepR lo c own row j := by
  apply List.ext_getElem
  · rw [stepR_len, stepR_len]
  · intro q h1 h2
    have hq : q < row.length := by rw [stepR_len] at h1; exact h1
    rw [stepR_at hq, stepR_at hq]
    by_cases h3 : c ≤ q ∧ q < j
    · rw [if_pos h3, if_pos ⟨by omega, h3.2⟩]
    · rw [if_neg h3]
      by_cases h4 : lo ≤ q ∧ q < j
      · rw [if_pos h4, h q (by omega), xr_zero]
      · rw [if_neg h4]
theorem elimTo_low {lo c r : Nat} {M : List (List Int)} (hlo : lo ≤ c) (h : ∀ q, q < c → ent M r q = 0) (i : Nat) : elimTo c c r M i = elimTo lo c r M i := by
  apply List.ext_getElem
  · rw [elimTo_len, elimTo_len]
  · intro q h1 h2
    have hq : q < M.length := by rw [elimTo_len] at h1; exact h1
    rw [elimTo_at hq, elimTo_at hq]
    by_cases h3 : r < q ∧ q < i
    · rw [if_pos h3, if_pos h3]
      exact stepR_low hlo h _
    · rw [if_neg h3, if_neg h3]
theorem findZ_hit {M : List (List Int)} {c r i : Nat} (h : findZ M c r = some i) : r ≤ i ∧ i < M.length ∧ ent M i c ≠ 0 := by
  unfold findZ at h
  have h1 := List.mem_of_find?_eq_some h
  have h2 := List.find?_some h
  have := List.mem_range'_1.1 h1
  exact ⟨this.1, by omega, by simpa using h2⟩
theorem findZ_miss {M : List (List Int)} {c r : Nat} (h : findZ M c r = none) : ∀ i, r ≤ i → i < M.length → ent M i c = 0 := by
  unfold findZ at h
  intro i h1 h2
  have := List.find?_eq_none.1 h i (List.mem_range'_1.2 ⟨h1, by omega⟩)
  simpa using this
theorem row_at {M : List (List Int)} {i : Nat} (hi : i < M.length) : M.getD i [] = M[i] := getD_at hi
theorem zero_step {lo : Nat → Nat} {M : List (List Int)} {m r c : Nat} (hlo : lo c ≤ c) (hc : c < m) (h : Zero M m r c) (hr : r ≤ M.length) : elimStep id (M, r) c = elimStep lo (M, r) c ∧ Zero (elimStep id (M, r) c).1 m (elimStep id (M, r) c).2 (c + 1) ∧ (elimStep id (M, r) c).2 ≤ (elimStep id (M, r) c).1.length := by
  unfold elimStep
  cases hf : findZ M c r with
  | none =>
    refine ⟨rfl, ⟨h.1, h.2.1, fun i h1 h2 q hq => ?_⟩, hr⟩
    by_cases hqc : q < c
    · exact h.2.2 i h1 h2 q hqc
    · rw [show q = c by omega]; exact findZ_miss hf i h1 h2
  | some p =>
    obtain ⟨h1, h2, h3⟩ := findZ_hit hf
    have hr' : r < M.length := by omega
    have hsl : (swapL M p r).length = M.length := swapL_len _ _ _
    have hsr : ∀ i (hi : i < M.length), (swapL M p r)[i]'(by rw [hsl]; exact hi) = if i = r then M[p] else if i = p then M[r] else M[i] := fun i hi => swapL_at h2 hr' (by rw [hsl]; exact hi)
    have hse : ∀ i, r ≤ i → i < M.length → ∃ k, r ≤ k ∧ k < M.length ∧ ∀ q, ent (swapL M p r) i q = ent M k q := fun i h4 h5 => by
      have e := hsr i h5
      have e1 : ∀ k (hk : k < M.length), (swapL M p r)[i]'(by rw [hsl]; exact h5) = M[k] → ∀ q, ent (swapL M p r) i q = ent M k q := fun k hk e q => by
        unfold ent
        rw [row_at (by rw [hsl]; exact h5), row_at hk, e]
      by_cases hir : i = r
      · rw [if_pos hir] at e; exact ⟨p, h1, h2, e1 p h2 e⟩
      · rw [if_neg hir] at e
        by_cases hip : i = p
        · rw [if_pos hip] at e; exact ⟨r, Nat.le_refl _, hr', e1 r hr' e⟩
        · rw [if_neg hip] at e; exact ⟨i, h4, h5, e1 i h5 e⟩
    have hz : ∀ i, r ≤ i → i < M.length → ∀ q, q < c → ent (swapL M p r) i q = 0 := fun i h4 h5 q hq => by
      obtain ⟨k, k1, k2, k3⟩ := hse i h4 h5
      rw [k3]; exact h.2.2 k k1 k2 q hq
    have hown : ent (swapL M p r) r c ≠ 0 := by
      have e := hsr r hr'
      rw [if_pos rfl] at e
      unfold ent
      rw [row_at (by rw [hsl]; exact hr'), e, ← row_at h2]
      exact h3
    have hsb := swap_bits h.1 h2 hr'
    have hslen : ∀ row ∈ swapL M p r, row.length = m := by
      intro row hrow
      obtain ⟨i, hi, rfl⟩ := List.mem_iff_getElem.1 hrow
      have hi' : i < M.length := by rw [hsl] at hi; exact hi
      rw [hsr i hi']
      split
      · exact h.2.1 _ (List.getElem_mem _)
      · split <;> exact h.2.1 _ (List.getElem_mem _)
    refine ⟨?_, ⟨elimTo_bits hsb, ?_, ?_⟩, ?_⟩
    · show (elimTo c c r (swapL M p r) M.length, r + 1) = (elimTo (lo c) c r (swapL M p r) M.length, r + 1)
      rw [elimTo_low hlo (fun q hq => hz r (Nat.le_refl _) hr' q hq)]
    · intro row hrow
      obtain ⟨i, hi, rfl⟩ := List.mem_iff_getElem.1 hrow
      have hi' : i < (swapL M p r).length := by rw [elimTo_len] at hi; exact hi
      rw [elimTo_at hi']
      split
      · rw [stepR_len]; exact hslen _ (List.getElem_mem _)
      · exact hslen _ (List.getElem_mem _)
    · intro i h4 h5 q hq
      have h5' : i < (swapL M p r).length := by
        have : (elimTo c c r (swapL M p r) M.length).length = (swapL M p r).length := elimTo_len _ _ _ _ _
        exact this ▸ h5
      have h6 : i < M.length := by rw [← hsl]; exact h5'
      have hrl := hslen _ (List.getElem_mem h5')
      have h4' : r + 1 ≤ i := h4
      have e : (elimTo c c r (swapL M p r) M.length).getD i [] = stepR c c ((swapL M p r).getD r []) (swapL M p r)[i] (swapL M p r)[i].length := by
        rw [row_at (by rw [elimTo_len]; exact h5'), elimTo_at h5', if_pos ⟨by omega, h6⟩]
      show ent (elimTo c c r (swapL M p r) M.length) i q = 0
      unfold ent
      rw [e]
      have hqm : q < (swapL M p r)[i].length := by omega
      rw [getD_lt (by rw [stepR_len]; exact hqm), stepR_at hqm]
      have hx : ent (swapL M p r) i q = (swapL M p r)[i][q] := ent_at h5' hqm
      by_cases hqc : q < c
      · rw [if_neg (by omega), ← hx]
        exact hz i (by omega) h6 q hqc
      · obtain rfl : q = c := by omega
        rw [if_pos ⟨Nat.le_refl _, hqm⟩]
        have ho : ((swapL M p r).getD r []).getD q 0 = 1 := by
          have := bit_ent hsb r q
          rcases this with h7 | h7
          · exact absurd h7 hown
          · exact h7
        have hb : Bit (swapL M p r)[i][q] := hsb _ (List.getElem_mem _) _ (List.getElem_mem _)
        rw [ho, getD_lt hqm, Int.mul_one]
        unfold xr
        rcases hb with h7 | h7 <;> rw [h7] <;> simp
    · show r + 1 ≤ (elimTo c c r (swapL M p r) M.length).length
      rw [elimTo_len, hsl]; omega
theorem elim_same {lo : Nat → Nat} (hlo : ∀ c, lo c ≤ c) {M : List (List Int)} {m : Nat} (hb : Bits M) (hl : ∀ row ∈ M, row.length = m) : elimAll id M m = elimAll lo M m := by
  have key : ∀ c, c ≤ m → (List.range c).foldl (elimStep id) (M, 0) = (List.range c).foldl (elimStep lo) (M, 0) ∧ Zero ((List.range c).foldl (elimStep id) (M, 0)).1 m ((List.range c).foldl (elimStep id) (M, 0)).2 c ∧ ((List.range c).foldl (elimStep id) (M, 0)).2 ≤ ((List.range c).foldl (elimStep id) (M, 0)).1.length := by
    intro c
    induction c with
    | zero => exact fun _ => ⟨rfl, ⟨hb, hl, fun i _ _ q hq => absurd hq (Nat.not_lt_zero _)⟩, Nat.zero_le _⟩
    | succ c ih =>
      intro hc
      obtain ⟨h1, h2, h3⟩ := ih (by omega)
      rw [List.range_succ, List.foldl_append, List.foldl_append, ← h1]
      generalize (List.range c).foldl (elimStep id) (M, 0) = s at h2 h3
      obtain ⟨M1, r⟩ := s
      obtain ⟨a1, a2, a3⟩ := zero_step (lo := lo) (hlo c) (by omega) h2 h3
      refine ⟨a1, a2, a3⟩
  exact (key m (Nat.le_refl _)).1
end Go.Proofs.Ytomdfjohnmikdaa.Im
namespace Go.Proofs.Ytomdfjohnmikdaa.QS
open Cw Kp Ext Go.RowKit YtomdfjohnmikdaaW.PrintWords YtomdfjohnmikdaaW.PrintLast YtomdfjohnmikdaaW.PrintMore
attribute [local go_sem] max2_int min2_int max_two min_two max_three min_three max_four min_four   -- for this text's walks alone
def spec_l01Dim.l0 : Nat → Int → Int → Int → List Int → Option (Int)
 | 0, _, _, _, _ => none
 | k + 1, x3, x4, x162000, x162001 => if x4 < (x162001.length : Int) then (if 0 ≤ x4 then ((spec_l01Ones.f k (rd x162001 x4)).bind fun t163 => (spec_l01Dim.l0 k (mx x3 (wrap64 (t163 - 1))) (wrap64 (x4 + 1)) x162000 x162001)) else (none)) else (some x3)
def spec_l01Dim.f (k : Nat) (a0_0 : Int) (l0_1 : List Int) : Option (Int) := spec_l01Dim.l0 k (-1) 0 a0_0 l0_1
theorem spec_l01Dim.mono_l : ∀ k, (∀ y0 y1 y2 y3, LeO (spec_l01Dim.l0 k y0 y1 y2 y3) (spec_l01Dim.l0 (k + 1) y0 y1 y2 y3))
 | 0 => fun _ _ _ _ r h => by simp [spec_l01Dim.l0] at h
 | k + 1 => by
  have ih0 := spec_l01Dim.mono_l k
  ·intro y0 y1 y2 y3
   unfold spec_l01Dim.l0
   repeat' first
   | (with_reducible exact ih0 _ _ _ _)
   | (with_reducible exact spec_l01Ones.mono _ _)
   | (with_reducible exact LeO.refl _)
   | (with_reducible exact LeO.none _)
   | (with_reducible refine LeO.ite ?_ ?_)
   | (with_reducible refine LeO.bind ?_ (fun _ => ?_))
   | exact ih0 _ _ _ _
   | exact spec_l01Ones.mono _ _
   | exact LeO.none _
   | refine LeO.ite ?_ ?_
   | refine LeO.bind ?_ (fun _ => ?_)
theorem spec_l01Dim.mono : ∀ a0 a1 k, LeO (spec_l01Dim.f k a0 a1) (spec_l01Dim.f (k + 1) a0 a1) := by
 intro a0 a1 k
 have ih0 := spec_l01Dim.mono_l k
 unfold spec_l01Dim.f
 repeat' first
   | (with_reducible exact ih0 _ _ _ _)
   | (with_reducible exact spec_l01Ones.mono _ _)
   | (with_reducible exact LeO.refl _)
   | (with_reducible exact LeO.none _)
   | (with_reducible refine LeO.ite ?_ ?_)
   | (with_reducible refine LeO.bind ?_ (fun _ => ?_))
   | exact ih0 _ _ _ _
   | exact spec_l01Ones.mono _ _
   | exact LeO.none _
   | refine LeO.ite ?_ ?_
   | refine LeO.bind ?_ (fun _ => ?_)
set_option maxHeartbeats 8000000 in
set_option maxRecDepth 100000 in
theorem spec_l01Dim.calls (k : Nat) (a0_0 : Int) (A0_1 : Option Addr) (c0_1 : Nat) (l0_1 : List Int) (r : Int) (w : World) (hr0_1 : Kd.C (Kd.int .i64) w A0_1 l0_1.length l0_1) (hc0_1 : l0_1.length ≤ c0_1) (h : spec_l01Dim.f k a0_0 l0_1 = some r) :
  Calls Try.prog 103 #[.agg #[.int .i64 a0_0, .slice A0_1 l0_1.length c0_1]] w fun e w' => e = .returned (.int .i64 r) ∧ Below w.heap.size w w' := by
 have hu28 := Try.underlying28
 have HR0_1 := Aside0.mk hr0_1
 have HC0_1 := Aside0.mk hc0_1
 clear hr0_1 hc0_1
 have HB := Aside0.mk (Below.refl w.heap.size w)
 have H : (spec_l01Dim.l0 k (-1) 0 a0_0 l0_1) = some r := h
 clear h
 have H' := Aside0.mk H
 clear H
 go_enter Try.func103, Try.ntmps103
 go_wp2_with (first | ((with_reducible refine gate_dst (N := 1) rfl ?_); refine box_event ?hg (N := 1) ?hd (cs := #[.int .i64 a0_0, .slice A0_1 l0_1.length c0_1]) (t := 28) ?hr ?_; (case hd => rfl); (case hg => rfl); (case hr => first | (go_simp; done) | (go_simp; rfl)); intro gb161 hg w2 hbox hb; have BK161 := Aside0.mk (hbox); have GW161 := gH HB hg; have GE161 := gH HB hg; replace HB := sH HB hb; clear hb hbox hg))
 go_loopg [3, 4] k (fun kq v3 v4 w' => ∃ (x3_1 : Int) (x4_1 : Int), v3 = .int .i64 x3_1 ∧ v4 = .int .i64 x4_1 ∧ Aside0 (spec_l01Dim.l0 kq x3_1 x4_1 a0_0 l0_1 = some r) ∧ Aside0 (kq ≤ k) ∧ Aside0 (w'.heap[gb161]? = some (.cells #[.int .i64 a0_0, (.slice A0_1 l0_1.length c0_1)] 28 (0, 0))) ∧ Aside0 (Below w.heap.size w w'))
 case atStart => exact ⟨((-1)), (0), (by first | rfl | (simp; done) | (simp [*]; done)), (by first | rfl | (simp; done) | (simp [*]; done)), H', ⟨Nat.le_refl _⟩, ⟨pB BK161⟩, ⟨pH HB⟩⟩
 case round =>
  clear H'
  try clear c1
  try clear p2
  obtain ⟨x3_1, x4_1, rfl, rfl, HA, HK1, BK161, HB⟩ := hrel
  cases gk with
  | zero => exact absurd HA.out (by simp [spec_l01Dim.l0])
  | succ k1 =>
   have H := HA.out
   clear HA
   simp only [spec_l01Dim.l0] at H
   by_cases c3 : x4_1 < (l0_1.length : Int)
   ·rw [if_pos c3] at H
    have c3b0 : decide (x4_1 < (l0_1.length : Int)) = true := decide_eq_true c3
    clear c3
    by_cases c4 : 0 ≤ x4_1
    ·rw [if_pos c4] at H
     have c4b0 : decide (0 ≤ x4_1) = true := decide_eq_true c4
     clear c4
     replace H := Option.bind_eq_some_iff.mp H
     obtain ⟨t163, A50, H⟩ := H
     try dsimp only at H
     have A5 := Aside0.mk A50
     clear A50
     obtain ⟨ji6, hji6⟩ : ∃ j_ : Int, (mx x3_1 (wrap64 (t163 - 1))) = j_ := ⟨_, rfl⟩
     replace H : (spec_l01Dim.l0 k1 ji6 (wrap64 (x4_1 + 1)) a0_0 l0_1) = some r := by first | (rw [hji6] at H; exact H) | (simp only [hji6] at H ⊢; exact H)
     (try rw [hji6] at A5)
     have hji6_ : (if x3_1 < (wrap64 (t163 - 1)) then (wrap64 (t163 - 1)) else x3_1) = ji6 := hji6
     have H' := Aside0.mk H
     clear H
     have hcz7_0 : wr.cell? ⟨gb161, 0, none⟩ = some (.int .i64 a0_0) := cB BK161 0
     have hcz7_1 : wr.cell? ⟨gb161, 1, none⟩ = some (.slice A0_1 l0_1.length c0_1) := cB BK161 1
     have hfz7_0 := zB BK161 0
     have hfz7_1 := zB BK161 1
     have p162 : 0 ≤ (x4_1 : Int) := of_decide_eq_true (by first | (with_reducible assumption) | assumption)
     have q162 : x4_1 < (l0_1.length : Int) := of_decide_eq_true (by first | (with_reducible assumption) | assumption)
     obtain ⟨ad162, e162, hx162_0⟩ := Kd.at_int HR0_1.out x4_1 p162 q162
     cases e162
     replace hx162_0 := cH HB hx162_0
     replace p162 := eq_true p162
     replace q162 := eq_true q162
     go_wp2_with (first | ((with_reducible refine gate_callee (f := 129) rfl ?_); refine cl_ (some 18) Try.func129 #[.int .i64 (rd l0_1 x4_1)] ?_; (with_reducible refine (spec_l01Ones.calls k1 (rd l0_1 x4_1) t163 _ A5.out).mono ?_); rintro e w' ⟨rfl, ⟨nd, rfl⟩⟩; refine ⟨_, rfl, ?_⟩))
     go_roundg k1
     case measure => have := HK1.out; omega
     case rel => exact ⟨(ji6), (wrap64 (x4_1 + 1)), (by first | rfl | (simp; done) | (simp only [← hji6] <;> (first | rfl | simp)) | (simp [*]; done)), (by first | rfl | (simp; done) | (simp [*]; done)), H', ⟨by have := HK1.out; omega⟩, ⟨pB BK161⟩, ⟨pH HB⟩⟩
    ·rw [if_neg c4] at H
     exact absurd H (by simp)
   ·rw [if_neg c3] at H
    have c3b0 : decide (x4_1 < (l0_1.length : Int)) = false := decide_eq_false c3
    clear c3
    obtain rfl := Option.some.inj H
    have hcz8_0 : wr.cell? ⟨gb161, 0, none⟩ = some (.int .i64 a0_0) := cB BK161 0
    have hcz8_1 : wr.cell? ⟨gb161, 1, none⟩ = some (.slice A0_1 l0_1.length c0_1) := cB BK161 1
    have hfz8_0 := zB BK161 0
    have hfz8_1 := zB BK161 1
    go_wp2
    go_ret
    exact ⟨by first | rfl | (simp [errW_none, errW_some] <;> rfl) | (simp [*, errW_none, errW_some] <;> rfl) | (exfalso; simp_all), pH HB⟩
end Go.Proofs.Ytomdfjohnmikdaa.QS
namespace Go.Proofs.Ytomdfjohnmikdaa.Pu
open Go.RowKit QS Im YtomdfjohnmikdaaW.PrintWords YtomdfjohnmikdaaW.PrintLast YtomdfjohnmikdaaW.PrintMore
theorem ev_dimO {n : Int} {l : List Int} (hi : isC n l = true) : Ev (fun k => spec_l01Dim.f k n l) (dimL l) := by
  have hl := isC_len hi
  have hr := isC_63 hi
  have key : ∀ d (i : Nat) (a : Int), l.length - i = d → i ≤ l.length → Ev (fun k => spec_l01Dim.l0 k a i n l) ((l.drop i).foldl (fun a x => max a (onesZ x - 1)) a) := by
    intro d
    induction d with
    | zero =>
      intro i a hd hi
      rw [List.drop_eq_nil_of_le (by omega)]
      refine Ev.step (f := fun k => some a) (fun k => ?_) (Ev.now _)
      simp only [spec_l01Dim.l0]; rw [if_neg (by omega)]
    | succ d ih =>
      intro i a hd hi
      have hi' : i < l.length := by omega
      have hx := hr _ (List.getElem_mem hi')
      have h1 := ones_le l[i]
      rw [List.drop_eq_getElem_cons hi', List.foldl_cons]
      refine Ev.step (f := fun k => (spec_l01Ones.f k l[i]).bind fun t320 => (spec_l01Dim.l0 k (mx a (wrap64 (t320 - 1))) ((i + 1 : Nat) : Int) n l)) (fun k => ?_) ?_
      · simp only [spec_l01Dim.l0]
        rw [if_pos (by omega), if_pos (by omega), rd_at hi', show wrap64 ((i : Int) + 1) = ((i + 1 : Nat) : Int) by rw [w64 (by omega) (by omega)]; omega]
      · refine Ev.bind (ev_ones (by omega) (by omega)) ?_
        rw [w64 (by omega) (by omega), show mx a (onesZ l[i] - 1) = max a (onesZ l[i] - 1) by unfold mx; split <;> omega]
        exact ih (i + 1) _ (by omega) (by omega)
  exact key _ 0 (-1) rfl (Nat.zero_le _)
theorem ev_ofO {n : Int} {l : List Int} (hi : isC n l = true) (j : Nat) (hj : j ≤ 100) : Ev (fun k => spec_l01Of.f k n l (j : Int)) (l.filter fun x => onesZ x == ((j + 1 : Nat) : Int)) := by
  have hl := isC_len hi
  have hr := isC_63 hi
  have key : ∀ d (i : Nat) (acc : List Int), l.length - i = d → i ≤ l.length → acc.length ≤ i → Ev (fun k => spec_l01Of.l0 k (j : Int) acc i n l) (acc ++ (l.drop i).filter fun x => onesZ x == ((j + 1 : Nat) : Int)) := by
    intro d
    induction d with
    | zero =>
      intro i acc hd hi ha
      rw [List.drop_eq_nil_of_le (by omega), List.filter_nil, List.append_nil]
      refine Ev.step (f := fun k => some acc) (fun k => ?_) (Ev.now _)
      simp only [spec_l01Of.l0]; rw [if_neg (by omega)]
    | succ d ih =>
      intro i acc hd hi ha
      have hi' : i < l.length := by omega
      have hx := hr _ (List.getElem_mem hi')
      have hwj : wrap64 ((j : Int) + 1) = ((j + 1 : Nat) : Int) := by rw [w64 (by omega) (by omega)]; omega
      rw [List.drop_eq_getElem_cons hi']
      refine Ev.step (f := fun k => (spec_l01Ones.f k l[i]).bind fun t326 => (if t326 = ((j + 1 : Nat) : Int) then (spec_l01Of.l0 k (j : Int) (acc ++ [l[i]]) ((i + 1 : Nat) : Int) n l) else (spec_l01Of.l0 k (j : Int) acc ((i + 1 : Nat) : Int) n l))) (fun k => ?_) ?_
      · simp only [spec_l01Of.l0]
        rw [if_pos (by omega), if_pos (by omega), rd_at hi', show wrap64 ((i : Int) + 1) = ((i + 1 : Nat) : Int) by rw [w64 (by omega) (by omega)]; omega, hwj]
        simp only [if_pos (show acc.length < 17592186044416 by omega)]
      · refine Ev.bind (ev_ones (by omega) (by omega)) ?_
        by_cases ho : onesZ l[i] = ((j + 1 : Nat) : Int)
        · simp only [if_pos ho]
          rw [List.filter_cons_of_pos (by rw [ho]; exact beq_self_eq_true _)]
          have := ih (i + 1) (acc ++ [l[i]]) (by omega) (by omega) (by rw [List.length_append]; simp; omega)
          rw [List.append_assoc] at this
          exact this
        · simp only [if_neg ho]
          rw [List.filter_cons_of_neg (by rw [beq_eq_false_iff_ne.2 ho]; exact Bool.false_ne_true)]
          exact ih (i + 1) acc (by omega) (by omega) (by omega)
  have := key _ 0 [] rfl (Nat.zero_le _) (by simp)
  rw [List.drop_zero, List.nil_append] at this
  exact this
def sigL (f : Int) : List Int := if onesZ f ≤ 1 then [] else ((List.range (onesZ f).toNat).map fun (a : Nat) => (1 - 2 * ((a : Int) % 2) : Int)).reverse
theorem sig_all : ((List.range 64).all fun f => f == 0 || (spec_l03Signs.f 10 (f : Int) == some (sigL (f : Int)))) = true := by decide +kernel
theorem ev_signs {f : Int} (h1 : 1 ≤ f) (h2 : f ≤ 63) : Ev (fun k => spec_l03Signs.f k f) (sigL f) := by
  obtain ⟨a, rfl⟩ := Int.eq_ofNat_of_zero_le (show 0 ≤ f by omega)
  have h := List.all_eq_true.1 sig_all a (List.mem_range.2 (by omega))
  rw [Bool.or_eq_true] at h
  rcases h with h | h
  · have := eq_of_beq h; omega
  · exact Ev.of (fun k => spec_l03Signs.mono _ k) (eq_of_beq h)
theorem sig_len_all : ((List.range 64).all fun f => f == 0 || ((sigL (f : Int)).length == (bordersL (f : Int)).length && ((sigL (f : Int)).all fun s => s == 1 || s == -1) && ((bordersL (f : Int)).all fun g => onesZ g + 1 == onesZ (f : Int)))) = true := by decide +kernel
theorem sig_facts {f : Int} (h1 : 1 ≤ f) (h2 : f ≤ 63) : (sigL f).length = (bordersL f).length ∧ (∀ s ∈ sigL f, s = 1 ∨ s = -1) ∧ ∀ g ∈ bordersL f, onesZ g + 1 = onesZ f := by
  obtain ⟨a, rfl⟩ := Int.eq_ofNat_of_zero_le (show 0 ≤ f by omega)
  have h := List.all_eq_true.1 sig_len_all a (List.mem_range.2 (by omega))
  rw [Bool.or_eq_true] at h
  rcases h with h | h
  · have := eq_of_beq h; omega
  · simp only [Bool.and_eq_true] at h
    refine ⟨eq_of_beq h.1.1, fun s hs => ?_, fun g hg => eq_of_beq (List.all_eq_true.1 h.2 g hg)⟩
    have := List.all_eq_true.1 h.1.2 s hs
    rw [Bool.or_eq_true, beq_iff_eq, beq_iff_eq] at this
    exact this
theorem place_loop (l : List Int) (hl : l.length ≤ 1000) (g : Int) {p : Nat} (hp : p < l.length) (hg : l[p] = g) (hn : ∀ q (h : q < l.length), q < p → l[q] ≠ g) : ∀ d (i : Nat), p - i = d → i ≤ p → Ev (fun k => spec_l03Place.l0 k l g i) (p : Int) := by
  intro d
  induction d with
  | zero =>
    intro i hd hi
    obtain rfl : i = p := by omega
    refine Ev.step (f := fun k => some (i : Int)) (fun k => ?_) (Ev.now _)
    simp only [spec_l03Place.l0]
    rw [if_pos (by omega), if_pos (by omega), rd_at hp, if_pos hg]
  | succ d ih =>
    intro i hd hi
    have hi' : i < l.length := by omega
    refine Ev.step (fun k => ?_) (ih (i + 1) (by omega) (by omega))
    simp only [spec_l03Place.l0]
    rw [if_pos (by omega), if_pos (by omega), rd_at hi', if_neg (hn i hi' (by omega)), show wrap64 ((i : Int) + 1) = ((i + 1 : Nat) : Int) by rw [w64 (by omega) (by omega)]; omega]
theorem ev_place {l : List Int} (hl : l.length ≤ 1000) (hn : l.Nodup) {g : Int} (hg : g ∈ l) : ∃ p : Nat, Ev (fun k => spec_l03Place.f k l g) (p : Int) ∧ ∃ h : p < l.length, l[p] = g := by
  obtain ⟨p, hp, he⟩ := List.mem_iff_getElem.1 hg
  refine ⟨p, ?_, hp, he⟩
  unfold spec_l03Place.f
  refine place_loop l hl g hp he (fun q h hq e => ?_) _ 0 rfl (Nat.zero_le _)
  have := List.pairwise_iff_getElem.1 (List.nodup_iff_pairwise_ne.1 hn) q p h hp hq
  exact this (e.trans he.symm)
end Go.Proofs.Ytomdfjohnmikdaa.Pu
namespace Go.Proofs.Ytomdfjohnmikdaa.Im
open Go.RowKit Go.Shelf Cw Pu YtomdfjohnmikdaaW.PrintWords YtomdfjohnmikdaaW.PrintLast YtomdfjohnmikdaaW.PrintMore
def ofL (xs : List Int) (j : Nat) : List Int := xs.filter fun x => onesZ x == ((j + 1 : Nat) : Int)
def rankS (xs : List Int) (d : Int) : Int := if d < 1 ∨ dimL xs < d then 0 else ((elimAll id (matZ (ofL xs (d.toNat - 1)) (ofL xs d.toNat) bordersL) (ofL xs (d.toNat - 1)).length).2 : Int)
theorem ev_list {α β : Type} {g : α → Nat → Option β} {Q : α → β → Prop} : ∀ l : List α, (∀ x ∈ l, ∃ r, Ev (g x) r ∧ Q x r) → ∃ K, ∀ k, K ≤ k → ∀ x ∈ l, ∃ r, g x k = some r ∧ Q x r
  | [], _ => ⟨0, fun k _ x hx => by cases hx⟩
  | a :: l, h => by
    obtain ⟨K1, h1⟩ := ev_list l (fun x hx => h x (List.mem_cons_of_mem _ hx))
    obtain ⟨r, ⟨K2, h2⟩, hq⟩ := h a (by simp)
    refine ⟨max K1 K2, fun k hk x hx => ?_⟩
    rcases List.mem_cons.1 hx with rfl | hx
    · exact ⟨r, h2 k (by omega), hq⟩
    · exact h1 k (by omega) x hx
theorem ofL_mem {xs : List Int} {j : Nat} {x : Int} (h : x ∈ ofL xs j) : x ∈ xs ∧ onesZ x = ((j + 1 : Nat) : Int) := by
  have := List.mem_filter.1 h
  exact ⟨this.1, eq_of_beq this.2⟩
theorem border_of {n : Int} {xs : List Int} (hi : isC n xs = true) {j : Nat} {f g : Int} (hf : f ∈ ofL xs (j + 1)) (hg : g ∈ bordersL f) : g ∈ ofL xs j := by
  obtain ⟨h1, h2⟩ := ofL_mem hf
  have r := isC_63 hi f h1
  have hc := List.all_eq_true.1 (isC_of hi).2.2 f h1
  have hm := of_decide_eq_true (List.all_eq_true.1 hc g hg)
  have ho := (sig_facts r.1 r.2).2.2 g hg
  refine List.mem_filter.2 ⟨hm, ?_⟩
  rw [beq_iff_eq]
  omega
theorem foldmax_hit (g : Int → Int) : ∀ (l : List Int) (a : Int), l.foldl (fun a x => max a (g x)) a = a ∨ ∃ x ∈ l, g x = l.foldl (fun a x => max a (g x)) a
  | [], a => .inl rfl
  | x :: l, a => by
    rw [List.foldl_cons]
    rcases foldmax_hit g l (max a (g x)) with h | ⟨y, hy, h⟩
    · rw [h]
      rcases Int.le_total a (g x) with h1 | h1
      · rw [Int.max_eq_right h1]
        exact .inr ⟨x, by simp, rfl⟩
      · rw [Int.max_eq_left h1]
        exact .inl rfl
    · exact .inr ⟨y, by simp [hy], h⟩
theorem borders_some : ((List.range 64).all fun f => decide (onesZ (f : Int) ≤ 1) || !(bordersL (f : Int)).isEmpty) = true := by decide +kernel
theorem of_some {n : Int} {xs : List Int} (hi : isC n xs = true) : ∀ (e j : Nat), (j : Int) + e = dimL xs → 0 < (ofL xs j).length
  | 0, j, h => by
    rcases foldmax_hit (fun x => onesZ x - 1) xs (-1) with h1 | ⟨x, hx, h1⟩
    · unfold dimL at h; omega
    · refine List.length_pos_of_mem (a := x) (List.mem_filter.2 ⟨hx, ?_⟩)
      unfold dimL at h
      rw [beq_iff_eq]
      have h2 : onesZ x - 1 = xs.foldl (fun a x => max a (onesZ x - 1)) (-1) := h1
      omega
  | e + 1, j, h => by
    have ih := of_some hi e (j + 1) (by omega)
    obtain ⟨f, hf⟩ := List.exists_mem_of_length_pos ih
    obtain ⟨h1, h2⟩ := ofL_mem hf
    have r := isC_63 hi f h1
    obtain ⟨a, rfl⟩ := Int.eq_ofNat_of_zero_le (show 0 ≤ f by omega)
    have hb := List.all_eq_true.1 borders_some a (List.mem_range.2 (by omega))
    rw [Bool.or_eq_true] at hb
    rcases hb with hb | hb
    · have := of_decide_eq_true hb; omega
    · cases hl : bordersL (a : Int) with
      | nil => rw [hl] at hb; simp at hb
      | cons g gs => exact List.length_pos_of_mem (border_of hi hf (by rw [hl]; simp : g ∈ bordersL (a : Int)))
theorem filter_nodup {xs : List Int} (h : Asc xs) (p : Int → Bool) : (xs.filter p).Nodup := by
  rw [List.nodup_iff_pairwise_ne]
  exact (h.filter p).imp (fun h => Int.ne_of_lt h)
set_option maxRecDepth 100000 in
set_option maxHeartbeats 4000000 in
theorem rankOf_c (n : Int) (A : Option Addr) (c : Nat) (xs : List Int) (d : Int) (w : World) (hr : RC w A xs.length xs) (hc : xs.length ≤ c) (hi : isC n xs = true) :
    Calls Try.prog 105 #[.agg #[.int .i64 n, .slice A xs.length c], .int .i64 d, .int .i64 2] w fun e w' => e = .returned (.int .i64 (rankS xs d)) ∧ Below w.heap.size w w' := by
  have hsm := isC_small hi
  obtain ⟨kd, hkd⟩ := (ev_dimO hi).rounds
  have HX := Aside0.mk (CxAt.new w n A xs.length c)
  have HB := Aside0.mk (below_alloc (Below.refl w.heap.size w) (.cells #[.int .i64 n, .slice A xs.length c] 28))
  have HR := Aside0.mk hr
  have HC := Aside0.mk hc
  have hx0 := HX.out.c0
  have hx1 := HX.out.c1
  clear hr hc
  by_cases h1 : d < 1
  · have HZ : Aside0 (rankS xs d = 0) := ⟨by unfold rankS; rw [if_pos (.inl h1)]⟩
    rw [HZ.out]
    clear hkd
    go_enter Try.func105, Try.ntmps105
    go_wp2
    go_ret
    exact ⟨rfl, HB.out⟩
  · by_cases h2 : dimL xs < d
    · have HZ : Aside0 (rankS xs d = 0) := ⟨by unfold rankS; rw [if_pos (.inr h2)]⟩
      rw [HZ.out]
      have HKD := Aside0.mk hkd
      generalize dimL xs = dm at h2 HKD
      clear hkd
      go_enter Try.func105, Try.ntmps105
      go_wp2_with (go_at_call 103; refine (QS.spec_l01Dim.calls kd n A c xs dm _ (Kd.C_below HR.out HB.out) HC.out HKD.out).mono ?_; rintro e w1 ⟨rfl, hb⟩)
      go_ret
      exact ⟨rfl, below_in HB.out hb⟩
    · obtain ⟨j, rfl⟩ : ∃ j : Nat, d = ((j + 1 : Nat) : Int) := ⟨(d - 1).toNat, by omega⟩
      have hdl : dimL xs ≤ 5 := by
        rcases foldmax_hit (fun x => onesZ x - 1) xs (-1) with h | ⟨x, hx, h⟩
        · unfold dimL; omega
        · have h3 : onesZ x - 1 = xs.foldl (fun a x => max a (onesZ x - 1)) (-1) := h
          have := ones_le x
          unfold dimL; omega
      have HZ : Aside0 (rankS xs ((j + 1 : Nat) : Int) = ((elimAll id (matZ (ofL xs j) (ofL xs (j + 1)) bordersL) (ofL xs j).length).2 : Int)) := ⟨by unfold rankS; rw [if_neg (by omega)]; simp⟩
      rw [HZ.out]
      obtain ⟨K1, hK1⟩ := ev_ofO hi (j + 1) (by omega)
      obtain ⟨K2, hK2⟩ := ev_ofO hi j (by omega)
      have h63 := isC_63 hi
      obtain ⟨K3, hK3⟩ := ev_list (g := fun x k => QS.spec_l01Below.f k x) (Q := fun x r => r = bordersL x) (ofL xs (j + 1)) (fun x hx => ⟨_, ev_below (h63 x (ofL_mem hx).1).1 (h63 x (ofL_mem hx).1).2, rfl⟩)
      obtain ⟨K4, hK4⟩ := ev_list (g := fun x k => QS.spec_l03Signs.f k x) (Q := fun x r => r = sigL x) (ofL xs (j + 1)) (fun x hx => ⟨_, ev_signs (h63 x (ofL_mem hx).1).1 (h63 x (ofL_mem hx).1).2, rfl⟩)
      have hnd : (ofL xs j).Nodup := filter_nodup (ascB_asc (isC_of hi).2.1) _
      have hfl : ∀ q, (ofL xs q).length ≤ xs.length := fun q => List.length_filter_le _ _
      obtain ⟨K5, hK5⟩ := ev_list (g := fun x k => QS.spec_l03Place.f k (ofL xs j) x) (Q := fun x r => ∃ p : Nat, r = (p : Int) ∧ ∃ h : p < (ofL xs j).length, (ofL xs j)[p] = x) (ofL xs j) (fun x hx => by
        obtain ⟨p, hp1, hp2⟩ := ev_place (by have := hfl j; omega) hnd hx
        exact ⟨_, hp1, p, rfl, hp2⟩)
      obtain ⟨k, hk⟩ : ∃ k, K1 ≤ k ∧ K2 ≤ k ∧ K3 ≤ k ∧ K4 ≤ k ∧ K5 ≤ k := ⟨K1 + K2 + K3 + K4 + K5, by omega⟩
      have hF := hK1 k hk.1
      have hC := hK2 k hk.2.1
      have hn1 : 0 < (ofL xs (j + 1)).length := of_some hi (dimL xs - ((j + 1 : Nat) : Int)).toNat (j + 1) (by omega)
      have hn2 : 0 < (ofL xs j).length := of_some hi (dimL xs - (j : Int)).toNat j (by omega)
      have hb2 : Below w.heap.size w (w.alloc (.cells #[.int .i64 n, .slice A xs.length c] 28)) := HB.out
      have hrows := rows2_c k n A c xs ((j + 1 : Nat) : Int) (ofL xs (j + 1)) (ofL xs j) bordersL
      have HROWS : Aside0 (∀ W : World, RC W A xs.length xs → Calls Try.prog 151 #[.agg #[.int .i64 n, .slice A xs.length c], .int .i64 ((j + 1 : Nat) : Int), .int .i64 2] W (RowsPost W (ofL xs j).length (matZ (ofL xs j) (ofL xs (j + 1)) bordersL))) := ⟨fun W hW => hrows W hW HC.out (by omega) hF (by rw [show ((j + 1 : Nat) : Int) - 1 = (j : Int) by omega]; exact hC)
        (fun f hf => by
          obtain ⟨r1, e1, rfl⟩ := hK3 k hk.2.2.1 f hf
          obtain ⟨r2, e2, rfl⟩ := hK4 k hk.2.2.2.1 f hf
          have hsf := sig_facts (h63 f (ofL_mem hf).1).1 (h63 f (ofL_mem hf).1).2
          exact ⟨e1, _, e2, hsf.1, hsf.2.1⟩)
        (fun f hf g hg => by
          obtain ⟨r, e, p, rfl, h⟩ := hK5 k hk.2.2.2.2 g (border_of hi hf hg)
          exact ⟨p, e, h⟩)
        hnd (by have := hfl (j + 1); omega) (by have := hfl j; omega) (fun f hf => by have := borders_len6 (f := f); omega)⟩
      have hML : (matZ (ofL xs j) (ofL xs (j + 1)) bordersL).length = (ofL xs (j + 1)).length := by unfold matZ; simp
      have hMB := matZ_bits (ofL xs j) (ofL xs (j + 1)) bordersL
      have hl1 := hfl (j + 1)
      have hl2 := hfl j
      generalize matZ (ofL xs j) (ofL xs (j + 1)) bordersL = M at HROWS hML hMB ⊢
      generalize (ofL xs j).length = m at HROWS hn2 hl2 ⊢
      generalize (ofL xs (j + 1)).length = nn at hn1 hML hl1
      have HKD := Aside0.mk hkd
      have h2' : ¬ (dimL xs < ((j + 1 : Nat) : Int)) := h2
      generalize dimL xs = dm at h2' HKD
      have hj1 : ¬ (((j + 1 : Nat) : Int) < 1) := by omega
      generalize hjj : ((j + 1 : Nat) : Int) = dd at HROWS h2' hj1 ⊢
      have HMB := Aside0.mk hMB
      clear hkd hK1 hK2 hK3 hK4 hK5 hk hF hC hrows hnd hfl h63 hMB HZ h1 h2 hdl hjj hb2
      go_enter Try.func105, Try.ntmps105
      go_wp2_with (first
        | (go_at_call 103; refine (QS.spec_l01Dim.calls kd n A c xs dm _ (Kd.C_below HR.out HB.out) HC.out HKD.out).mono ?_; rintro e w1 ⟨rfl, hb⟩; have HB1 := Aside0.mk (below_in HB.out hb); have HX1 := Aside0.mk (HX.out.below hb); have hy0 := HX1.out.c0; have hy1 := HX1.out.c1; clear hb hx0 hx1)
        | (go_at_call 151; refine (HROWS.out _ (Kd.C_below HR.out HB1.out)).mono ?_; rintro e w2 ⟨v, bs, rfl, ho, hin, hb⟩; obtain ⟨b, cap, rfl, hall⟩ := MxAll.of ho hin HMB.out (by omega); rw [hML] at hall ⊢; have HALL := Aside0.mk hall; have HB2 := Aside0.mk hb; clear ho hin hb hall)
        | (go_at_call 150; refine (rankS_c b cap nn m _ bs M _ HALL.out (by omega) (by omega) (by omega) (by omega) HB2.out.size).mono ?_; rintro e w3 ⟨rfl, hb⟩; have HB3 := Aside0.mk hb; clear hb))
      go_ret
      exact ⟨rfl, HB1.out.trans ((HB2.out.trans HB3.out).mono HB1.out.size)⟩
end Go.Proofs.Ytomdfjohnmikdaa.Im
namespace Go.Proofs.Ytomdfjohnmikdaa.Im
open Go.RowKit Go.Shelf Ext Cw Pu YtomdfjohnmikdaaW.PrintWords YtomdfjohnmikdaaW.PrintLast YtomdfjohnmikdaaW.PrintMore
theorem okDomRk {l : List Int} (h : ∀ x ∈ l, 1 ≤ x ∧ x ≤ 63) (a : Pred) : okDom a l = true := by
  rw [okDom, Bool.or_eq_true]
  refine .inr (List.all_eq_true.2 fun x hx => ?_)
  have := h x hx
  simp; omega
theorem dimO_eq {x : Int} (h0 : 0 ≤ x) (h6 : x ≤ 63) : QO.impl_dimension.f x = some (onesZ x - 1) :=
  (show QO.impl_dimension.f x = QI.impl_dimension.f x from rfl).trans (dim_eq h0 h6)
theorem ofO_f {n : Int} {l : List Int} (hi : isC n l = true) (d : Int) : QO.impl_Complex_of.f n l d = some (l.filter fun x => onesZ x - 1 == d) := by
  have hs := isC_small hi
  have hc : slices_Clone_int64_int64.f l = some l := by unfold slices_Clone_int64_int64.f; rw [if_pos (by omega)]
  obtain ⟨s1, _, p1⟩ := ofI_face (f := fun x => QO.impl_Complex_of_1.f x d) (p := fun x => onesZ x - 1 != d) fun x h0 h6 => by
    unfold QO.impl_Complex_of_1.f
    rw [dimO_eq h0 h6]; rfl
  have hdl : slices_DeleteFunc_int64_int64.f l (QO.clo_186 d) = some (l.filter fun x => onesZ x - 1 == d) := by
    unfold slices_DeleteFunc_int64_int64.f
    rw [if_pos ⟨by omega, s1, okDomRk (isC_63 hi) _⟩]
    congr 1
    refine List.filter_congr fun x hx => ?_
    have := isC_63 hi x hx
    show (!(Pred.ofI (fun x => QO.impl_Complex_of_1.f x d)).pI x) = _
    rw [p1 x (by omega) (by omega)]
    simp [bne]
  unfold QO.impl_Complex_of.f
  rw [hc, Option.bind_some, hdl, Option.bind_some]
theorem ofO_L {n : Int} {l : List Int} (hi : isC n l = true) (j : Nat) : QO.impl_Complex_of.f n l (j : Int) = some (ofL l j) := by
  rw [ofO_f hi]
  congr 1
  unfold ofL
  refine List.filter_congr fun x _ => ?_
  rw [Bool.eq_iff_iff, beq_iff_eq, beq_iff_eq]
  omega
theorem ones_pos : ((List.range 64).all fun f => f == 0 || decide (1 ≤ onesZ (f : Int))) = true := by decide +kernel
theorem ofO_low {n : Int} {l : List Int} (hi : isC n l = true) : QO.impl_Complex_of.f n l (-1) = some [] := by
  rw [ofO_f hi]
  congr 1
  rw [List.filter_eq_nil_iff]
  intro x hx
  have r := isC_63 hi x hx
  obtain ⟨a, rfl⟩ := Int.eq_ofNat_of_zero_le (show 0 ≤ x by omega)
  have h := List.all_eq_true.1 ones_pos a (List.mem_range.2 (by omega))
  rw [Bool.or_eq_true] at h
  rcases h with h | h
  · have := eq_of_beq h; omega
  · have := of_decide_eq_true h
    rw [beq_iff_eq]; omega
theorem half_w {i j : Nat} (hi : i ≤ 1000000) (hj : j ≤ 1000000) : wrap64 ((IntKind.u64.wrap (wrap64 ((i : Int) + (j : Int)))) / 2) = (((i + j) / 2 : Nat) : Int) := by
  rw [w64_ (x := (i : Int) + (j : Int)) (by omega) (by omega)]
  rw [show IntKind.u64.wrap ((i : Int) + (j : Int)) = (i : Int) + (j : Int) by rw [IntKind.wrap_u64]; omega]
  rw [w64_ (by omega) (by omega)]
  omega
theorem lessO_f (a b : Int) : QO.cmp_Less_int64.f a b = some (decide (a < b)) := by
  unfold QO.cmp_Less_int64.f QO.cmp_isNaN_int64.f
  simp
theorem less_at {C : List Int} (hA : C.Pairwise (· < ·)) {g : Int} {p h : Nat} (hp : p < C.length) (hg : C[p] = g) (hh : h < C.length) : QO.cmp_Less_int64.f (rd C (h : Int)) g = some (decide (h < p)) := by
  rw [lessO_f, rd_at' hh, ← hg]
  congr 1
  rw [decide_eq_decide]
  rcases Nat.lt_trichotomy h p with h1 | h1 | h1
  · exact ⟨fun _ => h1, fun _ => List.pairwise_iff_getElem.1 hA h p hh hp h1⟩
  · subst h1
    exact ⟨fun h => absurd h (Int.lt_irrefl _), fun h => absurd h (Nat.lt_irrefl _)⟩
  · have := List.pairwise_iff_getElem.1 hA p h hp hh h1
    exact ⟨fun h => by omega, fun h => by omega⟩
theorem bs_loop {C : List Int} (hA : C.Pairwise (· < ·)) (hl : C.length ≤ 1000000) {g : Int} {p : Nat} (hp : p < C.length) (hg : C[p] = g) : ∀ d (i j : Nat), j - i = d → i ≤ p → p ≤ j → j ≤ C.length →
    Ev (fun k => QO.slices_BinarySearch_int64_int64.l0 k C g (C.length : Int) i j) ((p : Int), true) := by
  intro d
  induction d using Nat.strongRecOn with
  | _ d ih =>
    intro i j hd h1 h2 h3
    by_cases hij : i < j
    · have hh : (i + j) / 2 < C.length := by omega
      have hless := less_at hA hp hg hh
      by_cases hlt : (i + j) / 2 < p
      · refine Ev.step (fun k => ?_) (ih (j - ((i + j) / 2 + 1)) (by omega) ((i + j) / 2 + 1) j rfl (by omega) h2 h3)
        simp only [QO.slices_BinarySearch_int64_int64.l0]
        rw [if_pos (by omega), half_w (by omega) (by omega), if_pos (by omega), if_pos (by omega), hless, Option.bind_some, if_pos (by simpa using hlt)]
        rw [show wrap64 (((((i + j) / 2 : Nat)) : Int) + 1) = (((i + j) / 2 + 1 : Nat) : Int) by rw [w64_ (by omega) (by omega)]; omega]
      · refine Ev.step (fun k => ?_) (ih ((i + j) / 2 - i) (by omega) i ((i + j) / 2) rfl h1 (by omega) (by omega))
        simp only [QO.slices_BinarySearch_int64_int64.l0]
        rw [if_pos (by omega), half_w (by omega) (by omega), if_pos (by omega), if_pos (by omega), hless, Option.bind_some, if_neg (by simpa using hlt)]
    · obtain rfl : i = p := by omega
      obtain rfl : j = i := by omega
      refine Ev.step (f := fun k => some ((j : Int), true)) (fun k => ?_) (Ev.now _)
      simp only [QO.slices_BinarySearch_int64_int64.l0]
      rw [if_neg (by omega), if_pos (by omega), if_pos (by omega), if_pos (by omega), rd_at' hp, if_pos hg]
theorem ev_bs {C : List Int} (hA : C.Pairwise (· < ·)) (hl : C.length ≤ 1000000) {g : Int} (hg : g ∈ C) : ∃ p : Nat, Ev (fun k => QO.slices_BinarySearch_int64_int64.f k C g) ((p : Int), true) ∧ ∃ h : p < C.length, C[p] = g := by
  obtain ⟨p, hp, he⟩ := List.mem_iff_getElem.1 hg
  exact ⟨p, bs_loop hA hl hp he _ 0 C.length rfl (Nat.zero_le _) (by omega) (Nat.le_refl _), hp, he⟩
theorem sigO_all : ((List.range 64).all fun f => f == 0 || (QO.impl_signs.f 20 (f : Int) == some (if onesZ (f : Int) ≤ 1 then [] else sigL (f : Int)))) = true := by decide +kernel
theorem ev_sigO {f : Int} (h1 : 1 ≤ f) (h2 : f ≤ 63) : ∃ S, Ev (fun k => QO.impl_signs.f k f) S ∧ S.length = (bordersL f).length ∧ ∀ s ∈ S, s = 1 ∨ s = -1 := by
  have hf := sig_facts h1 h2
  obtain ⟨a, rfl⟩ := Int.eq_ofNat_of_zero_le (show 0 ≤ f by omega)
  have h := List.all_eq_true.1 sigO_all a (List.mem_range.2 (by omega))
  rw [Bool.or_eq_true] at h
  rcases h with h | h
  · have := eq_of_beq h; omega
  · have hs : (if onesZ (a : Int) ≤ 1 then [] else sigL (a : Int)) = sigL (a : Int) := by
      unfold sigL
      by_cases h0 : onesZ (a : Int) ≤ 1
      · rw [if_pos h0, if_pos h0]
      · rw [if_neg h0, if_neg h0]
    have h' := eq_of_beq h
    rw [hs] at h'
    exact ⟨sigL (a : Int), Ev.of (fun k => QO.impl_signs.mono _ k) h', hf.1, hf.2.1⟩
theorem low_all : ((List.range 64).all fun f => decide (1 < onesZ (f : Int)) || (bordersL (f : Int)).isEmpty) = true := by decide +kernel
theorem low_borders {f : Int} (h1 : 1 ≤ f) (h2 : f ≤ 63) (h3 : onesZ f = 1) : bordersL f = [] := by
  obtain ⟨a, rfl⟩ := Int.eq_ofNat_of_zero_le (show 0 ≤ f by omega)
  have h := List.all_eq_true.1 low_all a (List.mem_range.2 (by omega))
  rw [Bool.or_eq_true] at h
  rcases h with h | h
  · have := of_decide_eq_true h; omega
  · simpa using h
theorem foldmax_ge (g : Int → Int) : ∀ (l : List Int) (a : Int), a ≤ l.foldl (fun a x => max a (g x)) a ∧ ∀ x ∈ l, g x ≤ l.foldl (fun a x => max a (g x)) a
  | [], a => ⟨Int.le_refl _, fun x hx => by cases hx⟩
  | x :: l, a => by
    rw [List.foldl_cons]
    obtain ⟨h1, h2⟩ := foldmax_ge g l (max a (g x))
    refine ⟨by have := Int.le_max_left a (g x); omega, fun y hy => ?_⟩
    rcases List.mem_cons.1 hy with rfl | hy
    · have := Int.le_max_right a (g y); omega
    · exact h2 y hy
theorem of_above {xs : List Int} {j : Nat} (h : dimL xs < (j : Int)) : ofL xs j = [] := by
  unfold ofL
  rw [List.filter_eq_nil_iff]
  intro x hx
  have := (foldmax_ge (fun x => onesZ x - 1) xs (-1)).2 x hx
  have h2 : onesZ x - 1 ≤ dimL xs := this
  rw [beq_iff_eq]; omega
theorem rank_c (n : Int) (A : Option Addr) (c : Nat) (xs : List Int) (d : Int) (w : World) (hr : RC w A xs.length xs) (hc : xs.length ≤ c) (hi : isC n xs = true) (h0 : 0 ≤ d) (hd : d ≤ 100) :
    Calls Try.prog 109 #[.agg #[.int .i64 n, .slice A xs.length c], .int .i64 d, .int .i64 2] w fun e w' => e = .returned (.int .i64 (rankS xs d)) ∧ Below w.heap.size w w' := by
  have hsm := isC_small hi
  have h63 := isC_63 hi
  have hfl : ∀ q, (ofL xs q).length ≤ xs.length := fun q => List.length_filter_le _ _
  have hasc : ∀ q, (ofL xs q).Pairwise (· < ·) := fun q => List.Pairwise.filter _ (ascB_asc (isC_of hi).2.1)
  have hnd : ∀ q, (ofL xs q).Nodup := fun q => filter_nodup (ascB_asc (isC_of hi).2.1) _
  have hbl : ∀ f, (bordersL f).length ≤ 1000 := fun f => by have := borders_len6 (f := f); omega
  have hbf : ∀ f, impl_borders.f f = some (bordersL f) := fun f => rfl
  obtain ⟨j, rfl⟩ := Int.eq_ofNat_of_zero_le h0
  obtain ⟨K1, hK1⟩ := ev_list (g := fun x k => QO.impl_signs.f k x) (Q := fun x r => r.length = (bordersL x).length ∧ ∀ s ∈ r, s = 1 ∨ s = -1) (ofL xs j) (fun x hx => by
    obtain ⟨S, s1, s2, s3⟩ := ev_sigO (h63 x (ofL_mem hx).1).1 (h63 x (ofL_mem hx).1).2
    exact ⟨S, s1, s2, s3⟩)
  cases j with
  | zero =>
    have := rankI_c K1 n A c xs ((0 : Nat) : Int) (ofL xs 0) [] bordersL w hr hc (by omega) (ofO_L hi 0) (ofO_low hi)
      (fun f hf => ⟨hbf f, by obtain ⟨S, s1, s2, s3⟩ := hK1 K1 (Nat.le_refl _) f hf; exact ⟨S, s1, s2, s3⟩⟩)
      (fun f hf g hg => by
        obtain ⟨h1, h2⟩ := ofL_mem hf
        rw [low_borders (h63 f h1).1 (h63 f h1).2 (by omega)] at hg
        cases hg) List.nodup_nil (by have := hfl 0; omega) (by simp) (fun f _ => hbl f)
    rw [show rankS xs ((0 : Nat) : Int) = 0 by unfold rankS; rw [if_pos (.inl (by omega))]]
    exact this
  | succ j =>
    obtain ⟨K2, hK2⟩ := ev_list (g := fun x k => QO.slices_BinarySearch_int64_int64.f k (ofL xs j) x) (Q := fun x r => ∃ p : Nat, r = ((p : Int), true) ∧ ∃ h : p < (ofL xs j).length, (ofL xs j)[p] = x) (ofL xs j) (fun x hx => by
      obtain ⟨p, hp1, hp2⟩ := ev_bs (hasc j) (by have := hfl j; omega) hx
      exact ⟨_, hp1, p, rfl, hp2⟩)
    obtain ⟨k, hk1, hk2⟩ : ∃ k, K1 ≤ k ∧ K2 ≤ k := ⟨K1 + K2, by omega, by omega⟩
    have := rankI_c k n A c xs ((j + 1 : Nat) : Int) (ofL xs (j + 1)) (ofL xs j) bordersL w hr hc (by omega) (ofO_L hi (j + 1)) (by rw [show ((j + 1 : Nat) : Int) - 1 = (j : Int) by omega]; exact ofO_L hi j)
      (fun f hf => ⟨hbf f, by obtain ⟨S, s1, s2, s3⟩ := hK1 k hk1 f hf; exact ⟨S, s1, s2, s3⟩⟩)
      (fun f hf g hg => by
        obtain ⟨r, e, p, rfl, h⟩ := hK2 k hk2 g (border_of hi hf hg)
        exact ⟨p, e, h⟩) (hnd j) (by have := hfl (j + 1); omega) (by have := hfl j; omega) (fun f _ => hbl f)
    have hS : ((elimAll (fun _ => 0) (matZ (ofL xs j) (ofL xs (j + 1)) bordersL) (ofL xs j).length).2 : Int) = rankS xs ((j + 1 : Nat) : Int) := by
      by_cases hda : dimL xs < ((j + 1 : Nat) : Int)
      · rw [of_above hda, show matZ (ofL xs j) [] bordersL = [] from rfl, elimAll_nil]
        unfold rankS
        rw [if_pos (.inr hda)]
        rfl
      · unfold rankS
        rw [if_neg (by omega), ← elim_same (lo := fun _ => 0) (fun _ => Nat.zero_le _) (matZ_bits _ _ _) (fun row hrow => by
          unfold matZ at hrow
          obtain ⟨f, _, rfl⟩ := List.mem_map.1 hrow
          exact rowTo_len _ _ _)]
        simp
    rw [hS] at this
    exact this
end Go.Proofs.Ytomdfjohnmikdaa.Im
namespace Go.Proofs.Ytomdfjohnmikdaa.QS
open Cw Kp Ext Go.RowKit YtomdfjohnmikdaaW.PrintWords YtomdfjohnmikdaaW.PrintLast YtomdfjohnmikdaaW.PrintMore
attribute [local go_sem] max2_int min2_int max_two min_two max_three min_three max_four min_four   -- for this text's walks alone
end Go.Proofs.Ytomdfjohnmikdaa.QS
namespace Go.Proofs.Ytomdfjohnmikdaa.Pu
open Go.RowKit Kp Ext QS Im YtomdfjohnmikdaaW.PrintWords YtomdfjohnmikdaaW.PrintLast YtomdfjohnmikdaaW.PrintMore
def cntL (D : Nat) (l : List Int) : List Int := (List.range D).map fun j => ((l.filter fun x => onesZ x == ((j + 1 : Nat) : Int)).length : Int)
theorem cntL_len (D : Nat) (l : List Int) : (cntL D l).length = D := by simp [cntL]
theorem cntL_at {D j : Nat} (l : List Int) (h : j < D) : (cntL D l)[j]? = some ((l.filter fun x => onesZ x == ((j + 1 : Nat) : Int)).length : Int) := by simp [cntL, h]
theorem cntL_nil (D : Nat) : cntL D [] = List.replicate D 0 := by
  refine List.ext_getElem? fun j => ?_
  rcases Nat.lt_or_ge j D with h | h
  · rw [cntL_at [] h]; simp [h]
  · rw [List.getElem?_eq_none (by rw [cntL_len]; exact h), List.getElem?_eq_none (by simp; exact h)]
theorem cntL_snoc {D d : Nat} (l : List Int) (x : Int) (hd : d < D) (hx : onesZ x = ((d + 1 : Nat) : Int)) : (cntL D l).set d ((cntL D l)[d]?.getD 0 + 1) = cntL D (l ++ [x]) := by
  refine List.ext_getElem? fun j => ?_
  rcases Nat.lt_or_ge j D with h | h
  · rw [cntL_at (l ++ [x]) h, List.filter_append, List.length_append, cntL_at l hd]
    by_cases e : d = j
    · subst e
      rw [List.getElem?_set_self (by rw [cntL_len]; exact h)]
      simp [hx]
    · rw [List.getElem?_set_ne e, cntL_at l h]
      have : (onesZ x == ((j + 1 : Nat) : Int)) = false := by rw [hx]; simp; omega
      rw [List.filter_cons_of_neg (a := x) (l := []) (by rw [this]; exact Bool.false_ne_true), List.filter_nil]; simp
  · rw [List.getElem?_eq_none (by rw [List.length_set, cntL_len]; exact h), List.getElem?_eq_none (by rw [cntL_len]; exact h)]
theorem cntL_le {D d : Nat} (l : List Int) : (cntL D l)[d]?.getD 0 ≤ (l.length : Int) ∧ 0 ≤ (cntL D l)[d]?.getD 0 := by
  rcases Nat.lt_or_ge d D with h | h
  · rw [cntL_at l h]
    have := List.length_filter_le (fun x => onesZ x == ((d + 1 : Nat) : Int)) l
    simp only [Option.getD_some]; omega
  · rw [List.getElem?_eq_none (by rw [cntL_len]; exact h)]; simp
theorem ones1_all : ((List.range 64).all fun f => f == 0 || decide (1 ≤ onesZ (f : Int))) = true := by decide +kernel
theorem ones1 {x : Int} (h : 1 ≤ x ∧ x ≤ 63) : 1 ≤ onesZ x := by
  obtain ⟨m, rfl⟩ := Int.eq_ofNat_of_zero_le (show 0 ≤ x by omega)
  have h2 := List.all_eq_true.1 ones1_all m (List.mem_range.2 (by omega))
  have h0 : (m == 0) = false := by simp; omega
  rw [h0, Bool.false_or] at h2
  exact of_decide_eq_true h2
theorem foldmx_ge (g : Int → Int) : ∀ (l : List Int) (a : Int), a ≤ l.foldl (fun a x => max a (g x)) a ∧ ∀ x ∈ l, g x ≤ l.foldl (fun a x => max a (g x)) a
  | [], a => ⟨Int.le_refl _, fun x hx => by cases hx⟩
  | x :: l, a => by
    rw [List.foldl_cons]
    obtain ⟨h1, h2⟩ := foldmx_ge g l (max a (g x))
    refine ⟨by have := Int.le_max_left a (g x); omega, fun y hy => ?_⟩
    rcases List.mem_cons.1 hy with rfl | hy
    · have := Int.le_max_right a (g y); omega
    · exact h2 y hy
theorem foldmx_hit (g : Int → Int) : ∀ (l : List Int) (a : Int), l.foldl (fun a x => max a (g x)) a = a ∨ ∃ x ∈ l, g x = l.foldl (fun a x => max a (g x)) a
  | [], a => .inl rfl
  | x :: l, a => by
    rw [List.foldl_cons]
    rcases foldmx_hit g l (max a (g x)) with h | ⟨y, hy, h⟩
    · rw [h]
      rcases Int.le_total a (g x) with h1 | h1
      · rw [Int.max_eq_right h1]
        exact .inr ⟨x, by simp, rfl⟩
      · rw [Int.max_eq_left h1]
        exact .inl rfl
    · exact .inr ⟨y, by simp [hy], h⟩
theorem dim_rng (l : List Int) : -1 ≤ dimL l ∧ dimL l ≤ 5 ∧ ∀ x ∈ l, onesZ x ≤ dimL l + 1 := by
  obtain ⟨h1, h2⟩ := foldmx_ge (fun x => onesZ x - 1) l (-1)
  refine ⟨h1, ?_, fun x hx => ?_⟩
  · rcases foldmx_hit (fun x => onesZ x - 1) l (-1) with h | ⟨x, _, h⟩
    · unfold dimL; omega
    · have h3 : onesZ x - 1 = dimL l := h
      have := ones_le x
      omega
  · have := h2 x hx
    have h3 : onesZ x - 1 ≤ dimL l := this
    omega
end Go.Proofs.Ytomdfjohnmikdaa.Pu
namespace Go.Proofs.Ytomdfjohnmikdaa.Ext
open Go.RowKit Im  YtomdfjohnmikdaaW.PrintWords YtomdfjohnmikdaaW.PrintLast YtomdfjohnmikdaaW.PrintMore
def spec_l03RankOf.f (a0_0 : Int) (l0_1 : List Int) (a1 : Int) (a2 : Int) : Option (Int) := if isC a0_0 l0_1 = true ∧ a2 = 2 then some (rankS l0_1 a1) else none
theorem spec_l03RankOf.calls (a0_0 : Int) (A0_1 : Option Addr) (c0_1 : Nat) (l0_1 : List Int) (a1 : Int) (a2 : Int) (r : Int) (w : World) (hr0_1 : Kd.C (Kd.int .i64) w A0_1 l0_1.length l0_1) (_hc0_1 : l0_1.length ≤ c0_1) (h : spec_l03RankOf.f a0_0 l0_1 a1 a2 = some r) :
    Calls Try.prog 105 #[.agg #[.int .i64 a0_0, .slice A0_1 l0_1.length c0_1], .int .i64 a1, .int .i64 a2] w fun e w' => e = .returned (.int .i64 r) ∧ Below w.heap.size w w' := by
  unfold spec_l03RankOf.f at h
  by_cases hl : isC a0_0 l0_1 = true ∧ a2 = 2
  · rw [if_pos hl] at h
    have hd := Option.some.inj h
    obtain ⟨hi, rfl⟩ := hl
    rw [← hd]
    exact rankOf_c a0_0 A0_1 c0_1 l0_1 a1 w hr0_1 _hc0_1 hi
  · rw [if_neg hl] at h; cases h
def impl_Complex_dimension.f (a0_0 : Int) (l0_1 : List Int) : Option (Int) := if isC a0_0 l0_1 = true then some (dimL l0_1) else none
theorem impl_Complex_dimension.calls (a0_0 : Int) (A0_1 : Option Addr) (c0_1 : Nat) (l0_1 : List Int) (r : Int) (w : World) (hr0_1 : Kd.C (Kd.int .i64) w A0_1 l0_1.length l0_1) (_hc0_1 : l0_1.length ≤ c0_1) (h : impl_Complex_dimension.f a0_0 l0_1 = some r) :
    Calls Try.prog 56 #[.agg #[.int .i64 a0_0, .slice A0_1 l0_1.length c0_1]] w fun e w' => e = .returned (.int .i64 r) ∧ Below w.heap.size w w' := by
  unfold impl_Complex_dimension.f at h
  by_cases hl : isC a0_0 l0_1 = true
  · rw [if_pos hl] at h
    have hd := Option.some.inj h
    rw [← hd]
    exact dimension_c a0_0 A0_1 c0_1 l0_1 w hr0_1 _hc0_1 hl
  · rw [if_neg hl] at h; cases h
def impl_Complex_rank.f (a0_0 : Int) (l0_1 : List Int) (a1 : Int) (a2 : Int) : Option (Int) := if isC a0_0 l0_1 = true ∧ 0 ≤ a1 ∧ a1 ≤ 100 ∧ a2 = 2 then some (rankS l0_1 a1) else none
theorem impl_Complex_rank.calls (a0_0 : Int) (A0_1 : Option Addr) (c0_1 : Nat) (l0_1 : List Int) (a1 : Int) (a2 : Int) (r : Int) (w : World) (hr0_1 : Kd.C (Kd.int .i64) w A0_1 l0_1.length l0_1) (_hc0_1 : l0_1.length ≤ c0_1) (h : impl_Complex_rank.f a0_0 l0_1 a1 a2 = some r) :
    Calls Try.prog 109 #[.agg #[.int .i64 a0_0, .slice A0_1 l0_1.length c0_1], .int .i64 a1, .int .i64 a2] w fun e w' => e = .returned (.int .i64 r) ∧ Below w.heap.size w w' := by
  unfold impl_Complex_rank.f at h
  by_cases hl : isC a0_0 l0_1 = true ∧ 0 ≤ a1 ∧ a1 ≤ 100 ∧ a2 = 2
  · rw [if_pos hl] at h
    have hd := Option.some.inj h
    obtain ⟨hi, h0, h1, rfl⟩ := hl
    rw [← hd]
    exact rank_c a0_0 A0_1 c0_1 l0_1 a1 w hr0_1 _hc0_1 hi h0 h1
  · rw [if_neg hl] at h; cases h
end Go.Proofs.Ytomdfjohnmikdaa.Ext
