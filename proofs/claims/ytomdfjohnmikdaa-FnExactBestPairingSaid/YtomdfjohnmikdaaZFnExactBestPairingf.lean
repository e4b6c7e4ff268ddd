/- Words and lemmas for FnExactBestPairing, part 6: what the row's text comes to. -/
import Derived.Test.YtomdfjohnmikdaaProg
import Derived.Below
import Derived.Deep.Draws
import Derived.Deep.AppendLies
import Derived.Maps.AppendAt
import Derived.OwnWalk
import Derived.Laws.BytesArg
import Derived.Laws.MakeOwn
import Derived.Laws.OwnMore
import Derived.Deep.OwnRows
import Derived.Tactics
import Derived.Lib.ConvBytes
import Derived.Laws.Slices
import Derived.WalkKit
import Derived.KernelRfl
import Derived.RowKit3
import Derived.Deep.LoopGhost
import Derived.Deep.QuietTactic
import Derived.BigQuiet
import Derived.WideLaws
import Derived.Deep.DeepCutAuto
import Derived.Deep.CutBlock
import Derived.Deep.RegionHeld3
import Derived.Laws.Rows
import Derived.Lib.AppendStr
import Derived.ArgAppend
import Derived.Laws.IdiomCopy
import Derived.OrdersHeld
import Derived.Laws.BitsLemmas
import Derived.RowKit
import Derived.Test.YtomdfjohnmikdaaZFnExactBestPairinge
set_option linter.unusedVariables false
set_option linter.unusedSimpArgs false
namespace Go.Proofs.Ytomdfjohnmikdaa.QE
open Cw Kp Ext Go.RowKit YtomdfjohnmikdaaW.PrintWords YtomdfjohnmikdaaW.PrintLast YtomdfjohnmikdaaW.PrintMore
attribute [local go_sem] max2_int min2_int max_two min_two max_three min_three max_four min_four   -- for this text's walks alone
def errW : Option Int → Value
 | none => .nilIface
 | some c => .iface 0 (.int .i64 c)
theorem errW_none : errW none = .nilIface := rfl
theorem errW_some (c : Int) : errW (some c) = .iface 0 (.int .i64 c) := rfl
theorem info2 : (Try.prog.info? 2).map (fun i => (i.zero, i.size, i.bytes)) = some (some (.int .i64 0), 1, 8) := by kernel_rfl
open Go.Proofs.Ytomdfjohnmikdaa.QA (bits_OnesCount64.f)
open Go.Proofs.Ytomdfjohnmikdaa.QA (bits_OnesCount64.calls)
def impl_size.f (a0 : Int) : Option (Int) := (bits_OnesCount64.f (IntKind.u64.wrap (a0))).bind fun t106 => (some t106)
set_option maxHeartbeats 8000000 in
set_option maxRecDepth 100000 in
theorem impl_size.calls (a0 : Int) (r : Int) (w : World) (h : impl_size.f a0 = some r) :
  Calls Try.prog 136 #[.int .i64 a0] w fun e w' => e = .returned (.int .i64 r) ∧ Drawn0 w w' := by
 have H : ((bits_OnesCount64.f (IntKind.u64.wrap (a0))).bind fun t106 => (some t106)) = some r := h
 clear h
 replace H := Option.bind_eq_some_iff.mp H
 obtain ⟨t106, A20, H⟩ := H
 try dsimp only at H
 have A2 := Aside0.mk A20
 clear A20
 obtain rfl := Option.some.inj H
 go_enter Try.func136, Try.ntmps136
 go_wp2_with (first | ((with_reducible refine gate_callee (f := 174) rfl ?_); refine cl_ (some 5) Try.func174 #[.int .u64 (IntKind.u64.wrap (a0))] ?_; (with_reducible refine (bits_OnesCount64.calls (IntKind.u64.wrap (a0)) t106 _ A2.out).mono ?_); rintro e w' ⟨rfl, ⟨nd, rfl⟩⟩; refine ⟨_, rfl, ?_⟩))
 go_ret
 exact ⟨by first | rfl | (simp; done) | (simp [*]; done), by repeat (first | exact Drawn0.refl _ | apply Drawn0.step)⟩
def impl_dimension.f (a0 : Int) : Option (Int) := (impl_size.f a0).bind fun t107 => (some (wrap64 (t107 - 1)))
set_option maxHeartbeats 8000000 in
set_option maxRecDepth 100000 in
theorem impl_dimension.calls (a0 : Int) (r : Int) (w : World) (h : impl_dimension.f a0 = some r) :
  Calls Try.prog 107 #[.int .i64 a0] w fun e w' => e = .returned (.int .i64 r) ∧ Drawn0 w w' := by
 have H : ((impl_size.f a0).bind fun t107 => (some (wrap64 (t107 - 1)))) = some r := h
 clear h
 replace H := Option.bind_eq_some_iff.mp H
 obtain ⟨t107, A20, H⟩ := H
 try dsimp only at H
 have A2 := Aside0.mk A20
 clear A20
 obtain rfl := Option.some.inj H
 go_enter Try.func107, Try.ntmps107
 go_wp2_with (first | ((with_reducible refine gate_callee (f := 136) rfl ?_); refine cl_ (some 4) Try.func136 #[.int .i64 a0] ?_; (with_reducible refine (impl_size.calls a0 t107 _ A2.out).mono ?_); rintro e w' ⟨rfl, ⟨nd, rfl⟩⟩; refine ⟨_, rfl, ?_⟩))
 go_ret
 exact ⟨by first | rfl | (simp; done) | (simp [*]; done), by repeat (first | exact Drawn0.refl _ | apply Drawn0.step)⟩
def impl_Complex_count.l0 : Nat → List Int → List Int → Int → Int → Option (List Int)
 | 0, _, _, _, _ => none
 | k + 1, x5, x12, x13, x14 => if x14 < x13 then (if 0 ≤ x14 then (if x14 < (x12.length : Int) then ((impl_dimension.f (rd x12 x14)).bind fun t114 => (if 0 ≤ t114 then (if t114 < (x5.length : Int) then (impl_Complex_count.l0 k (x5.set (t114 : Int).toNat (wrap64 ((rd x5 t114) + 1))) x12 x13 (wrap64 (x14 + 1))) else (none)) else (none))) else (none)) else (none)) else (some x5)
def impl_Complex_count.f (k : Nat) (a0_0 : Int) (l0_1 : List Int) (l1 : List Int) : Option (List Int) := (impl_Complex_dimension.f a0_0 l0_1).bind fun t109 => (if 0 ≤ (wrap64 (t109 + 1)) then (if (wrap64 (t109 + 1) : Int).toNat ≤ 35184372088832 then (impl_Complex_count.l0 k (List.replicate (wrap64 (t109 + 1) : Int).toNat 0) l1 (l1.length : Int) 0) else (none)) else (none))
theorem impl_Complex_count.mono_l : ∀ k, (∀ y0 y1 y2 y3, LeO (impl_Complex_count.l0 k y0 y1 y2 y3) (impl_Complex_count.l0 (k + 1) y0 y1 y2 y3))
 | 0 => fun _ _ _ _ r h => by simp [impl_Complex_count.l0] at h
 | k + 1 => by
  have ih0 := impl_Complex_count.mono_l k
  ·intro y0 y1 y2 y3
   unfold impl_Complex_count.l0
   repeat' first
   | (with_reducible exact ih0 _ _ _ _)
   | (with_reducible exact LeO.refl _)
   | (with_reducible exact LeO.none _)
   | (with_reducible refine LeO.ite ?_ ?_)
   | (with_reducible refine LeO.bind ?_ (fun _ => ?_))
   | exact ih0 _ _ _ _
   | exact LeO.none _
   | refine LeO.ite ?_ ?_
   | refine LeO.bind ?_ (fun _ => ?_)
theorem impl_Complex_count.mono : ∀ a0 a1 a2 k, LeO (impl_Complex_count.f k a0 a1 a2) (impl_Complex_count.f (k + 1) a0 a1 a2) := by
 intro a0 a1 a2 k
 have ih0 := impl_Complex_count.mono_l k
 unfold impl_Complex_count.f
 repeat' first
   | (with_reducible exact ih0 _ _ _ _)
   | (with_reducible exact LeO.refl _)
   | (with_reducible exact LeO.none _)
   | (with_reducible refine LeO.ite ?_ ?_)
   | (with_reducible refine LeO.bind ?_ (fun _ => ?_))
   | exact ih0 _ _ _ _
   | exact LeO.none _
   | refine LeO.ite ?_ ?_
   | refine LeO.bind ?_ (fun _ => ?_)
set_option maxHeartbeats 8000000 in
set_option maxRecDepth 100000 in
theorem impl_Complex_count.calls (k : Nat) (a0_0 : Int) (A0_1 : Option Addr) (c0_1 : Nat) (l0_1 : List Int) (A1 : Option Addr) (c1 : Nat) (l1 : List Int) (r : List Int) (w : World) (hr0_1 : Kd.C (Kd.int .i64) w A0_1 l0_1.length l0_1) (hc0_1 : l0_1.length ≤ c0_1) (hr1 : Kd.C (Kd.int .i64) w A1 l1.length l1) (hc1 : l1.length ≤ c1) (h : impl_Complex_count.f k a0_0 l0_1 l1 = some r) :
  Calls Try.prog 73 #[.agg #[.int .i64 a0_0, .slice A0_1 l0_1.length c0_1], .slice A1 l1.length c1] w fun e w' => ∃ v0_ : Value, e = .returned (v0_) ∧ Kd.R (Kd.int .i64) 2 w' w.heap.size (fun _ => True) v0_ r ∧ Below w.heap.size w w' := by
 have hu28 := Try.underlying28
 have HR0_1 := Aside0.mk hr0_1
 have HC0_1 := Aside0.mk hc0_1
 clear hr0_1 hc0_1
 have HR1 := Aside0.mk hr1
 have HC1 := Aside0.mk hc1
 clear hr1 hc1
 have HB := Aside0.mk (Below.refl w.heap.size w)
 have H : ((impl_Complex_dimension.f a0_0 l0_1).bind fun t109 => (if 0 ≤ (wrap64 (t109 + 1)) then (if (wrap64 (t109 + 1) : Int).toNat ≤ 35184372088832 then (impl_Complex_count.l0 k (List.replicate (wrap64 (t109 + 1) : Int).toNat 0) l1 (l1.length : Int) 0) else (none)) else (none))) = some r := h
 clear h
 replace H := Option.bind_eq_some_iff.mp H
 obtain ⟨t109, A30, H⟩ := H
 try dsimp only at H
 have A3 := Aside0.mk A30
 clear A30
 obtain ⟨ji4, hji4⟩ : ∃ j_ : Int, (wrap64 (t109 + 1)) = j_ := ⟨_, rfl⟩
 replace H : (if 0 ≤ (ji4) then (if (ji4 : Int).toNat ≤ 35184372088832 then (impl_Complex_count.l0 k (List.replicate (ji4 : Int).toNat 0) l1 (l1.length : Int) 0) else (none)) else (none)) = some r := by first | (rw [hji4] at H; exact H) | (simp only [hji4] at H ⊢; exact H)
 (try rw [hji4] at A3)
 have hji4w : (IntKind.i64.wrap (t109 + 1)) = ji4 := (i64_w _).trans hji4
 by_cases c5 : 0 ≤ (ji4)
 ·rw [if_pos c5] at H
  have c5b0 := eq_true c5
  have c5b1 : decide (0 ≤ (ji4)) = true := decide_eq_true c5
  clear c5
  by_cases c6 : (ji4 : Int).toNat ≤ 35184372088832
  ·rw [if_pos c6] at H
   have c6b0 := eq_true c6
   have c6b1 : decide ((ji4 : Int).toNat ≤ 35184372088832) = true := decide_eq_true c6
   clear c6
   obtain ⟨y110, hy110⟩ : ∃ y_ : List Int, y_ = (List.replicate (ji4 : Int).toNat 0) := ⟨_, rfl⟩
   replace H : (impl_Complex_count.l0 k y110 l1 (l1.length : Int) 0) = some r := by first | (rw [hy110]; with_reducible exact H) | (have H2_ := (Option.bind_some _ _).symm.trans H; rw [hy110]; with_reducible exact H2_) | (have H2_ := (Option.bind_some _ _).symm.trans H; with_reducible exact H2_) | with_reducible exact H | (rw [hy110]; exact H) | exact H
   have Ny110 := Aside0.mk hy110
   clear hy110
   have H' := Aside0.mk H
   clear H
   go_enter Try.func73, Try.ntmps73
   go_wp2_with (first | ((with_reducible refine gate_dst (N := 2) rfl ?_); refine box_event ?hg (N := 2) ?hd (cs := #[.int .i64 a0_0, .slice A0_1 l0_1.length c0_1]) (t := 28) ?hr ?_; (case hd => rfl); (case hg => rfl); (case hr => first | (go_simp; done) | (go_simp; rfl)); intro gb108 hg w7 hbox hb; have BK108 := Aside0.mk (hbox); have GW108 := gH HB hg; have GE108 := gH HB hg; replace HB := sH HB hb; clear hb hbox hg; have hcz8_0 : w7.cell? ⟨gb108, 0, none⟩ = some (.int .i64 a0_0) := cB BK108 0; have hcz8_1 : w7.cell? ⟨gb108, 1, none⟩ = some (.slice A0_1 l0_1.length c0_1) := cB BK108 1; have hfz8_0 := zB BK108 0; have hfz8_1 := zB BK108 1) | ((with_reducible refine gate_callee (f := 56) rfl ?_); refine cl_ (some 9) Try.func56 #[.agg #[.int .i64 a0_0, .slice A0_1 l0_1.length c0_1]] ?_; (with_reducible refine (impl_Complex_dimension.calls a0_0 _ _ l0_1 t109 _ ?side1 ?side2 A3.out).mono ?_); (case side1 => exact pC ((Kd.C_below HR0_1.out HB.out))); (case side2 => exact HC0_1.out); rintro e w9 ⟨rfl, hb⟩; refine ⟨_, rfl, ?_⟩; replace BK108 := sB BK108 hb; replace HB := sH HB hb; (try clear hb); (try clear hi)) | ((with_reducible refine gate_dst (N := 11) rfl ?_); refine Kd.R_make (Kd.int .i64) _ 2 rfl (N := 11) rfl 22 _ _ rfl ji4 rfl rfl Try.underlying22 (.int .i64 0) 8 info2 rfl (by decide) (by omega) 0 (ok := fun _ => True) (okp := fun _ => True) rfl (fun _ hk => hk) trivial (of_decide_eq_true (by first | (with_reducible assumption) | assumption)) (Nat.le_trans (Nat.mul_le_mul_right _ (of_decide_eq_true (by first | (with_reducible assumption) | assumption) : ji4.toNat ≤ 35184372088832)) (by omega)) (Below.refl _ _) (Nat.le_refl _) ?_; intro v111 w10 ho11 hb hg_ hnew_; clear hg_ hnew_; (first | rw [← Ny110.out] at ho11 | (simp only [Int.reduceToNat] at ho11; rw [← Ny110.out] at ho11)); have HO112 := Aside0.mk (Kd.R_lower ho11 (below_size (pH HB))); replace BK108 := sB BK108 hb; replace HB := sH HB hb; clear hb ho11))
   go_loopg [14] k (fun kq v14 w' => ∃ (x5_1 : List Int) (x14_1 : Int), v14 = .int .i64 x14_1 ∧ Aside0 (impl_Complex_count.l0 kq x5_1 l1 (l1.length : Int) x14_1 = some r) ∧ Aside0 (kq ≤ k) ∧ Aside0 (Kd.R (Kd.int .i64) 2 w' w.heap.size (fun _ => True) v111 x5_1) ∧ Aside0 (w'.heap[gb108]? = some (.cells #[.int .i64 a0_0, (.slice A0_1 l0_1.length c0_1)] 28 (0, 0))) ∧ Aside0 (Below w.heap.size w w'))
   case atStart => exact ⟨(y110), (0), (by first | rfl | (simp; done) | (simp [*]; done)), H', ⟨Nat.le_refl _⟩, ⟨by (with_reducible repeat (first | apply Kd.R_alloc | apply Kd.R_drewN | apply Kd.R_drew)); exact HO112.out⟩, ⟨pB BK108⟩, ⟨pH HB⟩⟩
   case round =>
    clear H'
    try clear c1
    try clear p2
    try clear c5
    try clear c5b0
    try clear c5b1
    try clear c6
    try clear c6b0
    try clear c6b1
    try clear p6
    try clear c7
    try clear hcz8_0
    try clear hcz8_1
    try clear hfz8_0
    try clear hfz8_1
    obtain ⟨x5_1, x14_1, rfl, HA, HK1, HO_5, BK108, HB⟩ := hrel
    cases gk with
    | zero => exact absurd HA.out (by simp [impl_Complex_count.l0])
    | succ k1 =>
     have H := HA.out
     clear HA
     simp only [impl_Complex_count.l0] at H
     by_cases c12 : x14_1 < (l1.length : Int)
     ·rw [if_pos c12] at H
      have c12b0 : decide (x14_1 < (l1.length : Int)) = true := decide_eq_true c12
      clear c12
      by_cases c13 : 0 ≤ x14_1
      ·rw [if_pos c13] at H
       have c13b0 : decide (0 ≤ x14_1) = true := decide_eq_true c13
       clear c13
       by_cases c14 : x14_1 < (l1.length : Int)
       ·rw [if_pos c14] at H
        have c14b0 : decide (x14_1 < (l1.length : Int)) = true := decide_eq_true c14
        clear c14
        replace H := Option.bind_eq_some_iff.mp H
        obtain ⟨t114, A150, H⟩ := H
        try dsimp only at H
        have A15 := Aside0.mk A150
        clear A150
        by_cases c16 : 0 ≤ t114
        ·rw [if_pos c16] at H
         have c16b0 : decide (0 ≤ t114) = true := decide_eq_true c16
         clear c16
         by_cases c17 : t114 < (x5_1.length : Int)
         ·rw [if_pos c17] at H
          have c17b0 : decide (t114 < (x5_1.length : Int)) = true := decide_eq_true c17
          clear c17
          obtain ⟨y116, hy116⟩ : ∃ y_ : List Int, y_ = (x5_1.set (t114 : Int).toNat (wrap64 ((rd x5_1 t114) + 1))) := ⟨_, rfl⟩
          replace H : (impl_Complex_count.l0 k1 y116 l1 (l1.length : Int) (wrap64 (x14_1 + 1))) = some r := by first | (rw [hy116]; with_reducible exact H) | (have H2_ := (Option.bind_some _ _).symm.trans H; rw [hy116]; with_reducible exact H2_) | (have H2_ := (Option.bind_some _ _).symm.trans H; with_reducible exact H2_) | with_reducible exact H | (rw [hy116]; exact H) | exact H
          have Ny116 := Aside0.mk hy116
          clear hy116
          have H' := Aside0.mk H
          clear H
          have p113 : 0 ≤ (x14_1 : Int) := of_decide_eq_true (by first | (with_reducible assumption) | assumption)
          have q113 : x14_1 < (l1.length : Int) := of_decide_eq_true (by first | (with_reducible assumption) | assumption)
          obtain ⟨ad113, e113, hx113_0⟩ := Kd.at_int HR1.out x14_1 p113 q113
          cases e113
          replace hx113_0 := cH HB hx113_0
          replace p113 := eq_true p113
          replace q113 := eq_true q113
          go_wp2_with (first | ((with_reducible refine gate_callee (f := 107) rfl ?_); refine cl_ (some 20) Try.func107 #[.int .i64 (rd l1 x14_1)] ?_; (with_reducible refine (impl_dimension.calls (rd l1 x14_1) t114 _ A15.out).mono ?_); rintro e w' ⟨rfl, ⟨nd, rfl⟩⟩; refine ⟨_, rfl, ?_⟩; (try (rw [drewN_self wr]; generalize hq_ : World.drewN wr _ = wr; have n0_ : Aside0 (Kd.R (Kd.int .i64) 2 wr w.heap.size (fun _ => True) v111 x5_1) := ⟨by rw [← hq_]; exact (pR HO_5)⟩; have n1_ : Aside0 (wr.heap[gb108]? = some (.cells #[.int .i64 a0_0, .slice A0_1 l0_1.length c0_1] 28 (0, 0))) := ⟨by rw [← hq_]; exact (pB BK108)⟩; have n2_ : Aside0 (Below w.heap.size w wr) := ⟨by rw [← hq_]; exact (pH HB)⟩; clear HO_5 BK108 HB hq_; have HO_5 := n0_; have BK108 := n1_; have HB := n2_; clear n0_ n1_ n2_)); (try (have hcz19_0 : wr.cell? ⟨gb108, 0, none⟩ = some (.int .i64 a0_0) := cB BK108 0; have hcz19_1 : wr.cell? ⟨gb108, 1, none⟩ = some (.slice A0_1 l0_1.length c0_1) := cB BK108 1; have hfz19_0 := zB BK108 0; have hfz19_1 := zB BK108 1)); obtain ⟨Ao20, co20, eo20⟩ := Kd.R_slice HO_5.out; subst eo20; have p115 : 0 ≤ (t114 : Int) := of_decide_eq_true (by first | (with_reducible assumption) | assumption); have q115 : t114 < (x5_1.length : Int) := of_decide_eq_true (by first | (with_reducible assumption) | assumption); obtain ⟨ad115, e115, hx115_0⟩ := Kd.at_int (Kd.R_reads' HO_5.out).2.2 t114 p115 q115; cases e115; replace p115 := eq_true p115; replace q115 := eq_true q115; have p18 : 0 ≤ (t114 : Int) := of_decide_eq_true (by first | (with_reducible assumption) | assumption); have q18 : (t114 : Int) < ((x5_1.length : Int) : Int) := of_decide_eq_true (by first | (with_reducible assumption) | assumption); obtain ⟨go18, co18, eo18, gb18, gl18, cl18, HG18⟩ := Kd.R_form HO_5.out (by omega); (first | cases eo18 | (injection eo18 with ea_ en_ ec_; (first | subst ea_ | (injection ea_ with ea_; subst ea_)); subst ec_; clear en_)); have GB18 := Aside0.mk gb18; have GG18 := Aside0.mk HG18; clear gb18 gl18 HG18; (first | simp only [add_plain] at hx115_0 | skip); obtain ⟨hx18_0, hf18_0⟩ := Kd.R_celln 0 HO_5.out (t114 : Int) p18 q18; replace p18 := eq_true p18; replace q18 := eq_true q18; obtain ⟨hy21_, hz21_⟩ := Kd.R_celln 0 HO_5.out (t114 : Int) (of_decide_eq_true (by first | (with_reducible assumption) | assumption)) (of_decide_eq_true (by first | (with_reducible assumption) | assumption)); have HP21 := Kd.R_putg HO_5.out (t114 : Int) (wrap64 ((rd x5_1 t114) + 1))) | ((with_reducible refine gate_store (t := 2) (p := 24) rfl ?_); refine store_event (t := 2) (p := 24) (v := ?vo_w22) (w1 := (wr.setCell ⟨go18, (t114 : Int).toNat, none⟩ (.int .i64 (wrap64 ((rd x5_1 t114) + 1))))) ?hg ?ho ?hn ?hr ?_; (case ho => rfl); (case hg => rfl); (case hn => rfl); (case hr => first | (go_simp; done) | (go_simp; rfl)); intro w22 hw; have hg : wr.grownBy w22 (some go18) := (by rw [hw]; exact HP21.2); have hp_ : Kd.R (Kd.int .i64) 2 w22 w.heap.size (fun _ => True) (.slice (some ⟨go18, 0, none⟩) x5_1.length co20) y116 := (by rw [hw, Ny116.out]; exact HP21.1); clear HP21; have n0_ := Aside0.mk (hp_); have n1_ := Aside0.mk (blk_grown (g := gb108) (o := .cells #[.int .i64 a0_0, .slice A0_1 l0_1.length c0_1] 28 (0, 0)) (pB BK108) hg (Kd.R_ne HO_5.out BK108.out (by decide))); have n2_ := Aside0.mk ((by rw [hw]; exact below_set (HB.out) GB18.out : Below w.heap.size w w22)); clear HO_5; clear BK108; clear HB; have HO_5 := n0_; have BK108 := n1_; have HB := n2_; clear n0_ n1_ n2_; clear hg hw hp_))
          go_roundg k1
          case measure => have := HK1.out; omega
          case rel => exact ⟨(y116), (wrap64 (x14_1 + 1)), (by first | rfl | (simp; done) | (simp [*]; done)), H', ⟨by have := HK1.out; omega⟩, ⟨by (with_reducible repeat (first | apply Kd.R_alloc | apply Kd.R_drewN | apply Kd.R_drew)); exact HO_5.out⟩, ⟨pB BK108⟩, ⟨pH HB⟩⟩
         ·rw [if_neg c17] at H
          exact absurd H (by simp)
        ·rw [if_neg c16] at H
         exact absurd H (by simp)
       ·rw [if_neg c14] at H
        exact absurd H (by simp)
      ·rw [if_neg c13] at H
       exact absurd H (by simp)
     ·rw [if_neg c12] at H
      have c12b0 : decide (x14_1 < (l1.length : Int)) = false := decide_eq_false c12
      clear c12
      obtain rfl := Option.some.inj H
      go_wp2
      go_ret
      exact ⟨_, by first | rfl | (simp [errW_none, errW_some] <;> rfl) | (simp only [← hji4]; first | rfl | (simp [errW_none, errW_some] <;> rfl)) | (simp [*, errW_none, errW_some] <;> rfl) | (exfalso; simp_all), by (with_reducible repeat (first | apply Kd.R_alloc | apply Kd.R_drewN | apply Kd.R_drew)); exact HO_5.out, pH HB⟩
  ·rw [if_neg c6] at H
   exact absurd H (by simp)
 ·rw [if_neg c5] at H
  exact absurd H (by simp)
def impl_Complex_betti.l0 : Nat → Int → List Int → Int → Int → Int → List Int → Option (List Int)
 | 0, _, _, _, _, _, _ => none
 | k + 1, x1, x5, x12, x13, x118000, x118001 => if x13 < x12 then (if 0 ≤ x13 then (if x13 < (x5.length : Int) then ((impl_Complex_rank.f x118000 x118001 x13 x1).bind fun t122 => ((impl_Complex_rank.f x118000 x118001 (wrap64 (x13 + 1)) x1).bind fun t123 => (impl_Complex_betti.l0 k x1 (x5.set (x13 : Int).toNat (wrap64 ((rd x5 x13) - (wrap64 (t122 + t123))))) x12 (wrap64 (x13 + 1)) x118000 x118001))) else (none)) else (none)) else (some x5)
def impl_Complex_betti.f (k : Nat) (a0_0 : Int) (l0_1 : List Int) (a1 : Int) : Option (List Int) := (impl_Complex_count.f k a0_0 l0_1 l0_1).bind fun t118 => (impl_Complex_betti.l0 k a1 t118 (t118.length : Int) 0 a0_0 l0_1)
theorem impl_Complex_betti.mono_l : ∀ k, (∀ y0 y1 y2 y3 y4 y5, LeO (impl_Complex_betti.l0 k y0 y1 y2 y3 y4 y5) (impl_Complex_betti.l0 (k + 1) y0 y1 y2 y3 y4 y5))
 | 0 => fun _ _ _ _ _ _ r h => by simp [impl_Complex_betti.l0] at h
 | k + 1 => by
  have ih0 := impl_Complex_betti.mono_l k
  ·intro y0 y1 y2 y3 y4 y5
   unfold impl_Complex_betti.l0
   repeat' first
   | (with_reducible exact ih0 _ _ _ _ _ _)
   | (with_reducible exact impl_Complex_count.mono _ _ _ _)
   | (with_reducible exact LeO.refl _)
   | (with_reducible exact LeO.none _)
   | (with_reducible refine LeO.ite ?_ ?_)
   | (with_reducible refine LeO.bind ?_ (fun _ => ?_))
   | exact ih0 _ _ _ _ _ _
   | exact impl_Complex_count.mono _ _ _ _
   | exact LeO.none _
   | refine LeO.ite ?_ ?_
   | refine LeO.bind ?_ (fun _ => ?_)
theorem impl_Complex_betti.mono : ∀ a0 a1 a2 k, LeO (impl_Complex_betti.f k a0 a1 a2) (impl_Complex_betti.f (k + 1) a0 a1 a2) := by
 intro a0 a1 a2 k
 have ih0 := impl_Complex_betti.mono_l k
 unfold impl_Complex_betti.f
 repeat' first
   | (with_reducible exact ih0 _ _ _ _ _ _)
   | (with_reducible exact impl_Complex_count.mono _ _ _ _)
   | (with_reducible exact LeO.refl _)
   | (with_reducible exact LeO.none _)
   | (with_reducible refine LeO.ite ?_ ?_)
   | (with_reducible refine LeO.bind ?_ (fun _ => ?_))
   | exact ih0 _ _ _ _ _ _
   | exact impl_Complex_count.mono _ _ _ _
   | exact LeO.none _
   | refine LeO.ite ?_ ?_
   | refine LeO.bind ?_ (fun _ => ?_)
def impl_Complex_betti.T5 : Bool × List (List Nat × List Nat) := (true, [([], []), ([], []), ([0, 1], [0, 1]), ([2], [2]), ([], []), ([], []), ([], []), ([4, 5, 6], [4, 5, 6]), ([], []), ([], []), ([9], [9]), ([], []), ([8, 10, 11, 7], [8, 10, 11]), ([7, 12], [7, 12]), ([3, 13], [3, 13]), ([0, 1, 0, 1, 2, 3, 4, 5, 6, 7, 8, 9, 10, 11, 12, 13, 14], [0, 1]), ([15, 14, 12, 0, 1, 2, 3, 4, 5, 6, 7, 8, 9, 10, 11, 12, 13, 14], [14, 15])])
def impl_Complex_betti.B5 : List Nat := [0, 0, 3, 7, 0, 0, 0, 112, 0, 0, 512, 0, 4080, 8176, 16383, 32767, 65535]
theorem impl_Complex_betti.tab5 : rtab .any (opsOf Try.f60 5) = impl_Complex_betti.T5 := by kernel_rfl
theorem impl_Complex_betti.bits5 : waitsOk impl_Complex_betti.T5.2 impl_Complex_betti.B5 = true := by kernel_rfl
set_option maxHeartbeats 8000000 in
set_option maxRecDepth 100000 in
theorem impl_Complex_betti.calls (k : Nat) (a0_0 : Int) (A0_1 : Option Addr) (c0_1 : Nat) (l0_1 : List Int) (a1 : Int) (r : List Int) (w : World) (hr0_1 : Kd.C (Kd.int .i64) w A0_1 l0_1.length l0_1) (hc0_1 : l0_1.length ≤ c0_1) (h : impl_Complex_betti.f k a0_0 l0_1 a1 = some r) :
  Calls Try.prog 60 #[.agg #[.int .i64 a0_0, .slice A0_1 l0_1.length c0_1], .int .i64 a1] w fun e w' => ∃ v0_ : Value, e = .returned (v0_) ∧ Kd.R (Kd.int .i64) 2 w' w.heap.size (fun _ => True) v0_ r ∧ Below w.heap.size w w' := by
 have hu28 := Try.underlying28
 have HR0_1 := Aside0.mk hr0_1
 have HC0_1 := Aside0.mk hc0_1
 clear hr0_1 hc0_1
 have HB := Aside0.mk (Below.refl w.heap.size w)
 have H : ((impl_Complex_count.f k a0_0 l0_1 l0_1).bind fun t118 => (impl_Complex_betti.l0 k a1 t118 (t118.length : Int) 0 a0_0 l0_1)) = some r := h
 clear h
 replace H := Option.bind_eq_some_iff.mp H
 obtain ⟨t118, A30, H⟩ := H
 try dsimp only at H
 have A3 := Aside0.mk A30
 clear A30
 have H' := Aside0.mk H
 clear H
 go_enter Try.func60, Try.ntmps60
 go_wp2_with (first | ((with_reducible refine gate_dst (N := 2) rfl ?_); refine box_event ?hg (N := 2) ?hd (cs := #[.int .i64 a0_0, .slice A0_1 l0_1.length c0_1]) (t := 28) ?hr ?_; (case hd => rfl); (case hg => rfl); (case hr => first | (go_simp; done) | (go_simp; rfl)); intro gb117 hg w4 hbox hb; have BK117 := Aside0.mk (hbox); have GW117 := gH HB hg; have GE117 := gH HB hg; replace HB := sH HB hb; clear hb hbox hg; have hcz5_0 : w4.cell? ⟨gb117, 0, none⟩ = some (.int .i64 a0_0) := cB BK117 0; have hcz5_1 : w4.cell? ⟨gb117, 1, none⟩ = some (.slice A0_1 l0_1.length c0_1) := cB BK117 1; have hfz5_0 := zB BK117 0; have hfz5_1 := zB BK117 1) | ((with_reducible refine gate_callee (f := 73) rfl ?_); refine cl_ (some 10) Try.func73 #[.agg #[.int .i64 a0_0, .slice A0_1 l0_1.length c0_1], .slice A0_1 l0_1.length c0_1] ?_; (with_reducible refine (impl_Complex_count.calls k a0_0 _ _ l0_1 _ _ l0_1 t118 _ ?side1 ?side2 ?side3 ?side4 A3.out).mono ?_); (case side1 => exact pC ((Kd.C_below HR0_1.out HB.out))); (case side2 => exact HC0_1.out); (case side3 => exact pC ((Kd.C_below HR0_1.out HB.out))); (case side4 => exact HC0_1.out); rintro e w6 ⟨v119, rfl, ho0, hb⟩; refine ⟨_, rfl, ?_⟩; have HO120 := Aside0.mk (Kd.R_lower ho0 (below_size (pH HB))); replace BK117 := sB BK117 hb; replace HB := sH HB hb; (try clear hb); (try clear hi); (try clear ho0); obtain ⟨Ao7, co7, eo7⟩ := Kd.R_slice HO120.out; subst eo7))
 go_loopg [13] k (fun kq v13 w' => ∃ (x5_1 : List Int) (x13_1 : Int), v13 = .int .i64 x13_1 ∧ Aside0 (impl_Complex_betti.l0 kq a1 x5_1 (t118.length : Int) x13_1 a0_0 l0_1 = some r) ∧ Aside0 (kq ≤ k) ∧ Aside0 (Kd.R (Kd.int .i64) 2 w' w.heap.size (fun _ => True) (.slice Ao7 t118.length co7) x5_1) ∧ Aside0 (w'.heap[gb117]? = some (.cells #[.int .i64 a0_0, (.slice A0_1 l0_1.length c0_1)] 28 (0, 0))) ∧ Aside0 (Below w.heap.size w w'))
 case atStart => exact ⟨(t118), (0), (by first | rfl | (simp; done) | (simp [*]; done)), H', ⟨Nat.le_refl _⟩, ⟨by (with_reducible repeat (first | apply Kd.R_alloc | apply Kd.R_drewN | apply Kd.R_drew)); exact HO120.out⟩, ⟨pB BK117⟩, ⟨pH HB⟩⟩
 case round =>
  clear H'
  try clear p2
  try clear c6
  try clear c7
  try clear hcz5_0
  try clear hcz5_1
  try clear hfz5_0
  try clear hfz5_1
  obtain ⟨x5_1, x13_1, rfl, HA, HK1, HO_5, BK117, HB⟩ := hrel
  have hl5_1 := (Kd.R_reads' HO_5.out).1
  rw [hl5_1] at HO_5
  (try simp only [hl5_1])
  (try simp only [hl5_1] at BK117)
  cases gk with
  | zero => exact absurd HA.out (by simp [impl_Complex_betti.l0])
  | succ k1 =>
   have H := HA.out
   clear HA
   simp only [impl_Complex_betti.l0] at H
   by_cases c8 : x13_1 < (t118.length : Int)
   ·rw [if_pos c8] at H
    have c8b0 : decide (x13_1 < (t118.length : Int)) = true := decide_eq_true c8
    (try (have c8z0_hl5_1 := c8b0; simp only [hl5_1] at c8z0_hl5_1))
    clear c8
    by_cases c9 : 0 ≤ x13_1
    ·rw [if_pos c9] at H
     have c9b0 : decide (0 ≤ x13_1) = true := decide_eq_true c9
     clear c9
     by_cases c10 : x13_1 < (x5_1.length : Int)
     ·rw [if_pos c10] at H
      have c10b0 : decide (x13_1 < (x5_1.length : Int)) = true := decide_eq_true c10
      (try (have c10z0_hl5_1 := c10b0; simp only [hl5_1] at c10z0_hl5_1))
      clear c10
      replace H := Option.bind_eq_some_iff.mp H
      obtain ⟨t122, A110, H⟩ := H
      try dsimp only at H
      have A11 := Aside0.mk A110
      clear A110
      replace H := Option.bind_eq_some_iff.mp H
      obtain ⟨t123, A120, H⟩ := H
      try dsimp only at H
      have A12 := Aside0.mk A120
      clear A120
      obtain ⟨y124, hy124⟩ : ∃ y_ : List Int, y_ = (x5_1.set (x13_1 : Int).toNat (wrap64 ((rd x5_1 x13_1) - (wrap64 (t122 + t123))))) := ⟨_, rfl⟩
      replace H : (impl_Complex_betti.l0 k1 a1 y124 (t118.length : Int) (wrap64 (x13_1 + 1)) a0_0 l0_1) = some r := by first | (rw [hy124]; with_reducible exact H) | (have H2_ := (Option.bind_some _ _).symm.trans H; rw [hy124]; with_reducible exact H2_) | (have H2_ := (Option.bind_some _ _).symm.trans H; with_reducible exact H2_) | with_reducible exact H | (rw [hy124]; exact H) | exact H
      have Ny124 := Aside0.mk hy124
      clear hy124
      have H' := Aside0.mk H
      clear H
      try go_wp2
      replace HO_5 := Aside0.mk (Kd.R_drew HO_5.out)
      replace BK117 := dB BK117
      replace HB := dH HB
      have p121 : 0 ≤ (x13_1 : Int) := of_decide_eq_true (by first | (with_reducible assumption) | assumption)
      have q121 : x13_1 < (x5_1.length : Int) := of_decide_eq_true (by first | (with_reducible assumption) | assumption)
      obtain ⟨ad121, e121, hx121_0⟩ := Kd.at_int (Kd.R_reads' HO_5.out).2.2 x13_1 p121 q121
      cases e121
      replace p121 := eq_true p121
      replace q121 := eq_true q121
      refine st_ 17 (S := fun w' => w'.cell? ⟨gb117, 0, none⟩ = some (.int .i64 a0_0) ∧ w'.cell? ⟨gb117, 1, none⟩ = some (.slice A0_1 l0_1.length c0_1) ∧ w'.cell? (ad121.add (x13_1).toNat) = some (.int .i64 (rd x5_1 x13_1))) (ds := [16]) ⟨cB BK117 0, cB BK117 1, hx121_0⟩ (fun hHeld => ?_); refine with_tabW impl_Complex_betti.tab5 impl_Complex_betti.bits5 (fun HT_ HW_ => ?_)
      generalize wr.drew = w14 at HO_5 BK117 HB hx121_0 hHeld ⊢
      refine pu_ 0 16 1 HT_ ?_
      refine pu_ 1 17 3 HT_ ?_
      refine pu_ 2 18 7 HT_ ?_
      refine pu_ 5 21 39 HT_ ?_
      refine pu_ 6 22 103 HT_ ?_
      refine pu_ 9 25 615 HT_ ?_
      refine pu_ 10 26 1639 HT_ ?_
      refine pu_ 11 27 3687 HT_ ?_
      refine tk_ 3 19 3695 HT_ HW_ hHeld ?_
      refine tk_ 4 20 3711 HT_ HW_ hHeld ?_
      refine tk_ 8 24 3967 HT_ HW_ hHeld ?_
      refine on_ 7 (some 23) 4095 HT_ (fun K hK => ?_)
      refine ca_ Try.func109 #[.agg #[.int .i64 a0_0, .slice A0_1 l0_1.length c0_1], .int .i64 x13_1, .int .i64 a1] ?_
      with_reducible refine (impl_Complex_rank.calls a0_0 _ _ l0_1 x13_1 a1 t122 _ ?side1 ?side2 A11.out).mono ?_
      (case side1 => exact pC ((Kd.C_below HR0_1.out HB.out)))
      (case side2 => exact HC0_1.out)
      rintro e w15 ⟨rfl, hb⟩
      have HS2_ := (hb.cell (World.block_lt_of_cell? _ _ (hHeld.2.2))).trans (hHeld.2.2)
      refine ⟨_, rfl, ?_⟩
      replace HO_5 := sR HO_5 hb
      replace BK117 := sB BK117 hb
      replace HB := sH HB hb
      (try clear hb)
      (try clear hb2)
      (try clear hk)
      (try clear hi)
      refine hK.out _ _ ⟨cB BK117 0, cB BK117 1, HS2_⟩ (fun hHeld => ?_)
      clear hK K
      refine nm_ ?_
      refine on_ 12 (some 28) 8191 HT_ (fun K hK => ?_)
      refine ca_ Try.func109 #[.agg #[.int .i64 a0_0, .slice A0_1 l0_1.length c0_1], .int .i64 (wrap64 (x13_1 + 1)), .int .i64 a1] ?_
      with_reducible refine (impl_Complex_rank.calls a0_0 _ _ l0_1 (wrap64 (x13_1 + 1)) a1 t123 _ ?side1 ?side2 A12.out).mono ?_
      (case side1 => exact pC ((Kd.C_below HR0_1.out HB.out)))
      (case side2 => exact HC0_1.out)
      rintro e w16 ⟨rfl, hb⟩
      have HS2_ := (hb.cell (World.block_lt_of_cell? _ _ (hHeld.2.2))).trans (hHeld.2.2)
      refine ⟨_, rfl, ?_⟩
      replace HO_5 := sR HO_5 hb
      replace BK117 := sB BK117 hb
      replace HB := sH HB hb
      (try clear hb)
      (try clear hb2)
      (try clear hk)
      (try clear hi)
      have p13 : 0 ≤ (x13_1 : Int) := of_decide_eq_true (by first | (with_reducible assumption) | assumption)
      have q13 : (x13_1 : Int) < ((x5_1.length : Int) : Int) := of_decide_eq_true (by first | (with_reducible assumption) | assumption)
      obtain ⟨go13, co13, eo13, gb13, gl13, cl13, HG13⟩ := Kd.R_form HO_5.out (by omega)
      (first | cases eo13 | (injection eo13 with ea_ en_ ec_; (first | subst ea_ | (injection ea_ with ea_; subst ea_)); subst ec_; clear en_))
      have GB13 := Aside0.mk gb13
      have GG13 := Aside0.mk HG13
      clear gb13 gl13 HG13
      (first | simp only [add_plain] at hx121_0 | skip)
      obtain ⟨hx13_0, hf13_0⟩ := Kd.R_celln 0 HO_5.out (x13_1 : Int) p13 q13
      replace p13 := eq_true p13
      replace q13 := eq_true q13
      have HP17 := Kd.R_putn HO_5.out (x13_1 : Int) (wrap64 ((rd x5_1 x13_1) - (wrap64 (t122 + t123))))
      rw [← Ny124.out] at HP17
      have HQ17 := Aside0.mk HP17
      clear HP17
      refine hK.out _ _ ⟨cB BK117 0, cB BK117 1, HS2_⟩ (fun hHeld => ?_)
      clear hK K
      refine nm_ ?_
      refine pu_ 13 29 16383 HT_ ?_
      refine pu_ 14 30 32767 HT_ ?_
      refine pu_ 15 31 65535 HT_ ?_
      refine last_ (i := 16) (N := none) (mB 17 131071) rfl rfl (one_of HT_.out (by kernel_rfl)) (by decide) (fun K hK => ?_)
      refine skip_ (w1 := ?_) (by rfl) rfl ?_ ?_
      rotate_left
      ·go_simp
       rfl
      refine hK.out _ _ ?_
      clear hK K
      refine dn_ HT_ ?_
      try go_wp2
      (try simp only [← hl5_1])
      go_roundg k1
      case measure => have := HK1.out; omega
      case rel => exact ⟨(y124), (wrap64 (x13_1 + 1)), (by first | rfl | (simp; done) | (simp [*]; done)), H', ⟨by have := HK1.out; omega⟩, ⟨by (try simp only [hl5_1]); (with_reducible repeat (first | apply Kd.R_alloc | apply Kd.R_drewN | apply Kd.R_drew)); exact HQ17.out⟩, ⟨by (try simp only [hl5_1]); (with_reducible repeat (first | refine blk_drewN ?_ _ | refine blk_drew ?_ | refine blk_alloc ?_ _)); refine blk_far ?_ (by have h_ := Kd.R_ne HO_5.out BK117.out (by decide); intro e_; exact h_ (by rw [e_]; rfl)) _; (with_reducible repeat (first | refine blk_drewN ?_ _ | refine blk_drew ?_ | refine blk_alloc ?_ _)); exact BK117.out⟩, ⟨by repeat (first | (with_reducible first | exact HB.out | apply below_alloc | apply pw_below_drewN | apply below_drew1 | refine below_set ?_ GB13.out | refine below_set ?_ GE117.out) | exact HB.out)⟩⟩
     ·rw [if_neg c10] at H
      exact absurd H (by simp)
    ·rw [if_neg c9] at H
     exact absurd H (by simp)
   ·rw [if_neg c8] at H
    have c8b0 : decide (x13_1 < (t118.length : Int)) = false := decide_eq_false c8
    (try (have c8z0_hl5_1 := c8b0; simp only [hl5_1] at c8z0_hl5_1))
    clear c8
    obtain rfl := Option.some.inj H
    go_wp2
    go_ret
    exact ⟨_, by first | rfl | (simp [errW_none, errW_some] <;> rfl) | (simp [*, errW_none, errW_some] <;> rfl) | (exfalso; simp_all), by (with_reducible repeat (first | apply Kd.R_alloc | apply Kd.R_drewN | apply Kd.R_drew)); exact HO_5.out, pH HB⟩
end Go.Proofs.Ytomdfjohnmikdaa.QE
namespace Go.Proofs.Ytomdfjohnmikdaa.Ql03Betti
open Cw Kp Ext QS Go.RowKit YtomdfjohnmikdaaW.PrintWords YtomdfjohnmikdaaW.PrintLast YtomdfjohnmikdaaW.PrintMore
attribute [local go_sem] max2_int min2_int max_two min_two max_three min_three max_four min_four   -- for this text's walks alone
theorem info2 : (Try.prog.info? 2).map (fun i => (i.zero, i.size, i.bytes)) = some (some (.int .i64 0), 1, 8) := by kernel_rfl
def spec_l03Betti.l0 : Nat → Int → List Int → Int → Int → List Int → Option (List Int)
 | 0, _, _, _, _, _ => none
 | k + 1, x1, x5, x6, x115000, x115001 => (spec_l01Dim.f k x115000 x115001).bind fun t118 => (if x6 ≤ t118 then ((spec_l01Of.f k x115000 x115001 x6).bind fun t119 => ((spec_l03RankOf.f x115000 x115001 x6 x1).bind fun t122 => ((spec_l03RankOf.f x115000 x115001 (wrap64 (x6 + 1)) x1).bind fun t123 => (if x5.length < 17592186044416 then (spec_l03Betti.l0 k x1 (x5 ++ [wrap64 ((wrap64 ((t119.length : Int) - t122)) - t123)]) (wrap64 (x6 + 1)) x115000 x115001) else (none))))) else (some x5))
def spec_l03Betti.f (k : Nat) (a0_0 : Int) (l0_1 : List Int) (a1 : Int) : Option (List Int) := spec_l03Betti.l0 k a1 (([] : List Int)) 0 a0_0 l0_1
theorem spec_l03Betti.mono_l : ∀ k, (∀ y0 y1 y2 y3 y4, LeO (spec_l03Betti.l0 k y0 y1 y2 y3 y4) (spec_l03Betti.l0 (k + 1) y0 y1 y2 y3 y4))
 | 0 => fun _ _ _ _ _ r h => by simp [spec_l03Betti.l0] at h
 | k + 1 => by
  have ih0 := spec_l03Betti.mono_l k
  ·intro y0 y1 y2 y3 y4
   unfold spec_l03Betti.l0
   repeat' first
   | (with_reducible exact ih0 _ _ _ _ _)
   | (with_reducible exact spec_l01Dim.mono _ _ _)
   | (with_reducible exact spec_l01Of.mono _ _ _ _)
   | (with_reducible exact LeO.refl _)
   | (with_reducible exact LeO.none _)
   | (with_reducible refine LeO.ite ?_ ?_)
   | (with_reducible refine LeO.bind ?_ (fun _ => ?_))
   | exact ih0 _ _ _ _ _
   | exact spec_l01Dim.mono _ _ _
   | exact spec_l01Of.mono _ _ _ _
   | exact LeO.none _
   | refine LeO.ite ?_ ?_
   | refine LeO.bind ?_ (fun _ => ?_)
theorem spec_l03Betti.mono : ∀ a0 a1 a2 k, LeO (spec_l03Betti.f k a0 a1 a2) (spec_l03Betti.f (k + 1) a0 a1 a2) := by
 intro a0 a1 a2 k
 have ih0 := spec_l03Betti.mono_l k
 unfold spec_l03Betti.f
 repeat' first
   | (with_reducible exact ih0 _ _ _ _ _)
   | (with_reducible exact spec_l01Dim.mono _ _ _)
   | (with_reducible exact spec_l01Of.mono _ _ _ _)
   | (with_reducible exact LeO.refl _)
   | (with_reducible exact LeO.none _)
   | (with_reducible refine LeO.ite ?_ ?_)
   | (with_reducible refine LeO.bind ?_ (fun _ => ?_))
   | exact ih0 _ _ _ _ _
   | exact spec_l01Dim.mono _ _ _
   | exact spec_l01Of.mono _ _ _ _
   | exact LeO.none _
   | refine LeO.ite ?_ ?_
   | refine LeO.bind ?_ (fun _ => ?_)
def spec_l03Betti.T5 : Bool × List (List Nat × List Nat) := (true, [([], []), ([], []), ([], []), ([1, 2], [1, 2]), ([3], [3]), ([], []), ([], []), ([], []), ([5, 6, 7, 3], [5, 6, 7]), ([4, 8], [4, 8]), ([], []), ([], []), ([11], [11]), ([], []), ([10, 12, 13, 8], [10, 12, 13]), ([9, 14], [9, 14]), ([15], [15]), ([0, 16, 14], [0, 16]), ([17, 17, 0, 1, 2, 3, 4, 5, 6, 7, 8, 9, 10, 11, 12, 13, 14, 15, 16, 17], [0, 17])])
def spec_l03Betti.B5 : List Nat := [0, 0, 0, 6, 14, 0, 0, 0, 238, 510, 0, 0, 2048, 0, 15854, 32766, 65534, 131071, 262143]
theorem spec_l03Betti.tab5 : rtab .any (opsOf Try.f51 5) = spec_l03Betti.T5 := by kernel_rfl
theorem spec_l03Betti.bits5 : waitsOk spec_l03Betti.T5.2 spec_l03Betti.B5 = true := by kernel_rfl
set_option maxHeartbeats 8000000 in
set_option maxRecDepth 100000 in
theorem spec_l03Betti.calls (k : Nat) (a0_0 : Int) (A0_1 : Option Addr) (c0_1 : Nat) (l0_1 : List Int) (a1 : Int) (r : List Int) (w : World) (hr0_1 : Kd.C (Kd.int .i64) w A0_1 l0_1.length l0_1) (hc0_1 : l0_1.length ≤ c0_1) (h : spec_l03Betti.f k a0_0 l0_1 a1 = some r) :
  Calls Try.prog 51 #[.agg #[.int .i64 a0_0, .slice A0_1 l0_1.length c0_1], .int .i64 a1] w fun e w' => ∃ v0_ : Value, e = .returned (v0_) ∧ Kd.R (Kd.int .i64) 2 w' w.heap.size (fun _ => True) v0_ r ∧ Below w.heap.size w w' := by
 have hu28 := Try.underlying28
 have HR0_1 := Aside0.mk hr0_1
 have HC0_1 := Aside0.mk hc0_1
 clear hr0_1 hc0_1
 have HB := Aside0.mk (Below.refl w.heap.size w)
 have H : (spec_l03Betti.l0 k a1 (([] : List Int)) 0 a0_0 l0_1) = some r := h
 clear h
 obtain ⟨y115, hy115⟩ : ∃ y_ : List Int, y_ = (([] : List Int)) := ⟨_, rfl⟩
 replace H : (spec_l03Betti.l0 k a1 y115 0 a0_0 l0_1) = some r := by first | (rw [hy115]; with_reducible exact H) | (have H2_ := (Option.bind_some _ _).symm.trans H; rw [hy115]; with_reducible exact H2_) | (have H2_ := (Option.bind_some _ _).symm.trans H; with_reducible exact H2_) | with_reducible exact H | (rw [hy115]; exact H) | exact H
 have Ny115 := Aside0.mk hy115
 clear hy115
 have H' := Aside0.mk H
 clear H
 go_enter Try.func51, Try.ntmps51
 go_wp2_with (first | ((with_reducible refine gate_dst (N := 2) rfl ?_); refine box_event ?hg (N := 2) ?hd (cs := #[.int .i64 a0_0, .slice A0_1 l0_1.length c0_1]) (t := 28) ?hr ?_; (case hd => rfl); (case hg => rfl); (case hr => first | (go_simp; done) | (go_simp; rfl)); intro gb114 hg w3 hbox hb; have BK114 := Aside0.mk (hbox); have GW114 := gH HB hg; have GE114 := gH HB hg; replace HB := sH HB hb; clear hb hbox hg) | ((with_reducible refine gate_dst (N := 7) rfl ?_); refine Kd.R_lit (Kd.int .i64) _ 2 ?hg (N := 7) ?hd (xs := ([] : List Int)) (inner := []) (ok := fun _ => True) (okp := fun _ => True) ?hr ?hp (fun _ hk => hk) trivial (Below.refl _ _) (Nat.le_refl _) (by simp) ?_; (case hd => rfl); (case hg => rfl); (case hr => first | (go_simp; done) | (go_simp; rfl)); (case hp => exact (Reps.none _ _)); intro v116 w4 ho5 hb hg_ hnew_; clear hg_ hnew_; (first | rw [← Ny115.out] at ho5 | (simp only [Int.reduceToNat] at ho5; rw [← Ny115.out] at ho5)); have HO117 := Aside0.mk (Kd.R_lower ho5 (below_size (pH HB))); replace BK114 := sB BK114 hb; replace HB := sH HB hb; clear hb ho5))
 go_loopg [5, 6] k (fun kq v5 v6 w' => ∃ (x5_1 : List Int) (x6_1 : Int), v6 = .int .i64 x6_1 ∧ Aside0 (spec_l03Betti.l0 kq a1 x5_1 x6_1 a0_0 l0_1 = some r) ∧ Aside0 (kq ≤ k) ∧ Aside0 (Kd.R (Kd.int .i64) 2 w' w.heap.size (fun _ => True) v5 x5_1) ∧ Aside0 (w'.heap[gb114]? = some (.cells #[.int .i64 a0_0, (.slice A0_1 l0_1.length c0_1)] 28 (0, 0))) ∧ Aside0 (Below w.heap.size w w'))
 case atStart => exact ⟨(y115), (0), (by first | rfl | (simp; done) | (simp [*]; done)), H', ⟨Nat.le_refl _⟩, ⟨by (with_reducible repeat (first | apply Kd.R_alloc | apply Kd.R_drewN | apply Kd.R_drew)); exact HO117.out⟩, ⟨pB BK114⟩, ⟨pH HB⟩⟩
 case round =>
  clear H'
  try clear p2
  try clear c5
  obtain ⟨x5_1, x6_1, rfl, HA, HK1, HO_5, BK114, HB⟩ := hrel
  cases gk with
  | zero => exact absurd HA.out (by simp [spec_l03Betti.l0])
  | succ k1 =>
   have H := HA.out
   clear HA
   simp only [spec_l03Betti.l0] at H
   replace H := Option.bind_eq_some_iff.mp H
   obtain ⟨t118, A60, H⟩ := H
   try dsimp only at H
   have A6 := Aside0.mk A60
   clear A60
   by_cases c7 : x6_1 ≤ t118
   ·rw [if_pos c7] at H
    have c7b0 : decide (x6_1 ≤ t118) = true := decide_eq_true c7
    clear c7
    replace H := Option.bind_eq_some_iff.mp H
    obtain ⟨t119, A80, H⟩ := H
    try dsimp only at H
    have A8 := Aside0.mk A80
    clear A80
    replace H := Option.bind_eq_some_iff.mp H
    obtain ⟨t122, A90, H⟩ := H
    try dsimp only at H
    have A9 := Aside0.mk A90
    clear A90
    replace H := Option.bind_eq_some_iff.mp H
    obtain ⟨t123, A100, H⟩ := H
    try dsimp only at H
    have A10 := Aside0.mk A100
    clear A100
    by_cases c11 : x5_1.length < 17592186044416
    ·rw [if_pos c11] at H
     have LMc11 := Aside0.mk c11
     clear c11
     obtain ⟨y124, hy124⟩ : ∃ y_ : List Int, y_ = (x5_1 ++ [wrap64 ((wrap64 ((t119.length : Int) - t122)) - t123)]) := ⟨_, rfl⟩
     replace H : (spec_l03Betti.l0 k1 a1 y124 (wrap64 (x6_1 + 1)) a0_0 l0_1) = some r := by first | (rw [hy124]; with_reducible exact H) | (have H2_ := (Option.bind_some _ _).symm.trans H; rw [hy124]; with_reducible exact H2_) | (have H2_ := (Option.bind_some _ _).symm.trans H; with_reducible exact H2_) | with_reducible exact H | (rw [hy124]; exact H) | exact H
     have Ny124 := Aside0.mk hy124
     clear hy124
     have H' := Aside0.mk H
     clear H
     have hcz12_0 : wr.cell? ⟨gb114, 0, none⟩ = some (.int .i64 a0_0) := cB BK114 0
     have hcz12_1 : wr.cell? ⟨gb114, 1, none⟩ = some (.slice A0_1 l0_1.length c0_1) := cB BK114 1
     have hfz12_0 := zB BK114 0
     have hfz12_1 := zB BK114 1
     try go_wp2_with (first | ((with_reducible refine gate_callee (f := 103) rfl ?_); refine cl_ (some 10) Try.func103 #[.agg #[.int .i64 a0_0, .slice A0_1 l0_1.length c0_1]] ?_; (with_reducible refine (spec_l01Dim.calls k1 a0_0 _ _ l0_1 t118 _ ?side1 ?side2 A6.out).mono ?_); (case side1 => exact pC ((Kd.C_below HR0_1.out HB.out))); (case side2 => exact HC0_1.out); rintro e w13 ⟨rfl, hb⟩; refine ⟨_, rfl, ?_⟩; replace HO_5 := sR HO_5 hb; replace BK114 := sB BK114 hb; replace HB := sH HB hb; (try clear hb); (try clear hi)))
     replace HO_5 := Aside0.mk (Kd.R_drew HO_5.out)
     replace BK114 := dB BK114
     replace HB := dH HB
     refine st_ 19 (S := fun w' => w'.cell? ⟨gb114, 0, none⟩ = some (.int .i64 a0_0) ∧ w'.cell? ⟨gb114, 1, none⟩ = some (.slice A0_1 l0_1.length c0_1)) (ds := []) ⟨cB BK114 0, cB BK114 1⟩ (fun hHeld => ?_); refine with_tabW spec_l03Betti.tab5 spec_l03Betti.bits5 (fun HT_ HW_ => ?_)
     generalize w13.drew = w14 at HO_5 BK114 HB hHeld ⊢
     refine pu_ 0 14 1 HT_ ?_
     refine pu_ 2 16 5 HT_ ?_
     refine pu_ 6 20 69 HT_ ?_
     refine pu_ 7 21 197 HT_ ?_
     refine pu_ 11 25 2245 HT_ ?_
     refine pu_ 12 26 6341 HT_ ?_
     refine pu_ 13 27 14533 HT_ ?_
     refine tk_ 1 15 14535 HT_ HW_ hHeld ?_
     refine tk_ 5 19 14567 HT_ HW_ hHeld ?_
     refine tk_ 10 24 15591 HT_ HW_ hHeld ?_
     refine on_ 3 (some 17) 15599 HT_ (fun K hK => ?_)
     refine ca_ Try.func104 #[.agg #[.int .i64 a0_0, .slice A0_1 l0_1.length c0_1], .int .i64 x6_1] ?_
     with_reducible refine (spec_l01Of.calls k1 a0_0 _ _ l0_1 x6_1 t119 _ ?side1 ?side2 A8.out).mono ?_
     (case side1 => exact pC ((Kd.C_below HR0_1.out HB.out)))
     (case side2 => exact HC0_1.out)
     rintro e w15 ⟨v120, rfl, ho0, hb⟩
     refine ⟨_, rfl, ?_⟩
     have HO121 := Aside0.mk (Kd.R_lower (Kd.R_new' ho0 (Kd.R_lt (pR HO_5))) (below_size (pH HB)))
     replace HO_5 := Aside0.mk (Kd.R_elder' (pR HO_5) (Kd.R_base ho0) hb)
     replace BK114 := sB BK114 hb
     replace HB := sH HB hb
     (try clear hb)
     (try clear hb2)
     (try clear hk)
     (try clear hi)
     (try clear ho0)
     obtain ⟨Ao16, co16, eo16⟩ := Kd.R_slice HO121.out
     (first | subst eo16 | (injection eo16 with f1_ f2_ f3_; have f4_ := f1_.symm; have f5_ := f3_.symm; clear f1_ f2_ f3_; subst f4_; subst f5_))
     refine hK.out _ _ ⟨cB BK114 0, cB BK114 1⟩ (fun hHeld => ?_)
     clear hK K
     refine nm_ ?_
     refine pu_ 4 18 15615 HT_ ?_
     refine on_ 8 (some 22) 15871 HT_ (fun K hK => ?_)
     refine ca_ Try.func105 #[.agg #[.int .i64 a0_0, .slice A0_1 l0_1.length c0_1], .int .i64 x6_1, .int .i64 a1] ?_
     with_reducible refine (spec_l03RankOf.calls a0_0 _ _ l0_1 x6_1 a1 t122 _ ?side1 ?side2 A9.out).mono ?_
     (case side1 => exact pC ((Kd.C_below HR0_1.out HB.out)))
     (case side2 => exact HC0_1.out)
     rintro e w17 ⟨rfl, hb⟩
     refine ⟨_, rfl, ?_⟩
     replace HO_5 := sR HO_5 hb
     replace HO121 := sR HO121 hb
     replace BK114 := sB BK114 hb
     replace HB := sH HB hb
     (try clear hb)
     (try clear hb2)
     (try clear hk)
     (try clear hi)
     refine hK.out _ _ ⟨cB BK114 0, cB BK114 1⟩ (fun hHeld => ?_)
     clear hK K
     refine nm_ ?_
     refine pu_ 9 23 16383 HT_ ?_
     refine on_ 14 (some 28) 32767 HT_ (fun K hK => ?_)
     refine ca_ Try.func105 #[.agg #[.int .i64 a0_0, .slice A0_1 l0_1.length c0_1], .int .i64 (wrap64 (x6_1 + 1)), .int .i64 a1] ?_
     with_reducible refine (spec_l03RankOf.calls a0_0 _ _ l0_1 (wrap64 (x6_1 + 1)) a1 t123 _ ?side1 ?side2 A10.out).mono ?_
     (case side1 => exact pC ((Kd.C_below HR0_1.out HB.out)))
     (case side2 => exact HC0_1.out)
     rintro e w18 ⟨rfl, hb⟩
     refine ⟨_, rfl, ?_⟩
     replace HO_5 := sR HO_5 hb
     replace HO121 := sR HO121 hb
     replace BK114 := sB BK114 hb
     replace HB := sH HB hb
     (try clear hb)
     (try clear hb2)
     (try clear hk)
     (try clear hi)
     refine hK.out _ _ ⟨cB BK114 0, cB BK114 1⟩ (fun hHeld => ?_)
     clear hK K
     refine nm_ ?_
     refine pu_ 15 29 65535 HT_ ?_
     refine on_ 16 (some 30) 131071 HT_ (fun K hK => ?_)
     refine value_ (w1 := ?_) (v := ?_) (by rfl) rfl ?_ ?_
     rotate_left 2
     ·go_simp
      constructor
      ·rfl
      ·rfl
     refine hK.out _ _ ⟨(blk_cell (blk_alloc BK114.out _) 0).trans rfl, (blk_cell (blk_alloc BK114.out _) 1).trans rfl⟩ (fun hHeld => ?_)
     clear hK K
     refine nm_ ?_
     refine on_ 17 (some 31) 262143 HT_ (fun K hK => ?_)
     refine Kd.R_append_step (Kd.int .i64) (w0 := w) w.heap.size (by rfl) (.tmp 14) (.tmp 30) 22 2 (.int .i64 0) 8 rfl Try.underlying22 info2 rfl (by decide) (by omega) u5 x5_1 (wrap64 ((wrap64 ((t119.length : Int) - t122)) - t123)) [.int .i64 (wrap64 ((wrap64 ((t119.length : Int) - t122)) - t123))] (fun k_ => some k_ ≠ (.slice Ao16 t119.length co16 : Value).ownBlock) (fun _ => False) rfl rfl ?aP (fun _ hk => hk.elim) ?aF ?aO ?aB ?aS ?aL ?_
     (case aP => exact rfl)
     (case aB => exact (pH HB))
     (case aF => exact (fun k_ hk => Kd.fresh' (Kd.R_lt (pR HO121)) k_ hk))
     (case aO => exact (by (with_reducible repeat (first | apply Kd.R_alloc | apply Kd.R_drewN | apply Kd.R_drew)); exact Kd.R_mono HO_5.out (fun _ hk => hk.2)))
     (case aS => exact (below_size (pH HB)))
     (case aL => have := LMc11.out; omega)
     intro v125 w19 ho hb hg hat
     rw [← Ny124.out] at ho
     replace BK114 := Aside0.mk (blk_grown (g := gb114) (o := .cells #[.int .i64 a0_0, .slice A0_1 l0_1.length c0_1] 28 (0, 0)) (pB BK114) hg (Kd.R_ne HO_5.out BK114.out (by decide)))
     replace HO121 := Aside0.mk (Kd.R_after (ok := (fun _ => True)) (pR HO121) hg hat)
     replace HB := Aside0.mk (hb)
     have HO126 := Aside0.mk (ho)
     clear HO_5
     clear ho hb hg hat
     refine hK.out _ _ ⟨cB BK114 0, cB BK114 1⟩ (fun hHeld => ?_)
     clear hK K
     refine nm_ ?_
     refine pu_ 18 5 524287 HT_ ?_
     refine dn_ HT_ ?_
     try go_wp2
     go_roundg k1
     case measure => have := HK1.out; omega
     case rel => exact ⟨(y124), (wrap64 (x6_1 + 1)), (by first | rfl | (simp; done) | (simp [*]; done)), H', ⟨by have := HK1.out; omega⟩, ⟨by (with_reducible repeat (first | apply Kd.R_alloc | apply Kd.R_drewN | apply Kd.R_drew)); exact Kd.R_mono HO126.out (fun _ hk => trivial)⟩, ⟨pB BK114⟩, ⟨pH HB⟩⟩
    ·rw [if_neg c11] at H
     exact absurd H (by simp)
   ·rw [if_neg c7] at H
    have c7b0 : decide (x6_1 ≤ t118) = false := decide_eq_false c7
    clear c7
    obtain rfl := Option.some.inj H
    have hcz20_0 : wr.cell? ⟨gb114, 0, none⟩ = some (.int .i64 a0_0) := cB BK114 0
    have hcz20_1 : wr.cell? ⟨gb114, 1, none⟩ = some (.slice A0_1 l0_1.length c0_1) := cB BK114 1
    have hfz20_0 := zB BK114 0
    have hfz20_1 := zB BK114 1
    go_wp2_with (first | ((with_reducible refine gate_callee (f := 103) rfl ?_); refine cl_ (some 10) Try.func103 #[.agg #[.int .i64 a0_0, .slice A0_1 l0_1.length c0_1]] ?_; (with_reducible refine (spec_l01Dim.calls k1 a0_0 _ _ l0_1 t118 _ ?side1 ?side2 A6.out).mono ?_); (case side1 => exact pC ((Kd.C_below HR0_1.out HB.out))); (case side2 => exact HC0_1.out); rintro e w21 ⟨rfl, hb⟩; refine ⟨_, rfl, ?_⟩; replace HO_5 := sR HO_5 hb; replace BK114 := sB BK114 hb; replace HB := sH HB hb; (try clear hb); (try clear hi)))
    go_ret
    exact ⟨_, by first | rfl | (simp [errW_none, errW_some] <;> rfl) | (simp [*, errW_none, errW_some] <;> rfl) | (exfalso; simp_all), by (with_reducible repeat (first | apply Kd.R_alloc | apply Kd.R_drewN | apply Kd.R_drew)); exact HO_5.out, pH HB⟩
end Go.Proofs.Ytomdfjohnmikdaa.Ql03Betti
namespace Go.Proofs.Ytomdfjohnmikdaa.Pu
open Go.RowKit Ext Im YtomdfjohnmikdaaW.PrintWords YtomdfjohnmikdaaW.PrintLast YtomdfjohnmikdaaW.PrintMore
theorem dimE_eq {x : Int} (h0 : 0 ≤ x) (h6 : x ≤ 63) : QE.impl_dimension.f x = some (onesZ x - 1) :=
  (show QE.impl_dimension.f x = QI.impl_dimension.f x from rfl).trans (dim_eq h0 h6)
theorem count_loop (D : Nat) (l : List Int) (hr : ∀ x ∈ l, (1 ≤ x ∧ x ≤ 63) ∧ 1 ≤ onesZ x ∧ onesZ x ≤ (D : Int)) (hm : l.length ≤ 1048576) :
    ∀ d (i : Nat), l.length - i = d → i ≤ l.length → Ev (fun k => QE.impl_Complex_count.l0 k (cntL D (l.take i)) l (l.length : Int) i) (cntL D l) := by
  intro d
  induction d with
  | zero =>
    intro i hd hi
    rw [List.take_of_length_le (by omega)]
    refine Ev.step (f := fun k => some (cntL D l)) (fun k => ?_) (Ev.now _)
    simp only [QE.impl_Complex_count.l0]; rw [if_neg (by omega)]
  | succ d ih =>
    intro i hd hi
    have hi' : i < l.length := by omega
    obtain ⟨hx, hx1, hx2⟩ := hr _ (List.getElem_mem hi')
    obtain ⟨e, he⟩ : ∃ e : Nat, onesZ l[i] = ((e + 1 : Nat) : Int) := ⟨(onesZ l[i]).toNat - 1, by omega⟩
    have heD : e < D := by omega
    have hle := cntL_le (D := D) (d := e) (l.take i)
    rw [List.length_take] at hle
    have hlen := cntL_len D (l.take i)
    refine Ev.step (f := fun k => QE.impl_Complex_count.l0 k (cntL D (l.take (i + 1))) l (l.length : Int) ((i + 1 : Nat) : Int)) (fun k => ?_) (ih (i + 1) (by omega) (by omega))
    simp only [QE.impl_Complex_count.l0]
    rw [if_pos (by omega), if_pos (by omega), if_pos (by omega), rd_at' hi', dimE_eq (by omega) (by omega)]
    simp only [Option.bind_some]
    rw [he, show ((e + 1 : Nat) : Int) - 1 = (e : Int) by omega, if_pos (by omega), if_pos (by omega)]
    have hrd : rd (cntL D (l.take i)) (e : Int) = (cntL D (l.take i))[e]?.getD 0 := by simp [rd, List.getD_eq_getElem?_getD]
    rw [hrd, w64' (by omega) (by omega), Int.toNat_natCast, cntL_snoc (l.take i) l[i] heD he, show wrap64 ((i : Int) + 1) = ((i + 1 : Nat) : Int) by rw [w64' (by omega) (by omega)]; omega]
    rw [List.take_add_one, List.getElem?_eq_getElem hi']
    rfl
theorem ev_cntE {n : Int} {l : List Int} (hi : isC n l = true) {m : List Int} (hm : ∀ x ∈ m, x ∈ l) (hl : m.length ≤ 1048576) : Ev (fun k => QE.impl_Complex_count.f k n l m) (cntL (dimL l + 1).toNat m) := by
  have hs := isC_small hi
  have h63 := isC_63 hi
  obtain ⟨d1, d2, d3⟩ := dim_rng l
  obtain ⟨D, hD⟩ := Int.eq_ofNat_of_zero_le (show 0 ≤ dimL l + 1 by omega)
  have hdm : impl_Complex_dimension.f n l = some (dimL l) := by unfold impl_Complex_dimension.f; rw [if_pos hi]
  unfold QE.impl_Complex_count.f
  simp only [hdm, Option.bind_some]
  rw [w64 (by omega) (by omega), hD]
  simp only [if_pos (show (0 : Int) ≤ (D : Int) by omega), Int.toNat_natCast, if_pos (show D ≤ 35184372088832 by omega)]
  have := count_loop D m (fun x hx => ⟨h63 x (hm x hx), ones1 (h63 x (hm x hx)), by have := d3 x (hm x hx); omega⟩) hl _ 0 rfl (Nat.zero_le _)
  rw [List.take_zero, cntL_nil] at this
  exact this
theorem elim_le (lo : Nat → Nat) (M : List (List Int)) : ∀ m, (elimAll lo M m).2 ≤ m := by
  intro m
  unfold elimAll
  induction m with
  | zero => exact Nat.le_refl _
  | succ m ih =>
    rw [List.range_succ, List.foldl_append]
    generalize (List.range m).foldl (elimStep lo) (M, 0) = s at ih
    show (elimStep lo s m).2 ≤ m + 1
    unfold elimStep
    cases findZ s.1 m s.2 with
    | none => exact Nat.le_succ_of_le ih
    | some i => exact Nat.succ_le_succ ih
theorem rank_rng {n : Int} {xs : List Int} (hi : isC n xs = true) (d : Int) : 0 ≤ rankS xs d ∧ rankS xs d ≤ 63 := by
  have hs := isC_small hi
  unfold rankS
  split
  · omega
  · have := elim_le id (matZ (ofL xs (d.toNat - 1)) (ofL xs d.toNat) bordersL) (ofL xs (d.toNat - 1)).length
    have hl : (ofL xs (d.toNat - 1)).length ≤ xs.length := List.length_filter_le _ _
    omega
def bettiAt (xs : List Int) (d : Nat) : Int := ((ofL xs d).length : Int) - rankS xs (d : Int) - rankS xs ((d + 1 : Nat) : Int)
def bettiL (xs : List Int) : List Int := (List.range (dimL xs + 1).toNat).map (bettiAt xs)
theorem bettiL_len (xs : List Int) : (bettiL xs).length = (dimL xs + 1).toNat := by simp [bettiL]
theorem betti_rng {n : Int} {xs : List Int} (hi : isC n xs = true) (d : Nat) : -126 ≤ bettiAt xs d ∧ bettiAt xs d ≤ 63 := by
  have hs := isC_small hi
  have h1 := rank_rng hi (d : Int)
  have h2 := rank_rng hi ((d + 1 : Nat) : Int)
  have hl : (ofL xs d).length ≤ xs.length := List.length_filter_le _ _
  unfold bettiAt
  omega
theorem rankO_f {n : Int} {xs : List Int} (hi : isC n xs = true) (d : Int) : spec_l03RankOf.f n xs d 2 = some (rankS xs d) := by unfold spec_l03RankOf.f; rw [if_pos ⟨hi, rfl⟩]
theorem bt_loop {n : Int} {xs : List Int} (hi : isC n xs = true) {D : Nat} (hD : dimL xs + 1 = (D : Int)) : ∀ d (i : Nat), D - i = d → i ≤ D → Ev (fun k => Ql03Betti.spec_l03Betti.l0 k 2 ((List.range i).map (bettiAt xs)) (i : Int) n xs) ((List.range D).map (bettiAt xs)) := by
  have hr := dim_rng xs
  have hs := isC_small hi
  intro d
  induction d with
  | zero =>
    intro i hd hil
    obtain rfl : i = D := by omega
    refine Ev.step (f := fun k => (QS.spec_l01Dim.f k n xs).bind fun t => (some ((List.range i).map (bettiAt xs)) : Option (List Int))) (fun k => ?_) (Ev.bind (ev_dimO hi) (Ev.now _))
    simp only [Ql03Betti.spec_l03Betti.l0]
    cases hdm : QS.spec_l01Dim.f k n xs with
    | none => rfl
    | some t =>
      have : t = dimL xs := by
        have h1 := (ev_dimO hi)
        obtain ⟨K, hK⟩ := h1
        have h2 := at_rounds (fun k => QS.spec_l01Dim.mono _ _ k) (Nat.le_max_left k K) hdm
        have h3 := hK (max k K) (Nat.le_max_right _ _)
        exact Option.some.inj (h2.symm.trans h3)
      subst this
      simp only [Option.bind_some]
      rw [if_neg (by omega)]
  | succ d ih =>
    intro i hd hil
    have hil' : i < D := by omega
    have h1 := rank_rng hi (i : Int)
    have h2 := rank_rng hi ((i + 1 : Nat) : Int)
    have hfl : (ofL xs i).length ≤ xs.length := List.length_filter_le _ _
    have hih := ih (i + 1) (by omega) (by omega)
    rw [List.range_succ, List.map_append] at hih
    refine Ev.step (f := fun k => (QS.spec_l01Dim.f k n xs).bind fun t118 => if (i : Int) ≤ t118 then (QS.spec_l01Of.f k n xs (i : Int)).bind fun t119 => Ql03Betti.spec_l03Betti.l0 k 2 ((List.range i).map (bettiAt xs) ++ [wrap64 (wrap64 ((t119.length : Int) - rankS xs (i : Int)) - rankS xs ((i + 1 : Nat) : Int))]) ((i + 1 : Nat) : Int) n xs else some ((List.range i).map (bettiAt xs))) (fun k => ?_) ?_
    · simp only [Ql03Betti.spec_l03Betti.l0]
      rw [show wrap64 ((i : Int) + 1) = ((i + 1 : Nat) : Int) by rw [w64 (by omega) (by omega)]; omega]
      simp only [rankO_f hi, Option.bind_some, List.length_map, List.length_range, if_pos (show i < 17592186044416 by omega)]
    · refine Ev.bind (ev_dimO hi) ?_
      simp only [if_pos (show (i : Int) ≤ dimL xs by omega)]
      refine Ev.bind (ev_ofO hi i (by omega)) ?_
      rw [show wrap64 (wrap64 (((xs.filter fun x => onesZ x == ((i + 1 : Nat) : Int)).length : Int) - rankS xs (i : Int)) - rankS xs ((i + 1 : Nat) : Int)) = bettiAt xs i by
        rw [show (xs.filter fun x => onesZ x == ((i + 1 : Nat) : Int)) = ofL xs i from rfl, w64 (x := ((ofL xs i).length : Int) - rankS xs (i : Int)) (by omega) (by omega), w64 (by omega) (by omega)]; rfl]
      exact hih
theorem ev_bettiS {n : Int} {xs : List Int} (hi : isC n xs = true) : Ev (fun k => Ql03Betti.spec_l03Betti.f k n xs 2) (bettiL xs) := by
  have hr := dim_rng xs
  obtain ⟨D, hD⟩ := Int.eq_ofNat_of_zero_le (show 0 ≤ dimL xs + 1 by omega)
  have := bt_loop hi hD D 0 rfl (Nat.zero_le _)
  unfold Ql03Betti.spec_l03Betti.f bettiL
  rw [show (dimL xs + 1).toNat = D by omega]
  exact this
theorem rankE_f {n : Int} {xs : List Int} (hi : isC n xs = true) (d : Nat) (hd : d ≤ 100) : impl_Complex_rank.f n xs (d : Int) 2 = some (rankS xs (d : Int)) := by unfold impl_Complex_rank.f; rw [if_pos ⟨hi, by omega, by omega, rfl⟩]
def mixL (xs : List Int) (D i : Nat) : List Int := (List.range D).map fun j => if j < i then bettiAt xs j else ((ofL xs j).length : Int)
theorem mix_next (xs : List Int) {D i : Nat} (hi : i < D) : (mixL xs D i).set i (bettiAt xs i) = mixL xs D (i + 1) := by
  refine List.ext_getElem (by simp [mixL]) fun j h1 h2 => ?_
  have hj : j < D := by simpa [mixL] using h2
  rw [List.getElem_set]
  by_cases h : i = j
  · subst h
    rw [if_pos rfl]
    simp [mixL]
  · rw [if_neg h]
    simp only [mixL, List.getElem_map, List.getElem_range]
    by_cases h3 : j < i
    · rw [if_pos h3, if_pos (by omega)]
    · rw [if_neg h3, if_neg (by omega)]
theorem be_loop {n : Int} {xs : List Int} (hi : isC n xs = true) {D : Nat} (hD : D ≤ 6) : ∀ d (i : Nat), D - i = d → i ≤ D → Ev (fun k => QE.impl_Complex_betti.l0 k 2 (mixL xs D i) (D : Int) (i : Int) n xs) ((List.range D).map (bettiAt xs)) := by
  have hs := isC_small hi
  intro d
  induction d with
  | zero =>
    intro i hd hil
    obtain rfl : i = D := by omega
    have : mixL xs i i = (List.range i).map (bettiAt xs) := by
      refine List.ext_getElem (by simp [mixL]) fun j h1 h2 => ?_
      have hj : j < i := by simpa using h2
      simp [mixL, hj]
    rw [this]
    refine Ev.step (f := fun k => some ((List.range i).map (bettiAt xs))) (fun k => ?_) (Ev.now _)
    simp only [QE.impl_Complex_betti.l0]
    rw [if_neg (by omega)]
  | succ d ih =>
    intro i hd hil
    have hil' : i < D := by omega
    have h1 := rank_rng hi (i : Int)
    have h2 := rank_rng hi ((i + 1 : Nat) : Int)
    have hfl : (ofL xs i).length ≤ xs.length := List.length_filter_le _ _
    have hml : (mixL xs D i).length = D := by simp [mixL]
    have hat : rd (mixL xs D i) (i : Int) = ((ofL xs i).length : Int) := by
      rw [rd_at (by omega)]
      simp [mixL]
    refine Ev.step (fun k => ?_) (ih (i + 1) (by omega) (by omega))
    simp only [QE.impl_Complex_betti.l0]
    rw [if_pos (by omega), if_pos (by omega), if_pos (by omega), show wrap64 ((i : Int) + 1) = ((i + 1 : Nat) : Int) by rw [w64 (by omega) (by omega)]; omega]
    simp only [rankE_f hi i (by omega), rankE_f hi (i + 1) (by omega), Option.bind_some, Int.toNat_natCast]
    rw [hat, w64 (x := rankS xs (i : Int) + rankS xs ((i + 1 : Nat) : Int)) (by omega) (by omega), w64 (by omega) (by omega), ← mix_next xs hil']
    congr 2
    unfold bettiAt
    omega
theorem cnt_mix (xs : List Int) (D : Nat) : cntL D xs = mixL xs D 0 := by
  unfold cntL mixL
  refine List.map_congr_left fun j hj => ?_
  rw [if_neg (Nat.not_lt_zero _)]
  rfl
theorem ev_bettiE {n : Int} {xs : List Int} (hi : isC n xs = true) : Ev (fun k => QE.impl_Complex_betti.f k n xs 2) (bettiL xs) := by
  have hr := dim_rng xs
  obtain ⟨D, hD⟩ := Int.eq_ofNat_of_zero_le (show 0 ≤ dimL xs + 1 by omega)
  have hs := isC_small hi
  unfold QE.impl_Complex_betti.f
  refine Ev.bind (ev_cntE hi (m := xs) (fun x hx => hx) (by omega)) ?_
  rw [show (dimL xs + 1).toNat = D by omega, cnt_mix]
  have := be_loop hi (D := D) (by omega) D 0 rfl (Nat.zero_le _)
  unfold bettiL
  rw [show (dimL xs + 1).toNat = D by omega]
  simpa [mixL] using this
end Go.Proofs.Ytomdfjohnmikdaa.Pu
namespace Go.Proofs.Ytomdfjohnmikdaa.Pu
open Go.RowKit Kp Ext QS Im YtomdfjohnmikdaaW.PrintWords YtomdfjohnmikdaaW.PrintLast YtomdfjohnmikdaaW.PrintMore
def sumZ (l : List Int) : Int := l.foldl (fun a x => a + x) 0
def holesZ (xs : List Int) : Int := sumZ (bettiL xs)
def topN (xs : List Int) : Nat := ((xs.length : Int) - holesZ xs).toNat / 2
theorem sum_snoc (l : List Int) (x : Int) : sumZ (l ++ [x]) = sumZ l + x := by unfold sumZ; rw [List.foldl_append]; rfl
theorem sum_acc {B : Nat} : ∀ (l : List Int) (a : Int), (∀ x ∈ l, -(B : Int) ≤ x ∧ x ≤ B) → a - ((l.length * B : Nat) : Int) ≤ l.foldl (fun a x => a + x) a ∧ l.foldl (fun a x => a + x) a ≤ a + ((l.length * B : Nat) : Int)
  | [], a, _ => by simp
  | x :: l, a, h => by
    have h1 := sum_acc l (a + x) fun y hy => h y (List.mem_cons_of_mem _ hy)
    have h2 := h x (List.mem_cons_self ..)
    rw [List.foldl_cons, List.length_cons, Nat.add_mul, Nat.one_mul]
    omega
theorem sum_rng {B : Nat} (l : List Int) (h : ∀ x ∈ l, -(B : Int) ≤ x ∧ x ≤ B) : -((l.length * B : Nat) : Int) ≤ sumZ l ∧ sumZ l ≤ ((l.length * B : Nat) : Int) := by
  have := sum_acc l 0 h
  unfold sumZ
  omega
theorem betti_all {n : Int} {xs : List Int} (hi : isC n xs = true) : ∀ x ∈ bettiL xs, -(126 : Int) ≤ x ∧ x ≤ 126 := fun x hx => by
  unfold bettiL at hx
  obtain ⟨d, _, rfl⟩ := List.mem_map.1 hx
  have := betti_rng hi d
  omega
theorem parts_le (xs : List Int) : ∀ D, sumZ ((List.range D).map fun j => (((ofL xs j).length : Nat) : Int)) ≤ (((xs.filter fun x => decide (1 ≤ onesZ x) && decide (onesZ x ≤ (D : Int))).length : Nat) : Int)
  | 0 => by simp [sumZ]
  | D + 1 => by
    rw [List.range_succ, List.map_append, List.map_singleton, sum_snoc]
    have ih := parts_le xs D
    have hsplit : (xs.filter fun x => decide (1 ≤ onesZ x) && decide (onesZ x ≤ (D : Int))).length + (ofL xs D).length ≤ (xs.filter fun x => decide (1 ≤ onesZ x) && decide (onesZ x ≤ ((D + 1 : Nat) : Int))).length := by
      unfold ofL
      clear ih
      induction xs with
      | nil => simp
      | cons x xs ih =>
        simp only [List.filter_cons]
        by_cases h1 : onesZ x = ((D + 1 : Nat) : Int)
        · have a1 : (decide (1 ≤ onesZ x) && decide (onesZ x ≤ (D : Int))) = false := by rw [h1]; simp; omega
          have a2 : (onesZ x == ((D + 1 : Nat) : Int)) = true := by rw [h1]; simp
          have a3 : (decide (1 ≤ onesZ x) && decide (onesZ x ≤ ((D + 1 : Nat) : Int))) = true := by rw [h1]; simp; omega
          rw [a1, a2, a3]
          simp only [Bool.false_eq_true, if_false, if_true, List.length_cons]
          omega
        · have a2 : (onesZ x == ((D + 1 : Nat) : Int)) = false := beq_eq_false_iff_ne.2 h1
          rw [a2]
          simp only [Bool.false_eq_true, if_false]
          by_cases h2 : 1 ≤ onesZ x ∧ onesZ x ≤ (D : Int)
          · have a1 : (decide (1 ≤ onesZ x) && decide (onesZ x ≤ (D : Int))) = true := by simp [h2]
            have a3 : (decide (1 ≤ onesZ x) && decide (onesZ x ≤ ((D + 1 : Nat) : Int))) = true := by simp; omega
            rw [a1, a3]
            simp only [if_true, List.length_cons]
            omega
          · have a1 : (decide (1 ≤ onesZ x) && decide (onesZ x ≤ (D : Int))) = false := by simp; omega
            have a3 : (decide (1 ≤ onesZ x) && decide (onesZ x ≤ ((D + 1 : Nat) : Int))) = false := by simp; omega
            rw [a1, a3]
            simpa using ih
    omega
theorem sum_le : ∀ {l m : List Int}, l.length = m.length → (∀ i (h1 : i < l.length) (h2 : i < m.length), l[i] ≤ m[i]) → sumZ l ≤ sumZ m := by
  have key : ∀ (l m : List Int) (a b : Int), l.length = m.length → a ≤ b → (∀ i (h1 : i < l.length) (h2 : i < m.length), l[i] ≤ m[i]) → l.foldl (fun a x => a + x) a ≤ m.foldl (fun a x => a + x) b := by
    intro l
    induction l with
    | nil =>
      intro m a b hl hab _
      obtain rfl : m = [] := List.eq_nil_of_length_eq_zero (by simpa using hl.symm)
      exact hab
    | cons x l ih =>
      intro m a b hl hab h
      rcases m with _ | ⟨y, m⟩
      · cases hl
      · rw [List.foldl_cons, List.foldl_cons]
        have h0 := h 0 (by simp) (by simp)
        simp only [List.getElem_cons_zero] at h0
        exact ih m _ _ (by simpa using hl) (by omega) fun i h1 h2 => by
          have := h (i + 1) (by simpa using h1) (by simpa using h2)
          simpa using this
  exact fun {l m} hl h => key l m 0 0 hl (Int.le_refl _) h
theorem holes_le {n : Int} {xs : List Int} (hi : isC n xs = true) : -1000 ≤ holesZ xs ∧ holesZ xs ≤ xs.length := by
  have hd := dim_rng xs
  have hlen := bettiL_len xs
  refine ⟨?_, ?_⟩
  · have h1 := sum_rng (B := 126) (bettiL xs) (betti_all hi)
    have h2 : (bettiL xs).length * 126 ≤ 6 * 126 := Nat.mul_le_mul_right _ (by omega)
    unfold holesZ
    omega
  · have h1 : holesZ xs ≤ sumZ ((List.range (dimL xs + 1).toNat).map fun j => (((ofL xs j).length : Nat) : Int)) := by
      refine sum_le (by rw [hlen]; simp) fun i h1 h2 => ?_
      have e1 : (bettiL xs)[i]'h1 = bettiAt xs i := by simp [bettiL]
      have e2 : ((List.range (dimL xs + 1).toNat).map fun j => (((ofL xs j).length : Nat) : Int))[i]'h2 = (((ofL xs i).length : Nat) : Int) := by simp
      rw [e1, e2]
      unfold bettiAt
      have r1 := rank_rng hi (i : Int)
      have r2 := rank_rng hi ((i + 1 : Nat) : Int)
      omega
    have h2 := parts_le xs (dimL xs + 1).toNat
    have h3 : (xs.filter fun x => decide (1 ≤ onesZ x) && decide (onesZ x ≤ (((dimL xs + 1).toNat : Nat) : Int))).length ≤ xs.length := List.length_filter_le _ _
    omega
theorem top_eq {n : Int} {xs : List Int} (hi : isC n xs = true) : ((xs.length : Int) - holesZ xs).tdiv 2 = (topN xs : Int) ∧ (topN xs : Int) ≤ 600 := by
  have h := holes_le hi
  have hs := isC_small hi
  obtain ⟨m, hm⟩ := Int.eq_ofNat_of_zero_le (show 0 ≤ (xs.length : Int) - holesZ xs by omega)
  unfold topN
  rw [hm]
  refine ⟨rfl, ?_⟩
  rw [Int.toNat_natCast]
  omega
end Go.Proofs.Ytomdfjohnmikdaa.Pu
namespace Go.Proofs.Ytomdfjohnmikdaa.Ext
open YtomdfjohnmikdaaW.PrintWords
open Classical in
noncomputable def limO {α : Type} (g : Nat → Option α) : Option α := if h : ∃ r : α, ∃ k, g k = some r then some (Classical.choose h) else none
theorem limO_get {α : Type} {g : Nat → Option α} {r : α} (h : limO g = some r) : ∃ k, g k = some r := by
  unfold limO at h
  split at h
  · rename_i hc
    obtain rfl := Option.some.inj h
    exact Classical.choose_spec hc
  · cases h
theorem limO_of {α : Type} {g : Nat → Option α} {r : α} (hg : ∀ k, LeO (g k) (g (k + 1))) (h : Ev g r) : limO g = some r := by
  obtain ⟨k, hk⟩ := h.rounds
  have hc : ∃ r : α, ∃ k, g k = some r := ⟨r, k, hk⟩
  unfold limO
  rw [dif_pos hc]
  obtain ⟨k', hk'⟩ := Classical.choose_spec hc
  obtain ⟨K, hK⟩ := h
  have h1 := at_rounds hg (Nat.le_max_left k' K) hk'
  have h2 := hK (max k' K) (Nat.le_max_right _ _)
  rw [h1] at h2
  exact h2
end Go.Proofs.Ytomdfjohnmikdaa.Ext
namespace Go.Proofs.Ytomdfjohnmikdaa.Ext
open Go.RowKit Im Kp YtomdfjohnmikdaaW.PrintWords YtomdfjohnmikdaaW.PrintLast YtomdfjohnmikdaaW.PrintMore
noncomputable def impl_Complex_betti.f (a0_0 : Int) (l0_1 : List Int) (a1 : Int) : Option (List Int) := limO fun k => QE.impl_Complex_betti.f k a0_0 l0_1 a1
theorem impl_Complex_betti.calls (a0_0 : Int) (A0_1 : Option Addr) (c0_1 : Nat) (l0_1 : List Int) (a1 : Int) (r : List Int) (w : World) (hr0_1 : Kd.C (Kd.int .i64) w A0_1 l0_1.length l0_1) (hc0_1 : l0_1.length ≤ c0_1) (h : impl_Complex_betti.f a0_0 l0_1 a1 = some r) :
    Calls Try.prog 60 #[.agg #[.int .i64 a0_0, .slice A0_1 l0_1.length c0_1], .int .i64 a1] w fun e w' => ∃ v0_ : Value, e = .returned (v0_) ∧ Kd.R (Kd.int .i64) 2 w' w.heap.size (fun _ => True) v0_ r ∧ Below w.heap.size w w' := by
  obtain ⟨k, hk⟩ := limO_get h
  exact QE.impl_Complex_betti.calls k a0_0 A0_1 c0_1 l0_1 a1 r w hr0_1 hc0_1 hk
theorem impl_Complex_betti.come (a0_0 : Int) (l0_1 : List Int) (a1 : Int) {r : (List Int)} (h : Ev (fun k => QE.impl_Complex_betti.f k a0_0 l0_1 a1) r) : impl_Complex_betti.f a0_0 l0_1 a1 = some r := limO_of (fun k => QE.impl_Complex_betti.mono _ _ _ k) h
end Go.Proofs.Ytomdfjohnmikdaa.Ext
namespace Go.Proofs.Ytomdfjohnmikdaa.QF
open Cw Kp Ext Go.RowKit YtomdfjohnmikdaaW.PrintWords YtomdfjohnmikdaaW.PrintLast YtomdfjohnmikdaaW.PrintMore
attribute [local go_sem] max2_int min2_int max_two min_two max_three min_three max_four min_four   -- for this text's walks alone
def errW : Option Int → Value
 | none => .nilIface
 | some c => .iface 0 (.int .i64 c)
theorem errW_none : errW none = .nilIface := rfl
theorem errW_some (c : Int) : errW (some c) = .iface 0 (.int .i64 c) := rfl
def impl_sum.l0 : Nat → Int → List Int → Int → Int → Option (Int)
 | 0, _, _, _, _ => none
 | k + 1, x3, x6, x7, x8 => if x8 < x7 then (if 0 ≤ x8 then (if x8 < (x6.length : Int) then (impl_sum.l0 k (wrap64 (x3 + (rd x6 x8))) x6 x7 (wrap64 (x8 + 1))) else (none)) else (none)) else (some x3)
def impl_sum.f (k : Nat) (l0 : List Int) : Option (Int) := impl_sum.l0 k 0 l0 (l0.length : Int) 0
set_option maxHeartbeats 8000000 in
set_option maxRecDepth 100000 in
theorem impl_sum.calls (k : Nat) (A0 : Option Addr) (c0 : Nat) (l0 : List Int) (r : Int) (w : World) (hr0 : Kd.C (Kd.int .i64) w A0 l0.length l0) (hc0 : l0.length ≤ c0) (h : impl_sum.f k l0 = some r) :
  Calls Try.prog 142 #[.slice A0 l0.length c0] w fun e w' => e = .returned (.int .i64 r) ∧ Drawn0 w w' := by
 have HR0 := Aside0.mk hr0
 have HC0 := Aside0.mk hc0
 clear hr0 hc0
 have H : (impl_sum.l0 k 0 l0 (l0.length : Int) 0) = some r := h
 clear h
 have H' := Aside0.mk H
 clear H
 go_enter Try.func142, Try.ntmps142
 go_wp2
 go_loopg [3, 8] k (fun kq v3 v8 w' => ∃ (x3_1 : Int) (x8_1 : Int), v3 = .int .i64 x3_1 ∧ v8 = .int .i64 x8_1 ∧ Aside0 (impl_sum.l0 kq x3_1 l0 (l0.length : Int) x8_1 = some r) ∧ Aside0 (kq ≤ k) ∧ Drawn0 w w')
 case atStart => exact ⟨(0), (0), (by first | rfl | (simp; done) | (simp [*]; done)), (by first | rfl | (simp; done) | (simp [*]; done)), H', ⟨Nat.le_refl _⟩, by repeat (first | exact Drawn0.refl _ | apply Drawn0.step)⟩
 case round =>
  clear H'
  try clear c1
  obtain ⟨x3_1, x8_1, rfl, rfl, HA, HK1, ⟨m1, rfl⟩⟩ := hrel
  cases gk with
  | zero => exact absurd HA.out (by simp [impl_sum.l0])
  | succ k1 =>
   have H := HA.out
   clear HA
   simp only [impl_sum.l0] at H
   by_cases c2 : x8_1 < (l0.length : Int)
   ·rw [if_pos c2] at H
    have c2b0 : decide (x8_1 < (l0.length : Int)) = true := decide_eq_true c2
    clear c2
    by_cases c3 : 0 ≤ x8_1
    ·rw [if_pos c3] at H
     have c3b0 : decide (0 ≤ x8_1) = true := decide_eq_true c3
     clear c3
     by_cases c4 : x8_1 < (l0.length : Int)
     ·rw [if_pos c4] at H
      have c4b0 : decide (x8_1 < (l0.length : Int)) = true := decide_eq_true c4
      clear c4
      have H' := Aside0.mk H
      clear H
      have p101 : 0 ≤ (x8_1 : Int) := of_decide_eq_true (by first | (with_reducible assumption) | assumption)
      have q101 : x8_1 < (l0.length : Int) := of_decide_eq_true (by first | (with_reducible assumption) | assumption)
      obtain ⟨ad101, e101, hx101_0⟩ := Kd.at_int HR0.out x8_1 p101 q101
      cases e101
      replace p101 := eq_true p101
      replace q101 := eq_true q101
      go_wp2
      go_roundg k1
      case measure => have := HK1.out; omega
      case rel => exact ⟨(wrap64 (x3_1 + (rd l0 x8_1))), (wrap64 (x8_1 + 1)), (by first | rfl | (simp; done) | (simp [*]; done)), (by first | rfl | (simp; done) | (simp [*]; done)), H', ⟨by have := HK1.out; omega⟩, by repeat (first | exact Drawn0.refl _ | apply Drawn0.step)⟩
     ·rw [if_neg c4] at H
      exact absurd H (by simp)
    ·rw [if_neg c3] at H
     exact absurd H (by simp)
   ·rw [if_neg c2] at H
    have c2b0 : decide (x8_1 < (l0.length : Int)) = false := decide_eq_false c2
    clear c2
    obtain rfl := Option.some.inj H
    go_wp2
    go_ret
    exact ⟨by first | rfl | (simp; done) | (simp [*]; done), by repeat (first | exact Drawn0.refl _ | apply Drawn0.step)⟩
end Go.Proofs.Ytomdfjohnmikdaa.QF
namespace Go.Proofs.Ytomdfjohnmikdaa.Im
open Go.RowKit Go.Shelf Kp Cw Ext Pu YtomdfjohnmikdaaW.PrintWords YtomdfjohnmikdaaW.PrintLast YtomdfjohnmikdaaW.PrintMore
theorem sum_loop {l : List Int} (hl : l.length ≤ 1000) (hr : ∀ x ∈ l, -(126 : Int) ≤ x ∧ x ≤ 126) : ∀ d (i : Nat), l.length - i = d → i ≤ l.length → Ev (fun k => QF.impl_sum.l0 k (sumZ (l.take i)) l (l.length : Int) (i : Int)) (sumZ l) := by
  intro d
  induction d with
  | zero =>
    intro i hd hi
    rw [List.take_of_length_le (by omega)]
    refine Ev.step (f := fun k => some (sumZ l)) (fun k => ?_) (Ev.now _)
    simp only [QF.impl_sum.l0]
    rw [if_neg (by omega)]
  | succ d ih =>
    intro i hd hi
    have hi' : i < l.length := by omega
    have h1 := sum_rng (B := 126) (l.take i) (fun x hx => hr x (List.mem_of_mem_take hx))
    have h2 := hr _ (List.getElem_mem hi')
    have h3 : (l.take i).length * 126 ≤ 1000 * 126 := Nat.mul_le_mul_right _ (by rw [List.length_take]; omega)
    refine Ev.step (fun k => ?_) (ih (i + 1) (by omega) (by omega))
    simp only [QF.impl_sum.l0]
    rw [if_pos (by omega), if_pos (by omega), if_pos (by omega), rd_at hi', succ64 (by omega), w64 (by omega) (by omega), List.take_succ_eq_append_getElem hi', sum_snoc]
theorem ev_sum {l : List Int} (hl : l.length ≤ 1000) (hr : ∀ x ∈ l, -(126 : Int) ≤ x ∧ x ≤ 126) : Ev (fun k => QF.impl_sum.f k l) (sumZ l) := by
  unfold QF.impl_sum.f
  exact sum_loop hl hr _ 0 rfl (Nat.zero_le _)
theorem gw_all (w0 : World) (y Y : Nat) (n : Int) (A : Option Addr) (c : Nat) (xs : List Int) (va : Value) (all : List Pr) (target : Int) (ym : Nat) (hr : RC w0 A xs.length xs) (hc : xs.length ≤ c) (hi : isC n xs = true) (hal : all.length ≤ 1048576) (hpa : ∀ p ∈ all, pairB xs p = true) (hsa : SortedP all) (d : Nat) : GwOk w0 y Y n A c xs va all target ym d :=
  Nat.strongRecOn d fun d ih => gw_step w0 y Y n A c xs va all target ym hr hc hi hal hpa hsa d ih
theorem pairs_pair {n : Int} {xs : List Int} (hi : isC n xs = true) : ∀ p ∈ pairsL xs, pairB xs p = true := fun p hp => by
  unfold pairsL at hp
  obtain ⟨f, hf, hp⟩ := List.mem_flatMap.1 hp
  unfold rowP at hp
  obtain ⟨g, hg, rfl⟩ := List.mem_map.1 hp
  obtain ⟨hg1, hg2⟩ := List.mem_filter.1 hg
  rw [pair_over hi hf hg1]
  exact hg2
theorem pairs_rng {n : Int} {xs : List Int} (hi : isC n xs = true) : ∀ p ∈ pairsL xs, (0 ≤ p.f0 ∧ p.f0 ≤ 63) ∧ 0 ≤ p.f1 ∧ p.f1 ≤ 63 := fun p hp => by
  have h := pairs_mem hp
  have h1 := isC_63 hi _ h.1
  have h2 := isC_63 hi _ h.2
  omega
theorem grow_zero' (xs : List Int) (all : List Pr) : growB xs all 0 = some [] := by unfold growB; rw [if_pos rfl]
set_option maxRecDepth 100000 in
set_option maxHeartbeats 8000000 in
theorem best_c (n : Int) (A : Option Addr) (c : Nat) (xs : List Int) (w : World) (hr : RC w A xs.length xs) (hc : xs.length ≤ c) (hi : isC n xs = true) :
    Calls Try.prog 95 #[.agg #[.int .i64 n, .slice A xs.length c]] w fun e w' => ∃ v : Value, e = .returned v ∧ PO w' w.heap.size v (downB xs (pairsL xs) (topN xs)) ∧ Below w.heap.size w w' := by
  have HX := Aside0.mk (CxAt.new w n A xs.length c)
  have HB := Aside0.mk (below_alloc (Below.refl w.heap.size w) (.cells #[.int .i64 n, .slice A xs.length c] 28))
  have HR := Aside0.mk hr
  have HC := Aside0.mk hc
  have HI := Aside0.mk hi
  have hs := isC_small hi
  have hx0 := HX.out.c0
  have hx1 := HX.out.c1
  have HBE := Aside0.mk (impl_Complex_betti.come n xs 2 (ev_bettiE hi))
  have hbl := bettiL_len xs
  have hdr := dim_rng xs
  obtain ⟨ks, hks⟩ := (ev_sum (l := bettiL xs) (by omega) (betti_all hi)).rounds
  have HKS : Aside0 (QF.impl_sum.f ks (bettiL xs) = some (holesZ xs)) := ⟨hks⟩
  obtain ⟨kp, hkp⟩ := (ev_pairsD hi).rounds
  have HKP := Aside0.mk hkp
  have hh := holes_le hi
  obtain ⟨ht1, ht2⟩ := top_eq hi
  obtain ⟨h, hhz⟩ : ∃ h, holesZ xs = h := ⟨_, rfl⟩
  obtain ⟨t, htz⟩ : ∃ t, topN xs = t := ⟨_, rfl⟩
  obtain ⟨z, hz⟩ : ∃ z, (xs.length : Int) - h = z := ⟨_, rfl⟩
  rw [hhz] at HKS hh ht1
  rw [htz] at ht1 ht2 ⊢
  rw [hz] at ht1
  have hwz : IntKind.i64.wrap ((xs.length : Int) - h) = z := by rw [hz, IntKind.wrap_i64]; omega
  have hwz2 : wrap64 ((xs.length : Int) - h) = z := by rw [hz]; unfold wrap64; omega
  have hwt : IntKind.i64.wrap (z.tdiv 2) = (t : Int) := by rw [ht1, IntKind.wrap_i64]; omega
  have hwt2 : wrap64 (z.tdiv 2) = (t : Int) := by rw [ht1]; unfold wrap64; omega
  have HT2 := Aside0.mk ht2
  have hw64t : wrap64 (t : Int) = (t : Int) := by unfold wrap64; omega
  obtain ⟨R, hR⟩ : ∃ R, downB xs (pairsL xs) t = R := ⟨_, rfl⟩
  have HRR := Aside0.mk hR
  rw [hR]
  clear hR
  have hpl := pairs_len hi
  clear hr hc hi hks hkp hbl hdr hhz htz hh ht2 hz
  go_enter Try.func95, Try.ntmps95
  go_upto_region 1 with fail
  have HXd := Aside0.mk HX.out.drew'
  have HBd := Aside0.mk HB.out.drew
  clear HX HB
  have HX := HXd
  have HB := HBd
  clear HXd HBd
  refine st_ 9 (S := fun w' => w'.cell? ⟨w.heap.size, 0, none⟩ = some (.int .i64 n) ∧ w'.cell? ⟨w.heap.size, 1, none⟩ = some (.slice A xs.length c)) (ds := []) ⟨hx0, hx1⟩ (fun hHeld => ?_)
  refine with_tabW (T := (true, [([], []), ([0], [0]), ([1], [1]), ([], []), ([3], [3]), ([4, 4], [4]), ([2, 5], [2, 5]), ([6], [6]), ([7, 5, 0, 1, 2, 3, 4, 5, 6, 7], [7])])) (B := [0, 1, 3, 0, 8, 24, 63, 127, 255]) (by kernel_rfl) (by kernel_rfl) (fun HT_ HW_ => ?_)
  refine pd_ 0 6 1 HT_ ?_
  refine tk_ 1 7 3 HT_ HW_ hHeld ?_
  refine pd_ 2 8 7 HT_ ?_
  refine tk_ 3 9 15 HT_ HW_ hHeld ?_
  refine on_ 4 (some 10) 31 HT_ (fun K hK => ?_)
  refine ca_ Try.func60 #[.agg #[.int .i64 n, .slice A xs.length c], .int .i64 2] ?_
  refine (impl_Complex_betti.calls n A c xs 2 (bettiL xs) _ (Kd.C_below HR.out HB.out) HC.out HBE.out).mono ?_; rintro e w1 ⟨v1, rfl, hv, hb⟩; (try (have HXn := Aside0.mk (HX.out.below hb); clear HX; have HX := HXn; clear HXn)); (try (have HBn := Aside0.mk (below_in HB.out hb); clear HB; have HB := HBn; clear HBn)); have HV1 := Aside0.mk hv; clear hv hb hx0 hx1; obtain ⟨Ab, cb, rfl⟩ := Kd.R_slice HV1.out
  refine ⟨_, rfl, ?_⟩
  refine hK.out _ _ ⟨HX.out.c0, HX.out.c1⟩ (fun hHeld => ?_)
  clear hK K
  refine nm_ ?_
  refine on_ 5 (some 11) 63 HT_ (fun K hK => ?_)
  refine ca_ Try.func142 #[.slice Ab (bettiL xs).length cb] ?_
  refine (QF.impl_sum.calls ks Ab cb (bettiL xs) h _ (Kd.R_reads' HV1.out).2.2 (Kd.R_reads' HV1.out).2.1 HKS.out).mono ?_; rintro e w2 ⟨rfl, hd⟩; have hb := d0_below hd; (try (have HXn := Aside0.mk (HX.out.below hb); clear HX; have HX := HXn; clear HXn)); (try (have HBn := Aside0.mk (below_in HB.out hb); clear HB; have HB := HBn; clear HBn)); clear hb hd HV1
  refine ⟨_, rfl, ?_⟩
  refine hK.out _ _ ⟨HX.out.c0, HX.out.c1⟩ (fun hHeld => ?_)
  clear hK K
  refine nm_ ?_
  refine pd_ 6 12 127 HT_ ?_
  refine pd_ 7 13 255 HT_ ?_
  refine pd_ 8 3 511 HT_ ?_
  refine dn_ HT_ ?_
  clear hwz hwz2 hwt hwt2 ht1 HKS HBE hw64t
  go_wp2
  go_loopw [4] (fun s4 wr => ∃ t : Nat, s4 = .int .i64 t ∧ t ≤ 600 ∧ Aside0 (downB xs (pairsL xs) t = R) ∧ Aside0 (CxAt wr w.heap.size n A xs.length c) ∧ Aside0 (Below w.heap.size w wr)) (fun s4 _ => (intOf s4).toNat)
  case atStart => exact ⟨t, rfl, by have := HT2.out; omega, HRR, HX, HB⟩
  case round =>
    clear HRR HX HB HT2
    obtain ⟨t, rfl, ht, HRR, HX, HB⟩ := hrel
    have hx0 := HX.out.c0
    have hx1 := HX.out.c1
    have HXd := Aside0.mk HX.out.drew'
    have HBd := Aside0.mk HB.out.drew
    clear HX HB
    have HX := HXd
    have HB := HBd
    clear HXd HBd
    have hmm := @run_makeMap Try.prog
    go_upto_region 4 with fail
    refine st_ 8 (S := fun w' => w'.cell? ⟨w.heap.size, 0, none⟩ = some (.int .i64 n) ∧ w'.cell? ⟨w.heap.size, 1, none⟩ = some (.slice A xs.length c)) (ds := []) ⟨hx0, hx1⟩ (fun hHeld => ?_)
    refine with_tabW (T := (true, [([], []), ([], []), ([1], [1]), ([], []), ([], []), ([0, 2, 3, 4], [0, 2, 3, 4]), ([5], [5]), ([6, 2, 0, 1, 2, 3, 4, 5, 6], [6])])) (B := [0, 0, 2, 0, 0, 31, 63, 127]) (by kernel_rfl) (by kernel_rfl) (fun HT_ HW_ => ?_)
    refine pd_ 3 20 8 HT_ ?_
    refine tk_ 0 17 9 HT_ HW_ hHeld ?_
    refine tk_ 1 18 11 HT_ HW_ hHeld ?_
    refine tw_ 2 4 (some 19) (some 21) 15 27 HT_ (fun K hK => ?_) (fun K hK => ?_)
    refine ca_ Try.func67 #[.agg #[.int .i64 n, .slice A xs.length c]] ?_
    refine (QD.impl_Complex_pairs.calls kp n A c xs (pairsL xs) _ (Kd.C_below HR.out HB.out) HC.out HKP.out).mono ?_; rintro e wz1 ⟨va, rfl, hv, hb⟩; have HV := Aside0.mk (Kd.R_lower hv HB.out.size); (try (have HXn := Aside0.mk (HX.out.below hb); clear HX; have HX := HXn; clear HXn)); (try (have HBn := Aside0.mk (below_in HB.out hb); clear HB; have HB := HBn; clear HBn)); (try (have HMn := Aside0.mk (HM.out.below hb); clear HM; have HM := HMn; clear HMn)); clear hv hb; obtain ⟨Aa, ca, rfl⟩ := Kd.R_slice HV.out
    refine ⟨_, rfl, ?_⟩
    refine hK.out _ _ ⟨HX.out.c0, HX.out.c1⟩ (fun hHeld => ?_)
    clear hK K
    refine nm_ ?_
    refine on_ 4 (some 21) 31 HT_ (fun K hK => ?_)
    (refine value_ (by rfl) rfl (v := .map (some (wz1).heap.size)) (w1 := (wz1).alloc (.map #[] 0)) (by go_simp) ?_; have HM := Aside0.mk (MS.made (wz1)); have HYM := Aside0.mk HB.out.size; have hb := below_alloc (Below.refl (wz1).heap.size (wz1)) (.map #[] 0); generalize (wz1).alloc (.map #[] 0) = wz2 at hb HM ⊢; generalize (wz1).heap.size = ym at HM HYM ⊢; (try (have HXn := Aside0.mk (HX.out.below hb); clear HX; have HX := HXn; clear HXn)); (try (have HBn := Aside0.mk (below_in HB.out hb); clear HB; have HB := HBn; clear HBn)); (try (have HVn := Aside0.mk (Kd.R_below HV.out hb); clear HV; have HV := HVn; clear HVn)); clear hb)
    refine hK.out _ _ ⟨HX.out.c0, HX.out.c1⟩ (fun hHeld => ?_)
    clear hK K
    refine nm_ ?_
    refine pd_ 5 22 63 HT_ ?_
    refine on_ 6 (some 23) 127 HT_ (fun K hK => ?_)
    (refine value_ (by rfl) rfl (v := .pointer (some ⟨(wz2).heap.size, 0, none⟩)) (w1 := (wz2).alloc (.cells (fsC n A c xs.length (.slice Aa (pairsL xs).length ca) t ym (.slice none 0 0)) 134)) (by go_simp; rfl) ?_; have hb := below_alloc (Below.refl (wz2).heap.size (wz2)) (.cells (fsC n A c xs.length (.slice Aa (pairsL xs).length ca) t ym (.slice none 0 0)) 134); have HNB := Aside0.mk (heap_alloc_new (wz2) (.cells (fsC n A c xs.length (.slice Aa (pairsL xs).length ca) t ym (.slice none 0 0)) 134)); have HY := Aside0.mk HB.out.size; (try (have HXn := Aside0.mk (HX.out.below hb); clear HX; have HX := HXn; clear HXn)); (try (have HBn := Aside0.mk (below_in HB.out hb); clear HB; have HB := HBn; clear HBn)); (try (have HVn := Aside0.mk (Kd.R_below HV.out hb); clear HV; have HV := HVn; clear HVn)); (try (have HMn := Aside0.mk (HM.out.below hb); clear HM; have HM := HMn; clear HMn)); clear hb)
    refine hK.out _ _ ⟨HX.out.c0, HX.out.c1⟩ (fun hHeld => ?_)
    clear hK K
    refine nm_ ?_
    refine pd_ 7 5 255 HT_ ?_
    refine dn_ HT_ ?_
    rotate_left
    (refine value_ (by rfl) rfl (v := .map (some (wr.drew).heap.size)) (w1 := (wr.drew).alloc (.map #[] 0)) (by go_simp) ?_; have HM := Aside0.mk (MS.made (wr.drew)); have HYM := Aside0.mk HB.out.size; have hb := below_alloc (Below.refl (wr.drew).heap.size (wr.drew)) (.map #[] 0); generalize (wr.drew).alloc (.map #[] 0) = wz1 at hb HM ⊢; generalize (wr.drew).heap.size = ym at HM HYM ⊢; (try (have HXn := Aside0.mk (HX.out.below hb); clear HX; have HX := HXn; clear HXn)); (try (have HBn := Aside0.mk (below_in HB.out hb); clear HB; have HB := HBn; clear HBn)); (try (have HVn := Aside0.mk (Kd.R_below HV.out hb); clear HV; have HV := HVn; clear HVn)); clear hb)
    refine hK.out _ _ ⟨HX.out.c0, HX.out.c1⟩ (fun hHeld => ?_)
    clear hK K
    refine nm_ ?_
    refine on_ 2 (some 19) 31 HT_ (fun K hK => ?_)
    refine ca_ Try.func67 #[.agg #[.int .i64 n, .slice A xs.length c]] ?_
    refine (QD.impl_Complex_pairs.calls kp n A c xs (pairsL xs) _ (Kd.C_below HR.out HB.out) HC.out HKP.out).mono ?_; rintro e wz2 ⟨va, rfl, hv, hb⟩; have HV := Aside0.mk (Kd.R_lower hv HB.out.size); (try (have HXn := Aside0.mk (HX.out.below hb); clear HX; have HX := HXn; clear HXn)); (try (have HBn := Aside0.mk (below_in HB.out hb); clear HB; have HB := HBn; clear HBn)); (try (have HMn := Aside0.mk (HM.out.below hb); clear HM; have HM := HMn; clear HMn)); clear hv hb; obtain ⟨Aa, ca, rfl⟩ := Kd.R_slice HV.out
    refine ⟨_, rfl, ?_⟩
    refine hK.out _ _ ⟨HX.out.c0, HX.out.c1⟩ (fun hHeld => ?_)
    clear hK K
    refine nm_ ?_
    refine pd_ 5 22 63 HT_ ?_
    refine on_ 6 (some 23) 127 HT_ (fun K hK => ?_)
    (refine value_ (by rfl) rfl (v := .pointer (some ⟨(wz2).heap.size, 0, none⟩)) (w1 := (wz2).alloc (.cells (fsC n A c xs.length (.slice Aa (pairsL xs).length ca) t ym (.slice none 0 0)) 134)) (by go_simp; rfl) ?_; have hb := below_alloc (Below.refl (wz2).heap.size (wz2)) (.cells (fsC n A c xs.length (.slice Aa (pairsL xs).length ca) t ym (.slice none 0 0)) 134); have HNB := Aside0.mk (heap_alloc_new (wz2) (.cells (fsC n A c xs.length (.slice Aa (pairsL xs).length ca) t ym (.slice none 0 0)) 134)); have HY := Aside0.mk HB.out.size; (try (have HXn := Aside0.mk (HX.out.below hb); clear HX; have HX := HXn; clear HXn)); (try (have HBn := Aside0.mk (below_in HB.out hb); clear HB; have HB := HBn; clear HBn)); (try (have HVn := Aside0.mk (Kd.R_below HV.out hb); clear HV; have HV := HVn; clear HVn)); (try (have HMn := Aside0.mk (HM.out.below hb); clear HM; have HM := HMn; clear HMn)); clear hb)
    refine hK.out _ _ ⟨HX.out.c0, HX.out.c1⟩ (fun hHeld => ?_)
    clear hK K
    refine nm_ ?_
    refine pd_ 7 5 255 HT_ ?_
    refine dn_ HT_ ?_
    rotate_left
    all_goals
      have hpn : pairingB xs [] = true := rfl
      generalize wz2.alloc (.cells (fsC n A c xs.length (.slice Aa (pairsL xs).length ca) t ym (.slice none 0 0)) 134) = W4 at HX HB HV HM HNB ⊢
      obtain ⟨y, hy⟩ : ∃ y, wz2.heap.size = y := ⟨_, rfl⟩
      rw [hy] at HNB HY ⊢
      have HS : Aside0 (FS W4 w y W4.heap.size n A c xs.length (.slice Aa (pairsL xs).length ca) (pairsL xs) t ym (.slice none 0 0) [] (keysP [])) := ⟨⟨HNB.out, HY.out, HYM.out, HB.out.size, Nat.le_refl _, Kd.R_mono (Kd.R_bound HV.out) (fun k hk => hk.2.2.1), Kd.R_nil _ _ _ _ _, HM.out, HB.out⟩⟩
      have HGO := Aside0.mk (gw_all w y W4.heap.size n A c xs (.slice Aa (pairsL xs).length ca) (pairsL xs) t ym HR.out HC.out HI.out (by omega) (pairs_pair HI.out) (pairs_sorted HI.out) ((pairsL xs).length - 0) [] (.slice none 0 0) 0 W4 HS.out hpn (Bef.nil _) (Nat.zero_le _) rfl)
      have HXW := HX
      have HKY : Aside0 (w.heap.size ≠ y) := ⟨fun e => by
        have h1 := HX.out
        unfold CxAt at h1
        rw [e, HNB.out] at h1
        injection h1 with h1
        injection h1 with _ h1
        revert h1
        decide⟩
      have HKM : Aside0 (w.heap.size ≠ ym) := ⟨fun e => HM.out.ne HX.out e.symm⟩
      clear HB HV HM HNB HY HYM hy hpn HS HX
      obtain ⟨rr, hrr⟩ : ∃ rr, growB xs (pairsL xs) (t : Int) = rr := ⟨_, rfl⟩
      have HRB := Aside0.mk hrr
      rw [show growR xs (t : Int) ((pairsL xs).drop 0) [] = rr from hrr] at HGO
      clear hrr
      cases rr with
      | some q =>
        have HRQ : Aside0 (R = q) := ⟨by
          rw [← HRR.out]
          cases t with
          | zero =>
            have h1 := HRB.out
            rw [show (((0 : Nat) : Int)) = 0 from rfl, grow_zero'] at h1
            rw [downB]
            exact Option.some.inj h1
          | succ t => rw [downB, HRB.out, Option.getD_some]⟩
        go_wp2_with (go_at_call 143; refine HGO.out.mono ?_; rintro e w6 ⟨rfl, v6, hs, hk⟩; have HS6 := Aside0.mk hs; have hc5 := hs.c5; clear hs hk HGO)
        go_ret
        rw [HRQ.out]
        exact ⟨_, rfl, Kd.R_mono HS6.out.rl (fun _ _ => trivial), HS6.out.hb⟩
      | none =>
        obtain ⟨t', ht'⟩ : ∃ t', t = t' + 1 := by
          cases t with
          | zero =>
            have h1 := HRB.out
            rw [show (((0 : Nat) : Int)) = 0 from rfl, grow_zero'] at h1
            cases h1
          | succ t => exact ⟨t, rfl⟩
        have HRT : Aside0 (downB xs (pairsL xs) t' = R) := ⟨by have h1 := HRR.out; have h2 := HRB.out; rw [ht'] at h1 h2; rw [downB, h2, Option.getD_none] at h1; exact h1⟩
        have hwi : IntKind.i64.wrap ((t : Int) - 1) = (t' : Int) := by rw [IntKind.wrap_i64]; omega
        have HT' := Aside0.mk ht'
        clear ht'
        go_wp2_with (go_at_call 143; refine HGO.out.mono ?_; rintro e w6 ⟨rfl, v6, hs, hk⟩; have HS6 := Aside0.mk hs; have HX6 := Aside0.mk (hk.2.1 w.heap.size HXW.out.lt HKY.out HKM.out (by simp [Value.ownBlock])); clear hs hk HGO)
        have ht' := HT'.out
        exact ⟨⟨t', by go_num, by omega, HRT, ⟨HX6.out.trans HXW.out⟩, ⟨HS6.out.hb⟩⟩, by simp [intOf]; omega⟩
def bestI (n : Int) (xs : List Int) : List Pr × Int := if limI n xs 20 = 0 then (downB xs (pairsL xs) (topN xs), 0) else ([], limI n xs 20)
set_option maxRecDepth 100000 in
set_option maxHeartbeats 8000000 in
theorem bestI_c (n : Int) (A : Option Addr) (c : Nat) (xs : List Int) (w : World) (hr : RC w A xs.length xs) (hc : xs.length ≤ c) (hx : xs.length ≤ 1048576) :
    Calls Try.prog 43 #[.agg #[.int .i64 n, .slice A xs.length c]] w fun e w' => ∃ v : Value, e = .returned (.tuple #[v, .int .i64 (bestI n xs).2]) ∧ PO w' w.heap.size v (bestI n xs).1 ∧ Below w.heap.size w w' := by
  have HX := Aside0.mk (CxAt.new w n A xs.length c)
  have HB := Aside0.mk (below_alloc (Below.refl w.heap.size w) (.cells #[.int .i64 n, .slice A xs.length c] 28))
  have HR := Aside0.mk hr
  have HC := Aside0.mk hc
  have hx0 := HX.out.c0
  have hx1 := HX.out.c1
  have HKL := Aside0.mk (limD_f n hx 20)
  obtain ⟨R, hR⟩ : ∃ R, bestI n xs = R := ⟨_, rfl⟩
  rw [hR]
  clear hr hc
  by_cases hz : limI n xs 20 = 0
  · have hi := limI_zero hz
    obtain rfl : R = (downB xs (pairsL xs) (topN xs), 0) := by rw [← hR]; unfold bestI; rw [if_pos hz]
    rw [hz] at HKL
    have HI := Aside0.mk hi
    clear hz hi hR
    go_enter Try.func43, Try.ntmps43
    go_wp2_with (first
      | (go_at_call 77; refine (QD.impl_limitCode.calls n A c xs 20 0 _ (Kd.C_below HR.out HB.out) HC.out HKL.out).mono ?_; rintro e w1 ⟨rfl, hb⟩; have HB1 := Aside0.mk (below_in HB.out hb); have HX1 := Aside0.mk (HX.out.below hb); have hy0 := HX1.out.c0; have hy1 := HX1.out.c1; clear hb hx0 hx1)
      | (go_at_call 95; refine (best_c n A c xs _ (Kd.C_below HR.out HB1.out) HC.out HI.out).mono ?_; rintro e w2 ⟨v, rfl, hv, hb⟩; have HV2 := Aside0.mk (Kd.R_lower hv HB1.out.size); have HB2 := Aside0.mk (below_in HB1.out hb); clear hv hb hy0 hy1))
    go_ret2
    exact ⟨_, rfl, HV2.out, HB2.out⟩
  · obtain rfl : R = ([], limI n xs 20) := by rw [← hR]; unfold bestI; rw [if_neg hz]
    obtain ⟨z, hzz⟩ : ∃ z, limI n xs 20 = z := ⟨_, rfl⟩
    rw [hzz] at HKL hz ⊢
    have hz1 : (z == 0) = false := beq_eq_false_iff_ne.2 hz
    clear hR hzz
    go_enter Try.func43, Try.ntmps43
    go_wp2_with (go_at_call 77; refine (QD.impl_limitCode.calls n A c xs 20 z _ (Kd.C_below HR.out HB.out) HC.out HKL.out).mono ?_; rintro e w1 ⟨rfl, hb⟩; have HB1 := Aside0.mk (below_in HB.out hb); clear hb)
    go_ret2
    exact ⟨_, rfl, Kd.R_nil _ _ _ _ _, HB1.out⟩
end Go.Proofs.Ytomdfjohnmikdaa.Im
namespace Go.Proofs.Ytomdfjohnmikdaa.Im
open Go.RowKit Go.Shelf Cw YtomdfjohnmikdaaW.PrintWords YtomdfjohnmikdaaW.PrintLast YtomdfjohnmikdaaW.PrintMore
def kV : Kd Value where
  sz := 1
  E := []
  K := fun _ x cs => cs = [x] ∧ x.oneCell' = true
  M := fun _ _ _ x cs => cs = [x] ∧ x.oneCell' = true
  K_len := by rintro w x cs ⟨rfl, _⟩; rfl
  K_one := by rintro w x cs ⟨rfl, h⟩ u hu; rw [List.mem_singleton.1 hu]; exact h
  K_below := fun _ h => h
  K_of_M := fun h => h
  M_mono := fun _ h => h
  M_bound := fun h => h
  M_move := fun _ h => h
  M_lower := fun _ h => h
abbrev VO (w : World) (base : Nat) (v : Value) (vs : List Value) : Prop := Kd.R kV 22 w base (fun _ => True) v vs
section
variable {ops : Array Oper} {rest : List Oper} {o : Oper} {a : Act} {Q : Exit → Act → World → Prop}
end
theorem VC.cell {w : World} {A : Option Addr} {n : Nat} {vs : List Value} (h : Kd.C kV w A n vs) {i : Nat} (hi : i < vs.length) : ∃ ad, A = some ad ∧ w.cell? (ad.add i) = some vs[i] := by
  obtain ⟨ad, c, hA, _, ⟨rfl, _⟩, hc⟩ := Kd.C_get h (.slice none 0 0) (i : Int) (by omega) (by have := h.1; omega)
  refine ⟨ad, hA, ?_⟩
  have := hc 0 _ rfl
  rw [show ((i : Int)).toNat * kV.sz + 0 = i by simp [kV], show ((i : Int)).toNat = i by omega, List.getD_eq_getElem?_getD, List.getElem?_eq_getElem hi] at this
  exact this
theorem VC.none (w : World) (A : Option Addr) : Kd.C kV w A 0 [] := ⟨rfl, by simp, fun h => absurd h (Nat.lt_irrefl _)⟩
def VI (w : World) (base : Nat) (vs : List Value) (M : List (List Int)) : Prop := vs.length = M.length ∧ ∀ i (h1 : i < vs.length) (h2 : i < M.length), RO w base vs[i] M[i]
section
variable {w w1 : World} {base base' : Nat} {vs : List Value} {M : List (List Int)}
theorem RO.moveI {v : Value} {xs : List Int} (h : RO w base v xs) (hm : ∀ (k : Nat) (cells : Array Value), w.heap[k]? = some (.cells cells 2 (0, 0)) → w1.heap[k]? = w.heap[k]?) : RO w1 base v xs :=
  Kd.R_mono (Kd.R_step (Kd.R_bound h) (fun k ho _ => by
    obtain ⟨_, _, _, q, hq, cells, hc⟩ := ho
    have hq' : q = 2 := by simpa [Kd.int, Kd.scalar] using hq
    subst hq'
    exact hm k cells hc)) (fun _ _ => trivial)
theorem VI.nil (w : World) (base : Nat) : VI w base [] [] := ⟨rfl, fun i h => absurd h (Nat.not_lt_zero _)⟩
theorem VI.move (h : VI w base vs M) (hm : ∀ (k : Nat) (cells : Array Value), w.heap[k]? = some (.cells cells 2 (0, 0)) → w1.heap[k]? = w.heap[k]?) : VI w1 base vs M := ⟨h.1, fun i h1 h2 => RO.moveI (h.2 i h1 h2) hm⟩
theorem VI.below (h : VI w base vs M) (hb : Below w.heap.size w w1) : VI w1 base vs M := h.move fun k cells hk => hb.block k (blk_lt hk)
end
end Go.Proofs.Ytomdfjohnmikdaa.Im
namespace Go.Proofs.Ytomdfjohnmikdaa.Im
open Go.RowKit Go.Shelf Kp Ext Cw YtomdfjohnmikdaaW.PrintWords YtomdfjohnmikdaaW.PrintLast YtomdfjohnmikdaaW.PrintMore
def ssC (n : Int) (A : Option Addr) (c len : Nat) (va vb : Value) (count most top : Int) (whole : Bool) (vf : Value) : Array Value := #[.int .i64 n, .slice A len c, va, vb, .int .i64 count, .int .i64 most, .int .i64 top, .bool whole, vf]
structure SS (W w0 : World) (y : Nat) (n : Int) (A : Option Addr) (c len : Nat) (va : Value) (all : List Pr) (vb : Value) (best : List Pr) (count most top : Int) (whole : Bool) (vf : Value) (vs : List Value) (found : List (List Int)) : Prop where
  b : W.heap[y]? = some (.cells (ssC n A c len va vb count most top whole vf) 85 (0, 0))
  y0 : w0.heap.size ≤ y
  ra : PO W w0.heap.size va all
  rb : PO W w0.heap.size vb best
  rv : VO W w0.heap.size vf vs
  ri : VI W w0.heap.size vs found
  hb : Below w0.heap.size w0 W
theorem VI.set {w : World} {base : Nat} {vs : List Value} {M : List (List Int)} (h : VI w base vs M) {g t : Nat} {cells : Array Value} (hb : w.heap[g]? = some (.cells cells t (0, 0))) (ht : 2 ≠ t) (j : Nat) (u : Value) : VI (w.setCell ⟨g, j, none⟩ u) base vs M :=
  h.move fun k cells' hk => Below.heap_setCell w ⟨g, j, none⟩ u k (blk_ne hk hb ht)
theorem KeepT.set {w : World} {g t : Nat} {cells : Array Value} (hb : w.heap[g]? = some (.cells cells t (0, 0))) (ht : t ∉ [73, 38, 28, 89, 123]) (j : Nat) (u : Value) : KeepT w (w.setCell ⟨g, j, none⟩ u) :=
  ⟨by simp, fun k cells' t' ht' hk => (Below.heap_setCell w ⟨g, j, none⟩ u k (blk_ne hk hb (fun e => ht (e ▸ ht')))).trans hk⟩
section
variable {W W1 w0 : World} {y : Nat} {n : Int} {A : Option Addr} {c len : Nat} {va : Value} {all : List Pr} {vb : Value} {best : List Pr} {count most top : Int} {whole : Bool} {vf : Value} {vs : List Value} {found : List (List Int)}
theorem SS.below (h : SS W w0 y n A c len va all vb best count most top whole vf vs found) (hb : Below W.heap.size W W1) : SS W1 w0 y n A c len va all vb best count most top whole vf vs found :=
  ⟨(hb.block _ (blk_lt h.b)).trans h.b, h.y0, Kd.R_below h.ra hb, Kd.R_below h.rb hb, Kd.R_below h.rv hb, h.ri.below hb, below_in h.hb hb⟩
theorem SS.drew (h : SS W w0 y n A c len va all vb best count most top whole vf vs found) : SS W.drew w0 y n A c len va all vb best count most top whole vf vs found := h.below (below_drew (Below.refl _ _))
theorem SS.keep (h : SS W w0 y n A c len va all vb best count most top whole vf vs found) (j : Nat) (u : Value) : KeepT W (W.setCell ⟨y, j, none⟩ u) := KeepT.set h.b (by decide) j u
theorem SS.c0 (h : SS W w0 y n A c len va all vb best count most top whole vf vs found) : W.cell? ⟨y, 0, none⟩ = some (.int .i64 n) := (cell_of_row W y 0 _ _ _ h.b).trans rfl
theorem SS.c1 (h : SS W w0 y n A c len va all vb best count most top whole vf vs found) : W.cell? ⟨y, 1, none⟩ = some (.slice A len c) := (cell_of_row W y 1 _ _ _ h.b).trans rfl
theorem SS.c2 (h : SS W w0 y n A c len va all vb best count most top whole vf vs found) : W.cell? ⟨y, 2, none⟩ = some va := (cell_of_row W y 2 _ _ _ h.b).trans rfl
theorem SS.c3 (h : SS W w0 y n A c len va all vb best count most top whole vf vs found) : W.cell? ⟨y, 3, none⟩ = some vb := (cell_of_row W y 3 _ _ _ h.b).trans rfl
theorem SS.c4 (h : SS W w0 y n A c len va all vb best count most top whole vf vs found) : W.cell? ⟨y, 4, none⟩ = some (.int .i64 count) := (cell_of_row W y 4 _ _ _ h.b).trans rfl
theorem SS.c5 (h : SS W w0 y n A c len va all vb best count most top whole vf vs found) : W.cell? ⟨y, 5, none⟩ = some (.int .i64 most) := (cell_of_row W y 5 _ _ _ h.b).trans rfl
theorem SS.c6 (h : SS W w0 y n A c len va all vb best count most top whole vf vs found) : W.cell? ⟨y, 6, none⟩ = some (.int .i64 top) := (cell_of_row W y 6 _ _ _ h.b).trans rfl
theorem SS.c7 (h : SS W w0 y n A c len va all vb best count most top whole vf vs found) : W.cell? ⟨y, 7, none⟩ = some (.bool whole) := (cell_of_row W y 7 _ _ _ h.b).trans rfl
theorem SS.fz (h : SS W w0 y n A c len va all vb best count most top whole vf vs found) (j : Nat) : W.frozen? ⟨y, j, none⟩ = false := blk_frozen h.b j
theorem SS.setCount (h : SS W w0 y n A c len va all vb best count most top whole vf vs found) (x : Int) : SS (W.setCell ⟨y, 4, none⟩ (.int .i64 x)) w0 y n A c len va all vb best x most top whole vf vs found :=
  ⟨blk_put h.b 4 _ rfl, h.y0, Kd.R_set h.ra h.b (by decide) 4 _, Kd.R_set h.rb h.b (by decide) 4 _, Kd.R_set h.rv h.b (by decide) 4 _, h.ri.set h.b (by decide) 4 _, h.hb.setCell (p := ⟨y, 4, none⟩) h.y0 _⟩
theorem SS.setMost (h : SS W w0 y n A c len va all vb best count most top whole vf vs found) (x : Int) : SS (W.setCell ⟨y, 5, none⟩ (.int .i64 x)) w0 y n A c len va all vb best count x top whole vf vs found :=
  ⟨blk_put h.b 5 _ rfl, h.y0, Kd.R_set h.ra h.b (by decide) 5 _, Kd.R_set h.rb h.b (by decide) 5 _, Kd.R_set h.rv h.b (by decide) 5 _, h.ri.set h.b (by decide) 5 _, h.hb.setCell (p := ⟨y, 5, none⟩) h.y0 _⟩
theorem SS.setBest (h : SS W w0 y n A c len va all vb best count most top whole vf vs found) {v : Value} {l : List Pr} (hv : PO W w0.heap.size v l) : SS (W.setCell ⟨y, 3, none⟩ v) w0 y n A c len va all v l count most top whole vf vs found :=
  ⟨blk_put h.b 3 _ rfl, h.y0, Kd.R_set h.ra h.b (by decide) 3 _, Kd.R_set hv h.b (by decide) 3 _, Kd.R_set h.rv h.b (by decide) 3 _, h.ri.set h.b (by decide) 3 _, h.hb.setCell (p := ⟨y, 3, none⟩) h.y0 _⟩
end
end Go.Proofs.Ytomdfjohnmikdaa.Im
namespace Go.Proofs.Ytomdfjohnmikdaa.Im
open Go.RowKit Go.Shelf Cw YtomdfjohnmikdaaW.PrintWords YtomdfjohnmikdaaW.PrintLast YtomdfjohnmikdaaW.PrintMore
section
variable {P : Program} {ops : Array Oper} {Q : Exit → Act → World → Prop} {S : World → Prop} {ds : List Nat} {md : Region.Mode} {T : Bool × List (List Nat × List Nat)} {n m fuel : Nat} {a : Act} {w : World} {oi oj ok : Oper}
theorem tr_ (i j k : Nat) (Ni Nj Nk : Option Tmp) (mi mj mk : Nat) (hT : Aside0 (rtab md ops = T))
    (h1 : ∀ K : Act → World → Prop, Shut (∀ a' w', S w' → (S w' → wpAnyLast P md ops Q S ds fuel (mB n mi) a' w') → K a' w') → if Region.wanted oi (yielded ops a.tmps) = true then Oper.wp P oi a w K Q else K (a.put Ni undef) w)
    (h2 : ∀ K : Act → World → Prop, Shut (∀ a' w', S w' → (S w' → wpAnyLast P md ops Q S ds fuel (mB n mj) a' w') → K a' w') → if Region.wanted oj (yielded ops a.tmps) = true then Oper.wp P oj a w K Q else K (a.put Nj undef) w)
    (h3 : ∀ K : Act → World → Prop, Shut (∀ a' w', S w' → (S w' → wpAnyLast P md ops Q S ds fuel (mB n mk) a' w') → K a' w') → if Region.wanted ok (yielded ops a.tmps) = true then Oper.wp P ok a w K Q else K (a.put Nk undef) w)
    (hi : ops[i]? = some oi := by rfl) (hj : ops[j]? = some oj := by rfl) (hk : ops[k]? = some ok := by rfl) (hNi : oi.dst = Ni := by rfl) (hNj : oj.dst = Nj := by rfl) (hNk : ok.dst = Nk := by rfl)
    (hc : (readyT T.2 (mB n m).toList == [i, j, k] && (mB n m).toList.set i true == (mB n mi).toList && (mB n m).toList.set j true == (mB n mj).toList && (mB n m).toList.set k true == (mB n mk).toList) = true := by kernel_rfl) (hdi : i ∉ ds := by decide) (hdj : j ∉ ds := by decide) (hdk : k ∉ ds := by decide) :
    wpAnyLast P md ops Q S ds (fuel + 1) (mB n m) a w := three_ (mB n mi) (mB n mj) (mB n mk) hi hj hk hNi hNj hNk (three_of hT.out hc) hdi hdj hdk h1 h2 h3
end
end Go.Proofs.Ytomdfjohnmikdaa.Im
namespace Go.Proofs.Ytomdfjohnmikdaa.Im
open Go.RowKit Go.Shelf Kp Cw Ext Pu YtomdfjohnmikdaaW.PrintWords YtomdfjohnmikdaaW.PrintLast YtomdfjohnmikdaaW.PrintMore
theorem made_false (m : Nat) : madeCells #[Value.bool false] m = ((List.replicate m false).map Value.bool).toArray := by
  apply Array.ext'
  apply List.ext_getElem
  · simp [madeCells]
  · intro i h1 h2
    simp [madeCells, Nat.mod_one]
def BR (w : World) (b : Nat) (B : List Bool) : Prop := w.heap[b]? = some (.cells (B.map Value.bool).toArray 4 (0, 0)) ∧ B.length = 64
section
variable {w w1 : World} {b : Nat} {B : List Bool}
theorem BR.below (h : BR w b B) (hb : Below w.heap.size w w1) : BR w1 b B := ⟨(hb.block b (blk_lt h.1)).trans h.1, h.2⟩
theorem BR.cell (h : BR w b B) {x : Nat} (hx : x < 64) : w.cell? ⟨b, x, none⟩ = some (.bool (B.getD x false)) ∧ w.frozen? ⟨b, x, none⟩ = false := by
  refine ⟨(cell_of_row w b x _ _ _ h.1).trans ?_, blk_frozen h.1 x⟩
  have hx' : x < B.length := by rw [h.2]; exact hx
  rw [List.getD_eq_getElem?_getD, List.getElem?_eq_getElem hx']
  simp [hx']
theorem BR.set (h : BR w b B) (x : Nat) : BR (w.setCell ⟨b, x, none⟩ (.bool true)) b (B.set x true) := by
  refine ⟨?_, by rw [List.length_set]; exact h.2⟩
  have := blk_put h.1 x (.bool true) rfl
  rw [this]
  congr 2
  apply Array.ext'
  simp [List.map_set]
theorem BR.far (h : BR w b B) {g : Nat} (hne : b ≠ g) (j : Nat) (u : Value) : BR (w.setCell ⟨g, j, none⟩ u) b B := ⟨(Below.heap_setCell w ⟨g, j, none⟩ u b hne).trans h.1, h.2⟩
theorem BR.made (w : World) : BR (w.alloc (.cells (madeCells #[Value.bool false] 64) 4)) w.heap.size (List.replicate 64 false) := by
  refine ⟨(heap_alloc_new w _).trans ?_, by simp⟩
  rw [made_false]
end
def Flags (B : List Bool) (p : Nat → Bool) : Prop := ∀ x : Nat, x < 64 → B.getD x false = p x
theorem Flags.set {B : List Bool} {p q : Nat → Bool} (h : Flags B p) (hl : B.length = 64) {u : Nat} (hq : ∀ x, x < 64 → q x = (p x || decide (x = u))) : Flags (B.set u true) q := fun x hx => by
  rw [hq x hx, List.getD_eq_getElem?_getD, List.getElem?_set]
  by_cases he : u = x
  · subst he
    simp [hl, hx]
  · rw [if_neg he, ← List.getD_eq_getElem?_getD, h x hx]
    simp [Ne.symm he]
theorem Flags.same {B : List Bool} {p q : Nat → Bool} (h : Flags B p) (hq : ∀ x, x < 64 → q x = p x) : Flags B q := fun x hx => (h x hx).trans (hq x hx).symm
theorem Flags.count {B : List Bool} {p : Nat → Bool} (h : Flags B p) (hl : B.length = 64) : B.count true = ((List.range 64).filter p).length := by
  have hB : B = (List.range 64).map p := by
    refine List.ext_getElem (by simp [hl]) fun i h1 h2 => ?_
    have := h i (by omega)
    rw [List.getD_eq_getElem?_getD, List.getElem?_eq_getElem h1, Option.getD_some] at this
    simp [this]
  rw [hB, List.count, List.countP_map, ← List.countP_eq_length_filter]
  refine List.countP_congr fun x _ => ?_
  simp
theorem count_new {B : List Bool} {u : Nat} (hu : u < B.length) (hb : B.getD u false = false) : (B.set u true).count true = B.count true + 1 := by
  rw [List.count_set hu]
  rw [List.getD_eq_getElem?_getD, List.getElem?_eq_getElem hu, Option.getD_some] at hb
  simp [hb]
theorem count_le64 {B : List Bool} (hl : B.length = 64) : B.count true ≤ 64 := by rw [← hl]; exact List.count_le_length
set_option maxRecDepth 100000 in
set_option maxHeartbeats 16000000 in
theorem may_c (W w0 : World) (y : Nat) (n : Int) (A : Option Addr) (c len : Nat) (Aa : Option Addr) (ca : Nat) (all : List Pr) (vb : Value) (best : List Pr) (count most top : Int) (vf : Value) (vs : List Value) (found : List (List Int)) (Al : Option Addr) (cl : Nat) (l : List Pr) (i : Nat)
    (hs : SS W w0 y n A c len (.slice Aa all.length ca) all vb best count most top false vf vs found) (hl : PO W w0.heap.size (.slice Al l.length cl) l) (hi : i ≤ all.length) (hal : all.length ≤ 1048576) (hll : l.length ≤ 1000) (hr : ∀ p ∈ all, (0 ≤ p.f0 ∧ p.f0 ≤ 63) ∧ 0 ≤ p.f1 ∧ p.f1 ≤ 63) (hrl : ∀ p ∈ l, (0 ≤ p.f0 ∧ p.f0 ≤ 63) ∧ 0 ≤ p.f1 ∧ p.f1 ≤ 63) :
    Calls Try.prog 172 #[.pointer (some ⟨y, 0, none⟩), .slice Al l.length cl, .int .i64 i] W fun e w' => e = .returned (.bool (mayB l (all.drop i) most)) ∧ Below W.heap.size W w' := by
  have HS := Aside0.mk hs
  have HL := Aside0.mk hl
  have HR := Aside0.mk hr
  have HRL := Aside0.mk hrl
  have HB := Aside0.mk (below_drew (Below.refl W.heap.size W))
  clear hs hl hr hrl
  have hmk : ∀ W : World, (Instr.makeSlice 93 (.int .i64 64) (.int .i64 64)).run Try.prog W = .ok (.slice (some ⟨W.heap.size, 0, none⟩) 64 64) (W.alloc (.cells (madeCells #[Value.bool false] 64) 4)) := fun W =>
    print_make_of 93 4 (.bool false) 1 Try.underlying93 (by kernel_rfl) rfl (by decide) 64 (by decide) W
  go_enter Try.func172, Try.ntmps172
  go_upto_region 1 with fail
  refine st_ 6 (S := fun w' => True) (ds := []) trivial (fun hHeld => ?_)
  refine with_tabW (T := (true, [([], []), ([], []), ([], []), ([0, 0], [0]), ([1, 3, 0, 1, 3], [1]), ([2, 4, 0, 1, 2, 3, 4], [2])])) (B := [0, 0, 0, 1, 11, 31]) (by kernel_rfl) (by kernel_rfl) (fun HT_ HW_ => ?_)
  refine tr_ 0 1 2 (some 16) (some 17) (some 18) 1 2 4 HT_ (fun K hK => ?_) (fun K hK => ?_) (fun K hK => ?_)
  (refine value_ (by rfl) rfl (v := .slice (some ⟨(W.drew).heap.size, 0, none⟩) 64 64) (w1 := (W.drew).alloc (.cells (madeCells #[Value.bool false] 64) 4)) (by go_simp) ?_; have H7 := Aside0.mk (BR.made (W.drew)); have HG7 := Aside0.mk HB.out.size; (try (have N78 := Aside0.mk (Nat.ne_of_gt (blk_lt H8.out.1)))); (try (have N79 := Aside0.mk (Nat.ne_of_gt (blk_lt H9.out.1)))); have hb := below_alloc (Below.refl (W.drew).heap.size (W.drew)) (.cells (madeCells #[Value.bool false] 64) 4); generalize (W.drew).alloc (.cells (madeCells #[Value.bool false] 64) 4) = wz1 at hb H7 ⊢; (try (have HBn := Aside0.mk (below_in HB.out hb); clear HB; have HB := HBn; clear HBn)); (try (have H8n := Aside0.mk (H8.out.below hb); clear H8; have H8 := H8n; clear H8n)); (try (have H9n := Aside0.mk (H9.out.below hb); clear H9; have H9 := H9n; clear H9n)); clear hb; generalize hb7 : (W.drew).heap.size = b7 at *; clear hb7)
  refine hK.out _ _ trivial (fun hHeld => ?_)
  clear hK K
  refine nm_ ?_
  refine pd_ 3 7 9 HT_ ?_
  refine tw_ 1 2 (some 17) (some 18) 11 13 HT_ (fun K hK => ?_) (fun K hK => ?_)
  (refine value_ (by rfl) rfl (v := .slice (some ⟨(wz1).heap.size, 0, none⟩) 64 64) (w1 := (wz1).alloc (.cells (madeCells #[Value.bool false] 64) 4)) (by go_simp) ?_; have H8 := Aside0.mk (BR.made (wz1)); have HG8 := Aside0.mk HB.out.size; (try (have N78 := Aside0.mk (Nat.ne_of_lt (blk_lt H7.out.1)))); (try (have N89 := Aside0.mk (Nat.ne_of_gt (blk_lt H9.out.1)))); have hb := below_alloc (Below.refl (wz1).heap.size (wz1)) (.cells (madeCells #[Value.bool false] 64) 4); generalize (wz1).alloc (.cells (madeCells #[Value.bool false] 64) 4) = wz2 at hb H8 ⊢; (try (have HBn := Aside0.mk (below_in HB.out hb); clear HB; have HB := HBn; clear HBn)); (try (have H7n := Aside0.mk (H7.out.below hb); clear H7; have H7 := H7n; clear H7n)); (try (have H9n := Aside0.mk (H9.out.below hb); clear H9; have H9 := H9n; clear H9n)); clear hb; generalize hb8 : (wz1).heap.size = b8 at *; clear hb8)
  refine hK.out _ _ trivial (fun hHeld => ?_)
  clear hK K
  refine nm_ ?_
  refine pd_ 4 8 27 HT_ ?_
  refine on_ 2 (some 18) 31 HT_ (fun K hK => ?_)
  (refine value_ (by rfl) rfl (v := .slice (some ⟨(wz2).heap.size, 0, none⟩) 64 64) (w1 := (wz2).alloc (.cells (madeCells #[Value.bool false] 64) 4)) (by go_simp) ?_; have H9 := Aside0.mk (BR.made (wz2)); have HG9 := Aside0.mk HB.out.size; (try (have N79 := Aside0.mk (Nat.ne_of_lt (blk_lt H7.out.1)))); (try (have N89 := Aside0.mk (Nat.ne_of_lt (blk_lt H8.out.1)))); have hb := below_alloc (Below.refl (wz2).heap.size (wz2)) (.cells (madeCells #[Value.bool false] 64) 4); generalize (wz2).alloc (.cells (madeCells #[Value.bool false] 64) 4) = wz3 at hb H9 ⊢; (try (have HBn := Aside0.mk (below_in HB.out hb); clear HB; have HB := HBn; clear HBn)); (try (have H7n := Aside0.mk (H7.out.below hb); clear H7; have H7 := H7n; clear H7n)); (try (have H8n := Aside0.mk (H8.out.below hb); clear H8; have H8 := H8n; clear H8n)); clear hb; generalize hb9 : (wz2).heap.size = b9 at *; clear hb9)
  refine hK.out _ _ trivial (fun hHeld => ?_)
  clear hK K
  refine nm_ ?_
  refine pd_ 5 9 63 HT_ ?_
  refine dn_ HT_ ?_
  rotate_left
  (refine value_ (by rfl) rfl (v := .slice (some ⟨(wz1).heap.size, 0, none⟩) 64 64) (w1 := (wz1).alloc (.cells (madeCells #[Value.bool false] 64) 4)) (by go_simp) ?_; have H9 := Aside0.mk (BR.made (wz1)); have HG9 := Aside0.mk HB.out.size; (try (have N79 := Aside0.mk (Nat.ne_of_lt (blk_lt H7.out.1)))); (try (have N89 := Aside0.mk (Nat.ne_of_lt (blk_lt H8.out.1)))); have hb := below_alloc (Below.refl (wz1).heap.size (wz1)) (.cells (madeCells #[Value.bool false] 64) 4); generalize (wz1).alloc (.cells (madeCells #[Value.bool false] 64) 4) = wz2 at hb H9 ⊢; (try (have HBn := Aside0.mk (below_in HB.out hb); clear HB; have HB := HBn; clear HBn)); (try (have H7n := Aside0.mk (H7.out.below hb); clear H7; have H7 := H7n; clear H7n)); (try (have H8n := Aside0.mk (H8.out.below hb); clear H8; have H8 := H8n; clear H8n)); clear hb; generalize hb9 : (wz1).heap.size = b9 at *; clear hb9)
  refine hK.out _ _ trivial (fun hHeld => ?_)
  clear hK K
  refine nm_ ?_
  refine on_ 1 (some 17) 15 HT_ (fun K hK => ?_)
  (refine value_ (by rfl) rfl (v := .slice (some ⟨(wz2).heap.size, 0, none⟩) 64 64) (w1 := (wz2).alloc (.cells (madeCells #[Value.bool false] 64) 4)) (by go_simp) ?_; have H8 := Aside0.mk (BR.made (wz2)); have HG8 := Aside0.mk HB.out.size; (try (have N78 := Aside0.mk (Nat.ne_of_lt (blk_lt H7.out.1)))); (try (have N89 := Aside0.mk (Nat.ne_of_gt (blk_lt H9.out.1)))); have hb := below_alloc (Below.refl (wz2).heap.size (wz2)) (.cells (madeCells #[Value.bool false] 64) 4); generalize (wz2).alloc (.cells (madeCells #[Value.bool false] 64) 4) = wz3 at hb H8 ⊢; (try (have HBn := Aside0.mk (below_in HB.out hb); clear HB; have HB := HBn; clear HBn)); (try (have H7n := Aside0.mk (H7.out.below hb); clear H7; have H7 := H7n; clear H7n)); (try (have H9n := Aside0.mk (H9.out.below hb); clear H9; have H9 := H9n; clear H9n)); clear hb; generalize hb8 : (wz2).heap.size = b8 at *; clear hb8)
  refine hK.out _ _ trivial (fun hHeld => ?_)
  clear hK K
  refine nm_ ?_
  refine pd_ 4 8 31 HT_ ?_
  refine pd_ 5 9 63 HT_ ?_
  refine dn_ HT_ ?_
  rotate_left
  (refine value_ (by rfl) rfl (v := .slice (some ⟨(W.drew).heap.size, 0, none⟩) 64 64) (w1 := (W.drew).alloc (.cells (madeCells #[Value.bool false] 64) 4)) (by go_simp) ?_; have H8 := Aside0.mk (BR.made (W.drew)); have HG8 := Aside0.mk HB.out.size; (try (have N78 := Aside0.mk (Nat.ne_of_lt (blk_lt H7.out.1)))); (try (have N89 := Aside0.mk (Nat.ne_of_gt (blk_lt H9.out.1)))); have hb := below_alloc (Below.refl (W.drew).heap.size (W.drew)) (.cells (madeCells #[Value.bool false] 64) 4); generalize (W.drew).alloc (.cells (madeCells #[Value.bool false] 64) 4) = wz1 at hb H8 ⊢; (try (have HBn := Aside0.mk (below_in HB.out hb); clear HB; have HB := HBn; clear HBn)); (try (have H7n := Aside0.mk (H7.out.below hb); clear H7; have H7 := H7n; clear H7n)); (try (have H9n := Aside0.mk (H9.out.below hb); clear H9; have H9 := H9n; clear H9n)); clear hb; generalize hb8 : (W.drew).heap.size = b8 at *; clear hb8)
  refine hK.out _ _ trivial (fun hHeld => ?_)
  clear hK K
  refine nm_ ?_
  refine tw_ 0 2 (some 16) (some 18) 3 6 HT_ (fun K hK => ?_) (fun K hK => ?_)
  (refine value_ (by rfl) rfl (v := .slice (some ⟨(wz1).heap.size, 0, none⟩) 64 64) (w1 := (wz1).alloc (.cells (madeCells #[Value.bool false] 64) 4)) (by go_simp) ?_; have H7 := Aside0.mk (BR.made (wz1)); have HG7 := Aside0.mk HB.out.size; (try (have N78 := Aside0.mk (Nat.ne_of_gt (blk_lt H8.out.1)))); (try (have N79 := Aside0.mk (Nat.ne_of_gt (blk_lt H9.out.1)))); have hb := below_alloc (Below.refl (wz1).heap.size (wz1)) (.cells (madeCells #[Value.bool false] 64) 4); generalize (wz1).alloc (.cells (madeCells #[Value.bool false] 64) 4) = wz2 at hb H7 ⊢; (try (have HBn := Aside0.mk (below_in HB.out hb); clear HB; have HB := HBn; clear HBn)); (try (have H8n := Aside0.mk (H8.out.below hb); clear H8; have H8 := H8n; clear H8n)); (try (have H9n := Aside0.mk (H9.out.below hb); clear H9; have H9 := H9n; clear H9n)); clear hb; generalize hb7 : (wz1).heap.size = b7 at *; clear hb7)
  refine hK.out _ _ trivial (fun hHeld => ?_)
  clear hK K
  refine nm_ ?_
  refine pd_ 3 7 11 HT_ ?_
  refine pd_ 4 8 27 HT_ ?_
  refine on_ 2 (some 18) 31 HT_ (fun K hK => ?_)
  (refine value_ (by rfl) rfl (v := .slice (some ⟨(wz2).heap.size, 0, none⟩) 64 64) (w1 := (wz2).alloc (.cells (madeCells #[Value.bool false] 64) 4)) (by go_simp) ?_; have H9 := Aside0.mk (BR.made (wz2)); have HG9 := Aside0.mk HB.out.size; (try (have N79 := Aside0.mk (Nat.ne_of_lt (blk_lt H7.out.1)))); (try (have N89 := Aside0.mk (Nat.ne_of_lt (blk_lt H8.out.1)))); have hb := below_alloc (Below.refl (wz2).heap.size (wz2)) (.cells (madeCells #[Value.bool false] 64) 4); generalize (wz2).alloc (.cells (madeCells #[Value.bool false] 64) 4) = wz3 at hb H9 ⊢; (try (have HBn := Aside0.mk (below_in HB.out hb); clear HB; have HB := HBn; clear HBn)); (try (have H7n := Aside0.mk (H7.out.below hb); clear H7; have H7 := H7n; clear H7n)); (try (have H8n := Aside0.mk (H8.out.below hb); clear H8; have H8 := H8n; clear H8n)); clear hb; generalize hb9 : (wz2).heap.size = b9 at *; clear hb9)
  refine hK.out _ _ trivial (fun hHeld => ?_)
  clear hK K
  refine nm_ ?_
  refine pd_ 5 9 63 HT_ ?_
  refine dn_ HT_ ?_
  rotate_left
  (refine value_ (by rfl) rfl (v := .slice (some ⟨(wz1).heap.size, 0, none⟩) 64 64) (w1 := (wz1).alloc (.cells (madeCells #[Value.bool false] 64) 4)) (by go_simp) ?_; have H9 := Aside0.mk (BR.made (wz1)); have HG9 := Aside0.mk HB.out.size; (try (have N79 := Aside0.mk (Nat.ne_of_lt (blk_lt H7.out.1)))); (try (have N89 := Aside0.mk (Nat.ne_of_lt (blk_lt H8.out.1)))); have hb := below_alloc (Below.refl (wz1).heap.size (wz1)) (.cells (madeCells #[Value.bool false] 64) 4); generalize (wz1).alloc (.cells (madeCells #[Value.bool false] 64) 4) = wz2 at hb H9 ⊢; (try (have HBn := Aside0.mk (below_in HB.out hb); clear HB; have HB := HBn; clear HBn)); (try (have H7n := Aside0.mk (H7.out.below hb); clear H7; have H7 := H7n; clear H7n)); (try (have H8n := Aside0.mk (H8.out.below hb); clear H8; have H8 := H8n; clear H8n)); clear hb; generalize hb9 : (wz1).heap.size = b9 at *; clear hb9)
  refine hK.out _ _ trivial (fun hHeld => ?_)
  clear hK K
  refine nm_ ?_
  refine on_ 0 (some 16) 7 HT_ (fun K hK => ?_)
  (refine value_ (by rfl) rfl (v := .slice (some ⟨(wz2).heap.size, 0, none⟩) 64 64) (w1 := (wz2).alloc (.cells (madeCells #[Value.bool false] 64) 4)) (by go_simp) ?_; have H7 := Aside0.mk (BR.made (wz2)); have HG7 := Aside0.mk HB.out.size; (try (have N78 := Aside0.mk (Nat.ne_of_gt (blk_lt H8.out.1)))); (try (have N79 := Aside0.mk (Nat.ne_of_gt (blk_lt H9.out.1)))); have hb := below_alloc (Below.refl (wz2).heap.size (wz2)) (.cells (madeCells #[Value.bool false] 64) 4); generalize (wz2).alloc (.cells (madeCells #[Value.bool false] 64) 4) = wz3 at hb H7 ⊢; (try (have HBn := Aside0.mk (below_in HB.out hb); clear HB; have HB := HBn; clear HBn)); (try (have H8n := Aside0.mk (H8.out.below hb); clear H8; have H8 := H8n; clear H8n)); (try (have H9n := Aside0.mk (H9.out.below hb); clear H9; have H9 := H9n; clear H9n)); clear hb; generalize hb7 : (wz2).heap.size = b7 at *; clear hb7)
  refine hK.out _ _ trivial (fun hHeld => ?_)
  clear hK K
  refine nm_ ?_
  refine pd_ 3 7 15 HT_ ?_
  refine pd_ 4 8 31 HT_ ?_
  refine pd_ 5 9 63 HT_ ?_
  refine dn_ HT_ ?_
  rotate_left
  (refine value_ (by rfl) rfl (v := .slice (some ⟨(W.drew).heap.size, 0, none⟩) 64 64) (w1 := (W.drew).alloc (.cells (madeCells #[Value.bool false] 64) 4)) (by go_simp) ?_; have H9 := Aside0.mk (BR.made (W.drew)); have HG9 := Aside0.mk HB.out.size; (try (have N79 := Aside0.mk (Nat.ne_of_lt (blk_lt H7.out.1)))); (try (have N89 := Aside0.mk (Nat.ne_of_lt (blk_lt H8.out.1)))); have hb := below_alloc (Below.refl (W.drew).heap.size (W.drew)) (.cells (madeCells #[Value.bool false] 64) 4); generalize (W.drew).alloc (.cells (madeCells #[Value.bool false] 64) 4) = wz1 at hb H9 ⊢; (try (have HBn := Aside0.mk (below_in HB.out hb); clear HB; have HB := HBn; clear HBn)); (try (have H7n := Aside0.mk (H7.out.below hb); clear H7; have H7 := H7n; clear H7n)); (try (have H8n := Aside0.mk (H8.out.below hb); clear H8; have H8 := H8n; clear H8n)); clear hb; generalize hb9 : (W.drew).heap.size = b9 at *; clear hb9)
  refine hK.out _ _ trivial (fun hHeld => ?_)
  clear hK K
  refine nm_ ?_
  refine tw_ 0 1 (some 16) (some 17) 5 6 HT_ (fun K hK => ?_) (fun K hK => ?_)
  (refine value_ (by rfl) rfl (v := .slice (some ⟨(wz1).heap.size, 0, none⟩) 64 64) (w1 := (wz1).alloc (.cells (madeCells #[Value.bool false] 64) 4)) (by go_simp) ?_; have H7 := Aside0.mk (BR.made (wz1)); have HG7 := Aside0.mk HB.out.size; (try (have N78 := Aside0.mk (Nat.ne_of_gt (blk_lt H8.out.1)))); (try (have N79 := Aside0.mk (Nat.ne_of_gt (blk_lt H9.out.1)))); have hb := below_alloc (Below.refl (wz1).heap.size (wz1)) (.cells (madeCells #[Value.bool false] 64) 4); generalize (wz1).alloc (.cells (madeCells #[Value.bool false] 64) 4) = wz2 at hb H7 ⊢; (try (have HBn := Aside0.mk (below_in HB.out hb); clear HB; have HB := HBn; clear HBn)); (try (have H8n := Aside0.mk (H8.out.below hb); clear H8; have H8 := H8n; clear H8n)); (try (have H9n := Aside0.mk (H9.out.below hb); clear H9; have H9 := H9n; clear H9n)); clear hb; generalize hb7 : (wz1).heap.size = b7 at *; clear hb7)
  refine hK.out _ _ trivial (fun hHeld => ?_)
  clear hK K
  refine nm_ ?_
  refine pd_ 3 7 13 HT_ ?_
  refine on_ 1 (some 17) 15 HT_ (fun K hK => ?_)
  (refine value_ (by rfl) rfl (v := .slice (some ⟨(wz2).heap.size, 0, none⟩) 64 64) (w1 := (wz2).alloc (.cells (madeCells #[Value.bool false] 64) 4)) (by go_simp) ?_; have H8 := Aside0.mk (BR.made (wz2)); have HG8 := Aside0.mk HB.out.size; (try (have N78 := Aside0.mk (Nat.ne_of_lt (blk_lt H7.out.1)))); (try (have N89 := Aside0.mk (Nat.ne_of_gt (blk_lt H9.out.1)))); have hb := below_alloc (Below.refl (wz2).heap.size (wz2)) (.cells (madeCells #[Value.bool false] 64) 4); generalize (wz2).alloc (.cells (madeCells #[Value.bool false] 64) 4) = wz3 at hb H8 ⊢; (try (have HBn := Aside0.mk (below_in HB.out hb); clear HB; have HB := HBn; clear HBn)); (try (have H7n := Aside0.mk (H7.out.below hb); clear H7; have H7 := H7n; clear H7n)); (try (have H9n := Aside0.mk (H9.out.below hb); clear H9; have H9 := H9n; clear H9n)); clear hb; generalize hb8 : (wz2).heap.size = b8 at *; clear hb8)
  refine hK.out _ _ trivial (fun hHeld => ?_)
  clear hK K
  refine nm_ ?_
  refine pd_ 4 8 31 HT_ ?_
  refine pd_ 5 9 63 HT_ ?_
  refine dn_ HT_ ?_
  rotate_left
  (refine value_ (by rfl) rfl (v := .slice (some ⟨(wz1).heap.size, 0, none⟩) 64 64) (w1 := (wz1).alloc (.cells (madeCells #[Value.bool false] 64) 4)) (by go_simp) ?_; have H8 := Aside0.mk (BR.made (wz1)); have HG8 := Aside0.mk HB.out.size; (try (have N78 := Aside0.mk (Nat.ne_of_lt (blk_lt H7.out.1)))); (try (have N89 := Aside0.mk (Nat.ne_of_gt (blk_lt H9.out.1)))); have hb := below_alloc (Below.refl (wz1).heap.size (wz1)) (.cells (madeCells #[Value.bool false] 64) 4); generalize (wz1).alloc (.cells (madeCells #[Value.bool false] 64) 4) = wz2 at hb H8 ⊢; (try (have HBn := Aside0.mk (below_in HB.out hb); clear HB; have HB := HBn; clear HBn)); (try (have H7n := Aside0.mk (H7.out.below hb); clear H7; have H7 := H7n; clear H7n)); (try (have H9n := Aside0.mk (H9.out.below hb); clear H9; have H9 := H9n; clear H9n)); clear hb; generalize hb8 : (wz1).heap.size = b8 at *; clear hb8)
  refine hK.out _ _ trivial (fun hHeld => ?_)
  clear hK K
  refine nm_ ?_
  refine on_ 0 (some 16) 7 HT_ (fun K hK => ?_)
  (refine value_ (by rfl) rfl (v := .slice (some ⟨(wz2).heap.size, 0, none⟩) 64 64) (w1 := (wz2).alloc (.cells (madeCells #[Value.bool false] 64) 4)) (by go_simp) ?_; have H7 := Aside0.mk (BR.made (wz2)); have HG7 := Aside0.mk HB.out.size; (try (have N78 := Aside0.mk (Nat.ne_of_gt (blk_lt H8.out.1)))); (try (have N79 := Aside0.mk (Nat.ne_of_gt (blk_lt H9.out.1)))); have hb := below_alloc (Below.refl (wz2).heap.size (wz2)) (.cells (madeCells #[Value.bool false] 64) 4); generalize (wz2).alloc (.cells (madeCells #[Value.bool false] 64) 4) = wz3 at hb H7 ⊢; (try (have HBn := Aside0.mk (below_in HB.out hb); clear HB; have HB := HBn; clear HBn)); (try (have H8n := Aside0.mk (H8.out.below hb); clear H8; have H8 := H8n; clear H8n)); (try (have H9n := Aside0.mk (H9.out.below hb); clear H9; have H9 := H9n; clear H9n)); clear hb; generalize hb7 : (wz2).heap.size = b7 at *; clear hb7)
  refine hK.out _ _ trivial (fun hHeld => ?_)
  clear hK K
  refine nm_ ?_
  refine pd_ 3 7 15 HT_ ?_
  refine pd_ 4 8 31 HT_ ?_
  refine pd_ 5 9 63 HT_ ?_
  refine dn_ HT_ ?_
  rotate_left
  all_goals
    have HF7 : Aside0 (Flags (List.replicate 64 false) fun x => (l.take 0).any (hasF (x : Int))) := ⟨fun x hx => by rw [List.getD_eq_getElem?_getD, List.getElem?_replicate_of_lt hx]; rfl⟩
    have HF8 : Aside0 (Flags (List.replicate 64 false) fun x => ((all.drop i).take 0).any fun p => freeP l p && p.f0 == (x : Int)) := ⟨fun x hx => by rw [List.getD_eq_getElem?_getD, List.getElem?_replicate_of_lt hx]; rfl⟩
    have HF9 : Aside0 (Flags (List.replicate 64 false) fun x => ((all.drop i).take 0).any fun p => freeP l p && p.f1 == (x : Int)) := ⟨fun x hx => by rw [List.getD_eq_getElem?_getD, List.getElem?_replicate_of_lt hx]; rfl⟩
    have hrc : (List.replicate 64 false).count true = 0 := by decide
    clear hHeld
    go_wp2
    go_loopw [10] (fun s10 wr => ∃ (j : Nat) (B : List Bool), j ≤ l.length ∧ s10 = .int .i64 j ∧ Aside0 (Below W.heap.size W wr) ∧ Aside0 (BR wr b7 B) ∧ Aside0 (BR wr b8 (List.replicate 64 false)) ∧ Aside0 (BR wr b9 (List.replicate 64 false)) ∧ Aside0 (Flags B fun x => (l.take j).any (hasF (x : Int)))) (fun s10 _ => l.length - (intOf s10).toNat)
    case atStart => exact ⟨0, _, by omega, rfl, HB, H7, H8, H9, HF7⟩
    case round =>
      clear HB H7 H8 H9 HF7
      obtain ⟨j, B, hj, rfl, HB, H7, H8, H9, HF7⟩ := hrel
      by_cases hlt : j < l.length
      · have hltz : (j : Int) < (l.length : Int) := by omega
        obtain ⟨ad, rfl, hp0, hp1⟩ := pair_at (Kd.C_below (Kd.R_reads' HL.out).2.2 HB.out) j hlt
        obtain ⟨p, hp⟩ : ∃ p, l.getD j z73 = p := ⟨_, rfl⟩
        rw [hp] at hp0 hp1
        have hpj : l[j] = p := by rw [← hp, getP hlt]
        have hpm : p ∈ l := by rw [← hpj]; exact List.getElem_mem hlt
        obtain ⟨⟨a0, a1⟩, a2, a3⟩ := HRL.out p hpm
        obtain ⟨u, hu⟩ := Int.eq_ofNat_of_zero_le a0
        obtain ⟨v, hv⟩ := Int.eq_ofNat_of_zero_le a2
        have hu64 : u < 64 := by omega
        have hv64 : v < 64 := by omega
        have HTK : Aside0 (l.take (j + 1) = l.take j ++ [p]) := ⟨by rw [List.take_succ_eq_append_getElem hlt, hpj]⟩
        have HFB : Aside0 (Flags ((B.set u true).set v true) fun x => (l.take (j + 1)).any (hasF (x : Int))) := ⟨by
          refine Flags.set (p := fun x => ((l.take j).any (hasF (x : Int)) || decide (x = u))) (Flags.set HF7.out H7.out.2 (fun x _ => rfl)) (by rw [List.length_set]; exact H7.out.2) (fun x _ => ?_)
          rw [HTK.out, List.any_append, Bool.or_assoc]
          congr 1
          simp only [List.any_cons, List.any_nil, Bool.or_false, hasF, hu, hv]
          by_cases e1 : x = u <;> by_cases e2 : x = v <;> simp [e1, e2] <;> omega⟩
        have HV2 : Aside0 ((l.getD j z73).f1 = (v : Int)) := ⟨by rw [hp]; exact hv⟩
        rw [hu] at hp0
        rw [hv] at hp1
        have hb7 := H7.out.cell hu64
        have hbc := hb7.1
        have hbf := hb7.2
        have huz : (u : Int) < 64 := by omega
        have hvz : (v : Int) < 64 := by omega
        clear hp hpj hpm a0 a1 a2 a3 hb7
        go_upto_region 6 with fail
        have HB5 := Aside0.mk (HB.out.setCell (p := ⟨b7, u, none⟩) HG7.out (.bool true))
        have H75 := Aside0.mk (H7.out.set u)
        have H85 := Aside0.mk (H8.out.far (Ne.symm N78.out) u (.bool true))
        have H95 := Aside0.mk (H9.out.far (Ne.symm N79.out) u (.bool true))
        clear HB H7 H8 H9 HF7 hp0 hp1 hbc hbf
        generalize wr.setCell ⟨b7, u, none⟩ (.bool true) = W5 at HB5 H75 H85 H95 ⊢
        obtain ⟨ad', had', _, hp1⟩ := pair_at (Kd.C_below (Kd.R_reads' HL.out).2.2 HB5.out) j hlt
        obtain rfl : ad = ad' := by injection had'
        have hpv : (l.getD j z73).f1 = (v : Int) := HV2.out
        rw [hpv] at hp1
        have hb7 := H75.out.cell hv64
        have hbc := hb7.1
        have hbf := hb7.2
        clear hb7 hpv had'
        go_wp2
        exact ⟨⟨j + 1, _, by omega, by go_num, ⟨HB5.out.setCell (p := ⟨b7, v, none⟩) HG7.out (.bool true)⟩, ⟨H75.out.set v⟩, ⟨H85.out.far (Ne.symm N78.out) v _⟩, ⟨H95.out.far (Ne.symm N79.out) v _⟩, HFB⟩, by simp [intOf]; omega⟩
      · obtain rfl : j = l.length := by omega
        have hltz : ¬ (l.length : Int) < (l.length : Int) := by omega
        rw [List.take_length] at HF7
        obtain ⟨L, hL⟩ : ∃ L, all.drop i = L := ⟨_, rfl⟩
        have hLl : L.length = all.length - i := by rw [← hL, List.length_drop]
        have HLL := Aside0.mk hL
        have HLE := Aside0.mk hLl
        rw [hL] at HF8 HF9
        clear hL hLl
        go_wp2
        go_loopw [11, 12, 13] (fun s11 s12 s13 wr => ∃ (j lo hi : Nat) (BL BH : List Bool), i ≤ j ∧ j ≤ all.length ∧ s13 = .int .i64 j ∧ s11 = .int .i64 lo ∧ s12 = .int .i64 hi ∧ lo ≤ 64 ∧ hi ≤ 64 ∧ Aside0 (lo = BL.count true) ∧ Aside0 (hi = BH.count true) ∧ Aside0 (Below W.heap.size W wr) ∧ Aside0 (BR wr b7 B) ∧ Aside0 (BR wr b8 BL) ∧ Aside0 (BR wr b9 BH) ∧ Aside0 (Flags BL fun x => (L.take (j - i)).any fun p => freeP l p && p.f0 == (x : Int)) ∧ Aside0 (Flags BH fun x => (L.take (j - i)).any fun p => freeP l p && p.f1 == (x : Int))) (fun _ _ s13 _ => all.length - (intOf s13).toNat)
        case atStart => exact ⟨i, 0, 0, _, _, Nat.le_refl _, hi, rfl, rfl, rfl, by omega, by omega, ⟨hrc.symm⟩, ⟨hrc.symm⟩, HB, H7, H8, H9, ⟨by rw [Nat.sub_self]; exact HF8.out⟩, ⟨by rw [Nat.sub_self]; exact HF9.out⟩⟩
        case round =>
          clear HB H7 H8 H9 HF8 HF9 hrc
          obtain ⟨j, lo, hi', BL, BH, hij, hj, rfl, rfl, rfl, hlo, hhi, HLO, HHI, HB, H7, H8, H9, HF8, HF9⟩ := hrel
          have HS' := Aside0.mk (HS.out.below HB.out)
          have hc2 := HS'.out.c2
          by_cases hlt : j < all.length
          · have hltz : (j : Int) < (all.length : Int) := by omega
            obtain ⟨ad, rfl, hp0, hp1⟩ := pair_at (Kd.R_reads' HS'.out.ra).2.2 j hlt
            obtain ⟨p, hp⟩ : ∃ p, all.getD j z73 = p := ⟨_, rfl⟩
            rw [hp] at hp0 hp1
            have hpj : all[j] = p := by rw [← hp, getP hlt]
            have hpm : p ∈ all := by rw [← hpj]; exact List.getElem_mem hlt
            obtain ⟨⟨a0, a1⟩, a2, a3⟩ := HR.out p hpm
            obtain ⟨u, hu⟩ := Int.eq_ofNat_of_zero_le a0
            obtain ⟨v, hv⟩ := Int.eq_ofNat_of_zero_le a2
            have hu64 : u < 64 := by omega
            have hv64 : v < 64 := by omega
            have HTK : Aside0 (L.take (j + 1 - i) = L.take (j - i) ++ [p]) := ⟨by
              have hjl : j - i < L.length := by have := HLE.out; omega
              rw [show j + 1 - i = (j - i) + 1 by omega, List.take_succ_eq_append_getElem hjl]
              congr 2
              have hx : ∀ (h : j - i < (all.drop i).length), (all.drop i)[j - i] = p := fun h => by
                rw [List.getElem_drop]
                simp only [show i + (j - i) = j by omega]
                exact hpj
              have := HLL.out
              subst this
              exact hx hjl⟩
            have HUU := Aside0.mk hu
            have HVV := Aside0.mk hv
            rw [hu] at hp0
            rw [hv] at hp1
            have hbu := (H7.out.cell hu64).1
            have hbv := (H7.out.cell hv64).1
            rw [HF7.out u hu64] at hbu
            rw [HF7.out v hv64] at hbv
            have huz : (u : Int) < 64 := by omega
            have hvz : (v : Int) < 64 := by omega
            have hw1 : IntKind.i64.wrap ((j : Int) + 1) = ((j + 1 : Nat) : Int) := by rw [IntKind.wrap_i64]; omega
            clear hp hpj hpm a0 a1 a2 a3 hu hv
            go_upto_region 11 with fail
            refine st_ 18 (S := fun w' => w'.cell? ⟨y, 2, none⟩ = some (.slice (some ad) all.length ca) ∧ w'.cell? (ad.add (j * 2)) = some (.int .i64 (u : Int)) ∧ w'.cell? ⟨(ad.add (j * 2)).block, (ad.add (j * 2)).off + 1, none⟩ = some (.int .i64 (v : Int))) (ds := []) ⟨hc2, hp0, hp1⟩ (fun hHeld => ?_)
            refine with_tabW (T := (true, [([], []), ([0], [0]), ([1], [1]), ([2], [2]), ([], []), ([3, 4], [3, 4]), ([5], [5]), ([6], [6]), ([], []), ([8], [8]), ([9], [9]), ([10], [10]), ([], []), ([11, 12], [11, 12]), ([13], [13]), ([14], [14]), ([7, 0, 1, 2, 3, 4, 5, 6, 7], [7]), ([15, 16, 0, 1, 2, 3, 4, 5, 6, 7, 8, 9, 10, 11, 12, 13, 14, 15, 16], [15])])) (B := [0, 1, 3, 7, 0, 31, 63, 127, 0, 256, 768, 1792, 0, 7936, 16128, 32512, 255, 131071]) (by kernel_rfl) (by kernel_rfl) (fun HT_ HW_ => ?_)
            refine pd_ 0 49 1 HT_ ?_
            refine pd_ 1 50 3 HT_ ?_
            refine pd_ 2 51 7 HT_ ?_
            refine pd_ 4 53 23 HT_ ?_
            refine pd_ 8 57 279 HT_ ?_
            refine pd_ 9 58 791 HT_ ?_
            refine pd_ 10 59 1815 HT_ ?_
            refine pd_ 12 61 5911 HT_ ?_
            refine tk_ 3 52 5919 HT_ HW_ hHeld ?_
            refine pd_ 5 54 5951 HT_ ?_
            refine pd_ 6 55 6015 HT_ ?_
            refine tk_ 7 56 6143 HT_ HW_ hHeld ?_
            refine pd_ 16 14 71679 HT_ ?_
            refine tk_ 11 60 73727 HT_ HW_ hHeld ?_
            refine pd_ 13 62 81919 HT_ ?_
            refine pd_ 14 63 98303 HT_ ?_
            refine tk_ 15 64 131071 HT_ HW_ hHeld ?_
            refine pd_ 17 15 262143 HT_ ?_
            refine dn_ HT_ ?_
            clear hc2 hp0 hp1
            have HBd := Aside0.mk HB.out.drew
            have H7d : Aside0 (BR wr.drew b7 B) := ⟨H7.out⟩
            have H8d : Aside0 (BR wr.drew b8 BL) := ⟨H8.out⟩
            have H9d : Aside0 (BR wr.drew b9 BH) := ⟨H9.out⟩
            have hbud : wr.drew.cell? ⟨b7, u, none⟩ = some (.bool (l.any (hasF (u : Int)))) := hbu
            have hbvd : wr.drew.cell? ⟨b7, v, none⟩ = some (.bool (l.any (hasF (v : Int)))) := hbv
            clear hbu hbv HB H7 H8 H9 HS'
            go_upto_region 12 with fail
            generalize wr.drew = W6 at HBd H7d H8d H9d hbud hbvd ⊢
            cases hfu : l.any (hasF (u : Int)) with
            | true =>
              rw [hfu] at hbud
              have HFN : Aside0 (freeP l p = false) := ⟨by unfold freeP; rw [HUU.out, hfu]; rfl⟩
              clear hfu hbvd
              go_wp2
              exact ⟨⟨j + 1, lo, hi', BL, BH, by omega, by omega, by go_num, rfl, rfl, hlo, hhi, HLO, HHI, HBd, H7d, H8d, H9d, ⟨HF8.out.same fun x _ => by rw [HTK.out, List.any_append]; simp [HFN.out]⟩, ⟨HF9.out.same fun x _ => by rw [HTK.out, List.any_append]; simp [HFN.out]⟩⟩, by simp [intOf]; omega⟩
            | false =>
              rw [hfu] at hbud
              cases hfv : l.any (hasF (v : Int)) with
              | true =>
                rw [hfv] at hbvd
                have HFN : Aside0 (freeP l p = false) := ⟨by unfold freeP; rw [HUU.out, HVV.out, hfu, hfv]; rfl⟩
                clear hfu hfv
                go_wp2
                exact ⟨⟨j + 1, lo, hi', BL, BH, by omega, by omega, by go_num, rfl, rfl, hlo, hhi, HLO, HHI, HBd, H7d, H8d, H9d, ⟨HF8.out.same fun x _ => by rw [HTK.out, List.any_append]; simp [HFN.out]⟩, ⟨HF9.out.same fun x _ => by rw [HTK.out, List.any_append]; simp [HFN.out]⟩⟩, by simp [intOf]; omega⟩
              | false =>
                rw [hfv] at hbvd
                have HFY : Aside0 (freeP l p = true) := ⟨by unfold freeP; rw [HUU.out, HVV.out, hfu, hfv]; rfl⟩
                clear hfu hfv
                have hlu := H8d.out.cell hu64
                have hlc := hlu.1
                have hlf := hlu.2
                have HL8 : Aside0 (∀ x : Nat, x < 64 → ((L.take (j + 1 - i)).any fun p => freeP l p && p.f0 == (x : Int)) = (((L.take (j - i)).any fun p => freeP l p && p.f0 == (x : Int)) || decide (x = u))) := ⟨fun x _ => by
                  rw [HTK.out, List.any_append]
                  congr 1
                  simp only [List.any_cons, List.any_nil, Bool.or_false, HFY.out, Bool.true_and, HUU.out]
                  by_cases e1 : x = u
                  · simp [e1]
                  · simp [e1]; omega⟩
                have HL9 : Aside0 (∀ x : Nat, x < 64 → ((L.take (j + 1 - i)).any fun p => freeP l p && p.f1 == (x : Int)) = (((L.take (j - i)).any fun p => freeP l p && p.f1 == (x : Int)) || decide (x = v))) := ⟨fun x _ => by
                  rw [HTK.out, List.any_append]
                  congr 1
                  simp only [List.any_cons, List.any_nil, Bool.or_false, HFY.out, Bool.true_and, HVV.out]
                  by_cases e1 : x = v
                  · simp [e1]
                  · simp [e1]; omega⟩
                clear hlu
                cases hq8 : BL.getD u false with
                | true =>
                  rw [hq8] at hlc
                  have HF8n : Aside0 (Flags BL fun x => (L.take (j + 1 - i)).any fun p => freeP l p && p.f0 == (x : Int)) := ⟨fun x hx => by
                    refine Eq.trans ?_ (HL8.out x hx).symm
                    have h0 : BL.getD x false = ((L.take (j - i)).any fun p => freeP l p && p.f0 == (x : Int)) := HF8.out x hx
                    rw [← h0]
                    by_cases e : x = u
                    · rw [e, hq8]; rfl
                    · simp [e]⟩
                  clear hq8 HF8 hlf
                  have hhu := H9d.out.cell hv64
                  have hhc := hhu.1
                  have hhf := hhu.2
                  clear hhu
                  go_upto_region 16 with fail
                  clear hlc hbud hbvd
                  cases hq9 : BH.getD v false with
                  | true =>
                    rw [hq9] at hhc
                    have HF9n : Aside0 (Flags BH fun x => (L.take (j + 1 - i)).any fun p => freeP l p && p.f1 == (x : Int)) := ⟨fun x hx => by
                      refine Eq.trans ?_ (HL9.out x hx).symm
                      have h0 : BH.getD x false = ((L.take (j - i)).any fun p => freeP l p && p.f1 == (x : Int)) := HF9.out x hx
                      rw [← h0]
                      by_cases e : x = v
                      · rw [e, hq9]; rfl
                      · simp [e]⟩
                    clear hq9 HF9 hhf
                    go_wp2
                    exact ⟨⟨j + 1, lo, hi', BL, BH, by omega, by omega, by go_num, rfl, rfl, hlo, hhi, HLO, HHI, HBd, H7d, H8d, H9d, HF8n, HF9n⟩, by simp [intOf]; omega⟩
                  | false =>
                    rw [hq9] at hhc
                    have HF9n := Aside0.mk (HF9.out.set H9d.out.2 HL9.out)
                    have HHIn : Aside0 (hi' + 1 = (BH.set v true).count true) := ⟨by rw [HHI.out, count_new (by rw [H9d.out.2]; exact hv64) hq9]⟩
                    have hhi1 : hi' + 1 ≤ 64 := by rw [HHIn.out]; exact count_le64 (by rw [List.length_set]; exact H9d.out.2)
                    have hwh : IntKind.i64.wrap ((hi' : Int) + 1) = ((hi' + 1 : Nat) : Int) := by rw [IntKind.wrap_i64]; omega
                    clear hq9 HF9
                    go_wp2
                    exact ⟨⟨j + 1, lo, hi' + 1, BL, BH.set v true, by omega, by omega, by go_num, rfl, by go_num, hlo, hhi1, HLO, HHIn, ⟨HBd.out.setCell (p := ⟨b9, v, none⟩) HG9.out _⟩, ⟨H7d.out.far N79.out v _⟩, ⟨H8d.out.far N89.out v _⟩, ⟨H9d.out.set v⟩, HF8n, HF9n⟩, by simp [intOf]; omega⟩
                | false =>
                  rw [hq8] at hlc
                  have HF8n := Aside0.mk (HF8.out.set H8d.out.2 HL8.out)
                  have HLOn : Aside0 (lo + 1 = (BL.set u true).count true) := ⟨by rw [HLO.out, count_new (by rw [H8d.out.2]; exact hu64) hq8]⟩
                  have hlo1 : lo + 1 ≤ 64 := by rw [HLOn.out]; exact count_le64 (by rw [List.length_set]; exact H8d.out.2)
                  have hwl : IntKind.i64.wrap ((lo : Int) + 1) = ((lo + 1 : Nat) : Int) := by rw [IntKind.wrap_i64]; omega
                  clear hq8 HF8
                  go_upto_region 16 with fail
                  have HBe := Aside0.mk (HBd.out.setCell (p := ⟨b8, u, none⟩) HG8.out (.bool true))
                  have H7e := Aside0.mk (H7d.out.far N78.out u (.bool true))
                  have H8e := Aside0.mk (H8d.out.set u)
                  have H9e := Aside0.mk (H9d.out.far (Ne.symm N89.out) u (.bool true))
                  clear HBd H7d H8d H9d hlc hlf hbud hbvd HLO hlo hwl
                  generalize W6.setCell ⟨b8, u, none⟩ (.bool true) = W7 at HBe H7e H8e H9e ⊢
                  have HBd := HBe
                  have H7d := H7e
                  have H8d := H8e
                  have H9d := H9e
                  have HLO := HLOn
                  clear HBe H7e H8e H9e HLOn
                  have hlo := hlo1
                  clear hlo1
                  have hhu := H9d.out.cell hv64
                  have hhc := hhu.1
                  have hhf := hhu.2
                  clear hhu
                  cases hq9 : BH.getD v false with
                  | true =>
                    rw [hq9] at hhc
                    have HF9n : Aside0 (Flags BH fun x => (L.take (j + 1 - i)).any fun p => freeP l p && p.f1 == (x : Int)) := ⟨fun x hx => by
                      refine Eq.trans ?_ (HL9.out x hx).symm
                      have h0 : BH.getD x false = ((L.take (j - i)).any fun p => freeP l p && p.f1 == (x : Int)) := HF9.out x hx
                      rw [← h0]
                      by_cases e : x = v
                      · rw [e, hq9]; rfl
                      · simp [e]⟩
                    clear hq9 HF9 hhf
                    go_wp2
                    exact ⟨⟨j + 1, lo + 1, hi', BL.set u true, BH, by omega, by omega, by go_num, by go_num, rfl, hlo, hhi, HLO, HHI, HBd, H7d, H8d, H9d, HF8n, HF9n⟩, by simp [intOf]; omega⟩
                  | false =>
                    rw [hq9] at hhc
                    have HF9n := Aside0.mk (HF9.out.set H9d.out.2 HL9.out)
                    have HHIn : Aside0 (hi' + 1 = (BH.set v true).count true) := ⟨by rw [HHI.out, count_new (by rw [H9d.out.2]; exact hv64) hq9]⟩
                    have hhi1 : hi' + 1 ≤ 64 := by rw [HHIn.out]; exact count_le64 (by rw [List.length_set]; exact H9d.out.2)
                    have hwh : IntKind.i64.wrap ((hi' : Int) + 1) = ((hi' + 1 : Nat) : Int) := by rw [IntKind.wrap_i64]; omega
                    clear hq9 HF9
                    go_wp2
                    exact ⟨⟨j + 1, lo + 1, hi' + 1, BL.set u true, BH.set v true, by omega, by omega, by go_num, by go_num, by go_num, hlo, hhi1, HLO, HHIn, ⟨HBd.out.setCell (p := ⟨b9, v, none⟩) HG9.out _⟩, ⟨H7d.out.far N79.out v _⟩, ⟨H8d.out.far N89.out v _⟩, ⟨H9d.out.set v⟩, HF8n, HF9n⟩, by simp [intOf]; omega⟩
          · obtain rfl : j = all.length := by omega
            have hltz : ¬ (all.length : Int) < (all.length : Int) := by omega
            have hc5 := HS'.out.c5
            have hlen : L.take (all.length - i) = L := List.take_of_length_le (by have := HLE.out; omega)
            have HC0 : Aside0 ((cntF (·.f0) l L : Nat) = lo) := ⟨by have h1 := HF8.out.count H8.out.2; rw [HLO.out, h1, hlen]; rfl⟩
            have HC1 : Aside0 ((cntF (·.f1) l L : Nat) = hi') := ⟨by have h1 := HF9.out.count H9.out.2; rw [HHI.out, h1, hlen]; rfl⟩
            clear hlen
            go_wp2
            all_goals
              go_ret
              refine ⟨?_, HB.out⟩
              unfold mayB
              rw [HLL.out, HC0.out, HC1.out]
              exact congrArg (fun b => Ending.returned (Value.bool b)) (decide_eq_decide.2 (by omega))
def GbPost (W w0 : World) (y : Nat) (n : Int) (A : Option Addr) (c : Nat) (xs : List Int) (va : Value) (all : List Pr) (top : Int) (vf : Value) (vs : List Value) (found : List (List Int)) (S : BS) (e : Ending) (w' : World) : Prop :=
  e = .returned (.tuple #[]) ∧ (∃ (vb : Value) (ct : Int), SS w' w0 y n A c xs.length va all vb S.best ct S.most top false vf vs found) ∧ KeepT W w'
def GbOk (w0 : World) (y : Nat) (n : Int) (A : Option Addr) (c : Nat) (xs : List Int) (va : Value) (all : List Pr) (top : Int) (vf : Value) (vs : List Value) (found : List (List Int)) (d : Nat) : Prop :=
  ∀ (l : List Pr) (s : BS) (ct : Int) (v : Value) (i : Nat) (W : World) (vb : Value), SS W w0 y n A c xs.length va all vb s.best ct s.most top false vf vs found → PO W w0.heap.size v l → pairingB xs l = true → i ≤ all.length → all.length - i = d →
    Calls Try.prog 126 #[.pointer (some ⟨y, 0, none⟩), v, .int .i64 i] W (GbPost W w0 y n A c xs va all top vf vs found (searchB xs top (all.drop i) l (updB s l)))
section
variable {xs : List Int} {top : Int} {all l : List Pr} {j : Nat} {s : BS} {p : Pr}
theorem lb_end (hj : all.length ≤ j) : searchB xs top (all.drop j) l s = s := by rw [List.drop_eq_nil_of_le hj]; rfl
theorem lb_stop (hj : j < all.length) (h : top ≤ s.most ∨ mayB l (all.drop j) s.most = false) : searchB xs top (all.drop j) l s = s := by
  have hd := List.drop_eq_getElem_cons hj
  rw [hd] at h ⊢
  rw [searchB, if_pos h]
theorem lb_go (hj : j < all.length) (hp : all[j] = p) (h : ¬ (top ≤ s.most ∨ mayB l (all.drop j) s.most = false)) : searchB xs top (all.drop j) l s = searchB xs top (all.drop (j + 1)) l (if okP xs l p = true then searchB xs top (all.drop (j + 1)) (withP l p) (updB s (withP l p)) else s) := by
  have hd := List.drop_eq_getElem_cons hj
  rw [hd] at h ⊢
  rw [searchB, if_neg h, hp]
end
set_option maxRecDepth 100000 in
set_option maxHeartbeats 8000000 in
theorem gb_step (w0 : World) (y : Nat) (n : Int) (A : Option Addr) (c : Nat) (xs : List Int) (va : Value) (all : List Pr) (top : Int) (vf : Value) (vs : List Value) (found : List (List Int)) (hr : RC w0 A xs.length xs) (hc : xs.length ≤ c) (hi : isC n xs = true) (hal : all.length ≤ 1048576) (hra : ∀ p ∈ all, (0 ≤ p.f0 ∧ p.f0 ≤ 63) ∧ 0 ≤ p.f1 ∧ p.f1 ≤ 63) (d : Nat)
    (ih : ∀ d' < d, GbOk w0 y n A c xs va all top vf vs found d') : GbOk w0 y n A c xs va all top vf vs found d := by
  intro l s ct v i W vb hss hl hpl hil hd
  obtain ⟨R, hR⟩ : ∃ R, searchB xs top (all.drop i) l (updB s l) = R := ⟨_, rfl⟩
  have HR0 := Aside0.mk hR.symm
  rw [hR]
  have hll := pairing_len hi hpl
  have hrl : ∀ p ∈ l, (0 ≤ p.f0 ∧ p.f0 ≤ 63) ∧ 0 ≤ p.f1 ∧ p.f1 ≤ 63 := fun p hp => by
    have := facesP_of hi hpl p hp
    omega
  have HRA := Aside0.mk hra
  have HRL := Aside0.mk hrl
  obtain ⟨mo, be⟩ := s
  obtain ⟨c1, hc1⟩ : ∃ c1, wrap64 (ct + 1) = c1 := ⟨_, rfl⟩
  have hw1 : IntKind.i64.wrap (ct + 1) = c1 := by rw [IntKind.wrap_i64]; unfold wrap64 at hc1; omega
  have HC1 := Aside0.mk hc1
  have HS := Aside0.mk hss
  have HL := Aside0.mk hl
  have HPL := Aside0.mk hpl
  have HIH := Aside0.mk ih
  have HR := Aside0.mk hr
  have HC := Aside0.mk hc
  have HI := Aside0.mk hi
  have HD := Aside0.mk hd
  obtain ⟨Al, cl, rfl⟩ := Kd.R_slice hl
  obtain ⟨Aa, ca, rfl⟩ := Kd.R_slice hss.ra
  have hc4 := hss.c4
  have hf4 := hss.fz 4
  clear hss hl hpl hra hrl ih hr hc hi hd hR
  go_enter Try.func126, Try.ntmps126
  go_upto_region 1 with fail
  have HS1 := Aside0.mk (HS.out.setCount c1)
  have HK1 := Aside0.mk (HS.out.keep 4 (.int .i64 c1))
  have HL1 := Aside0.mk (PO.keep HL.out HK1.out)
  clear HS HL hc4 hf4 hw1
  simp only [] at HS1
  generalize W.setCell ⟨y, 4, none⟩ (.int .i64 c1) = W1 at HS1 HK1 HL1 ⊢
  have hc5 := HS1.out.c5
  by_cases hgt : mo < (l.length : Int)
  · have HU : Aside0 (updB ⟨mo, be⟩ l = ⟨(l.length : Int), l⟩) := ⟨by unfold updB; simp only [if_pos hgt]⟩
    have hf5 := HS1.out.fz 5
    go_upto_region 3 with fail
    have HS2 := Aside0.mk (HS1.out.setMost (l.length : Int))
    have HK2 := Aside0.mk (HK1.out.trans (HS1.out.keep 5 (.int .i64 (l.length : Int))))
    have HL2 := Aside0.mk (PO.keep HL1.out (HS1.out.keep 5 (.int .i64 (l.length : Int))))
    clear HS1 HL1 HK1 hc5 hf5 hc1
    generalize W1.setCell ⟨y, 5, none⟩ (.int .i64 (l.length : Int)) = W2 at HS2 HK2 HL2 ⊢
    have HO3 := Aside0.mk (PO.made W2 W2.heap.size 0 #[] (Nat.le_refl _) (Nat.zero_le _) rfl)
    have HB3 : Aside0 (Below W2.heap.size W2 (W2.alloc (.cells #[] 73))) := ⟨below_alloc (Below.refl _ _) _⟩
    have HRL : Aside0 (Kd.C k73 (W2.alloc (.cells #[] 73)) Al l.length l) := ⟨(Kd.R_reads' (Kd.R_alloc HL2.out _)).2.2⟩
    go_upto_region 4 with (at_builtin; refine apPs W2.heap.size rfl (.tmp 29) (.tmp 30) rfl _ [] l Al l.length cl rfl rfl HO3.out HRL.out HB3.out HB3.out.size (by simp <;> omega) ?_; intro v4 w4 ho hb hg hat; clear hat hg; rw [List.nil_append] at ho; have HV4 := Aside0.mk (Kd.R_lower ho HS2.out.hb.size); have HS3 := Aside0.mk (HS2.out.below hb); have HL3 := Aside0.mk (Kd.R_below HL2.out hb); have HK3 := Aside0.mk (HK2.out.trans (KeepT.below hb)); obtain ⟨A4, c4, rfl⟩ := Kd.R_slice HV4.out; have hc3 := HS3.out.c3; have hf3 := HS3.out.fz 3; clear ho hb HS2 HL2 HK2 HO3 HB3 HRL)
    have HS4 := Aside0.mk (HS3.out.setBest HV4.out)
    have HK4 := Aside0.mk (HK3.out.trans (HS3.out.keep 3 (.slice A4 l.length c4)))
    have HL4 := Aside0.mk (PO.keep HL3.out (HS3.out.keep 3 (.slice A4 l.length c4)))
    clear HS3 HL3 HK3 hc3 hf3 HV4
    generalize w4.setCell ⟨y, 3, none⟩ (.slice A4 l.length c4) = W4 at HS4 HK4 HL4 ⊢
    have hc7 := HS4.out.c7
    have HUU : Aside0 (R = searchB xs top (all.drop i) l ⟨(l.length : Int), l⟩) := ⟨HR0.out.trans (by rw [HU.out])⟩
    clear HR0 HU
    go_upto_region 6 with fail
    clear hc7
    go_wp2
    go_loopw [6] (fun s6 wr => ∃ (j : Nat) (s : BS) (ct : Int) (vb : Value), j ≤ all.length ∧ i ≤ j ∧ s6 = .int .i64 j ∧ Aside0 (R = searchB xs top (all.drop j) l s) ∧ Aside0 (SS wr w0 y n A c xs.length (.slice Aa all.length ca) all vb s.best ct s.most top false vf vs found) ∧ Aside0 (PO wr w0.heap.size (.slice Al l.length cl) l) ∧ Aside0 (KeepT W wr)) (fun s6 _ => all.length - (intOf s6).toNat)
    case atStart => exact ⟨i, _, _, _, hil, Nat.le_refl _, rfl, HUU, HS4, HL4, HK4⟩
    case round =>
      clear HUU HS4 HL4 HK4
      obtain ⟨j, s, ct, vb, hj, hij, rfl, HR0, HS, HL, HK⟩ := hrel
      have hc2 := HS.out.c2
      by_cases hlt : j < all.length
      · have hltz : (j : Int) < (all.length : Int) := by omega
        have hc7 := HS.out.c7
        have hc5 := HS.out.c5
        have hc6 := HS.out.c6
        obtain ⟨mo, be⟩ := s
        by_cases htop : top ≤ mo
        · have HRN := Aside0.mk (HR0.out.trans (lb_stop hlt (.inl htop)))
          clear HR0
          go_upto_region 9 with fail
          refine st_ 23 (S := fun w' => w'.cell? ⟨y, 7, none⟩ = some (.bool false) ∧ w'.cell? ⟨y, 5, none⟩ = some (.int .i64 mo) ∧ w'.cell? ⟨y, 6, none⟩ = some (.int .i64 top)) (ds := []) ⟨hc7, hc5, hc6⟩ (fun hHeld => ?_)
          refine with_tabW (T := (true, [([], []), ([0], [0]), ([1], [1]), ([2], [2]), ([3], [3]), ([4], [4]), ([5], [5]), ([6, 5], [5, 6]), ([7, 5], [5, 7]), ([8, 5], [5, 8]), ([5], [5]), ([10, 5], [5, 10]), ([11, 5], [5, 11]), ([12, 5], [5, 12]), ([9, 13, 5], [5, 9, 13]), ([14, 5, 5], [5, 14]), ([15], [15]), ([15], [15]), ([15], [15]), ([16, 17, 18, 15, 15], [15, 16, 17, 18]), ([19, 15], [15, 19]), ([15, 20, 5], [5, 15, 20]), ([5, 21], [5, 21])])) (B := [0, 1, 3, 7, 15, 31, 63, 127, 255, 511, 63, 1087, 3135, 7231, 16383, 32767, 65535, 65535, 65535, 524287, 1048575, 2097151, 4194303]) (by kernel_rfl) (by kernel_rfl) (fun HT_ HW_ => ?_)
          refine pd_ 0 62 1 HT_ ?_
          refine pd_ 1 63 3 HT_ ?_
          refine pd_ 2 64 7 HT_ ?_
          refine tk_ 3 65 15 HT_ HW_ hHeld ?_
          refine pd_ 4 66 31 HT_ ?_
          refine pd_ 5 67 63 HT_ ?_
          refine pd_ 6 68 127 HT_ ?_
          refine pd_ 7 69 255 HT_ ?_
          refine pd_ 8 70 511 HT_ ?_
          refine pd_ 10 72 1535 HT_ ?_
          refine pd_ 11 73 3583 HT_ ?_
          refine pd_ 12 74 7679 HT_ ?_
          refine tk_ 9 71 8191 HT_ HW_ hHeld ?_
          refine tk_ 13 75 16383 HT_ HW_ hHeld ?_
          refine pd_ 14 76 32767 HT_ ?_
          refine pd_ 15 77 65535 HT_ ?_
          refine pn_ 16 78 131071 HT_ ?_
          refine pn_ 17 79 262143 HT_ ?_
          refine pn_ 18 80 524287 HT_ ?_
          refine pn_ 19 81 1048575 HT_ ?_
          refine pn_ 20 82 2097151 HT_ ?_
          refine pd_ 21 83 4194303 HT_ ?_
          refine pd_ 22 84 8388607 HT_ ?_
          refine dn_ HT_ ?_
          clear hc7 hc2 hc5 hc6
          go_wp2
          refine bodyPost_ret (results_none rfl _ _ _) rfl ⟨rfl, ?_, HK.out.trans (KeepT.below (below_drew (Below.refl _ _)))⟩
          rw [HRN.out]
          exact ⟨_, _, HS.out.drew⟩
        · have htop2 : mo < top := by omega
          have HMY := Aside0.mk (may_c wr.drew w0 y n A c xs.length Aa ca all vb be ct mo top vf vs found Al cl l j HS.out.drew (Kd.R_drew HL.out) hj hal (by omega) HRA.out HRL.out)
          cases hmy : mayB l (all.drop j) mo with
          | false =>
            rw [hmy] at HMY
            have HRN := Aside0.mk (HR0.out.trans (lb_stop hlt (.inr hmy)))
            clear HR0 hmy
            go_upto_region 9 with fail
            refine st_ 23 (S := fun w' => w'.cell? ⟨y, 7, none⟩ = some (.bool false) ∧ w'.cell? ⟨y, 5, none⟩ = some (.int .i64 mo) ∧ w'.cell? ⟨y, 6, none⟩ = some (.int .i64 top)) (ds := [19]) ⟨hc7, hc5, hc6⟩ (fun hHeld => ?_)
            refine with_tabW (T := (true, [([], []), ([0], [0]), ([1], [1]), ([2], [2]), ([3], [3]), ([4], [4]), ([5], [5]), ([6, 5], [5, 6]), ([7, 5], [5, 7]), ([8, 5], [5, 8]), ([5], [5]), ([10, 5], [5, 10]), ([11, 5], [5, 11]), ([12, 5], [5, 12]), ([9, 13, 5], [5, 9, 13]), ([14, 5, 5], [5, 14]), ([15], [15]), ([15], [15]), ([15], [15]), ([16, 17, 18, 15, 15], [15, 16, 17, 18]), ([19, 15], [15, 19]), ([15, 20, 5], [5, 15, 20]), ([5, 21], [5, 21])])) (B := [0, 1, 3, 7, 15, 31, 63, 127, 255, 511, 63, 1087, 3135, 7231, 16383, 32767, 65535, 65535, 65535, 524287, 1048575, 2097151, 4194303]) (by kernel_rfl) (by kernel_rfl) (fun HT_ HW_ => ?_)
            refine pd_ 0 62 1 HT_ ?_
            refine pd_ 1 63 3 HT_ ?_
            refine pd_ 2 64 7 HT_ ?_
            refine tk_ 3 65 15 HT_ HW_ hHeld ?_
            refine pd_ 4 66 31 HT_ ?_
            refine pd_ 5 67 63 HT_ ?_
            refine pd_ 6 68 127 HT_ ?_
            refine pd_ 7 69 255 HT_ ?_
            refine pd_ 8 70 511 HT_ ?_
            refine pd_ 10 72 1535 HT_ ?_
            refine pd_ 11 73 3583 HT_ ?_
            refine pd_ 12 74 7679 HT_ ?_
            refine tk_ 9 71 8191 HT_ HW_ hHeld ?_
            refine tk_ 13 75 16383 HT_ HW_ hHeld ?_
            refine pd_ 14 76 32767 HT_ ?_
            refine pd_ 15 77 65535 HT_ ?_
            refine pd_ 16 78 131071 HT_ ?_
            refine pd_ 17 79 262143 HT_ ?_
            refine pd_ 18 80 524287 HT_ ?_
            refine la_ 19 (some 81) 1048575 HT_ (fun K hK => ?_)
            refine ca_ Try.func172 #[.pointer (some ⟨y, 0, none⟩), .slice Al l.length cl, .int .i64 j] ?_
            refine HMY.out.mono ?_; rintro e w9 ⟨rfl, hb⟩; have hb0 : Below wr.heap.size wr w9 := (below_drew (Below.refl _ _)).trans hb; have HS9 := Aside0.mk (HS.out.below hb0); have HK9 := Aside0.mk (HK.out.trans (KeepT.below hb0)); clear hb hb0 HS HL HK HMY hc7 hc5 hc6 hc2
            refine ⟨_, rfl, ?_⟩
            refine hK.out _ _ ?_
            clear hK K
            refine nm_ ?_
            refine pd_ 20 82 2097151 HT_ ?_
            refine pd_ 21 83 4194303 HT_ ?_
            refine pd_ 22 84 8388607 HT_ ?_
            refine dn_ HT_ ?_
            go_wp2
            refine bodyPost_ret (results_none rfl _ _ _) rfl ⟨rfl, ?_, HK9.out⟩
            rw [HRN.out]
            exact ⟨_, _, HS9.out⟩
          | true =>
            rw [hmy] at HMY
            obtain ⟨p, hp⟩ : ∃ p, all[j] = p := ⟨_, rfl⟩
            have HRG := Aside0.mk (HR0.out.trans (lb_go hlt hp (by rw [hmy]; exact fun h => h.elim htop (fun h => by cases h))))
            have HPJ := Aside0.mk hp
            clear HR0 hmy hp
            go_upto_region 9 with fail
            refine st_ 23 (S := fun w' => w'.cell? ⟨y, 7, none⟩ = some (.bool false) ∧ w'.cell? ⟨y, 5, none⟩ = some (.int .i64 mo) ∧ w'.cell? ⟨y, 6, none⟩ = some (.int .i64 top)) (ds := [19]) ⟨hc7, hc5, hc6⟩ (fun hHeld => ?_)
            refine with_tabW (T := (true, [([], []), ([0], [0]), ([1], [1]), ([2], [2]), ([3], [3]), ([4], [4]), ([5], [5]), ([6, 5], [5, 6]), ([7, 5], [5, 7]), ([8, 5], [5, 8]), ([5], [5]), ([10, 5], [5, 10]), ([11, 5], [5, 11]), ([12, 5], [5, 12]), ([9, 13, 5], [5, 9, 13]), ([14, 5, 5], [5, 14]), ([15], [15]), ([15], [15]), ([15], [15]), ([16, 17, 18, 15, 15], [15, 16, 17, 18]), ([19, 15], [15, 19]), ([15, 20, 5], [5, 15, 20]), ([5, 21], [5, 21])])) (B := [0, 1, 3, 7, 15, 31, 63, 127, 255, 511, 63, 1087, 3135, 7231, 16383, 32767, 65535, 65535, 65535, 524287, 1048575, 2097151, 4194303]) (by kernel_rfl) (by kernel_rfl) (fun HT_ HW_ => ?_)
            refine pd_ 0 62 1 HT_ ?_
            refine pd_ 1 63 3 HT_ ?_
            refine pd_ 2 64 7 HT_ ?_
            refine tk_ 3 65 15 HT_ HW_ hHeld ?_
            refine pd_ 4 66 31 HT_ ?_
            refine pd_ 5 67 63 HT_ ?_
            refine pd_ 6 68 127 HT_ ?_
            refine pd_ 7 69 255 HT_ ?_
            refine pd_ 8 70 511 HT_ ?_
            refine pd_ 10 72 1535 HT_ ?_
            refine pd_ 11 73 3583 HT_ ?_
            refine pd_ 12 74 7679 HT_ ?_
            refine tk_ 9 71 8191 HT_ HW_ hHeld ?_
            refine tk_ 13 75 16383 HT_ HW_ hHeld ?_
            refine pd_ 14 76 32767 HT_ ?_
            refine pd_ 15 77 65535 HT_ ?_
            refine pd_ 16 78 131071 HT_ ?_
            refine pd_ 17 79 262143 HT_ ?_
            refine pd_ 18 80 524287 HT_ ?_
            refine la_ 19 (some 81) 1048575 HT_ (fun K hK => ?_)
            refine ca_ Try.func172 #[.pointer (some ⟨y, 0, none⟩), .slice Al l.length cl, .int .i64 j] ?_
            refine HMY.out.mono ?_; rintro e W9 ⟨rfl, hb⟩; have hb0 : Below wr.heap.size wr W9 := (below_drew (Below.refl _ _)).trans hb; have HS9 := Aside0.mk (HS.out.below hb0); have HL9 := Aside0.mk (Kd.R_below HL.out hb0); have HK9 := Aside0.mk (HK.out.trans (KeepT.below hb0)); clear hb hb0 HS HL HK HMY hc7 hc5 hc6 hc2
            refine ⟨_, rfl, ?_⟩
            refine hK.out _ _ ?_
            clear hK K
            refine nm_ ?_
            refine pd_ 20 82 2097151 HT_ ?_
            refine pd_ 21 83 4194303 HT_ ?_
            refine pd_ 22 84 8388607 HT_ ?_
            refine dn_ HT_ ?_
            go_upto_region 10 with fail
            obtain ⟨ad, rfl, hp0, hp1⟩ := at_T73 (Kd.R_reads' HS9.out.ra).2.2 (j : Int) (by omega) (by omega)
            rw [show rd_T73 all (j : Int) = p by rw [rdP_at hlt, HPJ.out], show ((j : Int)).toNat = j by omega] at hp0 hp1
            have hk0 := HS9.out.c0
            have hk1 := HS9.out.c1
            have hc2 := HS9.out.c2
            obtain ⟨j1, hj1⟩ : ∃ j1 : Nat, j1 = j + 1 := ⟨_, rfl⟩
            have hw1 : IntKind.i64.wrap ((j : Int) + 1) = (j1 : Int) := by rw [IntKind.wrap_i64]; omega
            have HJ1 := Aside0.mk hj1
            rw [← hj1] at HRG
            obtain ⟨kw, hkw⟩ := (ev_with HI.out (sorted_of HPL.out) (by omega) p).rounds
            have HKW := Aside0.mk hkw
            obtain ⟨q, hq⟩ : ∃ q, withP l p = q := ⟨_, rfl⟩
            rw [hq] at HKW HRG
            have HQ := Aside0.mk hq
            clear hkw hj1 hq
            cases hpb : pairingB xs q with
            | false =>
              have HOK : Aside0 (okP xs l p = false) := ⟨by unfold okP; rw [HQ.out, hpb]; rfl⟩
              rw [hpb] at HKW
              clear hpb
              have HRN : Aside0 (R = searchB xs top (all.drop j1) l ⟨mo, be⟩) := ⟨HRG.out.trans (by rw [if_neg (by rw [HOK.out]; exact Bool.false_ne_true)])⟩
              clear HRG HOK
              refine st_ 18 (S := fun w' => w'.cell? ⟨y, 0, none⟩ = some (.int .i64 n) ∧ w'.cell? ⟨y, 1, none⟩ = some (.slice A xs.length c) ∧ w'.cell? ⟨y, 2, none⟩ = some (.slice (some ad) all.length ca) ∧ w'.cell? (ad.add (j * 2)) = some (.int .i64 p.f0) ∧ w'.cell? ⟨(ad.add (j * 2)).block, (ad.add (j * 2)).off + 1, none⟩ = some (.int .i64 p.f1)) (ds := [12]) ⟨hk0, hk1, hc2, hp0, hp1⟩ (fun hHeld => ?_)
              refine with_tabW (T := (true, [([], []), ([0], [0]), ([1], [1]), ([2], [2]), ([], []), ([], []), ([5], [5]), ([6], [6]), ([7], [7]), ([], []), ([8, 9], [8, 9]), ([10], [10]), ([3, 4, 11], [3, 4, 11]), ([12], [12]), ([13], [13]), ([13], [13]), ([14, 12, 0, 1, 2, 3, 4, 5, 6, 7, 8, 9, 10, 11, 12, 13, 14], [14]), ([15, 16, 0, 1, 2, 3, 4, 5, 6, 7, 8, 9, 10, 11, 12, 13, 14, 15, 16], [15])])) (B := [0, 1, 3, 7, 0, 0, 32, 96, 224, 0, 992, 2016, 4095, 8191, 16383, 16383, 32767, 131071]) (by kernel_rfl) (by kernel_rfl) (fun HT_ HW_ => ?_)
              refine pd_ 0 86 1 HT_ ?_
              refine pd_ 1 87 3 HT_ ?_
              refine pd_ 2 88 7 HT_ ?_
              refine pd_ 4 90 23 HT_ ?_
              refine pd_ 5 91 55 HT_ ?_
              refine pd_ 6 92 119 HT_ ?_
              refine pd_ 7 93 247 HT_ ?_
              refine pd_ 9 95 759 HT_ ?_
              refine tk_ 3 89 767 HT_ HW_ hHeld ?_
              refine tk_ 8 94 1023 HT_ HW_ hHeld ?_
              refine pd_ 10 96 2047 HT_ ?_
              refine tk_ 11 97 4095 HT_ HW_ hHeld ?_
              refine la_ 12 (some 98) 8191 HT_ (fun K hK => ?_)
              refine ca_ Try.func111 #[.agg #[.int .i64 n, .slice A xs.length c], .slice Al l.length cl, .agg #[.int .i64 p.f0, .int .i64 p.f1]] ?_
              refine (QS.spec_l02With.calls kw n A c xs Al cl l p.f0 p.f1 q false _ (Kd.C_below HR.out HS9.out.drew.hb) HC.out (Kd.R_reads' (Kd.R_drew HL9.out)).2.2 (Kd.R_reads' HL9.out).2.1 HKW.out).mono ?_; rintro e w5 ⟨v5, rfl, hv, hb⟩; have hb0 : Below W9.heap.size W9 w5 := (below_drew (Below.refl _ _)).trans hb; have HV5 := Aside0.mk (Kd.R_lower hv HS9.out.drew.hb.size); have HS5 := Aside0.mk (HS9.out.below hb0); have HL5 := Aside0.mk (Kd.R_below HL9.out hb0); have HK5 := Aside0.mk (HK9.out.trans (KeepT.below hb0)); clear hv hb hb0 HS9 HL9 HK9 hp0 hp1 hk0 hk1 hc2
              refine ⟨_, rfl, ?_⟩
              refine hK.out _ _ ?_
              clear hK K
              refine nm_ ?_
              refine pd_ 13 85 16383 HT_ ?_
              refine pd_ 14 99 32767 HT_ ?_
              refine pd_ 15 100 65535 HT_ ?_
              refine pd_ 16 7 131071 HT_ ?_
              refine pd_ 17 8 262143 HT_ ?_
              refine dn_ HT_ ?_
              go_wp2
              have hj1 := HJ1.out
              exact ⟨⟨j1, _, _, _, by omega, by omega, by go_num, HRN, HS5, HL5, HK5⟩, by simp [intOf]; omega⟩
            | true =>
              rw [hpb] at HKW
              have hql := pairing_len HI.out hpb
              obtain ⟨ka, hka⟩ := (ev_acyclic (l := q) (by omega) (facesP_of HI.out hpb)).rounds
              have HPQ := Aside0.mk hpb
              have HKA := Aside0.mk hka
              clear hpb hka hql
              cases hab : acycB q with
              | false =>
                have HOK : Aside0 (okP xs l p = false) := ⟨by unfold okP; rw [HQ.out, HPQ.out, hab]; rfl⟩
                rw [hab] at HKA
                clear hab
                have HRN : Aside0 (R = searchB xs top (all.drop j1) l ⟨mo, be⟩) := ⟨HRG.out.trans (by rw [if_neg (by rw [HOK.out]; exact Bool.false_ne_true)])⟩
                clear HRG HOK
                refine st_ 18 (S := fun w' => w'.cell? ⟨y, 0, none⟩ = some (.int .i64 n) ∧ w'.cell? ⟨y, 1, none⟩ = some (.slice A xs.length c) ∧ w'.cell? ⟨y, 2, none⟩ = some (.slice (some ad) all.length ca) ∧ w'.cell? (ad.add (j * 2)) = some (.int .i64 p.f0) ∧ w'.cell? ⟨(ad.add (j * 2)).block, (ad.add (j * 2)).off + 1, none⟩ = some (.int .i64 p.f1)) (ds := [12]) ⟨hk0, hk1, hc2, hp0, hp1⟩ (fun hHeld => ?_)
                refine with_tabW (T := (true, [([], []), ([0], [0]), ([1], [1]), ([2], [2]), ([], []), ([], []), ([5], [5]), ([6], [6]), ([7], [7]), ([], []), ([8, 9], [8, 9]), ([10], [10]), ([3, 4, 11], [3, 4, 11]), ([12], [12]), ([13], [13]), ([13], [13]), ([14, 12, 0, 1, 2, 3, 4, 5, 6, 7, 8, 9, 10, 11, 12, 13, 14], [14]), ([15, 16, 0, 1, 2, 3, 4, 5, 6, 7, 8, 9, 10, 11, 12, 13, 14, 15, 16], [15])])) (B := [0, 1, 3, 7, 0, 0, 32, 96, 224, 0, 992, 2016, 4095, 8191, 16383, 16383, 32767, 131071]) (by kernel_rfl) (by kernel_rfl) (fun HT_ HW_ => ?_)
                refine pd_ 0 86 1 HT_ ?_
                refine pd_ 1 87 3 HT_ ?_
                refine pd_ 2 88 7 HT_ ?_
                refine pd_ 4 90 23 HT_ ?_
                refine pd_ 5 91 55 HT_ ?_
                refine pd_ 6 92 119 HT_ ?_
                refine pd_ 7 93 247 HT_ ?_
                refine pd_ 9 95 759 HT_ ?_
                refine tk_ 3 89 767 HT_ HW_ hHeld ?_
                refine tk_ 8 94 1023 HT_ HW_ hHeld ?_
                refine pd_ 10 96 2047 HT_ ?_
                refine tk_ 11 97 4095 HT_ HW_ hHeld ?_
                refine la_ 12 (some 98) 8191 HT_ (fun K hK => ?_)
                refine ca_ Try.func111 #[.agg #[.int .i64 n, .slice A xs.length c], .slice Al l.length cl, .agg #[.int .i64 p.f0, .int .i64 p.f1]] ?_
                refine (QS.spec_l02With.calls kw n A c xs Al cl l p.f0 p.f1 q true _ (Kd.C_below HR.out HS9.out.drew.hb) HC.out (Kd.R_reads' (Kd.R_drew HL9.out)).2.2 (Kd.R_reads' HL9.out).2.1 HKW.out).mono ?_; rintro e w5 ⟨v5, rfl, hv, hb⟩; have hb0 : Below W9.heap.size W9 w5 := (below_drew (Below.refl _ _)).trans hb; have HV5 := Aside0.mk (Kd.R_lower hv HS9.out.drew.hb.size); have HS5 := Aside0.mk (HS9.out.below hb0); have HL5 := Aside0.mk (Kd.R_below HL9.out hb0); have HK5 := Aside0.mk (HK9.out.trans (KeepT.below hb0)); clear hv hb hb0 HS9 HL9 HK9 hp0 hp1 hk0 hk1 hc2
                refine ⟨_, rfl, ?_⟩
                refine hK.out _ _ ?_
                clear hK K
                refine nm_ ?_
                refine pd_ 13 85 16383 HT_ ?_
                refine pd_ 14 99 32767 HT_ ?_
                refine pd_ 15 100 65535 HT_ ?_
                refine pd_ 16 7 131071 HT_ ?_
                refine pd_ 17 8 262143 HT_ ?_
                refine dn_ HT_ ?_
                obtain ⟨A5, c5, rfl⟩ := Kd.R_slice HV5.out
                go_wp2_with (go_at_call 97; refine (QS.spec_l02Acyclic.calls ka A5 c5 q false _ (Kd.R_reads' HV5.out).2.2 (Kd.R_reads' HV5.out).2.1 HKA.out).mono ?_; rintro e w6 ⟨rfl, hb⟩; have HS6 := Aside0.mk (HS5.out.below hb); have HL6 := Aside0.mk (Kd.R_below HL5.out hb); have HK6 := Aside0.mk (HK5.out.trans (KeepT.below hb)); clear hb HS5 HL5 HK5)
                have hj1 := HJ1.out
                exact ⟨⟨j1, _, _, _, by omega, by omega, by go_num, HRN, HS6, HL6, HK6⟩, by simp [intOf]; omega⟩
              | true =>
                have HOK : Aside0 (okP xs l p = true) := ⟨by unfold okP; rw [HQ.out, HPQ.out, hab]; rfl⟩
                rw [hab] at HKA
                clear hab
                have HRN : Aside0 (R = searchB xs top (all.drop j1) l (searchB xs top (all.drop j1) q (updB ⟨mo, be⟩ q))) := ⟨HRG.out.trans (by rw [if_pos HOK.out])⟩
                clear HRG HOK
                refine st_ 18 (S := fun w' => w'.cell? ⟨y, 0, none⟩ = some (.int .i64 n) ∧ w'.cell? ⟨y, 1, none⟩ = some (.slice A xs.length c) ∧ w'.cell? ⟨y, 2, none⟩ = some (.slice (some ad) all.length ca) ∧ w'.cell? (ad.add (j * 2)) = some (.int .i64 p.f0) ∧ w'.cell? ⟨(ad.add (j * 2)).block, (ad.add (j * 2)).off + 1, none⟩ = some (.int .i64 p.f1)) (ds := [12]) ⟨hk0, hk1, hc2, hp0, hp1⟩ (fun hHeld => ?_)
                refine with_tabW (T := (true, [([], []), ([0], [0]), ([1], [1]), ([2], [2]), ([], []), ([], []), ([5], [5]), ([6], [6]), ([7], [7]), ([], []), ([8, 9], [8, 9]), ([10], [10]), ([3, 4, 11], [3, 4, 11]), ([12], [12]), ([13], [13]), ([13], [13]), ([14, 12, 0, 1, 2, 3, 4, 5, 6, 7, 8, 9, 10, 11, 12, 13, 14], [14]), ([15, 16, 0, 1, 2, 3, 4, 5, 6, 7, 8, 9, 10, 11, 12, 13, 14, 15, 16], [15])])) (B := [0, 1, 3, 7, 0, 0, 32, 96, 224, 0, 992, 2016, 4095, 8191, 16383, 16383, 32767, 131071]) (by kernel_rfl) (by kernel_rfl) (fun HT_ HW_ => ?_)
                refine pd_ 0 86 1 HT_ ?_
                refine pd_ 1 87 3 HT_ ?_
                refine pd_ 2 88 7 HT_ ?_
                refine pd_ 4 90 23 HT_ ?_
                refine pd_ 5 91 55 HT_ ?_
                refine pd_ 6 92 119 HT_ ?_
                refine pd_ 7 93 247 HT_ ?_
                refine pd_ 9 95 759 HT_ ?_
                refine tk_ 3 89 767 HT_ HW_ hHeld ?_
                refine tk_ 8 94 1023 HT_ HW_ hHeld ?_
                refine pd_ 10 96 2047 HT_ ?_
                refine tk_ 11 97 4095 HT_ HW_ hHeld ?_
                refine la_ 12 (some 98) 8191 HT_ (fun K hK => ?_)
                refine ca_ Try.func111 #[.agg #[.int .i64 n, .slice A xs.length c], .slice Al l.length cl, .agg #[.int .i64 p.f0, .int .i64 p.f1]] ?_
                refine (QS.spec_l02With.calls kw n A c xs Al cl l p.f0 p.f1 q true _ (Kd.C_below HR.out HS9.out.drew.hb) HC.out (Kd.R_reads' (Kd.R_drew HL9.out)).2.2 (Kd.R_reads' HL9.out).2.1 HKW.out).mono ?_; rintro e w5 ⟨v5, rfl, hv, hb⟩; have hb0 : Below W9.heap.size W9 w5 := (below_drew (Below.refl _ _)).trans hb; have HV5 := Aside0.mk (Kd.R_lower hv HS9.out.drew.hb.size); have HS5 := Aside0.mk (HS9.out.below hb0); have HL5 := Aside0.mk (Kd.R_below HL9.out hb0); have HK5 := Aside0.mk (HK9.out.trans (KeepT.below hb0)); clear hv hb hb0 HS9 HL9 HK9 hp0 hp1 hk0 hk1 hc2
                refine ⟨_, rfl, ?_⟩
                refine hK.out _ _ ?_
                clear hK K
                refine nm_ ?_
                refine pd_ 13 85 16383 HT_ ?_
                refine pd_ 14 99 32767 HT_ ?_
                refine pd_ 15 100 65535 HT_ ?_
                refine pd_ 16 7 131071 HT_ ?_
                refine pd_ 17 8 262143 HT_ ?_
                refine dn_ HT_ ?_
                obtain ⟨A5, c5, rfl⟩ := Kd.R_slice HV5.out
                go_wp2_with (first
                  | (go_at_call 97; refine (QS.spec_l02Acyclic.calls ka A5 c5 q true _ (Kd.R_reads' HV5.out).2.2 (Kd.R_reads' HV5.out).2.1 HKA.out).mono ?_; rintro e w6 ⟨rfl, hb⟩; have HS6 := Aside0.mk (HS5.out.below hb); have HL6 := Aside0.mk (Kd.R_below HL5.out hb); have HK6 := Aside0.mk (HK5.out.trans (KeepT.below hb)); have HV6 := Aside0.mk (Kd.R_below HV5.out hb); clear hb HS5 HL5 HK5 HV5)
                  | (go_at_call 126; refine (HIH.out (all.length - j1) (by have := HD.out; have := HJ1.out; omega) q ⟨mo, be⟩ _ _ j1 _ _ HS6.out HV6.out HPQ.out (by have := HJ1.out; omega) rfl).mono ?_; rintro e w7 ⟨rfl, ⟨vb7, ct7, hs⟩, hk⟩; have HS8 := Aside0.mk hs; have HL8 := Aside0.mk (PO.keep HL6.out hk); have HK8 := Aside0.mk (HK6.out.trans hk); clear hs hk HS6 HL6 HK6 HV6))
                have hj1 := HJ1.out
                exact ⟨⟨j1, _, _, _, by omega, by omega, by go_num, HRN, HS8, HL8, HK8⟩, by simp [intOf]; omega⟩
      · obtain rfl : j = all.length := by omega
        have hltz : ¬ (all.length : Int) < (all.length : Int) := by omega
        have hR := HR0.out
        rw [lb_end (Nat.le_refl _)] at hR
        subst hR
        clear HR0
        go_wp2
        exact bodyPost_end (results_none rfl _ _ _) rfl ⟨rfl, ⟨_, _, HS.out⟩, HK.out⟩
  · have HU : Aside0 (updB ⟨mo, be⟩ l = ⟨mo, be⟩) := ⟨by unfold updB; simp only [if_neg hgt]⟩
    go_upto_region 4 with fail
    clear hc5 hc1
    have HS4 := HS1
    have HK4 := HK1
    have HL4 := HL1
    clear HS1 HK1 HL1
    generalize W1 = W4 at HS4 HK4 HL4 ⊢
    have hc7 := HS4.out.c7
    have HUU : Aside0 (R = searchB xs top (all.drop i) l ⟨mo, be⟩) := ⟨HR0.out.trans (by rw [HU.out])⟩
    clear HR0 HU
    go_upto_region 6 with fail
    clear hc7
    go_wp2
    go_loopw [6] (fun s6 wr => ∃ (j : Nat) (s : BS) (ct : Int) (vb : Value), j ≤ all.length ∧ i ≤ j ∧ s6 = .int .i64 j ∧ Aside0 (R = searchB xs top (all.drop j) l s) ∧ Aside0 (SS wr w0 y n A c xs.length (.slice Aa all.length ca) all vb s.best ct s.most top false vf vs found) ∧ Aside0 (PO wr w0.heap.size (.slice Al l.length cl) l) ∧ Aside0 (KeepT W wr)) (fun s6 _ => all.length - (intOf s6).toNat)
    case atStart => exact ⟨i, _, _, _, hil, Nat.le_refl _, rfl, HUU, HS4, HL4, HK4⟩
    case round =>
      clear HUU HS4 HL4 HK4
      obtain ⟨j, s, ct, vb, hj, hij, rfl, HR0, HS, HL, HK⟩ := hrel
      have hc2 := HS.out.c2
      by_cases hlt : j < all.length
      · have hltz : (j : Int) < (all.length : Int) := by omega
        have hc7 := HS.out.c7
        have hc5 := HS.out.c5
        have hc6 := HS.out.c6
        obtain ⟨mo, be⟩ := s
        by_cases htop : top ≤ mo
        · have HRN := Aside0.mk (HR0.out.trans (lb_stop hlt (.inl htop)))
          clear HR0
          go_upto_region 9 with fail
          refine st_ 23 (S := fun w' => w'.cell? ⟨y, 7, none⟩ = some (.bool false) ∧ w'.cell? ⟨y, 5, none⟩ = some (.int .i64 mo) ∧ w'.cell? ⟨y, 6, none⟩ = some (.int .i64 top)) (ds := []) ⟨hc7, hc5, hc6⟩ (fun hHeld => ?_)
          refine with_tabW (T := (true, [([], []), ([0], [0]), ([1], [1]), ([2], [2]), ([3], [3]), ([4], [4]), ([5], [5]), ([6, 5], [5, 6]), ([7, 5], [5, 7]), ([8, 5], [5, 8]), ([5], [5]), ([10, 5], [5, 10]), ([11, 5], [5, 11]), ([12, 5], [5, 12]), ([9, 13, 5], [5, 9, 13]), ([14, 5, 5], [5, 14]), ([15], [15]), ([15], [15]), ([15], [15]), ([16, 17, 18, 15, 15], [15, 16, 17, 18]), ([19, 15], [15, 19]), ([15, 20, 5], [5, 15, 20]), ([5, 21], [5, 21])])) (B := [0, 1, 3, 7, 15, 31, 63, 127, 255, 511, 63, 1087, 3135, 7231, 16383, 32767, 65535, 65535, 65535, 524287, 1048575, 2097151, 4194303]) (by kernel_rfl) (by kernel_rfl) (fun HT_ HW_ => ?_)
          refine pd_ 0 62 1 HT_ ?_
          refine pd_ 1 63 3 HT_ ?_
          refine pd_ 2 64 7 HT_ ?_
          refine tk_ 3 65 15 HT_ HW_ hHeld ?_
          refine pd_ 4 66 31 HT_ ?_
          refine pd_ 5 67 63 HT_ ?_
          refine pd_ 6 68 127 HT_ ?_
          refine pd_ 7 69 255 HT_ ?_
          refine pd_ 8 70 511 HT_ ?_
          refine pd_ 10 72 1535 HT_ ?_
          refine pd_ 11 73 3583 HT_ ?_
          refine pd_ 12 74 7679 HT_ ?_
          refine tk_ 9 71 8191 HT_ HW_ hHeld ?_
          refine tk_ 13 75 16383 HT_ HW_ hHeld ?_
          refine pd_ 14 76 32767 HT_ ?_
          refine pd_ 15 77 65535 HT_ ?_
          refine pn_ 16 78 131071 HT_ ?_
          refine pn_ 17 79 262143 HT_ ?_
          refine pn_ 18 80 524287 HT_ ?_
          refine pn_ 19 81 1048575 HT_ ?_
          refine pn_ 20 82 2097151 HT_ ?_
          refine pd_ 21 83 4194303 HT_ ?_
          refine pd_ 22 84 8388607 HT_ ?_
          refine dn_ HT_ ?_
          clear hc7 hc2 hc5 hc6
          go_wp2
          refine bodyPost_ret (results_none rfl _ _ _) rfl ⟨rfl, ?_, HK.out.trans (KeepT.below (below_drew (Below.refl _ _)))⟩
          rw [HRN.out]
          exact ⟨_, _, HS.out.drew⟩
        · have htop2 : mo < top := by omega
          have HMY := Aside0.mk (may_c wr.drew w0 y n A c xs.length Aa ca all vb be ct mo top vf vs found Al cl l j HS.out.drew (Kd.R_drew HL.out) hj hal (by omega) HRA.out HRL.out)
          cases hmy : mayB l (all.drop j) mo with
          | false =>
            rw [hmy] at HMY
            have HRN := Aside0.mk (HR0.out.trans (lb_stop hlt (.inr hmy)))
            clear HR0 hmy
            go_upto_region 9 with fail
            refine st_ 23 (S := fun w' => w'.cell? ⟨y, 7, none⟩ = some (.bool false) ∧ w'.cell? ⟨y, 5, none⟩ = some (.int .i64 mo) ∧ w'.cell? ⟨y, 6, none⟩ = some (.int .i64 top)) (ds := [19]) ⟨hc7, hc5, hc6⟩ (fun hHeld => ?_)
            refine with_tabW (T := (true, [([], []), ([0], [0]), ([1], [1]), ([2], [2]), ([3], [3]), ([4], [4]), ([5], [5]), ([6, 5], [5, 6]), ([7, 5], [5, 7]), ([8, 5], [5, 8]), ([5], [5]), ([10, 5], [5, 10]), ([11, 5], [5, 11]), ([12, 5], [5, 12]), ([9, 13, 5], [5, 9, 13]), ([14, 5, 5], [5, 14]), ([15], [15]), ([15], [15]), ([15], [15]), ([16, 17, 18, 15, 15], [15, 16, 17, 18]), ([19, 15], [15, 19]), ([15, 20, 5], [5, 15, 20]), ([5, 21], [5, 21])])) (B := [0, 1, 3, 7, 15, 31, 63, 127, 255, 511, 63, 1087, 3135, 7231, 16383, 32767, 65535, 65535, 65535, 524287, 1048575, 2097151, 4194303]) (by kernel_rfl) (by kernel_rfl) (fun HT_ HW_ => ?_)
            refine pd_ 0 62 1 HT_ ?_
            refine pd_ 1 63 3 HT_ ?_
            refine pd_ 2 64 7 HT_ ?_
            refine tk_ 3 65 15 HT_ HW_ hHeld ?_
            refine pd_ 4 66 31 HT_ ?_
            refine pd_ 5 67 63 HT_ ?_
            refine pd_ 6 68 127 HT_ ?_
            refine pd_ 7 69 255 HT_ ?_
            refine pd_ 8 70 511 HT_ ?_
            refine pd_ 10 72 1535 HT_ ?_
            refine pd_ 11 73 3583 HT_ ?_
            refine pd_ 12 74 7679 HT_ ?_
            refine tk_ 9 71 8191 HT_ HW_ hHeld ?_
            refine tk_ 13 75 16383 HT_ HW_ hHeld ?_
            refine pd_ 14 76 32767 HT_ ?_
            refine pd_ 15 77 65535 HT_ ?_
            refine pd_ 16 78 131071 HT_ ?_
            refine pd_ 17 79 262143 HT_ ?_
            refine pd_ 18 80 524287 HT_ ?_
            refine la_ 19 (some 81) 1048575 HT_ (fun K hK => ?_)
            refine ca_ Try.func172 #[.pointer (some ⟨y, 0, none⟩), .slice Al l.length cl, .int .i64 j] ?_
            refine HMY.out.mono ?_; rintro e w9 ⟨rfl, hb⟩; have hb0 : Below wr.heap.size wr w9 := (below_drew (Below.refl _ _)).trans hb; have HS9 := Aside0.mk (HS.out.below hb0); have HK9 := Aside0.mk (HK.out.trans (KeepT.below hb0)); clear hb hb0 HS HL HK HMY hc7 hc5 hc6 hc2
            refine ⟨_, rfl, ?_⟩
            refine hK.out _ _ ?_
            clear hK K
            refine nm_ ?_
            refine pd_ 20 82 2097151 HT_ ?_
            refine pd_ 21 83 4194303 HT_ ?_
            refine pd_ 22 84 8388607 HT_ ?_
            refine dn_ HT_ ?_
            go_wp2
            refine bodyPost_ret (results_none rfl _ _ _) rfl ⟨rfl, ?_, HK9.out⟩
            rw [HRN.out]
            exact ⟨_, _, HS9.out⟩
          | true =>
            rw [hmy] at HMY
            obtain ⟨p, hp⟩ : ∃ p, all[j] = p := ⟨_, rfl⟩
            have HRG := Aside0.mk (HR0.out.trans (lb_go hlt hp (by rw [hmy]; exact fun h => h.elim htop (fun h => by cases h))))
            have HPJ := Aside0.mk hp
            clear HR0 hmy hp
            go_upto_region 9 with fail
            refine st_ 23 (S := fun w' => w'.cell? ⟨y, 7, none⟩ = some (.bool false) ∧ w'.cell? ⟨y, 5, none⟩ = some (.int .i64 mo) ∧ w'.cell? ⟨y, 6, none⟩ = some (.int .i64 top)) (ds := [19]) ⟨hc7, hc5, hc6⟩ (fun hHeld => ?_)
            refine with_tabW (T := (true, [([], []), ([0], [0]), ([1], [1]), ([2], [2]), ([3], [3]), ([4], [4]), ([5], [5]), ([6, 5], [5, 6]), ([7, 5], [5, 7]), ([8, 5], [5, 8]), ([5], [5]), ([10, 5], [5, 10]), ([11, 5], [5, 11]), ([12, 5], [5, 12]), ([9, 13, 5], [5, 9, 13]), ([14, 5, 5], [5, 14]), ([15], [15]), ([15], [15]), ([15], [15]), ([16, 17, 18, 15, 15], [15, 16, 17, 18]), ([19, 15], [15, 19]), ([15, 20, 5], [5, 15, 20]), ([5, 21], [5, 21])])) (B := [0, 1, 3, 7, 15, 31, 63, 127, 255, 511, 63, 1087, 3135, 7231, 16383, 32767, 65535, 65535, 65535, 524287, 1048575, 2097151, 4194303]) (by kernel_rfl) (by kernel_rfl) (fun HT_ HW_ => ?_)
            refine pd_ 0 62 1 HT_ ?_
            refine pd_ 1 63 3 HT_ ?_
            refine pd_ 2 64 7 HT_ ?_
            refine tk_ 3 65 15 HT_ HW_ hHeld ?_
            refine pd_ 4 66 31 HT_ ?_
            refine pd_ 5 67 63 HT_ ?_
            refine pd_ 6 68 127 HT_ ?_
            refine pd_ 7 69 255 HT_ ?_
            refine pd_ 8 70 511 HT_ ?_
            refine pd_ 10 72 1535 HT_ ?_
            refine pd_ 11 73 3583 HT_ ?_
            refine pd_ 12 74 7679 HT_ ?_
            refine tk_ 9 71 8191 HT_ HW_ hHeld ?_
            refine tk_ 13 75 16383 HT_ HW_ hHeld ?_
            refine pd_ 14 76 32767 HT_ ?_
            refine pd_ 15 77 65535 HT_ ?_
            refine pd_ 16 78 131071 HT_ ?_
            refine pd_ 17 79 262143 HT_ ?_
            refine pd_ 18 80 524287 HT_ ?_
            refine la_ 19 (some 81) 1048575 HT_ (fun K hK => ?_)
            refine ca_ Try.func172 #[.pointer (some ⟨y, 0, none⟩), .slice Al l.length cl, .int .i64 j] ?_
            refine HMY.out.mono ?_; rintro e W9 ⟨rfl, hb⟩; have hb0 : Below wr.heap.size wr W9 := (below_drew (Below.refl _ _)).trans hb; have HS9 := Aside0.mk (HS.out.below hb0); have HL9 := Aside0.mk (Kd.R_below HL.out hb0); have HK9 := Aside0.mk (HK.out.trans (KeepT.below hb0)); clear hb hb0 HS HL HK HMY hc7 hc5 hc6 hc2
            refine ⟨_, rfl, ?_⟩
            refine hK.out _ _ ?_
            clear hK K
            refine nm_ ?_
            refine pd_ 20 82 2097151 HT_ ?_
            refine pd_ 21 83 4194303 HT_ ?_
            refine pd_ 22 84 8388607 HT_ ?_
            refine dn_ HT_ ?_
            go_upto_region 10 with fail
            obtain ⟨ad, rfl, hp0, hp1⟩ := at_T73 (Kd.R_reads' HS9.out.ra).2.2 (j : Int) (by omega) (by omega)
            rw [show rd_T73 all (j : Int) = p by rw [rdP_at hlt, HPJ.out], show ((j : Int)).toNat = j by omega] at hp0 hp1
            have hk0 := HS9.out.c0
            have hk1 := HS9.out.c1
            have hc2 := HS9.out.c2
            obtain ⟨j1, hj1⟩ : ∃ j1 : Nat, j1 = j + 1 := ⟨_, rfl⟩
            have hw1 : IntKind.i64.wrap ((j : Int) + 1) = (j1 : Int) := by rw [IntKind.wrap_i64]; omega
            have HJ1 := Aside0.mk hj1
            rw [← hj1] at HRG
            obtain ⟨kw, hkw⟩ := (ev_with HI.out (sorted_of HPL.out) (by omega) p).rounds
            have HKW := Aside0.mk hkw
            obtain ⟨q, hq⟩ : ∃ q, withP l p = q := ⟨_, rfl⟩
            rw [hq] at HKW HRG
            have HQ := Aside0.mk hq
            clear hkw hj1 hq
            cases hpb : pairingB xs q with
            | false =>
              have HOK : Aside0 (okP xs l p = false) := ⟨by unfold okP; rw [HQ.out, hpb]; rfl⟩
              rw [hpb] at HKW
              clear hpb
              have HRN : Aside0 (R = searchB xs top (all.drop j1) l ⟨mo, be⟩) := ⟨HRG.out.trans (by rw [if_neg (by rw [HOK.out]; exact Bool.false_ne_true)])⟩
              clear HRG HOK
              refine st_ 18 (S := fun w' => w'.cell? ⟨y, 0, none⟩ = some (.int .i64 n) ∧ w'.cell? ⟨y, 1, none⟩ = some (.slice A xs.length c) ∧ w'.cell? ⟨y, 2, none⟩ = some (.slice (some ad) all.length ca) ∧ w'.cell? (ad.add (j * 2)) = some (.int .i64 p.f0) ∧ w'.cell? ⟨(ad.add (j * 2)).block, (ad.add (j * 2)).off + 1, none⟩ = some (.int .i64 p.f1)) (ds := [12]) ⟨hk0, hk1, hc2, hp0, hp1⟩ (fun hHeld => ?_)
              refine with_tabW (T := (true, [([], []), ([0], [0]), ([1], [1]), ([2], [2]), ([], []), ([], []), ([5], [5]), ([6], [6]), ([7], [7]), ([], []), ([8, 9], [8, 9]), ([10], [10]), ([3, 4, 11], [3, 4, 11]), ([12], [12]), ([13], [13]), ([13], [13]), ([14, 12, 0, 1, 2, 3, 4, 5, 6, 7, 8, 9, 10, 11, 12, 13, 14], [14]), ([15, 16, 0, 1, 2, 3, 4, 5, 6, 7, 8, 9, 10, 11, 12, 13, 14, 15, 16], [15])])) (B := [0, 1, 3, 7, 0, 0, 32, 96, 224, 0, 992, 2016, 4095, 8191, 16383, 16383, 32767, 131071]) (by kernel_rfl) (by kernel_rfl) (fun HT_ HW_ => ?_)
              refine pd_ 0 86 1 HT_ ?_
              refine pd_ 1 87 3 HT_ ?_
              refine pd_ 2 88 7 HT_ ?_
              refine pd_ 4 90 23 HT_ ?_
              refine pd_ 5 91 55 HT_ ?_
              refine pd_ 6 92 119 HT_ ?_
              refine pd_ 7 93 247 HT_ ?_
              refine pd_ 9 95 759 HT_ ?_
              refine tk_ 3 89 767 HT_ HW_ hHeld ?_
              refine tk_ 8 94 1023 HT_ HW_ hHeld ?_
              refine pd_ 10 96 2047 HT_ ?_
              refine tk_ 11 97 4095 HT_ HW_ hHeld ?_
              refine la_ 12 (some 98) 8191 HT_ (fun K hK => ?_)
              refine ca_ Try.func111 #[.agg #[.int .i64 n, .slice A xs.length c], .slice Al l.length cl, .agg #[.int .i64 p.f0, .int .i64 p.f1]] ?_
              refine (QS.spec_l02With.calls kw n A c xs Al cl l p.f0 p.f1 q false _ (Kd.C_below HR.out HS9.out.drew.hb) HC.out (Kd.R_reads' (Kd.R_drew HL9.out)).2.2 (Kd.R_reads' HL9.out).2.1 HKW.out).mono ?_; rintro e w5 ⟨v5, rfl, hv, hb⟩; have hb0 : Below W9.heap.size W9 w5 := (below_drew (Below.refl _ _)).trans hb; have HV5 := Aside0.mk (Kd.R_lower hv HS9.out.drew.hb.size); have HS5 := Aside0.mk (HS9.out.below hb0); have HL5 := Aside0.mk (Kd.R_below HL9.out hb0); have HK5 := Aside0.mk (HK9.out.trans (KeepT.below hb0)); clear hv hb hb0 HS9 HL9 HK9 hp0 hp1 hk0 hk1 hc2
              refine ⟨_, rfl, ?_⟩
              refine hK.out _ _ ?_
              clear hK K
              refine nm_ ?_
              refine pd_ 13 85 16383 HT_ ?_
              refine pd_ 14 99 32767 HT_ ?_
              refine pd_ 15 100 65535 HT_ ?_
              refine pd_ 16 7 131071 HT_ ?_
              refine pd_ 17 8 262143 HT_ ?_
              refine dn_ HT_ ?_
              go_wp2
              have hj1 := HJ1.out
              exact ⟨⟨j1, _, _, _, by omega, by omega, by go_num, HRN, HS5, HL5, HK5⟩, by simp [intOf]; omega⟩
            | true =>
              rw [hpb] at HKW
              have hql := pairing_len HI.out hpb
              obtain ⟨ka, hka⟩ := (ev_acyclic (l := q) (by omega) (facesP_of HI.out hpb)).rounds
              have HPQ := Aside0.mk hpb
              have HKA := Aside0.mk hka
              clear hpb hka hql
              cases hab : acycB q with
              | false =>
                have HOK : Aside0 (okP xs l p = false) := ⟨by unfold okP; rw [HQ.out, HPQ.out, hab]; rfl⟩
                rw [hab] at HKA
                clear hab
                have HRN : Aside0 (R = searchB xs top (all.drop j1) l ⟨mo, be⟩) := ⟨HRG.out.trans (by rw [if_neg (by rw [HOK.out]; exact Bool.false_ne_true)])⟩
                clear HRG HOK
                refine st_ 18 (S := fun w' => w'.cell? ⟨y, 0, none⟩ = some (.int .i64 n) ∧ w'.cell? ⟨y, 1, none⟩ = some (.slice A xs.length c) ∧ w'.cell? ⟨y, 2, none⟩ = some (.slice (some ad) all.length ca) ∧ w'.cell? (ad.add (j * 2)) = some (.int .i64 p.f0) ∧ w'.cell? ⟨(ad.add (j * 2)).block, (ad.add (j * 2)).off + 1, none⟩ = some (.int .i64 p.f1)) (ds := [12]) ⟨hk0, hk1, hc2, hp0, hp1⟩ (fun hHeld => ?_)
                refine with_tabW (T := (true, [([], []), ([0], [0]), ([1], [1]), ([2], [2]), ([], []), ([], []), ([5], [5]), ([6], [6]), ([7], [7]), ([], []), ([8, 9], [8, 9]), ([10], [10]), ([3, 4, 11], [3, 4, 11]), ([12], [12]), ([13], [13]), ([13], [13]), ([14, 12, 0, 1, 2, 3, 4, 5, 6, 7, 8, 9, 10, 11, 12, 13, 14], [14]), ([15, 16, 0, 1, 2, 3, 4, 5, 6, 7, 8, 9, 10, 11, 12, 13, 14, 15, 16], [15])])) (B := [0, 1, 3, 7, 0, 0, 32, 96, 224, 0, 992, 2016, 4095, 8191, 16383, 16383, 32767, 131071]) (by kernel_rfl) (by kernel_rfl) (fun HT_ HW_ => ?_)
                refine pd_ 0 86 1 HT_ ?_
                refine pd_ 1 87 3 HT_ ?_
                refine pd_ 2 88 7 HT_ ?_
                refine pd_ 4 90 23 HT_ ?_
                refine pd_ 5 91 55 HT_ ?_
                refine pd_ 6 92 119 HT_ ?_
                refine pd_ 7 93 247 HT_ ?_
                refine pd_ 9 95 759 HT_ ?_
                refine tk_ 3 89 767 HT_ HW_ hHeld ?_
                refine tk_ 8 94 1023 HT_ HW_ hHeld ?_
                refine pd_ 10 96 2047 HT_ ?_
                refine tk_ 11 97 4095 HT_ HW_ hHeld ?_
                refine la_ 12 (some 98) 8191 HT_ (fun K hK => ?_)
                refine ca_ Try.func111 #[.agg #[.int .i64 n, .slice A xs.length c], .slice Al l.length cl, .agg #[.int .i64 p.f0, .int .i64 p.f1]] ?_
                refine (QS.spec_l02With.calls kw n A c xs Al cl l p.f0 p.f1 q true _ (Kd.C_below HR.out HS9.out.drew.hb) HC.out (Kd.R_reads' (Kd.R_drew HL9.out)).2.2 (Kd.R_reads' HL9.out).2.1 HKW.out).mono ?_; rintro e w5 ⟨v5, rfl, hv, hb⟩; have hb0 : Below W9.heap.size W9 w5 := (below_drew (Below.refl _ _)).trans hb; have HV5 := Aside0.mk (Kd.R_lower hv HS9.out.drew.hb.size); have HS5 := Aside0.mk (HS9.out.below hb0); have HL5 := Aside0.mk (Kd.R_below HL9.out hb0); have HK5 := Aside0.mk (HK9.out.trans (KeepT.below hb0)); clear hv hb hb0 HS9 HL9 HK9 hp0 hp1 hk0 hk1 hc2
                refine ⟨_, rfl, ?_⟩
                refine hK.out _ _ ?_
                clear hK K
                refine nm_ ?_
                refine pd_ 13 85 16383 HT_ ?_
                refine pd_ 14 99 32767 HT_ ?_
                refine pd_ 15 100 65535 HT_ ?_
                refine pd_ 16 7 131071 HT_ ?_
                refine pd_ 17 8 262143 HT_ ?_
                refine dn_ HT_ ?_
                obtain ⟨A5, c5, rfl⟩ := Kd.R_slice HV5.out
                go_wp2_with (go_at_call 97; refine (QS.spec_l02Acyclic.calls ka A5 c5 q false _ (Kd.R_reads' HV5.out).2.2 (Kd.R_reads' HV5.out).2.1 HKA.out).mono ?_; rintro e w6 ⟨rfl, hb⟩; have HS6 := Aside0.mk (HS5.out.below hb); have HL6 := Aside0.mk (Kd.R_below HL5.out hb); have HK6 := Aside0.mk (HK5.out.trans (KeepT.below hb)); clear hb HS5 HL5 HK5)
                have hj1 := HJ1.out
                exact ⟨⟨j1, _, _, _, by omega, by omega, by go_num, HRN, HS6, HL6, HK6⟩, by simp [intOf]; omega⟩
              | true =>
                have HOK : Aside0 (okP xs l p = true) := ⟨by unfold okP; rw [HQ.out, HPQ.out, hab]; rfl⟩
                rw [hab] at HKA
                clear hab
                have HRN : Aside0 (R = searchB xs top (all.drop j1) l (searchB xs top (all.drop j1) q (updB ⟨mo, be⟩ q))) := ⟨HRG.out.trans (by rw [if_pos HOK.out])⟩
                clear HRG HOK
                refine st_ 18 (S := fun w' => w'.cell? ⟨y, 0, none⟩ = some (.int .i64 n) ∧ w'.cell? ⟨y, 1, none⟩ = some (.slice A xs.length c) ∧ w'.cell? ⟨y, 2, none⟩ = some (.slice (some ad) all.length ca) ∧ w'.cell? (ad.add (j * 2)) = some (.int .i64 p.f0) ∧ w'.cell? ⟨(ad.add (j * 2)).block, (ad.add (j * 2)).off + 1, none⟩ = some (.int .i64 p.f1)) (ds := [12]) ⟨hk0, hk1, hc2, hp0, hp1⟩ (fun hHeld => ?_)
                refine with_tabW (T := (true, [([], []), ([0], [0]), ([1], [1]), ([2], [2]), ([], []), ([], []), ([5], [5]), ([6], [6]), ([7], [7]), ([], []), ([8, 9], [8, 9]), ([10], [10]), ([3, 4, 11], [3, 4, 11]), ([12], [12]), ([13], [13]), ([13], [13]), ([14, 12, 0, 1, 2, 3, 4, 5, 6, 7, 8, 9, 10, 11, 12, 13, 14], [14]), ([15, 16, 0, 1, 2, 3, 4, 5, 6, 7, 8, 9, 10, 11, 12, 13, 14, 15, 16], [15])])) (B := [0, 1, 3, 7, 0, 0, 32, 96, 224, 0, 992, 2016, 4095, 8191, 16383, 16383, 32767, 131071]) (by kernel_rfl) (by kernel_rfl) (fun HT_ HW_ => ?_)
                refine pd_ 0 86 1 HT_ ?_
                refine pd_ 1 87 3 HT_ ?_
                refine pd_ 2 88 7 HT_ ?_
                refine pd_ 4 90 23 HT_ ?_
                refine pd_ 5 91 55 HT_ ?_
                refine pd_ 6 92 119 HT_ ?_
                refine pd_ 7 93 247 HT_ ?_
                refine pd_ 9 95 759 HT_ ?_
                refine tk_ 3 89 767 HT_ HW_ hHeld ?_
                refine tk_ 8 94 1023 HT_ HW_ hHeld ?_
                refine pd_ 10 96 2047 HT_ ?_
                refine tk_ 11 97 4095 HT_ HW_ hHeld ?_
                refine la_ 12 (some 98) 8191 HT_ (fun K hK => ?_)
                refine ca_ Try.func111 #[.agg #[.int .i64 n, .slice A xs.length c], .slice Al l.length cl, .agg #[.int .i64 p.f0, .int .i64 p.f1]] ?_
                refine (QS.spec_l02With.calls kw n A c xs Al cl l p.f0 p.f1 q true _ (Kd.C_below HR.out HS9.out.drew.hb) HC.out (Kd.R_reads' (Kd.R_drew HL9.out)).2.2 (Kd.R_reads' HL9.out).2.1 HKW.out).mono ?_; rintro e w5 ⟨v5, rfl, hv, hb⟩; have hb0 : Below W9.heap.size W9 w5 := (below_drew (Below.refl _ _)).trans hb; have HV5 := Aside0.mk (Kd.R_lower hv HS9.out.drew.hb.size); have HS5 := Aside0.mk (HS9.out.below hb0); have HL5 := Aside0.mk (Kd.R_below HL9.out hb0); have HK5 := Aside0.mk (HK9.out.trans (KeepT.below hb0)); clear hv hb hb0 HS9 HL9 HK9 hp0 hp1 hk0 hk1 hc2
                refine ⟨_, rfl, ?_⟩
                refine hK.out _ _ ?_
                clear hK K
                refine nm_ ?_
                refine pd_ 13 85 16383 HT_ ?_
                refine pd_ 14 99 32767 HT_ ?_
                refine pd_ 15 100 65535 HT_ ?_
                refine pd_ 16 7 131071 HT_ ?_
                refine pd_ 17 8 262143 HT_ ?_
                refine dn_ HT_ ?_
                obtain ⟨A5, c5, rfl⟩ := Kd.R_slice HV5.out
                go_wp2_with (first
                  | (go_at_call 97; refine (QS.spec_l02Acyclic.calls ka A5 c5 q true _ (Kd.R_reads' HV5.out).2.2 (Kd.R_reads' HV5.out).2.1 HKA.out).mono ?_; rintro e w6 ⟨rfl, hb⟩; have HS6 := Aside0.mk (HS5.out.below hb); have HL6 := Aside0.mk (Kd.R_below HL5.out hb); have HK6 := Aside0.mk (HK5.out.trans (KeepT.below hb)); have HV6 := Aside0.mk (Kd.R_below HV5.out hb); clear hb HS5 HL5 HK5 HV5)
                  | (go_at_call 126; refine (HIH.out (all.length - j1) (by have := HD.out; have := HJ1.out; omega) q ⟨mo, be⟩ _ _ j1 _ _ HS6.out HV6.out HPQ.out (by have := HJ1.out; omega) rfl).mono ?_; rintro e w7 ⟨rfl, ⟨vb7, ct7, hs⟩, hk⟩; have HS8 := Aside0.mk hs; have HL8 := Aside0.mk (PO.keep HL6.out hk); have HK8 := Aside0.mk (HK6.out.trans hk); clear hs hk HS6 HL6 HK6 HV6))
                have hj1 := HJ1.out
                exact ⟨⟨j1, _, _, _, by omega, by omega, by go_num, HRN, HS8, HL8, HK8⟩, by simp [intOf]; omega⟩
      · obtain rfl : j = all.length := by omega
        have hltz : ¬ (all.length : Int) < (all.length : Int) := by omega
        have hR := HR0.out
        rw [lb_end (Nat.le_refl _)] at hR
        subst hR
        clear HR0
        go_wp2
        exact bodyPost_end (results_none rfl _ _ _) rfl ⟨rfl, ⟨_, _, HS.out⟩, HK.out⟩
end Go.Proofs.Ytomdfjohnmikdaa.Im
namespace Go.Proofs.Ytomdfjohnmikdaa.Ext
open Go.RowKit Im Kp YtomdfjohnmikdaaW.PrintWords YtomdfjohnmikdaaW.PrintLast YtomdfjohnmikdaaW.PrintMore
noncomputable def spec_l03Betti.f (a0_0 : Int) (l0_1 : List Int) (a1 : Int) : Option (List Int) := limO fun k => Ql03Betti.spec_l03Betti.f k a0_0 l0_1 a1
theorem spec_l03Betti.calls (a0_0 : Int) (A0_1 : Option Addr) (c0_1 : Nat) (l0_1 : List Int) (a1 : Int) (r : List Int) (w : World) (hr0_1 : Kd.C (Kd.int .i64) w A0_1 l0_1.length l0_1) (hc0_1 : l0_1.length ≤ c0_1) (h : spec_l03Betti.f a0_0 l0_1 a1 = some r) :
    Calls Try.prog 51 #[.agg #[.int .i64 a0_0, .slice A0_1 l0_1.length c0_1], .int .i64 a1] w fun e w' => ∃ v0_ : Value, e = .returned (v0_) ∧ Kd.R (Kd.int .i64) 2 w' w.heap.size (fun _ => True) v0_ r ∧ Below w.heap.size w w' := by
  obtain ⟨k, hk⟩ := limO_get h
  exact Ql03Betti.spec_l03Betti.calls k a0_0 A0_1 c0_1 l0_1 a1 r w hr0_1 hc0_1 hk
theorem spec_l03Betti.come (a0_0 : Int) (l0_1 : List Int) (a1 : Int) {r : (List Int)} (h : Ev (fun k => Ql03Betti.spec_l03Betti.f k a0_0 l0_1 a1) r) : spec_l03Betti.f a0_0 l0_1 a1 = some r := limO_of (fun k => Ql03Betti.spec_l03Betti.mono _ _ _ k) h
end Go.Proofs.Ytomdfjohnmikdaa.Ext
namespace Go.Proofs.Ytomdfjohnmikdaa.QS
open Cw Kp Ext Go.RowKit YtomdfjohnmikdaaW.PrintWords YtomdfjohnmikdaaW.PrintLast YtomdfjohnmikdaaW.PrintMore
attribute [local go_sem] max2_int min2_int max_two min_two max_three min_three max_four min_four   -- for this text's walks alone
def spec_l08Limit.f (k : Nat) (a0_0 : Int) (l0_1 : List Int) (a1 : Int) : Option (Int) := (spec_l01Is.f k a0_0 l0_1).bind fun t431 => (if t431 = true then (if (l0_1.length : Int) > a1 then (some 3) else (some 0)) else (some 1))
set_option maxHeartbeats 8000000 in
set_option maxRecDepth 100000 in
theorem spec_l08Limit.calls (k : Nat) (a0_0 : Int) (A0_1 : Option Addr) (c0_1 : Nat) (l0_1 : List Int) (a1 : Int) (r : Int) (w : World) (hr0_1 : Kd.C (Kd.int .i64) w A0_1 l0_1.length l0_1) (hc0_1 : l0_1.length ≤ c0_1) (h : spec_l08Limit.f k a0_0 l0_1 a1 = some r) :
  Calls Try.prog 75 #[.agg #[.int .i64 a0_0, .slice A0_1 l0_1.length c0_1], .int .i64 a1] w fun e w' => e = .returned (.int .i64 r) ∧ Below w.heap.size w w' := by
 have hu28 := Try.underlying28
 have HR0_1 := Aside0.mk hr0_1
 have HC0_1 := Aside0.mk hc0_1
 clear hr0_1 hc0_1
 have HB := Aside0.mk (Below.refl w.heap.size w)
 have H : ((spec_l01Is.f k a0_0 l0_1).bind fun t431 => (if t431 = true then (if (l0_1.length : Int) > a1 then (some 3) else (some 0)) else (some 1))) = some r := h
 clear h
 replace H := Option.bind_eq_some_iff.mp H
 obtain ⟨t431, A30, H⟩ := H
 try dsimp only at H
 have A3 := Aside0.mk A30
 clear A30
 by_cases c4 : t431 = true
 ·subst c4
  have H1 : (if (l0_1.length : Int) > a1 then (some 3) else (some 0)) = some r := by rw [if_pos rfl] at H; exact H
  clear H
  have H := H1
  clear H1
  by_cases c5 : (l0_1.length : Int) > a1
  ·rw [if_pos c5] at H
   have c5b0 : decide (a1 < (l0_1.length : Int)) = true := decide_eq_true c5
   clear c5
   obtain rfl := Option.some.inj H
   go_enter Try.func75, Try.ntmps75
   go_wp2_with (first | ((with_reducible refine gate_dst (N := 2) rfl ?_); refine box_event ?hg (N := 2) ?hd (cs := #[.int .i64 a0_0, .slice A0_1 l0_1.length c0_1]) (t := 28) ?hr ?_; (case hd => rfl); (case hg => rfl); (case hr => first | (go_simp; done) | (go_simp; rfl)); intro gb430 hg w6 hbox hb; have BK430 := Aside0.mk (hbox); have GW430 := gH HB hg; have GE430 := gH HB hg; replace HB := sH HB hb; clear hb hbox hg; have hcz7_0 : w6.cell? ⟨gb430, 0, none⟩ = some (.int .i64 a0_0) := cB BK430 0; have hcz7_1 : w6.cell? ⟨gb430, 1, none⟩ = some (.slice A0_1 l0_1.length c0_1) := cB BK430 1; have hfz7_0 := zB BK430 0; have hfz7_1 := zB BK430 1) | ((with_reducible refine gate_callee (f := 50) rfl ?_); refine cl_ (some 7) Try.func50 #[.agg #[.int .i64 a0_0, .slice A0_1 l0_1.length c0_1]] ?_; (with_reducible refine (spec_l01Is.calls k a0_0 _ _ l0_1 true _ ?side1 ?side2 A3.out).mono ?_); (case side1 => exact pC ((Kd.C_below HR0_1.out HB.out))); (case side2 => exact HC0_1.out); rintro e w8 ⟨rfl, hb⟩; refine ⟨_, rfl, ?_⟩; replace BK430 := sB BK430 hb; replace HB := sH HB hb; (try clear hb); (try clear hi); have hcz9_0 : w8.cell? ⟨gb430, 0, none⟩ = some (.int .i64 a0_0) := cB BK430 0; have hcz9_1 : w8.cell? ⟨gb430, 1, none⟩ = some (.slice A0_1 l0_1.length c0_1) := cB BK430 1; have hfz9_0 := zB BK430 0; have hfz9_1 := zB BK430 1))
   go_ret
   exact ⟨by first | rfl | (simp [errW_none, errW_some] <;> rfl) | (simp [*, errW_none, errW_some] <;> rfl) | (exfalso; simp_all), pH HB⟩
  ·rw [if_neg c5] at H
   have c5b0 : decide (a1 < (l0_1.length : Int)) = false := decide_eq_false c5
   clear c5
   obtain rfl := Option.some.inj H
   go_enter Try.func75, Try.ntmps75
   go_wp2_with (first | ((with_reducible refine gate_dst (N := 2) rfl ?_); refine box_event ?hg (N := 2) ?hd (cs := #[.int .i64 a0_0, .slice A0_1 l0_1.length c0_1]) (t := 28) ?hr ?_; (case hd => rfl); (case hg => rfl); (case hr => first | (go_simp; done) | (go_simp; rfl)); intro gb430 hg w10 hbox hb; have BK430 := Aside0.mk (hbox); have GW430 := gH HB hg; have GE430 := gH HB hg; replace HB := sH HB hb; clear hb hbox hg; have hcz11_0 : w10.cell? ⟨gb430, 0, none⟩ = some (.int .i64 a0_0) := cB BK430 0; have hcz11_1 : w10.cell? ⟨gb430, 1, none⟩ = some (.slice A0_1 l0_1.length c0_1) := cB BK430 1; have hfz11_0 := zB BK430 0; have hfz11_1 := zB BK430 1) | ((with_reducible refine gate_callee (f := 50) rfl ?_); refine cl_ (some 7) Try.func50 #[.agg #[.int .i64 a0_0, .slice A0_1 l0_1.length c0_1]] ?_; (with_reducible refine (spec_l01Is.calls k a0_0 _ _ l0_1 true _ ?side1 ?side2 A3.out).mono ?_); (case side1 => exact pC ((Kd.C_below HR0_1.out HB.out))); (case side2 => exact HC0_1.out); rintro e w12 ⟨rfl, hb⟩; refine ⟨_, rfl, ?_⟩; replace BK430 := sB BK430 hb; replace HB := sH HB hb; (try clear hb); (try clear hi); have hcz13_0 : w12.cell? ⟨gb430, 0, none⟩ = some (.int .i64 a0_0) := cB BK430 0; have hcz13_1 : w12.cell? ⟨gb430, 1, none⟩ = some (.slice A0_1 l0_1.length c0_1) := cB BK430 1; have hfz13_0 := zB BK430 0; have hfz13_1 := zB BK430 1))
   go_ret
   exact ⟨by first | rfl | (simp [errW_none, errW_some] <;> rfl) | (simp [*, errW_none, errW_some] <;> rfl) | (exfalso; simp_all), pH HB⟩
 ·replace c4 := Bool.eq_false_iff.mpr c4
  subst c4
  have H1 : (some 1) = some r := by rw [if_neg (show ¬ (false = true) by decide)] at H; exact H
  clear H
  have H := H1
  clear H1
  obtain rfl := Option.some.inj H
  go_enter Try.func75, Try.ntmps75
  go_wp2_with (first | ((with_reducible refine gate_dst (N := 2) rfl ?_); refine box_event ?hg (N := 2) ?hd (cs := #[.int .i64 a0_0, .slice A0_1 l0_1.length c0_1]) (t := 28) ?hr ?_; (case hd => rfl); (case hg => rfl); (case hr => first | (go_simp; done) | (go_simp; rfl)); intro gb430 hg w14 hbox hb; have BK430 := Aside0.mk (hbox); have GW430 := gH HB hg; have GE430 := gH HB hg; replace HB := sH HB hb; clear hb hbox hg; have hcz15_0 : w14.cell? ⟨gb430, 0, none⟩ = some (.int .i64 a0_0) := cB BK430 0; have hcz15_1 : w14.cell? ⟨gb430, 1, none⟩ = some (.slice A0_1 l0_1.length c0_1) := cB BK430 1; have hfz15_0 := zB BK430 0; have hfz15_1 := zB BK430 1) | ((with_reducible refine gate_callee (f := 50) rfl ?_); refine cl_ (some 7) Try.func50 #[.agg #[.int .i64 a0_0, .slice A0_1 l0_1.length c0_1]] ?_; (with_reducible refine (spec_l01Is.calls k a0_0 _ _ l0_1 false _ ?side1 ?side2 A3.out).mono ?_); (case side1 => exact pC ((Kd.C_below HR0_1.out HB.out))); (case side2 => exact HC0_1.out); rintro e w16 ⟨rfl, hb⟩; refine ⟨_, rfl, ?_⟩; replace BK430 := sB BK430 hb; replace HB := sH HB hb; (try clear hb); (try clear hi)))
  go_ret
  exact ⟨by first | rfl | (simp [errW_none, errW_some] <;> rfl) | (simp [*, errW_none, errW_some] <;> rfl) | (exfalso; simp_all), pH HB⟩
end Go.Proofs.Ytomdfjohnmikdaa.QS
namespace Go.Proofs.Ytomdfjohnmikdaa.Im
open Go.RowKit Go.Shelf Kp Cw Ext Pu YtomdfjohnmikdaaW.PrintWords YtomdfjohnmikdaaW.PrintLast YtomdfjohnmikdaaW.PrintMore
theorem gb_all (w0 : World) (y : Nat) (n : Int) (A : Option Addr) (c : Nat) (xs : List Int) (va : Value) (all : List Pr) (top : Int) (vf : Value) (vs : List Value) (found : List (List Int)) (hr : RC w0 A xs.length xs) (hc : xs.length ≤ c) (hi : isC n xs = true) (hal : all.length ≤ 1048576) (hra : ∀ p ∈ all, (0 ≤ p.f0 ∧ p.f0 ≤ 63) ∧ 0 ≤ p.f1 ∧ p.f1 ≤ 63) (d : Nat) : GbOk w0 y n A c xs va all top vf vs found d :=
  Nat.strongRecOn d fun d ih => gb_step w0 y n A c xs va all top vf vs found hr hc hi hal hra d ih
theorem pairs_rngS {n : Int} {xs : List Int} (hi : isC n xs = true) : ∀ p ∈ pairsL xs, (0 ≤ p.f0 ∧ p.f0 ≤ 63) ∧ 0 ≤ p.f1 ∧ p.f1 ≤ 63 := fun p hp => by
  have h := pairs_mem hp
  have h1 := isC_63 hi _ h.1
  have h2 := isC_63 hi _ h.2
  omega
set_option maxRecDepth 100000 in
set_option maxHeartbeats 8000000 in
theorem bestS_c (n : Int) (A : Option Addr) (c : Nat) (xs : List Int) (w : World) (hr : RC w A xs.length xs) (hc : xs.length ≤ c) (hi : isC n xs = true) :
    Calls Try.prog 93 #[.agg #[.int .i64 n, .slice A xs.length c]] w fun e w' => ∃ v : Value, e = .returned v ∧ PO w' w.heap.size v (bestB xs (pairsL xs) (topN xs)) ∧ Below w.heap.size w w' := by
  have HX0 := Aside0.mk (CxAt.new w n A xs.length c)
  have HB0 := Aside0.mk (below_alloc (Below.refl w.heap.size w) (.cells #[.int .i64 n, .slice A xs.length c] 28))
  have HR := Aside0.mk hr
  have HC := Aside0.mk hc
  have HI := Aside0.mk hi
  have hs := isC_small hi
  have hx0 := HX0.out.c0
  have hx1 := HX0.out.c1
  have HBE := Aside0.mk (spec_l03Betti.come n xs 2 (ev_bettiS hi))
  have hbl := bettiL_len xs
  have hdr := dim_rng xs
  have hba := betti_all hi
  obtain ⟨ka, hka⟩ := (ev_all hi).rounds
  have HKA := Aside0.mk hka
  have hh := holes_le hi
  obtain ⟨ht1, ht2⟩ := top_eq hi
  obtain ⟨bl, hbl2⟩ : ∃ bl, bettiL xs = bl := ⟨_, rfl⟩
  obtain ⟨t, htz⟩ : ∃ t, topN xs = t := ⟨_, rfl⟩
  obtain ⟨z, hz⟩ : ∃ z, (xs.length : Int) - holesZ xs = z := ⟨_, rfl⟩
  unfold holesZ at hh hz ht1
  rw [hbl2] at hbl hba HBE hh hz ht1
  rw [htz] at ht1 ht2 ⊢
  rw [hz] at ht1
  have hbl6 : bl.length ≤ 6 := by omega
  have hwz : IntKind.i64.wrap ((xs.length : Int) - sumZ bl) = z := by rw [hz, IntKind.wrap_i64]; omega
  have hwz2 : wrap64 ((xs.length : Int) - sumZ bl) = z := by rw [hz]; unfold wrap64; omega
  have hwt : IntKind.i64.wrap (z.tdiv 2) = (t : Int) := by rw [ht1, IntKind.wrap_i64]; omega
  have hwt2 : wrap64 (z.tdiv 2) = (t : Int) := by rw [ht1]; unfold wrap64; omega
  have hw64t : wrap64 (t : Int) = (t : Int) := by unfold wrap64; omega
  have HBA := Aside0.mk hba
  have HW := Aside0.mk (And.intro hwz (And.intro hwz2 (And.intro hwt (And.intro hwt2 (And.intro hw64t ht1)))))
  have hpl := pairs_len hi
  obtain ⟨R, hR⟩ : ∃ R, bestB xs (pairsL xs) (t : Int) = R := ⟨_, rfl⟩
  have HRR := Aside0.mk hR
  rw [hR]
  clear hr hc hi hka hbl hdr hh ht2 hz hbl2 htz hba hwz hwz2 hwt hwt2 hw64t ht1 hR
  go_enter Try.func93, Try.ntmps93
  go_wp2_with (go_at_call 51; refine (spec_l03Betti.calls n A c xs 2 bl _ (Kd.C_below HR.out HB0.out) HC.out HBE.out).mono ?_; rintro e w1 ⟨v1, rfl, hv, hb⟩; have HX1 := Aside0.mk (HX0.out.below hb); have HB1 := Aside0.mk (below_in HB0.out hb); have HV1 := Aside0.mk hv; obtain ⟨Ab, cb, rfl⟩ := Kd.R_slice hv; clear hv hb hx0 hx1)
  go_loopw [3, 5] (fun s3 s5 wr => ∃ j : Nat, j ≤ bl.length ∧ s5 = .int .i64 j ∧ s3 = .int .i64 (sumZ (bl.take j)) ∧ wr = w1) (fun _ s5 _ => bl.length - (intOf s5).toNat)
  case atStart => exact ⟨0, by omega, rfl, rfl, by first | rfl | trivial⟩
  case round =>
    obtain ⟨j, hj, rfl, rfl, rfl⟩ := hrel
    by_cases hlt : j < bl.length
    · have hltz : (j : Int) < (bl.length : Int) := by omega
      obtain ⟨ab, rfl, hb0⟩ := Kd.at_int (Kd.R_reads' HV1.out).2.2 j (by omega) (by omega)
      obtain ⟨x, hx⟩ : ∃ x, rd bl (j : Int) = x := ⟨_, rfl⟩
      rw [hx, show ((j : Int)).toNat = j by omega] at hb0
      have hxj : bl[j] = x := by rw [← hx, rd_at hlt]
      have h1 := sum_rng (B := 126) (bl.take j) (fun y hy => HBA.out y (List.mem_of_mem_take hy))
      have h2 := HBA.out _ (List.getElem_mem hlt)
      have h3 : (bl.take j).length * 126 ≤ 6 * 126 := Nat.mul_le_mul_right _ (by rw [List.length_take]; omega)
      have h4 : sumZ (bl.take (j + 1)) = sumZ (bl.take j) + x := by rw [List.take_succ_eq_append_getElem hlt, sum_snoc, hxj]
      have hwa : IntKind.i64.wrap (sumZ (bl.take j) + x) = sumZ (bl.take (j + 1)) := by rw [h4, IntKind.wrap_i64]; omega
      have hwb : wrap64 (sumZ (bl.take j) + x) = sumZ (bl.take (j + 1)) := by rw [h4]; unfold wrap64; omega
      clear hx hxj h1 h2 h3 h4
      go_wp2
      exact ⟨⟨j + 1, by omega, by go_num, by first | rfl | go_num, by first | rfl | trivial⟩, by simp [intOf]; omega⟩
    · obtain rfl : j = bl.length := by omega
      have hltz : ¬ (bl.length : Int) < (bl.length : Int) := by omega
      obtain ⟨hwz, hwz2, hwt, hwt2, hw64t, ht1⟩ := HW.out
      rw [List.take_length]
      have hx0 := HX1.out.c0
      have hx1 := HX1.out.c1
      have HX := Aside0.mk HX1.out.drew'
      have HB := Aside0.mk HB1.out.drew
      clear HX1 HB1 HV1
      go_upto_region 7 with fail
      refine st_ 13 (S := fun w' => w'.cell? ⟨w.heap.size, 0, none⟩ = some (.int .i64 n) ∧ w'.cell? ⟨w.heap.size, 1, none⟩ = some (.slice A xs.length c)) (ds := []) ⟨hx0, hx1⟩ (fun hHeld => ?_)
      refine with_tabW (T := (true, [([], []), ([], []), ([1], [1]), ([], []), ([], []), ([4], [4]), ([5], [5]), ([], []), ([6, 7], [6, 7]), ([8], [8]), ([0, 2, 3, 9], [0, 2, 3, 9]), ([10], [10]), ([11, 2, 0, 1, 2, 3, 4, 5, 6, 7, 8, 9, 10, 11], [11])])) (B := [0, 0, 2, 0, 0, 16, 48, 0, 240, 496, 1023, 2047, 4095]) (by kernel_rfl) (by kernel_rfl) (fun HT_ HW_ => ?_)
      refine pd_ 4 25 16 HT_ ?_
      refine pd_ 7 28 144 HT_ ?_
      refine tk_ 0 21 145 HT_ HW_ hHeld ?_
      refine tk_ 1 22 147 HT_ HW_ hHeld ?_
      refine tk_ 5 26 179 HT_ HW_ hHeld ?_
      refine pd_ 6 27 243 HT_ ?_
      refine pd_ 8 29 499 HT_ ?_
      refine pd_ 9 30 1011 HT_ ?_
      refine tw_ 2 3 (some 23) (some 24) 1015 1019 HT_ (fun K hK => ?_) (fun K hK => ?_)
      refine ca_ Try.func110 #[.agg #[.int .i64 n, .slice A xs.length c]] ?_
      refine (QS.spec_l02All.calls ka n A c xs (pairsL xs) _ (Kd.C_below HR.out HB.out) HC.out HKA.out).mono ?_; rintro e wz1 ⟨va, rfl, hv, hb⟩; have HV := Aside0.mk (Kd.R_lower hv HB.out.size); (try (have HXn := Aside0.mk (HX.out.below hb); clear HX; have HX := HXn; clear HXn)); (try (have HBn := Aside0.mk (below_in HB.out hb); clear HB; have HB := HBn; clear HBn)); (try (have HO3n := Aside0.mk (Kd.R_below HO3.out hb); clear HO3; have HO3 := HO3n; clear HO3n)); clear hv hb; obtain ⟨Aa, ca, rfl⟩ := Kd.R_slice HV.out
      refine ⟨_, rfl, ?_⟩
      refine hK.out _ _ ⟨HX.out.c0, HX.out.c1⟩ (fun hHeld => ?_)
      clear hK K
      refine nm_ ?_
      refine on_ 3 (some 24) 1023 HT_ (fun K hK => ?_)
      (refine value_ (by rfl) rfl (v := .slice (some ⟨(wz1).heap.size, 0, none⟩) 0 0) (w1 := (wz1).alloc (.cells #[] 73)) (by go_simp) ?_; have HO3 := Aside0.mk (PO.made (wz1) w.heap.size 0 #[] HB.out.size (Nat.zero_le _) rfl); have hb := below_alloc (Below.refl (wz1).heap.size (wz1)) (.cells #[] 73); generalize (wz1).alloc (.cells #[] 73) = wz2 at hb HO3 ⊢; generalize (some (⟨(wz1).heap.size, 0, none⟩ : Addr)) = A3 at HO3 ⊢; (try (have HXn := Aside0.mk (HX.out.below hb); clear HX; have HX := HXn; clear HXn)); (try (have HBn := Aside0.mk (below_in HB.out hb); clear HB; have HB := HBn; clear HBn)); (try (have HVn := Aside0.mk (Kd.R_below HV.out hb); clear HV; have HV := HVn; clear HVn)); clear hb)
      refine hK.out _ _ ⟨HX.out.c0, HX.out.c1⟩ (fun hHeld => ?_)
      clear hK K
      refine nm_ ?_
      refine pd_ 10 31 2047 HT_ ?_
      refine on_ 11 (some 32) 4095 HT_ (fun K hK => ?_)
      (refine value_ (by rfl) rfl (v := .pointer (some ⟨(wz2).heap.size, 0, none⟩)) (w1 := (wz2).alloc (.cells (ssC n A c xs.length (.slice Aa (pairsL xs).length ca) (.slice A3 0 0) 0 (-1) t false (.slice none 0 0)) 85)) (by go_simp; rfl) ?_; have hb := below_alloc (Below.refl (wz2).heap.size (wz2)) (.cells (ssC n A c xs.length (.slice Aa (pairsL xs).length ca) (.slice A3 0 0) 0 (-1) t false (.slice none 0 0)) 85); have HNB := Aside0.mk (heap_alloc_new (wz2) (.cells (ssC n A c xs.length (.slice Aa (pairsL xs).length ca) (.slice A3 0 0) 0 (-1) t false (.slice none 0 0)) 85)); have HY := Aside0.mk HB.out.size; (try (have HXn := Aside0.mk (HX.out.below hb); clear HX; have HX := HXn; clear HXn)); (try (have HBn := Aside0.mk (below_in HB.out hb); clear HB; have HB := HBn; clear HBn)); (try (have HVn := Aside0.mk (Kd.R_below HV.out hb); clear HV; have HV := HVn; clear HVn)); (try (have HO3n := Aside0.mk (Kd.R_below HO3.out hb); clear HO3; have HO3 := HO3n; clear HO3n)); clear hb)
      refine hK.out _ _ ⟨HX.out.c0, HX.out.c1⟩ (fun hHeld => ?_)
      clear hK K
      refine nm_ ?_
      refine pd_ 12 6 8191 HT_ ?_
      refine dn_ HT_ ?_
      rotate_left
      (refine value_ (by rfl) rfl (v := .slice (some ⟨(wr.drew).heap.size, 0, none⟩) 0 0) (w1 := (wr.drew).alloc (.cells #[] 73)) (by go_simp) ?_; have HO3 := Aside0.mk (PO.made (wr.drew) w.heap.size 0 #[] HB.out.size (Nat.zero_le _) rfl); have hb := below_alloc (Below.refl (wr.drew).heap.size (wr.drew)) (.cells #[] 73); generalize (wr.drew).alloc (.cells #[] 73) = wz1 at hb HO3 ⊢; generalize (some (⟨(wr.drew).heap.size, 0, none⟩ : Addr)) = A3 at HO3 ⊢; (try (have HXn := Aside0.mk (HX.out.below hb); clear HX; have HX := HXn; clear HXn)); (try (have HBn := Aside0.mk (below_in HB.out hb); clear HB; have HB := HBn; clear HBn)); (try (have HVn := Aside0.mk (Kd.R_below HV.out hb); clear HV; have HV := HVn; clear HVn)); clear hb)
      refine hK.out _ _ ⟨HX.out.c0, HX.out.c1⟩ (fun hHeld => ?_)
      clear hK K
      refine nm_ ?_
      refine on_ 2 (some 23) 1023 HT_ (fun K hK => ?_)
      refine ca_ Try.func110 #[.agg #[.int .i64 n, .slice A xs.length c]] ?_
      refine (QS.spec_l02All.calls ka n A c xs (pairsL xs) _ (Kd.C_below HR.out HB.out) HC.out HKA.out).mono ?_; rintro e wz2 ⟨va, rfl, hv, hb⟩; have HV := Aside0.mk (Kd.R_lower hv HB.out.size); (try (have HXn := Aside0.mk (HX.out.below hb); clear HX; have HX := HXn; clear HXn)); (try (have HBn := Aside0.mk (below_in HB.out hb); clear HB; have HB := HBn; clear HBn)); (try (have HO3n := Aside0.mk (Kd.R_below HO3.out hb); clear HO3; have HO3 := HO3n; clear HO3n)); clear hv hb; obtain ⟨Aa, ca, rfl⟩ := Kd.R_slice HV.out
      refine ⟨_, rfl, ?_⟩
      refine hK.out _ _ ⟨HX.out.c0, HX.out.c1⟩ (fun hHeld => ?_)
      clear hK K
      refine nm_ ?_
      refine pd_ 10 31 2047 HT_ ?_
      refine on_ 11 (some 32) 4095 HT_ (fun K hK => ?_)
      (refine value_ (by rfl) rfl (v := .pointer (some ⟨(wz2).heap.size, 0, none⟩)) (w1 := (wz2).alloc (.cells (ssC n A c xs.length (.slice Aa (pairsL xs).length ca) (.slice A3 0 0) 0 (-1) t false (.slice none 0 0)) 85)) (by go_simp; rfl) ?_; have hb := below_alloc (Below.refl (wz2).heap.size (wz2)) (.cells (ssC n A c xs.length (.slice Aa (pairsL xs).length ca) (.slice A3 0 0) 0 (-1) t false (.slice none 0 0)) 85); have HNB := Aside0.mk (heap_alloc_new (wz2) (.cells (ssC n A c xs.length (.slice Aa (pairsL xs).length ca) (.slice A3 0 0) 0 (-1) t false (.slice none 0 0)) 85)); have HY := Aside0.mk HB.out.size; (try (have HXn := Aside0.mk (HX.out.below hb); clear HX; have HX := HXn; clear HXn)); (try (have HBn := Aside0.mk (below_in HB.out hb); clear HB; have HB := HBn; clear HBn)); (try (have HVn := Aside0.mk (Kd.R_below HV.out hb); clear HV; have HV := HVn; clear HVn)); (try (have HO3n := Aside0.mk (Kd.R_below HO3.out hb); clear HO3; have HO3 := HO3n; clear HO3n)); clear hb)
      refine hK.out _ _ ⟨HX.out.c0, HX.out.c1⟩ (fun hHeld => ?_)
      clear hK K
      refine nm_ ?_
      refine pd_ 12 6 8191 HT_ ?_
      refine dn_ HT_ ?_
      rotate_left
      all_goals
        have hpn : pairingB xs [] = true := rfl
        clear hwz hwz2 hwt hwt2 ht1
        generalize wz2.alloc (.cells (ssC n A c xs.length (.slice Aa (pairsL xs).length ca) (.slice A3 0 0) 0 (-1) t false (.slice none 0 0)) 85) = W4 at HX HB HV HO3 HNB ⊢
        obtain ⟨y, hy⟩ : ∃ y, wz2.heap.size = y := ⟨_, rfl⟩
        rw [hy] at HNB HY ⊢
        have HS : Aside0 (SS W4 w y n A c xs.length (.slice Aa (pairsL xs).length ca) (pairsL xs) (.slice A3 0 0) [] 0 (-1) t false (.slice none 0 0) [] []) := ⟨⟨HNB.out, HY.out, HV.out, HO3.out, Kd.R_nil _ _ _ _ _, VI.nil _ _, HB.out⟩⟩
        have HL5 : Aside0 (PO (W4.alloc (.cells #[] 73)) w.heap.size (.slice (some ⟨W4.heap.size, 0, none⟩) 0 0) []) := ⟨PO.made W4 w.heap.size 0 #[] HB.out.size (Nat.zero_le _) rfl⟩
        have HS5 := Aside0.mk (HS.out.below (below_alloc (Below.refl _ _) (.cells #[] 73)))
        have HGO := Aside0.mk (gb_all w y n A c xs (.slice Aa (pairsL xs).length ca) (pairsL xs) t (.slice none 0 0) [] [] HR.out HC.out HI.out (by omega) (pairs_rngS HI.out) ((pairsL xs).length - 0) [] ⟨-1, []⟩ 0 (.slice (some ⟨W4.heap.size, 0, none⟩) 0 0) 0 (W4.alloc (.cells #[] 73)) (.slice A3 0 0) HS5.out HL5.out hpn (Nat.zero_le _) rfl)
        clear HX HB HV HO3 HNB HY HS HL5 HS5 hy hpn hw64t
        go_wp2_with (go_at_call 126; refine HGO.out.mono ?_; rintro e w6 ⟨rfl, ⟨vb, ct, hs⟩, hk⟩; have HS6 := Aside0.mk hs; have hc3 := hs.c3; clear hs hk HGO)
        go_ret
        rw [← HRR.out]
        exact ⟨_, rfl, HS6.out.rb, HS6.out.hb⟩
def limS (n : Int) (xs : List Int) (m : Int) : Int := if isC n xs = true then (if (xs.length : Int) > m then 3 else 0) else 1
theorem ev_limS (n : Int) {xs : List Int} (hx : xs.length ≤ 1048576) (m : Int) : Ev (fun k => QS.spec_l08Limit.f k n xs m) (limS n xs m) := by
  unfold QS.spec_l08Limit.f limS
  refine Ev.bind (ev_is n (Nat.le_trans hx (by decide))) ?_
  cases isC n xs with
  | false => exact Ev.now _
  | true =>
    by_cases h : (xs.length : Int) > m
    · simp only [if_true, if_pos h]; exact Ev.now _
    · simp only [if_true, if_neg h]; exact Ev.now _
theorem limS_zero {n : Int} {xs : List Int} {m : Int} (h : limS n xs m = 0) : isC n xs = true := by
  unfold limS at h
  by_cases hi : isC n xs = true
  · exact hi
  · rw [if_neg hi] at h; exact absurd h (by decide)
def bestS (n : Int) (xs : List Int) : List Pr × Int := if limS n xs 20 = 0 then (bestB xs (pairsL xs) (topN xs), 0) else ([], limS n xs 20)
theorem best_len {n : Int} {xs : List Int} (hi : isC n xs = true) : (bestB xs (pairsL xs) (topN xs)).length ≤ 600 := by
  unfold bestB
  have hu : updB ⟨-1, []⟩ [] = ⟨0, []⟩ := rfl
  rw [hu, loop_scan (pairsL xs) [] _ (pairs_sorted hi) (Bef.nil _) (pairs_rngS hi)]
  have h1 := scan_spec (top := (topN xs : Int)) (subsL xs (pairsL xs) []) ⟨0, []⟩
  have h2 := scan_top (xs := xs) (top := (topN xs : Int)) (pairsL xs) [] ⟨0, []⟩ (pairs_sorted hi) (Bef.nil _) (by simp) (by simp)
  have h3 := (top_eq hi).2
  rcases h1.1 with h | h
  · rw [h]; simp
  · have := h.2.1; omega
set_option maxRecDepth 100000 in
set_option maxHeartbeats 8000000 in
theorem bestSp_c (n : Int) (A : Option Addr) (c : Nat) (xs : List Int) (w : World) (hr : RC w A xs.length xs) (hc : xs.length ≤ c) (hx : xs.length ≤ 1048576) :
    Calls Try.prog 42 #[.agg #[.int .i64 n, .slice A xs.length c]] w fun e w' => ∃ v : Value, e = .returned (.tuple #[v, .int .i64 (bestS n xs).2]) ∧ PO w' w.heap.size v (bestS n xs).1 ∧ Below w.heap.size w w' := by
  have HX := Aside0.mk (CxAt.new w n A xs.length c)
  have HB := Aside0.mk (below_alloc (Below.refl w.heap.size w) (.cells #[.int .i64 n, .slice A xs.length c] 28))
  have HR := Aside0.mk hr
  have HC := Aside0.mk hc
  have hx0 := HX.out.c0
  have hx1 := HX.out.c1
  obtain ⟨kl, hkl⟩ := (ev_limS n hx 20).rounds
  have HKL := Aside0.mk hkl
  obtain ⟨R, hR⟩ : ∃ R, bestS n xs = R := ⟨_, rfl⟩
  rw [hR]
  clear hr hc hkl
  by_cases hz : limS n xs 20 = 0
  · have hi := limS_zero hz
    obtain rfl : R = (bestB xs (pairsL xs) (topN xs), 0) := by rw [← hR]; unfold bestS; rw [if_pos hz]
    rw [hz] at HKL
    have HI := Aside0.mk hi
    clear hz hi hR
    go_enter Try.func42, Try.ntmps42
    go_wp2_with (first
      | (go_at_call 75; refine (QS.spec_l08Limit.calls kl n A c xs 20 0 _ (Kd.C_below HR.out HB.out) HC.out HKL.out).mono ?_; rintro e w1 ⟨rfl, hb⟩; have HB1 := Aside0.mk (below_in HB.out hb); have HX1 := Aside0.mk (HX.out.below hb); have hy0 := HX1.out.c0; have hy1 := HX1.out.c1; clear hb hx0 hx1)
      | (go_at_call 93; refine (bestS_c n A c xs _ (Kd.C_below HR.out HB1.out) HC.out HI.out).mono ?_; rintro e w2 ⟨v, rfl, hv, hb⟩; have HV2 := Aside0.mk (Kd.R_lower hv HB1.out.size); have HB2 := Aside0.mk (below_in HB1.out hb); clear hv hb hy0 hy1))
    go_ret2
    exact ⟨_, rfl, HV2.out, HB2.out⟩
  · obtain rfl : R = ([], limS n xs 20) := by rw [← hR]; unfold bestS; rw [if_neg hz]
    obtain ⟨z, hzz⟩ : ∃ z, limS n xs 20 = z := ⟨_, rfl⟩
    rw [hzz] at HKL hz ⊢
    have hz1 : (z == 0) = false := beq_eq_false_iff_ne.2 hz
    clear hR hzz
    go_enter Try.func42, Try.ntmps42
    go_wp2_with (go_at_call 75; refine (QS.spec_l08Limit.calls kl n A c xs 20 z _ (Kd.C_below HR.out HB.out) HC.out HKL.out).mono ?_; rintro e w1 ⟨rfl, hb⟩; have HB1 := Aside0.mk (below_in HB.out hb); clear hb)
    go_ret2
    exact ⟨_, rfl, Kd.R_nil _ _ _ _ _, HB1.out⟩
end Go.Proofs.Ytomdfjohnmikdaa.Im
namespace Go.Proofs.Ytomdfjohnmikdaa.Ext
open Go.RowKit Im Pu Kp YtomdfjohnmikdaaW.PrintWords YtomdfjohnmikdaaW.PrintLast YtomdfjohnmikdaaW.PrintMore
def impl_BestPairing.f (a0_0 : Int) (l0_1 : List Int) : Option (List S73 × Int) := if l0_1.length ≤ 1048576 then some (bestI a0_0 l0_1) else none
theorem impl_BestPairing.calls (a0_0 : Int) (A0_1 : Option Addr) (c0_1 : Nat) (l0_1 : List Int) (r1 : List S73) (r2 : Int) (w : World) (hr0_1 : Kd.C (Kd.int .i64) w A0_1 l0_1.length l0_1) (_hc0_1 : l0_1.length ≤ c0_1) (h : impl_BestPairing.f a0_0 l0_1 = some (r1, r2)) :
    Calls Try.prog 43 #[.agg #[.int .i64 a0_0, .slice A0_1 l0_1.length c0_1]] w fun e w' => ∃ v0_ : Value, e = .returned (.tuple #[v0_, .int .i64 r2]) ∧ Kd.R k73 73 w' w.heap.size (fun _ => True) v0_ r1 ∧ Below w.heap.size w w' := by
  unfold impl_BestPairing.f at h
  by_cases hl : l0_1.length ≤ 1048576
  · rw [if_pos hl] at h
    have hd := Option.some.inj h
    have := bestI_c a0_0 A0_1 c0_1 l0_1 w hr0_1 _hc0_1 hl
    rw [hd] at this
    exact this
  · rw [if_neg hl] at h; cases h
def spec_BestPairing.f (a0_0 : Int) (l0_1 : List Int) : Option (List S73 × Int) := if l0_1.length ≤ 1048576 then some (bestS a0_0 l0_1) else none
theorem spec_BestPairing.calls (a0_0 : Int) (A0_1 : Option Addr) (c0_1 : Nat) (l0_1 : List Int) (r1 : List S73) (r2 : Int) (w : World) (hr0_1 : Kd.C (Kd.int .i64) w A0_1 l0_1.length l0_1) (_hc0_1 : l0_1.length ≤ c0_1) (h : spec_BestPairing.f a0_0 l0_1 = some (r1, r2)) :
    Calls Try.prog 42 #[.agg #[.int .i64 a0_0, .slice A0_1 l0_1.length c0_1]] w fun e w' => ∃ v0_ : Value, e = .returned (.tuple #[v0_, .int .i64 r2]) ∧ Kd.R k73 73 w' w.heap.size (fun _ => True) v0_ r1 ∧ Below w.heap.size w w' := by
  unfold spec_BestPairing.f at h
  by_cases hl : l0_1.length ≤ 1048576
  · rw [if_pos hl] at h
    have hd := Option.some.inj h
    have := bestSp_c a0_0 A0_1 c0_1 l0_1 w hr0_1 _hc0_1 hl
    rw [hd] at this
    exact this
  · rw [if_neg hl] at h; cases h
end Go.Proofs.Ytomdfjohnmikdaa.Ext
namespace Go.Proofs.Ytomdfjohnmikdaa.QFnExactBestPairing
open Cw Kp Ext QS Go.RowKit YtomdfjohnmikdaaW.PrintWords YtomdfjohnmikdaaW.PrintLast YtomdfjohnmikdaaW.PrintMore
attribute [local go_sem] max2_int min2_int max_two min_two max_three min_three max_four min_four   -- for this text's walks alone
theorem info2 : (Try.prog.info? 2).map (fun i => (i.zero, i.size, i.bytes)) = some (some (.int .i64 0), 1, 8) := by kernel_rfl
def laws_FnExactBestPairing.f (k : Nat) (a0_0 : Int) (l0_1 : List Int) : Option (Bool) := (laws_szComplex.f a0_0 l0_1 1048576).bind fun t127 => (if t127 < 0 then (some true) else ((laws_toComplex.f k a0_0 l0_1).bind fun bt128 => ((spec_BestPairing.f bt128.1 bt128.2).bind fun bt132 => ((laws_toComplex.f k a0_0 l0_1).bind fun bt136 => ((impl_BestPairing.f bt136.1 bt136.2).bind fun bt141 => ((laws_eqPairS.f k bt141.1 bt132.1).bind fun t145 => (if t145 = true then (if bt141.2 = bt132.2 then ((laws_toComplex.f k a0_0 l0_1).bind fun bt146 => ((laws_eqComplex.f k bt136.1 bt136.2 bt146.1 bt146.2).bind fun t150 => (if t150 = true then ((laws_markComplex.f k bt136.1 bt136.2 1).bind fun bt151 => (if bt151.1 < 0 then (none) else ((laws_eqPairS.f k bt141.1 bt132.1).bind fun t153 => (if t153 = true then ((laws_markPairS.f bt141.1 1).bind fun bt154 => ((laws_heldPairS.f bt154.2 1).bind fun t156 => (if t156 < 0 then (none) else (if t156 = bt154.1 then ((laws_toComplex.f k a0_0 l0_1).bind fun bt157 => ((impl_BestPairing.f bt157.1 bt157.2).bind fun bt161 => ((laws_eqPairS.f k bt161.1 bt132.1).bind fun t165 => (if t165 = true then (if bt161.2 = bt132.2 then ((laws_heldPairS.f bt154.2 1).bind fun t166 => (if t166 < 0 then (none) else (if t166 = bt154.1 then (some true) else (none)))) else (none)) else (none))))) else (none))))) else (none))))) else (none)))) else (none)) else (none))))))))
set_option maxHeartbeats 8000000 in
set_option maxRecDepth 100000 in
theorem laws_FnExactBestPairing.calls (k : Nat) (a0_0 : Int) (A0_1 : Option Addr) (c0_1 : Nat) (l0_1 : List Int) (r : Bool) (w : World) (hr0_1 : Kd.C (Kd.int .i64) w A0_1 l0_1.length l0_1) (hc0_1 : l0_1.length ≤ c0_1) (h : laws_FnExactBestPairing.f k a0_0 l0_1 = some r) :
  Calls Try.prog 11 #[.agg #[.int .i64 a0_0, .slice A0_1 l0_1.length c0_1]] w fun e w' => e = .returned (.bool r) ∧ Below w.heap.size w w' := by
 have hu24 := Try.underlying24
 have hu28 := Try.underlying28
 have HR0_1 := Aside0.mk hr0_1
 have HC0_1 := Aside0.mk hc0_1
 clear hr0_1 hc0_1
 have HB := Aside0.mk (Below.refl w.heap.size w)
 have H : ((laws_szComplex.f a0_0 l0_1 1048576).bind fun t127 => (if t127 < 0 then (some true) else ((laws_toComplex.f k a0_0 l0_1).bind fun bt128 => ((spec_BestPairing.f bt128.1 bt128.2).bind fun bt132 => ((laws_toComplex.f k a0_0 l0_1).bind fun bt136 => ((impl_BestPairing.f bt136.1 bt136.2).bind fun bt141 => ((laws_eqPairS.f k bt141.1 bt132.1).bind fun t145 => (if t145 = true then (if bt141.2 = bt132.2 then ((laws_toComplex.f k a0_0 l0_1).bind fun bt146 => ((laws_eqComplex.f k bt136.1 bt136.2 bt146.1 bt146.2).bind fun t150 => (if t150 = true then ((laws_markComplex.f k bt136.1 bt136.2 1).bind fun bt151 => (if bt151.1 < 0 then (none) else ((laws_eqPairS.f k bt141.1 bt132.1).bind fun t153 => (if t153 = true then ((laws_markPairS.f bt141.1 1).bind fun bt154 => ((laws_heldPairS.f bt154.2 1).bind fun t156 => (if t156 < 0 then (none) else (if t156 = bt154.1 then ((laws_toComplex.f k a0_0 l0_1).bind fun bt157 => ((impl_BestPairing.f bt157.1 bt157.2).bind fun bt161 => ((laws_eqPairS.f k bt161.1 bt132.1).bind fun t165 => (if t165 = true then (if bt161.2 = bt132.2 then ((laws_heldPairS.f bt154.2 1).bind fun t166 => (if t166 < 0 then (none) else (if t166 = bt154.1 then (some true) else (none)))) else (none)) else (none))))) else (none))))) else (none))))) else (none)))) else (none)) else (none))))))))) = some r := h
 clear h
 replace H := Option.bind_eq_some_iff.mp H
 obtain ⟨t127, A20, H⟩ := H
 try dsimp only at H
 have A2 := Aside0.mk A20
 clear A20
 by_cases c3 : t127 < 0
 ·rw [if_pos c3] at H
  have c3b0 : decide (t127 < 0) = true := decide_eq_true c3
  clear c3
  obtain rfl := Option.some.inj H
  go_enter Try.func11, Try.ntmps11
  go_wp2_with (first | ((with_reducible refine gate_dst (N := 1) rfl ?_); refine box_event ?hg (N := 1) ?hd (cs := #[.int .i64 a0_0, .slice A0_1 l0_1.length c0_1]) (t := 24) ?hr ?_; (case hd => rfl); (case hg => rfl); (case hr => first | (go_simp; done) | (go_simp; rfl)); intro gb126 hg w4 hbox hb; have BK126 := Aside0.mk (hbox); have GW126 := gH HB hg; have GE126 := gH HB hg; replace HB := sH HB hb; clear hb hbox hg; have hcz5_0 : w4.cell? ⟨gb126, 0, none⟩ = some (.int .i64 a0_0) := cB BK126 0; have hcz5_1 : w4.cell? ⟨gb126, 1, none⟩ = some (.slice A0_1 l0_1.length c0_1) := cB BK126 1; have hfz5_0 := zB BK126 0; have hfz5_1 := zB BK126 1) | ((with_reducible refine gate_callee (f := 13) rfl ?_); refine cl_ (some 16) Try.func13 #[.agg #[.int .i64 a0_0, .slice A0_1 l0_1.length c0_1], .int .i64 1048576] ?_; (with_reducible refine (laws_szComplex.calls a0_0 _ _ l0_1 1048576 t127 _ ?side1 ?side2 A2.out).mono ?_); (case side1 => exact pC ((Kd.C_below HR0_1.out HB.out))); (case side2 => exact HC0_1.out); rintro e w6 ⟨rfl, hb⟩; refine ⟨_, rfl, ?_⟩; replace BK126 := sB BK126 hb; replace HB := sH HB hb; (try clear hb); (try clear hi)))
  go_ret
  exact ⟨by first | rfl | (simp [errW_none, errW_some] <;> rfl) | (simp [*, errW_none, errW_some] <;> rfl) | (exfalso; simp_all), pH HB⟩
 ·rw [if_neg c3] at H
  have c3b0 : decide (t127 < 0) = false := decide_eq_false c3
  clear c3
  replace H := Option.bind_eq_some_iff.mp H
  obtain ⟨⟨t128, t129⟩, A70, H⟩ := H
  try dsimp only at H
  have A7 := Aside0.mk A70
  clear A70
  replace H := Option.bind_eq_some_iff.mp H
  obtain ⟨⟨t132, t135⟩, A80, H⟩ := H
  try dsimp only at H
  have A8 := Aside0.mk A80
  clear A80
  replace H := Option.bind_eq_some_iff.mp H
  obtain ⟨⟨t136, t137⟩, A90, H⟩ := H
  try dsimp only at H
  have A9 := Aside0.mk A90
  clear A90
  replace H := Option.bind_eq_some_iff.mp H
  obtain ⟨⟨t141, t144⟩, A100, H⟩ := H
  try dsimp only at H
  have A10 := Aside0.mk A100
  clear A100
  replace H := Option.bind_eq_some_iff.mp H
  obtain ⟨t145, A110, H⟩ := H
  try dsimp only at H
  have A11 := Aside0.mk A110
  clear A110
  by_cases c12 : t145 = true
  ·subst c12
   have H1 : (if t144 = t135 then ((laws_toComplex.f k a0_0 l0_1).bind fun bt146 => ((laws_eqComplex.f k t136 t137 bt146.1 bt146.2).bind fun t150 => (if t150 = true then ((laws_markComplex.f k t136 t137 1).bind fun bt151 => (if bt151.1 < 0 then (none) else ((laws_eqPairS.f k t141 t132).bind fun t153 => (if t153 = true then ((laws_markPairS.f t141 1).bind fun bt154 => ((laws_heldPairS.f bt154.2 1).bind fun t156 => (if t156 < 0 then (none) else (if t156 = bt154.1 then ((laws_toComplex.f k a0_0 l0_1).bind fun bt157 => ((impl_BestPairing.f bt157.1 bt157.2).bind fun bt161 => ((laws_eqPairS.f k bt161.1 t132).bind fun t165 => (if t165 = true then (if bt161.2 = t135 then ((laws_heldPairS.f bt154.2 1).bind fun t166 => (if t166 < 0 then (none) else (if t166 = bt154.1 then (some true) else (none)))) else (none)) else (none))))) else (none))))) else (none))))) else (none)))) else (none)) = some r := by rw [if_pos rfl] at H; exact H
   clear H
   have H := H1
   clear H1
   by_cases c13 : t144 = t135
   ·rw [if_pos c13] at H
    have c13b0 : (t144 == t135) = true := beq_iff_eq.mpr c13
    have c13b1 : (t144 != t135) = false := bne_eq_false_iff_eq.mpr c13
    clear c13
    replace H := Option.bind_eq_some_iff.mp H
    obtain ⟨⟨t146, t147⟩, A140, H⟩ := H
    try dsimp only at H
    have A14 := Aside0.mk A140
    clear A140
    replace H := Option.bind_eq_some_iff.mp H
    obtain ⟨t150, A150, H⟩ := H
    try dsimp only at H
    have A15 := Aside0.mk A150
    clear A150
    by_cases c16 : t150 = true
    ·subst c16
     have H1 : ((laws_markComplex.f k t136 t137 1).bind fun bt151 => (if bt151.1 < 0 then (none) else ((laws_eqPairS.f k t141 t132).bind fun t153 => (if t153 = true then ((laws_markPairS.f t141 1).bind fun bt154 => ((laws_heldPairS.f bt154.2 1).bind fun t156 => (if t156 < 0 then (none) else (if t156 = bt154.1 then ((laws_toComplex.f k a0_0 l0_1).bind fun bt157 => ((impl_BestPairing.f bt157.1 bt157.2).bind fun bt161 => ((laws_eqPairS.f k bt161.1 t132).bind fun t165 => (if t165 = true then (if bt161.2 = t135 then ((laws_heldPairS.f bt154.2 1).bind fun t166 => (if t166 < 0 then (none) else (if t166 = bt154.1 then (some true) else (none)))) else (none)) else (none))))) else (none))))) else (none))))) = some r := by rw [if_pos rfl] at H; exact H
     clear H
     have H := H1
     clear H1
     replace H := Option.bind_eq_some_iff.mp H
     obtain ⟨⟨t151, t152⟩, A170, H⟩ := H
     try dsimp only at H
     have A17 := Aside0.mk A170
     clear A170
     by_cases c18 : t151 < 0
     ·rw [if_pos c18] at H
      exact absurd H (by simp)
     ·rw [if_neg c18] at H
      have c18b0 : decide (t151 < 0) = false := decide_eq_false c18
      clear c18
      replace H := Option.bind_eq_some_iff.mp H
      obtain ⟨t153, A190, H⟩ := H
      try dsimp only at H
      have A19 := Aside0.mk A190
      clear A190
      by_cases c20 : t153 = true
      ·subst c20
       have H1 : ((laws_markPairS.f t141 1).bind fun bt154 => ((laws_heldPairS.f bt154.2 1).bind fun t156 => (if t156 < 0 then (none) else (if t156 = bt154.1 then ((laws_toComplex.f k a0_0 l0_1).bind fun bt157 => ((impl_BestPairing.f bt157.1 bt157.2).bind fun bt161 => ((laws_eqPairS.f k bt161.1 t132).bind fun t165 => (if t165 = true then (if bt161.2 = t135 then ((laws_heldPairS.f bt154.2 1).bind fun t166 => (if t166 < 0 then (none) else (if t166 = bt154.1 then (some true) else (none)))) else (none)) else (none))))) else (none))))) = some r := by rw [if_pos rfl] at H; exact H
       clear H
       have H := H1
       clear H1
       replace H := Option.bind_eq_some_iff.mp H
       obtain ⟨⟨t154, t155⟩, A210, H⟩ := H
       try dsimp only at H
       have A21 := Aside0.mk A210
       clear A210
       replace H := Option.bind_eq_some_iff.mp H
       obtain ⟨t156, A220, H⟩ := H
       try dsimp only at H
       have A22 := Aside0.mk A220
       clear A220
       by_cases c23 : t156 < 0
       ·rw [if_pos c23] at H
        exact absurd H (by simp)
       ·rw [if_neg c23] at H
        have c23b0 : decide (t156 < 0) = false := decide_eq_false c23
        clear c23
        by_cases c24 : t156 = t154
        ·rw [if_pos c24] at H
         have c24b0 : (t156 == t154) = true := beq_iff_eq.mpr c24
         have c24b1 : (t156 != t154) = false := bne_eq_false_iff_eq.mpr c24
         clear c24
         replace H := Option.bind_eq_some_iff.mp H
         obtain ⟨⟨t157, t158⟩, A250, H⟩ := H
         try dsimp only at H
         have A25 := Aside0.mk A250
         clear A250
         replace H := Option.bind_eq_some_iff.mp H
         obtain ⟨⟨t161, t164⟩, A260, H⟩ := H
         try dsimp only at H
         have A26 := Aside0.mk A260
         clear A260
         replace H := Option.bind_eq_some_iff.mp H
         obtain ⟨t165, A270, H⟩ := H
         try dsimp only at H
         have A27 := Aside0.mk A270
         clear A270
         by_cases c28 : t165 = true
         ·subst c28
          have H1 : (if t164 = t135 then ((laws_heldPairS.f t155 1).bind fun t166 => (if t166 < 0 then (none) else (if t166 = t154 then (some true) else (none)))) else (none)) = some r := by rw [if_pos rfl] at H; exact H
          clear H
          have H := H1
          clear H1
          by_cases c29 : t164 = t135
          ·rw [if_pos c29] at H
           have c29b0 : (t164 == t135) = true := beq_iff_eq.mpr c29
           have c29b1 : (t164 != t135) = false := bne_eq_false_iff_eq.mpr c29
           clear c29
           replace H := Option.bind_eq_some_iff.mp H
           obtain ⟨t166, A300, H⟩ := H
           try dsimp only at H
           have A30 := Aside0.mk A300
           clear A300
           by_cases c31 : t166 < 0
           ·rw [if_pos c31] at H
            exact absurd H (by simp)
           ·rw [if_neg c31] at H
            have c31b0 : decide (t166 < 0) = false := decide_eq_false c31
            clear c31
            by_cases c32 : t166 = t154
            ·rw [if_pos c32] at H
             have c32b0 : (t166 == t154) = true := beq_iff_eq.mpr c32
             have c32b1 : (t166 != t154) = false := bne_eq_false_iff_eq.mpr c32
             clear c32
             obtain rfl := Option.some.inj H
             go_enter Try.func11, Try.ntmps11
             try go_wp2_with (first | ((with_reducible refine gate_dst (N := 1) rfl ?_); refine box_event ?hg (N := 1) ?hd (cs := #[.int .i64 a0_0, .slice A0_1 l0_1.length c0_1]) (t := 24) ?hr ?_; (case hd => rfl); (case hg => rfl); (case hr => first | (go_simp; done) | (go_simp; rfl)); intro gb126 hg w33 hbox hb; have BK126 := Aside0.mk (hbox); have GW126 := gH HB hg; have GE126 := gH HB hg; replace HB := sH HB hb; clear hb hbox hg; have hcz34_0 : w33.cell? ⟨gb126, 0, none⟩ = some (.int .i64 a0_0) := cB BK126 0; have hcz34_1 : w33.cell? ⟨gb126, 1, none⟩ = some (.slice A0_1 l0_1.length c0_1) := cB BK126 1; have hfz34_0 := zB BK126 0; have hfz34_1 := zB BK126 1) | ((with_reducible refine gate_callee (f := 13) rfl ?_); refine cl_ (some 16) Try.func13 #[.agg #[.int .i64 a0_0, .slice A0_1 l0_1.length c0_1], .int .i64 1048576] ?_; (with_reducible refine (laws_szComplex.calls a0_0 _ _ l0_1 1048576 t127 _ ?side1 ?side2 A2.out).mono ?_); (case side1 => exact pC ((Kd.C_below HR0_1.out HB.out))); (case side2 => exact HC0_1.out); rintro e w35 ⟨rfl, hb⟩; refine ⟨_, rfl, ?_⟩; replace BK126 := sB BK126 hb; replace HB := sH HB hb; (try clear hb); (try clear hi); have hcz36_0 : w35.cell? ⟨gb126, 0, none⟩ = some (.int .i64 a0_0) := cB BK126 0; have hcz36_1 : w35.cell? ⟨gb126, 1, none⟩ = some (.slice A0_1 l0_1.length c0_1) := cB BK126 1; have hfz36_0 := zB BK126 0; have hfz36_1 := zB BK126 1) | ((with_reducible refine gate_callee (f := 15) rfl ?_); refine cl_ (some 21) Try.func15 #[.agg #[.int .i64 a0_0, .slice A0_1 l0_1.length c0_1]] ?_; (with_reducible refine (laws_toComplex.calls k a0_0 _ _ l0_1 t128 t129 _ ?side1 ?side2 A7.out).mono ?_); (case side1 => exact pC ((Kd.C_below HR0_1.out HB.out))); (case side2 => exact HC0_1.out); rintro e w37 ⟨v130, rfl, ho0, hb⟩; refine ⟨_, rfl, ?_⟩; have HO131 := Aside0.mk (Kd.R_lower ho0 (below_size (pH HB))); replace BK126 := sB BK126 hb; replace HB := sH HB hb; (try clear hb); (try clear hi); (try clear ho0); obtain ⟨Ao38, co38, eo38⟩ := Kd.R_slice HO131.out; subst eo38) | ((with_reducible refine gate_callee (f := 42) rfl ?_); refine cl_ (some 22) Try.func42 #[.agg #[.int .i64 t128, .slice Ao38 t129.length co38]] ?_; (with_reducible refine (spec_BestPairing.calls t128 _ _ t129 t132 t135 _ ?side1 ?side2 A8.out).mono ?_); (case side1 => exact pC ((Kd.R_reads' HO131.out).2.2)); (case side2 => exact (Kd.R_reads' HO131.out).2.1); rintro e w39 ⟨v133, rfl, ho0, hb⟩; refine ⟨_, rfl, ?_⟩; replace HO131 := sR HO131 hb; have HO134 := Aside0.mk (Kd.R_lower ho0 (below_size (pH HB))); replace BK126 := sB BK126 hb; replace HB := sH HB hb; (try clear hb); (try clear hi); (try clear ho0); have hcz40_0 : w39.cell? ⟨gb126, 0, none⟩ = some (.int .i64 a0_0) := cB BK126 0; have hcz40_1 : w39.cell? ⟨gb126, 1, none⟩ = some (.slice A0_1 l0_1.length c0_1) := cB BK126 1; have hfz40_0 := zB BK126 0; have hfz40_1 := zB BK126 1) | ((with_reducible refine gate_callee (f := 15) rfl ?_); refine cl_ (some 26) Try.func15 #[.agg #[.int .i64 a0_0, .slice A0_1 l0_1.length c0_1]] ?_; (with_reducible refine (laws_toComplex.calls k a0_0 _ _ l0_1 t136 t137 _ ?side1 ?side2 A9.out).mono ?_); (case side1 => exact pC ((Kd.C_below HR0_1.out HB.out))); (case side2 => exact HC0_1.out); rintro e w41 ⟨v138, rfl, ho0, hb⟩; refine ⟨_, rfl, ?_⟩; replace HO134 := sR HO134 hb; have HO139 := Aside0.mk (Kd.R_lower (Kd.R_new' ho0 (Kd.R_lt (pR HO131))) (below_size (pH HB))); replace HO131 := Aside0.mk (Kd.R_elder' (pR HO131) (Kd.R_base ho0) hb); replace BK126 := sB BK126 hb; replace HB := sH HB hb; (try clear hb); (try clear hi); (try clear ho0)) | ((with_reducible refine gate_dst (N := 6) rfl ?_); refine box_event ?hg (N := 6) ?hd (cs := #[.int .i64 0, .slice none 0 0]) (t := 28) ?hr ?_; (case hd => rfl); (case hg => rfl); (case hr => first | (go_simp; done) | (go_simp; rfl)); intro gb140 hg w42 hbox hb; replace HO131 := sR HO131 hb; replace HO134 := sR HO134 hb; replace HO139 := sR HO139 hb; have BK140 := Aside0.mk (hbox); have GW140 := gH HB hg; have GE140 := gH HB hg; replace HB := sH HB hb; have NB126_140 := nB BK126 hg; have NB140_126 := oB BK126 hg; replace BK126 := sB BK126 hb; clear hb hbox hg; (try have hnb43 := NB140_126.out); (try have hnc43 := NB126_140.out); have hcz44_0 : w42.cell? ⟨gb140, 0, none⟩ = some (.int .i64 0) := cB BK140 0; have hcz44_1 : w42.cell? ⟨gb140, 1, none⟩ = some (.slice none 0 0) := cB BK140 1; have hfz44_0 := zB BK140 0; have hfz44_1 := zB BK140 1; obtain ⟨Ao45, co45, eo45⟩ := Kd.R_slice HO139.out; subst eo45) | ((with_reducible refine gate_callee (f := 43) rfl ?_); refine cl_ (some 29) Try.func43 #[.agg #[.int .i64 t136, .slice Ao45 t137.length co45]] ?_; (with_reducible refine (impl_BestPairing.calls t136 _ _ t137 t141 t144 _ ?side1 ?side2 A10.out).mono ?_); (case side1 => refine (Kd.R_reads' (e := 2) (base := w.heap.size) (ok := fun k_ => (True ∧ some k_ ≠ (.slice Ao38 t129.length co38 : Value).ownBlock)) (n := t137.length) (c := co45) ?_).2.2; exact (by (with_reducible repeat (first | apply Kd.R_alloc | apply Kd.R_drewN | apply Kd.R_drew)); exact (Kd.R_mono (Kd.R_far (p := ⟨gb140, 1, none⟩) (Kd.R_far (p := ⟨gb140, 0, none⟩) (Kd.R_types HO139.out BK140.out (by decide)) (fun _ hk => hk.2) (.int .i64 t136)) (fun _ hk => hk.2) (.slice Ao45 t137.length co45)) (fun _ h_ => h_.1)))); (case side2 => exact (Kd.R_reads' HO139.out).2.1); rintro e w46 ⟨v142, rfl, ho0, hb⟩; refine ⟨_, rfl, ?_⟩; have n0_ := Aside0.mk (Kd.R_below (by (with_reducible repeat (first | apply Kd.R_alloc | apply Kd.R_drewN | apply Kd.R_drew)); exact (Kd.R_mono (Kd.R_far (p := ⟨gb140, 1, none⟩) (Kd.R_far (p := ⟨gb140, 0, none⟩) (Kd.R_types HO131.out BK140.out (by decide)) (fun _ hk => hk.2) (.int .i64 t136)) (fun _ hk => hk.2) (.slice Ao45 t137.length co45)) (fun _ h_ => h_.1))) hb); have n1_ := Aside0.mk (Kd.R_elder' (by (with_reducible repeat (first | apply Kd.R_alloc | apply Kd.R_drewN | apply Kd.R_drew)); exact (Kd.R_mono (Kd.R_far (p := ⟨gb140, 1, none⟩) (Kd.R_far (p := ⟨gb140, 0, none⟩) (Kd.R_types HO134.out BK140.out (by decide)) (fun _ hk => hk.2) (.int .i64 t136)) (fun _ hk => hk.2) (.slice Ao45 t137.length co45)) (fun _ h_ => h_.1))) (Kd.R_base ho0) hb); have n2_ := Aside0.mk (Kd.R_below (by (with_reducible repeat (first | apply Kd.R_alloc | apply Kd.R_drewN | apply Kd.R_drew)); exact (Kd.R_mono (Kd.R_far (p := ⟨gb140, 1, none⟩) (Kd.R_far (p := ⟨gb140, 0, none⟩) (Kd.R_types HO139.out BK140.out (by decide)) (fun _ hk => hk.2) (.int .i64 t136)) (fun _ hk => hk.2) (.slice Ao45 t137.length co45)) (fun _ h_ => h_.1))) hb); have n3_ := Aside0.mk (Kd.R_lower (Kd.R_new' ho0 (Kd.R_lt (by (with_reducible repeat (first | apply Kd.R_alloc | apply Kd.R_drewN | apply Kd.R_drew)); exact (Kd.R_mono (Kd.R_far (p := ⟨gb140, 1, none⟩) (Kd.R_far (p := ⟨gb140, 0, none⟩) (Kd.R_types HO134.out BK140.out (by decide)) (fun _ hk => hk.2) (.int .i64 t136)) (fun _ hk => hk.2) (.slice Ao45 t137.length co45)) (fun _ h_ => h_.1))))) (below_size (pH HB))); have n4_ := Aside0.mk (blk_below (g := gb126) (o := .cells #[.int .i64 a0_0, .slice A0_1 l0_1.length c0_1] 24 (0, 0)) (by (with_reducible repeat (first | refine blk_drewN ?_ _ | refine blk_drew ?_ | refine blk_alloc ?_ _)); refine blk_far ?_ NB126_140.out _; (with_reducible repeat (first | refine blk_drewN ?_ _ | refine blk_drew ?_ | refine blk_alloc ?_ _)); refine blk_far ?_ NB126_140.out _; (with_reducible repeat (first | refine blk_drewN ?_ _ | refine blk_drew ?_ | refine blk_alloc ?_ _)); exact BK126.out) hb); have n5_ := Aside0.mk (blk_below (g := gb140) (o := .cells #[.int .i64 t136, .slice Ao45 t137.length co45] 28 (0, 0)) (by (with_reducible repeat (first | refine blk_drewN ?_ _ | refine blk_drew ?_ | refine blk_alloc ?_ _)); refine blk_put (cs := #[.int .i64 t136, .slice none 0 0]) ?_ 1 _ rfl; (with_reducible repeat (first | refine blk_drewN ?_ _ | refine blk_drew ?_ | refine blk_alloc ?_ _)); refine blk_put (cs := #[.int .i64 0, .slice none 0 0]) ?_ 0 _ rfl; (with_reducible repeat (first | refine blk_drewN ?_ _ | refine blk_drew ?_ | refine blk_alloc ?_ _)); exact BK140.out) hb); have n6_ := sH HB hb; clear HO131; clear HO134; clear HO139; clear BK126; clear BK140; clear HB; have HO131 := n0_; have HO134 := n1_; have HO139 := n2_; have HO143 := n3_; have BK126 := n4_; have BK140 := n5_; have HB := n6_; clear n0_ n1_ n2_ n3_ n4_ n5_ n6_; (try clear hb); (try clear hi); (try clear ho0); obtain ⟨Ao47, co47, eo47⟩ := Kd.R_slice HO143.out; subst eo47; obtain ⟨Ao48, co48, eo48⟩ := Kd.R_slice HO134.out; subst eo48) | ((with_reducible refine gate_callee (f := 27) rfl ?_); refine cl_ (some 34) Try.func27 #[.slice Ao47 t141.length co47, .slice Ao48 t132.length co48] ?_; (with_reducible refine (laws_eqPairS.calls k _ _ t141 _ _ t132 true _ ?side1 ?side2 ?side3 ?side4 A11.out).mono ?_); (case side1 => exact pC ((Kd.R_reads' HO143.out).2.2)); (case side2 => exact (Kd.R_reads' HO143.out).2.1); (case side3 => exact pC ((Kd.R_reads' HO134.out).2.2)); (case side4 => exact (Kd.R_reads' HO134.out).2.1); rintro e w49 ⟨rfl, hb⟩; refine ⟨_, rfl, ?_⟩; replace HO131 := sR HO131 hb; replace HO134 := sR HO134 hb; replace HO139 := sR HO139 hb; replace HO143 := sR HO143 hb; replace BK126 := sB BK126 hb; replace BK140 := sB BK140 hb; replace HB := sH HB hb; (try clear hb); (try clear hi)))
             replace HO131 := Aside0.mk (Kd.R_drew HO131.out)
             replace HO134 := Aside0.mk (Kd.R_drew HO134.out)
             replace HO139 := Aside0.mk (Kd.R_drew HO139.out)
             replace HO143 := Aside0.mk (Kd.R_drew HO143.out)
             replace BK126 := dB BK126
             replace BK140 := dB BK140
             replace HB := dH HB
             refine st_ 5 (S := fun w' => w'.cell? ⟨gb140, 0, none⟩ = some (.int .i64 t136) ∧ w'.cell? ⟨gb140, 1, none⟩ = some (.slice Ao45 t137.length co45) ∧ w'.cell? ⟨gb126, 0, none⟩ = some (.int .i64 a0_0) ∧ w'.cell? ⟨gb126, 1, none⟩ = some (.slice A0_1 l0_1.length c0_1)) (ds := []) ⟨cB BK140 0, cB BK140 1, cB BK126 0, cB BK126 1⟩ (fun hHeld => ?_)
             generalize w49.drew = w50 at HO131 HO134 HO139 HO143 BK126 BK140 HB hHeld ⊢
             refine take_ (i := 0) (N := some 41) (v := ?_) (a' := ?_) (mB 5 1) rfl rfl (by kernel_rfl) (fun _ _ _ h => h) (Or.inl ⟨by rfl, ?_⟩) hHeld ?_ ?_
             rotate_left
             ·rintro w' ⟨s0, s1, s2, s3⟩
              go_simp
              with_reducible rfl
             rotate_left
             ·simp only [Act.put, List.setIfInBounds_toArray, List.set_cons_zero, List.set_cons_succ, i64_w, i32_w]
              rfl
             refine take_ (i := 1) (N := some 42) (v := ?_) (a' := ?_) (mB 5 3) rfl rfl (by kernel_rfl) (fun _ _ _ h => h) (Or.inl ⟨by rfl, ?_⟩) hHeld ?_ ?_
             rotate_left
             ·rintro w' ⟨s0, s1, s2, s3⟩
              go_simp
              with_reducible rfl
             rotate_left
             ·simp only [Act.put, List.setIfInBounds_toArray, List.set_cons_zero, List.set_cons_succ, i64_w, i32_w]
              rfl
             refine one_ (i := 2) (N := some 43) (mB 5 7) rfl rfl (by kernel_rfl) (by decide) (fun K hK => ?_)
             refine ca_ Try.func15 #[.agg #[.int .i64 a0_0, .slice A0_1 l0_1.length c0_1]] ?_
             with_reducible refine (laws_toComplex.calls k a0_0 _ _ l0_1 t146 t147 _ ?side1 ?side2 A14.out).mono ?_
             (case side1 => exact pC ((Kd.C_below HR0_1.out HB.out)))
             (case side2 => exact HC0_1.out)
             rintro e w51 ⟨v148, rfl, ho0, hb⟩
             refine ⟨_, rfl, ?_⟩
             replace HO134 := sR HO134 hb
             replace HO143 := sR HO143 hb
             have HO149 := Aside0.mk (Kd.R_lower (Kd.R_new' (Kd.R_new' ho0 (Kd.R_lt (pR HO131))) (Kd.R_lt (pR HO139))) (below_size (pH HB)))
             replace HO131 := Aside0.mk (Kd.R_elder' (pR HO131) (Kd.R_base ho0) hb)
             replace HO139 := Aside0.mk (Kd.R_elder' (pR HO139) (Kd.R_base ho0) hb)
             replace BK126 := sB BK126 hb
             replace BK140 := sB BK140 hb
             replace HB := sH HB hb
             (try clear hb)
             (try clear hb2)
             (try clear hk)
             (try clear hi)
             (try clear ho0)
             obtain ⟨Ao52, co52, eo52⟩ := Kd.R_slice HO149.out
             (first | subst eo52 | (injection eo52 with f1_ f2_ f3_; have f4_ := f1_.symm; have f5_ := f3_.symm; clear f1_ f2_ f3_; subst f4_; subst f5_))
             refine hK.out _ _ ⟨cB BK140 0, cB BK140 1, cB BK126 0, cB BK126 1⟩ (fun hHeld => ?_)
             clear hK K
             refine nm_ ?_
             refine one_ (i := 3) (N := some 44) (mB 5 15) rfl rfl (by kernel_rfl) (by decide) (fun K hK => ?_)
             refine ca_ Try.func19 #[.agg #[.int .i64 t136, .slice Ao45 t137.length co45], .agg #[.int .i64 t146, .slice Ao52 t147.length co52]] ?_
             with_reducible refine (laws_eqComplex.calls k t136 _ _ t137 t146 _ _ t147 true _ ?side1 ?side2 ?side3 ?side4 A15.out).mono ?_
             (case side1 => exact pC ((Kd.R_reads' HO139.out).2.2))
             (case side2 => exact (Kd.R_reads' HO139.out).2.1)
             (case side3 => exact pC ((Kd.R_reads' HO149.out).2.2))
             (case side4 => exact (Kd.R_reads' HO149.out).2.1)
             rintro e w53 ⟨rfl, hb⟩
             refine ⟨_, rfl, ?_⟩
             replace HO131 := sR HO131 hb
             replace HO134 := sR HO134 hb
             replace HO139 := sR HO139 hb
             replace HO143 := sR HO143 hb
             replace HO149 := sR HO149 hb
             replace BK126 := sB BK126 hb
             replace BK140 := sB BK140 hb
             replace HB := sH HB hb
             (try clear hb)
             (try clear hb2)
             (try clear hk)
             (try clear hi)
             refine hK.out _ _ ⟨cB BK140 0, cB BK140 1, cB BK126 0, cB BK126 1⟩ (fun hHeld => ?_)
             clear hK K
             refine nm_ ?_
             refine pure_ (i := 4) (N := some 45) (v := ?_) (a' := ?_) (mB 5 31) rfl rfl (by kernel_rfl) (fun _ _ _ h => h) (Or.inl ⟨by rfl, ?_⟩) ?_ ?_
             rotate_left
             ·intro w'
              go_simp
              with_reducible rfl
             rotate_left
             ·simp only [Act.put, List.setIfInBounds_toArray, List.set_cons_zero, List.set_cons_succ, i64_w, i32_w]
              rfl
             refine done_ (by kernel_rfl) ?_
             have hcz54_0 : w53.cell? ⟨gb140, 0, none⟩ = some (.int .i64 t136) := cB BK140 0
             have hcz54_1 : w53.cell? ⟨gb140, 1, none⟩ = some (.slice Ao45 t137.length co45) := cB BK140 1
             have hfz54_0 := zB BK140 0
             have hfz54_1 := zB BK140 1
             try go_wp2_with (first | ((with_reducible refine gate_callee (f := 20) rfl ?_); refine cl_ (some 48) Try.func20 #[.agg #[.int .i64 t136, .slice Ao45 t137.length co45], .int .i64 1] ?_; (with_reducible refine (laws_markComplex.calls k t136 (fun k_ => some k_ = (.slice Ao45 t137.length co45 : Value).ownBlock) (.slice Ao45 t137.length co45) t137 1 t151 t152 w _ ?side1 ?side2 A17.out).mono ?_); (case side1 => repeat (first | (with_reducible first | exact HB.out | apply below_alloc | apply pw_below_drewN | apply below_drew1 | refine below_set ?_ GE126.out | refine below_set ?_ GE140.out) | exact HB.out)); (case side2 => exact Kd.R_tight rfl HO139.out); rintro e w55 ⟨rfl, hy0, hb, hkp⟩; refine ⟨_, rfl, ?_⟩; replace BK126 := Aside0.mk (blk_kept (pB BK126) hkp (fun hs_ => (fun e_ => (Kd.R_ne HO139.out BK126.out (by decide)) e_) hs_)); replace HO131 := Aside0.mk (Kd.R_mono (ok' := fun k_ => some k_ ≠ (.slice Ao45 t137.length co45 : Value).ownBlock ∧ some k_ ≠ (.slice Ao52 t147.length co52 : Value).ownBlock) (Kd.R_keptB (HO131.out) hkp (fun k_ hk_ hs_ => (hk_.1.2) hs_)) (fun k_ hk_ => ⟨hk_.1.1.2, hk_.1.2⟩)); replace HO134 := Aside0.mk (Kd.R_mono (ok' := fun k_ => some k_ ≠ (.slice Ao47 t141.length co47 : Value).ownBlock) (Kd.R_keptB ((Kd.R_apart' HO134.out (Kd.R_typed HO139.out) (by decide))) hkp (fun k_ hk_ hs_ => (hk_.2) hs_)) (fun k_ hk_ => hk_.1.1.2)); replace BK140 := Aside0.mk (blk_kept (pB BK140) hkp (fun hs_ => (fun e_ => (Kd.R_ne HO139.out BK140.out (by decide)) e_) hs_)); replace HO143 := Aside0.mk (Kd.R_mono (ok' := fun k_ => some k_ ≠ (.slice Ao48 t132.length co48 : Value).ownBlock) (Kd.R_keptB ((Kd.R_apart' HO143.out (Kd.R_typed HO139.out) (by decide))) hkp (fun k_ hk_ hs_ => (hk_.2) hs_)) (fun k_ hk_ => hk_.1.1.2)); replace HO139 := Aside0.mk (Kd.R_reok rfl hy0 (fun k_ e_ => HO139.out.1 k_ e_)); replace HO149 := Aside0.mk (Kd.R_mono (ok' := fun k_ => some k_ ≠ (.slice Ao38 t129.length co38 : Value).ownBlock ∧ some k_ ≠ (.slice Ao45 t137.length co45 : Value).ownBlock) (Kd.R_keptB (HO149.out) hkp (fun k_ hk_ hs_ => (hk_.2) hs_)) (fun k_ hk_ => ⟨hk_.1.1.2, hk_.1.2⟩)); replace HB := Aside0.mk (hb); (try clear hb); (try clear hkp); (try clear hy0); have nD_ := Aside0.mk (Kd.R_mono (ok' := fun k_ => True) HO139.out (fun k_ hk => trivial)); clear HO139; have HO139 := nD_; clear nD_; clear HO131 HO149) | (go_at_call 27; (with_reducible refine (laws_eqPairS.calls k _ _ t141 _ _ t132 true _ ?side1 ?side2 ?side3 ?side4 A19.out).mono ?_); (case side1 => exact pC ((Kd.R_reads' HO143.out).2.2)); (case side2 => exact (Kd.R_reads' HO143.out).2.1); (case side3 => exact pC ((Kd.R_reads' HO134.out).2.2)); (case side4 => exact (Kd.R_reads' HO134.out).2.1); rintro e w56 ⟨rfl, hb⟩; replace HO134 := sR HO134 hb; replace HO139 := sR HO139 hb; replace HO143 := sR HO143 hb; replace BK126 := sB BK126 hb; replace BK140 := sB BK140 hb; replace HB := sH HB hb; (try clear hb); (try clear hi)) | ((with_reducible refine gate_callee (f := 28) rfl ?_); refine cl_ (some 64) Try.func28 #[.slice Ao47 t141.length co47, .int .i64 1] ?_; (with_reducible refine (laws_markPairS.calls (fun k_ => some k_ = (.slice Ao47 t141.length co47 : Value).ownBlock) (.slice Ao47 t141.length co47) t141 1 t154 t155 w _ ?side1 ?side2 A21.out).mono ?_); (case side1 => repeat (first | (with_reducible first | exact HB.out | apply below_alloc | apply pw_below_drewN | apply below_drew1 | refine below_set ?_ GE126.out | refine below_set ?_ GE140.out) | exact HB.out)); (case side2 => exact Kd.R_tight rfl HO143.out); rintro e w57 ⟨rfl, hy0, hb, hkp⟩; refine ⟨_, rfl, ?_⟩; replace BK126 := Aside0.mk (blk_kept (pB BK126) hkp (fun hs_ => (fun e_ => (Kd.R_ne HO143.out BK126.out (by decide)) e_) hs_)); replace HO134 := Aside0.mk (Kd.R_mono (ok' := fun k_ => some k_ ≠ (.slice Ao47 t141.length co47 : Value).ownBlock) (Kd.R_keptB (HO134.out) hkp (fun k_ hk_ hs_ => (hk_) hs_)) (fun k_ hk_ => hk_.1)); replace HO139 := Aside0.mk (Kd.R_mono (ok' := fun k_ => True) (Kd.R_keptB ((Kd.R_apart' HO139.out (Kd.R_typed HO143.out) (by decide))) hkp (fun k_ hk_ hs_ => (hk_.2) hs_)) (fun k_ hk_ => trivial)); replace BK140 := Aside0.mk (blk_kept (pB BK140) hkp (fun hs_ => (fun e_ => (Kd.R_ne HO143.out BK140.out (by decide)) e_) hs_)); replace HO143 := Aside0.mk (Kd.R_reok rfl hy0 (fun k_ e_ => HO143.out.1 k_ e_)); replace HB := Aside0.mk (hb); (try clear hb); (try clear hkp); (try clear hy0)) | ((with_reducible refine gate_callee (f := 29) rfl ?_); refine cl_ (some 67) Try.func29 #[.slice Ao47 t155.length co47, .int .i64 1] (hargs := by (try simp only [List.map_toArray, List.map_cons, List.map_nil]); first | done | (rw [show t155.length = t141.length from (Kd.R_reads' HO143.out).1.symm] <;> rfl) | rfl | (simp only [List.length_drop, List.length_take]; rfl)) ?_; (with_reducible refine (laws_heldPairS.calls _ _ t155 1 t156 _ ?side1 ?side2 A22.out).mono ?_); (case side1 => exact pC ((Kd.R_reads' HO143.out).2.2)); (case side2 => rw [show t155.length = t141.length from (Kd.R_reads' HO143.out).1.symm]; exact (Kd.R_reads' HO143.out).2.1); rintro e w58 ⟨rfl, hb⟩; refine ⟨_, rfl, ?_⟩; replace HO134 := sR HO134 hb; replace HO139 := sR HO139 hb; replace HO143 := sR HO143 hb; replace BK126 := sB BK126 hb; replace BK140 := sB BK140 hb; replace HB := sH HB hb; (try clear hb); (try clear hi); have hcz59_0 : w58.cell? ⟨gb126, 0, none⟩ = some (.int .i64 a0_0) := cB BK126 0; have hcz59_1 : w58.cell? ⟨gb126, 1, none⟩ = some (.slice A0_1 l0_1.length c0_1) := cB BK126 1; have hfz59_0 := zB BK126 0; have hfz59_1 := zB BK126 1) | ((with_reducible refine gate_callee (f := 15) rfl ?_); refine cl_ (some 75) Try.func15 #[.agg #[.int .i64 a0_0, .slice A0_1 l0_1.length c0_1]] ?_; (with_reducible refine (laws_toComplex.calls k a0_0 _ _ l0_1 t157 t158 _ ?side1 ?side2 A25.out).mono ?_); (case side1 => exact pC ((Kd.C_below HR0_1.out HB.out))); (case side2 => exact HC0_1.out); rintro e w60 ⟨v159, rfl, ho0, hb⟩; refine ⟨_, rfl, ?_⟩; replace HO134 := sR HO134 hb; replace HO143 := sR HO143 hb; have HO160 := Aside0.mk (Kd.R_lower (Kd.R_new' ho0 (Kd.R_lt (pR HO139))) (below_size (pH HB))); replace HO139 := Aside0.mk (Kd.R_elder' (pR HO139) (Kd.R_base ho0) hb); replace BK126 := sB BK126 hb; replace BK140 := sB BK140 hb; replace HB := sH HB hb; (try clear hb); (try clear hi); (try clear ho0); obtain ⟨Ao61, co61, eo61⟩ := Kd.R_slice HO160.out; subst eo61) | ((with_reducible refine gate_callee (f := 43) rfl ?_); refine cl_ (some 76) Try.func43 #[.agg #[.int .i64 t157, .slice Ao61 t158.length co61]] ?_; (with_reducible refine (impl_BestPairing.calls t157 _ _ t158 t161 t164 _ ?side1 ?side2 A26.out).mono ?_); (case side1 => exact pC ((Kd.R_reads' HO160.out).2.2)); (case side2 => exact (Kd.R_reads' HO160.out).2.1); rintro e w62 ⟨v162, rfl, ho0, hb⟩; refine ⟨_, rfl, ?_⟩; replace HO139 := sR HO139 hb; replace HO160 := sR HO160 hb; have HO163 := Aside0.mk (Kd.R_lower (Kd.R_new' (Kd.R_new' ho0 (Kd.R_lt (pR HO134))) (Kd.R_lt (pR HO143))) (below_size (pH HB))); replace HO134 := Aside0.mk (Kd.R_elder' (pR HO134) (Kd.R_base ho0) hb); replace HO143 := Aside0.mk (Kd.R_elder' (pR HO143) (Kd.R_base ho0) hb); replace BK126 := sB BK126 hb; replace BK140 := sB BK140 hb; replace HB := sH HB hb; (try clear hb); (try clear hi); (try clear ho0); have nD_ := Aside0.mk (Kd.R_mono (ok' := fun k_ => True) HO139.out (fun k_ hk => trivial)); clear HO139; have HO139 := nD_; clear nD_; clear HO160; obtain ⟨Ao63, co63, eo63⟩ := Kd.R_slice HO163.out; subst eo63) | ((with_reducible refine gate_callee (f := 27) rfl ?_); refine cl_ (some 81) Try.func27 #[.slice Ao63 t161.length co63, .slice Ao48 t132.length co48] ?_; (with_reducible refine (laws_eqPairS.calls k _ _ t161 _ _ t132 true _ ?side1 ?side2 ?side3 ?side4 A27.out).mono ?_); (case side1 => exact pC ((Kd.R_reads' HO163.out).2.2)); (case side2 => exact (Kd.R_reads' HO163.out).2.1); (case side3 => exact pC ((Kd.R_reads' HO134.out).2.2)); (case side4 => exact (Kd.R_reads' HO134.out).2.1); rintro e w64 ⟨rfl, hb⟩; refine ⟨_, rfl, ?_⟩; replace HO134 := sR HO134 hb; replace HO139 := sR HO139 hb; replace HO143 := sR HO143 hb; replace HO163 := sR HO163 hb; replace BK126 := sB BK126 hb; replace BK140 := sB BK140 hb; replace HB := sH HB hb; (try clear hb); (try clear hi); have nD_ := Aside0.mk (Kd.R_mono (ok' := fun k_ => True) HO143.out (fun k_ hk => trivial)); clear HO143; have HO143 := nD_; clear nD_; clear HO134 HO163) | ((with_reducible refine gate_callee (f := 29) rfl ?_); refine cl_ (some 90) Try.func29 #[.slice Ao47 t155.length co47, .int .i64 1] (hargs := by (try simp only [List.map_toArray, List.map_cons, List.map_nil]); first | done | (rw [show t155.length = t141.length from (Kd.R_reads' HO143.out).1.symm] <;> rfl) | rfl | (simp only [List.length_drop, List.length_take]; rfl)) ?_; (with_reducible refine (laws_heldPairS.calls _ _ t155 1 t166 _ ?side1 ?side2 A30.out).mono ?_); (case side1 => exact pC ((Kd.R_reads' HO143.out).2.2)); (case side2 => rw [show t155.length = t141.length from (Kd.R_reads' HO143.out).1.symm]; exact (Kd.R_reads' HO143.out).2.1); rintro e w65 ⟨rfl, hb⟩; refine ⟨_, rfl, ?_⟩; replace HO139 := sR HO139 hb; replace HO143 := sR HO143 hb; replace BK126 := sB BK126 hb; replace BK140 := sB BK140 hb; replace HB := sH HB hb; (try clear hb); (try clear hi); clear HO143))
             go_ret
             exact ⟨by first | rfl | (simp [errW_none, errW_some] <;> rfl) | (simp [*, errW_none, errW_some] <;> rfl) | (exfalso; simp_all), pH HB⟩
            ·rw [if_neg c32] at H
             exact absurd H (by simp)
          ·rw [if_neg c29] at H
           exact absurd H (by simp)
         ·replace c28 := Bool.eq_false_iff.mpr c28
          subst c28
          have H1 : (none) = some r := by rw [if_neg (show ¬ (false = true) by decide)] at H; exact H
          clear H
          have H := H1
          clear H1
          exact absurd H (by simp)
        ·rw [if_neg c24] at H
         exact absurd H (by simp)
      ·replace c20 := Bool.eq_false_iff.mpr c20
       subst c20
       have H1 : (none) = some r := by rw [if_neg (show ¬ (false = true) by decide)] at H; exact H
       clear H
       have H := H1
       clear H1
       exact absurd H (by simp)
    ·replace c16 := Bool.eq_false_iff.mpr c16
     subst c16
     have H1 : (none) = some r := by rw [if_neg (show ¬ (false = true) by decide)] at H; exact H
     clear H
     have H := H1
     clear H1
     exact absurd H (by simp)
   ·rw [if_neg c13] at H
    exact absurd H (by simp)
  ·replace c12 := Bool.eq_false_iff.mpr c12
   subst c12
   have H1 : (none) = some r := by rw [if_neg (show ¬ (false = true) by decide)] at H; exact H
   clear H
   have H := H1
   clear H1
   exact absurd H (by simp)
end Go.Proofs.Ytomdfjohnmikdaa.QFnExactBestPairing
namespace Go.Proofs.Ytomdfjohnmikdaa.Pu
open Go.RowKit Kp Ext QS Im YtomdfjohnmikdaaW.PrintWords YtomdfjohnmikdaaW.PrintLast YtomdfjohnmikdaaW.PrintMore
theorem lim_same (n : Int) (xs : List Int) (m : Int) : limI n xs m = limS n xs m := rfl
theorem down_best {n : Int} {xs : List Int} (hi : isC n xs = true) : downB xs (pairsL xs) (topN xs) = bestB xs (pairsL xs) (topN xs) := best_same (pairs_sorted hi) (pairs_rng hi) (topN xs)
theorem bestP_same (n : Int) (xs : List Int) : bestI n xs = bestS n xs := by
  unfold bestI bestS
  rw [lim_same]
  by_cases h : limS n xs 20 = 0
  · rw [if_pos h, if_pos h, down_best (limS_zero h)]
  · rw [if_neg h, if_neg h]
theorem bestS_len (n : Int) (xs : List Int) : (bestS n xs).1.length ≤ 1048576 := by
  unfold bestS
  by_cases h : limS n xs 20 = 0
  · rw [if_pos h]; have := best_len (limS_zero h); show (bestB xs (pairsL xs) (topN xs)).length ≤ 1048576; omega
  · rw [if_neg h]; simp
end Go.Proofs.Ytomdfjohnmikdaa.Pu
namespace Go.Proofs.Ytomdfjohnmikdaa.Pu
open Go.RowKit Kp Ext QS Im QFnExactBestPairing YtomdfjohnmikdaaW.PrintWords YtomdfjohnmikdaaW.PrintLast YtomdfjohnmikdaaW.PrintMore
theorem FnExactBestPairing (n0 : Int) (l0 : List Int) (_ : (Lit.int .i64 n0).wf = true) (hm0 : l0.length ≤ maxLen) (_ : ∀ x ∈ l0, (Lit.int .i64 x).wf = true) : ∃ k, laws_FnExactBestPairing.f k n0 l0 = some true := by
  rcases Nat.lt_or_ge 1048576 l0.length with hl | hl
  · refine ⟨0, ?_⟩
    unfold laws_FnExactBestPairing.f
    rw [sz_big hm0 hl]
    rfl
  · apply Ev.rounds
    obtain ⟨t, ht, ht0⟩ := sz_ok (n := n0) hl
    have hI : impl_BestPairing.f n0 l0 = some (bestS n0 l0) := by unfold impl_BestPairing.f; rw [if_pos hl, bestP_same]
    have hS : spec_BestPairing.f n0 l0 = some (bestS n0 l0) := by unfold spec_BestPairing.f; rw [if_pos hl]
    have hR0 := bestS_len n0 l0
    generalize bestS n0 l0 = D at hI hS hR0
    obtain ⟨r1, r2⟩ := D
    simp only at hR0
    have hca0 : 0 ≤ (1 : Int) ∧ (1 : Int) ≤ 1073741824 := by omega
    have hna1 : ¬ (1 + (l0.length : Int) < 0) := by omega
    have hno1 : ¬ (1 + 2 * (r1.length : Int) < 0) := by omega
    unfold laws_FnExactBestPairing.f
    rw [ht]
    simp only [Option.bind_some, if_neg ht0]
    repeat (first
        | (exact Ev.now _)
        | (refine Ev.bind (ev_toComplex hl) ?_)
        | (refine Ev.bind (ev_eqPairs hR0) ?_)
        | (refine Ev.bind (ev_eqComplex hl) ?_)
        | (refine Ev.bind (ev_markComplex hl hca0) ?_)
        | (refine Ev.bind (ev_markPairs hR0 hca0) ?_)
        | (refine Ev.bind (ev_heldPairs hR0 hca0) ?_)
        | (simp only [hI, hS, Option.bind_some, if_true, bne_self_eq_false, Bool.false_eq_true, if_false, if_neg hna1, if_neg hno1]))
end Go.Proofs.Ytomdfjohnmikdaa.Pu
