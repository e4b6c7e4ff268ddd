/- Words and lemmas for FnExactHolesOf, part 6: what the row's text comes to. -/
import Derived.Test.YtpjcnigohhnhnaaGreatProg
import Derived.Below
import Derived.Deep.Draws
import Derived.Deep.AppendLies
import Derived.Maps.AppendAt
import Derived.OwnWalk
import Derived.Laws.BytesArg
import Derived.Laws.MakeOwn
import Derived.Laws.OwnMore
import Derived.Deep.OwnRows
import Derived.Tactics
import Derived.Lib.ConvBytes
import Derived.Laws.Slices
import Derived.WalkKit
import Derived.KernelRfl
import Derived.RowKit3
import Derived.Deep.LoopGhost
import Derived.Deep.QuietTactic
import Derived.BigQuiet
import Derived.WideLaws
import Derived.Deep.DeepCutAuto
import Derived.Deep.CutBlock
import Derived.Deep.RegionHeld3
import Derived.Laws.Rows
import Derived.Lib.AppendStr
import Derived.ArgAppend
import Derived.Laws.IdiomCopy
import Derived.OrdersHeld
import Derived.Laws.BitsLemmas
import Derived.RowKit
import Derived.Test.YtpjcnigohhnhnaaGreatZFnExactHolesOfe
set_option linter.unusedVariables false
set_option linter.unusedSimpArgs false
namespace Go.Proofs.YtpjcnigohhnhnaaGreat.QK
open Cw Kp Ext Go.RowKit YtpjcnigohhnhnaaGreatW.PrintWords YtpjcnigohhnhnaaGreatW.PrintLast YtpjcnigohhnhnaaGreatW.PrintMore
attribute [local go_sem] max2_int min2_int max_two min_two max_three min_three max_four min_four   -- for this text's walks alone
def errW : Option Int → Value
 | none => .nilIface
 | some c => .iface 0 (.int .i64 c)
theorem errW_none : errW none = .nilIface := rfl
theorem errW_some (c : Int) : errW (some c) = .iface 0 (.int .i64 c) := rfl
theorem info2 : (Tryz.prog.info? 2).map (fun i => (i.zero, i.size, i.bytes)) = some (some (.int .i64 0), 1, 8) := by kernel_rfl
open Go.Proofs.YtpjcnigohhnhnaaGreat.QV (impl_Complex_critical_1_1.f)
set_option maxHeartbeats 8000000 in
set_option maxRecDepth 100000 in
theorem impl_Complex_critical_1_1.calls (a0_0 : Int) (a0_1 : Int) (g1 : Nat) (a1_0 : Int) (r : Bool) (w : World) (hb1 : w.heap[g1]? = some (.cells #[.int .i64 a1_0] 2 (0, 0))) (h : impl_Complex_critical_1_1.f a0_0 a0_1 a1_0 = some r) :
  Calls Tryz.prog 44 #[.agg #[.int .i64 a0_0, .int .i64 a0_1], .pointer (some ⟨g1, 0, none⟩)] w fun e w' => e = .returned (.bool r) ∧ Below w.heap.size w w' := by
 have hu46 := Tryz.underlying46
 have BK101 := Aside0.mk hb1
 clear hb1
 have HB := Aside0.mk (Below.refl w.heap.size w)
 have H : (if a0_0 = a1_0 then (some true) else (some (a0_1 == a1_0))) = some r := h
 clear h
 by_cases c3 : a0_0 = a1_0
 ·rw [if_pos c3] at H
  have c3b0 : (a0_0 == a1_0) = true := beq_iff_eq.mpr c3
  have c3b1 : (a0_0 != a1_0) = false := bne_eq_false_iff_eq.mpr c3
  clear c3
  obtain rfl := Option.some.inj H
  go_enter Tryz.func44, Tryz.ntmps44
  go_wp2_with (first | ((with_reducible refine gate_dst (N := 2) rfl ?_); refine box_event ?hg (N := 2) ?hd (cs := #[.int .i64 a0_0, .int .i64 a0_1]) (t := 46) ?hr ?_; (case hd => rfl); (case hg => rfl); (case hr => first | (go_simp; done) | (go_simp; rfl)); intro gb102 hg w4 hbox hb; have BK102 := Aside0.mk (hbox); have GW102 := gH HB hg; have GE102 := gH HB hg; replace HB := sH HB hb; have NB101_102 := nB BK101 hg; have NB102_101 := oB BK101 hg; replace BK101 := sB BK101 hb; clear hb hbox hg; (try have hnb5 := NB102_101.out); (try have hnc5 := NB101_102.out); have hcz6_0 : w4.cell? ⟨gb102, 0, none⟩ = some (.int .i64 a0_0) := cB BK102 0; have hcz6_1 : w4.cell? ⟨gb102, 1, none⟩ = some (.int .i64 a0_1) := cB BK102 1; have hfz6_0 := zB BK102 0; have hfz6_1 := zB BK102 1; have hcz7_0 : w4.cell? ⟨g1, 0, none⟩ = some (.int .i64 a1_0) := cB BK101 0; have hfz7_0 := zB BK101 0))
  go_ret
  exact ⟨by first | rfl | (simp [errW_none, errW_some] <;> rfl) | (simp [*, errW_none, errW_some] <;> rfl) | (exfalso; simp_all), pH HB⟩
 ·rw [if_neg c3] at H
  have c3b0 : (a0_0 == a1_0) = false := beq_eq_false_iff_ne.mpr c3
  have c3b1 : (a0_0 != a1_0) = true := bne_iff_ne.mpr c3
  obtain rfl := Option.some.inj H
  go_enter Tryz.func44, Tryz.ntmps44
  go_wp2_with (first | ((with_reducible refine gate_dst (N := 2) rfl ?_); refine box_event ?hg (N := 2) ?hd (cs := #[.int .i64 a0_0, .int .i64 a0_1]) (t := 46) ?hr ?_; (case hd => rfl); (case hg => rfl); (case hr => first | (go_simp; done) | (go_simp; rfl)); intro gb102 hg w8 hbox hb; have BK102 := Aside0.mk (hbox); have GW102 := gH HB hg; have GE102 := gH HB hg; replace HB := sH HB hb; have NB101_102 := nB BK101 hg; have NB102_101 := oB BK101 hg; replace BK101 := sB BK101 hb; clear hb hbox hg; (try have hnb9 := NB102_101.out); (try have hnc9 := NB101_102.out); have hcz10_0 : w8.cell? ⟨gb102, 0, none⟩ = some (.int .i64 a0_0) := cB BK102 0; have hcz10_1 : w8.cell? ⟨gb102, 1, none⟩ = some (.int .i64 a0_1) := cB BK102 1; have hfz10_0 := zB BK102 0; have hfz10_1 := zB BK102 1; have hcz11_0 : w8.cell? ⟨g1, 0, none⟩ = some (.int .i64 a1_0) := cB BK101 0; have hfz11_0 := zB BK101 0))
  go_ret
  exact ⟨by first | rfl | (simp [errW_none, errW_some] <;> rfl) | (simp [*, errW_none, errW_some] <;> rfl) | (exfalso; simp_all), pH HB⟩
def clo_44 (a1_0 : Int) : Pred := Pred.ofP (fun x y => impl_Complex_critical_1_1.f x y a1_0)
set_option maxRecDepth 100000 in
theorem clo_ok_44 {W : World} {g1 : Nat} {a1_0 : Int} (hb1 : W.heap[g1]? = some (.cells #[.int .i64 a1_0] 2 (0, 0)))  : FnOk (.func (.func 44) #[] #[.pointer (some ⟨g1, 0, none⟩)]) (clo_44 a1_0) W :=
 FnOk.ofP (enters_of Tryz.func44 (by kernel_rfl) rfl) (fun V x y b hV hr => by
  show Calls Tryz.prog 44 #[.agg #[.int .i64 x, .int .i64 y], .pointer (some ⟨g1, 0, none⟩)] V _
  exact (impl_Complex_critical_1_1.calls x y g1 a1_0 b V ((hV.block g1 (blk_lt hb1)).trans hb1) hr).mono (fun e w' h_ => ⟨h_.1, h_.2⟩))
def impl_Complex_critical_1.f (a0 : Int) (l1_0 : List (S46)) : Option (Bool) := (slices_ContainsFunc_impl_Pair_impl_Pair.f l1_0 (clo_44 a0)).bind fun t105 => (some t105)
set_option maxHeartbeats 8000000 in
set_option maxRecDepth 100000 in
theorem impl_Complex_critical_1.calls (a0 : Int) (g1 : Nat) (A1_0 : Option Addr) (c1_0 : Nat) (l1_0 : List (S46)) (r : Bool) (w : World) (hb1 : w.heap[g1]? = some (.cells #[.slice A1_0 l1_0.length c1_0] 32 (0, 0))) (hr1_0 : Kd.C k46 w A1_0 l1_0.length l1_0) (hc1_0 : l1_0.length ≤ c1_0) (h : impl_Complex_critical_1.f a0 l1_0 = some r) :
  Calls Tryz.prog 42 #[.int .i64 a0, .pointer (some ⟨g1, 0, none⟩)] w fun e w' => e = .returned (.bool r) ∧ Below w.heap.size w w' := by
 have HR1_0 := Aside0.mk hr1_0
 have HC1_0 := Aside0.mk hc1_0
 clear hr1_0 hc1_0
 have BK103 := Aside0.mk hb1
 clear hb1
 have HB := Aside0.mk (Below.refl w.heap.size w)
 have H : ((slices_ContainsFunc_impl_Pair_impl_Pair.f l1_0 (clo_44 a0)).bind fun t105 => (some t105)) = some r := h
 clear h
 replace H := Option.bind_eq_some_iff.mp H
 obtain ⟨t105, A30, H⟩ := H
 try dsimp only at H
 have A3 := Aside0.mk A30
 clear A30
 obtain rfl := Option.some.inj H
 go_enter Tryz.func42, Tryz.ntmps42
 go_wp2_with (first | ((with_reducible refine gate_dst (N := 2) rfl ?_); refine box_event ?hg (N := 2) ?hd (cs := #[.int .i64 a0]) (t := 2) ?hr ?_; (case hd => rfl); (case hg => rfl); (case hr => first | (go_simp; done) | (go_simp; rfl)); intro gb104 hg w4 hbox hb; have BK104 := Aside0.mk (hbox); have GW104 := gH HB hg; have GE104 := gH HB hg; replace HB := sH HB hb; have NB103_104 := nB BK103 hg; have NB104_103 := oB BK103 hg; replace BK103 := sB BK103 hb; clear hb hbox hg; (try have hnb5 := NB103_104.out); (try have hnc5 := NB104_103.out); have hcz6_0 : w4.cell? ⟨g1, 0, none⟩ = some (.slice A1_0 l1_0.length c1_0) := cB BK103 0; have hfz6_0 := zB BK103 0) | ((with_reducible refine gate_callee (f := 43) rfl ?_); refine cl_ (some 6) Tryz.func43 #[.slice A1_0 l1_0.length c1_0, .func (.func 44) #[] #[.pointer (some ⟨gb104, 0, none⟩)]] ?_; (with_reducible refine (slices_ContainsFunc_impl_Pair_impl_Pair.calls _ _ l1_0 _ (clo_44 a0) t105 _ ?side1 ?side2 ?side3 A3.out).mono ?_); (case side1 => exact pC ((Kd.C_below HR1_0.out HB.out))); (case side2 => exact HC1_0.out); (case side3 => exact clo_ok_44 (pB BK104) ); rintro e w7 ⟨rfl, hb⟩; refine ⟨_, rfl, ?_⟩; replace BK103 := sB BK103 hb; replace BK104 := sB BK104 hb; replace HB := sH HB hb; (try clear hb); (try clear hi)))
 go_ret
 exact ⟨by first | rfl | (simp [errW_none, errW_some] <;> rfl) | (simp [*, errW_none, errW_some] <;> rfl) | (exfalso; simp_all), pH HB⟩
def clo_42 (l1_0 : List (S46)) : Pred := Pred.ofI (fun x => impl_Complex_critical_1.f x l1_0)
set_option maxRecDepth 100000 in
theorem clo_ok_42 {W : World} {g1 : Nat} {A1_0 : Option Addr} {c1_0 : Nat} {l1_0 : List (S46)} (hb1 : W.heap[g1]? = some (.cells #[.slice A1_0 l1_0.length c1_0] 32 (0, 0))) (hr1_0 : Kd.C k46 W A1_0 l1_0.length l1_0) (hc1_0 : l1_0.length ≤ c1_0) : FnOk (.func (.func 42) #[] #[.pointer (some ⟨g1, 0, none⟩)]) (clo_42 l1_0) W :=
 FnOk.ofI (enters_of Tryz.func42 (by kernel_rfl) rfl) (fun V x b hV hr => by
  show Calls Tryz.prog 42 #[.int .i64 x, .pointer (some ⟨g1, 0, none⟩)] V _
  exact (impl_Complex_critical_1.calls x g1 A1_0 c1_0 l1_0 b V ((hV.block g1 (blk_lt hb1)).trans hb1) (Kd.C_below hr1_0 hV) hc1_0 hr).mono (fun e w' h_ => ⟨h_.1, h_.2⟩))
def impl_Complex_critical.f (a0_0 : Int) (l0_1 : List Int) (l1 : List (S46)) : Option (List Int) := (slices_Clone_int64_int64.f l0_1).bind fun t108 => ((slices_DeleteFunc_int64_int64.f t108 (clo_42 l1)).bind fun t111 => (some t111))
set_option maxHeartbeats 8000000 in
set_option maxRecDepth 100000 in
theorem impl_Complex_critical.calls (a0_0 : Int) (A0_1 : Option Addr) (c0_1 : Nat) (l0_1 : List Int) (A1 : Option Addr) (c1 : Nat) (l1 : List (S46)) (r : List Int) (w : World) (hr0_1 : Kd.C (Kd.int .i64) w A0_1 l0_1.length l0_1) (hc0_1 : l0_1.length ≤ c0_1) (hr1 : Kd.C k46 w A1 l1.length l1) (hc1 : l1.length ≤ c1) (h : impl_Complex_critical.f a0_0 l0_1 l1 = some r) :
  Calls Tryz.prog 25 #[.agg #[.int .i64 a0_0, .slice A0_1 l0_1.length c0_1], .slice A1 l1.length c1] w fun e w' => ∃ v0_ : Value, e = .returned (v0_) ∧ Kd.R (Kd.int .i64) 2 w' w.heap.size (fun _ => True) v0_ r ∧ Below w.heap.size w w' := by
 have hu30 := Tryz.underlying30
 have HR0_1 := Aside0.mk hr0_1
 have HC0_1 := Aside0.mk hc0_1
 clear hr0_1 hc0_1
 have HR1 := Aside0.mk hr1
 have HC1 := Aside0.mk hc1
 clear hr1 hc1
 have HB := Aside0.mk (Below.refl w.heap.size w)
 have H : ((slices_Clone_int64_int64.f l0_1).bind fun t108 => ((slices_DeleteFunc_int64_int64.f t108 (clo_42 l1)).bind fun t111 => (some t111))) = some r := h
 clear h
 replace H := Option.bind_eq_some_iff.mp H
 obtain ⟨t108, A30, H⟩ := H
 try dsimp only at H
 have A3 := Aside0.mk A30
 clear A30
 replace H := Option.bind_eq_some_iff.mp H
 obtain ⟨t111, A40, H⟩ := H
 try dsimp only at H
 have A4 := Aside0.mk A40
 clear A40
 obtain rfl := Option.some.inj H
 go_enter Tryz.func25, Tryz.ntmps25
 go_wp2_with (first | ((with_reducible refine gate_dst (N := 2) rfl ?_); refine box_event ?hg (N := 2) ?hd (cs := #[.int .i64 a0_0, .slice A0_1 l0_1.length c0_1]) (t := 30) ?hr ?_; (case hd => rfl); (case hg => rfl); (case hr => first | (go_simp; done) | (go_simp; rfl)); intro gb106 hg w5 hbox hb; have BK106 := Aside0.mk (hbox); have GW106 := gH HB hg; have GE106 := gH HB hg; replace HB := sH HB hb; clear hb hbox hg) | ((with_reducible refine gate_dst (N := 3) rfl ?_); refine box_event ?hg (N := 3) ?hd (cs := #[.slice A1 l1.length c1]) (t := 32) ?hr ?_; (case hd => rfl); (case hg => rfl); (case hr => first | (go_simp; done) | (go_simp; rfl)); intro gb107 hg w6 hbox hb; have BK107 := Aside0.mk (hbox); have GW107 := gH HB hg; have GE107 := gH HB hg; replace HB := sH HB hb; have NB106_107 := nB BK106 hg; have NB107_106 := oB BK106 hg; replace BK106 := sB BK106 hb; clear hb hbox hg; (try have hnb7 := NB106_107.out); (try have hnc7 := NB107_106.out); have hcz8_0 : w6.cell? ⟨gb106, 0, none⟩ = some (.int .i64 a0_0) := cB BK106 0; have hcz8_1 : w6.cell? ⟨gb106, 1, none⟩ = some (.slice A0_1 l0_1.length c0_1) := cB BK106 1; have hfz8_0 := zB BK106 0; have hfz8_1 := zB BK106 1) | ((with_reducible refine gate_callee (f := 41) rfl ?_); refine cl_ (some 7) Tryz.func41 #[.slice A0_1 l0_1.length c0_1] ?_; (with_reducible refine (slices_Clone_int64_int64.calls _ _ l0_1 t108 _ ?side1 ?side2 A3.out).mono ?_); (case side1 => exact pC ((Kd.C_below HR0_1.out HB.out))); (case side2 => exact HC0_1.out); rintro e w9 ⟨v109, rfl, ho0, hb⟩; refine ⟨_, rfl, ?_⟩; have HO110 := Aside0.mk (Kd.R_lower ho0 (below_size (pH HB))); replace BK106 := sB BK106 hb; replace BK107 := sB BK107 hb; replace HB := sH HB hb; (try clear hb); (try clear hi); (try clear ho0); obtain ⟨Ao10, co10, eo10⟩ := Kd.R_slice HO110.out; subst eo10) | ((with_reducible refine gate_callee (f := 40) rfl ?_); refine cl_ (some 9) Tryz.func40 #[.slice Ao10 t108.length co10, .func (.func 42) #[] #[.pointer (some ⟨gb107, 0, none⟩)]] ?_; (with_reducible refine (slices_DeleteFunc_int64_int64.calls (fun k_ => some k_ = (.slice Ao10 t108.length co10 : Value).ownBlock) (.slice Ao10 t108.length co10) t108 _ (clo_42 l1) t111 w _ ?side1 ?side2 ?side3 A4.out).mono ?_); (case side1 => repeat (first | (with_reducible first | exact HB.out | apply below_alloc | apply pw_below_drewN | apply below_drew1 | refine below_set ?_ GE106.out | refine below_set ?_ GE107.out) | exact HB.out)); (case side2 => exact Kd.R_tight rfl HO110.out); (case side3 => intro W_ hK_; exact clo_ok_42 (blk_kept (pB BK107) hK_ (fun hs_ => (fun e_ => (Kd.R_ne HO110.out BK107.out (by decide)) e_) hs_)) ((Kd.C_kept_came k46_heap HR1.out (pH HB) (fun k_ hs_ => (fun e_ => Kd.R_base HO110.out k_ e_.symm) hs_)) W_ hK_) (by exact HC1.out)); rintro e w11 ⟨v112, rfl, ho0, hb, hkp⟩; refine ⟨_, rfl, ?_⟩; replace BK106 := Aside0.mk (blk_kept (pB BK106) hkp (fun hs_ => (fun e_ => (Kd.R_ne HO110.out BK106.out (by decide)) e_) hs_)); replace BK107 := Aside0.mk (blk_kept (pB BK107) hkp (fun hs_ => (fun e_ => (Kd.R_ne HO110.out BK107.out (by decide)) e_) hs_)); have HO113 := Aside0.mk (Kd.R_mono (ok' := fun k_ => True) ho0 (fun k_ hk_ => trivial)); replace HB := Aside0.mk (hb); clear HO110; (try clear hb); (try clear hkp); (try clear ho0)))
 go_ret
 exact ⟨_, by first | rfl | (simp [errW_none, errW_some] <;> rfl) | (simp [*, errW_none, errW_some] <;> rfl) | (exfalso; simp_all), by (with_reducible repeat (first | apply Kd.R_alloc | apply Kd.R_drewN | apply Kd.R_drew)); exact HO113.out, pH HB⟩
open Go.Proofs.YtpjcnigohhnhnaaGreat.QA (bits_OnesCount64.f)
open Go.Proofs.YtpjcnigohhnhnaaGreat.QA (bits_OnesCount64.calls)
def impl_size.f (a0 : Int) : Option (Int) := (bits_OnesCount64.f (IntKind.u64.wrap (a0))).bind fun t114 => (some t114)
set_option maxHeartbeats 8000000 in
set_option maxRecDepth 100000 in
theorem impl_size.calls (a0 : Int) (r : Int) (w : World) (h : impl_size.f a0 = some r) :
  Calls Tryz.prog 68 #[.int .i64 a0] w fun e w' => e = .returned (.int .i64 r) ∧ Drawn0 w w' := by
 have H : ((bits_OnesCount64.f (IntKind.u64.wrap (a0))).bind fun t114 => (some t114)) = some r := h
 clear h
 replace H := Option.bind_eq_some_iff.mp H
 obtain ⟨t114, A20, H⟩ := H
 try dsimp only at H
 have A2 := Aside0.mk A20
 clear A20
 obtain rfl := Option.some.inj H
 go_enter Tryz.func68, Tryz.ntmps68
 go_wp2_with (first | ((with_reducible refine gate_callee (f := 84) rfl ?_); refine cl_ (some 5) Tryz.func84 #[.int .u64 (IntKind.u64.wrap (a0))] ?_; (with_reducible refine (bits_OnesCount64.calls (IntKind.u64.wrap (a0)) t114 _ A2.out).mono ?_); rintro e w' ⟨rfl, ⟨nd, rfl⟩⟩; refine ⟨_, rfl, ?_⟩))
 go_ret
 exact ⟨by first | rfl | (simp; done) | (simp [*]; done), by repeat (first | exact Drawn0.refl _ | apply Drawn0.step)⟩
def impl_dimension.f (a0 : Int) : Option (Int) := (impl_size.f a0).bind fun t115 => (some (wrap64 (t115 - 1)))
set_option maxHeartbeats 8000000 in
set_option maxRecDepth 100000 in
theorem impl_dimension.calls (a0 : Int) (r : Int) (w : World) (h : impl_dimension.f a0 = some r) :
  Calls Tryz.prog 39 #[.int .i64 a0] w fun e w' => e = .returned (.int .i64 r) ∧ Drawn0 w w' := by
 have H : ((impl_size.f a0).bind fun t115 => (some (wrap64 (t115 - 1)))) = some r := h
 clear h
 replace H := Option.bind_eq_some_iff.mp H
 obtain ⟨t115, A20, H⟩ := H
 try dsimp only at H
 have A2 := Aside0.mk A20
 clear A20
 obtain rfl := Option.some.inj H
 go_enter Tryz.func39, Tryz.ntmps39
 go_wp2_with (first | ((with_reducible refine gate_callee (f := 68) rfl ?_); refine cl_ (some 4) Tryz.func68 #[.int .i64 a0] ?_; (with_reducible refine (impl_size.calls a0 t115 _ A2.out).mono ?_); rintro e w' ⟨rfl, ⟨nd, rfl⟩⟩; refine ⟨_, rfl, ?_⟩))
 go_ret
 exact ⟨by first | rfl | (simp; done) | (simp [*]; done), by repeat (first | exact Drawn0.refl _ | apply Drawn0.step)⟩
def impl_Complex_count.l0 : Nat → List Int → List Int → Int → Int → Option (List Int)
 | 0, _, _, _, _ => none
 | k + 1, x5, x12, x13, x14 => if x14 < x13 then (if 0 ≤ x14 then (if x14 < (x12.length : Int) then ((impl_dimension.f (rd x12 x14)).bind fun t122 => (if 0 ≤ t122 then (if t122 < (x5.length : Int) then (impl_Complex_count.l0 k (x5.set (t122 : Int).toNat (wrap64 ((rd x5 t122) + 1))) x12 x13 (wrap64 (x14 + 1))) else (none)) else (none))) else (none)) else (none)) else (some x5)
def impl_Complex_count.f (k : Nat) (a0_0 : Int) (l0_1 : List Int) (l1 : List Int) : Option (List Int) := (impl_Complex_dimension.f a0_0 l0_1).bind fun t117 => (if 0 ≤ (wrap64 (t117 + 1)) then (if (wrap64 (t117 + 1) : Int).toNat ≤ 35184372088832 then (impl_Complex_count.l0 k (List.replicate (wrap64 (t117 + 1) : Int).toNat 0) l1 (l1.length : Int) 0) else (none)) else (none))
set_option maxHeartbeats 8000000 in
set_option maxRecDepth 100000 in
theorem impl_Complex_count.calls (k : Nat) (a0_0 : Int) (A0_1 : Option Addr) (c0_1 : Nat) (l0_1 : List Int) (A1 : Option Addr) (c1 : Nat) (l1 : List Int) (r : List Int) (w : World) (hr0_1 : Kd.C (Kd.int .i64) w A0_1 l0_1.length l0_1) (hc0_1 : l0_1.length ≤ c0_1) (hr1 : Kd.C (Kd.int .i64) w A1 l1.length l1) (hc1 : l1.length ≤ c1) (h : impl_Complex_count.f k a0_0 l0_1 l1 = some r) :
  Calls Tryz.prog 24 #[.agg #[.int .i64 a0_0, .slice A0_1 l0_1.length c0_1], .slice A1 l1.length c1] w fun e w' => ∃ v0_ : Value, e = .returned (v0_) ∧ Kd.R (Kd.int .i64) 2 w' w.heap.size (fun _ => True) v0_ r ∧ Below w.heap.size w w' := by
 have hu30 := Tryz.underlying30
 have HR0_1 := Aside0.mk hr0_1
 have HC0_1 := Aside0.mk hc0_1
 clear hr0_1 hc0_1
 have HR1 := Aside0.mk hr1
 have HC1 := Aside0.mk hc1
 clear hr1 hc1
 have HB := Aside0.mk (Below.refl w.heap.size w)
 have H : ((impl_Complex_dimension.f a0_0 l0_1).bind fun t117 => (if 0 ≤ (wrap64 (t117 + 1)) then (if (wrap64 (t117 + 1) : Int).toNat ≤ 35184372088832 then (impl_Complex_count.l0 k (List.replicate (wrap64 (t117 + 1) : Int).toNat 0) l1 (l1.length : Int) 0) else (none)) else (none))) = some r := h
 clear h
 replace H := Option.bind_eq_some_iff.mp H
 obtain ⟨t117, A30, H⟩ := H
 try dsimp only at H
 have A3 := Aside0.mk A30
 clear A30
 obtain ⟨ji4, hji4⟩ : ∃ j_ : Int, (wrap64 (t117 + 1)) = j_ := ⟨_, rfl⟩
 replace H : (if 0 ≤ (ji4) then (if (ji4 : Int).toNat ≤ 35184372088832 then (impl_Complex_count.l0 k (List.replicate (ji4 : Int).toNat 0) l1 (l1.length : Int) 0) else (none)) else (none)) = some r := by first | (rw [hji4] at H; exact H) | (simp only [hji4] at H ⊢; exact H)
 (try rw [hji4] at A3)
 have hji4w : (IntKind.i64.wrap (t117 + 1)) = ji4 := (i64_w _).trans hji4
 by_cases c5 : 0 ≤ (ji4)
 ·rw [if_pos c5] at H
  have c5b0 := eq_true c5
  have c5b1 : decide (0 ≤ (ji4)) = true := decide_eq_true c5
  clear c5
  by_cases c6 : (ji4 : Int).toNat ≤ 35184372088832
  ·rw [if_pos c6] at H
   have c6b0 := eq_true c6
   have c6b1 : decide ((ji4 : Int).toNat ≤ 35184372088832) = true := decide_eq_true c6
   clear c6
   obtain ⟨y118, hy118⟩ : ∃ y_ : List Int, y_ = (List.replicate (ji4 : Int).toNat 0) := ⟨_, rfl⟩
   replace H : (impl_Complex_count.l0 k y118 l1 (l1.length : Int) 0) = some r := by first | (rw [hy118]; with_reducible exact H) | (have H2_ := (Option.bind_some _ _).symm.trans H; rw [hy118]; with_reducible exact H2_) | (have H2_ := (Option.bind_some _ _).symm.trans H; with_reducible exact H2_) | with_reducible exact H | (rw [hy118]; exact H) | exact H
   have Ny118 := Aside0.mk hy118
   clear hy118
   have H' := Aside0.mk H
   clear H
   go_enter Tryz.func24, Tryz.ntmps24
   go_wp2_with (first | ((with_reducible refine gate_dst (N := 2) rfl ?_); refine box_event ?hg (N := 2) ?hd (cs := #[.int .i64 a0_0, .slice A0_1 l0_1.length c0_1]) (t := 30) ?hr ?_; (case hd => rfl); (case hg => rfl); (case hr => first | (go_simp; done) | (go_simp; rfl)); intro gb116 hg w7 hbox hb; have BK116 := Aside0.mk (hbox); have GW116 := gH HB hg; have GE116 := gH HB hg; replace HB := sH HB hb; clear hb hbox hg; have hcz8_0 : w7.cell? ⟨gb116, 0, none⟩ = some (.int .i64 a0_0) := cB BK116 0; have hcz8_1 : w7.cell? ⟨gb116, 1, none⟩ = some (.slice A0_1 l0_1.length c0_1) := cB BK116 1; have hfz8_0 := zB BK116 0; have hfz8_1 := zB BK116 1) | ((with_reducible refine gate_callee (f := 38) rfl ?_); refine cl_ (some 9) Tryz.func38 #[.agg #[.int .i64 a0_0, .slice A0_1 l0_1.length c0_1]] ?_; (with_reducible refine (impl_Complex_dimension.calls a0_0 _ _ l0_1 t117 _ ?side1 ?side2 A3.out).mono ?_); (case side1 => exact pC ((Kd.C_below HR0_1.out HB.out))); (case side2 => exact HC0_1.out); rintro e w9 ⟨rfl, hb⟩; refine ⟨_, rfl, ?_⟩; replace BK116 := sB BK116 hb; replace HB := sH HB hb; (try clear hb); (try clear hi)) | ((with_reducible refine gate_dst (N := 11) rfl ?_); refine Kd.R_make (Kd.int .i64) _ 2 rfl (N := 11) rfl 22 _ _ rfl ji4 rfl rfl Tryz.underlying22 (.int .i64 0) 8 info2 rfl (by decide) (by omega) 0 (ok := fun _ => True) (okp := fun _ => True) rfl (fun _ hk => hk) trivial (of_decide_eq_true (by first | (with_reducible assumption) | assumption)) (Nat.le_trans (Nat.mul_le_mul_right _ (of_decide_eq_true (by first | (with_reducible assumption) | assumption) : ji4.toNat ≤ 35184372088832)) (by omega)) (Below.refl _ _) (Nat.le_refl _) ?_; intro v119 w10 ho11 hb hg_ hnew_; clear hg_ hnew_; (first | rw [← Ny118.out] at ho11 | (simp only [Int.reduceToNat] at ho11; rw [← Ny118.out] at ho11)); have HO120 := Aside0.mk (Kd.R_lower ho11 (below_size (pH HB))); replace BK116 := sB BK116 hb; replace HB := sH HB hb; clear hb ho11))
   go_loopg [14] k (fun kq v14 w' => ∃ (x5_1 : List Int) (x14_1 : Int), v14 = .int .i64 x14_1 ∧ Aside0 (impl_Complex_count.l0 kq x5_1 l1 (l1.length : Int) x14_1 = some r) ∧ Aside0 (kq ≤ k) ∧ Aside0 (Kd.R (Kd.int .i64) 2 w' w.heap.size (fun _ => True) v119 x5_1) ∧ Aside0 (w'.heap[gb116]? = some (.cells #[.int .i64 a0_0, (.slice A0_1 l0_1.length c0_1)] 30 (0, 0))) ∧ Aside0 (Below w.heap.size w w'))
   case atStart => exact ⟨(y118), (0), (by first | rfl | (simp; done) | (simp [*]; done)), H', ⟨Nat.le_refl _⟩, ⟨by (with_reducible repeat (first | apply Kd.R_alloc | apply Kd.R_drewN | apply Kd.R_drew)); exact HO120.out⟩, ⟨pB BK116⟩, ⟨pH HB⟩⟩
   case round =>
    clear H'
    try clear c1
    try clear c2
    try clear p2
    try clear c3
    try clear c5
    try clear c5b0
    try clear c5b1
    try clear c6
    try clear c6b0
    try clear c6b1
    try clear p6
    try clear hcz8_0
    try clear hcz8_1
    try clear hfz8_0
    try clear hfz8_1
    obtain ⟨x5_1, x14_1, rfl, HA, HK1, HO_5, BK116, HB⟩ := hrel
    cases gk with
    | zero => exact absurd HA.out (by simp [impl_Complex_count.l0])
    | succ k1 =>
     have H := HA.out
     clear HA
     simp only [impl_Complex_count.l0] at H
     by_cases c12 : x14_1 < (l1.length : Int)
     ·rw [if_pos c12] at H
      have c12b0 : decide (x14_1 < (l1.length : Int)) = true := decide_eq_true c12
      clear c12
      by_cases c13 : 0 ≤ x14_1
      ·rw [if_pos c13] at H
       have c13b0 : decide (0 ≤ x14_1) = true := decide_eq_true c13
       clear c13
       by_cases c14 : x14_1 < (l1.length : Int)
       ·rw [if_pos c14] at H
        have c14b0 : decide (x14_1 < (l1.length : Int)) = true := decide_eq_true c14
        clear c14
        replace H := Option.bind_eq_some_iff.mp H
        obtain ⟨t122, A150, H⟩ := H
        try dsimp only at H
        have A15 := Aside0.mk A150
        clear A150
        by_cases c16 : 0 ≤ t122
        ·rw [if_pos c16] at H
         have c16b0 : decide (0 ≤ t122) = true := decide_eq_true c16
         clear c16
         by_cases c17 : t122 < (x5_1.length : Int)
         ·rw [if_pos c17] at H
          have c17b0 : decide (t122 < (x5_1.length : Int)) = true := decide_eq_true c17
          clear c17
          obtain ⟨y124, hy124⟩ : ∃ y_ : List Int, y_ = (x5_1.set (t122 : Int).toNat (wrap64 ((rd x5_1 t122) + 1))) := ⟨_, rfl⟩
          replace H : (impl_Complex_count.l0 k1 y124 l1 (l1.length : Int) (wrap64 (x14_1 + 1))) = some r := by first | (rw [hy124]; with_reducible exact H) | (have H2_ := (Option.bind_some _ _).symm.trans H; rw [hy124]; with_reducible exact H2_) | (have H2_ := (Option.bind_some _ _).symm.trans H; with_reducible exact H2_) | with_reducible exact H | (rw [hy124]; exact H) | exact H
          have Ny124 := Aside0.mk hy124
          clear hy124
          have H' := Aside0.mk H
          clear H
          have p121 : 0 ≤ (x14_1 : Int) := of_decide_eq_true (by first | (with_reducible assumption) | assumption)
          have q121 : x14_1 < (l1.length : Int) := of_decide_eq_true (by first | (with_reducible assumption) | assumption)
          obtain ⟨ad121, e121, hx121_0⟩ := Kd.at_int HR1.out x14_1 p121 q121
          cases e121
          replace hx121_0 := cH HB hx121_0
          replace p121 := eq_true p121
          replace q121 := eq_true q121
          go_wp2_with (first | ((with_reducible refine gate_callee (f := 39) rfl ?_); refine cl_ (some 20) Tryz.func39 #[.int .i64 (rd l1 x14_1)] ?_; (with_reducible refine (impl_dimension.calls (rd l1 x14_1) t122 _ A15.out).mono ?_); rintro e w' ⟨rfl, ⟨nd, rfl⟩⟩; refine ⟨_, rfl, ?_⟩; (try (rw [drewN_self wr]; generalize hq_ : World.drewN wr _ = wr; have n0_ : Aside0 (Kd.R (Kd.int .i64) 2 wr w.heap.size (fun _ => True) v119 x5_1) := ⟨by rw [← hq_]; exact (pR HO_5)⟩; have n1_ : Aside0 (wr.heap[gb116]? = some (.cells #[.int .i64 a0_0, .slice A0_1 l0_1.length c0_1] 30 (0, 0))) := ⟨by rw [← hq_]; exact (pB BK116)⟩; have n2_ : Aside0 (Below w.heap.size w wr) := ⟨by rw [← hq_]; exact (pH HB)⟩; clear HO_5 BK116 HB hq_; have HO_5 := n0_; have BK116 := n1_; have HB := n2_; clear n0_ n1_ n2_)); (try (have hcz19_0 : wr.cell? ⟨gb116, 0, none⟩ = some (.int .i64 a0_0) := cB BK116 0; have hcz19_1 : wr.cell? ⟨gb116, 1, none⟩ = some (.slice A0_1 l0_1.length c0_1) := cB BK116 1; have hfz19_0 := zB BK116 0; have hfz19_1 := zB BK116 1)); obtain ⟨Ao20, co20, eo20⟩ := Kd.R_slice HO_5.out; subst eo20; have p123 : 0 ≤ (t122 : Int) := of_decide_eq_true (by first | (with_reducible assumption) | assumption); have q123 : t122 < (x5_1.length : Int) := of_decide_eq_true (by first | (with_reducible assumption) | assumption); obtain ⟨ad123, e123, hx123_0⟩ := Kd.at_int (Kd.R_reads' HO_5.out).2.2 t122 p123 q123; cases e123; replace p123 := eq_true p123; replace q123 := eq_true q123; have p18 : 0 ≤ (t122 : Int) := of_decide_eq_true (by first | (with_reducible assumption) | assumption); have q18 : (t122 : Int) < ((x5_1.length : Int) : Int) := of_decide_eq_true (by first | (with_reducible assumption) | assumption); obtain ⟨go18, co18, eo18, gb18, gl18, cl18, HG18⟩ := Kd.R_form HO_5.out (by omega); (first | cases eo18 | (injection eo18 with ea_ en_ ec_; (first | subst ea_ | (injection ea_ with ea_; subst ea_)); subst ec_; clear en_)); have GB18 := Aside0.mk gb18; have GG18 := Aside0.mk HG18; clear gb18 gl18 HG18; (first | simp only [add_plain] at hx123_0 | skip); obtain ⟨hx18_0, hf18_0⟩ := Kd.R_celln 0 HO_5.out (t122 : Int) p18 q18; replace p18 := eq_true p18; replace q18 := eq_true q18; obtain ⟨hy21_, hz21_⟩ := Kd.R_celln 0 HO_5.out (t122 : Int) (of_decide_eq_true (by first | (with_reducible assumption) | assumption)) (of_decide_eq_true (by first | (with_reducible assumption) | assumption)); have HP21 := Kd.R_putg HO_5.out (t122 : Int) (wrap64 ((rd x5_1 t122) + 1))) | ((with_reducible refine gate_store (t := 2) (p := 24) rfl ?_); refine store_event (t := 2) (p := 24) (v := ?vo_w22) (w1 := (wr.setCell ⟨go18, (t122 : Int).toNat, none⟩ (.int .i64 (wrap64 ((rd x5_1 t122) + 1))))) ?hg ?ho ?hn ?hr ?_; (case ho => rfl); (case hg => rfl); (case hn => rfl); (case hr => first | (go_simp; done) | (go_simp; rfl)); intro w22 hw; have hg : wr.grownBy w22 (some go18) := (by rw [hw]; exact HP21.2); have hp_ : Kd.R (Kd.int .i64) 2 w22 w.heap.size (fun _ => True) (.slice (some ⟨go18, 0, none⟩) x5_1.length co20) y124 := (by rw [hw, Ny124.out]; exact HP21.1); clear HP21; have n0_ := Aside0.mk (hp_); have n1_ := Aside0.mk (blk_grown (g := gb116) (o := .cells #[.int .i64 a0_0, .slice A0_1 l0_1.length c0_1] 30 (0, 0)) (pB BK116) hg (Kd.R_ne HO_5.out BK116.out (by decide))); have n2_ := Aside0.mk ((by rw [hw]; exact below_set (HB.out) GB18.out : Below w.heap.size w w22)); clear HO_5; clear BK116; clear HB; have HO_5 := n0_; have BK116 := n1_; have HB := n2_; clear n0_ n1_ n2_; clear hg hw hp_))
          go_roundg k1
          case measure => have := HK1.out; omega
          case rel => exact ⟨(y124), (wrap64 (x14_1 + 1)), (by first | rfl | (simp; done) | (simp [*]; done)), H', ⟨by have := HK1.out; omega⟩, ⟨by (with_reducible repeat (first | apply Kd.R_alloc | apply Kd.R_drewN | apply Kd.R_drew)); exact HO_5.out⟩, ⟨pB BK116⟩, ⟨pH HB⟩⟩
         ·rw [if_neg c17] at H
          exact absurd H (by simp)
        ·rw [if_neg c16] at H
         exact absurd H (by simp)
       ·rw [if_neg c14] at H
        exact absurd H (by simp)
      ·rw [if_neg c13] at H
       exact absurd H (by simp)
     ·rw [if_neg c12] at H
      have c12b0 : decide (x14_1 < (l1.length : Int)) = false := decide_eq_false c12
      clear c12
      obtain rfl := Option.some.inj H
      go_wp2
      go_ret
      exact ⟨_, by first | rfl | (simp [errW_none, errW_some] <;> rfl) | (simp only [← hji4]; first | rfl | (simp [errW_none, errW_some] <;> rfl)) | (simp [*, errW_none, errW_some] <;> rfl) | (exfalso; simp_all), by (with_reducible repeat (first | apply Kd.R_alloc | apply Kd.R_drewN | apply Kd.R_drew)); exact HO_5.out, pH HB⟩
  ·rw [if_neg c6] at H
   exact absurd H (by simp)
 ·rw [if_neg c5] at H
  exact absurd H (by simp)
end Go.Proofs.YtpjcnigohhnhnaaGreat.QK
namespace Go.Proofs.YtpjcnigohhnhnaaGreat.Pu
open Go.RowKit Kp Ext Im YtpjcnigohhnhnaaGreatW.PrintWords YtpjcnigohhnhnaaGreatW.PrintLast YtpjcnigohhnhnaaGreatW.PrintMore
theorem dimK_eq {x : Int} (h0 : 0 ≤ x) (h6 : x ≤ 63) : QK.impl_dimension.f x = some (onesZ x - 1) :=
  (show QK.impl_dimension.f x = QI.impl_dimension.f x from rfl).trans (dim_eq h0 h6)
theorem countK_loop (D : Nat) (l : List Int) (hr : ∀ x ∈ l, (1 ≤ x ∧ x ≤ 63) ∧ 1 ≤ onesZ x ∧ onesZ x ≤ (D : Int)) (hm : l.length ≤ 1048576) :
    ∀ d (i : Nat), l.length - i = d → i ≤ l.length → Ev (fun k => QK.impl_Complex_count.l0 k (cntL D (l.take i)) l (l.length : Int) i) (cntL D l) := by
  intro d
  induction d with
  | zero =>
    intro i hd hi
    rw [List.take_of_length_le (by omega)]
    refine Ev.step (f := fun k => some (cntL D l)) (fun k => ?_) (Ev.now _)
    simp only [QK.impl_Complex_count.l0]; rw [if_neg (by omega)]
  | succ d ih =>
    intro i hd hi
    have hi' : i < l.length := by omega
    obtain ⟨hx, hx1, hx2⟩ := hr _ (List.getElem_mem hi')
    obtain ⟨e, he⟩ : ∃ e : Nat, onesZ l[i] = ((e + 1 : Nat) : Int) := ⟨(onesZ l[i]).toNat - 1, by omega⟩
    have heD : e < D := by omega
    have hle := cntL_le (D := D) (d := e) (l.take i)
    rw [List.length_take] at hle
    have hlen := cntL_len D (l.take i)
    refine Ev.step (f := fun k => QK.impl_Complex_count.l0 k (cntL D (l.take (i + 1))) l (l.length : Int) ((i + 1 : Nat) : Int)) (fun k => ?_) (ih (i + 1) (by omega) (by omega))
    simp only [QK.impl_Complex_count.l0]
    rw [if_pos (by omega), if_pos (by omega), if_pos (by omega), rd_at' hi', dimK_eq (by omega) (by omega)]
    simp only [Option.bind_some]
    rw [he, show ((e + 1 : Nat) : Int) - 1 = (e : Int) by omega, if_pos (by omega), if_pos (by omega)]
    have hrd : rd (cntL D (l.take i)) (e : Int) = (cntL D (l.take i))[e]?.getD 0 := by simp [rd, List.getD_eq_getElem?_getD]
    rw [hrd, w64' (by omega) (by omega), Int.toNat_natCast, cntL_snoc (l.take i) l[i] heD he, show wrap64 ((i : Int) + 1) = ((i + 1 : Nat) : Int) by rw [w64' (by omega) (by omega)]; omega]
    rw [List.take_add_one, List.getElem?_eq_getElem hi']
    rfl
theorem ev_cntK {n : Int} {l : List Int} (hi : isC n l = true) {m : List Int} (hm : ∀ x ∈ m, x ∈ l) (hl : m.length ≤ 1048576) : Ev (fun k => QK.impl_Complex_count.f k n l m) (cntL (dimL l + 1).toNat m) := by
  have hs := isC_small hi
  have h63 := isC_63 hi
  obtain ⟨d1, d2, d3⟩ := dim_rng l
  obtain ⟨D, hD⟩ := Int.eq_ofNat_of_zero_le (show 0 ≤ dimL l + 1 by omega)
  have hdm : impl_Complex_dimension.f n l = some (dimL l) := by unfold impl_Complex_dimension.f; rw [if_pos hi]
  unfold QK.impl_Complex_count.f
  simp only [hdm, Option.bind_some]
  rw [w64 (by omega) (by omega), hD]
  simp only [if_pos (show (0 : Int) ≤ (D : Int) by omega), Int.toNat_natCast, if_pos (show D ≤ 35184372088832 by omega)]
  have := countK_loop D m (fun x hx => ⟨h63 x (hm x hx), ones1 (h63 x (hm x hx)), by have := d3 x (hm x hx); omega⟩) hl _ 0 rfl (Nat.zero_le _)
  rw [List.take_zero, cntL_nil] at this
  exact this
theorem crit_cloK (f : Int) : (QK.clo_44 f).sort = 2 ∧ ∀ q : Pr, 0 ≤ q.f0 → q.f0 ≤ 63 → 0 ≤ q.f1 → q.f1 ≤ 63 → (QK.clo_44 f).pP q = (q.f0 == f || q.f1 == f) :=
  ofP_face (p := fun q : Pr => q.f0 == f || q.f1 == f) fun x y _ _ _ _ => by
    unfold QV.impl_Complex_critical_1_1.f
    by_cases h : x = f <;> simp [h]
theorem okDomP_facesK {l : List Pr} (hr : FacesP l) (a : Pred) : okDomP a l = true := by
  rw [okDomP, Bool.or_eq_true]
  refine .inr (List.all_eq_true.2 fun q hq => ?_)
  have := hr q hq
  simp; omega
theorem any_congr_memK {α : Type} {p q : α → Bool} {l : List α} (h : ∀ x ∈ l, p x = q x) : l.any p = l.any q := by
  induction l with
  | nil => rfl
  | cons a l ih => rw [List.any_cons, List.any_cons, h a (by simp), ih (fun x hx => h x (by simp [hx]))]
theorem crit1_fK {l : List Pr} (hl : l.length ≤ 1048576) (hr : FacesP l) (f : Int) : QK.impl_Complex_critical_1.f f l = some (!critP l f) := by
  obtain ⟨s1, p1⟩ := crit_cloK f
  unfold QK.impl_Complex_critical_1.f slices_ContainsFunc_impl_Pair_impl_Pair.f
  rw [if_pos ⟨by omega, s1, okDomP_facesK hr _⟩, Option.bind_some]
  unfold critP
  rw [Bool.not_not, any_congr_memK fun q hq => by have := hr q hq; exact p1 q (by omega) (by omega) (by omega) (by omega)]
theorem crit_fK {n : Int} {xs : List Int} (hi : isC n xs = true) {l : List Pr} (hl : l.length ≤ 1048576) (hr : FacesP l) : QK.impl_Complex_critical.f n xs l = some (critL xs l) := by
  have hs := isC_small hi
  have r := isC_63 hi
  obtain ⟨s2, _, p2⟩ := ofI_face (f := fun x => QK.impl_Complex_critical_1.f x l) (p := fun x => !critP l x) (fun x _ _ => crit1_fK hl hr x)
  have hd : okDom (QK.clo_42 l) xs = true := by
    rw [okDom, Bool.or_eq_true]
    refine .inr (List.all_eq_true.2 fun x hx => ?_)
    have := r x hx
    simp; omega
  unfold QK.impl_Complex_critical.f slices_Clone_int64_int64.f slices_DeleteFunc_int64_int64.f
  rw [if_pos (by omega), Option.bind_some, if_pos ⟨by omega, s2, hd⟩, Option.bind_some]
  unfold critL
  refine congrArg some (List.filter_congr fun x hx => ?_)
  have := r x hx
  rw [show (QK.clo_42 l).pI x = !critP l x from p2 x (by omega) (by omega), Bool.not_not]
end Go.Proofs.YtpjcnigohhnhnaaGreat.Pu
namespace Go.Proofs.YtpjcnigohhnhnaaGreat.Im
open Go.RowKit Go.Shelf Kp Ext Cw Pu YtpjcnigohhnhnaaGreatW.PrintWords YtpjcnigohhnhnaaGreatW.PrintLast YtpjcnigohhnhnaaGreatW.PrintMore
theorem morseT_c (n d : Int) (A : Option Addr) (c : Nat) (xs : List Int) (A1 : Option Addr) (c1 : Nat) (l : List Pr) (w : World) (hr : RC w A xs.length xs) (hc : xs.length ≤ c) (hr1 : Kd.C k46 w A1 l.length l) (hc1 : l.length ≤ c1) (hi : isC n xs = true) (hp : pairingB xs l = true) (ha : acycB l = true) (hd : 1 ≤ d ∧ d ≤ 6) :
    Calls Tryz.prog 27 #[.agg #[.int .i64 n, .slice A xs.length c], .slice A1 l.length c1, .int .i64 d] w fun e w' => ∃ Ar cr, e = .returned (.slice Ar (rowsM (wzT l) (critL xs l) d).length cr) ∧ (rowsM (wzT l) (critL xs l) d).length ≤ cr ∧ Kd.C (Kd.slice 2 (Kd.int .i64)) w' Ar (rowsM (wzT l) (critL xs l) d).length (rowsM (wzT l) (critL xs l) d) ∧ Below w.heap.size w w' := by
  have hl := pairing_len hi hp
  refine (morse_c (wzT l) n d A c xs A1 c1 l w hr hc hr1 hc1 hi (by omega) (facesP_of hi hp) hd (fun b a hb => (wzT_both hi hp ha b a hb).1)).mono ?_
  rintro e w' ⟨v, vs, rfl, hm, hb⟩
  obtain ⟨Ar, cr, rfl⟩ := hm.o.slice
  have h1 := MR.reads hm.o hm.i
  have h2 := hm.o.reads.2.1
  have h3 := hm.i.1
  exact ⟨Ar, cr, by rw [h3], by omega, h1, hb⟩
theorem rankT_c (n : Int) (xs : List Int) (l : List Pr) (hi : isC n xs = true) (hp : pairingB xs l = true) (ha : acycB l = true) (d : Int) (Ar : Option Addr) (cr : Nat) (w : World) (hc : (rowsM (wzT l) (critL xs l) d).length ≤ cr) (hr : Kd.C (Kd.slice 2 (Kd.int .i64)) w Ar (rowsM (wzT l) (critL xs l) d).length (rowsM (wzT l) (critL xs l) d)) :
    Calls Tryz.prog 26 #[.slice Ar (rowsM (wzT l) (critL xs l) d).length cr] w fun e w' => e = .returned (.int .i64 (rkT xs l d)) ∧ Below w.heap.size w w' := by
  have hs := isC_small hi
  have hcl : (critL xs l).length ≤ xs.length := List.length_filter_le _ _
  have h1 := rows_len (wzT l) (critL xs l) d
  have h2 := ofD_len (critL xs l) (d - 1)
  exact rankR_c Ar cr (ofD (critL xs l) (d - 1)).length _ w hr hc (by omega) (rowsT_bits hi hp ha _ _) (rowsT_len _ _ _) (by omega)
theorem proE_set (ns : List Int) (rk : Int → Int) {d : Nat} (h : d < ns.length) : (proE ns rk d).set d (wrap64 (ownE ns rk d - rk ((d : Int) + 1))) = proE ns rk (d + 1) := by
  have := proE_next ns rk h 0
  rwa [List.set_set] at this
def holesF (n : Int) (xs : List Int) (l : List Pr) : List Int × Int := if acode n xs l = 0 then (refE (numC xs l) (rkT xs l) (max 1 (numC xs l).length), 0) else ([], acode n xs l)
theorem acode_zero {n : Int} {xs : List Int} {l : List Pr} (h : acode n xs l = 0) : isC n xs = true ∧ pairingB xs l = true ∧ acycB l = true := by
  unfold acode pcode at h
  cases hi : isC n xs with
  | false => rw [hi] at h; simp at h
  | true =>
    rw [hi] at h
    cases hp : pairingB xs l with
    | false => rw [hp] at h; simp at h
    | true =>
      rw [hp] at h
      cases ha : acycB l with
      | false => rw [ha] at h; simp at h
      | true => exact ⟨rfl, rfl, rfl⟩
theorem numC_small {n : Int} {xs : List Int} (hi : isC n xs = true) (l : List Pr) : ∀ x ∈ numC xs l, 0 ≤ x ∧ x ≤ 1048576 := by
  intro x hx
  obtain ⟨i, h, rfl⟩ := List.mem_iff_getElem.1 hx
  have h1 := cntL_le (D := (dimL xs + 1).toNat) (d := i) (critL xs l)
  have hcl : (critL xs l).length ≤ xs.length := List.length_filter_le _ _
  have hs := isC_small hi
  unfold numC at h ⊢
  rw [List.getElem?_eq_getElem h, Option.getD_some] at h1
  omega
set_option maxRecDepth 100000 in
set_option maxHeartbeats 8000000 in
theorem holesP_c (n : Int) (A : Option Addr) (c : Nat) (xs : List Int) (A1 : Option Addr) (c1 : Nat) (l : List Pr) (w : World) (hr : RC w A xs.length xs) (hc : xs.length ≤ c) (hr1 : Kd.C k46 w A1 l.length l) (hc1 : l.length ≤ c1) (hx : xs.length ≤ 1048576) (hl : l.length ≤ 1048576) :
    Calls Tryz.prog 9 #[.agg #[.int .i64 n, .slice A xs.length c], .slice A1 l.length c1] w fun e w' => ∃ v, e = .returned (.tuple #[v, .int .i64 (holesF n xs l).2]) ∧ RO w' w.heap.size v (holesF n xs l).1 ∧ Below w.heap.size w w' := by
  have HX0 := Aside0.mk (CxAt.new w n A xs.length c)
  have HB0 := Aside0.mk (below_alloc (Below.refl w.heap.size w) (.cells #[.int .i64 n, .slice A xs.length c] 30))
  have hx0 := HX0.out.c0
  have hx1 := HX0.out.c1
  have HR := Aside0.mk hr
  have HC := Aside0.mk hc
  have HR1 := Aside0.mk hr1
  have HC1 := Aside0.mk hc1
  have hac := acodeV_f n hx hl
  have hz := @acode_zero n xs l
  have HF := Aside0.mk (show holesF n xs l = if acode n xs l = 0 then (refE (numC xs l) (rkT xs l) (max 1 (numC xs l).length), 0) else ([], acode n xs l) from rfl)
  obtain ⟨z, hzz⟩ : ∃ z, acode n xs l = z := ⟨_, rfl⟩
  rw [hzz] at hac hz HF
  have HAC := Aside0.mk hac
  clear hr hc hr1 hc1 hac hzz
  by_cases h0 : z = 0
  · subst h0
    obtain ⟨hi, hp, ha⟩ := hz rfl
    have hmc : ∀ (d : Int) (W : World), RC W A xs.length xs → Kd.C k46 W A1 l.length l → 1 ≤ d ∧ d ≤ 6 → Calls Tryz.prog 27 #[.agg #[.int .i64 n, .slice A xs.length c], .slice A1 l.length c1, .int .i64 d] W fun e w' => ∃ Ar cr, e = .returned (.slice Ar (rowsM (wzT l) (critL xs l) d).length cr) ∧ (rowsM (wzT l) (critL xs l) d).length ≤ cr ∧ Kd.C (Kd.slice 2 (Kd.int .i64)) w' Ar (rowsM (wzT l) (critL xs l) d).length (rowsM (wzT l) (critL xs l) d) ∧ Below W.heap.size W w' := fun d W h1 h2 hd => morseT_c n d A c xs A1 c1 l W h1 HC.out h2 HC1.out hi hp ha hd
    have HMC := Lib.hid hmc
    have HRC := Lib.hid (rankT_c n xs l hi hp ha)
    have hcr := crit_fK hi hl (facesP_of hi hp)
    have hcm : ∀ x ∈ critL xs l, x ∈ xs := fun x hx => (List.mem_filter.1 hx).1
    have hcl : (critL xs l).length ≤ xs.length := List.length_filter_le _ _
    obtain ⟨kn, hkn⟩ := (ev_cntK hi (m := critL xs l) hcm (by omega)).rounds
    have HKN : Aside0 (QK.impl_Complex_count.f kn n xs (critL xs l) = some (numC xs l)) := ⟨hkn⟩
    have HCR0 := Aside0.mk hcr
    have hwin := numC_len xs l
    have HFE : Aside0 (holesF n xs l = (proE (numC xs l) (rkT xs l) (numC xs l).length, 0)) := ⟨by
      rw [HF.out, if_pos rfl, pro_ref (numC_small hi l) (by
        have h := rk_top xs l
        have e : (numC xs l).length = (dimL xs + 1).toNat := cntL_len _ _
        rw [e]; exact h)]⟩
    rw [HFE.out]
    clear hmc hcr hkn hcm hcl hi hp ha hz HF HFE
    obtain ⟨ns, hns⟩ : ∃ ns, numC xs l = ns := ⟨_, rfl⟩
    rw [hns] at HKN hwin ⊢
    clear hns
    have HP0 := Aside0.mk (proE_zero ns (rkT xs l))
    go_enter Tryz.func9, Tryz.ntmps9
    go_upto_region 4 with (go_at_call 23; refine (QV.impl_acyclicCode.calls n A c xs A1 c1 l true 0 _ (Kd.C_below HR.out HB0.out) HC.out (Kd.C_below HR1.out HB0.out) HC1.out HAC.out).mono ?_; rintro e w1 ⟨rfl, hb⟩; have HB1 := Aside0.mk (below_in HB0.out hb); have HX1 := Aside0.mk (HX0.out.below hb); have hy0 := HX1.out.c0; have hy1 := HX1.out.c1; clear hb hx0 hx1)
    clear HX0 HB0
    have HX := Aside0.mk HX1.out.drew'
    have HB := Aside0.mk HB1.out.drew
    clear HX1 HB1
    refine st_ 6 (S := fun w' => w'.cell? ⟨w.heap.size, 0, none⟩ = some (.int .i64 n) ∧ w'.cell? ⟨w.heap.size, 1, none⟩ = some (.slice A xs.length c)) (ds := []) ⟨hy0, hy1⟩ (fun hHeld => ?_)
    refine with_tabW (T := (true, [([], []), ([], []), ([], []), ([1, 2], [1, 2]), ([0, 3, 3], [0, 3]), ([4, 4, 0, 1, 2, 3, 4], [4])])) (B := [0, 0, 0, 6, 15, 31]) (by kernel_rfl) (by kernel_rfl) (fun HT_ HW_ => ?_)
    refine pd_ 2 17 4 HT_ ?_
    refine tk_ 0 15 5 HT_ HW_ hHeld ?_
    refine tk_ 1 16 7 HT_ HW_ hHeld ?_
    refine on_ 3 (some 18) 15 HT_ (fun K hK => ?_)
    refine ca_ Tryz.func25 #[.agg #[.int .i64 n, .slice A xs.length c], .slice A1 l.length c1] ?_
    refine (QK.impl_Complex_critical.calls n A c xs A1 c1 l (critL xs l) _ (Kd.C_below HR.out HB.out) HC.out (Kd.C_below HR1.out HB.out) HC1.out HCR0.out).mono ?_; rintro e wz1 ⟨v, rfl, hv, hb⟩; (try (have HXn := Aside0.mk (HX.out.below hb); clear HX; have HX := HXn; clear HXn)); (try (have HBn := Aside0.mk (below_in HB.out hb); clear HB; have HB := HBn; clear HBn)); obtain ⟨Ac, cc, rfl⟩ := Kd.R_slice hv; have HV := Aside0.mk (Kd.R_reads' hv); clear hv hb hy0 hy1
    refine ⟨_, rfl, ?_⟩
    refine hK.out _ _ ⟨HX.out.c0, HX.out.c1⟩ (fun hHeld => ?_)
    clear hK K
    refine nm_ ?_
    refine on_ 4 (some 19) 31 HT_ (fun K hK => ?_)
    refine ca_ Tryz.func24 #[.agg #[.int .i64 n, .slice A xs.length c], .slice Ac (critL xs l).length cc] ?_
    refine (QK.impl_Complex_count.calls kn n A c xs Ac cc (critL xs l) ns _ (Kd.C_below HR.out HB.out) HC.out HV.out.2.2 HV.out.2.1 HKN.out).mono ?_; rintro e wz2 ⟨v2, rfl, hv, hb⟩; obtain ⟨Av, cv, rfl⟩ := Kd.R_slice hv; have HN := Aside0.mk (Kd.R_lower hv HB.out.size); (try (have HXn := Aside0.mk (HX.out.below hb); clear HX; have HX := HXn; clear HXn)); (try (have HBn := Aside0.mk (below_in HB.out hb); clear HB; have HB := HBn; clear HBn)); clear hv hb HV
    refine ⟨_, rfl, ?_⟩
    refine hK.out _ _ ⟨HX.out.c0, HX.out.c1⟩ (fun hHeld => ?_)
    clear hK K
    refine nm_ ?_
    refine pd_ 5 7 63 HT_ ?_
    refine dn_ HT_ ?_
    go_wp2
    have HO : Aside0 (RO wz2 w.heap.size (.slice Av ns.length cv) (proE ns (rkT xs l) 0)) := ⟨by rw [HP0.out]; exact HN.out⟩
    clear HN HP0
    go_loopw [22] (fun s22 wr => ∃ d : Nat, d ≤ ns.length ∧ s22 = .int .i64 d ∧ Aside0 (RO wr w.heap.size (.slice Av ns.length cv) (proE ns (rkT xs l) d)) ∧ Aside0 (CxAt wr w.heap.size n A xs.length c) ∧ Aside0 (Below w.heap.size w wr)) (fun s22 _ => ns.length - (intOf s22).toNat)
    case atStart => exact ⟨0, by omega, rfl, HO, HX, HB⟩
    case round =>
      clear HO HX HB
      obtain ⟨d, hd, rfl, HO0, HX0, HB0⟩ := hrel
      by_cases hlt : d < ns.length
      · have hltz : (d : Int) < (ns.length : Int) := by omega
        have hlen : (proE ns (rkT xs l) d).length = ns.length := proE_len _ _ _
        obtain ⟨g, rfl⟩ := RO.block HO0.out (by omega)
        have HG := Aside0.mk (RO.cells HO0.out (i := 0) (by omega)).1
        have HNE : Aside0 (w.heap.size ≠ g) := ⟨fun e => (Kd.R_ne HO0.out HX0.out (by decide)) (congrArg some e)⟩
        have HO := Aside0.mk (show RO wr.drew w.heap.size (.slice (some ⟨g, 0, none⟩) ns.length cv) (proE ns (rkT xs l) d) from Kd.R_drew HO0.out)
        have HX := Aside0.mk HX0.out.drew'
        have HB := Aside0.mk HB0.out.drew
        clear HO0 HX0 HB0
        have HNX := Aside0.mk (proE_set ns (rkT xs l) hlt)
        have HNX2 := Lib.hid (proE_next ns (rkT xs l) hlt)
        obtain ⟨R2, hR2⟩ : ∃ R2, rkT xs l ((d : Int) + 1) = R2 := ⟨_, rfl⟩
        obtain ⟨E1, hE1⟩ : ∃ E1, ownE ns (rkT xs l) d = E1 := ⟨_, rfl⟩
        obtain ⟨E2, hE2⟩ : ∃ E2, wrap64 (E1 - R2) = E2 := ⟨_, rfl⟩
        rw [hR2, hE1, hE2] at HNX
        have HNX3 := Lib.hid (fun x : Int => show ((proE ns (rkT xs l) d).set d x).set d E2 = proE ns (rkT xs l) (d + 1) by rw [← hE2, ← hE1, ← hR2]; exact HNX2.out x)
        have hE2' : IntKind.i64.wrap (E1 - R2) = E2 := by rw [IntKind.wrap_i64]; unfold wrap64 at hE2; exact hE2
        have HRC2 := Lib.hid (fun Ar cr W h1 h2 => HRC.out ((d : Int) + 1) Ar cr W h1 h2)
        rw [hR2] at HRC2
        have hd6 : 1 ≤ (d : Int) + 1 ∧ (d : Int) + 1 ≤ 6 := by omega
        clear HNX2 hR2
        by_cases hd0 : d = 0
        · have hdz : ¬ (0 < (d : Int)) := by omega
          have HLE : Aside0 (∃ h : d < (proE ns (rkT xs l) d).length, (proE ns (rkT xs l) d)[d] = E1) := ⟨⟨by omega, by subst hd0; rw [← hE1]; exact proE_zero_own ns (rkT xs l) _⟩⟩
          clear hE1 hlen hd0
          go_upto_region 10 with fail
          have hwd1 : wrap64 ((d : Int) + 1) = (d : Int) + 1 := by unfold wrap64; omega
          refine st_ 13 (S := fun w' => w'.cell? ⟨w.heap.size, 0, none⟩ = some (.int .i64 n) ∧ w'.cell? ⟨w.heap.size, 1, none⟩ = some (.slice A xs.length c) ∧ w'.cell? ⟨g, d, none⟩ = some (.int .i64 E1)) (ds := [12]) ⟨HX.out.c0, HX.out.c1, by have hz := (RO.cells HO.out (i := d) HLE.out.1).2.1; rw [HLE.out.2] at hz; exact hz⟩ (fun hHeld => ?_)
          refine with_tabW (T := (true, [([], []), ([], []), ([0, 1], [0, 1]), ([2], [2]), ([], []), ([], []), ([], []), ([6], [6]), ([4, 5, 7], [4, 5, 7]), ([8, 8], [8]), ([3, 9], [3, 9]), ([0, 1, 0, 1, 2, 3, 4, 5, 6, 7, 8, 9, 10], [0, 1]), ([11, 10, 9, 0, 1, 2, 3, 4, 5, 6, 7, 8, 9, 10], [10, 11])])) (B := [0, 0, 3, 7, 0, 0, 0, 64, 240, 496, 1023, 2047, 4095]) (by kernel_rfl) (by kernel_rfl) (fun HT_ HW_ => ?_)
          refine pd_ 0 38 1 HT_ ?_
          refine pd_ 1 39 3 HT_ ?_
          refine pd_ 2 40 7 HT_ ?_
          refine pd_ 5 43 39 HT_ ?_
          refine pd_ 6 44 103 HT_ ?_
          refine pd_ 7 45 231 HT_ ?_
          refine tk_ 3 41 239 HT_ HW_ hHeld ?_
          refine tk_ 4 42 255 HT_ HW_ hHeld ?_
          refine on_ 8 (some 46) 511 HT_ (fun K hK => ?_)
          refine ca_ Tryz.func27 #[.agg #[.int .i64 n, .slice A xs.length c], .slice A1 l.length c1, .int .i64 (wrap64 ((d : Int) + 1))] ?_
          (rw [hwd1]); refine (HMC.out ((d : Int) + 1) _ (Kd.C_below HR.out HB.out) (Kd.C_below HR1.out HB.out) hd6).mono ?_; rintro e wz1 ⟨Ar, cr, rfl, hcr, hk, hb⟩; (try (have HXn := Aside0.mk (HX.out.below hb); clear HX; have HX := HXn; clear HXn)); (try (have HBn := Aside0.mk (below_in HB.out hb); clear HB; have HB := HBn; clear HBn)); (try (have HOn := Aside0.mk (Kd.R_below HO.out hb); clear HO; have HO := HOn; clear HOn)); have HK := Aside0.mk hk; have HCR := Aside0.mk hcr; clear hk hb hcr
          refine ⟨_, rfl, ?_⟩
          refine hK.out _ _ ⟨HX.out.c0, HX.out.c1, by have hz := (RO.cells HO.out (i := d) HLE.out.1).2.1; rw [HLE.out.2] at hz; exact hz⟩ (fun hHeld => ?_)
          clear hK K
          refine nm_ ?_
          refine on_ 9 (some 47) 1023 HT_ (fun K hK => ?_)
          refine ca_ Tryz.func26 #[.slice Ar (rowsM (wzT l) (critL xs l) ((d : Int) + 1)).length cr] ?_
          refine (HRC2.out Ar cr _ HCR.out HK.out).mono ?_; rintro e wz2 ⟨rfl, hb⟩; (try (have HXn := Aside0.mk (HX.out.below hb); clear HX; have HX := HXn; clear HXn)); (try (have HBn := Aside0.mk (below_in HB.out hb); clear HB; have HB := HBn; clear HBn)); (try (have HOn := Aside0.mk (Kd.R_below HO.out hb); clear HO; have HO := HOn; clear HOn)); clear hb HK HCR
          refine ⟨_, rfl, ?_⟩
          refine hK.out _ _ ⟨HX.out.c0, HX.out.c1, by have hz := (RO.cells HO.out (i := d) HLE.out.1).2.1; rw [HLE.out.2] at hz; exact hz⟩ (fun hHeld => ?_)
          clear hK K
          refine nm_ ?_
          refine pd_ 10 48 2047 HT_ ?_
          refine pd_ 11 49 4095 HT_ ?_
          refine la_ 12 none 8191 HT_ (fun K hK => ?_)
          (obtain ⟨_, hcd', hfd'⟩ := RO.cells HO.out (i := d) HLE.out.1; rw [HLE.out.2] at hcd'; refine skip_ (by rfl) rfl (w1 := (wz2).setCell ⟨g, d, none⟩ (.int .i64 E2)) (by go_simp) ?_; have HOn := Aside0.mk (RO.putH HO.out d E2); have HXn := Aside0.mk (HX.out.far HNE.out (o := d) (.int .i64 E2)); have HBn := Aside0.mk (HB.out.setCell (p := ⟨g, d, none⟩) HG.out (.int .i64 E2)); clear HO HX HB; have HO := HOn; have HX := HXn; have HB := HBn; clear HOn HXn HBn hcd' hfd'; generalize (wz2).setCell ⟨g, d, none⟩ (.int .i64 E2) = wz3 at HO HX HB ⊢)
          refine hK.out _ _ ?_
          clear hK K
          refine dn_ HT_ ?_
          go_wp2
          exact ⟨⟨d + 1, by omega, by go_num, ⟨by rw [← HNX.out]; exact HO.out⟩, HX, HB⟩, by simp [intOf]; omega⟩
        · have hdz : 0 < (d : Int) := by omega
          obtain ⟨R1, hR1⟩ : ∃ R1, rkT xs l (d : Int) = R1 := ⟨_, rfl⟩
          have HRC1 := Lib.hid (fun Ar cr W h1 h2 => HRC.out (d : Int) Ar cr W h1 h2)
          rw [hR1] at HRC1
          obtain ⟨X0, hX0⟩ : ∃ X0, (proE ns (rkT xs l) d)[d]'(by omega) = X0 := ⟨_, rfl⟩
          have hw0 : wrap64 (X0 - R1) = E1 := by rw [← hX0, ← hR1, ← hE1]; exact proE_own ns (rkT xs l) (by omega) _
          have hw0' : IntKind.i64.wrap (X0 - R1) = E1 := by rw [IntKind.wrap_i64]; unfold wrap64 at hw0; exact hw0
          have HLE : Aside0 (∃ h : d < (proE ns (rkT xs l) d).length, (proE ns (rkT xs l) d)[d] = X0) := ⟨⟨by omega, hX0⟩⟩
          have HLE2 : Aside0 (∃ h : d < ((proE ns (rkT xs l) d).set d E1).length, ((proE ns (rkT xs l) d).set d E1)[d] = E1) := ⟨⟨by rw [List.length_set]; omega, List.getElem_set_self _⟩⟩
          have hd61 : 1 ≤ (d : Int) ∧ (d : Int) ≤ 6 := by omega
          clear hE1 hlen hd0 hX0 hR1
          go_upto_region 9 with fail
          refine st_ 12 (S := fun w' => w'.cell? ⟨w.heap.size, 0, none⟩ = some (.int .i64 n) ∧ w'.cell? ⟨w.heap.size, 1, none⟩ = some (.slice A xs.length c) ∧ w'.cell? ⟨g, d, none⟩ = some (.int .i64 X0)) (ds := [11]) ⟨HX.out.c0, HX.out.c1, by have hz := (RO.cells HO.out (i := d) HLE.out.1).2.1; rw [HLE.out.2] at hz; exact hz⟩ (fun hHeld => ?_)
          refine with_tabW (T := (true, [([], []), ([], []), ([0, 1], [0, 1]), ([2], [2]), ([], []), ([], []), ([], []), ([4, 5, 6], [4, 5, 6]), ([7, 7], [7]), ([3, 8], [3, 8]), ([0, 1, 0, 1, 2, 3, 4, 5, 6, 7, 8, 9], [0, 1]), ([10, 9, 8, 0, 1, 2, 3, 4, 5, 6, 7, 8, 9], [9, 10])])) (B := [0, 0, 3, 7, 0, 0, 0, 112, 240, 511, 1023, 2047]) (by kernel_rfl) (by kernel_rfl) (fun HT_ HW_ => ?_)
          refine pd_ 0 27 1 HT_ ?_
          refine pd_ 1 28 3 HT_ ?_
          refine pd_ 2 29 7 HT_ ?_
          refine pd_ 5 32 39 HT_ ?_
          refine pd_ 6 33 103 HT_ ?_
          refine tk_ 3 30 111 HT_ HW_ hHeld ?_
          refine tk_ 4 31 127 HT_ HW_ hHeld ?_
          refine on_ 7 (some 34) 255 HT_ (fun K hK => ?_)
          refine ca_ Tryz.func27 #[.agg #[.int .i64 n, .slice A xs.length c], .slice A1 l.length c1, .int .i64 (d : Int)] ?_
          refine (HMC.out (d : Int) _ (Kd.C_below HR.out HB.out) (Kd.C_below HR1.out HB.out) hd61).mono ?_; rintro e wz1 ⟨Ar, cr, rfl, hcr, hk, hb⟩; (try (have HXn := Aside0.mk (HX.out.below hb); clear HX; have HX := HXn; clear HXn)); (try (have HBn := Aside0.mk (below_in HB.out hb); clear HB; have HB := HBn; clear HBn)); (try (have HOn := Aside0.mk (Kd.R_below HO.out hb); clear HO; have HO := HOn; clear HOn)); have HK := Aside0.mk hk; have HCR := Aside0.mk hcr; clear hk hb hcr
          refine ⟨_, rfl, ?_⟩
          refine hK.out _ _ ⟨HX.out.c0, HX.out.c1, by have hz := (RO.cells HO.out (i := d) HLE.out.1).2.1; rw [HLE.out.2] at hz; exact hz⟩ (fun hHeld => ?_)
          clear hK K
          refine nm_ ?_
          refine on_ 8 (some 35) 511 HT_ (fun K hK => ?_)
          refine ca_ Tryz.func26 #[.slice Ar (rowsM (wzT l) (critL xs l) (d : Int)).length cr] ?_
          refine (HRC1.out Ar cr _ HCR.out HK.out).mono ?_; rintro e wz2 ⟨rfl, hb⟩; (try (have HXn := Aside0.mk (HX.out.below hb); clear HX; have HX := HXn; clear HXn)); (try (have HBn := Aside0.mk (below_in HB.out hb); clear HB; have HB := HBn; clear HBn)); (try (have HOn := Aside0.mk (Kd.R_below HO.out hb); clear HO; have HO := HOn; clear HOn)); clear hb HK HCR
          refine ⟨_, rfl, ?_⟩
          refine hK.out _ _ ⟨HX.out.c0, HX.out.c1, by have hz := (RO.cells HO.out (i := d) HLE.out.1).2.1; rw [HLE.out.2] at hz; exact hz⟩ (fun hHeld => ?_)
          clear hK K
          refine nm_ ?_
          refine pd_ 9 36 1023 HT_ ?_
          refine pd_ 10 37 2047 HT_ ?_
          refine la_ 11 none 4095 HT_ (fun K hK => ?_)
          (obtain ⟨_, hcd', hfd'⟩ := RO.cells HO.out (i := d) HLE.out.1; rw [HLE.out.2] at hcd'; refine skip_ (by rfl) rfl (w1 := (wz2).setCell ⟨g, d, none⟩ (.int .i64 E1)) (by go_simp) ?_; have HOn := Aside0.mk (RO.putH HO.out d E1); have HXn := Aside0.mk (HX.out.far HNE.out (o := d) (.int .i64 E1)); have HBn := Aside0.mk (HB.out.setCell (p := ⟨g, d, none⟩) HG.out (.int .i64 E1)); clear HO HX HB; have HO := HOn; have HX := HXn; have HB := HBn; clear HOn HXn HBn hcd' hfd'; generalize (wz2).setCell ⟨g, d, none⟩ (.int .i64 E1) = wz3 at HO HX HB ⊢)
          refine hK.out _ _ ?_
          clear hK K
          refine dn_ HT_ ?_
          go_upto_region 10 with fail
          have HOd := Aside0.mk (show RO wz3.drew w.heap.size (.slice (some ⟨g, 0, none⟩) ns.length cv) ((proE ns (rkT xs l) d).set d E1) from Kd.R_drew HO.out)
          have HXd := Aside0.mk HX.out.drew'
          have HBd := Aside0.mk HB.out.drew
          clear HO HX HB
          have HO := HOd
          have HX := HXd
          have HB := HBd
          clear HOd HXd HBd hw0 hw0'
          have hwd1 : wrap64 ((d : Int) + 1) = (d : Int) + 1 := by unfold wrap64; omega
          refine st_ 13 (S := fun w' => w'.cell? ⟨w.heap.size, 0, none⟩ = some (.int .i64 n) ∧ w'.cell? ⟨w.heap.size, 1, none⟩ = some (.slice A xs.length c) ∧ w'.cell? ⟨g, d, none⟩ = some (.int .i64 E1)) (ds := [12]) ⟨HX.out.c0, HX.out.c1, by have hz := (RO.cells HO.out (i := d) HLE2.out.1).2.1; rw [HLE2.out.2] at hz; exact hz⟩ (fun hHeld => ?_)
          refine with_tabW (T := (true, [([], []), ([], []), ([0, 1], [0, 1]), ([2], [2]), ([], []), ([], []), ([], []), ([6], [6]), ([4, 5, 7], [4, 5, 7]), ([8, 8], [8]), ([3, 9], [3, 9]), ([0, 1, 0, 1, 2, 3, 4, 5, 6, 7, 8, 9, 10], [0, 1]), ([11, 10, 9, 0, 1, 2, 3, 4, 5, 6, 7, 8, 9, 10], [10, 11])])) (B := [0, 0, 3, 7, 0, 0, 0, 64, 240, 496, 1023, 2047, 4095]) (by kernel_rfl) (by kernel_rfl) (fun HT_ HW_ => ?_)
          refine pd_ 0 38 1 HT_ ?_
          refine pd_ 1 39 3 HT_ ?_
          refine pd_ 2 40 7 HT_ ?_
          refine pd_ 5 43 39 HT_ ?_
          refine pd_ 6 44 103 HT_ ?_
          refine pd_ 7 45 231 HT_ ?_
          refine tk_ 3 41 239 HT_ HW_ hHeld ?_
          refine tk_ 4 42 255 HT_ HW_ hHeld ?_
          refine on_ 8 (some 46) 511 HT_ (fun K hK => ?_)
          refine ca_ Tryz.func27 #[.agg #[.int .i64 n, .slice A xs.length c], .slice A1 l.length c1, .int .i64 (wrap64 ((d : Int) + 1))] ?_
          (rw [hwd1]); refine (HMC.out ((d : Int) + 1) _ (Kd.C_below HR.out HB.out) (Kd.C_below HR1.out HB.out) hd6).mono ?_; rintro e wz1 ⟨Ar, cr, rfl, hcr, hk, hb⟩; (try (have HXn := Aside0.mk (HX.out.below hb); clear HX; have HX := HXn; clear HXn)); (try (have HBn := Aside0.mk (below_in HB.out hb); clear HB; have HB := HBn; clear HBn)); (try (have HOn := Aside0.mk (Kd.R_below HO.out hb); clear HO; have HO := HOn; clear HOn)); have HK := Aside0.mk hk; have HCR := Aside0.mk hcr; clear hk hb hcr
          refine ⟨_, rfl, ?_⟩
          refine hK.out _ _ ⟨HX.out.c0, HX.out.c1, by have hz := (RO.cells HO.out (i := d) HLE2.out.1).2.1; rw [HLE2.out.2] at hz; exact hz⟩ (fun hHeld => ?_)
          clear hK K
          refine nm_ ?_
          refine on_ 9 (some 47) 1023 HT_ (fun K hK => ?_)
          refine ca_ Tryz.func26 #[.slice Ar (rowsM (wzT l) (critL xs l) ((d : Int) + 1)).length cr] ?_
          refine (HRC2.out Ar cr _ HCR.out HK.out).mono ?_; rintro e wz2 ⟨rfl, hb⟩; (try (have HXn := Aside0.mk (HX.out.below hb); clear HX; have HX := HXn; clear HXn)); (try (have HBn := Aside0.mk (below_in HB.out hb); clear HB; have HB := HBn; clear HBn)); (try (have HOn := Aside0.mk (Kd.R_below HO.out hb); clear HO; have HO := HOn; clear HOn)); clear hb HK HCR
          refine ⟨_, rfl, ?_⟩
          refine hK.out _ _ ⟨HX.out.c0, HX.out.c1, by have hz := (RO.cells HO.out (i := d) HLE2.out.1).2.1; rw [HLE2.out.2] at hz; exact hz⟩ (fun hHeld => ?_)
          clear hK K
          refine nm_ ?_
          refine pd_ 10 48 2047 HT_ ?_
          refine pd_ 11 49 4095 HT_ ?_
          refine la_ 12 none 8191 HT_ (fun K hK => ?_)
          (obtain ⟨_, hcd', hfd'⟩ := RO.cells HO.out (i := d) HLE2.out.1; rw [HLE2.out.2] at hcd'; refine skip_ (by rfl) rfl (w1 := (wz2).setCell ⟨g, d, none⟩ (.int .i64 E2)) (by go_simp) ?_; have HOn := Aside0.mk (RO.putH HO.out d E2); have HXn := Aside0.mk (HX.out.far HNE.out (o := d) (.int .i64 E2)); have HBn := Aside0.mk (HB.out.setCell (p := ⟨g, d, none⟩) HG.out (.int .i64 E2)); clear HO HX HB; have HO := HOn; have HX := HXn; have HB := HBn; clear HOn HXn HBn hcd' hfd'; generalize (wz2).setCell ⟨g, d, none⟩ (.int .i64 E2) = wz3 at HO HX HB ⊢)
          refine hK.out _ _ ?_
          clear hK K
          refine dn_ HT_ ?_
          go_wp2
          exact ⟨⟨d + 1, by omega, by go_num, ⟨by rw [← HNX3.out E1]; exact HO.out⟩, HX, HB⟩, by simp [intOf]; omega⟩
      · obtain rfl : d = ns.length := by omega
        have hltz : ¬ (ns.length : Int) < (ns.length : Int) := by omega
        go_wp2
        go_ret2
        exact ⟨_, rfl, HO0.out, HB0.out⟩
  · have HF2 : Aside0 (holesF n xs l = ([], z)) := ⟨by rw [HF.out, if_neg h0]⟩
    rw [HF2.out]
    have hz1 : (z == 0) = false := beq_eq_false_iff_ne.2 h0
    clear hz HF HF2
    go_enter Tryz.func9, Tryz.ntmps9
    go_wp2_with (go_at_call 23; refine (QV.impl_acyclicCode.calls n A c xs A1 c1 l true z _ (Kd.C_below HR.out HB0.out) HC.out (Kd.C_below HR1.out HB0.out) HC1.out HAC.out).mono ?_; rintro e w1 ⟨rfl, hb⟩; have HB1 := Aside0.mk (below_in HB0.out hb); clear hb)
    go_ret2
    exact ⟨_, rfl, Kd.R_nil _ _ _ _ _, HB1.out⟩
set_option maxRecDepth 100000 in
set_option maxHeartbeats 8000000 in
theorem holesT_c (n : Int) (A : Option Addr) (c : Nat) (xs : List Int) (A1 : Option Addr) (c1 : Nat) (l : List Pr) (w : World) (hr : RC w A xs.length xs) (hc : xs.length ≤ c) (hr1 : Kd.C k46 w A1 l.length l) (hc1 : l.length ≤ c1) (hx : xs.length ≤ 1048576) (hl : l.length ≤ 1048576) :
    Calls Tryz.prog 6 #[.agg #[.int .i64 n, .slice A xs.length c], .slice A1 l.length c1] w fun e w' => ∃ v, e = .returned (.tuple #[v, .int .i64 (holesF n xs l).2]) ∧ RO w' w.heap.size v (holesF n xs l).1 ∧ Below w.heap.size w w' := by
  have HX0 := Aside0.mk (CxAt.new w n A xs.length c)
  have HB0 := Aside0.mk (below_alloc (Below.refl w.heap.size w) (.cells #[.int .i64 n, .slice A xs.length c] 30))
  have hx0 := HX0.out.c0
  have hx1 := HX0.out.c1
  have HR := Aside0.mk hr
  have HC := Aside0.mk hc
  have HR1 := Aside0.mk hr1
  have HC1 := Aside0.mk hc1
  have HNIL : ∀ W : World, RC W none 0 [] := fun W => ⟨rfl, by simp, fun h => absurd h (Nat.lt_irrefl _)⟩
  have HNL := Lib.hid HNIL
  obtain ⟨kc, hkc⟩ := (ev_pcode n hx hl).rounds
  have hz := @acode_zero n xs l
  have HF := Aside0.mk (show holesF n xs l = if acode n xs l = 0 then (refE (numC xs l) (rkT xs l) (max 1 (numC xs l).length), 0) else ([], acode n xs l) from rfl)
  have hac : acode n xs l = if pcode n xs l = 0 then (if acycB l then 0 else 5) else pcode n xs l := rfl
  have hpz : pcode n xs l = 0 → isC n xs = true ∧ pairingB xs l = true := fun h => by
    unfold pcode at h
    cases h1 : isC n xs <;> cases h2 : pairingB xs l <;> simp [h1, h2] at h ⊢
  clear hr hc hr1 hc1 HNIL
  by_cases hp0 : pcode n xs l = 0
  · rw [hp0] at hkc
    rw [if_pos hp0] at hac
    obtain ⟨hi, hp⟩ := hpz hp0
    obtain ⟨ka, hka⟩ := (ev_acyclic hl (facesP_of hi hp)).rounds
    have HKC := Aside0.mk hkc
    cases ha : acycB l with
    | true =>
      rw [ha] at hka hac
      rw [if_pos rfl] at hac
      rw [hac, if_pos rfl] at HF
      rw [HF.out]
      have HKA := Aside0.mk hka
      have HHS := Lib.hid (fun W h1 h2 => holesS_c n A c xs A1 c1 l W h1 HC.out h2 HC1.out hi hp ha)
      clear hkc hka hac hpz hp0 hi hp ha HF hz
      go_enter Tryz.func6, Tryz.ntmps6
      go_wp2_with (first
        | (go_at_call 18; refine (QS.spec_l02Code.calls kc n A c xs A1 c1 l none 0 [] 0 _ (Kd.C_below HR.out HB0.out) HC.out (Kd.C_below HR1.out HB0.out) HC1.out (HNL.out _) (Nat.le_refl _) HKC.out).mono ?_; rintro e w1 ⟨rfl, hb⟩; have HB1 := Aside0.mk (below_in HB0.out hb); have HX1 := Aside0.mk (HX0.out.below hb); have hy0 := HX1.out.c0; have hy1 := HX1.out.c1; clear hb hx0 hx1)
        | (go_at_call 19; refine (QS.spec_l02Acyclic.calls ka A1 c1 l true _ (Kd.C_below HR1.out HB1.out) HC1.out HKA.out).mono ?_; rintro e w2 ⟨rfl, hb⟩; have HB2 := Aside0.mk (below_in HB1.out hb); have HX2 := Aside0.mk (HX1.out.below hb); have hz0 := HX2.out.c0; have hz1 := HX2.out.c1; clear hb hy0 hy1)
        | (go_at_call 20; refine (HHS.out _ (Kd.C_below HR.out HB2.out) (Kd.C_below HR1.out HB2.out)).mono ?_; rintro e w3 ⟨v, rfl, hv, hb⟩; have HV := Aside0.mk (Kd.R_lower hv HB2.out.size); have HB3 := Aside0.mk (below_in HB2.out hb); clear hv hb))
      go_ret2
      exact ⟨_, rfl, HV.out, HB3.out⟩
    | false =>
      rw [ha] at hka hac
      rw [if_neg (by decide)] at hac
      rw [hac, if_neg (by decide)] at HF
      rw [HF.out]
      have HKA := Aside0.mk hka
      clear hkc hka hac hpz hp0 hi hp ha HF hz
      go_enter Tryz.func6, Tryz.ntmps6
      go_wp2_with (first
        | (go_at_call 18; refine (QS.spec_l02Code.calls kc n A c xs A1 c1 l none 0 [] 0 _ (Kd.C_below HR.out HB0.out) HC.out (Kd.C_below HR1.out HB0.out) HC1.out (HNL.out _) (Nat.le_refl _) HKC.out).mono ?_; rintro e w1 ⟨rfl, hb⟩; have HB1 := Aside0.mk (below_in HB0.out hb); clear hb hx0 hx1)
        | (go_at_call 19; refine (QS.spec_l02Acyclic.calls ka A1 c1 l false _ (Kd.C_below HR1.out HB1.out) HC1.out HKA.out).mono ?_; rintro e w2 ⟨rfl, hb⟩; have HB2 := Aside0.mk (below_in HB1.out hb); clear hb))
      go_ret2
      exact ⟨_, rfl, Kd.R_nil _ _ _ _ _, HB2.out⟩
  · rw [if_neg hp0] at hac
    rw [hac, if_neg hp0] at HF
    rw [HF.out]
    obtain ⟨z, hzz⟩ : ∃ z, pcode n xs l = z := ⟨_, rfl⟩
    rw [hzz] at hkc hp0 ⊢
    have HKC := Aside0.mk hkc
    have hz1 : (z == 0) = false := beq_eq_false_iff_ne.2 hp0
    clear hkc hac hpz HF hz hzz
    go_enter Tryz.func6, Tryz.ntmps6
    go_wp2_with (go_at_call 18; refine (QS.spec_l02Code.calls kc n A c xs A1 c1 l none 0 [] z _ (Kd.C_below HR.out HB0.out) HC.out (Kd.C_below HR1.out HB0.out) HC1.out (HNL.out _) (Nat.le_refl _) HKC.out).mono ?_; rintro e w1 ⟨rfl, hb⟩; have HB1 := Aside0.mk (below_in HB0.out hb); clear hb hx0 hx1)
    all_goals
      go_ret2
      exact ⟨_, rfl, Kd.R_nil _ _ _ _ _, HB1.out⟩
end Go.Proofs.YtpjcnigohhnhnaaGreat.Im
namespace Go.Proofs.YtpjcnigohhnhnaaGreat.Ext
open Go.RowKit Im Pu Kp YtpjcnigohhnhnaaGreatW.PrintWords YtpjcnigohhnhnaaGreatW.PrintLast YtpjcnigohhnhnaaGreatW.PrintMore
def impl_HolesOf.f (a0_0 : Int) (l0_1 : List Int) (l1 : List S46) : Option (List Int × Int) := if l0_1.length ≤ 1048576 ∧ l1.length ≤ 1048576 then some (holesF a0_0 l0_1 l1) else none
theorem impl_HolesOf.calls (a0_0 : Int) (A0_1 : Option Addr) (c0_1 : Nat) (l0_1 : List Int) (A1 : Option Addr) (c1 : Nat) (l1 : List S46) (r1 : List Int) (r2 : Int) (w : World) (hr0_1 : Kd.C (Kd.int .i64) w A0_1 l0_1.length l0_1) (_hc0_1 : l0_1.length ≤ c0_1) (hr1 : Kd.C k46 w A1 l1.length l1) (_hc1 : l1.length ≤ c1) (h : impl_HolesOf.f a0_0 l0_1 l1 = some (r1, r2)) :
    Calls Tryz.prog 9 #[.agg #[.int .i64 a0_0, .slice A0_1 l0_1.length c0_1], .slice A1 l1.length c1] w fun e w' => ∃ v0_ : Value, e = .returned (.tuple #[v0_, .int .i64 r2]) ∧ Kd.R (Kd.int .i64) 2 w' w.heap.size (fun _ => True) v0_ r1 ∧ Below w.heap.size w w' := by
  unfold impl_HolesOf.f at h
  by_cases hl : l0_1.length ≤ 1048576 ∧ l1.length ≤ 1048576
  · rw [if_pos hl] at h
    have hd := Option.some.inj h
    have := holesP_c a0_0 A0_1 c0_1 l0_1 A1 c1 l1 w hr0_1 _hc0_1 hr1 _hc1 hl.1 hl.2
    rw [hd] at this
    exact this
  · rw [if_neg hl] at h; cases h
def spec_HolesOf.f (a0_0 : Int) (l0_1 : List Int) (l1 : List S46) : Option (List Int × Int) := if l0_1.length ≤ 1048576 ∧ l1.length ≤ 1048576 then some (holesF a0_0 l0_1 l1) else none
theorem spec_HolesOf.calls (a0_0 : Int) (A0_1 : Option Addr) (c0_1 : Nat) (l0_1 : List Int) (A1 : Option Addr) (c1 : Nat) (l1 : List S46) (r1 : List Int) (r2 : Int) (w : World) (hr0_1 : Kd.C (Kd.int .i64) w A0_1 l0_1.length l0_1) (_hc0_1 : l0_1.length ≤ c0_1) (hr1 : Kd.C k46 w A1 l1.length l1) (_hc1 : l1.length ≤ c1) (h : spec_HolesOf.f a0_0 l0_1 l1 = some (r1, r2)) :
    Calls Tryz.prog 6 #[.agg #[.int .i64 a0_0, .slice A0_1 l0_1.length c0_1], .slice A1 l1.length c1] w fun e w' => ∃ v0_ : Value, e = .returned (.tuple #[v0_, .int .i64 r2]) ∧ Kd.R (Kd.int .i64) 2 w' w.heap.size (fun _ => True) v0_ r1 ∧ Below w.heap.size w w' := by
  unfold spec_HolesOf.f at h
  by_cases hl : l0_1.length ≤ 1048576 ∧ l1.length ≤ 1048576
  · rw [if_pos hl] at h
    have hd := Option.some.inj h
    have := holesT_c a0_0 A0_1 c0_1 l0_1 A1 c1 l1 w hr0_1 _hc0_1 hr1 _hc1 hl.1 hl.2
    rw [hd] at this
    exact this
  · rw [if_neg hl] at h; cases h
end Go.Proofs.YtpjcnigohhnhnaaGreat.Ext
namespace Go.Proofs.YtpjcnigohhnhnaaGreat.QS
open Cw Kp Ext Go.RowKit YtpjcnigohhnhnaaGreatW.PrintWords YtpjcnigohhnhnaaGreatW.PrintLast YtpjcnigohhnhnaaGreatW.PrintMore
attribute [local go_sem] max2_int min2_int max_two min_two max_three min_three max_four min_four   -- for this text's walks alone
def laws_eqPairS.l0 : Nat → List (S46) → List (S46) → Int → Option (Bool)
 | 0, _, _, _ => none
 | k + 1, x0, x1, x5 => if x5 < (x0.length : Int) then (if 0 ≤ x5 then (if x5 < (x1.length : Int) then ((laws_eqPair.f ((rd_T46 x0 x5).f0) ((rd_T46 x0 x5).f1) ((rd_T46 x1 x5).f0) ((rd_T46 x1 x5).f1)).bind fun t128 => (if t128 = true then (laws_eqPairS.l0 k x0 x1 (wrap64 (x5 + 1))) else (some false))) else (none)) else (none)) else (some true)
def laws_eqPairS.f (k : Nat) (l0 : List (S46)) (l1 : List (S46)) : Option (Bool) := if (l0.length : Int) = (l1.length : Int) then (laws_eqPairS.l0 k l0 l1 0) else (some false)
def laws_eqPairS.T6 : Bool × List (List Nat × List Nat) := (true, [([], []), ([], []), ([0, 1], [0, 1]), ([2], [2]), ([], []), ([], []), ([4, 5], [4, 5]), ([6], [6]), ([3, 7], [3, 7]), ([8], [8])])
def laws_eqPairS.B6 : List Nat := [0, 0, 3, 7, 0, 0, 48, 112, 255, 511]
theorem laws_eqPairS.tab6 : rtab .any (opsOf Tryz.f12 6) = laws_eqPairS.T6 := by kernel_rfl
theorem laws_eqPairS.bits6 : waitsOk laws_eqPairS.T6.2 laws_eqPairS.B6 = true := by kernel_rfl
set_option maxHeartbeats 8000000 in
set_option maxRecDepth 100000 in
theorem laws_eqPairS.calls (k : Nat) (A0 : Option Addr) (c0 : Nat) (l0 : List (S46)) (A1 : Option Addr) (c1 : Nat) (l1 : List (S46)) (r : Bool) (w : World) (hr0 : Kd.C k46 w A0 l0.length l0) (hc0 : l0.length ≤ c0) (hr1 : Kd.C k46 w A1 l1.length l1) (hc1 : l1.length ≤ c1) (h : laws_eqPairS.f k l0 l1 = some r) :
  Calls Tryz.prog 12 #[.slice A0 l0.length c0, .slice A1 l1.length c1] w fun e w' => e = .returned (.bool r) ∧ Below w.heap.size w w' := by
 have hu46 := Tryz.underlying46
 have HR0 := Aside0.mk hr0
 have HC0 := Aside0.mk hc0
 clear hr0 hc0
 have HR1 := Aside0.mk hr1
 have HC1 := Aside0.mk hc1
 clear hr1 hc1
 have HB := Aside0.mk (Below.refl w.heap.size w)
 have H : (if (l0.length : Int) = (l1.length : Int) then (laws_eqPairS.l0 k l0 l1 0) else (some false)) = some r := h
 clear h
 by_cases c3 : (l0.length : Int) = (l1.length : Int)
 ·rw [if_pos c3] at H
  have c3b0 : ((l0.length : Int) == (l1.length : Int)) = true := beq_iff_eq.mpr c3
  have c3b1 : ((l0.length : Int) != (l1.length : Int)) = false := bne_eq_false_iff_eq.mpr c3
  have c3b2 : (l0.length == l1.length) = true := by first | simpa using c3 | (simp at c3 ⊢; omega)
  clear c3
  have H' := Aside0.mk H
  clear H
  go_enter Tryz.func12, Tryz.ntmps12
  go_wp2
  go_loopg [5] k (fun kq v5 w' => ∃ (x5_1 : Int), v5 = .int .i64 x5_1 ∧ Aside0 (laws_eqPairS.l0 kq l0 l1 x5_1 = some r) ∧ Aside0 (kq ≤ k) ∧ Aside0 (Below w.heap.size w w'))
  case atStart => exact ⟨(0), (by first | rfl | (simp; done) | (simp [*]; done)), H', ⟨Nat.le_refl _⟩, ⟨pH HB⟩⟩
  case round =>
   clear H'
   try clear c1
   try clear p2
   try clear c3
   try clear c3b0
   try clear c3b1
   try clear c3b2
   obtain ⟨x5_1, rfl, HA, HK1, HB⟩ := hrel
   cases gk with
   | zero => exact absurd HA.out (by simp [laws_eqPairS.l0])
   | succ k1 =>
    have H := HA.out
    clear HA
    simp only [laws_eqPairS.l0] at H
    by_cases c4 : x5_1 < (l0.length : Int)
    ·rw [if_pos c4] at H
     have c4b0 : decide (x5_1 < (l0.length : Int)) = true := decide_eq_true c4
     clear c4
     by_cases c5 : 0 ≤ x5_1
     ·rw [if_pos c5] at H
      have c5b0 : decide (0 ≤ x5_1) = true := decide_eq_true c5
      clear c5
      by_cases c6 : x5_1 < (l1.length : Int)
      ·rw [if_pos c6] at H
       have c6b0 : decide (x5_1 < (l1.length : Int)) = true := decide_eq_true c6
       clear c6
       replace H := Option.bind_eq_some_iff.mp H
       obtain ⟨t128, A70, H⟩ := H
       try dsimp only at H
       have A7 := Aside0.mk A70
       clear A70
       by_cases c8 : t128 = true
       ·subst c8
        have H1 : (laws_eqPairS.l0 k1 l0 l1 (wrap64 (x5_1 + 1))) = some r := by rw [if_pos rfl] at H; exact H
        clear H
        have H := H1
        clear H1
        have H' := Aside0.mk H
        clear H
        try go_wp2
        replace HB := dH HB
        have p126 : 0 ≤ (x5_1 : Int) := of_decide_eq_true (by first | (with_reducible assumption) | assumption)
        have q126 : x5_1 < (l0.length : Int) := of_decide_eq_true (by first | (with_reducible assumption) | assumption)
        obtain ⟨ad126, e126, hx126_0, hx126_1⟩ := at_T46 HR0.out x5_1 p126 q126
        have hw126_1 := hx126_1
        have hw126_0 := hx126_0
        cases e126
        replace hx126_0 := cH HB hx126_0
        replace hx126_1 := cH HB hx126_1
        replace p126 := eq_true p126
        replace q126 := eq_true q126
        have p127 : 0 ≤ (x5_1 : Int) := of_decide_eq_true (by first | (with_reducible assumption) | assumption)
        have q127 : x5_1 < (l1.length : Int) := of_decide_eq_true (by first | (with_reducible assumption) | assumption)
        obtain ⟨ad127, e127, hx127_0, hx127_1⟩ := at_T46 HR1.out x5_1 p127 q127
        have hw127_1 := hx127_1
        have hw127_0 := hx127_0
        cases e127
        replace hx127_0 := cH HB hx127_0
        replace hx127_1 := cH HB hx127_1
        replace p127 := eq_true p127
        replace q127 := eq_true q127
        refine st_ 10 (S := fun w' => w'.cell? (ad126.add ((x5_1).toNat * 2)) = some (.int .i64 ((rd_T46 l0 x5_1).f0)) ∧ w'.cell? ⟨(ad126.add ((x5_1).toNat * 2)).block, (ad126.add ((x5_1).toNat * 2)).off + 1, none⟩ = some (.int .i64 ((rd_T46 l0 x5_1).f1)) ∧ w'.cell? (ad127.add ((x5_1).toNat * 2)) = some (.int .i64 ((rd_T46 l1 x5_1).f0)) ∧ w'.cell? ⟨(ad127.add ((x5_1).toNat * 2)).block, (ad127.add ((x5_1).toNat * 2)).off + 1, none⟩ = some (.int .i64 ((rd_T46 l1 x5_1).f1))) (ds := []) ⟨(cH HB hw126_0 :), (cH HB hw126_1 :), (cH HB hw127_0 :), (cH HB hw127_1 :)⟩ (fun hHeld => ?_); refine with_tabW laws_eqPairS.tab6 laws_eqPairS.bits6 (fun HT_ HW_ => ?_)
        generalize wr.drew = w9 at HB hx126_0 hx126_1 hx127_0 hx127_1 hHeld ⊢
        refine pu_ 0 17 1 HT_ ?_
        refine pu_ 1 18 3 HT_ ?_
        refine pu_ 2 19 7 HT_ ?_
        refine pu_ 4 21 23 HT_ ?_
        refine pu_ 5 22 55 HT_ ?_
        refine pu_ 6 23 119 HT_ ?_
        refine tk_ 3 20 127 HT_ HW_ hHeld ?_
        refine tk_ 7 24 255 HT_ HW_ hHeld ?_
        refine on_ 8 (some 25) 511 HT_ (fun K hK => ?_)
        refine ca_ Tryz.func28 #[.agg #[.int .i64 ((rd_T46 l0 x5_1).f0), .int .i64 ((rd_T46 l0 x5_1).f1)], .agg #[.int .i64 ((rd_T46 l1 x5_1).f0), .int .i64 ((rd_T46 l1 x5_1).f1)]] ?_
        with_reducible refine (laws_eqPair.calls ((rd_T46 l0 x5_1).f0) ((rd_T46 l0 x5_1).f1) ((rd_T46 l1 x5_1).f0) ((rd_T46 l1 x5_1).f1) true _ A7.out).mono ?_
        rintro e w10 ⟨rfl, hb⟩
        refine ⟨_, rfl, ?_⟩
        replace HB := sH HB hb
        (try clear hb)
        (try clear hb2)
        (try clear hk)
        (try clear hi)
        refine hK.out _ _ ⟨(cH HB hw126_0 :), (cH HB hw126_1 :), (cH HB hw127_0 :), (cH HB hw127_1 :)⟩ (fun hHeld => ?_)
        clear hK K
        refine nm_ ?_
        refine pu_ 9 26 1023 HT_ ?_
        refine dn_ HT_ ?_
        try go_wp2
        go_roundg k1
        case measure => have := HK1.out; omega
        case rel => exact ⟨(wrap64 (x5_1 + 1)), (by first | rfl | (simp; done) | (simp [*]; done)), H', ⟨by have := HK1.out; omega⟩, ⟨pH HB⟩⟩
       ·replace c8 := Bool.eq_false_iff.mpr c8
        subst c8
        have H1 : (some false) = some r := by rw [if_neg (show ¬ (false = true) by decide)] at H; exact H
        clear H
        have H := H1
        clear H1
        obtain rfl := Option.some.inj H
        try go_wp2
        replace HB := dH HB
        have p126 : 0 ≤ (x5_1 : Int) := of_decide_eq_true (by first | (with_reducible assumption) | assumption)
        have q126 : x5_1 < (l0.length : Int) := of_decide_eq_true (by first | (with_reducible assumption) | assumption)
        obtain ⟨ad126, e126, hx126_0, hx126_1⟩ := at_T46 HR0.out x5_1 p126 q126
        have hw126_1 := hx126_1
        have hw126_0 := hx126_0
        cases e126
        replace hx126_0 := cH HB hx126_0
        replace hx126_1 := cH HB hx126_1
        replace p126 := eq_true p126
        replace q126 := eq_true q126
        have p127 : 0 ≤ (x5_1 : Int) := of_decide_eq_true (by first | (with_reducible assumption) | assumption)
        have q127 : x5_1 < (l1.length : Int) := of_decide_eq_true (by first | (with_reducible assumption) | assumption)
        obtain ⟨ad127, e127, hx127_0, hx127_1⟩ := at_T46 HR1.out x5_1 p127 q127
        have hw127_1 := hx127_1
        have hw127_0 := hx127_0
        cases e127
        replace hx127_0 := cH HB hx127_0
        replace hx127_1 := cH HB hx127_1
        replace p127 := eq_true p127
        replace q127 := eq_true q127
        refine st_ 10 (S := fun w' => w'.cell? (ad126.add ((x5_1).toNat * 2)) = some (.int .i64 ((rd_T46 l0 x5_1).f0)) ∧ w'.cell? ⟨(ad126.add ((x5_1).toNat * 2)).block, (ad126.add ((x5_1).toNat * 2)).off + 1, none⟩ = some (.int .i64 ((rd_T46 l0 x5_1).f1)) ∧ w'.cell? (ad127.add ((x5_1).toNat * 2)) = some (.int .i64 ((rd_T46 l1 x5_1).f0)) ∧ w'.cell? ⟨(ad127.add ((x5_1).toNat * 2)).block, (ad127.add ((x5_1).toNat * 2)).off + 1, none⟩ = some (.int .i64 ((rd_T46 l1 x5_1).f1))) (ds := []) ⟨(cH HB hw126_0 :), (cH HB hw126_1 :), (cH HB hw127_0 :), (cH HB hw127_1 :)⟩ (fun hHeld => ?_); refine with_tabW laws_eqPairS.tab6 laws_eqPairS.bits6 (fun HT_ HW_ => ?_)
        generalize wr.drew = w11 at HB hx126_0 hx126_1 hx127_0 hx127_1 hHeld ⊢
        refine pu_ 0 17 1 HT_ ?_
        refine pu_ 1 18 3 HT_ ?_
        refine pu_ 2 19 7 HT_ ?_
        refine pu_ 4 21 23 HT_ ?_
        refine pu_ 5 22 55 HT_ ?_
        refine pu_ 6 23 119 HT_ ?_
        refine tk_ 3 20 127 HT_ HW_ hHeld ?_
        refine tk_ 7 24 255 HT_ HW_ hHeld ?_
        refine on_ 8 (some 25) 511 HT_ (fun K hK => ?_)
        refine ca_ Tryz.func28 #[.agg #[.int .i64 ((rd_T46 l0 x5_1).f0), .int .i64 ((rd_T46 l0 x5_1).f1)], .agg #[.int .i64 ((rd_T46 l1 x5_1).f0), .int .i64 ((rd_T46 l1 x5_1).f1)]] ?_
        with_reducible refine (laws_eqPair.calls ((rd_T46 l0 x5_1).f0) ((rd_T46 l0 x5_1).f1) ((rd_T46 l1 x5_1).f0) ((rd_T46 l1 x5_1).f1) false _ A7.out).mono ?_
        rintro e w12 ⟨rfl, hb⟩
        refine ⟨_, rfl, ?_⟩
        replace HB := sH HB hb
        (try clear hb)
        (try clear hb2)
        (try clear hk)
        (try clear hi)
        refine hK.out _ _ ⟨(cH HB hw126_0 :), (cH HB hw126_1 :), (cH HB hw127_0 :), (cH HB hw127_1 :)⟩ (fun hHeld => ?_)
        clear hK K
        refine nm_ ?_
        refine pu_ 9 26 1023 HT_ ?_
        refine dn_ HT_ ?_
        try go_wp2
        go_ret
        exact ⟨by first | rfl | (simp [errW_none, errW_some] <;> rfl) | (simp [*, errW_none, errW_some] <;> rfl) | (exfalso; simp_all), pH HB⟩
      ·rw [if_neg c6] at H
       exact absurd H (by simp)
     ·rw [if_neg c5] at H
      exact absurd H (by simp)
    ·rw [if_neg c4] at H
     have c4b0 : decide (x5_1 < (l0.length : Int)) = false := decide_eq_false c4
     clear c4
     obtain rfl := Option.some.inj H
     go_wp2
     go_ret
     exact ⟨by first | rfl | (simp [errW_none, errW_some] <;> rfl) | (simp [*, errW_none, errW_some] <;> rfl) | (exfalso; simp_all), pH HB⟩
 ·rw [if_neg c3] at H
  have c3b0 : ((l0.length : Int) == (l1.length : Int)) = false := beq_eq_false_iff_ne.mpr c3
  have c3b1 : ((l0.length : Int) != (l1.length : Int)) = true := bne_iff_ne.mpr c3
  have c3b2 : (l0.length == l1.length) = false := by first | simpa using c3 | (simp at c3 ⊢; omega)
  obtain rfl := Option.some.inj H
  go_enter Tryz.func12, Tryz.ntmps12
  go_wp2
  go_ret
  exact ⟨by first | rfl | (simp [errW_none, errW_some] <;> rfl) | (simp [*, errW_none, errW_some] <;> rfl) | (exfalso; simp_all), pH HB⟩
def laws_szPairS.f (l0 : List (S45)) (a1 : Int) : Option (Int) := if (wrap64 (a1 - (l0.length : Int))) < 0 then (some (-1)) else (some (wrap64 (a1 - (l0.length : Int))))
set_option maxHeartbeats 8000000 in
set_option maxRecDepth 100000 in
theorem laws_szPairS.calls (A0 : Option Addr) (c0 : Nat) (l0 : List (S45)) (a1 : Int) (r : Int) (w : World) (hr0 : Kd.C k45 w A0 l0.length l0) (hc0 : l0.length ≤ c0) (h : laws_szPairS.f l0 a1 = some r) :
  Calls Tryz.prog 5 #[.slice A0 l0.length c0, .int .i64 a1] w fun e w' => e = .returned (.int .i64 r) ∧ Drawn0 w w' := by
 have HR0 := Aside0.mk hr0
 have HC0 := Aside0.mk hc0
 clear hr0 hc0
 have H : (if (wrap64 (a1 - (l0.length : Int))) < 0 then (some (-1)) else (some (wrap64 (a1 - (l0.length : Int))))) = some r := h
 clear h
 by_cases c3 : (wrap64 (a1 - (l0.length : Int))) < 0
 ·rw [if_pos c3] at H
  have c3b0 : decide ((wrap64 (a1 - (l0.length : Int))) < 0) = true := decide_eq_true c3
  clear c3
  obtain rfl := Option.some.inj H
  go_enter Tryz.func5, Tryz.ntmps5
  go_wp2
  go_ret
  exact ⟨by first | rfl | (simp; done) | (simp [*]; done), by repeat (first | exact Drawn0.refl _ | apply Drawn0.step)⟩
 ·rw [if_neg c3] at H
  have c3b0 : decide ((wrap64 (a1 - (l0.length : Int))) < 0) = false := decide_eq_false c3
  clear c3
  obtain rfl := Option.some.inj H
  go_enter Tryz.func5, Tryz.ntmps5
  go_wp2
  go_ret
  exact ⟨by first | rfl | (simp; done) | (simp [*]; done), by repeat (first | exact Drawn0.refl _ | apply Drawn0.step)⟩
def laws_toPairS.l0 : Nat → List (S45) → List (S46) → Int → Option ((List (S46)))
 | 0, _, _, _ => none
 | k + 1, x0, x3, x4 => if x4 < (x0.length : Int) then (if 0 ≤ x4 then ((laws_toPair.f ((rd_T45 x0 x4).f0) ((rd_T45 x0 x4).f1)).bind fun bt118 => (if x4 < (x3.length : Int) then (laws_toPairS.l0 k x0 (x3.set (x4 : Int).toNat (⟨bt118.1, bt118.2⟩ : S46)) (wrap64 (x4 + 1))) else (none))) else (none)) else (some x3)
def laws_toPairS.f (k : Nat) (l0 : List (S45)) : Option ((List (S46))) := if 0 ≤ (l0.length : Int) then (if ((l0.length : Int) : Int).toNat ≤ 17592186044416 then (laws_toPairS.l0 k l0 (List.replicate ((l0.length : Int) : Int).toNat z46) 0) else (none)) else (none)
set_option maxHeartbeats 8000000 in
set_option maxRecDepth 100000 in
theorem laws_toPairS.calls (k : Nat) (A0 : Option Addr) (c0 : Nat) (l0 : List (S45)) (r : List (S46)) (w : World) (hr0 : Kd.C k45 w A0 l0.length l0) (hc0 : l0.length ≤ c0) (h : laws_toPairS.f k l0 = some r) :
  Calls Tryz.prog 8 #[.slice A0 l0.length c0] w fun e w' => ∃ v0_ : Value, e = .returned (v0_) ∧ Kd.R k46 46 w' w.heap.size (fun _ => True) v0_ r ∧ Below w.heap.size w w' := by
 have hu45 := Tryz.underlying45
 have hu46 := Tryz.underlying46
 have HR0 := Aside0.mk hr0
 have HC0 := Aside0.mk hc0
 clear hr0 hc0
 have HB := Aside0.mk (Below.refl w.heap.size w)
 have H : (if 0 ≤ (l0.length : Int) then (if ((l0.length : Int) : Int).toNat ≤ 17592186044416 then (laws_toPairS.l0 k l0 (List.replicate ((l0.length : Int) : Int).toNat z46) 0) else (none)) else (none)) = some r := h
 clear h
 by_cases c2 : 0 ≤ (l0.length : Int)
 ·rw [if_pos c2] at H
  have c2b0 := eq_true c2
  have c2b1 : decide (0 ≤ (l0.length : Int)) = true := decide_eq_true c2
  clear c2
  by_cases c3 : ((l0.length : Int) : Int).toNat ≤ 17592186044416
  ·rw [if_pos c3] at H
   have c3b0 := eq_true c3
   have c3b1 : decide (((l0.length : Int) : Int).toNat ≤ 17592186044416) = true := decide_eq_true c3
   clear c3
   obtain ⟨y114, hy114⟩ : ∃ y_ : List (S46), y_ = (List.replicate ((l0.length : Int) : Int).toNat z46) := ⟨_, rfl⟩
   replace H : (laws_toPairS.l0 k l0 y114 0) = some r := by first | (rw [hy114]; with_reducible exact H) | (have H2_ := (Option.bind_some _ _).symm.trans H; rw [hy114]; with_reducible exact H2_) | (have H2_ := (Option.bind_some _ _).symm.trans H; with_reducible exact H2_) | with_reducible exact H | (rw [hy114]; exact H) | exact H
   have Ny114 := Aside0.mk hy114
   clear hy114
   have H' := Aside0.mk H
   clear H
   go_enter Tryz.func8, Tryz.ntmps8
   go_wp2_with (first | ((with_reducible refine gate_dst (N := 7) rfl ?_); refine Kd.R_make k46 _ 46 rfl (N := 7) rfl 32 _ _ rfl (l0.length : Int) rfl rfl Tryz.underlying32 (.agg #[(.int .i64 0), (.int .i64 0)]) 16 info46 rfl (by decide) (by omega) z46 (ok := fun _ => True) (okp := fun _ => True) (k46_mkM _ _ _ z46 ) (fun _ hk => hk) trivial (of_decide_eq_true (by first | (with_reducible assumption) | assumption)) (Nat.le_trans (Nat.mul_le_mul_right _ (of_decide_eq_true (by first | (with_reducible assumption) | assumption) : (l0.length : Int).toNat ≤ 17592186044416)) (by omega)) (Below.refl _ _) (Nat.le_refl _) ?_; intro v115 w4 ho5 hb hg_ hnew_; clear hg_ hnew_; (first | rw [← Ny114.out] at ho5 | (simp only [Int.reduceToNat] at ho5; rw [← Ny114.out] at ho5)); have HO116 := Aside0.mk (Kd.R_lower ho5 (below_size (pH HB))); replace HB := sH HB hb; clear hb ho5))
   go_loopg [4] k (fun kq v4 w' => ∃ (x3_1 : List (S46)) (x4_1 : Int), v4 = .int .i64 x4_1 ∧ Aside0 (laws_toPairS.l0 kq l0 x3_1 x4_1 = some r) ∧ Aside0 (kq ≤ k) ∧ Aside0 (Kd.R k46 46 w' w.heap.size (fun _ => True) v115 x3_1) ∧ Aside0 (Below w.heap.size w w'))
   case atStart => exact ⟨(y114), (0), (by first | rfl | (simp; done) | (simp [*]; done)), H', ⟨Nat.le_refl _⟩, ⟨by (with_reducible repeat (first | apply Kd.R_alloc | apply Kd.R_drewN | apply Kd.R_drew)); exact HO116.out⟩, ⟨pH HB⟩⟩
   case round =>
    clear H'
    try clear c2
    try clear c2b0
    try clear c2b1
    try clear p2
    try clear c3
    try clear c3b0
    try clear c3b1
    obtain ⟨x3_1, x4_1, rfl, HA, HK1, HO_3, HB⟩ := hrel
    cases gk with
    | zero => exact absurd HA.out (by simp [laws_toPairS.l0])
    | succ k1 =>
     have H := HA.out
     clear HA
     simp only [laws_toPairS.l0] at H
     by_cases c6 : x4_1 < (l0.length : Int)
     ·rw [if_pos c6] at H
      have c6b0 : decide (x4_1 < (l0.length : Int)) = true := decide_eq_true c6
      clear c6
      by_cases c7 : 0 ≤ x4_1
      ·rw [if_pos c7] at H
       have c7b0 : decide (0 ≤ x4_1) = true := decide_eq_true c7
       clear c7
       replace H := Option.bind_eq_some_iff.mp H
       obtain ⟨⟨t118, t119⟩, A80, H⟩ := H
       try dsimp only at H
       have A8 := Aside0.mk A80
       clear A80
       by_cases c9 : x4_1 < (x3_1.length : Int)
       ·rw [if_pos c9] at H
        have c9b0 : decide (x4_1 < (x3_1.length : Int)) = true := decide_eq_true c9
        clear c9
        obtain ⟨y120, hy120⟩ : ∃ y_ : List (S46), y_ = (x3_1.set (x4_1 : Int).toNat (⟨t118, t119⟩ : S46)) := ⟨_, rfl⟩
        replace H : (laws_toPairS.l0 k1 l0 y120 (wrap64 (x4_1 + 1))) = some r := by first | (rw [hy120]; with_reducible exact H) | (have H2_ := (Option.bind_some _ _).symm.trans H; rw [hy120]; with_reducible exact H2_) | (have H2_ := (Option.bind_some _ _).symm.trans H; with_reducible exact H2_) | with_reducible exact H | (rw [hy120]; exact H) | exact H
        have Ny120 := Aside0.mk hy120
        clear hy120
        have H' := Aside0.mk H
        clear H
        have p117 : 0 ≤ (x4_1 : Int) := of_decide_eq_true (by first | (with_reducible assumption) | assumption)
        have q117 : x4_1 < (l0.length : Int) := of_decide_eq_true (by first | (with_reducible assumption) | assumption)
        obtain ⟨ad117, e117, hx117_0, hx117_1⟩ := at_T45 HR0.out x4_1 p117 q117
        cases e117
        replace hx117_0 := cH HB hx117_0
        replace hx117_1 := cH HB hx117_1
        replace p117 := eq_true p117
        replace q117 := eq_true q117
        go_wp2_with (first | ((with_reducible refine gate_callee (f := 22) rfl ?_); refine cl_ (some 20) Tryz.func22 #[.agg #[.int .i64 ((rd_T45 l0 x4_1).f0), .int .i64 ((rd_T45 l0 x4_1).f1)]] ?_; (with_reducible refine (laws_toPair.calls ((rd_T45 l0 x4_1).f0) ((rd_T45 l0 x4_1).f1) t118 t119 _ A8.out).mono ?_); rintro e w11 ⟨rfl, hb⟩; refine ⟨_, rfl, ?_⟩; replace HO_3 := sR HO_3 hb; replace HB := sH HB hb; (try clear hb); (try clear hi); have p10 : 0 ≤ (x4_1 : Int) := of_decide_eq_true (by first | (with_reducible assumption) | assumption); have q10 : (x4_1 : Int) < ((x3_1.length : Int) : Int) := of_decide_eq_true (by first | (with_reducible assumption) | assumption); obtain ⟨go10, co10, eo10, gb10, gl10, cl10, HG10⟩ := Kd.R_form HO_3.out (by omega); (first | cases eo10 | (injection eo10 with ea_ en_ ec_; (first | subst ea_ | (injection ea_ with ea_; subst ea_)); subst ec_; clear en_)); have GB10 := Aside0.mk gb10; have GG10 := Aside0.mk HG10; clear gb10 gl10 HG10; obtain ⟨ce10, hcl10, hM10, hcc10, hfr10⟩ := Kd.R_elem HO_3.out z46 (x4_1 : Int) p10 q10; obtain rfl := k46_openM hM10; have hx10_0 : w11.cell? ⟨go10, (x4_1 : Int).toNat * 2, none⟩ = some (.int .i64 ((rd_T46 x3_1 x4_1).f0)) := hcc10 0 _ rfl; have hx10_1 : w11.cell? ⟨go10, (x4_1 : Int).toNat * 2 + 1, none⟩ = some (.int .i64 ((rd_T46 x3_1 x4_1).f1)) := hcc10 1 _ rfl; have hf10_0 : w11.frozen? ⟨go10, (x4_1 : Int).toNat * 2, none⟩ = false := hfr10 0; have hf10_1 : w11.frozen? ⟨go10, (x4_1 : Int).toNat * 2 + 1, none⟩ = false := hfr10 1; clear hcl10 hcc10 hfr10 hM10; replace p10 := eq_true p10; replace q10 := eq_true q10; have HX12 := Aside0.mk (show Kd.R k46 46 w11 w.heap.size (fun _ => True) (.slice (some ⟨go10, 0, none⟩) x3_1.length co10) x3_1 from (pR HO_3)); obtain ⟨ce12, hcl12, hM12, hcc12, hfr12⟩ := Kd.R_elem HX12.out z46 (x4_1 : Int) (of_decide_eq_true (by first | (with_reducible assumption) | assumption)) (by have h_ : (x4_1 : Int) < ((x3_1.length : Int) : Int) := of_decide_eq_true (by first | (with_reducible assumption) | assumption); first | exact h_ | (have e_ := (Kd.R_reads' HO_3.out).1; omega) | simpa using h_); obtain rfl := k46_openM hM12; have HP12 := Kd.R_seg HX12.out (x4_1 : Int) (of_decide_eq_true (by first | (with_reducible assumption) | assumption)) (by have h_ : (x4_1 : Int) < ((x3_1.length : Int) : Int) := of_decide_eq_true (by first | (with_reducible assumption) | assumption); first | exact h_ | (have e_ := (Kd.R_reads' HO_3.out).1; omega) | simpa using h_) (seg := [.int .i64 t118, .int .i64 t119]) (j := 0) hcl12 hcc12 (show 2 ≤ 2 from by decide) (x' := (⟨t118, t119⟩ : S46)) (k46_mkM _ _ _ (⟨t118, t119⟩ : S46) ) (fun _ hk => hk); have hx12_0 := hcc12 0 _ rfl; (try simp only [show (k46).sz = 2 from rfl, Nat.mul_one, Nat.add_zero] at hx12_0); have hf12_0 := hfr12 0; (try simp only [show (k46).sz = 2 from rfl, Nat.mul_one, Nat.add_zero] at hf12_0); have hx12_1 := hcc12 1 _ rfl; (try simp only [show (k46).sz = 2 from rfl, Nat.mul_one, Nat.add_zero] at hx12_1); have hf12_1 := hfr12 1; (try simp only [show (k46).sz = 2 from rfl, Nat.mul_one, Nat.add_zero] at hf12_1); clear hcl12 hcc12 hfr12 hM12) | ((with_reducible refine gate_store (t := 46) (p := 21) rfl ?_); refine store_event (t := 46) (p := 21) (v := ?vo_w13) (w1 := ((w11.setCell ⟨go10, (x4_1 : Int).toNat * 2, none⟩ (.int .i64 t118)).setCell ⟨go10, (x4_1 : Int).toNat * 2 + 1, none⟩ (.int .i64 t119))) ?hg ?ho ?hn ?hr ?_; (case ho => rfl); (case hg => rfl); (case hn => rfl); (case hr => first | (go_simp; done) | (go_simp; rfl)); intro w13 hw; have hg : w11.grownBy w13 (some go10) := (by rw [hw]; exact HP12.2); have hp_ : Kd.R k46 46 w13 w.heap.size (fun _ => True) (.slice (some ⟨go10, 0, none⟩) x3_1.length co10) y120 := (by rw [hw, Ny120.out]; exact HP12.1); clear HP12; have n0_ := Aside0.mk (hp_); have n1_ := Aside0.mk ((by rw [hw]; exact below_set (below_set (HB.out) GB10.out) GB10.out : Below w.heap.size w w13)); clear HO_3; clear HB; have HO_3 := n0_; have HB := n1_; clear n0_ n1_; clear hg hw hp_))
        go_roundg k1
        case measure => have := HK1.out; omega
        case rel => exact ⟨(y120), (wrap64 (x4_1 + 1)), (by first | rfl | (simp; done) | (simp [*]; done)), H', ⟨by have := HK1.out; omega⟩, ⟨by (with_reducible repeat (first | apply Kd.R_alloc | apply Kd.R_drewN | apply Kd.R_drew)); exact HO_3.out⟩, ⟨pH HB⟩⟩
       ·rw [if_neg c9] at H
        exact absurd H (by simp)
      ·rw [if_neg c7] at H
       exact absurd H (by simp)
     ·rw [if_neg c6] at H
      have c6b0 : decide (x4_1 < (l0.length : Int)) = false := decide_eq_false c6
      clear c6
      obtain rfl := Option.some.inj H
      go_wp2
      go_ret
      exact ⟨_, by first | rfl | (simp [errW_none, errW_some] <;> rfl) | (simp [*, errW_none, errW_some] <;> rfl) | (exfalso; simp_all), by (with_reducible repeat (first | apply Kd.R_alloc | apply Kd.R_drewN | apply Kd.R_drew)); exact HO_3.out, pH HB⟩
  ·rw [if_neg c3] at H
   exact absurd H (by simp)
 ·rw [if_neg c2] at H
  exact absurd H (by simp)
end Go.Proofs.YtpjcnigohhnhnaaGreat.QS
namespace Go.Proofs.YtpjcnigohhnhnaaGreat.QFnExactHolesOf
open Cw Kp Ext QS Go.RowKit YtpjcnigohhnhnaaGreatW.PrintWords YtpjcnigohhnhnaaGreatW.PrintLast YtpjcnigohhnhnaaGreatW.PrintMore
attribute [local go_sem] max2_int min2_int max_two min_two max_three min_three max_four min_four   -- for this text's walks alone
theorem info2 : (Tryz.prog.info? 2).map (fun i => (i.zero, i.size, i.bytes)) = some (some (.int .i64 0), 1, 8) := by kernel_rfl
theorem info46 : (Tryz.prog.info? 46).map (fun i => (i.zero, i.size, i.bytes)) = some (some (.agg #[(.int .i64 0), (.int .i64 0)]), 2, 16) := by kernel_rfl
def laws_FnExactHolesOf.f (k : Nat) (a0_0 : Int) (l0_1 : List Int) (l1 : List (S45)) : Option (Bool) := (laws_szComplex.f a0_0 l0_1 1048576).bind fun t135 => (if t135 < 0 then (some true) else ((laws_szPairS.f l1 t135).bind fun t136 => (if t136 < 0 then (some true) else ((laws_toComplex.f k a0_0 l0_1).bind fun bt137 => ((laws_toPairS.f k l1).bind fun t141 => ((spec_HolesOf.f bt137.1 bt137.2 t141).bind fun bt144 => ((laws_toComplex.f k a0_0 l0_1).bind fun bt148 => ((laws_toPairS.f k l1).bind fun t153 => ((impl_HolesOf.f bt148.1 bt148.2 t153).bind fun bt156 => ((laws_eqInt64S.f k bt156.1 bt144.1).bind fun t160 => (if t160 = true then (if bt156.2 = bt144.2 then ((laws_toComplex.f k a0_0 l0_1).bind fun bt161 => ((laws_eqComplex.f k bt148.1 bt148.2 bt161.1 bt161.2).bind fun t165 => (if t165 = true then ((laws_toPairS.f k l1).bind fun t166 => ((laws_eqPairS.f k t153 t166).bind fun t169 => (if t169 = true then ((laws_markComplex.f k bt148.1 bt148.2 1).bind fun bt170 => ((laws_markPairS.f t153 bt170.1).bind fun bt172 => (if bt172.1 < 0 then (none) else ((laws_eqInt64S.f k bt156.1 bt144.1).bind fun t174 => (if t174 = true then ((laws_markInt64S.f k bt156.1 1).bind fun bt175 => ((laws_heldInt64S.f k bt175.2 1).bind fun t177 => (if t177 < 0 then (none) else (if t177 = bt175.1 then ((laws_toComplex.f k a0_0 l0_1).bind fun bt178 => ((laws_toPairS.f k l1).bind fun t182 => ((impl_HolesOf.f bt178.1 bt178.2 t182).bind fun bt185 => ((laws_eqInt64S.f k bt185.1 bt144.1).bind fun t189 => (if t189 = true then (if bt185.2 = bt144.2 then ((laws_heldInt64S.f k bt175.2 1).bind fun t190 => (if t190 < 0 then (none) else (if t190 = bt175.1 then (some true) else (none)))) else (none)) else (none)))))) else (none))))) else (none)))))) else (none)))) else (none)))) else (none)) else (none))))))))))))
set_option maxHeartbeats 8000000 in
set_option maxRecDepth 100000 in
theorem laws_FnExactHolesOf.calls (k : Nat) (a0_0 : Int) (A0_1 : Option Addr) (c0_1 : Nat) (l0_1 : List Int) (A1 : Option Addr) (c1 : Nat) (l1 : List (S45)) (r : Bool) (w : World) (hr0_1 : Kd.C (Kd.int .i64) w A0_1 l0_1.length l0_1) (hc0_1 : l0_1.length ≤ c0_1) (hr1 : Kd.C k45 w A1 l1.length l1) (hc1 : l1.length ≤ c1) (h : laws_FnExactHolesOf.f k a0_0 l0_1 l1 = some r) :
  Calls Tryz.prog 3 #[.agg #[.int .i64 a0_0, .slice A0_1 l0_1.length c0_1], .slice A1 l1.length c1] w fun e w' => e = .returned (.bool r) ∧ Below w.heap.size w w' := by
 have hu24 := Tryz.underlying24
 have hu30 := Tryz.underlying30
 have HR0_1 := Aside0.mk hr0_1
 have HC0_1 := Aside0.mk hc0_1
 clear hr0_1 hc0_1
 have HR1 := Aside0.mk hr1
 have HC1 := Aside0.mk hc1
 clear hr1 hc1
 have HB := Aside0.mk (Below.refl w.heap.size w)
 have H : ((laws_szComplex.f a0_0 l0_1 1048576).bind fun t135 => (if t135 < 0 then (some true) else ((laws_szPairS.f l1 t135).bind fun t136 => (if t136 < 0 then (some true) else ((laws_toComplex.f k a0_0 l0_1).bind fun bt137 => ((laws_toPairS.f k l1).bind fun t141 => ((spec_HolesOf.f bt137.1 bt137.2 t141).bind fun bt144 => ((laws_toComplex.f k a0_0 l0_1).bind fun bt148 => ((laws_toPairS.f k l1).bind fun t153 => ((impl_HolesOf.f bt148.1 bt148.2 t153).bind fun bt156 => ((laws_eqInt64S.f k bt156.1 bt144.1).bind fun t160 => (if t160 = true then (if bt156.2 = bt144.2 then ((laws_toComplex.f k a0_0 l0_1).bind fun bt161 => ((laws_eqComplex.f k bt148.1 bt148.2 bt161.1 bt161.2).bind fun t165 => (if t165 = true then ((laws_toPairS.f k l1).bind fun t166 => ((laws_eqPairS.f k t153 t166).bind fun t169 => (if t169 = true then ((laws_markComplex.f k bt148.1 bt148.2 1).bind fun bt170 => ((laws_markPairS.f t153 bt170.1).bind fun bt172 => (if bt172.1 < 0 then (none) else ((laws_eqInt64S.f k bt156.1 bt144.1).bind fun t174 => (if t174 = true then ((laws_markInt64S.f k bt156.1 1).bind fun bt175 => ((laws_heldInt64S.f k bt175.2 1).bind fun t177 => (if t177 < 0 then (none) else (if t177 = bt175.1 then ((laws_toComplex.f k a0_0 l0_1).bind fun bt178 => ((laws_toPairS.f k l1).bind fun t182 => ((impl_HolesOf.f bt178.1 bt178.2 t182).bind fun bt185 => ((laws_eqInt64S.f k bt185.1 bt144.1).bind fun t189 => (if t189 = true then (if bt185.2 = bt144.2 then ((laws_heldInt64S.f k bt175.2 1).bind fun t190 => (if t190 < 0 then (none) else (if t190 = bt175.1 then (some true) else (none)))) else (none)) else (none)))))) else (none))))) else (none)))))) else (none)))) else (none)))) else (none)) else (none))))))))))))) = some r := h
 clear h
 replace H := Option.bind_eq_some_iff.mp H
 obtain ⟨t135, A30, H⟩ := H
 try dsimp only at H
 have A3 := Aside0.mk A30
 clear A30
 by_cases c4 : t135 < 0
 ·rw [if_pos c4] at H
  have c4b0 : decide (t135 < 0) = true := decide_eq_true c4
  clear c4
  obtain rfl := Option.some.inj H
  go_enter Tryz.func3, Tryz.ntmps3
  go_wp2_with (first | ((with_reducible refine gate_dst (N := 2) rfl ?_); refine box_event ?hg (N := 2) ?hd (cs := #[.int .i64 a0_0, .slice A0_1 l0_1.length c0_1]) (t := 24) ?hr ?_; (case hd => rfl); (case hg => rfl); (case hr => first | (go_simp; done) | (go_simp; rfl)); intro gb134 hg w5 hbox hb; have BK134 := Aside0.mk (hbox); have GW134 := gH HB hg; have GE134 := gH HB hg; replace HB := sH HB hb; clear hb hbox hg; have hcz6_0 : w5.cell? ⟨gb134, 0, none⟩ = some (.int .i64 a0_0) := cB BK134 0; have hcz6_1 : w5.cell? ⟨gb134, 1, none⟩ = some (.slice A0_1 l0_1.length c0_1) := cB BK134 1; have hfz6_0 := zB BK134 0; have hfz6_1 := zB BK134 1) | ((with_reducible refine gate_callee (f := 4) rfl ?_); refine cl_ (some 19) Tryz.func4 #[.agg #[.int .i64 a0_0, .slice A0_1 l0_1.length c0_1], .int .i64 1048576] ?_; (with_reducible refine (laws_szComplex.calls a0_0 _ _ l0_1 1048576 t135 _ ?side1 ?side2 A3.out).mono ?_); (case side1 => exact pC ((Kd.C_below HR0_1.out HB.out))); (case side2 => exact HC0_1.out); rintro e w7 ⟨rfl, hb⟩; refine ⟨_, rfl, ?_⟩; replace BK134 := sB BK134 hb; replace HB := sH HB hb; (try clear hb); (try clear hi)))
  go_ret
  exact ⟨by first | rfl | (simp [errW_none, errW_some] <;> rfl) | (simp [*, errW_none, errW_some] <;> rfl) | (exfalso; simp_all), pH HB⟩
 ·rw [if_neg c4] at H
  have c4b0 : decide (t135 < 0) = false := decide_eq_false c4
  clear c4
  replace H := Option.bind_eq_some_iff.mp H
  obtain ⟨t136, A80, H⟩ := H
  try dsimp only at H
  have A8 := Aside0.mk A80
  clear A80
  by_cases c9 : t136 < 0
  ·rw [if_pos c9] at H
   have c9b0 : decide (t136 < 0) = true := decide_eq_true c9
   clear c9
   obtain rfl := Option.some.inj H
   go_enter Tryz.func3, Tryz.ntmps3
   go_wp2_with (first | ((with_reducible refine gate_dst (N := 2) rfl ?_); refine box_event ?hg (N := 2) ?hd (cs := #[.int .i64 a0_0, .slice A0_1 l0_1.length c0_1]) (t := 24) ?hr ?_; (case hd => rfl); (case hg => rfl); (case hr => first | (go_simp; done) | (go_simp; rfl)); intro gb134 hg w10 hbox hb; have BK134 := Aside0.mk (hbox); have GW134 := gH HB hg; have GE134 := gH HB hg; replace HB := sH HB hb; clear hb hbox hg; have hcz11_0 : w10.cell? ⟨gb134, 0, none⟩ = some (.int .i64 a0_0) := cB BK134 0; have hcz11_1 : w10.cell? ⟨gb134, 1, none⟩ = some (.slice A0_1 l0_1.length c0_1) := cB BK134 1; have hfz11_0 := zB BK134 0; have hfz11_1 := zB BK134 1) | ((with_reducible refine gate_callee (f := 4) rfl ?_); refine cl_ (some 19) Tryz.func4 #[.agg #[.int .i64 a0_0, .slice A0_1 l0_1.length c0_1], .int .i64 1048576] ?_; (with_reducible refine (laws_szComplex.calls a0_0 _ _ l0_1 1048576 t135 _ ?side1 ?side2 A3.out).mono ?_); (case side1 => exact pC ((Kd.C_below HR0_1.out HB.out))); (case side2 => exact HC0_1.out); rintro e w12 ⟨rfl, hb⟩; refine ⟨_, rfl, ?_⟩; replace BK134 := sB BK134 hb; replace HB := sH HB hb; (try clear hb); (try clear hi)) | ((with_reducible refine gate_callee (f := 5) rfl ?_); refine cl_ (some 24) Tryz.func5 #[.slice A1 l1.length c1, .int .i64 t135] ?_; (with_reducible refine (laws_szPairS.calls _ _ l1 t135 t136 _ ?side1 ?side2 A8.out).mono ?_); (case side1 => exact pC ((Kd.C_below HR1.out HB.out))); (case side2 => exact HC1.out); rintro e w' ⟨rfl, ⟨nd, rfl⟩⟩; refine ⟨_, rfl, ?_⟩))
   go_ret
   exact ⟨by first | rfl | (simp [errW_none, errW_some] <;> rfl) | (simp [*, errW_none, errW_some] <;> rfl) | (exfalso; simp_all), pH HB⟩
  ·rw [if_neg c9] at H
   have c9b0 : decide (t136 < 0) = false := decide_eq_false c9
   clear c9
   replace H := Option.bind_eq_some_iff.mp H
   obtain ⟨⟨t137, t138⟩, A130, H⟩ := H
   try dsimp only at H
   have A13 := Aside0.mk A130
   clear A130
   replace H := Option.bind_eq_some_iff.mp H
   obtain ⟨t141, A140, H⟩ := H
   try dsimp only at H
   have A14 := Aside0.mk A140
   clear A140
   replace H := Option.bind_eq_some_iff.mp H
   obtain ⟨⟨t144, t147⟩, A150, H⟩ := H
   try dsimp only at H
   have A15 := Aside0.mk A150
   clear A150
   replace H := Option.bind_eq_some_iff.mp H
   obtain ⟨⟨t148, t149⟩, A160, H⟩ := H
   try dsimp only at H
   have A16 := Aside0.mk A160
   clear A160
   replace H := Option.bind_eq_some_iff.mp H
   obtain ⟨t153, A170, H⟩ := H
   try dsimp only at H
   have A17 := Aside0.mk A170
   clear A170
   replace H := Option.bind_eq_some_iff.mp H
   obtain ⟨⟨t156, t159⟩, A180, H⟩ := H
   try dsimp only at H
   have A18 := Aside0.mk A180
   clear A180
   replace H := Option.bind_eq_some_iff.mp H
   obtain ⟨t160, A190, H⟩ := H
   try dsimp only at H
   have A19 := Aside0.mk A190
   clear A190
   by_cases c20 : t160 = true
   ·subst c20
    have H1 : (if t159 = t147 then ((laws_toComplex.f k a0_0 l0_1).bind fun bt161 => ((laws_eqComplex.f k t148 t149 bt161.1 bt161.2).bind fun t165 => (if t165 = true then ((laws_toPairS.f k l1).bind fun t166 => ((laws_eqPairS.f k t153 t166).bind fun t169 => (if t169 = true then ((laws_markComplex.f k t148 t149 1).bind fun bt170 => ((laws_markPairS.f t153 bt170.1).bind fun bt172 => (if bt172.1 < 0 then (none) else ((laws_eqInt64S.f k t156 t144).bind fun t174 => (if t174 = true then ((laws_markInt64S.f k t156 1).bind fun bt175 => ((laws_heldInt64S.f k bt175.2 1).bind fun t177 => (if t177 < 0 then (none) else (if t177 = bt175.1 then ((laws_toComplex.f k a0_0 l0_1).bind fun bt178 => ((laws_toPairS.f k l1).bind fun t182 => ((impl_HolesOf.f bt178.1 bt178.2 t182).bind fun bt185 => ((laws_eqInt64S.f k bt185.1 t144).bind fun t189 => (if t189 = true then (if bt185.2 = t147 then ((laws_heldInt64S.f k bt175.2 1).bind fun t190 => (if t190 < 0 then (none) else (if t190 = bt175.1 then (some true) else (none)))) else (none)) else (none)))))) else (none))))) else (none)))))) else (none)))) else (none)))) else (none)) = some r := by rw [if_pos rfl] at H; exact H
    clear H
    have H := H1
    clear H1
    by_cases c21 : t159 = t147
    ·rw [if_pos c21] at H
     have c21b0 : (t159 == t147) = true := beq_iff_eq.mpr c21
     have c21b1 : (t159 != t147) = false := bne_eq_false_iff_eq.mpr c21
     clear c21
     replace H := Option.bind_eq_some_iff.mp H
     obtain ⟨⟨t161, t162⟩, A220, H⟩ := H
     try dsimp only at H
     have A22 := Aside0.mk A220
     clear A220
     replace H := Option.bind_eq_some_iff.mp H
     obtain ⟨t165, A230, H⟩ := H
     try dsimp only at H
     have A23 := Aside0.mk A230
     clear A230
     by_cases c24 : t165 = true
     ·subst c24
      have H1 : ((laws_toPairS.f k l1).bind fun t166 => ((laws_eqPairS.f k t153 t166).bind fun t169 => (if t169 = true then ((laws_markComplex.f k t148 t149 1).bind fun bt170 => ((laws_markPairS.f t153 bt170.1).bind fun bt172 => (if bt172.1 < 0 then (none) else ((laws_eqInt64S.f k t156 t144).bind fun t174 => (if t174 = true then ((laws_markInt64S.f k t156 1).bind fun bt175 => ((laws_heldInt64S.f k bt175.2 1).bind fun t177 => (if t177 < 0 then (none) else (if t177 = bt175.1 then ((laws_toComplex.f k a0_0 l0_1).bind fun bt178 => ((laws_toPairS.f k l1).bind fun t182 => ((impl_HolesOf.f bt178.1 bt178.2 t182).bind fun bt185 => ((laws_eqInt64S.f k bt185.1 t144).bind fun t189 => (if t189 = true then (if bt185.2 = t147 then ((laws_heldInt64S.f k bt175.2 1).bind fun t190 => (if t190 < 0 then (none) else (if t190 = bt175.1 then (some true) else (none)))) else (none)) else (none)))))) else (none))))) else (none)))))) else (none)))) = some r := by rw [if_pos rfl] at H; exact H
      clear H
      have H := H1
      clear H1
      replace H := Option.bind_eq_some_iff.mp H
      obtain ⟨t166, A250, H⟩ := H
      try dsimp only at H
      have A25 := Aside0.mk A250
      clear A250
      replace H := Option.bind_eq_some_iff.mp H
      obtain ⟨t169, A260, H⟩ := H
      try dsimp only at H
      have A26 := Aside0.mk A260
      clear A260
      by_cases c27 : t169 = true
      ·subst c27
       have H1 : ((laws_markComplex.f k t148 t149 1).bind fun bt170 => ((laws_markPairS.f t153 bt170.1).bind fun bt172 => (if bt172.1 < 0 then (none) else ((laws_eqInt64S.f k t156 t144).bind fun t174 => (if t174 = true then ((laws_markInt64S.f k t156 1).bind fun bt175 => ((laws_heldInt64S.f k bt175.2 1).bind fun t177 => (if t177 < 0 then (none) else (if t177 = bt175.1 then ((laws_toComplex.f k a0_0 l0_1).bind fun bt178 => ((laws_toPairS.f k l1).bind fun t182 => ((impl_HolesOf.f bt178.1 bt178.2 t182).bind fun bt185 => ((laws_eqInt64S.f k bt185.1 t144).bind fun t189 => (if t189 = true then (if bt185.2 = t147 then ((laws_heldInt64S.f k bt175.2 1).bind fun t190 => (if t190 < 0 then (none) else (if t190 = bt175.1 then (some true) else (none)))) else (none)) else (none)))))) else (none))))) else (none)))))) = some r := by rw [if_pos rfl] at H; exact H
       clear H
       have H := H1
       clear H1
       replace H := Option.bind_eq_some_iff.mp H
       obtain ⟨⟨t170, t171⟩, A280, H⟩ := H
       try dsimp only at H
       have A28 := Aside0.mk A280
       clear A280
       replace H := Option.bind_eq_some_iff.mp H
       obtain ⟨⟨t172, t173⟩, A290, H⟩ := H
       try dsimp only at H
       have A29 := Aside0.mk A290
       clear A290
       by_cases c30 : t172 < 0
       ·rw [if_pos c30] at H
        exact absurd H (by simp)
       ·rw [if_neg c30] at H
        have c30b0 : decide (t172 < 0) = false := decide_eq_false c30
        clear c30
        replace H := Option.bind_eq_some_iff.mp H
        obtain ⟨t174, A310, H⟩ := H
        try dsimp only at H
        have A31 := Aside0.mk A310
        clear A310
        by_cases c32 : t174 = true
        ·subst c32
         have H1 : ((laws_markInt64S.f k t156 1).bind fun bt175 => ((laws_heldInt64S.f k bt175.2 1).bind fun t177 => (if t177 < 0 then (none) else (if t177 = bt175.1 then ((laws_toComplex.f k a0_0 l0_1).bind fun bt178 => ((laws_toPairS.f k l1).bind fun t182 => ((impl_HolesOf.f bt178.1 bt178.2 t182).bind fun bt185 => ((laws_eqInt64S.f k bt185.1 t144).bind fun t189 => (if t189 = true then (if bt185.2 = t147 then ((laws_heldInt64S.f k bt175.2 1).bind fun t190 => (if t190 < 0 then (none) else (if t190 = bt175.1 then (some true) else (none)))) else (none)) else (none)))))) else (none))))) = some r := by rw [if_pos rfl] at H; exact H
         clear H
         have H := H1
         clear H1
         replace H := Option.bind_eq_some_iff.mp H
         obtain ⟨⟨t175, t176⟩, A330, H⟩ := H
         try dsimp only at H
         have A33 := Aside0.mk A330
         clear A330
         replace H := Option.bind_eq_some_iff.mp H
         obtain ⟨t177, A340, H⟩ := H
         try dsimp only at H
         have A34 := Aside0.mk A340
         clear A340
         by_cases c35 : t177 < 0
         ·rw [if_pos c35] at H
          exact absurd H (by simp)
         ·rw [if_neg c35] at H
          have c35b0 : decide (t177 < 0) = false := decide_eq_false c35
          clear c35
          by_cases c36 : t177 = t175
          ·rw [if_pos c36] at H
           have c36b0 : (t177 == t175) = true := beq_iff_eq.mpr c36
           have c36b1 : (t177 != t175) = false := bne_eq_false_iff_eq.mpr c36
           clear c36
           replace H := Option.bind_eq_some_iff.mp H
           obtain ⟨⟨t178, t179⟩, A370, H⟩ := H
           try dsimp only at H
           have A37 := Aside0.mk A370
           clear A370
           replace H := Option.bind_eq_some_iff.mp H
           obtain ⟨t182, A380, H⟩ := H
           try dsimp only at H
           have A38 := Aside0.mk A380
           clear A380
           replace H := Option.bind_eq_some_iff.mp H
           obtain ⟨⟨t185, t188⟩, A390, H⟩ := H
           try dsimp only at H
           have A39 := Aside0.mk A390
           clear A390
           replace H := Option.bind_eq_some_iff.mp H
           obtain ⟨t189, A400, H⟩ := H
           try dsimp only at H
           have A40 := Aside0.mk A400
           clear A400
           by_cases c41 : t189 = true
           ·subst c41
            have H1 : (if t188 = t147 then ((laws_heldInt64S.f k t176 1).bind fun t190 => (if t190 < 0 then (none) else (if t190 = t175 then (some true) else (none)))) else (none)) = some r := by rw [if_pos rfl] at H; exact H
            clear H
            have H := H1
            clear H1
            by_cases c42 : t188 = t147
            ·rw [if_pos c42] at H
             have c42b0 : (t188 == t147) = true := beq_iff_eq.mpr c42
             have c42b1 : (t188 != t147) = false := bne_eq_false_iff_eq.mpr c42
             clear c42
             replace H := Option.bind_eq_some_iff.mp H
             obtain ⟨t190, A430, H⟩ := H
             try dsimp only at H
             have A43 := Aside0.mk A430
             clear A430
             by_cases c44 : t190 < 0
             ·rw [if_pos c44] at H
              exact absurd H (by simp)
             ·rw [if_neg c44] at H
              have c44b0 : decide (t190 < 0) = false := decide_eq_false c44
              clear c44
              by_cases c45 : t190 = t175
              ·rw [if_pos c45] at H
               have c45b0 : (t190 == t175) = true := beq_iff_eq.mpr c45
               have c45b1 : (t190 != t175) = false := bne_eq_false_iff_eq.mpr c45
               clear c45
               obtain rfl := Option.some.inj H
               go_enter Tryz.func3, Tryz.ntmps3
               try go_wp2_with (first | ((with_reducible refine gate_dst (N := 2) rfl ?_); refine box_event ?hg (N := 2) ?hd (cs := #[.int .i64 a0_0, .slice A0_1 l0_1.length c0_1]) (t := 24) ?hr ?_; (case hd => rfl); (case hg => rfl); (case hr => first | (go_simp; done) | (go_simp; rfl)); intro gb134 hg w46 hbox hb; have BK134 := Aside0.mk (hbox); have GW134 := gH HB hg; have GE134 := gH HB hg; replace HB := sH HB hb; clear hb hbox hg; have hcz47_0 : w46.cell? ⟨gb134, 0, none⟩ = some (.int .i64 a0_0) := cB BK134 0; have hcz47_1 : w46.cell? ⟨gb134, 1, none⟩ = some (.slice A0_1 l0_1.length c0_1) := cB BK134 1; have hfz47_0 := zB BK134 0; have hfz47_1 := zB BK134 1) | ((with_reducible refine gate_callee (f := 4) rfl ?_); refine cl_ (some 19) Tryz.func4 #[.agg #[.int .i64 a0_0, .slice A0_1 l0_1.length c0_1], .int .i64 1048576] ?_; (with_reducible refine (laws_szComplex.calls a0_0 _ _ l0_1 1048576 t135 _ ?side1 ?side2 A3.out).mono ?_); (case side1 => exact pC ((Kd.C_below HR0_1.out HB.out))); (case side2 => exact HC0_1.out); rintro e w48 ⟨rfl, hb⟩; refine ⟨_, rfl, ?_⟩; replace BK134 := sB BK134 hb; replace HB := sH HB hb; (try clear hb); (try clear hi)) | ((with_reducible refine gate_callee (f := 5) rfl ?_); refine cl_ (some 24) Tryz.func5 #[.slice A1 l1.length c1, .int .i64 t135] ?_; (with_reducible refine (laws_szPairS.calls _ _ l1 t135 t136 _ ?side1 ?side2 A8.out).mono ?_); (case side1 => exact pC ((Kd.C_below HR1.out HB.out))); (case side2 => exact HC1.out); rintro e w' ⟨rfl, ⟨nd, rfl⟩⟩; refine ⟨_, rfl, ?_⟩; (try (rw [drewN_self w48]; generalize hq_ : World.drewN w48 _ = w48; have n0_ : Aside0 (w48.heap[gb134]? = some (.cells #[.int .i64 a0_0, .slice A0_1 l0_1.length c0_1] 24 (0, 0))) := ⟨by rw [← hq_]; exact (pB BK134)⟩; have n1_ : Aside0 (Below w.heap.size w w48) := ⟨by rw [← hq_]; exact (pH HB)⟩; clear BK134 HB hq_; have BK134 := n0_; have HB := n1_; clear n0_ n1_)); (try (have hcz49_0 : w48.cell? ⟨gb134, 0, none⟩ = some (.int .i64 a0_0) := cB BK134 0; have hcz49_1 : w48.cell? ⟨gb134, 1, none⟩ = some (.slice A0_1 l0_1.length c0_1) := cB BK134 1; have hfz49_0 := zB BK134 0; have hfz49_1 := zB BK134 1)); have hcz50_0 : w48.cell? ⟨gb134, 0, none⟩ = some (.int .i64 a0_0) := cB BK134 0; have hcz50_1 : w48.cell? ⟨gb134, 1, none⟩ = some (.slice A0_1 l0_1.length c0_1) := cB BK134 1; have hfz50_0 := zB BK134 0; have hfz50_1 := zB BK134 1) | ((with_reducible refine gate_callee (f := 7) rfl ?_); refine cl_ (some 29) Tryz.func7 #[.agg #[.int .i64 a0_0, .slice A0_1 l0_1.length c0_1]] ?_; (with_reducible refine (laws_toComplex.calls k a0_0 _ _ l0_1 t137 t138 _ ?side1 ?side2 A13.out).mono ?_); (case side1 => exact pC ((Kd.C_below HR0_1.out HB.out))); (case side2 => exact HC0_1.out); rintro e w51 ⟨v139, rfl, ho0, hb⟩; refine ⟨_, rfl, ?_⟩; have HO140 := Aside0.mk (Kd.R_lower ho0 (below_size (pH HB))); replace BK134 := sB BK134 hb; replace HB := sH HB hb; (try clear hb); (try clear hi); (try clear ho0)) | ((with_reducible refine gate_callee (f := 8) rfl ?_); refine cl_ (some 31) Tryz.func8 #[.slice A1 l1.length c1] ?_; (with_reducible refine (laws_toPairS.calls k _ _ l1 t141 _ ?side1 ?side2 A14.out).mono ?_); (case side1 => exact pC ((Kd.C_below HR1.out HB.out))); (case side2 => exact HC1.out); rintro e w52 ⟨v142, rfl, ho0, hb⟩; refine ⟨_, rfl, ?_⟩; replace HO140 := sR HO140 hb; have HO143 := Aside0.mk (Kd.R_lower ho0 (below_size (pH HB))); replace BK134 := sB BK134 hb; replace HB := sH HB hb; (try clear hb); (try clear hi); (try clear ho0); obtain ⟨Ao53, co53, eo53⟩ := Kd.R_slice HO140.out; subst eo53; obtain ⟨Ao54, co54, eo54⟩ := Kd.R_slice HO143.out; subst eo54) | ((with_reducible refine gate_callee (f := 6) rfl ?_); refine cl_ (some 32) Tryz.func6 #[.agg #[.int .i64 t137, .slice Ao53 t138.length co53], .slice Ao54 t141.length co54] ?_; (with_reducible refine (spec_HolesOf.calls t137 _ _ t138 _ _ t141 t144 t147 _ ?side1 ?side2 ?side3 ?side4 A15.out).mono ?_); (case side1 => exact pC ((Kd.R_reads' HO140.out).2.2)); (case side2 => exact (Kd.R_reads' HO140.out).2.1); (case side3 => exact pC ((Kd.R_reads' HO143.out).2.2)); (case side4 => exact (Kd.R_reads' HO143.out).2.1); rintro e w55 ⟨v145, rfl, ho0, hb⟩; refine ⟨_, rfl, ?_⟩; replace HO143 := sR HO143 hb; have HO146 := Aside0.mk (Kd.R_lower (Kd.R_new' ho0 (Kd.R_lt (pR HO140))) (below_size (pH HB))); replace HO140 := Aside0.mk (Kd.R_elder' (pR HO140) (Kd.R_base ho0) hb); replace BK134 := sB BK134 hb; replace HB := sH HB hb; (try clear hb); (try clear hi); (try clear ho0); have hcz56_0 : w55.cell? ⟨gb134, 0, none⟩ = some (.int .i64 a0_0) := cB BK134 0; have hcz56_1 : w55.cell? ⟨gb134, 1, none⟩ = some (.slice A0_1 l0_1.length c0_1) := cB BK134 1; have hfz56_0 := zB BK134 0; have hfz56_1 := zB BK134 1) | ((with_reducible refine gate_callee (f := 7) rfl ?_); refine cl_ (some 36) Tryz.func7 #[.agg #[.int .i64 a0_0, .slice A0_1 l0_1.length c0_1]] ?_; (with_reducible refine (laws_toComplex.calls k a0_0 _ _ l0_1 t148 t149 _ ?side1 ?side2 A16.out).mono ?_); (case side1 => exact pC ((Kd.C_below HR0_1.out HB.out))); (case side2 => exact HC0_1.out); rintro e w57 ⟨v150, rfl, ho0, hb⟩; refine ⟨_, rfl, ?_⟩; replace HO143 := sR HO143 hb; have HO151 := Aside0.mk (Kd.R_lower (Kd.R_new' (Kd.R_new' ho0 (Kd.R_lt (pR HO140))) (Kd.R_lt (pR HO146))) (below_size (pH HB))); replace HO140 := Aside0.mk (Kd.R_elder' (pR HO140) (Kd.R_base ho0) hb); replace HO146 := Aside0.mk (Kd.R_elder' (pR HO146) (Kd.R_base ho0) hb); replace BK134 := sB BK134 hb; replace HB := sH HB hb; (try clear hb); (try clear hi); (try clear ho0)) | ((with_reducible refine gate_dst (N := 8) rfl ?_); refine box_event ?hg (N := 8) ?hd (cs := #[.int .i64 0, .slice none 0 0]) (t := 30) ?hr ?_; (case hd => rfl); (case hg => rfl); (case hr => first | (go_simp; done) | (go_simp; rfl)); intro gb152 hg w58 hbox hb; replace HO140 := sR HO140 hb; replace HO143 := sR HO143 hb; replace HO146 := sR HO146 hb; replace HO151 := sR HO151 hb; have BK152 := Aside0.mk (hbox); have GW152 := gH HB hg; have GE152 := gH HB hg; replace HB := sH HB hb; have NB134_152 := nB BK134 hg; have NB152_134 := oB BK134 hg; replace BK134 := sB BK134 hb; clear hb hbox hg; (try have hnb59 := NB152_134.out); (try have hnc59 := NB134_152.out); have hcz60_0 : w58.cell? ⟨gb152, 0, none⟩ = some (.int .i64 0) := cB BK152 0; have hcz60_1 : w58.cell? ⟨gb152, 1, none⟩ = some (.slice none 0 0) := cB BK152 1; have hfz60_0 := zB BK152 0; have hfz60_1 := zB BK152 1; obtain ⟨Ao61, co61, eo61⟩ := Kd.R_slice HO151.out; subst eo61) | ((with_reducible refine gate_callee (f := 8) rfl ?_); refine cl_ (some 38) Tryz.func8 #[.slice A1 l1.length c1] ?_; (with_reducible refine (laws_toPairS.calls k _ _ l1 t153 _ ?side1 ?side2 A17.out).mono ?_); (case side1 => exact Kd.C_below HR1.out (pH HB)); (case side2 => exact HC1.out); rintro e w62 ⟨v154, rfl, ho0, hb⟩; refine ⟨_, rfl, ?_⟩; have n0_ := Aside0.mk (Kd.R_below (by (with_reducible repeat (first | apply Kd.R_alloc | apply Kd.R_drewN | apply Kd.R_drew)); exact (Kd.R_mono (Kd.R_far (p := ⟨gb152, 1, none⟩) (Kd.R_far (p := ⟨gb152, 0, none⟩) (Kd.R_types HO140.out BK152.out (by decide)) (fun _ hk => hk.2) (.int .i64 t148)) (fun _ hk => hk.2) (.slice Ao61 t149.length co61)) (fun _ h_ => h_.1))) hb); have n1_ := Aside0.mk (Kd.R_elder' (by (with_reducible repeat (first | apply Kd.R_alloc | apply Kd.R_drewN | apply Kd.R_drew)); exact (Kd.R_mono (Kd.R_far (p := ⟨gb152, 1, none⟩) (Kd.R_far (p := ⟨gb152, 0, none⟩) (Kd.R_types HO143.out BK152.out (by decide)) (fun _ hk => hk.2) (.int .i64 t148)) (fun _ hk => hk.2) (.slice Ao61 t149.length co61)) (fun _ h_ => h_.1))) (Kd.R_base ho0) hb); have n2_ := Aside0.mk (Kd.R_below (by (with_reducible repeat (first | apply Kd.R_alloc | apply Kd.R_drewN | apply Kd.R_drew)); exact (Kd.R_mono (Kd.R_far (p := ⟨gb152, 1, none⟩) (Kd.R_far (p := ⟨gb152, 0, none⟩) (Kd.R_types HO146.out BK152.out (by decide)) (fun _ hk => hk.2) (.int .i64 t148)) (fun _ hk => hk.2) (.slice Ao61 t149.length co61)) (fun _ h_ => h_.1))) hb); have n3_ := Aside0.mk (Kd.R_below (by (with_reducible repeat (first | apply Kd.R_alloc | apply Kd.R_drewN | apply Kd.R_drew)); exact (Kd.R_mono (Kd.R_far (p := ⟨gb152, 1, none⟩) (Kd.R_far (p := ⟨gb152, 0, none⟩) (Kd.R_types HO151.out BK152.out (by decide)) (fun _ hk => hk.2) (.int .i64 t148)) (fun _ hk => hk.2) (.slice Ao61 t149.length co61)) (fun _ h_ => h_.1))) hb); have n4_ := Aside0.mk (Kd.R_lower (Kd.R_new' ho0 (Kd.R_lt (by (with_reducible repeat (first | apply Kd.R_alloc | apply Kd.R_drewN | apply Kd.R_drew)); exact (Kd.R_mono (Kd.R_far (p := ⟨gb152, 1, none⟩) (Kd.R_far (p := ⟨gb152, 0, none⟩) (Kd.R_types HO143.out BK152.out (by decide)) (fun _ hk => hk.2) (.int .i64 t148)) (fun _ hk => hk.2) (.slice Ao61 t149.length co61)) (fun _ h_ => h_.1))))) (below_size (pH HB))); have n5_ := Aside0.mk (blk_below (g := gb134) (o := .cells #[.int .i64 a0_0, .slice A0_1 l0_1.length c0_1] 24 (0, 0)) (by (with_reducible repeat (first | refine blk_drewN ?_ _ | refine blk_drew ?_ | refine blk_alloc ?_ _)); refine blk_far ?_ NB134_152.out _; (with_reducible repeat (first | refine blk_drewN ?_ _ | refine blk_drew ?_ | refine blk_alloc ?_ _)); refine blk_far ?_ NB134_152.out _; (with_reducible repeat (first | refine blk_drewN ?_ _ | refine blk_drew ?_ | refine blk_alloc ?_ _)); exact BK134.out) hb); have n6_ := Aside0.mk (blk_below (g := gb152) (o := .cells #[.int .i64 t148, .slice Ao61 t149.length co61] 30 (0, 0)) (by (with_reducible repeat (first | refine blk_drewN ?_ _ | refine blk_drew ?_ | refine blk_alloc ?_ _)); refine blk_put (cs := #[.int .i64 t148, .slice none 0 0]) ?_ 1 _ rfl; (with_reducible repeat (first | refine blk_drewN ?_ _ | refine blk_drew ?_ | refine blk_alloc ?_ _)); refine blk_put (cs := #[.int .i64 0, .slice none 0 0]) ?_ 0 _ rfl; (with_reducible repeat (first | refine blk_drewN ?_ _ | refine blk_drew ?_ | refine blk_alloc ?_ _)); exact BK152.out) hb); have n7_ := sH HB hb; clear HO140; clear HO143; clear HO146; clear HO151; clear BK134; clear BK152; clear HB; have HO140 := n0_; have HO143 := n1_; have HO146 := n2_; have HO151 := n3_; have HO155 := n4_; have BK134 := n5_; have BK152 := n6_; have HB := n7_; clear n0_ n1_ n2_ n3_ n4_ n5_ n6_ n7_; (try clear hb); (try clear hi); (try clear ho0); have hcz63_0 : w62.cell? ⟨gb152, 0, none⟩ = some (.int .i64 t148) := cB BK152 0; have hcz63_1 : w62.cell? ⟨gb152, 1, none⟩ = some (.slice Ao61 t149.length co61) := cB BK152 1; have hfz63_0 := zB BK152 0; have hfz63_1 := zB BK152 1; obtain ⟨Ao64, co64, eo64⟩ := Kd.R_slice HO155.out; subst eo64) | ((with_reducible refine gate_callee (f := 9) rfl ?_); refine cl_ (some 42) Tryz.func9 #[.agg #[.int .i64 t148, .slice Ao61 t149.length co61], .slice Ao64 t153.length co64] ?_; (with_reducible refine (impl_HolesOf.calls t148 _ _ t149 _ _ t153 t156 t159 _ ?side1 ?side2 ?side3 ?side4 A18.out).mono ?_); (case side1 => exact pC ((Kd.R_reads' HO151.out).2.2)); (case side2 => exact (Kd.R_reads' HO151.out).2.1); (case side3 => exact pC ((Kd.R_reads' HO155.out).2.2)); (case side4 => exact (Kd.R_reads' HO155.out).2.1); rintro e w65 ⟨v157, rfl, ho0, hb⟩; refine ⟨_, rfl, ?_⟩; replace HO143 := sR HO143 hb; replace HO155 := sR HO155 hb; have HO158 := Aside0.mk (Kd.R_lower (Kd.R_new' (Kd.R_new' (Kd.R_new' ho0 (Kd.R_lt (pR HO140))) (Kd.R_lt (pR HO146))) (Kd.R_lt (pR HO151))) (below_size (pH HB))); replace HO140 := Aside0.mk (Kd.R_elder' (pR HO140) (Kd.R_base ho0) hb); replace HO146 := Aside0.mk (Kd.R_elder' (pR HO146) (Kd.R_base ho0) hb); replace HO151 := Aside0.mk (Kd.R_elder' (pR HO151) (Kd.R_base ho0) hb); replace BK134 := sB BK134 hb; replace BK152 := sB BK152 hb; replace HB := sH HB hb; (try clear hb); (try clear hi); (try clear ho0); obtain ⟨Ao66, co66, eo66⟩ := Kd.R_slice HO158.out; subst eo66; obtain ⟨Ao67, co67, eo67⟩ := Kd.R_slice HO146.out; subst eo67) | ((with_reducible refine gate_callee (f := 10) rfl ?_); refine cl_ (some 47) Tryz.func10 #[.slice Ao66 t156.length co66, .slice Ao67 t144.length co67] ?_; (with_reducible refine (laws_eqInt64S.calls k _ _ t156 _ _ t144 true _ ?side1 ?side2 ?side3 ?side4 A19.out).mono ?_); (case side1 => exact pC ((Kd.R_reads' HO158.out).2.2)); (case side2 => exact (Kd.R_reads' HO158.out).2.1); (case side3 => exact pC ((Kd.R_reads' HO146.out).2.2)); (case side4 => exact (Kd.R_reads' HO146.out).2.1); rintro e w' ⟨rfl, ⟨nd, rfl⟩⟩; refine ⟨_, rfl, ?_⟩))
               (try (rw [drewN_self w65]; generalize hq_ : World.drewN w65 _ = w65; have n0_ : Aside0 (Kd.R (Kd.int .i64) 2 w65 w.heap.size (fun k_ => some k_ ≠ (.slice Ao67 t144.length co67 : Value).ownBlock ∧ some k_ ≠ (.slice Ao61 t149.length co61 : Value).ownBlock ∧ some k_ ≠ (.slice Ao66 t156.length co66 : Value).ownBlock) (.slice Ao53 t138.length co53) t138) := ⟨by rw [← hq_]; exact (by (with_reducible repeat (first | apply Kd.R_alloc | apply Kd.R_drewN | apply Kd.R_drew)); exact Kd.R_mono HO140.out (fun _ hk => ⟨hk.1.1.2, ⟨hk.1.2, hk.2⟩⟩))⟩; have n1_ : Aside0 (Kd.R k46 46 w65 w.heap.size (fun k_ => some k_ ≠ (.slice Ao64 t153.length co64 : Value).ownBlock) (.slice Ao54 t141.length co54) t141) := ⟨by rw [← hq_]; exact (by (with_reducible repeat (first | apply Kd.R_alloc | apply Kd.R_drewN | apply Kd.R_drew)); exact Kd.R_mono HO143.out (fun _ hk => hk.2))⟩; have n2_ : Aside0 (Kd.R (Kd.int .i64) 2 w65 w.heap.size (fun k_ => some k_ ≠ (.slice Ao53 t138.length co53 : Value).ownBlock ∧ some k_ ≠ (.slice Ao61 t149.length co61 : Value).ownBlock ∧ some k_ ≠ (.slice Ao66 t156.length co66 : Value).ownBlock) (.slice Ao67 t144.length co67) t144) := ⟨by rw [← hq_]; exact (by (with_reducible repeat (first | apply Kd.R_alloc | apply Kd.R_drewN | apply Kd.R_drew)); exact Kd.R_mono HO146.out (fun _ hk => ⟨hk.1.1.2, ⟨hk.1.2, hk.2⟩⟩))⟩; have n3_ : Aside0 (Kd.R (Kd.int .i64) 2 w65 w.heap.size (fun k_ => some k_ ≠ (.slice Ao53 t138.length co53 : Value).ownBlock ∧ some k_ ≠ (.slice Ao67 t144.length co67 : Value).ownBlock ∧ some k_ ≠ (.slice Ao66 t156.length co66 : Value).ownBlock) (.slice Ao61 t149.length co61) t149) := ⟨by rw [← hq_]; exact (by (with_reducible repeat (first | apply Kd.R_alloc | apply Kd.R_drewN | apply Kd.R_drew)); exact Kd.R_mono HO151.out (fun _ hk => ⟨hk.1.1.2, ⟨hk.1.2, hk.2⟩⟩))⟩; have n4_ : Aside0 (Kd.R k46 46 w65 w.heap.size (fun k_ => some k_ ≠ (.slice Ao54 t141.length co54 : Value).ownBlock) (.slice Ao64 t153.length co64) t153) := ⟨by rw [← hq_]; exact (by (with_reducible repeat (first | apply Kd.R_alloc | apply Kd.R_drewN | apply Kd.R_drew)); exact Kd.R_mono HO155.out (fun _ hk => hk.2))⟩; have n5_ : Aside0 (Kd.R (Kd.int .i64) 2 w65 w.heap.size (fun k_ => some k_ ≠ (.slice Ao53 t138.length co53 : Value).ownBlock ∧ some k_ ≠ (.slice Ao67 t144.length co67 : Value).ownBlock ∧ some k_ ≠ (.slice Ao61 t149.length co61 : Value).ownBlock) (.slice Ao66 t156.length co66) t156) := ⟨by rw [← hq_]; exact (by (with_reducible repeat (first | apply Kd.R_alloc | apply Kd.R_drewN | apply Kd.R_drew)); exact Kd.R_mono HO158.out (fun _ hk => ⟨hk.1.1.2, ⟨hk.1.2, hk.2⟩⟩))⟩; have n6_ : Aside0 (w65.heap[gb134]? = some (.cells #[.int .i64 a0_0, .slice A0_1 l0_1.length c0_1] 24 (0, 0))) := ⟨by rw [← hq_]; exact (pB BK134)⟩; have n7_ : Aside0 (w65.heap[gb152]? = some (.cells #[.int .i64 t148, .slice Ao61 t149.length co61] 30 (0, 0))) := ⟨by rw [← hq_]; exact (pB BK152)⟩; have n8_ : Aside0 (Below w.heap.size w w65) := ⟨by rw [← hq_]; exact (pH HB)⟩; clear HO140 HO143 HO146 HO151 HO155 HO158 BK134 BK152 HB hq_; have HO140 := n0_; have HO143 := n1_; have HO146 := n2_; have HO151 := n3_; have HO155 := n4_; have HO158 := n5_; have BK134 := n6_; have BK152 := n7_; have HB := n8_; clear n0_ n1_ n2_ n3_ n4_ n5_ n6_ n7_ n8_))
               (try (have hcz68_0 : w65.cell? ⟨gb134, 0, none⟩ = some (.int .i64 a0_0) := cB BK134 0; have hcz68_1 : w65.cell? ⟨gb134, 1, none⟩ = some (.slice A0_1 l0_1.length c0_1) := cB BK134 1; have hfz68_0 := zB BK134 0; have hfz68_1 := zB BK134 1))
               (try (have hcz69_0 : w65.cell? ⟨gb152, 0, none⟩ = some (.int .i64 t148) := cB BK152 0; have hcz69_1 : w65.cell? ⟨gb152, 1, none⟩ = some (.slice Ao61 t149.length co61) := cB BK152 1; have hfz69_0 := zB BK152 0; have hfz69_1 := zB BK152 1))
               replace HO140 := Aside0.mk (Kd.R_drew HO140.out)
               replace HO143 := Aside0.mk (Kd.R_drew HO143.out)
               replace HO146 := Aside0.mk (Kd.R_drew HO146.out)
               replace HO151 := Aside0.mk (Kd.R_drew HO151.out)
               replace HO155 := Aside0.mk (Kd.R_drew HO155.out)
               replace HO158 := Aside0.mk (Kd.R_drew HO158.out)
               replace BK134 := dB BK134
               replace BK152 := dB BK152
               replace HB := dH HB
               refine st_ 5 (S := fun w' => w'.cell? ⟨gb152, 0, none⟩ = some (.int .i64 t148) ∧ w'.cell? ⟨gb152, 1, none⟩ = some (.slice Ao61 t149.length co61) ∧ w'.cell? ⟨gb134, 0, none⟩ = some (.int .i64 a0_0) ∧ w'.cell? ⟨gb134, 1, none⟩ = some (.slice A0_1 l0_1.length c0_1)) (ds := []) ⟨cB BK152 0, cB BK152 1, cB BK134 0, cB BK134 1⟩ (fun hHeld => ?_)
               generalize w65.drew = w70 at HO140 HO143 HO146 HO151 HO155 HO158 BK134 BK152 HB hHeld ⊢
               refine take_ (i := 0) (N := some 54) (v := ?_) (a' := ?_) (mB 5 1) rfl rfl (by kernel_rfl) (fun _ _ _ h => h) (Or.inl ⟨by rfl, ?_⟩) hHeld ?_ ?_
               rotate_left
               ·rintro w' ⟨s0, s1, s2, s3⟩
                go_simp
                with_reducible rfl
               rotate_left
               ·simp only [Act.put, List.setIfInBounds_toArray, List.set_cons_zero, List.set_cons_succ, i64_w, i32_w]
                rfl
               refine take_ (i := 1) (N := some 55) (v := ?_) (a' := ?_) (mB 5 3) rfl rfl (by kernel_rfl) (fun _ _ _ h => h) (Or.inl ⟨by rfl, ?_⟩) hHeld ?_ ?_
               rotate_left
               ·rintro w' ⟨s0, s1, s2, s3⟩
                go_simp
                with_reducible rfl
               rotate_left
               ·simp only [Act.put, List.setIfInBounds_toArray, List.set_cons_zero, List.set_cons_succ, i64_w, i32_w]
                rfl
               refine one_ (i := 2) (N := some 56) (mB 5 7) rfl rfl (by kernel_rfl) (by decide) (fun K hK => ?_)
               refine ca_ Tryz.func7 #[.agg #[.int .i64 a0_0, .slice A0_1 l0_1.length c0_1]] ?_
               with_reducible refine (laws_toComplex.calls k a0_0 _ _ l0_1 t161 t162 _ ?side1 ?side2 A22.out).mono ?_
               (case side1 => exact pC ((Kd.C_below HR0_1.out HB.out)))
               (case side2 => exact HC0_1.out)
               rintro e w71 ⟨v163, rfl, ho0, hb⟩
               refine ⟨_, rfl, ?_⟩
               replace HO143 := sR HO143 hb
               replace HO155 := sR HO155 hb
               have HO164 := Aside0.mk (Kd.R_lower (Kd.R_new' (Kd.R_new' (Kd.R_new' (Kd.R_new' ho0 (Kd.R_lt (pR HO140))) (Kd.R_lt (pR HO146))) (Kd.R_lt (pR HO151))) (Kd.R_lt (pR HO158))) (below_size (pH HB)))
               replace HO140 := Aside0.mk (Kd.R_elder' (pR HO140) (Kd.R_base ho0) hb)
               replace HO146 := Aside0.mk (Kd.R_elder' (pR HO146) (Kd.R_base ho0) hb)
               replace HO151 := Aside0.mk (Kd.R_elder' (pR HO151) (Kd.R_base ho0) hb)
               replace HO158 := Aside0.mk (Kd.R_elder' (pR HO158) (Kd.R_base ho0) hb)
               replace BK134 := sB BK134 hb
               replace BK152 := sB BK152 hb
               replace HB := sH HB hb
               (try clear hb)
               (try clear hb2)
               (try clear hk)
               (try clear hi)
               (try clear ho0)
               obtain ⟨Ao72, co72, eo72⟩ := Kd.R_slice HO164.out
               (first | subst eo72 | (injection eo72 with f1_ f2_ f3_; have f4_ := f1_.symm; have f5_ := f3_.symm; clear f1_ f2_ f3_; subst f4_; subst f5_))
               refine hK.out _ _ ⟨cB BK152 0, cB BK152 1, cB BK134 0, cB BK134 1⟩ (fun hHeld => ?_)
               clear hK K
               refine nm_ ?_
               refine one_ (i := 3) (N := some 57) (mB 5 15) rfl rfl (by kernel_rfl) (by decide) (fun K hK => ?_)
               refine ca_ Tryz.func11 #[.agg #[.int .i64 t148, .slice Ao61 t149.length co61], .agg #[.int .i64 t161, .slice Ao72 t162.length co72]] ?_
               with_reducible refine (laws_eqComplex.calls k t148 _ _ t149 t161 _ _ t162 true _ ?side1 ?side2 ?side3 ?side4 A23.out).mono ?_
               (case side1 => exact pC ((Kd.R_reads' HO151.out).2.2))
               (case side2 => exact (Kd.R_reads' HO151.out).2.1)
               (case side3 => exact pC ((Kd.R_reads' HO164.out).2.2))
               (case side4 => exact (Kd.R_reads' HO164.out).2.1)
               rintro e w73 ⟨rfl, hb⟩
               refine ⟨_, rfl, ?_⟩
               replace HO140 := sR HO140 hb
               replace HO143 := sR HO143 hb
               replace HO146 := sR HO146 hb
               replace HO151 := sR HO151 hb
               replace HO155 := sR HO155 hb
               replace HO158 := sR HO158 hb
               replace HO164 := sR HO164 hb
               replace BK134 := sB BK134 hb
               replace BK152 := sB BK152 hb
               replace HB := sH HB hb
               (try clear hb)
               (try clear hb2)
               (try clear hk)
               (try clear hi)
               refine hK.out _ _ ⟨cB BK152 0, cB BK152 1, cB BK134 0, cB BK134 1⟩ (fun hHeld => ?_)
               clear hK K
               refine nm_ ?_
               refine pure_ (i := 4) (N := some 58) (v := ?_) (a' := ?_) (mB 5 31) rfl rfl (by kernel_rfl) (fun _ _ _ h => h) (Or.inl ⟨by rfl, ?_⟩) ?_ ?_
               rotate_left
               ·intro w'
                go_simp
                with_reducible rfl
               rotate_left
               ·simp only [Act.put, List.setIfInBounds_toArray, List.set_cons_zero, List.set_cons_succ, i64_w, i32_w]
                rfl
               refine done_ (by kernel_rfl) ?_
               try go_wp2_with (first | ((with_reducible refine gate_callee (f := 8) rfl ?_); refine cl_ (some 61) Tryz.func8 #[.slice A1 l1.length c1] ?_; (with_reducible refine (laws_toPairS.calls k _ _ l1 t166 _ ?side1 ?side2 A25.out).mono ?_); (case side1 => exact pC ((Kd.C_below HR1.out HB.out))); (case side2 => exact HC1.out); rintro e w74 ⟨v167, rfl, ho0, hb⟩; refine ⟨_, rfl, ?_⟩; replace HO140 := sR HO140 hb; replace HO146 := sR HO146 hb; replace HO151 := sR HO151 hb; replace HO158 := sR HO158 hb; replace HO164 := sR HO164 hb; have HO168 := Aside0.mk (Kd.R_lower (Kd.R_new' (Kd.R_new' ho0 (Kd.R_lt (pR HO143))) (Kd.R_lt (pR HO155))) (below_size (pH HB))); replace HO143 := Aside0.mk (Kd.R_elder' (pR HO143) (Kd.R_base ho0) hb); replace HO155 := Aside0.mk (Kd.R_elder' (pR HO155) (Kd.R_base ho0) hb); replace BK134 := sB BK134 hb; replace BK152 := sB BK152 hb; replace HB := sH HB hb; (try clear hb); (try clear hi); (try clear ho0); have nD_ := Aside0.mk (Kd.R_mono (ok' := fun k_ => some k_ ≠ (.slice Ao61 t149.length co61 : Value).ownBlock ∧ some k_ ≠ (.slice Ao66 t156.length co66 : Value).ownBlock) HO146.out (fun k_ hk => ⟨hk.1.2.1, hk.1.2.2⟩)); clear HO146; have HO146 := nD_; clear nD_; have nD_ := Aside0.mk (Kd.R_mono (ok' := fun k_ => some k_ ≠ (.slice Ao67 t144.length co67 : Value).ownBlock ∧ some k_ ≠ (.slice Ao66 t156.length co66 : Value).ownBlock) HO151.out (fun k_ hk => ⟨hk.1.2.1, hk.1.2.2⟩)); clear HO151; have HO151 := nD_; clear nD_; have nD_ := Aside0.mk (Kd.R_mono (ok' := fun k_ => some k_ ≠ (v167 : Value).ownBlock) HO155.out (fun k_ hk => hk.2)); clear HO155; have HO155 := nD_; clear nD_; have nD_ := Aside0.mk (Kd.R_mono (ok' := fun k_ => some k_ ≠ (.slice Ao67 t144.length co67 : Value).ownBlock ∧ some k_ ≠ (.slice Ao61 t149.length co61 : Value).ownBlock) HO158.out (fun k_ hk => ⟨hk.1.2.1, hk.1.2.2⟩)); clear HO158; have HO158 := nD_; clear nD_; have nD_ := Aside0.mk (Kd.R_mono (ok' := fun k_ => some k_ ≠ (.slice Ao64 t153.length co64 : Value).ownBlock) HO168.out (fun k_ hk => hk.2)); clear HO168; have HO168 := nD_; clear nD_; clear HO140 HO143 HO164; obtain ⟨Ao75, co75, eo75⟩ := Kd.R_slice HO168.out; subst eo75) | ((with_reducible refine gate_callee (f := 12) rfl ?_); refine cl_ (some 62) Tryz.func12 #[.slice Ao64 t153.length co64, .slice Ao75 t166.length co75] ?_; (with_reducible refine (laws_eqPairS.calls k _ _ t153 _ _ t166 true _ ?side1 ?side2 ?side3 ?side4 A26.out).mono ?_); (case side1 => exact pC ((Kd.R_reads' HO155.out).2.2)); (case side2 => exact (Kd.R_reads' HO155.out).2.1); (case side3 => exact pC ((Kd.R_reads' HO168.out).2.2)); (case side4 => exact (Kd.R_reads' HO168.out).2.1); rintro e w76 ⟨rfl, hb⟩; refine ⟨_, rfl, ?_⟩; replace HO146 := sR HO146 hb; replace HO151 := sR HO151 hb; replace HO155 := sR HO155 hb; replace HO158 := sR HO158 hb; replace HO168 := sR HO168 hb; replace BK134 := sB BK134 hb; replace BK152 := sB BK152 hb; replace HB := sH HB hb; (try clear hb); (try clear hi); have nD_ := Aside0.mk (Kd.R_mono (ok' := fun k_ => True) HO155.out (fun k_ hk => trivial)); clear HO155; have HO155 := nD_; clear nD_; clear HO168; have hcz77_0 : w76.cell? ⟨gb152, 0, none⟩ = some (.int .i64 t148) := cB BK152 0; have hcz77_1 : w76.cell? ⟨gb152, 1, none⟩ = some (.slice Ao61 t149.length co61) := cB BK152 1; have hfz77_0 := zB BK152 0; have hfz77_1 := zB BK152 1) | ((with_reducible refine gate_callee (f := 13) rfl ?_); refine cl_ (some 66) Tryz.func13 #[.agg #[.int .i64 t148, .slice Ao61 t149.length co61], .int .i64 1] ?_; (with_reducible refine (laws_markComplex.calls k t148 (fun k_ => some k_ = (.slice Ao61 t149.length co61 : Value).ownBlock) (.slice Ao61 t149.length co61) t149 1 t170 t171 w _ ?side1 ?side2 A28.out).mono ?_); (case side1 => repeat (first | (with_reducible first | exact HB.out | apply below_alloc | apply pw_below_drewN | apply below_drew1 | refine below_set ?_ GE134.out | refine below_set ?_ GE152.out) | exact HB.out)); (case side2 => exact Kd.R_tight rfl HO151.out); rintro e w78 ⟨rfl, hy0, hb, hkp⟩; refine ⟨_, rfl, ?_⟩; replace BK134 := Aside0.mk (blk_kept (pB BK134) hkp (fun hs_ => (fun e_ => (Kd.R_ne HO151.out BK134.out (by decide)) e_) hs_)); replace HO146 := Aside0.mk (Kd.R_mono (ok' := fun k_ => some k_ ≠ (.slice Ao61 t149.length co61 : Value).ownBlock ∧ some k_ ≠ (.slice Ao66 t156.length co66 : Value).ownBlock) (Kd.R_keptB (HO146.out) hkp (fun k_ hk_ hs_ => (hk_.1) hs_)) (fun k_ hk_ => ⟨hk_.1.1, hk_.1.2⟩)); replace BK152 := Aside0.mk (blk_kept (pB BK152) hkp (fun hs_ => (fun e_ => (Kd.R_ne HO151.out BK152.out (by decide)) e_) hs_)); replace HO155 := Aside0.mk (Kd.R_mono (ok' := fun k_ => True) (Kd.R_keptB ((Kd.R_apart' HO155.out (Kd.R_typed HO151.out) (by decide))) hkp (fun k_ hk_ hs_ => (hk_.2) hs_)) (fun k_ hk_ => trivial)); replace HO151 := Aside0.mk (Kd.R_reok rfl hy0 (fun k_ e_ => HO151.out.1 k_ e_)); replace HO158 := Aside0.mk (Kd.R_mono (ok' := fun k_ => some k_ ≠ (.slice Ao67 t144.length co67 : Value).ownBlock ∧ some k_ ≠ (.slice Ao61 t149.length co61 : Value).ownBlock) (Kd.R_keptB (HO158.out) hkp (fun k_ hk_ hs_ => (hk_.2) hs_)) (fun k_ hk_ => ⟨hk_.1.1, hk_.1.2⟩)); replace HB := Aside0.mk (hb); (try clear hb); (try clear hkp); (try clear hy0)) | ((with_reducible refine gate_callee (f := 14) rfl ?_); refine cl_ (some 69) Tryz.func14 #[.slice Ao64 t153.length co64, .int .i64 t170] ?_; (with_reducible refine (laws_markPairS.calls (fun k_ => some k_ = (.slice Ao64 t153.length co64 : Value).ownBlock) (.slice Ao64 t153.length co64) t153 t170 t172 t173 w _ ?side1 ?side2 A29.out).mono ?_); (case side1 => repeat (first | (with_reducible first | exact HB.out | apply below_alloc | apply pw_below_drewN | apply below_drew1 | refine below_set ?_ GE134.out | refine below_set ?_ GE152.out) | exact HB.out)); (case side2 => exact Kd.R_tight rfl HO155.out); rintro e w79 ⟨rfl, hy0, hb, hkp⟩; refine ⟨_, rfl, ?_⟩; replace BK134 := Aside0.mk (blk_kept (pB BK134) hkp (fun hs_ => (fun e_ => (Kd.R_ne HO155.out BK134.out (by decide)) e_) hs_)); replace HO146 := Aside0.mk (Kd.R_mono (ok' := fun k_ => some k_ ≠ (.slice Ao61 t149.length co61 : Value).ownBlock ∧ some k_ ≠ (.slice Ao66 t156.length co66 : Value).ownBlock) (Kd.R_keptB ((Kd.R_apart' HO146.out (Kd.R_typed HO155.out) (by decide))) hkp (fun k_ hk_ hs_ => (hk_.2) hs_)) (fun k_ hk_ => ⟨hk_.1.1.1, hk_.1.1.2⟩)); replace HO151 := Aside0.mk (Kd.R_mono (ok' := fun k_ => some k_ ≠ (.slice Ao67 t144.length co67 : Value).ownBlock ∧ some k_ ≠ (.slice Ao66 t156.length co66 : Value).ownBlock) (Kd.R_keptB ((Kd.R_apart' HO151.out (Kd.R_typed HO155.out) (by decide))) hkp (fun k_ hk_ hs_ => (hk_.2) hs_)) (fun k_ hk_ => ⟨hk_.1.1.1, hk_.1.1.2⟩)); replace BK152 := Aside0.mk (blk_kept (pB BK152) hkp (fun hs_ => (fun e_ => (Kd.R_ne HO155.out BK152.out (by decide)) e_) hs_)); replace HO158 := Aside0.mk (Kd.R_mono (ok' := fun k_ => some k_ ≠ (.slice Ao67 t144.length co67 : Value).ownBlock ∧ some k_ ≠ (.slice Ao61 t149.length co61 : Value).ownBlock) (Kd.R_keptB ((Kd.R_apart' HO158.out (Kd.R_typed HO155.out) (by decide))) hkp (fun k_ hk_ hs_ => (hk_.2) hs_)) (fun k_ hk_ => ⟨hk_.1.1.1, hk_.1.1.2⟩)); replace HO155 := Aside0.mk (Kd.R_reok rfl hy0 (fun k_ e_ => HO155.out.1 k_ e_)); replace HB := Aside0.mk (hb); (try clear hb); (try clear hkp); (try clear hy0); clear HO155) | (go_at_call 10; (with_reducible refine (laws_eqInt64S.calls k _ _ t156 _ _ t144 true _ ?side1 ?side2 ?side3 ?side4 A31.out).mono ?_); (case side1 => exact pC ((Kd.R_reads' HO158.out).2.2)); (case side2 => exact (Kd.R_reads' HO158.out).2.1); (case side3 => exact pC ((Kd.R_reads' HO146.out).2.2)); (case side4 => exact (Kd.R_reads' HO146.out).2.1); rintro e w' ⟨rfl, ⟨nd, rfl⟩⟩) | ((with_reducible refine gate_callee (f := 15) rfl ?_); refine cl_ (some 85) Tryz.func15 #[.slice Ao66 t156.length co66, .int .i64 1] ?_; (with_reducible refine (laws_markInt64S.calls k (fun k_ => some k_ = (.slice Ao66 t156.length co66 : Value).ownBlock) (.slice Ao66 t156.length co66) t156 1 t175 t176 w _ ?side1 ?side2 A33.out).mono ?_); (case side1 => repeat (first | (with_reducible first | exact HB.out | apply below_alloc | apply pw_below_drewN | apply below_drew1 | refine below_set ?_ GE134.out | refine below_set ?_ GE152.out) | exact HB.out)); (case side2 => exact Kd.R_tight rfl HO158.out); rintro e w80 ⟨rfl, hy0, hb, hkp⟩; refine ⟨_, rfl, ?_⟩; replace BK134 := Aside0.mk (blk_kept (pB BK134) hkp (fun hs_ => (fun e_ => (Kd.R_ne HO158.out BK134.out (by decide)) e_) hs_)); replace HO146 := Aside0.mk (Kd.R_mono (ok' := fun k_ => some k_ ≠ (.slice Ao61 t149.length co61 : Value).ownBlock ∧ some k_ ≠ (.slice Ao66 t156.length co66 : Value).ownBlock) (Kd.R_keptB (HO146.out) hkp (fun k_ hk_ hs_ => (hk_.2) hs_)) (fun k_ hk_ => ⟨hk_.1.1, hk_.1.2⟩)); replace HO151 := Aside0.mk (Kd.R_mono (ok' := fun k_ => some k_ ≠ (.slice Ao67 t144.length co67 : Value).ownBlock ∧ some k_ ≠ (.slice Ao66 t156.length co66 : Value).ownBlock) (Kd.R_keptB (HO151.out) hkp (fun k_ hk_ hs_ => (hk_.2) hs_)) (fun k_ hk_ => ⟨hk_.1.1, hk_.1.2⟩)); replace BK152 := Aside0.mk (blk_kept (pB BK152) hkp (fun hs_ => (fun e_ => (Kd.R_ne HO158.out BK152.out (by decide)) e_) hs_)); replace HO158 := Aside0.mk (Kd.R_reok rfl hy0 (fun k_ e_ => HO158.out.1 k_ e_)); replace HB := Aside0.mk (hb); (try clear hb); (try clear hkp); (try clear hy0)) | ((with_reducible refine gate_callee (f := 16) rfl ?_); refine cl_ (some 88) Tryz.func16 #[.slice Ao66 t176.length co66, .int .i64 1] (hargs := by (try simp only [List.map_toArray, List.map_cons, List.map_nil]); first | done | (rw [show t176.length = t156.length from (Kd.R_reads' HO158.out).1.symm] <;> rfl) | rfl | (simp only [List.length_drop, List.length_take]; rfl)) ?_; (with_reducible refine (laws_heldInt64S.calls k _ _ t176 1 t177 _ ?side1 ?side2 A34.out).mono ?_); (case side1 => exact pC ((Kd.R_reads' HO158.out).2.2)); (case side2 => rw [show t176.length = t156.length from (Kd.R_reads' HO158.out).1.symm]; exact (Kd.R_reads' HO158.out).2.1); rintro e w' ⟨rfl, ⟨nd, rfl⟩⟩; refine ⟨_, rfl, ?_⟩; have hcz81_0 : w80.cell? ⟨gb134, 0, none⟩ = some (.int .i64 a0_0) := cB BK134 0; have hcz81_1 : w80.cell? ⟨gb134, 1, none⟩ = some (.slice A0_1 l0_1.length c0_1) := cB BK134 1; have hfz81_0 := zB BK134 0; have hfz81_1 := zB BK134 1) | ((with_reducible refine gate_callee (f := 7) rfl ?_); refine cl_ (some 96) Tryz.func7 #[.agg #[.int .i64 a0_0, .slice A0_1 l0_1.length c0_1]] ?_; (with_reducible refine (laws_toComplex.calls k a0_0 _ _ l0_1 t178 t179 _ ?side1 ?side2 A37.out).mono ?_); (case side1 => exact pC ((Kd.C_below HR0_1.out (pH HB)))); (case side2 => exact HC0_1.out); rintro e w82 ⟨v180, rfl, ho0, hb⟩; refine ⟨_, rfl, ?_⟩; have HO181 := Aside0.mk (Kd.R_lower (Kd.R_new' (Kd.R_new' (Kd.R_new' ho0 (Kd.R_lt (pR HO146))) (Kd.R_lt (pR HO151))) (Kd.R_lt (pR HO158))) (below_size (pH HB))); replace HO146 := Aside0.mk (Kd.R_elder' (pR HO146) (Kd.R_base ho0) hb); replace HO151 := Aside0.mk (Kd.R_elder' (pR HO151) (Kd.R_base ho0) hb); replace HO158 := Aside0.mk (Kd.R_elder' (pR HO158) (Kd.R_base ho0) hb); replace BK134 := sB BK134 hb; replace BK152 := sB BK152 hb; replace HB := sH HB hb; (try clear hb); (try clear hi); (try clear ho0)) | ((with_reducible refine gate_callee (f := 8) rfl ?_); refine cl_ (some 98) Tryz.func8 #[.slice A1 l1.length c1] ?_; (with_reducible refine (laws_toPairS.calls k _ _ l1 t182 _ ?side1 ?side2 A38.out).mono ?_); (case side1 => exact pC ((Kd.C_below HR1.out HB.out))); (case side2 => exact HC1.out); rintro e w83 ⟨v183, rfl, ho0, hb⟩; refine ⟨_, rfl, ?_⟩; replace HO146 := sR HO146 hb; replace HO151 := sR HO151 hb; replace HO158 := sR HO158 hb; replace HO181 := sR HO181 hb; have HO184 := Aside0.mk (Kd.R_lower ho0 (below_size (pH HB))); replace BK134 := sB BK134 hb; replace BK152 := sB BK152 hb; replace HB := sH HB hb; (try clear hb); (try clear hi); (try clear ho0); obtain ⟨Ao84, co84, eo84⟩ := Kd.R_slice HO181.out; subst eo84; obtain ⟨Ao85, co85, eo85⟩ := Kd.R_slice HO184.out; subst eo85) | ((with_reducible refine gate_callee (f := 9) rfl ?_); refine cl_ (some 99) Tryz.func9 #[.agg #[.int .i64 t178, .slice Ao84 t179.length co84], .slice Ao85 t182.length co85] ?_; (with_reducible refine (impl_HolesOf.calls t178 _ _ t179 _ _ t182 t185 t188 _ ?side1 ?side2 ?side3 ?side4 A39.out).mono ?_); (case side1 => exact pC ((Kd.R_reads' HO181.out).2.2)); (case side2 => exact (Kd.R_reads' HO181.out).2.1); (case side3 => exact pC ((Kd.R_reads' HO184.out).2.2)); (case side4 => exact (Kd.R_reads' HO184.out).2.1); rintro e w86 ⟨v186, rfl, ho0, hb⟩; refine ⟨_, rfl, ?_⟩; replace HO184 := sR HO184 hb; have HO187 := Aside0.mk (Kd.R_lower (Kd.R_new' (Kd.R_new' (Kd.R_new' (Kd.R_new' ho0 (Kd.R_lt (pR HO146))) (Kd.R_lt (pR HO151))) (Kd.R_lt (pR HO158))) (Kd.R_lt (pR HO181))) (below_size (pH HB))); replace HO146 := Aside0.mk (Kd.R_elder' (pR HO146) (Kd.R_base ho0) hb); replace HO151 := Aside0.mk (Kd.R_elder' (pR HO151) (Kd.R_base ho0) hb); replace HO158 := Aside0.mk (Kd.R_elder' (pR HO158) (Kd.R_base ho0) hb); replace HO181 := Aside0.mk (Kd.R_elder' (pR HO181) (Kd.R_base ho0) hb); replace BK134 := sB BK134 hb; replace BK152 := sB BK152 hb; replace HB := sH HB hb; (try clear hb); (try clear hi); (try clear ho0); have nD_ := Aside0.mk (Kd.R_mono (ok' := fun k_ => some k_ ≠ (.slice Ao61 t149.length co61 : Value).ownBlock ∧ some k_ ≠ (.slice Ao66 t156.length co66 : Value).ownBlock ∧ some k_ ≠ (v186 : Value).ownBlock) HO146.out (fun k_ hk => ⟨hk.1.1.1, ⟨hk.1.1.2, hk.2⟩⟩)); clear HO146; have HO146 := nD_; clear nD_; have nD_ := Aside0.mk (Kd.R_mono (ok' := fun k_ => some k_ ≠ (.slice Ao67 t144.length co67 : Value).ownBlock ∧ some k_ ≠ (.slice Ao66 t156.length co66 : Value).ownBlock ∧ some k_ ≠ (v186 : Value).ownBlock) HO151.out (fun k_ hk => ⟨hk.1.1.1, ⟨hk.1.1.2, hk.2⟩⟩)); clear HO151; have HO151 := nD_; clear nD_; have nD_ := Aside0.mk (Kd.R_mono (ok' := fun k_ => some k_ ≠ (.slice Ao67 t144.length co67 : Value).ownBlock ∧ some k_ ≠ (.slice Ao61 t149.length co61 : Value).ownBlock ∧ some k_ ≠ (v186 : Value).ownBlock) HO158.out (fun k_ hk => ⟨hk.1.1.1, ⟨hk.1.1.2, hk.2⟩⟩)); clear HO158; have HO158 := nD_; clear nD_; have nD_ := Aside0.mk (Kd.R_mono (ok' := fun k_ => some k_ ≠ (.slice Ao67 t144.length co67 : Value).ownBlock ∧ some k_ ≠ (.slice Ao61 t149.length co61 : Value).ownBlock ∧ some k_ ≠ (.slice Ao66 t156.length co66 : Value).ownBlock) HO187.out (fun k_ hk => ⟨hk.1.1.1.2, ⟨hk.1.1.2, hk.1.2⟩⟩)); clear HO187; have HO187 := nD_; clear nD_; clear HO181 HO184; obtain ⟨Ao87, co87, eo87⟩ := Kd.R_slice HO187.out; subst eo87) | ((with_reducible refine gate_callee (f := 10) rfl ?_); refine cl_ (some 104) Tryz.func10 #[.slice Ao87 t185.length co87, .slice Ao67 t144.length co67] ?_; (with_reducible refine (laws_eqInt64S.calls k _ _ t185 _ _ t144 true _ ?side1 ?side2 ?side3 ?side4 A40.out).mono ?_); (case side1 => exact pC ((Kd.R_reads' HO187.out).2.2)); (case side2 => exact (Kd.R_reads' HO187.out).2.1); (case side3 => exact pC ((Kd.R_reads' HO146.out).2.2)); (case side4 => exact (Kd.R_reads' HO146.out).2.1); rintro e w' ⟨rfl, ⟨nd, rfl⟩⟩; refine ⟨_, rfl, ?_⟩) | ((with_reducible refine gate_callee (f := 16) rfl ?_); refine cl_ (some 113) Tryz.func16 #[.slice Ao66 t176.length co66, .int .i64 1] (hargs := by (try simp only [List.map_toArray, List.map_cons, List.map_nil]); first | done | (rw [show t176.length = t156.length from (Kd.R_reads' HO158.out).1.symm] <;> rfl) | rfl | (simp only [List.length_drop, List.length_take]; rfl)) ?_; (with_reducible refine (laws_heldInt64S.calls k _ _ t176 1 t190 _ ?side1 ?side2 A43.out).mono ?_); (case side1 => exact pC ((Kd.R_reads' HO158.out).2.2)); (case side2 => rw [show t176.length = t156.length from (Kd.R_reads' HO158.out).1.symm]; exact (Kd.R_reads' HO158.out).2.1); rintro e w' ⟨rfl, ⟨nd, rfl⟩⟩; refine ⟨_, rfl, ?_⟩))
               go_ret
               exact ⟨by first | rfl | (simp [errW_none, errW_some] <;> rfl) | (simp [*, errW_none, errW_some] <;> rfl) | (exfalso; simp_all), pH HB⟩
              ·rw [if_neg c45] at H
               exact absurd H (by simp)
            ·rw [if_neg c42] at H
             exact absurd H (by simp)
           ·replace c41 := Bool.eq_false_iff.mpr c41
            subst c41
            have H1 : (none) = some r := by rw [if_neg (show ¬ (false = true) by decide)] at H; exact H
            clear H
            have H := H1
            clear H1
            exact absurd H (by simp)
          ·rw [if_neg c36] at H
           exact absurd H (by simp)
        ·replace c32 := Bool.eq_false_iff.mpr c32
         subst c32
         have H1 : (none) = some r := by rw [if_neg (show ¬ (false = true) by decide)] at H; exact H
         clear H
         have H := H1
         clear H1
         exact absurd H (by simp)
      ·replace c27 := Bool.eq_false_iff.mpr c27
       subst c27
       have H1 : (none) = some r := by rw [if_neg (show ¬ (false = true) by decide)] at H; exact H
       clear H
       have H := H1
       clear H1
       exact absurd H (by simp)
     ·replace c24 := Bool.eq_false_iff.mpr c24
      subst c24
      have H1 : (none) = some r := by rw [if_neg (show ¬ (false = true) by decide)] at H; exact H
      clear H
      have H := H1
      clear H1
      exact absurd H (by simp)
    ·rw [if_neg c21] at H
     exact absurd H (by simp)
   ·replace c20 := Bool.eq_false_iff.mpr c20
    subst c20
    have H1 : (none) = some r := by rw [if_neg (show ¬ (false = true) by decide)] at H; exact H
    clear H
    have H := H1
    clear H1
    exact absurd H (by simp)
end Go.Proofs.YtpjcnigohhnhnaaGreat.QFnExactHolesOf
namespace Go.Proofs.YtpjcnigohhnhnaaGreat.Pu
open Go.RowKit Kp Ext QS YtpjcnigohhnhnaaGreatW.PrintWords YtpjcnigohhnhnaaGreatW.PrintLast YtpjcnigohhnhnaaGreatW.PrintMore
theorem eqPair_loop (l : List Pr) (hl : l.length ≤ 1048576) : ∀ d (i : Nat), l.length - i = d → i ≤ l.length → Ev (fun k => laws_eqPairS.l0 k l l i) true := by
  intro d
  induction d with
  | zero =>
    intro i hd hi
    refine Ev.step (f := fun k => some true) (fun k => ?_) (Ev.now _)
    simp only [laws_eqPairS.l0]; rw [if_neg (by omega)]
  | succ d ih =>
    intro i hd hi
    refine Ev.step (fun k => ?_) (ih (i + 1) (by omega) (by omega))
    simp only [laws_eqPairS.l0]
    rw [if_pos (by omega), if_pos (by omega), if_pos (by omega), show wrap64 ((i : Int) + 1) = ((i + 1 : Nat) : Int) by rw [w64 (by omega) (by omega)]; omega]
    simp [laws_eqPair.f]
theorem ev_eqPairs {l : List Pr} (hl : l.length ≤ 1048576) : Ev (fun k => laws_eqPairS.f k l l) true := by
  unfold laws_eqPairS.f
  simp only [if_true]
  exact eqPair_loop l hl _ 0 rfl (Nat.zero_le _)
theorem ev_markPairs {l : List Pr} {a : Int} (hl : l.length ≤ 1048576) (ha : 0 ≤ a ∧ a ≤ 1073741824) : Ev (fun _ => laws_markPairS.f l a) (a + 2 * (l.length : Int), markL l.length a) := by
  unfold laws_markPairS.f
  rw [if_pos ⟨ha.1, ha.2, by omega⟩]
  exact Ev.now _
def toPr (q : S45) : Pr := ⟨q.f0, q.f1⟩
theorem sz_prs {l : List S45} (hm : l.length ≤ maxLen) {b : Int} (h0 : 0 ≤ b) (h1 : b ≤ 1048576) : laws_szPairS.f l b = some (if b < (l.length : Int) then -1 else b - l.length) := by
  unfold laws_szPairS.f
  simp only [maxLen] at hm
  rw [w64 (by omega) (by omega)]
  by_cases h : b < (l.length : Int)
  · rw [if_pos (by omega), if_pos h]
  · rw [if_neg (by omega), if_neg h]
theorem rdA_at {l : List S45} {i : Nat} (h : i < l.length) : rd_T45 l (i : Int) = l[i] := by unfold rd_T45; rw [List.getD_eq_getElem?_getD, Int.toNat_natCast, List.getElem?_eq_getElem h]; rfl
theorem toPair_loop (l : List S45) (hl : l.length ≤ 1048576) : ∀ d (i : Nat) (x3 : List Pr), l.length - i = d → i ≤ l.length → x3.length = l.length → (∀ j, j < i → x3[j]? = (l[j]?).map toPr) → Ev (fun k => laws_toPairS.l0 k l x3 i) (l.map toPr) := by
  intro d
  induction d with
  | zero =>
    intro i x3 hd hi hx hj
    have he : x3 = l.map toPr := by
      apply List.ext_getElem?
      intro j
      rw [List.getElem?_map]
      rcases Nat.lt_or_ge j i with h | h
      · exact hj j h
      · rw [List.getElem?_eq_none (by omega), List.getElem?_eq_none (by omega)]; rfl
    refine Ev.step (f := fun _ => some x3) (fun k => ?_) (by rw [he]; exact Ev.now _)
    simp only [laws_toPairS.l0]; rw [if_neg (by omega)]
  | succ d ih =>
    intro i x3 hd hi hx hj
    have hi' : i < l.length := by omega
    refine Ev.step (f := fun k => laws_toPairS.l0 k l (x3.set i (toPr l[i])) ((i + 1 : Nat) : Int)) (fun k => ?_) (ih (i + 1) (x3.set i (toPr l[i])) (by omega) (by omega) (by simpa using hx) (fun j hji => ?_))
    · simp only [laws_toPairS.l0]
      rw [if_pos (by omega), if_pos (by omega), rdA_at hi', show wrap64 ((i : Int) + 1) = ((i + 1 : Nat) : Int) by rw [w64 (by omega) (by omega)]; omega]
      simp only [laws_toPair.f, Option.bind_some]
      rw [if_pos (by omega), Int.toNat_natCast]
      rfl
    · rw [List.getElem?_set]
      by_cases h : i = j
      · subst h
        rw [if_pos rfl, if_pos (by omega), List.getElem?_eq_getElem hi']; rfl
      · rw [if_neg h]
        exact hj j (by omega)
theorem ev_toPairs {l : List S45} (hl : l.length ≤ 1048576) : Ev (fun k => laws_toPairS.f k l) (l.map toPr) := by
  unfold laws_toPairS.f
  simp only [show (0 : Int) ≤ (l.length : Int) by omega, if_true, show ((l.length : Int)).toNat ≤ 17592186044416 by omega]
  exact toPair_loop l hl _ 0 _ rfl (Nat.zero_le _) (by simp) (fun j hj => absurd hj (Nat.not_lt_zero _))
end Go.Proofs.YtpjcnigohhnhnaaGreat.Pu
namespace Go.Proofs.YtpjcnigohhnhnaaGreat.Pu
open Go.RowKit Kp Ext QS Im QFnExactHolesOf YtpjcnigohhnhnaaGreatW.PrintWords YtpjcnigohhnhnaaGreatW.PrintLast YtpjcnigohhnhnaaGreatW.PrintMore
theorem holes_len (n : Int) (xs : List Int) (l : List Pr) : (holesF n xs l).1.length ≤ 1048576 := by
  unfold holesF
  split
  · have := numC_len xs l
    show (refE _ _ _).length ≤ _
    rw [refE_len]; omega
  · simp
theorem FnExactHolesOf (n0 : Int) (l0 : List Int) (_ : (Lit.int .i64 n0).wf = true) (hm0 : l0.length ≤ maxLen) (_ : ∀ x ∈ l0, (Lit.int .i64 x).wf = true) (l1 : List S45) (hm1 : l1.length ≤ maxLen) (hw1 : ∀ x ∈ l1, (Lit.int .i64 x.f0).wf = true ∧ (Lit.int .i64 x.f1).wf = true) : ∃ k, laws_FnExactHolesOf.f k n0 l0 l1 = some true := by
  apply Ev.rounds
  unfold laws_FnExactHolesOf.f
  by_cases hb0 : (1048576 : Int) < (l0.length : Int)
  · simp only [sz_cx hm0 (show (0 : Int) ≤ (1048576 : Int) by omega) (show (1048576 : Int) ≤ 1048576 by omega), Option.bind_some, if_pos hb0, show ((-1 : Int) < 0) = True by simp, if_true]
    exact Ev.now _
  simp only [sz_cx hm0 (show (0 : Int) ≤ (1048576 : Int) by omega) (show (1048576 : Int) ≤ 1048576 by omega), Option.bind_some, if_neg hb0, if_neg (show ¬ ((1048576 : Int) - (l0.length : Int) < 0) by omega)]
  by_cases hb1 : ((1048576 : Int) - (l0.length : Int)) < (l1.length : Int)
  · simp only [sz_prs hm1 (show (0 : Int) ≤ ((1048576 : Int) - (l0.length : Int)) by omega) (show ((1048576 : Int) - (l0.length : Int)) ≤ 1048576 by omega), Option.bind_some, if_pos hb1, show ((-1 : Int) < 0) = True by simp, if_true]
    exact Ev.now _
  simp only [sz_prs hm1 (show (0 : Int) ≤ ((1048576 : Int) - (l0.length : Int)) by omega) (show ((1048576 : Int) - (l0.length : Int)) ≤ 1048576 by omega), Option.bind_some, if_neg hb1, if_neg (show ¬ (((1048576 : Int) - (l0.length : Int)) - (l1.length : Int) < 0) by omega)]
  have hl0 : l0.length ≤ 1048576 := by omega
  have hl1 : l1.length ≤ 1048576 := by omega
  have hT := ev_toPairs hl1
  have hq1 : (l1.map toPr).length ≤ 1048576 := by simpa using hl1
  generalize l1.map toPr = q1 at hT hq1
  have hR0 := holes_len n0 l0 q1
  have hS : spec_HolesOf.f n0 l0 q1 = some (holesF n0 l0 q1) := by unfold spec_HolesOf.f; rw [if_pos ⟨hl0, hq1⟩]
  have hI : impl_HolesOf.f n0 l0 q1 = some (holesF n0 l0 q1) := by unfold impl_HolesOf.f; rw [if_pos ⟨hl0, hq1⟩]
  obtain ⟨D, hD⟩ : ∃ D, holesF n0 l0 q1 = D := ⟨_, rfl⟩
  rw [hD] at hR0 hS hI
  obtain ⟨r1, r2⟩ := D
  simp only at hR0
  have hca0 : 0 ≤ (1 : Int) ∧ (1 : Int) ≤ 1073741824 := by omega
  have hca1 : 0 ≤ 1 + (l0.length : Int) ∧ 1 + (l0.length : Int) ≤ 1073741824 := by omega
  have hna1 : ¬ (1 + (l0.length : Int) < 0) := by omega
  have hca2 : 0 ≤ 1 + (l0.length : Int) + 2 * (q1.length : Int) ∧ 1 + (l0.length : Int) + 2 * (q1.length : Int) ≤ 1073741824 := by omega
  have hna2 : ¬ (1 + (l0.length : Int) + 2 * (q1.length : Int) < 0) := by omega
  have hco0 : 0 ≤ (1 : Int) ∧ (1 : Int) ≤ 1073741824 := by omega
  have hco1 : 0 ≤ 1 + (r1.length : Int) ∧ 1 + (r1.length : Int) ≤ 1073741824 := by omega
  have hno1 : ¬ (1 + (r1.length : Int) < 0) := by omega
  repeat (first
      | (exact Ev.now _)
      | (refine Ev.bind (ev_toComplex hl0) ?_)
      | (refine Ev.bind hT ?_)
      | (refine Ev.bind (ev_eqInt hR0) ?_)
      | (refine Ev.bind (ev_eqComplex hl0) ?_)
      | (refine Ev.bind (ev_eqPairs hq1) ?_)
      | (refine Ev.bind (ev_markComplex hl0 hca0) ?_)
      | (refine Ev.bind (ev_markPairs hq1 hca1) ?_)
      | (refine Ev.bind (ev_mark hR0 hco0) ?_)
      | (refine Ev.bind (ev_held hR0 hco0) ?_)
      | (simp only [hS, hI, Option.bind_some, if_true, bne_self_eq_false, Bool.false_eq_true, if_false, if_neg hna1, if_neg hna2, if_neg hno1]))
end Go.Proofs.YtpjcnigohhnhnaaGreat.Pu
