/- Words and lemmas for FnPairings, part 6: what the row's text comes to. -/
import Derived.Test.YtpnmifahfpmplaaGreatProg
import Derived.Below
import Derived.Deep.Draws
import Derived.Deep.AppendLies
import Derived.Maps.AppendAt
import Derived.OwnWalk
import Derived.Laws.BytesArg
import Derived.Laws.MakeOwn
import Derived.Laws.OwnMore
import Derived.Deep.OwnRows
import Derived.Tactics
import Derived.Lib.ConvBytes
import Derived.Laws.Slices
import Derived.WalkKit
import Derived.KernelRfl
import Derived.RowKit3
import Derived.Deep.LoopGhost
import Derived.Deep.QuietTactic
import Derived.BigQuiet
import Derived.WideLaws
import Derived.Deep.DeepCutAuto
import Derived.Deep.CutBlock
import Derived.Deep.RegionHeld3
import Derived.Laws.Rows
import Derived.Lib.AppendStr
import Derived.ArgAppend
import Derived.Laws.IdiomCopy
import Derived.OrdersHeld
import Derived.Laws.BitsLemmas
import Derived.RowKit
import Derived.Test.YtpnmifahfpmplaaGreatZFnPairingse
set_option linter.unusedVariables false
set_option linter.unusedSimpArgs false
namespace Go.Proofs.YtpnmifahfpmplaaGreat.QK
open Cw Kp Ext Go.RowKit YtpnmifahfpmplaaGreatW.PrintWords YtpnmifahfpmplaaGreatW.PrintLast YtpnmifahfpmplaaGreatW.PrintMore
attribute [local go_sem] max2_int min2_int max_two min_two max_three min_three max_four min_four   -- for this text's walks alone
def errW : Option Int → Value
 | none => .nilIface
 | some c => .iface 0 (.int .i64 c)
theorem errW_none : errW none = .nilIface := rfl
theorem errW_some (c : Int) : errW (some c) = .iface 0 (.int .i64 c) := rfl
theorem info2 : (Tryz.prog.info? 2).map (fun i => (i.zero, i.size, i.bytes)) = some (some (.int .i64 0), 1, 8) := by kernel_rfl
def impl_Complex_critical_1_1.f (a0_0 : Int) (a0_1 : Int) (a1_0 : Int) : Option (Bool) := if a0_0 = a1_0 then (some true) else (some (a0_1 == a1_0))
set_option maxHeartbeats 8000000 in
set_option maxRecDepth 100000 in
theorem impl_Complex_critical_1_1.calls (a0_0 : Int) (a0_1 : Int) (g1 : Nat) (a1_0 : Int) (r : Bool) (w : World) (hb1 : w.heap[g1]? = some (.cells #[.int .i64 a1_0] 2 (0, 0))) (h : impl_Complex_critical_1_1.f a0_0 a0_1 a1_0 = some r) :
  Calls Tryz.prog 43 #[.agg #[.int .i64 a0_0, .int .i64 a0_1], .pointer (some ⟨g1, 0, none⟩)] w fun e w' => e = .returned (.bool r) ∧ Below w.heap.size w w' := by
 have hu57 := Tryz.underlying57
 have BK101 := Aside0.mk hb1
 clear hb1
 have HB := Aside0.mk (Below.refl w.heap.size w)
 have H : (if a0_0 = a1_0 then (some true) else (some (a0_1 == a1_0))) = some r := h
 clear h
 by_cases c3 : a0_0 = a1_0
 ·rw [if_pos c3] at H
  have c3b0 : (a0_0 == a1_0) = true := beq_iff_eq.mpr c3
  have c3b1 : (a0_0 != a1_0) = false := bne_eq_false_iff_eq.mpr c3
  clear c3
  obtain rfl := Option.some.inj H
  go_enter Tryz.func43, Tryz.ntmps43
  go_wp2_with (first | ((with_reducible refine gate_dst (N := 2) rfl ?_); refine box_event ?hg (N := 2) ?hd (cs := #[.int .i64 a0_0, .int .i64 a0_1]) (t := 57) ?hr ?_; (case hd => rfl); (case hg => rfl); (case hr => first | (go_simp; done) | (go_simp; rfl)); intro gb102 hg w4 hbox hb; have BK102 := Aside0.mk (hbox); have GW102 := gH HB hg; have GE102 := gH HB hg; replace HB := sH HB hb; have NB101_102 := nB BK101 hg; have NB102_101 := oB BK101 hg; replace BK101 := sB BK101 hb; clear hb hbox hg; (try have hnb5 := NB102_101.out); (try have hnc5 := NB101_102.out); have hcz6_0 : w4.cell? ⟨gb102, 0, none⟩ = some (.int .i64 a0_0) := cB BK102 0; have hcz6_1 : w4.cell? ⟨gb102, 1, none⟩ = some (.int .i64 a0_1) := cB BK102 1; have hfz6_0 := zB BK102 0; have hfz6_1 := zB BK102 1; have hcz7_0 : w4.cell? ⟨g1, 0, none⟩ = some (.int .i64 a1_0) := cB BK101 0; have hfz7_0 := zB BK101 0))
  go_ret
  exact ⟨by first | rfl | (simp [errW_none, errW_some] <;> rfl) | (simp [*, errW_none, errW_some] <;> rfl) | (exfalso; simp_all), pH HB⟩
 ·rw [if_neg c3] at H
  have c3b0 : (a0_0 == a1_0) = false := beq_eq_false_iff_ne.mpr c3
  have c3b1 : (a0_0 != a1_0) = true := bne_iff_ne.mpr c3
  obtain rfl := Option.some.inj H
  go_enter Tryz.func43, Tryz.ntmps43
  go_wp2_with (first | ((with_reducible refine gate_dst (N := 2) rfl ?_); refine box_event ?hg (N := 2) ?hd (cs := #[.int .i64 a0_0, .int .i64 a0_1]) (t := 57) ?hr ?_; (case hd => rfl); (case hg => rfl); (case hr => first | (go_simp; done) | (go_simp; rfl)); intro gb102 hg w8 hbox hb; have BK102 := Aside0.mk (hbox); have GW102 := gH HB hg; have GE102 := gH HB hg; replace HB := sH HB hb; have NB101_102 := nB BK101 hg; have NB102_101 := oB BK101 hg; replace BK101 := sB BK101 hb; clear hb hbox hg; (try have hnb9 := NB102_101.out); (try have hnc9 := NB101_102.out); have hcz10_0 : w8.cell? ⟨gb102, 0, none⟩ = some (.int .i64 a0_0) := cB BK102 0; have hcz10_1 : w8.cell? ⟨gb102, 1, none⟩ = some (.int .i64 a0_1) := cB BK102 1; have hfz10_0 := zB BK102 0; have hfz10_1 := zB BK102 1; have hcz11_0 : w8.cell? ⟨g1, 0, none⟩ = some (.int .i64 a1_0) := cB BK101 0; have hfz11_0 := zB BK101 0))
  go_ret
  exact ⟨by first | rfl | (simp [errW_none, errW_some] <;> rfl) | (simp [*, errW_none, errW_some] <;> rfl) | (exfalso; simp_all), pH HB⟩
def clo_43 (a1_0 : Int) : Pred := Pred.ofP (fun x y => impl_Complex_critical_1_1.f x y a1_0)
set_option maxRecDepth 100000 in
theorem clo_ok_43 {W : World} {g1 : Nat} {a1_0 : Int} (hb1 : W.heap[g1]? = some (.cells #[.int .i64 a1_0] 2 (0, 0)))  : FnOk (.func (.func 43) #[] #[.pointer (some ⟨g1, 0, none⟩)]) (clo_43 a1_0) W :=
 FnOk.ofP (enters_of Tryz.func43 (by kernel_rfl) rfl) (fun V x y b hV hr => by
  show Calls Tryz.prog 43 #[.agg #[.int .i64 x, .int .i64 y], .pointer (some ⟨g1, 0, none⟩)] V _
  exact (impl_Complex_critical_1_1.calls x y g1 a1_0 b V ((hV.block g1 (blk_lt hb1)).trans hb1) hr).mono (fun e w' h_ => ⟨h_.1, h_.2⟩))
def impl_Complex_critical_1.f (a0 : Int) (l1_0 : List (S57)) : Option (Bool) := (slices_ContainsFunc_impl_Pair_impl_Pair.f l1_0 (clo_43 a0)).bind fun t105 => (some t105)
set_option maxHeartbeats 8000000 in
set_option maxRecDepth 100000 in
theorem impl_Complex_critical_1.calls (a0 : Int) (g1 : Nat) (A1_0 : Option Addr) (c1_0 : Nat) (l1_0 : List (S57)) (r : Bool) (w : World) (hb1 : w.heap[g1]? = some (.cells #[.slice A1_0 l1_0.length c1_0] 27 (0, 0))) (hr1_0 : Kd.C k57 w A1_0 l1_0.length l1_0) (hc1_0 : l1_0.length ≤ c1_0) (h : impl_Complex_critical_1.f a0 l1_0 = some r) :
  Calls Tryz.prog 41 #[.int .i64 a0, .pointer (some ⟨g1, 0, none⟩)] w fun e w' => e = .returned (.bool r) ∧ Below w.heap.size w w' := by
 have HR1_0 := Aside0.mk hr1_0
 have HC1_0 := Aside0.mk hc1_0
 clear hr1_0 hc1_0
 have BK103 := Aside0.mk hb1
 clear hb1
 have HB := Aside0.mk (Below.refl w.heap.size w)
 have H : ((slices_ContainsFunc_impl_Pair_impl_Pair.f l1_0 (clo_43 a0)).bind fun t105 => (some t105)) = some r := h
 clear h
 replace H := Option.bind_eq_some_iff.mp H
 obtain ⟨t105, A30, H⟩ := H
 try dsimp only at H
 have A3 := Aside0.mk A30
 clear A30
 obtain rfl := Option.some.inj H
 go_enter Tryz.func41, Tryz.ntmps41
 go_wp2_with (first | ((with_reducible refine gate_dst (N := 2) rfl ?_); refine box_event ?hg (N := 2) ?hd (cs := #[.int .i64 a0]) (t := 2) ?hr ?_; (case hd => rfl); (case hg => rfl); (case hr => first | (go_simp; done) | (go_simp; rfl)); intro gb104 hg w4 hbox hb; have BK104 := Aside0.mk (hbox); have GW104 := gH HB hg; have GE104 := gH HB hg; replace HB := sH HB hb; have NB103_104 := nB BK103 hg; have NB104_103 := oB BK103 hg; replace BK103 := sB BK103 hb; clear hb hbox hg; (try have hnb5 := NB103_104.out); (try have hnc5 := NB104_103.out); have hcz6_0 : w4.cell? ⟨g1, 0, none⟩ = some (.slice A1_0 l1_0.length c1_0) := cB BK103 0; have hfz6_0 := zB BK103 0) | ((with_reducible refine gate_callee (f := 42) rfl ?_); refine cl_ (some 6) Tryz.func42 #[.slice A1_0 l1_0.length c1_0, .func (.func 43) #[] #[.pointer (some ⟨gb104, 0, none⟩)]] ?_; (with_reducible refine (slices_ContainsFunc_impl_Pair_impl_Pair.calls _ _ l1_0 _ (clo_43 a0) t105 _ ?side1 ?side2 ?side3 A3.out).mono ?_); (case side1 => exact pC ((Kd.C_below HR1_0.out HB.out))); (case side2 => exact HC1_0.out); (case side3 => exact clo_ok_43 (pB BK104) ); rintro e w7 ⟨rfl, hb⟩; refine ⟨_, rfl, ?_⟩; replace BK103 := sB BK103 hb; replace BK104 := sB BK104 hb; replace HB := sH HB hb; (try clear hb); (try clear hi)))
 go_ret
 exact ⟨by first | rfl | (simp [errW_none, errW_some] <;> rfl) | (simp [*, errW_none, errW_some] <;> rfl) | (exfalso; simp_all), pH HB⟩
def clo_41 (l1_0 : List (S57)) : Pred := Pred.ofI (fun x => impl_Complex_critical_1.f x l1_0)
set_option maxRecDepth 100000 in
theorem clo_ok_41 {W : World} {g1 : Nat} {A1_0 : Option Addr} {c1_0 : Nat} {l1_0 : List (S57)} (hb1 : W.heap[g1]? = some (.cells #[.slice A1_0 l1_0.length c1_0] 27 (0, 0))) (hr1_0 : Kd.C k57 W A1_0 l1_0.length l1_0) (hc1_0 : l1_0.length ≤ c1_0) : FnOk (.func (.func 41) #[] #[.pointer (some ⟨g1, 0, none⟩)]) (clo_41 l1_0) W :=
 FnOk.ofI (enters_of Tryz.func41 (by kernel_rfl) rfl) (fun V x b hV hr => by
  show Calls Tryz.prog 41 #[.int .i64 x, .pointer (some ⟨g1, 0, none⟩)] V _
  exact (impl_Complex_critical_1.calls x g1 A1_0 c1_0 l1_0 b V ((hV.block g1 (blk_lt hb1)).trans hb1) (Kd.C_below hr1_0 hV) hc1_0 hr).mono (fun e w' h_ => ⟨h_.1, h_.2⟩))
def impl_Complex_critical.f (a0_0 : Int) (l0_1 : List Int) (l1 : List (S57)) : Option (List Int) := (slices_Clone_int64_int64.f l0_1).bind fun t108 => ((slices_DeleteFunc_int64_int64.f t108 (clo_41 l1)).bind fun t111 => (some t111))
set_option maxHeartbeats 8000000 in
set_option maxRecDepth 100000 in
theorem impl_Complex_critical.calls (a0_0 : Int) (A0_1 : Option Addr) (c0_1 : Nat) (l0_1 : List Int) (A1 : Option Addr) (c1 : Nat) (l1 : List (S57)) (r : List Int) (w : World) (hr0_1 : Kd.C (Kd.int .i64) w A0_1 l0_1.length l0_1) (hc0_1 : l0_1.length ≤ c0_1) (hr1 : Kd.C k57 w A1 l1.length l1) (hc1 : l1.length ≤ c1) (h : impl_Complex_critical.f a0_0 l0_1 l1 = some r) :
  Calls Tryz.prog 21 #[.agg #[.int .i64 a0_0, .slice A0_1 l0_1.length c0_1], .slice A1 l1.length c1] w fun e w' => ∃ v0_ : Value, e = .returned (v0_) ∧ Kd.R (Kd.int .i64) 2 w' w.heap.size (fun _ => True) v0_ r ∧ Below w.heap.size w w' := by
 have hu26 := Tryz.underlying26
 have HR0_1 := Aside0.mk hr0_1
 have HC0_1 := Aside0.mk hc0_1
 clear hr0_1 hc0_1
 have HR1 := Aside0.mk hr1
 have HC1 := Aside0.mk hc1
 clear hr1 hc1
 have HB := Aside0.mk (Below.refl w.heap.size w)
 have H : ((slices_Clone_int64_int64.f l0_1).bind fun t108 => ((slices_DeleteFunc_int64_int64.f t108 (clo_41 l1)).bind fun t111 => (some t111))) = some r := h
 clear h
 replace H := Option.bind_eq_some_iff.mp H
 obtain ⟨t108, A30, H⟩ := H
 try dsimp only at H
 have A3 := Aside0.mk A30
 clear A30
 replace H := Option.bind_eq_some_iff.mp H
 obtain ⟨t111, A40, H⟩ := H
 try dsimp only at H
 have A4 := Aside0.mk A40
 clear A40
 obtain rfl := Option.some.inj H
 go_enter Tryz.func21, Tryz.ntmps21
 go_wp2_with (first | ((with_reducible refine gate_dst (N := 2) rfl ?_); refine box_event ?hg (N := 2) ?hd (cs := #[.int .i64 a0_0, .slice A0_1 l0_1.length c0_1]) (t := 26) ?hr ?_; (case hd => rfl); (case hg => rfl); (case hr => first | (go_simp; done) | (go_simp; rfl)); intro gb106 hg w5 hbox hb; have BK106 := Aside0.mk (hbox); have GW106 := gH HB hg; have GE106 := gH HB hg; replace HB := sH HB hb; clear hb hbox hg) | ((with_reducible refine gate_dst (N := 3) rfl ?_); refine box_event ?hg (N := 3) ?hd (cs := #[.slice A1 l1.length c1]) (t := 27) ?hr ?_; (case hd => rfl); (case hg => rfl); (case hr => first | (go_simp; done) | (go_simp; rfl)); intro gb107 hg w6 hbox hb; have BK107 := Aside0.mk (hbox); have GW107 := gH HB hg; have GE107 := gH HB hg; replace HB := sH HB hb; have NB106_107 := nB BK106 hg; have NB107_106 := oB BK106 hg; replace BK106 := sB BK106 hb; clear hb hbox hg; (try have hnb7 := NB106_107.out); (try have hnc7 := NB107_106.out); have hcz8_0 : w6.cell? ⟨gb106, 0, none⟩ = some (.int .i64 a0_0) := cB BK106 0; have hcz8_1 : w6.cell? ⟨gb106, 1, none⟩ = some (.slice A0_1 l0_1.length c0_1) := cB BK106 1; have hfz8_0 := zB BK106 0; have hfz8_1 := zB BK106 1) | ((with_reducible refine gate_callee (f := 40) rfl ?_); refine cl_ (some 7) Tryz.func40 #[.slice A0_1 l0_1.length c0_1] ?_; (with_reducible refine (slices_Clone_int64_int64.calls _ _ l0_1 t108 _ ?side1 ?side2 A3.out).mono ?_); (case side1 => exact pC ((Kd.C_below HR0_1.out HB.out))); (case side2 => exact HC0_1.out); rintro e w9 ⟨v109, rfl, ho0, hb⟩; refine ⟨_, rfl, ?_⟩; have HO110 := Aside0.mk (Kd.R_lower ho0 (below_size (pH HB))); replace BK106 := sB BK106 hb; replace BK107 := sB BK107 hb; replace HB := sH HB hb; (try clear hb); (try clear hi); (try clear ho0); obtain ⟨Ao10, co10, eo10⟩ := Kd.R_slice HO110.out; subst eo10) | ((with_reducible refine gate_callee (f := 39) rfl ?_); refine cl_ (some 9) Tryz.func39 #[.slice Ao10 t108.length co10, .func (.func 41) #[] #[.pointer (some ⟨gb107, 0, none⟩)]] ?_; (with_reducible refine (slices_DeleteFunc_int64_int64.calls (fun k_ => some k_ = (.slice Ao10 t108.length co10 : Value).ownBlock) (.slice Ao10 t108.length co10) t108 _ (clo_41 l1) t111 w _ ?side1 ?side2 ?side3 A4.out).mono ?_); (case side1 => repeat (first | (with_reducible first | exact HB.out | apply below_alloc | apply pw_below_drewN | apply below_drew1 | refine below_set ?_ GE106.out | refine below_set ?_ GE107.out) | exact HB.out)); (case side2 => exact Kd.R_tight rfl HO110.out); (case side3 => intro W_ hK_; exact clo_ok_41 (blk_kept (pB BK107) hK_ (fun hs_ => (fun e_ => (Kd.R_ne HO110.out BK107.out (by decide)) e_) hs_)) ((Kd.C_kept_came k57_heap HR1.out (pH HB) (fun k_ hs_ => (fun e_ => Kd.R_base HO110.out k_ e_.symm) hs_)) W_ hK_) (by exact HC1.out)); rintro e w11 ⟨v112, rfl, ho0, hb, hkp⟩; refine ⟨_, rfl, ?_⟩; replace BK106 := Aside0.mk (blk_kept (pB BK106) hkp (fun hs_ => (fun e_ => (Kd.R_ne HO110.out BK106.out (by decide)) e_) hs_)); replace BK107 := Aside0.mk (blk_kept (pB BK107) hkp (fun hs_ => (fun e_ => (Kd.R_ne HO110.out BK107.out (by decide)) e_) hs_)); have HO113 := Aside0.mk (Kd.R_mono (ok' := fun k_ => True) ho0 (fun k_ hk_ => trivial)); replace HB := Aside0.mk (hb); clear HO110; (try clear hb); (try clear hkp); (try clear ho0)))
 go_ret
 exact ⟨_, by first | rfl | (simp [errW_none, errW_some] <;> rfl) | (simp [*, errW_none, errW_some] <;> rfl) | (exfalso; simp_all), by (with_reducible repeat (first | apply Kd.R_alloc | apply Kd.R_drewN | apply Kd.R_drew)); exact HO113.out, pH HB⟩
open Go.Proofs.YtpnmifahfpmplaaGreat.QI (bits_OnesCount64.f)
set_option maxHeartbeats 8000000 in
set_option maxRecDepth 100000 in
theorem bits_OnesCount64.calls (a0 : Int) (r : Int) (w : World) (h : bits_OnesCount64.f a0 = some r) :
  Calls Tryz.prog 87 #[.int .u64 a0] w fun e w' => e = .returned (.int .i64 r) ∧ Drawn0 w w' := by
 have H : (some (Go.bits .and .i64 (wrap64 (IntKind.u64.wrap ((IntKind.u64.wrap ((IntKind.u64.wrap ((Go.bits .and .u64 (IntKind.u64.wrap (((IntKind.u64.wrap ((Go.bits .and .u64 ((IntKind.u64.wrap ((Go.bits .and .u64 (a0 / 2) 6148914691236517205) + (Go.bits .and .u64 a0 6148914691236517205))) / 4) 3689348814741910323) + (Go.bits .and .u64 (IntKind.u64.wrap ((Go.bits .and .u64 (a0 / 2) 6148914691236517205) + (Go.bits .and .u64 a0 6148914691236517205))) 3689348814741910323))) / 16) + (IntKind.u64.wrap ((Go.bits .and .u64 ((IntKind.u64.wrap ((Go.bits .and .u64 (a0 / 2) 6148914691236517205) + (Go.bits .and .u64 a0 6148914691236517205))) / 4) 3689348814741910323) + (Go.bits .and .u64 (IntKind.u64.wrap ((Go.bits .and .u64 (a0 / 2) 6148914691236517205) + (Go.bits .and .u64 a0 6148914691236517205))) 3689348814741910323))))) 1085102592571150095) + ((Go.bits .and .u64 (IntKind.u64.wrap (((IntKind.u64.wrap ((Go.bits .and .u64 ((IntKind.u64.wrap ((Go.bits .and .u64 (a0 / 2) 6148914691236517205) + (Go.bits .and .u64 a0 6148914691236517205))) / 4) 3689348814741910323) + (Go.bits .and .u64 (IntKind.u64.wrap ((Go.bits .and .u64 (a0 / 2) 6148914691236517205) + (Go.bits .and .u64 a0 6148914691236517205))) 3689348814741910323))) / 16) + (IntKind.u64.wrap ((Go.bits .and .u64 ((IntKind.u64.wrap ((Go.bits .and .u64 (a0 / 2) 6148914691236517205) + (Go.bits .and .u64 a0 6148914691236517205))) / 4) 3689348814741910323) + (Go.bits .and .u64 (IntKind.u64.wrap ((Go.bits .and .u64 (a0 / 2) 6148914691236517205) + (Go.bits .and .u64 a0 6148914691236517205))) 3689348814741910323))))) 1085102592571150095) / 256))) + ((IntKind.u64.wrap ((Go.bits .and .u64 (IntKind.u64.wrap (((IntKind.u64.wrap ((Go.bits .and .u64 ((IntKind.u64.wrap ((Go.bits .and .u64 (a0 / 2) 6148914691236517205) + (Go.bits .and .u64 a0 6148914691236517205))) / 4) 3689348814741910323) + (Go.bits .and .u64 (IntKind.u64.wrap ((Go.bits .and .u64 (a0 / 2) 6148914691236517205) + (Go.bits .and .u64 a0 6148914691236517205))) 3689348814741910323))) / 16) + (IntKind.u64.wrap ((Go.bits .and .u64 ((IntKind.u64.wrap ((Go.bits .and .u64 (a0 / 2) 6148914691236517205) + (Go.bits .and .u64 a0 6148914691236517205))) / 4) 3689348814741910323) + (Go.bits .and .u64 (IntKind.u64.wrap ((Go.bits .and .u64 (a0 / 2) 6148914691236517205) + (Go.bits .and .u64 a0 6148914691236517205))) 3689348814741910323))))) 1085102592571150095) + ((Go.bits .and .u64 (IntKind.u64.wrap (((IntKind.u64.wrap ((Go.bits .and .u64 ((IntKind.u64.wrap ((Go.bits .and .u64 (a0 / 2) 6148914691236517205) + (Go.bits .and .u64 a0 6148914691236517205))) / 4) 3689348814741910323) + (Go.bits .and .u64 (IntKind.u64.wrap ((Go.bits .and .u64 (a0 / 2) 6148914691236517205) + (Go.bits .and .u64 a0 6148914691236517205))) 3689348814741910323))) / 16) + (IntKind.u64.wrap ((Go.bits .and .u64 ((IntKind.u64.wrap ((Go.bits .and .u64 (a0 / 2) 6148914691236517205) + (Go.bits .and .u64 a0 6148914691236517205))) / 4) 3689348814741910323) + (Go.bits .and .u64 (IntKind.u64.wrap ((Go.bits .and .u64 (a0 / 2) 6148914691236517205) + (Go.bits .and .u64 a0 6148914691236517205))) 3689348814741910323))))) 1085102592571150095) / 256))) / 65536))) + ((IntKind.u64.wrap ((IntKind.u64.wrap ((Go.bits .and .u64 (IntKind.u64.wrap (((IntKind.u64.wrap ((Go.bits .and .u64 ((IntKind.u64.wrap ((Go.bits .and .u64 (a0 / 2) 6148914691236517205) + (Go.bits .and .u64 a0 6148914691236517205))) / 4) 3689348814741910323) + (Go.bits .and .u64 (IntKind.u64.wrap ((Go.bits .and .u64 (a0 / 2) 6148914691236517205) + (Go.bits .and .u64 a0 6148914691236517205))) 3689348814741910323))) / 16) + (IntKind.u64.wrap ((Go.bits .and .u64 ((IntKind.u64.wrap ((Go.bits .and .u64 (a0 / 2) 6148914691236517205) + (Go.bits .and .u64 a0 6148914691236517205))) / 4) 3689348814741910323) + (Go.bits .and .u64 (IntKind.u64.wrap ((Go.bits .and .u64 (a0 / 2) 6148914691236517205) + (Go.bits .and .u64 a0 6148914691236517205))) 3689348814741910323))))) 1085102592571150095) + ((Go.bits .and .u64 (IntKind.u64.wrap (((IntKind.u64.wrap ((Go.bits .and .u64 ((IntKind.u64.wrap ((Go.bits .and .u64 (a0 / 2) 6148914691236517205) + (Go.bits .and .u64 a0 6148914691236517205))) / 4) 3689348814741910323) + (Go.bits .and .u64 (IntKind.u64.wrap ((Go.bits .and .u64 (a0 / 2) 6148914691236517205) + (Go.bits .and .u64 a0 6148914691236517205))) 3689348814741910323))) / 16) + (IntKind.u64.wrap ((Go.bits .and .u64 ((IntKind.u64.wrap ((Go.bits .and .u64 (a0 / 2) 6148914691236517205) + (Go.bits .and .u64 a0 6148914691236517205))) / 4) 3689348814741910323) + (Go.bits .and .u64 (IntKind.u64.wrap ((Go.bits .and .u64 (a0 / 2) 6148914691236517205) + (Go.bits .and .u64 a0 6148914691236517205))) 3689348814741910323))))) 1085102592571150095) / 256))) + ((IntKind.u64.wrap ((Go.bits .and .u64 (IntKind.u64.wrap (((IntKind.u64.wrap ((Go.bits .and .u64 ((IntKind.u64.wrap ((Go.bits .and .u64 (a0 / 2) 6148914691236517205) + (Go.bits .and .u64 a0 6148914691236517205))) / 4) 3689348814741910323) + (Go.bits .and .u64 (IntKind.u64.wrap ((Go.bits .and .u64 (a0 / 2) 6148914691236517205) + (Go.bits .and .u64 a0 6148914691236517205))) 3689348814741910323))) / 16) + (IntKind.u64.wrap ((Go.bits .and .u64 ((IntKind.u64.wrap ((Go.bits .and .u64 (a0 / 2) 6148914691236517205) + (Go.bits .and .u64 a0 6148914691236517205))) / 4) 3689348814741910323) + (Go.bits .and .u64 (IntKind.u64.wrap ((Go.bits .and .u64 (a0 / 2) 6148914691236517205) + (Go.bits .and .u64 a0 6148914691236517205))) 3689348814741910323))))) 1085102592571150095) + ((Go.bits .and .u64 (IntKind.u64.wrap (((IntKind.u64.wrap ((Go.bits .and .u64 ((IntKind.u64.wrap ((Go.bits .and .u64 (a0 / 2) 6148914691236517205) + (Go.bits .and .u64 a0 6148914691236517205))) / 4) 3689348814741910323) + (Go.bits .and .u64 (IntKind.u64.wrap ((Go.bits .and .u64 (a0 / 2) 6148914691236517205) + (Go.bits .and .u64 a0 6148914691236517205))) 3689348814741910323))) / 16) + (IntKind.u64.wrap ((Go.bits .and .u64 ((IntKind.u64.wrap ((Go.bits .and .u64 (a0 / 2) 6148914691236517205) + (Go.bits .and .u64 a0 6148914691236517205))) / 4) 3689348814741910323) + (Go.bits .and .u64 (IntKind.u64.wrap ((Go.bits .and .u64 (a0 / 2) 6148914691236517205) + (Go.bits .and .u64 a0 6148914691236517205))) 3689348814741910323))))) 1085102592571150095) / 256))) / 65536))) / 4294967296)))) 127)) = some r := h
 clear h
 obtain rfl := Option.some.inj H
 go_enter Tryz.func87, Tryz.ntmps87
 go_wp2
 go_ret
 exact ⟨by first | rfl | (simp; done) | (simp [*]; done), by repeat (first | exact Drawn0.refl _ | apply Drawn0.step)⟩
def impl_size.f (a0 : Int) : Option (Int) := (bits_OnesCount64.f (IntKind.u64.wrap (a0))).bind fun t114 => (some t114)
set_option maxHeartbeats 8000000 in
set_option maxRecDepth 100000 in
theorem impl_size.calls (a0 : Int) (r : Int) (w : World) (h : impl_size.f a0 = some r) :
  Calls Tryz.prog 67 #[.int .i64 a0] w fun e w' => e = .returned (.int .i64 r) ∧ Drawn0 w w' := by
 have H : ((bits_OnesCount64.f (IntKind.u64.wrap (a0))).bind fun t114 => (some t114)) = some r := h
 clear h
 replace H := Option.bind_eq_some_iff.mp H
 obtain ⟨t114, A20, H⟩ := H
 try dsimp only at H
 have A2 := Aside0.mk A20
 clear A20
 obtain rfl := Option.some.inj H
 go_enter Tryz.func67, Tryz.ntmps67
 go_wp2_with (first | ((with_reducible refine gate_callee (f := 87) rfl ?_); refine cl_ (some 5) Tryz.func87 #[.int .u64 (IntKind.u64.wrap (a0))] ?_; (with_reducible refine (bits_OnesCount64.calls (IntKind.u64.wrap (a0)) t114 _ A2.out).mono ?_); rintro e w' ⟨rfl, ⟨nd, rfl⟩⟩; refine ⟨_, rfl, ?_⟩))
 go_ret
 exact ⟨by first | rfl | (simp; done) | (simp [*]; done), by repeat (first | exact Drawn0.refl _ | apply Drawn0.step)⟩
def impl_dimension.f (a0 : Int) : Option (Int) := (impl_size.f a0).bind fun t115 => (some (wrap64 (t115 - 1)))
set_option maxHeartbeats 8000000 in
set_option maxRecDepth 100000 in
theorem impl_dimension.calls (a0 : Int) (r : Int) (w : World) (h : impl_dimension.f a0 = some r) :
  Calls Tryz.prog 46 #[.int .i64 a0] w fun e w' => e = .returned (.int .i64 r) ∧ Drawn0 w w' := by
 have H : ((impl_size.f a0).bind fun t115 => (some (wrap64 (t115 - 1)))) = some r := h
 clear h
 replace H := Option.bind_eq_some_iff.mp H
 obtain ⟨t115, A20, H⟩ := H
 try dsimp only at H
 have A2 := Aside0.mk A20
 clear A20
 obtain rfl := Option.some.inj H
 go_enter Tryz.func46, Tryz.ntmps46
 go_wp2_with (first | ((with_reducible refine gate_callee (f := 67) rfl ?_); refine cl_ (some 4) Tryz.func67 #[.int .i64 a0] ?_; (with_reducible refine (impl_size.calls a0 t115 _ A2.out).mono ?_); rintro e w' ⟨rfl, ⟨nd, rfl⟩⟩; refine ⟨_, rfl, ?_⟩))
 go_ret
 exact ⟨by first | rfl | (simp; done) | (simp [*]; done), by repeat (first | exact Drawn0.refl _ | apply Drawn0.step)⟩
def impl_Complex_count.l0 : Nat → List Int → List Int → Int → Int → Option (List Int)
 | 0, _, _, _, _ => none
 | k + 1, x5, x12, x13, x14 => if x14 < x13 then (if 0 ≤ x14 then (if x14 < (x12.length : Int) then ((impl_dimension.f (rd x12 x14)).bind fun t122 => (if 0 ≤ t122 then (if t122 < (x5.length : Int) then (impl_Complex_count.l0 k (x5.set (t122 : Int).toNat (wrap64 ((rd x5 t122) + 1))) x12 x13 (wrap64 (x14 + 1))) else (none)) else (none))) else (none)) else (none)) else (some x5)
def impl_Complex_count.f (k : Nat) (a0_0 : Int) (l0_1 : List Int) (l1 : List Int) : Option (List Int) := (impl_Complex_dimension.f a0_0 l0_1).bind fun t117 => (if 0 ≤ (wrap64 (t117 + 1)) then (if (wrap64 (t117 + 1) : Int).toNat ≤ 35184372088832 then (impl_Complex_count.l0 k (List.replicate (wrap64 (t117 + 1) : Int).toNat 0) l1 (l1.length : Int) 0) else (none)) else (none))
set_option maxHeartbeats 8000000 in
set_option maxRecDepth 100000 in
theorem impl_Complex_count.calls (k : Nat) (a0_0 : Int) (A0_1 : Option Addr) (c0_1 : Nat) (l0_1 : List Int) (A1 : Option Addr) (c1 : Nat) (l1 : List Int) (r : List Int) (w : World) (hr0_1 : Kd.C (Kd.int .i64) w A0_1 l0_1.length l0_1) (hc0_1 : l0_1.length ≤ c0_1) (hr1 : Kd.C (Kd.int .i64) w A1 l1.length l1) (hc1 : l1.length ≤ c1) (h : impl_Complex_count.f k a0_0 l0_1 l1 = some r) :
  Calls Tryz.prog 24 #[.agg #[.int .i64 a0_0, .slice A0_1 l0_1.length c0_1], .slice A1 l1.length c1] w fun e w' => ∃ v0_ : Value, e = .returned (v0_) ∧ Kd.R (Kd.int .i64) 2 w' w.heap.size (fun _ => True) v0_ r ∧ Below w.heap.size w w' := by
 have hu26 := Tryz.underlying26
 have HR0_1 := Aside0.mk hr0_1
 have HC0_1 := Aside0.mk hc0_1
 clear hr0_1 hc0_1
 have HR1 := Aside0.mk hr1
 have HC1 := Aside0.mk hc1
 clear hr1 hc1
 have HB := Aside0.mk (Below.refl w.heap.size w)
 have H : ((impl_Complex_dimension.f a0_0 l0_1).bind fun t117 => (if 0 ≤ (wrap64 (t117 + 1)) then (if (wrap64 (t117 + 1) : Int).toNat ≤ 35184372088832 then (impl_Complex_count.l0 k (List.replicate (wrap64 (t117 + 1) : Int).toNat 0) l1 (l1.length : Int) 0) else (none)) else (none))) = some r := h
 clear h
 replace H := Option.bind_eq_some_iff.mp H
 obtain ⟨t117, A30, H⟩ := H
 try dsimp only at H
 have A3 := Aside0.mk A30
 clear A30
 obtain ⟨ji4, hji4⟩ : ∃ j_ : Int, (wrap64 (t117 + 1)) = j_ := ⟨_, rfl⟩
 replace H : (if 0 ≤ (ji4) then (if (ji4 : Int).toNat ≤ 35184372088832 then (impl_Complex_count.l0 k (List.replicate (ji4 : Int).toNat 0) l1 (l1.length : Int) 0) else (none)) else (none)) = some r := by first | (rw [hji4] at H; exact H) | (simp only [hji4] at H ⊢; exact H)
 (try rw [hji4] at A3)
 have hji4w : (IntKind.i64.wrap (t117 + 1)) = ji4 := (i64_w _).trans hji4
 by_cases c5 : 0 ≤ (ji4)
 ·rw [if_pos c5] at H
  have c5b0 := eq_true c5
  have c5b1 : decide (0 ≤ (ji4)) = true := decide_eq_true c5
  clear c5
  by_cases c6 : (ji4 : Int).toNat ≤ 35184372088832
  ·rw [if_pos c6] at H
   have c6b0 := eq_true c6
   have c6b1 : decide ((ji4 : Int).toNat ≤ 35184372088832) = true := decide_eq_true c6
   clear c6
   obtain ⟨y118, hy118⟩ : ∃ y_ : List Int, y_ = (List.replicate (ji4 : Int).toNat 0) := ⟨_, rfl⟩
   replace H : (impl_Complex_count.l0 k y118 l1 (l1.length : Int) 0) = some r := by first | (rw [hy118]; with_reducible exact H) | (have H2_ := (Option.bind_some _ _).symm.trans H; rw [hy118]; with_reducible exact H2_) | (have H2_ := (Option.bind_some _ _).symm.trans H; with_reducible exact H2_) | with_reducible exact H | (rw [hy118]; exact H) | exact H
   have Ny118 := Aside0.mk hy118
   clear hy118
   have H' := Aside0.mk H
   clear H
   go_enter Tryz.func24, Tryz.ntmps24
   go_wp2_with (first | ((with_reducible refine gate_dst (N := 2) rfl ?_); refine box_event ?hg (N := 2) ?hd (cs := #[.int .i64 a0_0, .slice A0_1 l0_1.length c0_1]) (t := 26) ?hr ?_; (case hd => rfl); (case hg => rfl); (case hr => first | (go_simp; done) | (go_simp; rfl)); intro gb116 hg w7 hbox hb; have BK116 := Aside0.mk (hbox); have GW116 := gH HB hg; have GE116 := gH HB hg; replace HB := sH HB hb; clear hb hbox hg; have hcz8_0 : w7.cell? ⟨gb116, 0, none⟩ = some (.int .i64 a0_0) := cB BK116 0; have hcz8_1 : w7.cell? ⟨gb116, 1, none⟩ = some (.slice A0_1 l0_1.length c0_1) := cB BK116 1; have hfz8_0 := zB BK116 0; have hfz8_1 := zB BK116 1) | ((with_reducible refine gate_callee (f := 45) rfl ?_); refine cl_ (some 9) Tryz.func45 #[.agg #[.int .i64 a0_0, .slice A0_1 l0_1.length c0_1]] ?_; (with_reducible refine (impl_Complex_dimension.calls a0_0 _ _ l0_1 t117 _ ?side1 ?side2 A3.out).mono ?_); (case side1 => exact pC ((Kd.C_below HR0_1.out HB.out))); (case side2 => exact HC0_1.out); rintro e w9 ⟨rfl, hb⟩; refine ⟨_, rfl, ?_⟩; replace BK116 := sB BK116 hb; replace HB := sH HB hb; (try clear hb); (try clear hi)) | ((with_reducible refine gate_dst (N := 11) rfl ?_); refine Kd.R_make (Kd.int .i64) _ 2 rfl (N := 11) rfl 24 _ _ rfl ji4 rfl rfl Tryz.underlying24 (.int .i64 0) 8 info2 rfl (by decide) (by omega) 0 (ok := fun _ => True) (okp := fun _ => True) rfl (fun _ hk => hk) trivial (of_decide_eq_true (by first | (with_reducible assumption) | assumption)) (Nat.le_trans (Nat.mul_le_mul_right _ (of_decide_eq_true (by first | (with_reducible assumption) | assumption) : ji4.toNat ≤ 35184372088832)) (by omega)) (Below.refl _ _) (Nat.le_refl _) ?_; intro v119 w10 ho11 hb hg_ hnew_; clear hg_ hnew_; (first | rw [← Ny118.out] at ho11 | (simp only [Int.reduceToNat] at ho11; rw [← Ny118.out] at ho11)); have HO120 := Aside0.mk (Kd.R_lower ho11 (below_size (pH HB))); replace BK116 := sB BK116 hb; replace HB := sH HB hb; clear hb ho11))
   go_loopg [14] k (fun kq v14 w' => ∃ (x5_1 : List Int) (x14_1 : Int), v14 = .int .i64 x14_1 ∧ Aside0 (impl_Complex_count.l0 kq x5_1 l1 (l1.length : Int) x14_1 = some r) ∧ Aside0 (kq ≤ k) ∧ Aside0 (Kd.R (Kd.int .i64) 2 w' w.heap.size (fun _ => True) v119 x5_1) ∧ Aside0 (w'.heap[gb116]? = some (.cells #[.int .i64 a0_0, (.slice A0_1 l0_1.length c0_1)] 26 (0, 0))) ∧ Aside0 (Below w.heap.size w w'))
   case atStart => exact ⟨(y118), (0), (by first | rfl | (simp; done) | (simp [*]; done)), H', ⟨Nat.le_refl _⟩, ⟨by (with_reducible repeat (first | apply Kd.R_alloc | apply Kd.R_drewN | apply Kd.R_drew)); exact HO120.out⟩, ⟨pB BK116⟩, ⟨pH HB⟩⟩
   case round =>
    clear H'
    try clear c1
    try clear c2
    try clear p2
    try clear c4
    try clear c5
    try clear c5b0
    try clear c5b1
    try clear c6
    try clear c6b0
    try clear c6b1
    try clear p6
    try clear hcz8_0
    try clear hcz8_1
    try clear hfz8_0
    try clear hfz8_1
    obtain ⟨x5_1, x14_1, rfl, HA, HK1, HO_5, BK116, HB⟩ := hrel
    cases gk with
    | zero => exact absurd HA.out (by simp [impl_Complex_count.l0])
    | succ k1 =>
     have H := HA.out
     clear HA
     simp only [impl_Complex_count.l0] at H
     by_cases c12 : x14_1 < (l1.length : Int)
     ·rw [if_pos c12] at H
      have c12b0 : decide (x14_1 < (l1.length : Int)) = true := decide_eq_true c12
      clear c12
      by_cases c13 : 0 ≤ x14_1
      ·rw [if_pos c13] at H
       have c13b0 : decide (0 ≤ x14_1) = true := decide_eq_true c13
       clear c13
       by_cases c14 : x14_1 < (l1.length : Int)
       ·rw [if_pos c14] at H
        have c14b0 : decide (x14_1 < (l1.length : Int)) = true := decide_eq_true c14
        clear c14
        replace H := Option.bind_eq_some_iff.mp H
        obtain ⟨t122, A150, H⟩ := H
        try dsimp only at H
        have A15 := Aside0.mk A150
        clear A150
        by_cases c16 : 0 ≤ t122
        ·rw [if_pos c16] at H
         have c16b0 : decide (0 ≤ t122) = true := decide_eq_true c16
         clear c16
         by_cases c17 : t122 < (x5_1.length : Int)
         ·rw [if_pos c17] at H
          have c17b0 : decide (t122 < (x5_1.length : Int)) = true := decide_eq_true c17
          clear c17
          obtain ⟨y124, hy124⟩ : ∃ y_ : List Int, y_ = (x5_1.set (t122 : Int).toNat (wrap64 ((rd x5_1 t122) + 1))) := ⟨_, rfl⟩
          replace H : (impl_Complex_count.l0 k1 y124 l1 (l1.length : Int) (wrap64 (x14_1 + 1))) = some r := by first | (rw [hy124]; with_reducible exact H) | (have H2_ := (Option.bind_some _ _).symm.trans H; rw [hy124]; with_reducible exact H2_) | (have H2_ := (Option.bind_some _ _).symm.trans H; with_reducible exact H2_) | with_reducible exact H | (rw [hy124]; exact H) | exact H
          have Ny124 := Aside0.mk hy124
          clear hy124
          have H' := Aside0.mk H
          clear H
          have p121 : 0 ≤ (x14_1 : Int) := of_decide_eq_true (by first | (with_reducible assumption) | assumption)
          have q121 : x14_1 < (l1.length : Int) := of_decide_eq_true (by first | (with_reducible assumption) | assumption)
          obtain ⟨ad121, e121, hx121_0⟩ := Kd.at_int HR1.out x14_1 p121 q121
          cases e121
          replace hx121_0 := cH HB hx121_0
          replace p121 := eq_true p121
          replace q121 := eq_true q121
          go_wp2_with (first | ((with_reducible refine gate_callee (f := 46) rfl ?_); refine cl_ (some 20) Tryz.func46 #[.int .i64 (rd l1 x14_1)] ?_; (with_reducible refine (impl_dimension.calls (rd l1 x14_1) t122 _ A15.out).mono ?_); rintro e w' ⟨rfl, ⟨nd, rfl⟩⟩; refine ⟨_, rfl, ?_⟩; (try (rw [drewN_self wr]; generalize hq_ : World.drewN wr _ = wr; have n0_ : Aside0 (Kd.R (Kd.int .i64) 2 wr w.heap.size (fun _ => True) v119 x5_1) := ⟨by rw [← hq_]; exact (pR HO_5)⟩; have n1_ : Aside0 (wr.heap[gb116]? = some (.cells #[.int .i64 a0_0, .slice A0_1 l0_1.length c0_1] 26 (0, 0))) := ⟨by rw [← hq_]; exact (pB BK116)⟩; have n2_ : Aside0 (Below w.heap.size w wr) := ⟨by rw [← hq_]; exact (pH HB)⟩; clear HO_5 BK116 HB hq_; have HO_5 := n0_; have BK116 := n1_; have HB := n2_; clear n0_ n1_ n2_)); (try (have hcz19_0 : wr.cell? ⟨gb116, 0, none⟩ = some (.int .i64 a0_0) := cB BK116 0; have hcz19_1 : wr.cell? ⟨gb116, 1, none⟩ = some (.slice A0_1 l0_1.length c0_1) := cB BK116 1; have hfz19_0 := zB BK116 0; have hfz19_1 := zB BK116 1)); obtain ⟨Ao20, co20, eo20⟩ := Kd.R_slice HO_5.out; subst eo20; have p123 : 0 ≤ (t122 : Int) := of_decide_eq_true (by first | (with_reducible assumption) | assumption); have q123 : t122 < (x5_1.length : Int) := of_decide_eq_true (by first | (with_reducible assumption) | assumption); obtain ⟨ad123, e123, hx123_0⟩ := Kd.at_int (Kd.R_reads' HO_5.out).2.2 t122 p123 q123; cases e123; replace p123 := eq_true p123; replace q123 := eq_true q123; have p18 : 0 ≤ (t122 : Int) := of_decide_eq_true (by first | (with_reducible assumption) | assumption); have q18 : (t122 : Int) < ((x5_1.length : Int) : Int) := of_decide_eq_true (by first | (with_reducible assumption) | assumption); obtain ⟨go18, co18, eo18, gb18, gl18, cl18, HG18⟩ := Kd.R_form HO_5.out (by omega); (first | cases eo18 | (injection eo18 with ea_ en_ ec_; (first | subst ea_ | (injection ea_ with ea_; subst ea_)); subst ec_; clear en_)); have GB18 := Aside0.mk gb18; have GG18 := Aside0.mk HG18; clear gb18 gl18 HG18; (first | simp only [add_plain] at hx123_0 | skip); obtain ⟨hx18_0, hf18_0⟩ := Kd.R_celln 0 HO_5.out (t122 : Int) p18 q18; replace p18 := eq_true p18; replace q18 := eq_true q18; obtain ⟨hy21_, hz21_⟩ := Kd.R_celln 0 HO_5.out (t122 : Int) (of_decide_eq_true (by first | (with_reducible assumption) | assumption)) (of_decide_eq_true (by first | (with_reducible assumption) | assumption)); have HP21 := Kd.R_putg HO_5.out (t122 : Int) (wrap64 ((rd x5_1 t122) + 1))) | ((with_reducible refine gate_store (t := 2) (p := 24) rfl ?_); refine store_event (t := 2) (p := 24) (v := ?vo_w22) (w1 := (wr.setCell ⟨go18, (t122 : Int).toNat, none⟩ (.int .i64 (wrap64 ((rd x5_1 t122) + 1))))) ?hg ?ho ?hn ?hr ?_; (case ho => rfl); (case hg => rfl); (case hn => rfl); (case hr => first | (go_simp; done) | (go_simp; rfl)); intro w22 hw; have hg : wr.grownBy w22 (some go18) := (by rw [hw]; exact HP21.2); have hp_ : Kd.R (Kd.int .i64) 2 w22 w.heap.size (fun _ => True) (.slice (some ⟨go18, 0, none⟩) x5_1.length co20) y124 := (by rw [hw, Ny124.out]; exact HP21.1); clear HP21; have n0_ := Aside0.mk (hp_); have n1_ := Aside0.mk (blk_grown (g := gb116) (o := .cells #[.int .i64 a0_0, .slice A0_1 l0_1.length c0_1] 26 (0, 0)) (pB BK116) hg (Kd.R_ne HO_5.out BK116.out (by decide))); have n2_ := Aside0.mk ((by rw [hw]; exact below_set (HB.out) GB18.out : Below w.heap.size w w22)); clear HO_5; clear BK116; clear HB; have HO_5 := n0_; have BK116 := n1_; have HB := n2_; clear n0_ n1_ n2_; clear hg hw hp_))
          go_roundg k1
          case measure => have := HK1.out; omega
          case rel => exact ⟨(y124), (wrap64 (x14_1 + 1)), (by first | rfl | (simp; done) | (simp [*]; done)), H', ⟨by have := HK1.out; omega⟩, ⟨by (with_reducible repeat (first | apply Kd.R_alloc | apply Kd.R_drewN | apply Kd.R_drew)); exact HO_5.out⟩, ⟨pB BK116⟩, ⟨pH HB⟩⟩
         ·rw [if_neg c17] at H
          exact absurd H (by simp)
        ·rw [if_neg c16] at H
         exact absurd H (by simp)
       ·rw [if_neg c14] at H
        exact absurd H (by simp)
      ·rw [if_neg c13] at H
       exact absurd H (by simp)
     ·rw [if_neg c12] at H
      have c12b0 : decide (x14_1 < (l1.length : Int)) = false := decide_eq_false c12
      clear c12
      obtain rfl := Option.some.inj H
      go_wp2
      go_ret
      exact ⟨_, by first | rfl | (simp [errW_none, errW_some] <;> rfl) | (simp only [← hji4]; first | rfl | (simp [errW_none, errW_some] <;> rfl)) | (simp [*, errW_none, errW_some] <;> rfl) | (exfalso; simp_all), by (with_reducible repeat (first | apply Kd.R_alloc | apply Kd.R_drewN | apply Kd.R_drew)); exact HO_5.out, pH HB⟩
  ·rw [if_neg c6] at H
   exact absurd H (by simp)
 ·rw [if_neg c5] at H
  exact absurd H (by simp)
def impl_pairingCode_1.f (a0_0 : Bool) (a1_0 : Int) (l1_1 : List Int) (l2_0 : List (S57)) : Option (Bool) := if a0_0 = true then ((impl_Complex_isPairing.f a1_0 l1_1 l2_0).bind fun t128 => (some t128)) else (some false)
set_option maxHeartbeats 8000000 in
set_option maxRecDepth 100000 in
theorem impl_pairingCode_1.calls (g0 : Nat) (a0_0 : Bool) (g1 : Nat) (a1_0 : Int) (A1_1 : Option Addr) (c1_1 : Nat) (l1_1 : List Int) (g2 : Nat) (A2_0 : Option Addr) (c2_0 : Nat) (l2_0 : List (S57)) (r : Bool) (w : World) (hb0 : w.heap[g0]? = some (.cells #[.bool a0_0] 4 (0, 0))) (hb1 : w.heap[g1]? = some (.cells #[.int .i64 a1_0, .slice A1_1 l1_1.length c1_1] 26 (0, 0))) (hr1_1 : Kd.C (Kd.int .i64) w A1_1 l1_1.length l1_1) (hc1_1 : l1_1.length ≤ c1_1) (hb2 : w.heap[g2]? = some (.cells #[.slice A2_0 l2_0.length c2_0] 27 (0, 0))) (hr2_0 : Kd.C k57 w A2_0 l2_0.length l2_0) (hc2_0 : l2_0.length ≤ c2_0) (h : impl_pairingCode_1.f a0_0 a1_0 l1_1 l2_0 = some r) :
  Calls Tryz.prog 38 #[.pointer (some ⟨g0, 0, none⟩), .pointer (some ⟨g1, 0, none⟩), .pointer (some ⟨g2, 0, none⟩)] w fun e w' => e = .returned (.bool r) ∧ Below w.heap.size w w' := by
 have hu26 := Tryz.underlying26
 have HR1_1 := Aside0.mk hr1_1
 have HC1_1 := Aside0.mk hc1_1
 clear hr1_1 hc1_1
 have HR2_0 := Aside0.mk hr2_0
 have HC2_0 := Aside0.mk hc2_0
 clear hr2_0 hc2_0
 have BK125 := Aside0.mk hb0
 clear hb0
 have BK126 := Aside0.mk hb1
 clear hb1
 have BK127 := Aside0.mk hb2
 clear hb2
 have HB := Aside0.mk (Below.refl w.heap.size w)
 have H : (if a0_0 = true then ((impl_Complex_isPairing.f a1_0 l1_1 l2_0).bind fun t128 => (some t128)) else (some false)) = some r := h
 clear h
 by_cases c4 : a0_0 = true
 ·subst c4
  have H1 : ((impl_Complex_isPairing.f a1_0 l1_1 l2_0).bind fun t128 => (some t128)) = some r := by rw [if_pos rfl] at H; exact H
  clear H
  have H := H1
  clear H1
  replace H := Option.bind_eq_some_iff.mp H
  obtain ⟨t128, A50, H⟩ := H
  try dsimp only at H
  have A5 := Aside0.mk A50
  clear A50
  obtain rfl := Option.some.inj H
  (try have hnb6 := NB125_126.out)
  (try have hnc6 := NB126_125.out)
  (try have hnb7 := NB125_127.out)
  (try have hnc7 := NB127_125.out)
  have hcz8_0 : w.cell? ⟨g0, 0, none⟩ = some (.bool true) := cB BK125 0
  have hfz8_0 := zB BK125 0
  (try have hnb9 := NB126_127.out)
  (try have hnc9 := NB127_126.out)
  have hcz10_0 : w.cell? ⟨g1, 0, none⟩ = some (.int .i64 a1_0) := cB BK126 0
  have hcz10_1 : w.cell? ⟨g1, 1, none⟩ = some (.slice A1_1 l1_1.length c1_1) := cB BK126 1
  have hfz10_0 := zB BK126 0
  have hfz10_1 := zB BK126 1
  have hcz11_0 : w.cell? ⟨g2, 0, none⟩ = some (.slice A2_0 l2_0.length c2_0) := cB BK127 0
  have hfz11_0 := zB BK127 0
  go_enter Tryz.func38, Tryz.ntmps38
  go_wp2_with (first | (go_at_call 28; (with_reducible refine (impl_Complex_isPairing.calls a1_0 _ _ l1_1 _ _ l2_0 t128 _ ?side1 ?side2 ?side3 ?side4 A5.out).mono ?_); (case side1 => exact pC (HR1_1.out)); (case side2 => exact HC1_1.out); (case side3 => exact pC (HR2_0.out)); (case side4 => exact HC2_0.out); rintro e w12 ⟨rfl, hb⟩; replace BK125 := sB BK125 hb; replace BK126 := sB BK126 hb; replace BK127 := sB BK127 hb; replace HB := sH HB hb; (try clear hb); (try clear hi)))
  go_ret
  exact ⟨by first | rfl | (simp [errW_none, errW_some] <;> rfl) | (simp [*, errW_none, errW_some] <;> rfl) | (exfalso; simp_all), pH HB⟩
 ·replace c4 := Bool.eq_false_iff.mpr c4
  subst c4
  have H1 : (some false) = some r := by rw [if_neg (show ¬ (false = true) by decide)] at H; exact H
  clear H
  have H := H1
  clear H1
  obtain rfl := Option.some.inj H
  (try have hnb13 := NB125_126.out)
  (try have hnc13 := NB126_125.out)
  (try have hnb14 := NB125_127.out)
  (try have hnc14 := NB127_125.out)
  have hcz15_0 : w.cell? ⟨g0, 0, none⟩ = some (.bool false) := cB BK125 0
  have hfz15_0 := zB BK125 0
  go_enter Tryz.func38, Tryz.ntmps38
  go_wp2
  go_ret
  exact ⟨by first | rfl | (simp [errW_none, errW_some] <;> rfl) | (simp [*, errW_none, errW_some] <;> rfl) | (exfalso; simp_all), pH HB⟩
def clo_38 (a0_0 : Bool) (a1_0 : Int) (l1_1 : List Int) (l2_0 : List (S57)) : Pred := Pred.ofU (impl_pairingCode_1.f a0_0 a1_0 l1_1 l2_0)
set_option maxRecDepth 100000 in
theorem clo_ok_38 {W : World} {g0 : Nat} {a0_0 : Bool} {g1 : Nat} {a1_0 : Int} {A1_1 : Option Addr} {c1_1 : Nat} {l1_1 : List Int} {g2 : Nat} {A2_0 : Option Addr} {c2_0 : Nat} {l2_0 : List (S57)} (hb0 : W.heap[g0]? = some (.cells #[.bool a0_0] 4 (0, 0))) (hb1 : W.heap[g1]? = some (.cells #[.int .i64 a1_0, .slice A1_1 l1_1.length c1_1] 26 (0, 0))) (hb2 : W.heap[g2]? = some (.cells #[.slice A2_0 l2_0.length c2_0] 27 (0, 0))) (hr1_1 : Kd.C (Kd.int .i64) W A1_1 l1_1.length l1_1) (hc1_1 : l1_1.length ≤ c1_1) (hr2_0 : Kd.C k57 W A2_0 l2_0.length l2_0) (hc2_0 : l2_0.length ≤ c2_0) : FnOk (.func (.func 38) #[] #[.pointer (some ⟨g0, 0, none⟩), .pointer (some ⟨g1, 0, none⟩), .pointer (some ⟨g2, 0, none⟩)]) (clo_38 a0_0 a1_0 l1_1 l2_0) W :=
 FnOk.ofU (enters_of Tryz.func38 (by kernel_rfl) rfl) (fun V b hV hr => by
  show Calls Tryz.prog 38 #[.pointer (some ⟨g0, 0, none⟩), .pointer (some ⟨g1, 0, none⟩), .pointer (some ⟨g2, 0, none⟩)] V _
  exact (impl_pairingCode_1.calls g0 a0_0 g1 a1_0 A1_1 c1_1 l1_1 g2 A2_0 c2_0 l2_0 b V ((hV.block g0 (blk_lt hb0)).trans hb0) ((hV.block g1 (blk_lt hb1)).trans hb1) (Kd.C_below hr1_1 hV) hc1_1 ((hV.block g2 (blk_lt hb2)).trans hb2) (Kd.C_below hr2_0 hV) hc2_0 hr).mono (fun e w' h_ => ⟨h_.1, h_.2⟩))
def impl_pairingCode.f (a0_0 : Int) (l0_1 : List Int) (l1 : List (S57)) (a2 : Bool) : Option (Int) := (impl_complexCode.f a0_0 l0_1 (clo_38 a2 a0_0 l0_1 l1)).bind fun t132 => (some t132)
set_option maxHeartbeats 8000000 in
set_option maxRecDepth 100000 in
theorem impl_pairingCode.calls (a0_0 : Int) (A0_1 : Option Addr) (c0_1 : Nat) (l0_1 : List Int) (A1 : Option Addr) (c1 : Nat) (l1 : List (S57)) (a2 : Bool) (r : Int) (w : World) (hr0_1 : Kd.C (Kd.int .i64) w A0_1 l0_1.length l0_1) (hc0_1 : l0_1.length ≤ c0_1) (hr1 : Kd.C k57 w A1 l1.length l1) (hc1 : l1.length ≤ c1) (h : impl_pairingCode.f a0_0 l0_1 l1 a2 = some r) :
  Calls Tryz.prog 20 #[.agg #[.int .i64 a0_0, .slice A0_1 l0_1.length c0_1], .slice A1 l1.length c1, .bool a2] w fun e w' => e = .returned (.int .i64 r) ∧ Below w.heap.size w w' := by
 have hu26 := Tryz.underlying26
 have HR0_1 := Aside0.mk hr0_1
 have HC0_1 := Aside0.mk hc0_1
 clear hr0_1 hc0_1
 have HR1 := Aside0.mk hr1
 have HC1 := Aside0.mk hc1
 clear hr1 hc1
 have HB := Aside0.mk (Below.refl w.heap.size w)
 have H : ((impl_complexCode.f a0_0 l0_1 (clo_38 a2 a0_0 l0_1 l1)).bind fun t132 => (some t132)) = some r := h
 clear h
 replace H := Option.bind_eq_some_iff.mp H
 obtain ⟨t132, A40, H⟩ := H
 try dsimp only at H
 have A4 := Aside0.mk A40
 clear A40
 obtain rfl := Option.some.inj H
 go_enter Tryz.func20, Tryz.ntmps20
 go_wp2_with (first | ((with_reducible refine gate_dst (N := 3) rfl ?_); refine box_event ?hg (N := 3) ?hd (cs := #[.int .i64 a0_0, .slice A0_1 l0_1.length c0_1]) (t := 26) ?hr ?_; (case hd => rfl); (case hg => rfl); (case hr => first | (go_simp; done) | (go_simp; rfl)); intro gb129 hg w5 hbox hb; have BK129 := Aside0.mk (hbox); have GW129 := gH HB hg; have GE129 := gH HB hg; replace HB := sH HB hb; clear hb hbox hg) | ((with_reducible refine gate_dst (N := 4) rfl ?_); refine box_event ?hg (N := 4) ?hd (cs := #[.slice A1 l1.length c1]) (t := 27) ?hr ?_; (case hd => rfl); (case hg => rfl); (case hr => first | (go_simp; done) | (go_simp; rfl)); intro gb130 hg w6 hbox hb; have BK130 := Aside0.mk (hbox); have GW130 := gH HB hg; have GE130 := gH HB hg; replace HB := sH HB hb; have NB129_130 := nB BK129 hg; have NB130_129 := oB BK129 hg; replace BK129 := sB BK129 hb; clear hb hbox hg) | ((with_reducible refine gate_dst (N := 5) rfl ?_); refine box_event ?hg (N := 5) ?hd (cs := #[.bool a2]) (t := 4) ?hr ?_; (case hd => rfl); (case hg => rfl); (case hr => first | (go_simp; done) | (go_simp; rfl)); intro gb131 hg w7 hbox hb; have BK131 := Aside0.mk (hbox); have GW131 := gH HB hg; have GE131 := gH HB hg; replace HB := sH HB hb; have NB129_131 := nB BK129 hg; have NB131_129 := oB BK129 hg; replace BK129 := sB BK129 hb; have NB130_131 := nB BK130 hg; have NB131_130 := oB BK130 hg; replace BK130 := sB BK130 hb; clear hb hbox hg; (try have hnb8 := NB129_130.out); (try have hnc8 := NB130_129.out); (try have hnb9 := NB129_131.out); (try have hnc9 := NB131_129.out); have hcz10_0 : w7.cell? ⟨gb129, 0, none⟩ = some (.int .i64 a0_0) := cB BK129 0; have hcz10_1 : w7.cell? ⟨gb129, 1, none⟩ = some (.slice A0_1 l0_1.length c0_1) := cB BK129 1; have hfz10_0 := zB BK129 0; have hfz10_1 := zB BK129 1) | ((with_reducible refine gate_callee (f := 26) rfl ?_); refine cl_ (some 9) Tryz.func26 #[.agg #[.int .i64 a0_0, .slice A0_1 l0_1.length c0_1], .func (.func 38) #[] #[.pointer (some ⟨gb131, 0, none⟩), .pointer (some ⟨gb129, 0, none⟩), .pointer (some ⟨gb130, 0, none⟩)]] ?_; (with_reducible refine (impl_complexCode.calls a0_0 _ _ l0_1 _ (clo_38 a2 a0_0 l0_1 l1) t132 _ ?side1 ?side2 ?side3 A4.out).mono ?_); (case side1 => exact pC ((Kd.C_below HR0_1.out HB.out))); (case side2 => exact HC0_1.out); (case side3 => exact clo_ok_38 (pB BK131) (pB BK129) (pB BK130) (by exact pC ((Kd.C_below HR0_1.out HB.out))) (by exact HC0_1.out) (by exact pC ((Kd.C_below HR1.out HB.out))) (by exact HC1.out)); rintro e w11 ⟨rfl, hb⟩; refine ⟨_, rfl, ?_⟩; replace BK129 := sB BK129 hb; replace BK130 := sB BK130 hb; replace BK131 := sB BK131 hb; replace HB := sH HB hb; (try clear hb); (try clear hi)))
 go_ret
 exact ⟨by first | rfl | (simp [errW_none, errW_some] <;> rfl) | (simp [*, errW_none, errW_some] <;> rfl) | (exfalso; simp_all), pH HB⟩
def impl_CriticalFaces.f (a0_0 : Int) (l0_1 : List Int) (l1 : List (S57)) : Option (List Int × Int) := (impl_pairingCode.f a0_0 l0_1 l1 true).bind fun t134 => (if t134 = 0 then ((impl_Complex_critical.f a0_0 l0_1 l1).bind fun t135 => (some (t135, 0))) else (some (([] : List Int), t134)))
set_option maxHeartbeats 8000000 in
set_option maxRecDepth 100000 in
theorem impl_CriticalFaces.calls (a0_0 : Int) (A0_1 : Option Addr) (c0_1 : Nat) (l0_1 : List Int) (A1 : Option Addr) (c1 : Nat) (l1 : List (S57)) (r1 : List Int) (r2 : Int) (w : World) (hr0_1 : Kd.C (Kd.int .i64) w A0_1 l0_1.length l0_1) (hc0_1 : l0_1.length ≤ c0_1) (hr1 : Kd.C k57 w A1 l1.length l1) (hc1 : l1.length ≤ c1) (h : impl_CriticalFaces.f a0_0 l0_1 l1 = some (r1, r2)) :
  Calls Tryz.prog 6 #[.agg #[.int .i64 a0_0, .slice A0_1 l0_1.length c0_1], .slice A1 l1.length c1] w fun e w' => ∃ v0_ : Value, e = .returned (.tuple #[v0_, .int .i64 r2]) ∧ Kd.R (Kd.int .i64) 2 w' w.heap.size (fun _ => True) v0_ r1 ∧ Below w.heap.size w w' := by
 have hu26 := Tryz.underlying26
 have HR0_1 := Aside0.mk hr0_1
 have HC0_1 := Aside0.mk hc0_1
 clear hr0_1 hc0_1
 have HR1 := Aside0.mk hr1
 have HC1 := Aside0.mk hc1
 clear hr1 hc1
 have HB := Aside0.mk (Below.refl w.heap.size w)
 have H : ((impl_pairingCode.f a0_0 l0_1 l1 true).bind fun t134 => (if t134 = 0 then ((impl_Complex_critical.f a0_0 l0_1 l1).bind fun t135 => (some (t135, 0))) else (some (([] : List Int), t134)))) = some (r1, r2) := h
 clear h
 replace H := Option.bind_eq_some_iff.mp H
 obtain ⟨t134, A30, H⟩ := H
 try dsimp only at H
 have A3 := Aside0.mk A30
 clear A30
 by_cases c4 : t134 = 0
 ·rw [if_pos c4] at H
  have c4b0 : (t134 == 0) = true := beq_iff_eq.mpr c4
  have c4b1 : (t134 != 0) = false := bne_eq_false_iff_eq.mpr c4
  clear c4
  replace H := Option.bind_eq_some_iff.mp H
  obtain ⟨t135, A50, H⟩ := H
  try dsimp only at H
  have A5 := Aside0.mk A50
  clear A50
  simp only [Option.some.injEq, Prod.mk.injEq] at H
  obtain ⟨rfl, rfl⟩ := H
  go_enter Tryz.func6, Tryz.ntmps6
  go_wp2_with (first | ((with_reducible refine gate_dst (N := 2) rfl ?_); refine box_event ?hg (N := 2) ?hd (cs := #[.int .i64 a0_0, .slice A0_1 l0_1.length c0_1]) (t := 26) ?hr ?_; (case hd => rfl); (case hg => rfl); (case hr => first | (go_simp; done) | (go_simp; rfl)); intro gb133 hg w6 hbox hb; have BK133 := Aside0.mk (hbox); have GW133 := gH HB hg; have GE133 := gH HB hg; replace HB := sH HB hb; clear hb hbox hg; have hcz7_0 : w6.cell? ⟨gb133, 0, none⟩ = some (.int .i64 a0_0) := cB BK133 0; have hcz7_1 : w6.cell? ⟨gb133, 1, none⟩ = some (.slice A0_1 l0_1.length c0_1) := cB BK133 1; have hfz7_0 := zB BK133 0; have hfz7_1 := zB BK133 1) | ((with_reducible refine gate_callee (f := 20) rfl ?_); refine cl_ (some 9) Tryz.func20 #[.agg #[.int .i64 a0_0, .slice A0_1 l0_1.length c0_1], .slice A1 l1.length c1, .bool true] ?_; (with_reducible refine (impl_pairingCode.calls a0_0 _ _ l0_1 _ _ l1 true t134 _ ?side1 ?side2 ?side3 ?side4 A3.out).mono ?_); (case side1 => exact pC ((Kd.C_below HR0_1.out HB.out))); (case side2 => exact HC0_1.out); (case side3 => exact pC ((Kd.C_below HR1.out HB.out))); (case side4 => exact HC1.out); rintro e w8 ⟨rfl, hb⟩; refine ⟨_, rfl, ?_⟩; replace BK133 := sB BK133 hb; replace HB := sH HB hb; (try clear hb); (try clear hi); have hcz9_0 : w8.cell? ⟨gb133, 0, none⟩ = some (.int .i64 a0_0) := cB BK133 0; have hcz9_1 : w8.cell? ⟨gb133, 1, none⟩ = some (.slice A0_1 l0_1.length c0_1) := cB BK133 1; have hfz9_0 := zB BK133 0; have hfz9_1 := zB BK133 1) | ((with_reducible refine gate_callee (f := 21) rfl ?_); refine cl_ (some 15) Tryz.func21 #[.agg #[.int .i64 a0_0, .slice A0_1 l0_1.length c0_1], .slice A1 l1.length c1] ?_; (with_reducible refine (impl_Complex_critical.calls a0_0 _ _ l0_1 _ _ l1 t135 _ ?side1 ?side2 ?side3 ?side4 A5.out).mono ?_); (case side1 => exact pC ((Kd.C_below HR0_1.out HB.out))); (case side2 => exact HC0_1.out); (case side3 => exact pC ((Kd.C_below HR1.out HB.out))); (case side4 => exact HC1.out); rintro e w10 ⟨v136, rfl, ho0, hb⟩; refine ⟨_, rfl, ?_⟩; have HO137 := Aside0.mk (Kd.R_lower ho0 (below_size (pH HB))); replace BK133 := sB BK133 hb; replace HB := sH HB hb; (try clear hb); (try clear hi); (try clear ho0)))
  go_ret2
  exact ⟨_, by first | rfl | (simp [errW_none, errW_some] <;> rfl) | (simp [*, errW_none, errW_some] <;> rfl) | (exfalso; simp_all), by (with_reducible repeat (first | apply Kd.R_alloc | apply Kd.R_drewN | apply Kd.R_drew)); exact HO137.out, pH HB⟩
 ·rw [if_neg c4] at H
  have c4b0 : (t134 == 0) = false := beq_eq_false_iff_ne.mpr c4
  have c4b1 : (t134 != 0) = true := bne_iff_ne.mpr c4
  simp only [Option.some.injEq, Prod.mk.injEq] at H
  obtain ⟨rfl, rfl⟩ := H
  go_enter Tryz.func6, Tryz.ntmps6
  go_wp2_with (first | ((with_reducible refine gate_dst (N := 2) rfl ?_); refine box_event ?hg (N := 2) ?hd (cs := #[.int .i64 a0_0, .slice A0_1 l0_1.length c0_1]) (t := 26) ?hr ?_; (case hd => rfl); (case hg => rfl); (case hr => first | (go_simp; done) | (go_simp; rfl)); intro gb133 hg w11 hbox hb; have BK133 := Aside0.mk (hbox); have GW133 := gH HB hg; have GE133 := gH HB hg; replace HB := sH HB hb; clear hb hbox hg; have hcz12_0 : w11.cell? ⟨gb133, 0, none⟩ = some (.int .i64 a0_0) := cB BK133 0; have hcz12_1 : w11.cell? ⟨gb133, 1, none⟩ = some (.slice A0_1 l0_1.length c0_1) := cB BK133 1; have hfz12_0 := zB BK133 0; have hfz12_1 := zB BK133 1) | ((with_reducible refine gate_callee (f := 20) rfl ?_); refine cl_ (some 9) Tryz.func20 #[.agg #[.int .i64 a0_0, .slice A0_1 l0_1.length c0_1], .slice A1 l1.length c1, .bool true] ?_; (with_reducible refine (impl_pairingCode.calls a0_0 _ _ l0_1 _ _ l1 true t134 _ ?side1 ?side2 ?side3 ?side4 A3.out).mono ?_); (case side1 => exact pC ((Kd.C_below HR0_1.out HB.out))); (case side2 => exact HC0_1.out); (case side3 => exact pC ((Kd.C_below HR1.out HB.out))); (case side4 => exact HC1.out); rintro e w13 ⟨rfl, hb⟩; refine ⟨_, rfl, ?_⟩; replace BK133 := sB BK133 hb; replace HB := sH HB hb; (try clear hb); (try clear hi)))
  go_ret2
  exact ⟨_, by first | rfl | (simp [errW_none, errW_some] <;> rfl) | (simp [*, errW_none, errW_some] <;> rfl) | (exfalso; simp_all), by first | exact Kd.R_nil _ _ _ _ _ | exact Kd.N_nil _ _ _ _ _ | exact Kd.V_nil _ _ _ _ _ | exact Kd.Q_nil _ _ _ _ _ | exact Kd.S_nil _ _ _ _ _, pH HB⟩
def impl_CriticalNumbers.f (k : Nat) (a0_0 : Int) (l0_1 : List Int) (l1 : List (S57)) : Option (List Int × Int) := (impl_pairingCode.f a0_0 l0_1 l1 true).bind fun t139 => (if t139 = 0 then ((impl_Complex_critical.f a0_0 l0_1 l1).bind fun t140 => ((impl_Complex_count.f k a0_0 l0_1 t140).bind fun t143 => (some (t143, 0)))) else (some (([] : List Int), t139)))
set_option maxHeartbeats 8000000 in
set_option maxRecDepth 100000 in
theorem impl_CriticalNumbers.calls (k : Nat) (a0_0 : Int) (A0_1 : Option Addr) (c0_1 : Nat) (l0_1 : List Int) (A1 : Option Addr) (c1 : Nat) (l1 : List (S57)) (r1 : List Int) (r2 : Int) (w : World) (hr0_1 : Kd.C (Kd.int .i64) w A0_1 l0_1.length l0_1) (hc0_1 : l0_1.length ≤ c0_1) (hr1 : Kd.C k57 w A1 l1.length l1) (hc1 : l1.length ≤ c1) (h : impl_CriticalNumbers.f k a0_0 l0_1 l1 = some (r1, r2)) :
  Calls Tryz.prog 9 #[.agg #[.int .i64 a0_0, .slice A0_1 l0_1.length c0_1], .slice A1 l1.length c1] w fun e w' => ∃ v0_ : Value, e = .returned (.tuple #[v0_, .int .i64 r2]) ∧ Kd.R (Kd.int .i64) 2 w' w.heap.size (fun _ => True) v0_ r1 ∧ Below w.heap.size w w' := by
 have hu26 := Tryz.underlying26
 have HR0_1 := Aside0.mk hr0_1
 have HC0_1 := Aside0.mk hc0_1
 clear hr0_1 hc0_1
 have HR1 := Aside0.mk hr1
 have HC1 := Aside0.mk hc1
 clear hr1 hc1
 have HB := Aside0.mk (Below.refl w.heap.size w)
 have H : ((impl_pairingCode.f a0_0 l0_1 l1 true).bind fun t139 => (if t139 = 0 then ((impl_Complex_critical.f a0_0 l0_1 l1).bind fun t140 => ((impl_Complex_count.f k a0_0 l0_1 t140).bind fun t143 => (some (t143, 0)))) else (some (([] : List Int), t139)))) = some (r1, r2) := h
 clear h
 replace H := Option.bind_eq_some_iff.mp H
 obtain ⟨t139, A30, H⟩ := H
 try dsimp only at H
 have A3 := Aside0.mk A30
 clear A30
 by_cases c4 : t139 = 0
 ·rw [if_pos c4] at H
  have c4b0 : (t139 == 0) = true := beq_iff_eq.mpr c4
  have c4b1 : (t139 != 0) = false := bne_eq_false_iff_eq.mpr c4
  clear c4
  replace H := Option.bind_eq_some_iff.mp H
  obtain ⟨t140, A50, H⟩ := H
  try dsimp only at H
  have A5 := Aside0.mk A50
  clear A50
  replace H := Option.bind_eq_some_iff.mp H
  obtain ⟨t143, A60, H⟩ := H
  try dsimp only at H
  have A6 := Aside0.mk A60
  clear A60
  simp only [Option.some.injEq, Prod.mk.injEq] at H
  obtain ⟨rfl, rfl⟩ := H
  go_enter Tryz.func9, Tryz.ntmps9
  try go_wp2_with (first | ((with_reducible refine gate_dst (N := 2) rfl ?_); refine box_event ?hg (N := 2) ?hd (cs := #[.int .i64 a0_0, .slice A0_1 l0_1.length c0_1]) (t := 26) ?hr ?_; (case hd => rfl); (case hg => rfl); (case hr => first | (go_simp; done) | (go_simp; rfl)); intro gb138 hg w7 hbox hb; have BK138 := Aside0.mk (hbox); have GW138 := gH HB hg; have GE138 := gH HB hg; replace HB := sH HB hb; clear hb hbox hg; have hcz8_0 : w7.cell? ⟨gb138, 0, none⟩ = some (.int .i64 a0_0) := cB BK138 0; have hcz8_1 : w7.cell? ⟨gb138, 1, none⟩ = some (.slice A0_1 l0_1.length c0_1) := cB BK138 1; have hfz8_0 := zB BK138 0; have hfz8_1 := zB BK138 1) | ((with_reducible refine gate_callee (f := 20) rfl ?_); refine cl_ (some 9) Tryz.func20 #[.agg #[.int .i64 a0_0, .slice A0_1 l0_1.length c0_1], .slice A1 l1.length c1, .bool true] ?_; (with_reducible refine (impl_pairingCode.calls a0_0 _ _ l0_1 _ _ l1 true t139 _ ?side1 ?side2 ?side3 ?side4 A3.out).mono ?_); (case side1 => exact pC ((Kd.C_below HR0_1.out HB.out))); (case side2 => exact HC0_1.out); (case side3 => exact pC ((Kd.C_below HR1.out HB.out))); (case side4 => exact HC1.out); rintro e w9 ⟨rfl, hb⟩; refine ⟨_, rfl, ?_⟩; replace BK138 := sB BK138 hb; replace HB := sH HB hb; (try clear hb); (try clear hi)))
  replace BK138 := dB BK138
  replace HB := dH HB
  refine st_ 7 (S := fun w' => w'.cell? ⟨gb138, 0, none⟩ = some (.int .i64 a0_0) ∧ w'.cell? ⟨gb138, 1, none⟩ = some (.slice A0_1 l0_1.length c0_1)) (ds := []) ⟨cB BK138 0, cB BK138 1⟩ (fun hHeld => ?_)
  generalize w9.drew = w10 at BK138 HB hHeld ⊢
  refine pure_ (i := 2) (N := some 15) (v := ?_) (a' := ?_) (mB 7 4) rfl rfl (by kernel_rfl) (fun _ _ _ h => h) (Or.inl ⟨by rfl, ?_⟩) ?_ ?_
  rotate_left
  ·intro w'
   go_simp
   with_reducible rfl
  rotate_left
  ·simp only [Act.put, List.setIfInBounds_toArray, List.set_cons_zero, List.set_cons_succ, i64_w, i32_w]
   rfl
  refine take_ (i := 0) (N := some 13) (v := ?_) (a' := ?_) (mB 7 5) rfl rfl (by kernel_rfl) (fun _ _ _ h => h) (Or.inl ⟨by rfl, ?_⟩) hHeld ?_ ?_
  rotate_left
  ·rintro w' ⟨s0, s1⟩
   go_simp
   with_reducible rfl
  rotate_left
  ·simp only [Act.put, List.setIfInBounds_toArray, List.set_cons_zero, List.set_cons_succ, i64_w, i32_w]
   rfl
  refine take_ (i := 1) (N := some 14) (v := ?_) (a' := ?_) (mB 7 7) rfl rfl (by kernel_rfl) (fun _ _ _ h => h) (Or.inl ⟨by rfl, ?_⟩) hHeld ?_ ?_
  rotate_left
  ·rintro w' ⟨s0, s1⟩
   go_simp
   with_reducible rfl
  rotate_left
  ·simp only [Act.put, List.setIfInBounds_toArray, List.set_cons_zero, List.set_cons_succ, i64_w, i32_w]
   rfl
  refine one_ (i := 3) (N := some 16) (mB 7 15) rfl rfl (by kernel_rfl) (by decide) (fun K hK => ?_)
  refine ca_ Tryz.func21 #[.agg #[.int .i64 a0_0, .slice A0_1 l0_1.length c0_1], .slice A1 l1.length c1] ?_
  with_reducible refine (impl_Complex_critical.calls a0_0 _ _ l0_1 _ _ l1 t140 _ ?side1 ?side2 ?side3 ?side4 A5.out).mono ?_
  (case side1 => exact pC ((Kd.C_below HR0_1.out HB.out)))
  (case side2 => exact HC0_1.out)
  (case side3 => exact pC ((Kd.C_below HR1.out HB.out)))
  (case side4 => exact HC1.out)
  rintro e w11 ⟨v141, rfl, ho0, hb⟩
  refine ⟨_, rfl, ?_⟩
  have HO142 := Aside0.mk (Kd.R_lower ho0 (below_size (pH HB)))
  replace BK138 := sB BK138 hb
  replace HB := sH HB hb
  (try clear hb)
  (try clear hb2)
  (try clear hk)
  (try clear hi)
  (try clear ho0)
  obtain ⟨Ao12, co12, eo12⟩ := Kd.R_slice HO142.out
  (first | subst eo12 | (injection eo12 with f1_ f2_ f3_; have f4_ := f1_.symm; have f5_ := f3_.symm; clear f1_ f2_ f3_; subst f4_; subst f5_))
  refine hK.out _ _ ⟨cB BK138 0, cB BK138 1⟩ (fun hHeld => ?_)
  clear hK K
  refine nm_ ?_
  refine one_ (i := 4) (N := some 17) (mB 7 31) rfl rfl (by kernel_rfl) (by decide) (fun K hK => ?_)
  refine ca_ Tryz.func24 #[.agg #[.int .i64 a0_0, .slice A0_1 l0_1.length c0_1], .slice Ao12 t140.length co12] ?_
  with_reducible refine (impl_Complex_count.calls k a0_0 _ _ l0_1 _ _ t140 t143 _ ?side1 ?side2 ?side3 ?side4 A6.out).mono ?_
  (case side1 => exact pC ((Kd.C_below HR0_1.out HB.out)))
  (case side2 => exact HC0_1.out)
  (case side3 => exact pC ((Kd.R_reads' HO142.out).2.2))
  (case side4 => exact (Kd.R_reads' HO142.out).2.1)
  rintro e w13 ⟨v144, rfl, ho0, hb⟩
  refine ⟨_, rfl, ?_⟩
  have HO145 := Aside0.mk (Kd.R_lower (Kd.R_new' ho0 (Kd.R_lt (pR HO142))) (below_size (pH HB)))
  replace HO142 := Aside0.mk (Kd.R_elder' (pR HO142) (Kd.R_base ho0) hb)
  replace BK138 := sB BK138 hb
  replace HB := sH HB hb
  (try clear hb)
  (try clear hb2)
  (try clear hk)
  (try clear hi)
  (try clear ho0)
  refine hK.out _ _ ⟨cB BK138 0, cB BK138 1⟩ (fun hHeld => ?_)
  clear hK K
  refine nm_ ?_
  refine pure_ (i := 5) (N := some 4) (v := ?_) (a' := ?_) (mB 7 63) rfl rfl (by kernel_rfl) (fun _ _ _ h => h) (Or.inl ⟨by rfl, ?_⟩) ?_ ?_
  rotate_left
  ·intro w'
   go_simp
   with_reducible rfl
  rotate_left
  ·simp only [Act.put, List.setIfInBounds_toArray, List.set_cons_zero, List.set_cons_succ, i64_w, i32_w]
   rfl
  refine pure_ (i := 6) (N := some 5) (v := ?_) (a' := ?_) (mB 7 127) rfl rfl (by kernel_rfl) (fun _ _ _ h => h) (Or.inl ⟨by rfl, ?_⟩) ?_ ?_
  rotate_left
  ·intro w'
   go_simp
   with_reducible rfl
  rotate_left
  ·simp only [Act.put, List.setIfInBounds_toArray, List.set_cons_zero, List.set_cons_succ, i64_w, i32_w]
   rfl
  refine done_ (by kernel_rfl) ?_
  try go_wp2
  go_ret2
  exact ⟨_, by first | rfl | (simp [errW_none, errW_some] <;> rfl) | (simp [*, errW_none, errW_some] <;> rfl) | (exfalso; simp_all), by (with_reducible repeat (first | apply Kd.R_alloc | apply Kd.R_drewN | apply Kd.R_drew)); exact Kd.R_mono HO145.out (fun _ hk => trivial), pH HB⟩
 ·rw [if_neg c4] at H
  have c4b0 : (t139 == 0) = false := beq_eq_false_iff_ne.mpr c4
  have c4b1 : (t139 != 0) = true := bne_iff_ne.mpr c4
  simp only [Option.some.injEq, Prod.mk.injEq] at H
  obtain ⟨rfl, rfl⟩ := H
  go_enter Tryz.func9, Tryz.ntmps9
  go_wp2_with (first | ((with_reducible refine gate_dst (N := 2) rfl ?_); refine box_event ?hg (N := 2) ?hd (cs := #[.int .i64 a0_0, .slice A0_1 l0_1.length c0_1]) (t := 26) ?hr ?_; (case hd => rfl); (case hg => rfl); (case hr => first | (go_simp; done) | (go_simp; rfl)); intro gb138 hg w14 hbox hb; have BK138 := Aside0.mk (hbox); have GW138 := gH HB hg; have GE138 := gH HB hg; replace HB := sH HB hb; clear hb hbox hg; have hcz15_0 : w14.cell? ⟨gb138, 0, none⟩ = some (.int .i64 a0_0) := cB BK138 0; have hcz15_1 : w14.cell? ⟨gb138, 1, none⟩ = some (.slice A0_1 l0_1.length c0_1) := cB BK138 1; have hfz15_0 := zB BK138 0; have hfz15_1 := zB BK138 1) | ((with_reducible refine gate_callee (f := 20) rfl ?_); refine cl_ (some 9) Tryz.func20 #[.agg #[.int .i64 a0_0, .slice A0_1 l0_1.length c0_1], .slice A1 l1.length c1, .bool true] ?_; (with_reducible refine (impl_pairingCode.calls a0_0 _ _ l0_1 _ _ l1 true t139 _ ?side1 ?side2 ?side3 ?side4 A3.out).mono ?_); (case side1 => exact pC ((Kd.C_below HR0_1.out HB.out))); (case side2 => exact HC0_1.out); (case side3 => exact pC ((Kd.C_below HR1.out HB.out))); (case side4 => exact HC1.out); rintro e w16 ⟨rfl, hb⟩; refine ⟨_, rfl, ?_⟩; replace BK138 := sB BK138 hb; replace HB := sH HB hb; (try clear hb); (try clear hi)))
  go_ret2
  exact ⟨_, by first | rfl | (simp [errW_none, errW_some] <;> rfl) | (simp [*, errW_none, errW_some] <;> rfl) | (exfalso; simp_all), by first | exact Kd.R_nil _ _ _ _ _ | exact Kd.N_nil _ _ _ _ _ | exact Kd.V_nil _ _ _ _ _ | exact Kd.Q_nil _ _ _ _ _ | exact Kd.S_nil _ _ _ _ _, pH HB⟩
def impl_IsPairing.f (a0_0 : Int) (l0_1 : List Int) (l1 : List (S57)) : Option (Bool × Int) := (impl_complexCode.f a0_0 l0_1 (fnp 27)).bind fun t147 => (if t147 = 0 then ((impl_Complex_isPairing.f a0_0 l0_1 l1).bind fun t148 => (some (t148, 0))) else (some (false, t147)))
set_option maxHeartbeats 8000000 in
set_option maxRecDepth 100000 in
theorem impl_IsPairing.calls (a0_0 : Int) (A0_1 : Option Addr) (c0_1 : Nat) (l0_1 : List Int) (A1 : Option Addr) (c1 : Nat) (l1 : List (S57)) (r1 : Bool) (r2 : Int) (w : World) (hr0_1 : Kd.C (Kd.int .i64) w A0_1 l0_1.length l0_1) (hc0_1 : l0_1.length ≤ c0_1) (hr1 : Kd.C k57 w A1 l1.length l1) (hc1 : l1.length ≤ c1) (h : impl_IsPairing.f a0_0 l0_1 l1 = some (r1, r2)) :
  Calls Tryz.prog 11 #[.agg #[.int .i64 a0_0, .slice A0_1 l0_1.length c0_1], .slice A1 l1.length c1] w fun e w' => e = .returned (.tuple #[.bool r1, .int .i64 r2]) ∧ Below w.heap.size w w' := by
 have hu26 := Tryz.underlying26
 have HR0_1 := Aside0.mk hr0_1
 have HC0_1 := Aside0.mk hc0_1
 clear hr0_1 hc0_1
 have HR1 := Aside0.mk hr1
 have HC1 := Aside0.mk hc1
 clear hr1 hc1
 have HB := Aside0.mk (Below.refl w.heap.size w)
 have H : ((impl_complexCode.f a0_0 l0_1 (fnp 27)).bind fun t147 => (if t147 = 0 then ((impl_Complex_isPairing.f a0_0 l0_1 l1).bind fun t148 => (some (t148, 0))) else (some (false, t147)))) = some (r1, r2) := h
 clear h
 replace H := Option.bind_eq_some_iff.mp H
 obtain ⟨t147, A30, H⟩ := H
 try dsimp only at H
 have A3 := Aside0.mk A30
 clear A30
 by_cases c4 : t147 = 0
 ·rw [if_pos c4] at H
  have c4b0 : (t147 == 0) = true := beq_iff_eq.mpr c4
  have c4b1 : (t147 != 0) = false := bne_eq_false_iff_eq.mpr c4
  clear c4
  replace H := Option.bind_eq_some_iff.mp H
  obtain ⟨t148, A50, H⟩ := H
  try dsimp only at H
  have A5 := Aside0.mk A50
  clear A50
  simp only [Option.some.injEq, Prod.mk.injEq] at H
  obtain ⟨rfl, rfl⟩ := H
  go_enter Tryz.func11, Tryz.ntmps11
  go_wp2_with (first | ((with_reducible refine gate_dst (N := 2) rfl ?_); refine box_event ?hg (N := 2) ?hd (cs := #[.int .i64 a0_0, .slice A0_1 l0_1.length c0_1]) (t := 26) ?hr ?_; (case hd => rfl); (case hg => rfl); (case hr => first | (go_simp; done) | (go_simp; rfl)); intro gb146 hg w6 hbox hb; have BK146 := Aside0.mk (hbox); have GW146 := gH HB hg; have GE146 := gH HB hg; replace HB := sH HB hb; clear hb hbox hg; have hcz7_0 : w6.cell? ⟨gb146, 0, none⟩ = some (.int .i64 a0_0) := cB BK146 0; have hcz7_1 : w6.cell? ⟨gb146, 1, none⟩ = some (.slice A0_1 l0_1.length c0_1) := cB BK146 1; have hfz7_0 := zB BK146 0; have hfz7_1 := zB BK146 1) | ((with_reducible refine gate_callee (f := 26) rfl ?_); refine cl_ (some 8) Tryz.func26 #[.agg #[.int .i64 a0_0, .slice A0_1 l0_1.length c0_1], .func (.func 27) #[] #[]] ?_; (with_reducible refine (impl_complexCode.calls a0_0 _ _ l0_1 _ (fnp 27) t147 _ ?side1 ?side2 ?side3 A3.out).mono ?_); (case side1 => exact pC ((Kd.C_below HR0_1.out HB.out))); (case side2 => exact HC0_1.out); (case side3 => exact fnp_ok_27 _); rintro e w8 ⟨rfl, hb⟩; refine ⟨_, rfl, ?_⟩; replace BK146 := sB BK146 hb; replace HB := sH HB hb; (try clear hb); (try clear hi); have hcz9_0 : w8.cell? ⟨gb146, 0, none⟩ = some (.int .i64 a0_0) := cB BK146 0; have hcz9_1 : w8.cell? ⟨gb146, 1, none⟩ = some (.slice A0_1 l0_1.length c0_1) := cB BK146 1; have hfz9_0 := zB BK146 0; have hfz9_1 := zB BK146 1) | ((with_reducible refine gate_callee (f := 28) rfl ?_); refine cl_ (some 14) Tryz.func28 #[.agg #[.int .i64 a0_0, .slice A0_1 l0_1.length c0_1], .slice A1 l1.length c1] ?_; (with_reducible refine (impl_Complex_isPairing.calls a0_0 _ _ l0_1 _ _ l1 t148 _ ?side1 ?side2 ?side3 ?side4 A5.out).mono ?_); (case side1 => exact pC ((Kd.C_below HR0_1.out HB.out))); (case side2 => exact HC0_1.out); (case side3 => exact pC ((Kd.C_below HR1.out HB.out))); (case side4 => exact HC1.out); rintro e w10 ⟨rfl, hb⟩; refine ⟨_, rfl, ?_⟩; replace BK146 := sB BK146 hb; replace HB := sH HB hb; (try clear hb); (try clear hi)))
  go_ret2
  exact ⟨by first | rfl | (simp [errW_none, errW_some] <;> rfl) | (simp [*, errW_none, errW_some] <;> rfl) | (exfalso; simp_all), pH HB⟩
 ·rw [if_neg c4] at H
  have c4b0 : (t147 == 0) = false := beq_eq_false_iff_ne.mpr c4
  have c4b1 : (t147 != 0) = true := bne_iff_ne.mpr c4
  simp only [Option.some.injEq, Prod.mk.injEq] at H
  obtain ⟨rfl, rfl⟩ := H
  go_enter Tryz.func11, Tryz.ntmps11
  go_wp2_with (first | ((with_reducible refine gate_dst (N := 2) rfl ?_); refine box_event ?hg (N := 2) ?hd (cs := #[.int .i64 a0_0, .slice A0_1 l0_1.length c0_1]) (t := 26) ?hr ?_; (case hd => rfl); (case hg => rfl); (case hr => first | (go_simp; done) | (go_simp; rfl)); intro gb146 hg w11 hbox hb; have BK146 := Aside0.mk (hbox); have GW146 := gH HB hg; have GE146 := gH HB hg; replace HB := sH HB hb; clear hb hbox hg; have hcz12_0 : w11.cell? ⟨gb146, 0, none⟩ = some (.int .i64 a0_0) := cB BK146 0; have hcz12_1 : w11.cell? ⟨gb146, 1, none⟩ = some (.slice A0_1 l0_1.length c0_1) := cB BK146 1; have hfz12_0 := zB BK146 0; have hfz12_1 := zB BK146 1) | ((with_reducible refine gate_callee (f := 26) rfl ?_); refine cl_ (some 8) Tryz.func26 #[.agg #[.int .i64 a0_0, .slice A0_1 l0_1.length c0_1], .func (.func 27) #[] #[]] ?_; (with_reducible refine (impl_complexCode.calls a0_0 _ _ l0_1 _ (fnp 27) t147 _ ?side1 ?side2 ?side3 A3.out).mono ?_); (case side1 => exact pC ((Kd.C_below HR0_1.out HB.out))); (case side2 => exact HC0_1.out); (case side3 => exact fnp_ok_27 _); rintro e w13 ⟨rfl, hb⟩; refine ⟨_, rfl, ?_⟩; replace BK146 := sB BK146 hb; replace HB := sH HB hb; (try clear hb); (try clear hi)))
  go_ret2
  exact ⟨by first | rfl | (simp [errW_none, errW_some] <;> rfl) | (simp [*, errW_none, errW_some] <;> rfl) | (exfalso; simp_all), pH HB⟩
def impl_IsAcyclicPairing.f (a0_0 : Int) (l0_1 : List Int) (l1 : List (S57)) : Option (Bool × Int) := (impl_pairingCode.f a0_0 l0_1 l1 true).bind fun t150 => (if t150 = 0 then ((impl_Complex_isAcyclic.f a0_0 l0_1 l1).bind fun t151 => (some (t151, 0))) else (some (false, t150)))
set_option maxHeartbeats 8000000 in
set_option maxRecDepth 100000 in
theorem impl_IsAcyclicPairing.calls (a0_0 : Int) (A0_1 : Option Addr) (c0_1 : Nat) (l0_1 : List Int) (A1 : Option Addr) (c1 : Nat) (l1 : List (S57)) (r1 : Bool) (r2 : Int) (w : World) (hr0_1 : Kd.C (Kd.int .i64) w A0_1 l0_1.length l0_1) (hc0_1 : l0_1.length ≤ c0_1) (hr1 : Kd.C k57 w A1 l1.length l1) (hc1 : l1.length ≤ c1) (h : impl_IsAcyclicPairing.f a0_0 l0_1 l1 = some (r1, r2)) :
  Calls Tryz.prog 13 #[.agg #[.int .i64 a0_0, .slice A0_1 l0_1.length c0_1], .slice A1 l1.length c1] w fun e w' => e = .returned (.tuple #[.bool r1, .int .i64 r2]) ∧ Below w.heap.size w w' := by
 have hu26 := Tryz.underlying26
 have HR0_1 := Aside0.mk hr0_1
 have HC0_1 := Aside0.mk hc0_1
 clear hr0_1 hc0_1
 have HR1 := Aside0.mk hr1
 have HC1 := Aside0.mk hc1
 clear hr1 hc1
 have HB := Aside0.mk (Below.refl w.heap.size w)
 have H : ((impl_pairingCode.f a0_0 l0_1 l1 true).bind fun t150 => (if t150 = 0 then ((impl_Complex_isAcyclic.f a0_0 l0_1 l1).bind fun t151 => (some (t151, 0))) else (some (false, t150)))) = some (r1, r2) := h
 clear h
 replace H := Option.bind_eq_some_iff.mp H
 obtain ⟨t150, A30, H⟩ := H
 try dsimp only at H
 have A3 := Aside0.mk A30
 clear A30
 by_cases c4 : t150 = 0
 ·rw [if_pos c4] at H
  have c4b0 : (t150 == 0) = true := beq_iff_eq.mpr c4
  have c4b1 : (t150 != 0) = false := bne_eq_false_iff_eq.mpr c4
  clear c4
  replace H := Option.bind_eq_some_iff.mp H
  obtain ⟨t151, A50, H⟩ := H
  try dsimp only at H
  have A5 := Aside0.mk A50
  clear A50
  simp only [Option.some.injEq, Prod.mk.injEq] at H
  obtain ⟨rfl, rfl⟩ := H
  go_enter Tryz.func13, Tryz.ntmps13
  go_wp2_with (first | ((with_reducible refine gate_dst (N := 2) rfl ?_); refine box_event ?hg (N := 2) ?hd (cs := #[.int .i64 a0_0, .slice A0_1 l0_1.length c0_1]) (t := 26) ?hr ?_; (case hd => rfl); (case hg => rfl); (case hr => first | (go_simp; done) | (go_simp; rfl)); intro gb149 hg w6 hbox hb; have BK149 := Aside0.mk (hbox); have GW149 := gH HB hg; have GE149 := gH HB hg; replace HB := sH HB hb; clear hb hbox hg; have hcz7_0 : w6.cell? ⟨gb149, 0, none⟩ = some (.int .i64 a0_0) := cB BK149 0; have hcz7_1 : w6.cell? ⟨gb149, 1, none⟩ = some (.slice A0_1 l0_1.length c0_1) := cB BK149 1; have hfz7_0 := zB BK149 0; have hfz7_1 := zB BK149 1) | ((with_reducible refine gate_callee (f := 20) rfl ?_); refine cl_ (some 9) Tryz.func20 #[.agg #[.int .i64 a0_0, .slice A0_1 l0_1.length c0_1], .slice A1 l1.length c1, .bool true] ?_; (with_reducible refine (impl_pairingCode.calls a0_0 _ _ l0_1 _ _ l1 true t150 _ ?side1 ?side2 ?side3 ?side4 A3.out).mono ?_); (case side1 => exact pC ((Kd.C_below HR0_1.out HB.out))); (case side2 => exact HC0_1.out); (case side3 => exact pC ((Kd.C_below HR1.out HB.out))); (case side4 => exact HC1.out); rintro e w8 ⟨rfl, hb⟩; refine ⟨_, rfl, ?_⟩; replace BK149 := sB BK149 hb; replace HB := sH HB hb; (try clear hb); (try clear hi); have hcz9_0 : w8.cell? ⟨gb149, 0, none⟩ = some (.int .i64 a0_0) := cB BK149 0; have hcz9_1 : w8.cell? ⟨gb149, 1, none⟩ = some (.slice A0_1 l0_1.length c0_1) := cB BK149 1; have hfz9_0 := zB BK149 0; have hfz9_1 := zB BK149 1) | ((with_reducible refine gate_callee (f := 31) rfl ?_); refine cl_ (some 15) Tryz.func31 #[.agg #[.int .i64 a0_0, .slice A0_1 l0_1.length c0_1], .slice A1 l1.length c1] ?_; (with_reducible refine (impl_Complex_isAcyclic.calls a0_0 _ _ l0_1 _ _ l1 t151 _ ?side1 ?side2 ?side3 ?side4 A5.out).mono ?_); (case side1 => exact pC ((Kd.C_below HR0_1.out HB.out))); (case side2 => exact HC0_1.out); (case side3 => exact pC ((Kd.C_below HR1.out HB.out))); (case side4 => exact HC1.out); rintro e w10 ⟨rfl, hb⟩; refine ⟨_, rfl, ?_⟩; replace BK149 := sB BK149 hb; replace HB := sH HB hb; (try clear hb); (try clear hi)))
  go_ret2
  exact ⟨by first | rfl | (simp [errW_none, errW_some] <;> rfl) | (simp [*, errW_none, errW_some] <;> rfl) | (exfalso; simp_all), pH HB⟩
 ·rw [if_neg c4] at H
  have c4b0 : (t150 == 0) = false := beq_eq_false_iff_ne.mpr c4
  have c4b1 : (t150 != 0) = true := bne_iff_ne.mpr c4
  simp only [Option.some.injEq, Prod.mk.injEq] at H
  obtain ⟨rfl, rfl⟩ := H
  go_enter Tryz.func13, Tryz.ntmps13
  go_wp2_with (first | ((with_reducible refine gate_dst (N := 2) rfl ?_); refine box_event ?hg (N := 2) ?hd (cs := #[.int .i64 a0_0, .slice A0_1 l0_1.length c0_1]) (t := 26) ?hr ?_; (case hd => rfl); (case hg => rfl); (case hr => first | (go_simp; done) | (go_simp; rfl)); intro gb149 hg w11 hbox hb; have BK149 := Aside0.mk (hbox); have GW149 := gH HB hg; have GE149 := gH HB hg; replace HB := sH HB hb; clear hb hbox hg; have hcz12_0 : w11.cell? ⟨gb149, 0, none⟩ = some (.int .i64 a0_0) := cB BK149 0; have hcz12_1 : w11.cell? ⟨gb149, 1, none⟩ = some (.slice A0_1 l0_1.length c0_1) := cB BK149 1; have hfz12_0 := zB BK149 0; have hfz12_1 := zB BK149 1) | ((with_reducible refine gate_callee (f := 20) rfl ?_); refine cl_ (some 9) Tryz.func20 #[.agg #[.int .i64 a0_0, .slice A0_1 l0_1.length c0_1], .slice A1 l1.length c1, .bool true] ?_; (with_reducible refine (impl_pairingCode.calls a0_0 _ _ l0_1 _ _ l1 true t150 _ ?side1 ?side2 ?side3 ?side4 A3.out).mono ?_); (case side1 => exact pC ((Kd.C_below HR0_1.out HB.out))); (case side2 => exact HC0_1.out); (case side3 => exact pC ((Kd.C_below HR1.out HB.out))); (case side4 => exact HC1.out); rintro e w13 ⟨rfl, hb⟩; refine ⟨_, rfl, ?_⟩; replace BK149 := sB BK149 hb; replace HB := sH HB hb; (try clear hb); (try clear hi)))
  go_ret2
  exact ⟨by first | rfl | (simp [errW_none, errW_some] <;> rfl) | (simp [*, errW_none, errW_some] <;> rfl) | (exfalso; simp_all), pH HB⟩
def impl_FacesOnCycles.f (a0_0 : Int) (l0_1 : List Int) (l1 : List (S57)) : Option (List Int × Int) := (impl_pairingCode.f a0_0 l0_1 l1 true).bind fun t153 => (if t153 = 0 then ((impl_Complex_onCycles.f a0_0 l0_1 l1).bind fun t154 => (some (t154, 0))) else (some (([] : List Int), t153)))
set_option maxHeartbeats 8000000 in
set_option maxRecDepth 100000 in
theorem impl_FacesOnCycles.calls (a0_0 : Int) (A0_1 : Option Addr) (c0_1 : Nat) (l0_1 : List Int) (A1 : Option Addr) (c1 : Nat) (l1 : List (S57)) (r1 : List Int) (r2 : Int) (w : World) (hr0_1 : Kd.C (Kd.int .i64) w A0_1 l0_1.length l0_1) (hc0_1 : l0_1.length ≤ c0_1) (hr1 : Kd.C k57 w A1 l1.length l1) (hc1 : l1.length ≤ c1) (h : impl_FacesOnCycles.f a0_0 l0_1 l1 = some (r1, r2)) :
  Calls Tryz.prog 15 #[.agg #[.int .i64 a0_0, .slice A0_1 l0_1.length c0_1], .slice A1 l1.length c1] w fun e w' => ∃ v0_ : Value, e = .returned (.tuple #[v0_, .int .i64 r2]) ∧ Kd.R (Kd.int .i64) 2 w' w.heap.size (fun _ => True) v0_ r1 ∧ Below w.heap.size w w' := by
 have hu26 := Tryz.underlying26
 have HR0_1 := Aside0.mk hr0_1
 have HC0_1 := Aside0.mk hc0_1
 clear hr0_1 hc0_1
 have HR1 := Aside0.mk hr1
 have HC1 := Aside0.mk hc1
 clear hr1 hc1
 have HB := Aside0.mk (Below.refl w.heap.size w)
 have H : ((impl_pairingCode.f a0_0 l0_1 l1 true).bind fun t153 => (if t153 = 0 then ((impl_Complex_onCycles.f a0_0 l0_1 l1).bind fun t154 => (some (t154, 0))) else (some (([] : List Int), t153)))) = some (r1, r2) := h
 clear h
 replace H := Option.bind_eq_some_iff.mp H
 obtain ⟨t153, A30, H⟩ := H
 try dsimp only at H
 have A3 := Aside0.mk A30
 clear A30
 by_cases c4 : t153 = 0
 ·rw [if_pos c4] at H
  have c4b0 : (t153 == 0) = true := beq_iff_eq.mpr c4
  have c4b1 : (t153 != 0) = false := bne_eq_false_iff_eq.mpr c4
  clear c4
  replace H := Option.bind_eq_some_iff.mp H
  obtain ⟨t154, A50, H⟩ := H
  try dsimp only at H
  have A5 := Aside0.mk A50
  clear A50
  simp only [Option.some.injEq, Prod.mk.injEq] at H
  obtain ⟨rfl, rfl⟩ := H
  go_enter Tryz.func15, Tryz.ntmps15
  go_wp2_with (first | ((with_reducible refine gate_dst (N := 2) rfl ?_); refine box_event ?hg (N := 2) ?hd (cs := #[.int .i64 a0_0, .slice A0_1 l0_1.length c0_1]) (t := 26) ?hr ?_; (case hd => rfl); (case hg => rfl); (case hr => first | (go_simp; done) | (go_simp; rfl)); intro gb152 hg w6 hbox hb; have BK152 := Aside0.mk (hbox); have GW152 := gH HB hg; have GE152 := gH HB hg; replace HB := sH HB hb; clear hb hbox hg; have hcz7_0 : w6.cell? ⟨gb152, 0, none⟩ = some (.int .i64 a0_0) := cB BK152 0; have hcz7_1 : w6.cell? ⟨gb152, 1, none⟩ = some (.slice A0_1 l0_1.length c0_1) := cB BK152 1; have hfz7_0 := zB BK152 0; have hfz7_1 := zB BK152 1) | ((with_reducible refine gate_callee (f := 20) rfl ?_); refine cl_ (some 9) Tryz.func20 #[.agg #[.int .i64 a0_0, .slice A0_1 l0_1.length c0_1], .slice A1 l1.length c1, .bool true] ?_; (with_reducible refine (impl_pairingCode.calls a0_0 _ _ l0_1 _ _ l1 true t153 _ ?side1 ?side2 ?side3 ?side4 A3.out).mono ?_); (case side1 => exact pC ((Kd.C_below HR0_1.out HB.out))); (case side2 => exact HC0_1.out); (case side3 => exact pC ((Kd.C_below HR1.out HB.out))); (case side4 => exact HC1.out); rintro e w8 ⟨rfl, hb⟩; refine ⟨_, rfl, ?_⟩; replace BK152 := sB BK152 hb; replace HB := sH HB hb; (try clear hb); (try clear hi); have hcz9_0 : w8.cell? ⟨gb152, 0, none⟩ = some (.int .i64 a0_0) := cB BK152 0; have hcz9_1 : w8.cell? ⟨gb152, 1, none⟩ = some (.slice A0_1 l0_1.length c0_1) := cB BK152 1; have hfz9_0 := zB BK152 0; have hfz9_1 := zB BK152 1) | ((with_reducible refine gate_callee (f := 33) rfl ?_); refine cl_ (some 15) Tryz.func33 #[.agg #[.int .i64 a0_0, .slice A0_1 l0_1.length c0_1], .slice A1 l1.length c1] ?_; (with_reducible refine (impl_Complex_onCycles.calls a0_0 _ _ l0_1 _ _ l1 t154 _ ?side1 ?side2 ?side3 ?side4 A5.out).mono ?_); (case side1 => exact pC ((Kd.C_below HR0_1.out HB.out))); (case side2 => exact HC0_1.out); (case side3 => exact pC ((Kd.C_below HR1.out HB.out))); (case side4 => exact HC1.out); rintro e w10 ⟨v155, rfl, ho0, hb⟩; refine ⟨_, rfl, ?_⟩; have HO156 := Aside0.mk (Kd.R_lower ho0 (below_size (pH HB))); replace BK152 := sB BK152 hb; replace HB := sH HB hb; (try clear hb); (try clear hi); (try clear ho0)))
  go_ret2
  exact ⟨_, by first | rfl | (simp [errW_none, errW_some] <;> rfl) | (simp [*, errW_none, errW_some] <;> rfl) | (exfalso; simp_all), by (with_reducible repeat (first | apply Kd.R_alloc | apply Kd.R_drewN | apply Kd.R_drew)); exact HO156.out, pH HB⟩
 ·rw [if_neg c4] at H
  have c4b0 : (t153 == 0) = false := beq_eq_false_iff_ne.mpr c4
  have c4b1 : (t153 != 0) = true := bne_iff_ne.mpr c4
  simp only [Option.some.injEq, Prod.mk.injEq] at H
  obtain ⟨rfl, rfl⟩ := H
  go_enter Tryz.func15, Tryz.ntmps15
  go_wp2_with (first | ((with_reducible refine gate_dst (N := 2) rfl ?_); refine box_event ?hg (N := 2) ?hd (cs := #[.int .i64 a0_0, .slice A0_1 l0_1.length c0_1]) (t := 26) ?hr ?_; (case hd => rfl); (case hg => rfl); (case hr => first | (go_simp; done) | (go_simp; rfl)); intro gb152 hg w11 hbox hb; have BK152 := Aside0.mk (hbox); have GW152 := gH HB hg; have GE152 := gH HB hg; replace HB := sH HB hb; clear hb hbox hg; have hcz12_0 : w11.cell? ⟨gb152, 0, none⟩ = some (.int .i64 a0_0) := cB BK152 0; have hcz12_1 : w11.cell? ⟨gb152, 1, none⟩ = some (.slice A0_1 l0_1.length c0_1) := cB BK152 1; have hfz12_0 := zB BK152 0; have hfz12_1 := zB BK152 1) | ((with_reducible refine gate_callee (f := 20) rfl ?_); refine cl_ (some 9) Tryz.func20 #[.agg #[.int .i64 a0_0, .slice A0_1 l0_1.length c0_1], .slice A1 l1.length c1, .bool true] ?_; (with_reducible refine (impl_pairingCode.calls a0_0 _ _ l0_1 _ _ l1 true t153 _ ?side1 ?side2 ?side3 ?side4 A3.out).mono ?_); (case side1 => exact pC ((Kd.C_below HR0_1.out HB.out))); (case side2 => exact HC0_1.out); (case side3 => exact pC ((Kd.C_below HR1.out HB.out))); (case side4 => exact HC1.out); rintro e w13 ⟨rfl, hb⟩; refine ⟨_, rfl, ?_⟩; replace BK152 := sB BK152 hb; replace HB := sH HB hb; (try clear hb); (try clear hi)))
  go_ret2
  exact ⟨_, by first | rfl | (simp [errW_none, errW_some] <;> rfl) | (simp [*, errW_none, errW_some] <;> rfl) | (exfalso; simp_all), by first | exact Kd.R_nil _ _ _ _ _ | exact Kd.N_nil _ _ _ _ _ | exact Kd.V_nil _ _ _ _ _ | exact Kd.Q_nil _ _ _ _ _ | exact Kd.S_nil _ _ _ _ _, pH HB⟩
def impl_Complex_euler.l0 : Nat → Int → List Int → Int → Int → Option (Int)
 | 0, _, _, _, _ => none
 | k + 1, x3, x7, x8, x9 => if x9 < x8 then (if 0 ≤ x9 then (if x9 < (x7.length : Int) then ((impl_dimension.f (rd x7 x9)).bind fun t159 => (impl_Complex_euler.l0 k (wrap64 (x3 + (wrap64 (1 - (wrap64 (2 * (Int.tmod t159 2))))))) x7 x8 (wrap64 (x9 + 1)))) else (none)) else (none)) else (some x3)
def impl_Complex_euler.f (k : Nat) (a0_0 : Int) (l0_1 : List Int) : Option (Int) := impl_Complex_euler.l0 k 0 l0_1 (l0_1.length : Int) 0
set_option maxHeartbeats 8000000 in
set_option maxRecDepth 100000 in
theorem impl_Complex_euler.calls (k : Nat) (a0_0 : Int) (A0_1 : Option Addr) (c0_1 : Nat) (l0_1 : List Int) (r : Int) (w : World) (hr0_1 : Kd.C (Kd.int .i64) w A0_1 l0_1.length l0_1) (hc0_1 : l0_1.length ≤ c0_1) (h : impl_Complex_euler.f k a0_0 l0_1 = some r) :
  Calls Tryz.prog 35 #[.agg #[.int .i64 a0_0, .slice A0_1 l0_1.length c0_1]] w fun e w' => e = .returned (.int .i64 r) ∧ Below w.heap.size w w' := by
 have hu26 := Tryz.underlying26
 have HR0_1 := Aside0.mk hr0_1
 have HC0_1 := Aside0.mk hc0_1
 clear hr0_1 hc0_1
 have HB := Aside0.mk (Below.refl w.heap.size w)
 have H : (impl_Complex_euler.l0 k 0 l0_1 (l0_1.length : Int) 0) = some r := h
 clear h
 have H' := Aside0.mk H
 clear H
 go_enter Tryz.func35, Tryz.ntmps35
 go_wp2_with (first | ((with_reducible refine gate_dst (N := 1) rfl ?_); refine box_event ?hg (N := 1) ?hd (cs := #[.int .i64 a0_0, .slice A0_1 l0_1.length c0_1]) (t := 26) ?hr ?_; (case hd => rfl); (case hg => rfl); (case hr => first | (go_simp; done) | (go_simp; rfl)); intro gb157 hg w2 hbox hb; have BK157 := Aside0.mk (hbox); have GW157 := gH HB hg; have GE157 := gH HB hg; replace HB := sH HB hb; clear hb hbox hg; have hcz3_0 : w2.cell? ⟨gb157, 0, none⟩ = some (.int .i64 a0_0) := cB BK157 0; have hcz3_1 : w2.cell? ⟨gb157, 1, none⟩ = some (.slice A0_1 l0_1.length c0_1) := cB BK157 1; have hfz3_0 := zB BK157 0; have hfz3_1 := zB BK157 1))
 go_loopg [3, 9] k (fun kq v3 v9 w' => ∃ (x3_1 : Int) (x9_1 : Int), v3 = .int .i64 x3_1 ∧ v9 = .int .i64 x9_1 ∧ Aside0 (impl_Complex_euler.l0 kq x3_1 l0_1 (l0_1.length : Int) x9_1 = some r) ∧ Aside0 (kq ≤ k) ∧ Aside0 (w'.heap[gb157]? = some (.cells #[.int .i64 a0_0, (.slice A0_1 l0_1.length c0_1)] 26 (0, 0))) ∧ Aside0 (Below w.heap.size w w'))
 case atStart => exact ⟨(0), (0), (by first | rfl | (simp; done) | (simp [*]; done)), (by first | rfl | (simp; done) | (simp [*]; done)), H', ⟨Nat.le_refl _⟩, ⟨pB BK157⟩, ⟨pH HB⟩⟩
 case round =>
  clear H'
  try clear p2
  try clear c3
  try clear hcz3_0
  try clear hcz3_1
  try clear hfz3_0
  try clear hfz3_1
  obtain ⟨x3_1, x9_1, rfl, rfl, HA, HK1, BK157, HB⟩ := hrel
  cases gk with
  | zero => exact absurd HA.out (by simp [impl_Complex_euler.l0])
  | succ k1 =>
   have H := HA.out
   clear HA
   simp only [impl_Complex_euler.l0] at H
   by_cases c4 : x9_1 < (l0_1.length : Int)
   ·rw [if_pos c4] at H
    have c4b0 : decide (x9_1 < (l0_1.length : Int)) = true := decide_eq_true c4
    clear c4
    by_cases c5 : 0 ≤ x9_1
    ·rw [if_pos c5] at H
     have c5b0 : decide (0 ≤ x9_1) = true := decide_eq_true c5
     clear c5
     by_cases c6 : x9_1 < (l0_1.length : Int)
     ·rw [if_pos c6] at H
      have c6b0 : decide (x9_1 < (l0_1.length : Int)) = true := decide_eq_true c6
      clear c6
      replace H := Option.bind_eq_some_iff.mp H
      obtain ⟨t159, A70, H⟩ := H
      try dsimp only at H
      have A7 := Aside0.mk A70
      clear A70
      have H' := Aside0.mk H
      clear H
      have p158 : 0 ≤ (x9_1 : Int) := of_decide_eq_true (by first | (with_reducible assumption) | assumption)
      have q158 : x9_1 < (l0_1.length : Int) := of_decide_eq_true (by first | (with_reducible assumption) | assumption)
      obtain ⟨ad158, e158, hx158_0⟩ := Kd.at_int HR0_1.out x9_1 p158 q158
      cases e158
      replace hx158_0 := cH HB hx158_0
      replace p158 := eq_true p158
      replace q158 := eq_true q158
      go_wp2_with (first | ((with_reducible refine gate_callee (f := 46) rfl ?_); refine cl_ (some 15) Tryz.func46 #[.int .i64 (rd l0_1 x9_1)] ?_; (with_reducible refine (impl_dimension.calls (rd l0_1 x9_1) t159 _ A7.out).mono ?_); rintro e w' ⟨rfl, ⟨nd, rfl⟩⟩; refine ⟨_, rfl, ?_⟩))
      go_roundg k1
      case measure => have := HK1.out; omega
      case rel => exact ⟨(wrap64 (x3_1 + (wrap64 (1 - (wrap64 (2 * (Int.tmod t159 2))))))), (wrap64 (x9_1 + 1)), (by first | rfl | (simp; done) | (simp [*]; done)), (by first | rfl | (simp; done) | (simp [*]; done)), H', ⟨by have := HK1.out; omega⟩, ⟨pB BK157⟩, ⟨pH HB⟩⟩
     ·rw [if_neg c6] at H
      exact absurd H (by simp)
    ·rw [if_neg c5] at H
     exact absurd H (by simp)
   ·rw [if_neg c4] at H
    have c4b0 : decide (x9_1 < (l0_1.length : Int)) = false := decide_eq_false c4
    clear c4
    obtain rfl := Option.some.inj H
    go_wp2
    go_ret
    exact ⟨by first | rfl | (simp [errW_none, errW_some] <;> rfl) | (simp [*, errW_none, errW_some] <;> rfl) | (exfalso; simp_all), pH HB⟩
def impl_EulerNumber.f (k : Nat) (a0_0 : Int) (l0_1 : List Int) : Option (Int × Int) := (impl_complexCode.f a0_0 l0_1 (fnp 27)).bind fun t161 => (if t161 = 0 then ((impl_Complex_euler.f k a0_0 l0_1).bind fun t162 => (some (t162, 0))) else (some (0, t161)))
set_option maxHeartbeats 8000000 in
set_option maxRecDepth 100000 in
theorem impl_EulerNumber.calls (k : Nat) (a0_0 : Int) (A0_1 : Option Addr) (c0_1 : Nat) (l0_1 : List Int) (r1 : Int) (r2 : Int) (w : World) (hr0_1 : Kd.C (Kd.int .i64) w A0_1 l0_1.length l0_1) (hc0_1 : l0_1.length ≤ c0_1) (h : impl_EulerNumber.f k a0_0 l0_1 = some (r1, r2)) :
  Calls Tryz.prog 18 #[.agg #[.int .i64 a0_0, .slice A0_1 l0_1.length c0_1]] w fun e w' => e = .returned (.tuple #[.int .i64 r1, .int .i64 r2]) ∧ Below w.heap.size w w' := by
 have hu26 := Tryz.underlying26
 have HR0_1 := Aside0.mk hr0_1
 have HC0_1 := Aside0.mk hc0_1
 clear hr0_1 hc0_1
 have HB := Aside0.mk (Below.refl w.heap.size w)
 have H : ((impl_complexCode.f a0_0 l0_1 (fnp 27)).bind fun t161 => (if t161 = 0 then ((impl_Complex_euler.f k a0_0 l0_1).bind fun t162 => (some (t162, 0))) else (some (0, t161)))) = some (r1, r2) := h
 clear h
 replace H := Option.bind_eq_some_iff.mp H
 obtain ⟨t161, A20, H⟩ := H
 try dsimp only at H
 have A2 := Aside0.mk A20
 clear A20
 by_cases c3 : t161 = 0
 ·rw [if_pos c3] at H
  have c3b0 : (t161 == 0) = true := beq_iff_eq.mpr c3
  have c3b1 : (t161 != 0) = false := bne_eq_false_iff_eq.mpr c3
  clear c3
  replace H := Option.bind_eq_some_iff.mp H
  obtain ⟨t162, A40, H⟩ := H
  try dsimp only at H
  have A4 := Aside0.mk A40
  clear A40
  simp only [Option.some.injEq, Prod.mk.injEq] at H
  obtain ⟨rfl, rfl⟩ := H
  go_enter Tryz.func18, Tryz.ntmps18
  go_wp2_with (first | ((with_reducible refine gate_dst (N := 1) rfl ?_); refine box_event ?hg (N := 1) ?hd (cs := #[.int .i64 a0_0, .slice A0_1 l0_1.length c0_1]) (t := 26) ?hr ?_; (case hd => rfl); (case hg => rfl); (case hr => first | (go_simp; done) | (go_simp; rfl)); intro gb160 hg w5 hbox hb; have BK160 := Aside0.mk (hbox); have GW160 := gH HB hg; have GE160 := gH HB hg; replace HB := sH HB hb; clear hb hbox hg; have hcz6_0 : w5.cell? ⟨gb160, 0, none⟩ = some (.int .i64 a0_0) := cB BK160 0; have hcz6_1 : w5.cell? ⟨gb160, 1, none⟩ = some (.slice A0_1 l0_1.length c0_1) := cB BK160 1; have hfz6_0 := zB BK160 0; have hfz6_1 := zB BK160 1) | ((with_reducible refine gate_callee (f := 26) rfl ?_); refine cl_ (some 6) Tryz.func26 #[.agg #[.int .i64 a0_0, .slice A0_1 l0_1.length c0_1], .func (.func 27) #[] #[]] ?_; (with_reducible refine (impl_complexCode.calls a0_0 _ _ l0_1 _ (fnp 27) t161 _ ?side1 ?side2 ?side3 A2.out).mono ?_); (case side1 => exact pC ((Kd.C_below HR0_1.out HB.out))); (case side2 => exact HC0_1.out); (case side3 => exact fnp_ok_27 _); rintro e w7 ⟨rfl, hb⟩; refine ⟨_, rfl, ?_⟩; replace BK160 := sB BK160 hb; replace HB := sH HB hb; (try clear hb); (try clear hi); have hcz8_0 : w7.cell? ⟨gb160, 0, none⟩ = some (.int .i64 a0_0) := cB BK160 0; have hcz8_1 : w7.cell? ⟨gb160, 1, none⟩ = some (.slice A0_1 l0_1.length c0_1) := cB BK160 1; have hfz8_0 := zB BK160 0; have hfz8_1 := zB BK160 1) | ((with_reducible refine gate_callee (f := 35) rfl ?_); refine cl_ (some 11) Tryz.func35 #[.agg #[.int .i64 a0_0, .slice A0_1 l0_1.length c0_1]] ?_; (with_reducible refine (impl_Complex_euler.calls k a0_0 _ _ l0_1 t162 _ ?side1 ?side2 A4.out).mono ?_); (case side1 => exact pC ((Kd.C_below HR0_1.out HB.out))); (case side2 => exact HC0_1.out); rintro e w9 ⟨rfl, hb⟩; refine ⟨_, rfl, ?_⟩; replace BK160 := sB BK160 hb; replace HB := sH HB hb; (try clear hb); (try clear hi)))
  go_ret2
  exact ⟨by first | rfl | (simp [errW_none, errW_some] <;> rfl) | (simp [*, errW_none, errW_some] <;> rfl) | (exfalso; simp_all), pH HB⟩
 ·rw [if_neg c3] at H
  have c3b0 : (t161 == 0) = false := beq_eq_false_iff_ne.mpr c3
  have c3b1 : (t161 != 0) = true := bne_iff_ne.mpr c3
  simp only [Option.some.injEq, Prod.mk.injEq] at H
  obtain ⟨rfl, rfl⟩ := H
  go_enter Tryz.func18, Tryz.ntmps18
  go_wp2_with (first | ((with_reducible refine gate_dst (N := 1) rfl ?_); refine box_event ?hg (N := 1) ?hd (cs := #[.int .i64 a0_0, .slice A0_1 l0_1.length c0_1]) (t := 26) ?hr ?_; (case hd => rfl); (case hg => rfl); (case hr => first | (go_simp; done) | (go_simp; rfl)); intro gb160 hg w10 hbox hb; have BK160 := Aside0.mk (hbox); have GW160 := gH HB hg; have GE160 := gH HB hg; replace HB := sH HB hb; clear hb hbox hg; have hcz11_0 : w10.cell? ⟨gb160, 0, none⟩ = some (.int .i64 a0_0) := cB BK160 0; have hcz11_1 : w10.cell? ⟨gb160, 1, none⟩ = some (.slice A0_1 l0_1.length c0_1) := cB BK160 1; have hfz11_0 := zB BK160 0; have hfz11_1 := zB BK160 1) | ((with_reducible refine gate_callee (f := 26) rfl ?_); refine cl_ (some 6) Tryz.func26 #[.agg #[.int .i64 a0_0, .slice A0_1 l0_1.length c0_1], .func (.func 27) #[] #[]] ?_; (with_reducible refine (impl_complexCode.calls a0_0 _ _ l0_1 _ (fnp 27) t161 _ ?side1 ?side2 ?side3 A2.out).mono ?_); (case side1 => exact pC ((Kd.C_below HR0_1.out HB.out))); (case side2 => exact HC0_1.out); (case side3 => exact fnp_ok_27 _); rintro e w12 ⟨rfl, hb⟩; refine ⟨_, rfl, ?_⟩; replace BK160 := sB BK160 hb; replace HB := sH HB hb; (try clear hb); (try clear hi)))
  go_ret2
  exact ⟨by first | rfl | (simp [errW_none, errW_some] <;> rfl) | (simp [*, errW_none, errW_some] <;> rfl) | (exfalso; simp_all), pH HB⟩
end Go.Proofs.YtpnmifahfpmplaaGreat.QK
namespace Go.Proofs.YtpnmifahfpmplaaGreat.Pu
open Go.RowKit Kp Ext Im YtpnmifahfpmplaaGreatW.PrintWords YtpnmifahfpmplaaGreatW.PrintLast YtpnmifahfpmplaaGreatW.PrintMore
theorem dimK_eq {x : Int} (h0 : 0 ≤ x) (h6 : x ≤ 63) : QK.impl_dimension.f x = some (onesZ x - 1) :=
  (show QK.impl_dimension.f x = QI.impl_dimension.f x from rfl).trans (dim_eq h0 h6)
theorem countK_loop (D : Nat) (l : List Int) (hr : ∀ x ∈ l, (1 ≤ x ∧ x ≤ 63) ∧ 1 ≤ onesZ x ∧ onesZ x ≤ (D : Int)) (hm : l.length ≤ 1048576) :
    ∀ d (i : Nat), l.length - i = d → i ≤ l.length → Ev (fun k => QK.impl_Complex_count.l0 k (cntL D (l.take i)) l (l.length : Int) i) (cntL D l) := by
  intro d
  induction d with
  | zero =>
    intro i hd hi
    rw [List.take_of_length_le (by omega)]
    refine Ev.step (f := fun k => some (cntL D l)) (fun k => ?_) (Ev.now _)
    simp only [QK.impl_Complex_count.l0]; rw [if_neg (by omega)]
  | succ d ih =>
    intro i hd hi
    have hi' : i < l.length := by omega
    obtain ⟨hx, hx1, hx2⟩ := hr _ (List.getElem_mem hi')
    obtain ⟨e, he⟩ : ∃ e : Nat, onesZ l[i] = ((e + 1 : Nat) : Int) := ⟨(onesZ l[i]).toNat - 1, by omega⟩
    have heD : e < D := by omega
    have hle := cntL_le (D := D) (d := e) (l.take i)
    rw [List.length_take] at hle
    have hlen := cntL_len D (l.take i)
    refine Ev.step (f := fun k => QK.impl_Complex_count.l0 k (cntL D (l.take (i + 1))) l (l.length : Int) ((i + 1 : Nat) : Int)) (fun k => ?_) (ih (i + 1) (by omega) (by omega))
    simp only [QK.impl_Complex_count.l0]
    rw [if_pos (by omega), if_pos (by omega), if_pos (by omega), rd_at' hi', dimK_eq (by omega) (by omega)]
    simp only [Option.bind_some]
    rw [he, show ((e + 1 : Nat) : Int) - 1 = (e : Int) by omega, if_pos (by omega), if_pos (by omega)]
    have hrd : rd (cntL D (l.take i)) (e : Int) = (cntL D (l.take i))[e]?.getD 0 := by simp [rd, List.getD_eq_getElem?_getD]
    rw [hrd, w64' (by omega) (by omega), Int.toNat_natCast, cntL_snoc (l.take i) l[i] heD he, show wrap64 ((i : Int) + 1) = ((i + 1 : Nat) : Int) by rw [w64' (by omega) (by omega)]; omega]
    rw [List.take_add_one, List.getElem?_eq_getElem hi']
    rfl
theorem ev_cntK {n : Int} {l : List Int} (hi : isC n l = true) {m : List Int} (hm : ∀ x ∈ m, x ∈ l) (hl : m.length ≤ 1048576) : Ev (fun k => QK.impl_Complex_count.f k n l m) (cntL (dimL l + 1).toNat m) := by
  have hs := isC_small hi
  have h63 := isC_63 hi
  obtain ⟨d1, d2, d3⟩ := dim_rng l
  obtain ⟨D, hD⟩ := Int.eq_ofNat_of_zero_le (show 0 ≤ dimL l + 1 by omega)
  have hdm : impl_Complex_dimension.f n l = some (dimL l) := by unfold impl_Complex_dimension.f; rw [if_pos hi]
  unfold QK.impl_Complex_count.f
  simp only [hdm, Option.bind_some]
  rw [w64 (by omega) (by omega), hD]
  simp only [if_pos (show (0 : Int) ≤ (D : Int) by omega), Int.toNat_natCast, if_pos (show D ≤ 35184372088832 by omega)]
  have := countK_loop D m (fun x hx => ⟨h63 x (hm x hx), ones1 (h63 x (hm x hx)), by have := d3 x (hm x hx); omega⟩) hl _ 0 rfl (Nat.zero_le _)
  rw [List.take_zero, cntL_nil] at this
  exact this
theorem crit_cloK (f : Int) : (QK.clo_43 f).sort = 2 ∧ ∀ q : Pr, 0 ≤ q.f0 → q.f0 ≤ 63 → 0 ≤ q.f1 → q.f1 ≤ 63 → (QK.clo_43 f).pP q = (q.f0 == f || q.f1 == f) :=
  ofP_face (p := fun q : Pr => q.f0 == f || q.f1 == f) fun x y _ _ _ _ => by
    unfold QK.impl_Complex_critical_1_1.f
    by_cases h : x = f <;> simp [h]
theorem okDomP_facesK {l : List Pr} (hr : FacesP l) (a : Pred) : okDomP a l = true := by
  rw [okDomP, Bool.or_eq_true]
  refine .inr (List.all_eq_true.2 fun q hq => ?_)
  have := hr q hq
  simp; omega
theorem any_congr_memK {α : Type} {p q : α → Bool} {l : List α} (h : ∀ x ∈ l, p x = q x) : l.any p = l.any q := by
  induction l with
  | nil => rfl
  | cons a l ih => rw [List.any_cons, List.any_cons, h a (by simp), ih (fun x hx => h x (by simp [hx]))]
theorem crit1_fK {l : List Pr} (hl : l.length ≤ 1048576) (hr : FacesP l) (f : Int) : QK.impl_Complex_critical_1.f f l = some (!critP l f) := by
  obtain ⟨s1, p1⟩ := crit_cloK f
  unfold QK.impl_Complex_critical_1.f slices_ContainsFunc_impl_Pair_impl_Pair.f
  rw [if_pos ⟨by omega, s1, okDomP_facesK hr _⟩, Option.bind_some]
  unfold critP
  rw [Bool.not_not, any_congr_memK fun q hq => by have := hr q hq; exact p1 q (by omega) (by omega) (by omega) (by omega)]
theorem crit_fK {n : Int} {xs : List Int} (hi : isC n xs = true) {l : List Pr} (hl : l.length ≤ 1048576) (hr : FacesP l) : QK.impl_Complex_critical.f n xs l = some (critL xs l) := by
  have hs := isC_small hi
  have r := isC_63 hi
  obtain ⟨s2, _, p2⟩ := ofI_face (f := fun x => QK.impl_Complex_critical_1.f x l) (p := fun x => !critP l x) (fun x _ _ => crit1_fK hl hr x)
  have hd : okDom (QK.clo_41 l) xs = true := by
    rw [okDom, Bool.or_eq_true]
    refine .inr (List.all_eq_true.2 fun x hx => ?_)
    have := r x hx
    simp; omega
  unfold QK.impl_Complex_critical.f slices_Clone_int64_int64.f slices_DeleteFunc_int64_int64.f
  rw [if_pos (by omega), Option.bind_some, if_pos ⟨by omega, s2, hd⟩, Option.bind_some]
  unfold critL
  refine congrArg some (List.filter_congr fun x hx => ?_)
  have := r x hx
  rw [show (QK.clo_41 l).pI x = !critP l x from p2 x (by omega) (by omega), Bool.not_not]
end Go.Proofs.YtpnmifahfpmplaaGreat.Pu
namespace Go.Proofs.YtpnmifahfpmplaaGreat.QS
open Cw Kp Ext Go.RowKit YtpnmifahfpmplaaGreatW.PrintWords YtpnmifahfpmplaaGreatW.PrintLast YtpnmifahfpmplaaGreatW.PrintMore
attribute [local go_sem] max2_int min2_int max_two min_two max_three min_three max_four min_four   -- for this text's walks alone
def spec_CriticalFaces.f (k : Nat) (a0_0 : Int) (l0_1 : List Int) (l1 : List (S57)) : Option (List Int × Int) := (spec_l02Code.f k a0_0 l0_1 l1 ([] : List Int)).bind fun t162 => (if t162 = 0 then ((spec_l02Critical.f k a0_0 l0_1 l1).bind fun t163 => (some (t163, 0))) else (some (([] : List Int), t162)))
set_option maxHeartbeats 8000000 in
set_option maxRecDepth 100000 in
theorem spec_CriticalFaces.calls (k : Nat) (a0_0 : Int) (A0_1 : Option Addr) (c0_1 : Nat) (l0_1 : List Int) (A1 : Option Addr) (c1 : Nat) (l1 : List (S57)) (r1 : List Int) (r2 : Int) (w : World) (hr0_1 : Kd.C (Kd.int .i64) w A0_1 l0_1.length l0_1) (hc0_1 : l0_1.length ≤ c0_1) (hr1 : Kd.C k57 w A1 l1.length l1) (hc1 : l1.length ≤ c1) (h : spec_CriticalFaces.f k a0_0 l0_1 l1 = some (r1, r2)) :
  Calls Tryz.prog 7 #[.agg #[.int .i64 a0_0, .slice A0_1 l0_1.length c0_1], .slice A1 l1.length c1] w fun e w' => ∃ v0_ : Value, e = .returned (.tuple #[v0_, .int .i64 r2]) ∧ Kd.R (Kd.int .i64) 2 w' w.heap.size (fun _ => True) v0_ r1 ∧ Below w.heap.size w w' := by
 have hu26 := Tryz.underlying26
 have HR0_1 := Aside0.mk hr0_1
 have HC0_1 := Aside0.mk hc0_1
 clear hr0_1 hc0_1
 have HR1 := Aside0.mk hr1
 have HC1 := Aside0.mk hc1
 clear hr1 hc1
 have HB := Aside0.mk (Below.refl w.heap.size w)
 have H : ((spec_l02Code.f k a0_0 l0_1 l1 ([] : List Int)).bind fun t162 => (if t162 = 0 then ((spec_l02Critical.f k a0_0 l0_1 l1).bind fun t163 => (some (t163, 0))) else (some (([] : List Int), t162)))) = some (r1, r2) := h
 clear h
 replace H := Option.bind_eq_some_iff.mp H
 obtain ⟨t162, A30, H⟩ := H
 try dsimp only at H
 have A3 := Aside0.mk A30
 clear A30
 by_cases c4 : t162 = 0
 ·rw [if_pos c4] at H
  have c4b0 : (t162 == 0) = true := beq_iff_eq.mpr c4
  have c4b1 : (t162 != 0) = false := bne_eq_false_iff_eq.mpr c4
  clear c4
  replace H := Option.bind_eq_some_iff.mp H
  obtain ⟨t163, A50, H⟩ := H
  try dsimp only at H
  have A5 := Aside0.mk A50
  clear A50
  simp only [Option.some.injEq, Prod.mk.injEq] at H
  obtain ⟨rfl, rfl⟩ := H
  go_enter Tryz.func7, Tryz.ntmps7
  go_wp2_with (first | ((with_reducible refine gate_dst (N := 2) rfl ?_); refine box_event ?hg (N := 2) ?hd (cs := #[.int .i64 a0_0, .slice A0_1 l0_1.length c0_1]) (t := 26) ?hr ?_; (case hd => rfl); (case hg => rfl); (case hr => first | (go_simp; done) | (go_simp; rfl)); intro gb161 hg w6 hbox hb; have BK161 := Aside0.mk (hbox); have GW161 := gH HB hg; have GE161 := gH HB hg; replace HB := sH HB hb; clear hb hbox hg; have hcz7_0 : w6.cell? ⟨gb161, 0, none⟩ = some (.int .i64 a0_0) := cB BK161 0; have hcz7_1 : w6.cell? ⟨gb161, 1, none⟩ = some (.slice A0_1 l0_1.length c0_1) := cB BK161 1; have hfz7_0 := zB BK161 0; have hfz7_1 := zB BK161 1) | ((with_reducible refine gate_callee (f := 22) rfl ?_); refine cl_ (some 9) Tryz.func22 #[.agg #[.int .i64 a0_0, .slice A0_1 l0_1.length c0_1], .slice A1 l1.length c1, .slice none 0 0] ?_; (refine (spec_l02Code.calls k a0_0 _ _ l0_1 _ _ l1 _ _ ([] : List Int) t162 _ ?side1 ?side2 ?side3 ?side4 ?side5 ?side6 A3.out).mono ?_); (case side1 => exact pC ((Kd.C_below HR0_1.out HB.out))); (case side2 => exact HC0_1.out); (case side3 => exact pC ((Kd.C_below HR1.out HB.out))); (case side4 => exact HC1.out); (case side5 => exact Kd.C_nil _ _); (case side6 => exact Nat.le_refl _); rintro e w8 ⟨rfl, hb⟩; refine ⟨_, rfl, ?_⟩; replace BK161 := sB BK161 hb; replace HB := sH HB hb; (try clear hb); (try clear hi); have hcz9_0 : w8.cell? ⟨gb161, 0, none⟩ = some (.int .i64 a0_0) := cB BK161 0; have hcz9_1 : w8.cell? ⟨gb161, 1, none⟩ = some (.slice A0_1 l0_1.length c0_1) := cB BK161 1; have hfz9_0 := zB BK161 0; have hfz9_1 := zB BK161 1) | ((with_reducible refine gate_callee (f := 23) rfl ?_); refine cl_ (some 15) Tryz.func23 #[.agg #[.int .i64 a0_0, .slice A0_1 l0_1.length c0_1], .slice A1 l1.length c1] ?_; (with_reducible refine (spec_l02Critical.calls k a0_0 _ _ l0_1 _ _ l1 t163 _ ?side1 ?side2 ?side3 ?side4 A5.out).mono ?_); (case side1 => exact pC ((Kd.C_below HR0_1.out HB.out))); (case side2 => exact HC0_1.out); (case side3 => exact pC ((Kd.C_below HR1.out HB.out))); (case side4 => exact HC1.out); rintro e w10 ⟨v164, rfl, ho0, hb⟩; refine ⟨_, rfl, ?_⟩; have HO165 := Aside0.mk (Kd.R_lower ho0 (below_size (pH HB))); replace BK161 := sB BK161 hb; replace HB := sH HB hb; (try clear hb); (try clear hi); (try clear ho0)))
  go_ret2
  exact ⟨_, by first | rfl | (simp [errW_none, errW_some] <;> rfl) | (simp [*, errW_none, errW_some] <;> rfl) | (exfalso; simp_all), by (with_reducible repeat (first | apply Kd.R_alloc | apply Kd.R_drewN | apply Kd.R_drew)); exact HO165.out, pH HB⟩
 ·rw [if_neg c4] at H
  have c4b0 : (t162 == 0) = false := beq_eq_false_iff_ne.mpr c4
  have c4b1 : (t162 != 0) = true := bne_iff_ne.mpr c4
  simp only [Option.some.injEq, Prod.mk.injEq] at H
  obtain ⟨rfl, rfl⟩ := H
  go_enter Tryz.func7, Tryz.ntmps7
  go_wp2_with (first | ((with_reducible refine gate_dst (N := 2) rfl ?_); refine box_event ?hg (N := 2) ?hd (cs := #[.int .i64 a0_0, .slice A0_1 l0_1.length c0_1]) (t := 26) ?hr ?_; (case hd => rfl); (case hg => rfl); (case hr => first | (go_simp; done) | (go_simp; rfl)); intro gb161 hg w11 hbox hb; have BK161 := Aside0.mk (hbox); have GW161 := gH HB hg; have GE161 := gH HB hg; replace HB := sH HB hb; clear hb hbox hg; have hcz12_0 : w11.cell? ⟨gb161, 0, none⟩ = some (.int .i64 a0_0) := cB BK161 0; have hcz12_1 : w11.cell? ⟨gb161, 1, none⟩ = some (.slice A0_1 l0_1.length c0_1) := cB BK161 1; have hfz12_0 := zB BK161 0; have hfz12_1 := zB BK161 1) | ((with_reducible refine gate_callee (f := 22) rfl ?_); refine cl_ (some 9) Tryz.func22 #[.agg #[.int .i64 a0_0, .slice A0_1 l0_1.length c0_1], .slice A1 l1.length c1, .slice none 0 0] ?_; (refine (spec_l02Code.calls k a0_0 _ _ l0_1 _ _ l1 _ _ ([] : List Int) t162 _ ?side1 ?side2 ?side3 ?side4 ?side5 ?side6 A3.out).mono ?_); (case side1 => exact pC ((Kd.C_below HR0_1.out HB.out))); (case side2 => exact HC0_1.out); (case side3 => exact pC ((Kd.C_below HR1.out HB.out))); (case side4 => exact HC1.out); (case side5 => exact Kd.C_nil _ _); (case side6 => exact Nat.le_refl _); rintro e w13 ⟨rfl, hb⟩; refine ⟨_, rfl, ?_⟩; replace BK161 := sB BK161 hb; replace HB := sH HB hb; (try clear hb); (try clear hi)))
  go_ret2
  exact ⟨_, by first | rfl | (simp [errW_none, errW_some] <;> rfl) | (simp [*, errW_none, errW_some] <;> rfl) | (exfalso; simp_all), by first | exact Kd.R_nil _ _ _ _ _ | exact Kd.N_nil _ _ _ _ _ | exact Kd.V_nil _ _ _ _ _ | exact Kd.Q_nil _ _ _ _ _ | exact Kd.S_nil _ _ _ _ _, pH HB⟩
def spec_CriticalNumbers.f (k : Nat) (a0_0 : Int) (l0_1 : List Int) (l1 : List (S57)) : Option (List Int × Int) := (spec_l02Code.f k a0_0 l0_1 l1 ([] : List Int)).bind fun t181 => (if t181 = 0 then ((spec_l02Numbers.f k a0_0 l0_1 l1).bind fun t182 => (some (t182, 0))) else (some (([] : List Int), t181)))
set_option maxHeartbeats 8000000 in
set_option maxRecDepth 100000 in
theorem spec_CriticalNumbers.calls (k : Nat) (a0_0 : Int) (A0_1 : Option Addr) (c0_1 : Nat) (l0_1 : List Int) (A1 : Option Addr) (c1 : Nat) (l1 : List (S57)) (r1 : List Int) (r2 : Int) (w : World) (hr0_1 : Kd.C (Kd.int .i64) w A0_1 l0_1.length l0_1) (hc0_1 : l0_1.length ≤ c0_1) (hr1 : Kd.C k57 w A1 l1.length l1) (hc1 : l1.length ≤ c1) (h : spec_CriticalNumbers.f k a0_0 l0_1 l1 = some (r1, r2)) :
  Calls Tryz.prog 10 #[.agg #[.int .i64 a0_0, .slice A0_1 l0_1.length c0_1], .slice A1 l1.length c1] w fun e w' => ∃ v0_ : Value, e = .returned (.tuple #[v0_, .int .i64 r2]) ∧ Kd.R (Kd.int .i64) 2 w' w.heap.size (fun _ => True) v0_ r1 ∧ Below w.heap.size w w' := by
 have hu26 := Tryz.underlying26
 have HR0_1 := Aside0.mk hr0_1
 have HC0_1 := Aside0.mk hc0_1
 clear hr0_1 hc0_1
 have HR1 := Aside0.mk hr1
 have HC1 := Aside0.mk hc1
 clear hr1 hc1
 have HB := Aside0.mk (Below.refl w.heap.size w)
 have H : ((spec_l02Code.f k a0_0 l0_1 l1 ([] : List Int)).bind fun t181 => (if t181 = 0 then ((spec_l02Numbers.f k a0_0 l0_1 l1).bind fun t182 => (some (t182, 0))) else (some (([] : List Int), t181)))) = some (r1, r2) := h
 clear h
 replace H := Option.bind_eq_some_iff.mp H
 obtain ⟨t181, A30, H⟩ := H
 try dsimp only at H
 have A3 := Aside0.mk A30
 clear A30
 by_cases c4 : t181 = 0
 ·rw [if_pos c4] at H
  have c4b0 : (t181 == 0) = true := beq_iff_eq.mpr c4
  have c4b1 : (t181 != 0) = false := bne_eq_false_iff_eq.mpr c4
  clear c4
  replace H := Option.bind_eq_some_iff.mp H
  obtain ⟨t182, A50, H⟩ := H
  try dsimp only at H
  have A5 := Aside0.mk A50
  clear A50
  simp only [Option.some.injEq, Prod.mk.injEq] at H
  obtain ⟨rfl, rfl⟩ := H
  go_enter Tryz.func10, Tryz.ntmps10
  go_wp2_with (first | ((with_reducible refine gate_dst (N := 2) rfl ?_); refine box_event ?hg (N := 2) ?hd (cs := #[.int .i64 a0_0, .slice A0_1 l0_1.length c0_1]) (t := 26) ?hr ?_; (case hd => rfl); (case hg => rfl); (case hr => first | (go_simp; done) | (go_simp; rfl)); intro gb180 hg w6 hbox hb; have BK180 := Aside0.mk (hbox); have GW180 := gH HB hg; have GE180 := gH HB hg; replace HB := sH HB hb; clear hb hbox hg; have hcz7_0 : w6.cell? ⟨gb180, 0, none⟩ = some (.int .i64 a0_0) := cB BK180 0; have hcz7_1 : w6.cell? ⟨gb180, 1, none⟩ = some (.slice A0_1 l0_1.length c0_1) := cB BK180 1; have hfz7_0 := zB BK180 0; have hfz7_1 := zB BK180 1) | ((with_reducible refine gate_callee (f := 22) rfl ?_); refine cl_ (some 9) Tryz.func22 #[.agg #[.int .i64 a0_0, .slice A0_1 l0_1.length c0_1], .slice A1 l1.length c1, .slice none 0 0] ?_; (refine (spec_l02Code.calls k a0_0 _ _ l0_1 _ _ l1 _ _ ([] : List Int) t181 _ ?side1 ?side2 ?side3 ?side4 ?side5 ?side6 A3.out).mono ?_); (case side1 => exact pC ((Kd.C_below HR0_1.out HB.out))); (case side2 => exact HC0_1.out); (case side3 => exact pC ((Kd.C_below HR1.out HB.out))); (case side4 => exact HC1.out); (case side5 => exact Kd.C_nil _ _); (case side6 => exact Nat.le_refl _); rintro e w8 ⟨rfl, hb⟩; refine ⟨_, rfl, ?_⟩; replace BK180 := sB BK180 hb; replace HB := sH HB hb; (try clear hb); (try clear hi); have hcz9_0 : w8.cell? ⟨gb180, 0, none⟩ = some (.int .i64 a0_0) := cB BK180 0; have hcz9_1 : w8.cell? ⟨gb180, 1, none⟩ = some (.slice A0_1 l0_1.length c0_1) := cB BK180 1; have hfz9_0 := zB BK180 0; have hfz9_1 := zB BK180 1) | ((with_reducible refine gate_callee (f := 25) rfl ?_); refine cl_ (some 15) Tryz.func25 #[.agg #[.int .i64 a0_0, .slice A0_1 l0_1.length c0_1], .slice A1 l1.length c1] ?_; (with_reducible refine (spec_l02Numbers.calls k a0_0 _ _ l0_1 _ _ l1 t182 _ ?side1 ?side2 ?side3 ?side4 A5.out).mono ?_); (case side1 => exact pC ((Kd.C_below HR0_1.out HB.out))); (case side2 => exact HC0_1.out); (case side3 => exact pC ((Kd.C_below HR1.out HB.out))); (case side4 => exact HC1.out); rintro e w10 ⟨v183, rfl, ho0, hb⟩; refine ⟨_, rfl, ?_⟩; have HO184 := Aside0.mk (Kd.R_lower ho0 (below_size (pH HB))); replace BK180 := sB BK180 hb; replace HB := sH HB hb; (try clear hb); (try clear hi); (try clear ho0)))
  go_ret2
  exact ⟨_, by first | rfl | (simp [errW_none, errW_some] <;> rfl) | (simp [*, errW_none, errW_some] <;> rfl) | (exfalso; simp_all), by (with_reducible repeat (first | apply Kd.R_alloc | apply Kd.R_drewN | apply Kd.R_drew)); exact HO184.out, pH HB⟩
 ·rw [if_neg c4] at H
  have c4b0 : (t181 == 0) = false := beq_eq_false_iff_ne.mpr c4
  have c4b1 : (t181 != 0) = true := bne_iff_ne.mpr c4
  simp only [Option.some.injEq, Prod.mk.injEq] at H
  obtain ⟨rfl, rfl⟩ := H
  go_enter Tryz.func10, Tryz.ntmps10
  go_wp2_with (first | ((with_reducible refine gate_dst (N := 2) rfl ?_); refine box_event ?hg (N := 2) ?hd (cs := #[.int .i64 a0_0, .slice A0_1 l0_1.length c0_1]) (t := 26) ?hr ?_; (case hd => rfl); (case hg => rfl); (case hr => first | (go_simp; done) | (go_simp; rfl)); intro gb180 hg w11 hbox hb; have BK180 := Aside0.mk (hbox); have GW180 := gH HB hg; have GE180 := gH HB hg; replace HB := sH HB hb; clear hb hbox hg; have hcz12_0 : w11.cell? ⟨gb180, 0, none⟩ = some (.int .i64 a0_0) := cB BK180 0; have hcz12_1 : w11.cell? ⟨gb180, 1, none⟩ = some (.slice A0_1 l0_1.length c0_1) := cB BK180 1; have hfz12_0 := zB BK180 0; have hfz12_1 := zB BK180 1) | ((with_reducible refine gate_callee (f := 22) rfl ?_); refine cl_ (some 9) Tryz.func22 #[.agg #[.int .i64 a0_0, .slice A0_1 l0_1.length c0_1], .slice A1 l1.length c1, .slice none 0 0] ?_; (refine (spec_l02Code.calls k a0_0 _ _ l0_1 _ _ l1 _ _ ([] : List Int) t181 _ ?side1 ?side2 ?side3 ?side4 ?side5 ?side6 A3.out).mono ?_); (case side1 => exact pC ((Kd.C_below HR0_1.out HB.out))); (case side2 => exact HC0_1.out); (case side3 => exact pC ((Kd.C_below HR1.out HB.out))); (case side4 => exact HC1.out); (case side5 => exact Kd.C_nil _ _); (case side6 => exact Nat.le_refl _); rintro e w13 ⟨rfl, hb⟩; refine ⟨_, rfl, ?_⟩; replace BK180 := sB BK180 hb; replace HB := sH HB hb; (try clear hb); (try clear hi)))
  go_ret2
  exact ⟨_, by first | rfl | (simp [errW_none, errW_some] <;> rfl) | (simp [*, errW_none, errW_some] <;> rfl) | (exfalso; simp_all), by first | exact Kd.R_nil _ _ _ _ _ | exact Kd.N_nil _ _ _ _ _ | exact Kd.V_nil _ _ _ _ _ | exact Kd.Q_nil _ _ _ _ _ | exact Kd.S_nil _ _ _ _ _, pH HB⟩
def spec_IsPairing.f (k : Nat) (a0_0 : Int) (l0_1 : List Int) (l1 : List (S57)) : Option (Bool × Int) := (spec_l01Is.f k a0_0 l0_1).bind fun t186 => (if t186 = true then ((spec_l02Is.f k a0_0 l0_1 l1).bind fun t187 => (some (t187, 0))) else (some (false, 1)))
set_option maxHeartbeats 8000000 in
set_option maxRecDepth 100000 in
theorem spec_IsPairing.calls (k : Nat) (a0_0 : Int) (A0_1 : Option Addr) (c0_1 : Nat) (l0_1 : List Int) (A1 : Option Addr) (c1 : Nat) (l1 : List (S57)) (r1 : Bool) (r2 : Int) (w : World) (hr0_1 : Kd.C (Kd.int .i64) w A0_1 l0_1.length l0_1) (hc0_1 : l0_1.length ≤ c0_1) (hr1 : Kd.C k57 w A1 l1.length l1) (hc1 : l1.length ≤ c1) (h : spec_IsPairing.f k a0_0 l0_1 l1 = some (r1, r2)) :
  Calls Tryz.prog 12 #[.agg #[.int .i64 a0_0, .slice A0_1 l0_1.length c0_1], .slice A1 l1.length c1] w fun e w' => e = .returned (.tuple #[.bool r1, .int .i64 r2]) ∧ Below w.heap.size w w' := by
 have hu26 := Tryz.underlying26
 have HR0_1 := Aside0.mk hr0_1
 have HC0_1 := Aside0.mk hc0_1
 clear hr0_1 hc0_1
 have HR1 := Aside0.mk hr1
 have HC1 := Aside0.mk hc1
 clear hr1 hc1
 have HB := Aside0.mk (Below.refl w.heap.size w)
 have H : ((spec_l01Is.f k a0_0 l0_1).bind fun t186 => (if t186 = true then ((spec_l02Is.f k a0_0 l0_1 l1).bind fun t187 => (some (t187, 0))) else (some (false, 1)))) = some (r1, r2) := h
 clear h
 replace H := Option.bind_eq_some_iff.mp H
 obtain ⟨t186, A30, H⟩ := H
 try dsimp only at H
 have A3 := Aside0.mk A30
 clear A30
 by_cases c4 : t186 = true
 ·subst c4
  have H1 : ((spec_l02Is.f k a0_0 l0_1 l1).bind fun t187 => (some (t187, 0))) = some (r1, r2) := by rw [if_pos rfl] at H; exact H
  clear H
  have H := H1
  clear H1
  replace H := Option.bind_eq_some_iff.mp H
  obtain ⟨t187, A50, H⟩ := H
  try dsimp only at H
  have A5 := Aside0.mk A50
  clear A50
  simp only [Option.some.injEq, Prod.mk.injEq] at H
  obtain ⟨rfl, rfl⟩ := H
  go_enter Tryz.func12, Tryz.ntmps12
  go_wp2_with (first | ((with_reducible refine gate_dst (N := 2) rfl ?_); refine box_event ?hg (N := 2) ?hd (cs := #[.int .i64 a0_0, .slice A0_1 l0_1.length c0_1]) (t := 26) ?hr ?_; (case hd => rfl); (case hg => rfl); (case hr => first | (go_simp; done) | (go_simp; rfl)); intro gb185 hg w6 hbox hb; have BK185 := Aside0.mk (hbox); have GW185 := gH HB hg; have GE185 := gH HB hg; replace HB := sH HB hb; clear hb hbox hg; have hcz7_0 : w6.cell? ⟨gb185, 0, none⟩ = some (.int .i64 a0_0) := cB BK185 0; have hcz7_1 : w6.cell? ⟨gb185, 1, none⟩ = some (.slice A0_1 l0_1.length c0_1) := cB BK185 1; have hfz7_0 := zB BK185 0; have hfz7_1 := zB BK185 1) | ((with_reducible refine gate_callee (f := 29) rfl ?_); refine cl_ (some 7) Tryz.func29 #[.agg #[.int .i64 a0_0, .slice A0_1 l0_1.length c0_1]] ?_; (with_reducible refine (spec_l01Is.calls k a0_0 _ _ l0_1 true _ ?side1 ?side2 A3.out).mono ?_); (case side1 => exact pC ((Kd.C_below HR0_1.out HB.out))); (case side2 => exact HC0_1.out); rintro e w8 ⟨rfl, hb⟩; refine ⟨_, rfl, ?_⟩; replace BK185 := sB BK185 hb; replace HB := sH HB hb; (try clear hb); (try clear hi); have hcz9_0 : w8.cell? ⟨gb185, 0, none⟩ = some (.int .i64 a0_0) := cB BK185 0; have hcz9_1 : w8.cell? ⟨gb185, 1, none⟩ = some (.slice A0_1 l0_1.length c0_1) := cB BK185 1; have hfz9_0 := zB BK185 0; have hfz9_1 := zB BK185 1) | ((with_reducible refine gate_callee (f := 30) rfl ?_); refine cl_ (some 11) Tryz.func30 #[.agg #[.int .i64 a0_0, .slice A0_1 l0_1.length c0_1], .slice A1 l1.length c1] ?_; (with_reducible refine (spec_l02Is.calls k a0_0 _ _ l0_1 _ _ l1 t187 _ ?side1 ?side2 ?side3 ?side4 A5.out).mono ?_); (case side1 => exact pC ((Kd.C_below HR0_1.out HB.out))); (case side2 => exact HC0_1.out); (case side3 => exact pC ((Kd.C_below HR1.out HB.out))); (case side4 => exact HC1.out); rintro e w10 ⟨rfl, hb⟩; refine ⟨_, rfl, ?_⟩; replace BK185 := sB BK185 hb; replace HB := sH HB hb; (try clear hb); (try clear hi)))
  go_ret2
  exact ⟨by first | rfl | (simp [errW_none, errW_some] <;> rfl) | (simp [*, errW_none, errW_some] <;> rfl) | (exfalso; simp_all), pH HB⟩
 ·replace c4 := Bool.eq_false_iff.mpr c4
  subst c4
  have H1 : (some (false, 1)) = some (r1, r2) := by rw [if_neg (show ¬ (false = true) by decide)] at H; exact H
  clear H
  have H := H1
  clear H1
  simp only [Option.some.injEq, Prod.mk.injEq] at H
  obtain ⟨rfl, rfl⟩ := H
  go_enter Tryz.func12, Tryz.ntmps12
  go_wp2_with (first | ((with_reducible refine gate_dst (N := 2) rfl ?_); refine box_event ?hg (N := 2) ?hd (cs := #[.int .i64 a0_0, .slice A0_1 l0_1.length c0_1]) (t := 26) ?hr ?_; (case hd => rfl); (case hg => rfl); (case hr => first | (go_simp; done) | (go_simp; rfl)); intro gb185 hg w11 hbox hb; have BK185 := Aside0.mk (hbox); have GW185 := gH HB hg; have GE185 := gH HB hg; replace HB := sH HB hb; clear hb hbox hg; have hcz12_0 : w11.cell? ⟨gb185, 0, none⟩ = some (.int .i64 a0_0) := cB BK185 0; have hcz12_1 : w11.cell? ⟨gb185, 1, none⟩ = some (.slice A0_1 l0_1.length c0_1) := cB BK185 1; have hfz12_0 := zB BK185 0; have hfz12_1 := zB BK185 1) | ((with_reducible refine gate_callee (f := 29) rfl ?_); refine cl_ (some 7) Tryz.func29 #[.agg #[.int .i64 a0_0, .slice A0_1 l0_1.length c0_1]] ?_; (with_reducible refine (spec_l01Is.calls k a0_0 _ _ l0_1 false _ ?side1 ?side2 A3.out).mono ?_); (case side1 => exact pC ((Kd.C_below HR0_1.out HB.out))); (case side2 => exact HC0_1.out); rintro e w13 ⟨rfl, hb⟩; refine ⟨_, rfl, ?_⟩; replace BK185 := sB BK185 hb; replace HB := sH HB hb; (try clear hb); (try clear hi)))
  go_ret2
  exact ⟨by first | rfl | (simp [errW_none, errW_some] <;> rfl) | (simp [*, errW_none, errW_some] <;> rfl) | (exfalso; simp_all), pH HB⟩
def spec_IsAcyclicPairing.f (k : Nat) (a0_0 : Int) (l0_1 : List Int) (l1 : List (S57)) : Option (Bool × Int) := (spec_l02Code.f k a0_0 l0_1 l1 ([] : List Int)).bind fun t227 => (if t227 = 0 then ((spec_l02Acyclic.f k l1).bind fun t228 => (some (t228, 0))) else (some (false, t227)))
set_option maxHeartbeats 8000000 in
set_option maxRecDepth 100000 in
theorem spec_IsAcyclicPairing.calls (k : Nat) (a0_0 : Int) (A0_1 : Option Addr) (c0_1 : Nat) (l0_1 : List Int) (A1 : Option Addr) (c1 : Nat) (l1 : List (S57)) (r1 : Bool) (r2 : Int) (w : World) (hr0_1 : Kd.C (Kd.int .i64) w A0_1 l0_1.length l0_1) (hc0_1 : l0_1.length ≤ c0_1) (hr1 : Kd.C k57 w A1 l1.length l1) (hc1 : l1.length ≤ c1) (h : spec_IsAcyclicPairing.f k a0_0 l0_1 l1 = some (r1, r2)) :
  Calls Tryz.prog 14 #[.agg #[.int .i64 a0_0, .slice A0_1 l0_1.length c0_1], .slice A1 l1.length c1] w fun e w' => e = .returned (.tuple #[.bool r1, .int .i64 r2]) ∧ Below w.heap.size w w' := by
 have hu26 := Tryz.underlying26
 have HR0_1 := Aside0.mk hr0_1
 have HC0_1 := Aside0.mk hc0_1
 clear hr0_1 hc0_1
 have HR1 := Aside0.mk hr1
 have HC1 := Aside0.mk hc1
 clear hr1 hc1
 have HB := Aside0.mk (Below.refl w.heap.size w)
 have H : ((spec_l02Code.f k a0_0 l0_1 l1 ([] : List Int)).bind fun t227 => (if t227 = 0 then ((spec_l02Acyclic.f k l1).bind fun t228 => (some (t228, 0))) else (some (false, t227)))) = some (r1, r2) := h
 clear h
 replace H := Option.bind_eq_some_iff.mp H
 obtain ⟨t227, A30, H⟩ := H
 try dsimp only at H
 have A3 := Aside0.mk A30
 clear A30
 by_cases c4 : t227 = 0
 ·rw [if_pos c4] at H
  have c4b0 : (t227 == 0) = true := beq_iff_eq.mpr c4
  have c4b1 : (t227 != 0) = false := bne_eq_false_iff_eq.mpr c4
  clear c4
  replace H := Option.bind_eq_some_iff.mp H
  obtain ⟨t228, A50, H⟩ := H
  try dsimp only at H
  have A5 := Aside0.mk A50
  clear A50
  simp only [Option.some.injEq, Prod.mk.injEq] at H
  obtain ⟨rfl, rfl⟩ := H
  go_enter Tryz.func14, Tryz.ntmps14
  go_wp2_with (first | ((with_reducible refine gate_dst (N := 2) rfl ?_); refine box_event ?hg (N := 2) ?hd (cs := #[.int .i64 a0_0, .slice A0_1 l0_1.length c0_1]) (t := 26) ?hr ?_; (case hd => rfl); (case hg => rfl); (case hr => first | (go_simp; done) | (go_simp; rfl)); intro gb226 hg w6 hbox hb; have BK226 := Aside0.mk (hbox); have GW226 := gH HB hg; have GE226 := gH HB hg; replace HB := sH HB hb; clear hb hbox hg; have hcz7_0 : w6.cell? ⟨gb226, 0, none⟩ = some (.int .i64 a0_0) := cB BK226 0; have hcz7_1 : w6.cell? ⟨gb226, 1, none⟩ = some (.slice A0_1 l0_1.length c0_1) := cB BK226 1; have hfz7_0 := zB BK226 0; have hfz7_1 := zB BK226 1) | ((with_reducible refine gate_callee (f := 22) rfl ?_); refine cl_ (some 9) Tryz.func22 #[.agg #[.int .i64 a0_0, .slice A0_1 l0_1.length c0_1], .slice A1 l1.length c1, .slice none 0 0] ?_; (refine (spec_l02Code.calls k a0_0 _ _ l0_1 _ _ l1 _ _ ([] : List Int) t227 _ ?side1 ?side2 ?side3 ?side4 ?side5 ?side6 A3.out).mono ?_); (case side1 => exact pC ((Kd.C_below HR0_1.out HB.out))); (case side2 => exact HC0_1.out); (case side3 => exact pC ((Kd.C_below HR1.out HB.out))); (case side4 => exact HC1.out); (case side5 => exact Kd.C_nil _ _); (case side6 => exact Nat.le_refl _); rintro e w8 ⟨rfl, hb⟩; refine ⟨_, rfl, ?_⟩; replace BK226 := sB BK226 hb; replace HB := sH HB hb; (try clear hb); (try clear hi)) | ((with_reducible refine gate_callee (f := 32) rfl ?_); refine cl_ (some 14) Tryz.func32 #[.slice A1 l1.length c1] ?_; (with_reducible refine (spec_l02Acyclic.calls k _ _ l1 t228 _ ?side1 ?side2 A5.out).mono ?_); (case side1 => exact pC ((Kd.C_below HR1.out HB.out))); (case side2 => exact HC1.out); rintro e w9 ⟨rfl, hb⟩; refine ⟨_, rfl, ?_⟩; replace BK226 := sB BK226 hb; replace HB := sH HB hb; (try clear hb); (try clear hi)))
  go_ret2
  exact ⟨by first | rfl | (simp [errW_none, errW_some] <;> rfl) | (simp [*, errW_none, errW_some] <;> rfl) | (exfalso; simp_all), pH HB⟩
 ·rw [if_neg c4] at H
  have c4b0 : (t227 == 0) = false := beq_eq_false_iff_ne.mpr c4
  have c4b1 : (t227 != 0) = true := bne_iff_ne.mpr c4
  simp only [Option.some.injEq, Prod.mk.injEq] at H
  obtain ⟨rfl, rfl⟩ := H
  go_enter Tryz.func14, Tryz.ntmps14
  go_wp2_with (first | ((with_reducible refine gate_dst (N := 2) rfl ?_); refine box_event ?hg (N := 2) ?hd (cs := #[.int .i64 a0_0, .slice A0_1 l0_1.length c0_1]) (t := 26) ?hr ?_; (case hd => rfl); (case hg => rfl); (case hr => first | (go_simp; done) | (go_simp; rfl)); intro gb226 hg w10 hbox hb; have BK226 := Aside0.mk (hbox); have GW226 := gH HB hg; have GE226 := gH HB hg; replace HB := sH HB hb; clear hb hbox hg; have hcz11_0 : w10.cell? ⟨gb226, 0, none⟩ = some (.int .i64 a0_0) := cB BK226 0; have hcz11_1 : w10.cell? ⟨gb226, 1, none⟩ = some (.slice A0_1 l0_1.length c0_1) := cB BK226 1; have hfz11_0 := zB BK226 0; have hfz11_1 := zB BK226 1) | ((with_reducible refine gate_callee (f := 22) rfl ?_); refine cl_ (some 9) Tryz.func22 #[.agg #[.int .i64 a0_0, .slice A0_1 l0_1.length c0_1], .slice A1 l1.length c1, .slice none 0 0] ?_; (refine (spec_l02Code.calls k a0_0 _ _ l0_1 _ _ l1 _ _ ([] : List Int) t227 _ ?side1 ?side2 ?side3 ?side4 ?side5 ?side6 A3.out).mono ?_); (case side1 => exact pC ((Kd.C_below HR0_1.out HB.out))); (case side2 => exact HC0_1.out); (case side3 => exact pC ((Kd.C_below HR1.out HB.out))); (case side4 => exact HC1.out); (case side5 => exact Kd.C_nil _ _); (case side6 => exact Nat.le_refl _); rintro e w12 ⟨rfl, hb⟩; refine ⟨_, rfl, ?_⟩; replace BK226 := sB BK226 hb; replace HB := sH HB hb; (try clear hb); (try clear hi)))
  go_ret2
  exact ⟨by first | rfl | (simp [errW_none, errW_some] <;> rfl) | (simp [*, errW_none, errW_some] <;> rfl) | (exfalso; simp_all), pH HB⟩
def spec_FacesOnCycles.l0 : Nat → List (S57) → List Int → Int → Int → List Int → Option (List Int × Int)
 | 0, _, _, _, _, _ => none
 | k + 1, x1, x7, x8, x230000, x230001 => if x8 < (x230001.length : Int) then (if 0 ≤ x8 then ((spec_l02Reached.f k x1 (rd x230001 x8)).bind fun t235 => (if 0 ≤ (rd x230001 x8) then (if (rd x230001 x8) < (t235.length : Int) then (if rdOf false t235 (rd x230001 x8) = true then (if x7.length < 17592186044416 then (spec_FacesOnCycles.l0 k x1 (x7 ++ [rd x230001 x8]) (wrap64 (x8 + 1)) x230000 x230001) else (none)) else (spec_FacesOnCycles.l0 k x1 x7 (wrap64 (x8 + 1)) x230000 x230001)) else (none)) else (none))) else (none)) else (some (x7, 0))
def spec_FacesOnCycles.f (k : Nat) (a0_0 : Int) (l0_1 : List Int) (l1 : List (S57)) : Option (List Int × Int) := (spec_l02Code.f k a0_0 l0_1 l1 ([] : List Int)).bind fun t230 => (if t230 = 0 then (spec_FacesOnCycles.l0 k l1 (([] : List Int)) 0 a0_0 l0_1) else (some (([] : List Int), t230)))
def spec_FacesOnCycles.T8 : Bool × List (List Nat × List Nat) := (true, [([], []), ([], []), ([1], [1]), ([], []), ([2, 3], [2, 3]), ([4], [4]), ([0, 5], [0, 5]), ([], []), ([7], [7]), ([], []), ([8, 9], [8, 9]), ([10], [10]), ([6, 11], [6, 11]), ([12], [12])])
def spec_FacesOnCycles.B8 : List Nat := [0, 0, 2, 0, 14, 30, 63, 0, 128, 0, 896, 1920, 4095, 8191]
theorem spec_FacesOnCycles.tab8 : rtab .any (opsOf Tryz.f16 8) = spec_FacesOnCycles.T8 := by kernel_rfl
theorem spec_FacesOnCycles.bits8 : waitsOk spec_FacesOnCycles.T8.2 spec_FacesOnCycles.B8 = true := by kernel_rfl
set_option maxHeartbeats 8000000 in
set_option maxRecDepth 100000 in
theorem spec_FacesOnCycles.calls (k : Nat) (a0_0 : Int) (A0_1 : Option Addr) (c0_1 : Nat) (l0_1 : List Int) (A1 : Option Addr) (c1 : Nat) (l1 : List (S57)) (r1 : List Int) (r2 : Int) (w : World) (hr0_1 : Kd.C (Kd.int .i64) w A0_1 l0_1.length l0_1) (hc0_1 : l0_1.length ≤ c0_1) (hr1 : Kd.C k57 w A1 l1.length l1) (hc1 : l1.length ≤ c1) (h : spec_FacesOnCycles.f k a0_0 l0_1 l1 = some (r1, r2)) :
  Calls Tryz.prog 16 #[.agg #[.int .i64 a0_0, .slice A0_1 l0_1.length c0_1], .slice A1 l1.length c1] w fun e w' => ∃ v0_ : Value, e = .returned (.tuple #[v0_, .int .i64 r2]) ∧ Kd.R (Kd.int .i64) 2 w' w.heap.size (fun _ => True) v0_ r1 ∧ Below w.heap.size w w' := by
 have hu26 := Tryz.underlying26
 have HR0_1 := Aside0.mk hr0_1
 have HC0_1 := Aside0.mk hc0_1
 clear hr0_1 hc0_1
 have HR1 := Aside0.mk hr1
 have HC1 := Aside0.mk hc1
 clear hr1 hc1
 have HB := Aside0.mk (Below.refl w.heap.size w)
 have H : ((spec_l02Code.f k a0_0 l0_1 l1 ([] : List Int)).bind fun t230 => (if t230 = 0 then (spec_FacesOnCycles.l0 k l1 (([] : List Int)) 0 a0_0 l0_1) else (some (([] : List Int), t230)))) = some (r1, r2) := h
 clear h
 replace H := Option.bind_eq_some_iff.mp H
 obtain ⟨t230, A30, H⟩ := H
 try dsimp only at H
 have A3 := Aside0.mk A30
 clear A30
 by_cases c4 : t230 = 0
 ·rw [if_pos c4] at H
  have c4b0 : (t230 == 0) = true := beq_iff_eq.mpr c4
  have c4b1 : (t230 != 0) = false := bne_eq_false_iff_eq.mpr c4
  clear c4
  obtain ⟨y231, hy231⟩ : ∃ y_ : List Int, y_ = (([] : List Int)) := ⟨_, rfl⟩
  replace H : (spec_FacesOnCycles.l0 k l1 y231 0 a0_0 l0_1) = some (r1, r2) := by first | (rw [hy231]; with_reducible exact H) | (have H2_ := (Option.bind_some _ _).symm.trans H; rw [hy231]; with_reducible exact H2_) | (have H2_ := (Option.bind_some _ _).symm.trans H; with_reducible exact H2_) | with_reducible exact H | (rw [hy231]; exact H) | exact H
  have Ny231 := Aside0.mk hy231
  clear hy231
  have H' := Aside0.mk H
  clear H
  go_enter Tryz.func16, Tryz.ntmps16
  go_wp2_with (first | ((with_reducible refine gate_dst (N := 2) rfl ?_); refine box_event ?hg (N := 2) ?hd (cs := #[.int .i64 a0_0, .slice A0_1 l0_1.length c0_1]) (t := 26) ?hr ?_; (case hd => rfl); (case hg => rfl); (case hr => first | (go_simp; done) | (go_simp; rfl)); intro gb229 hg w5 hbox hb; have BK229 := Aside0.mk (hbox); have GW229 := gH HB hg; have GE229 := gH HB hg; replace HB := sH HB hb; clear hb hbox hg; have hcz6_0 : w5.cell? ⟨gb229, 0, none⟩ = some (.int .i64 a0_0) := cB BK229 0; have hcz6_1 : w5.cell? ⟨gb229, 1, none⟩ = some (.slice A0_1 l0_1.length c0_1) := cB BK229 1; have hfz6_0 := zB BK229 0; have hfz6_1 := zB BK229 1) | ((with_reducible refine gate_callee (f := 22) rfl ?_); refine cl_ (some 11) Tryz.func22 #[.agg #[.int .i64 a0_0, .slice A0_1 l0_1.length c0_1], .slice A1 l1.length c1, .slice none 0 0] ?_; (refine (spec_l02Code.calls k a0_0 _ _ l0_1 _ _ l1 _ _ ([] : List Int) t230 _ ?side1 ?side2 ?side3 ?side4 ?side5 ?side6 A3.out).mono ?_); (case side1 => exact pC ((Kd.C_below HR0_1.out HB.out))); (case side2 => exact HC0_1.out); (case side3 => exact pC ((Kd.C_below HR1.out HB.out))); (case side4 => exact HC1.out); (case side5 => exact Kd.C_nil _ _); (case side6 => exact Nat.le_refl _); rintro e w7 ⟨rfl, hb⟩; refine ⟨_, rfl, ?_⟩; replace BK229 := sB BK229 hb; replace HB := sH HB hb; (try clear hb); (try clear hi)) | ((with_reducible refine gate_dst (N := 15) rfl ?_); refine Kd.R_lit (Kd.int .i64) _ 2 ?hg (N := 15) ?hd (xs := ([] : List Int)) (inner := []) (ok := fun _ => True) (okp := fun _ => True) ?hr ?hp (fun _ hk => hk) trivial (Below.refl _ _) (Nat.le_refl _) (by simp) ?_; (case hd => rfl); (case hg => rfl); (case hr => first | (go_simp; done) | (go_simp; rfl)); (case hp => exact (Reps.none _ _)); intro v232 w8 ho9 hb hg_ hnew_; clear hg_ hnew_; (first | rw [← Ny231.out] at ho9 | (simp only [Int.reduceToNat] at ho9; rw [← Ny231.out] at ho9)); have HO233 := Aside0.mk (Kd.R_lower ho9 (below_size (pH HB))); replace BK229 := sB BK229 hb; replace HB := sH HB hb; clear hb ho9))
  go_loopg [7, 8] k (fun kq v7 v8 w' => ∃ (x7_1 : List Int) (x8_1 : Int), v8 = .int .i64 x8_1 ∧ Aside0 (spec_FacesOnCycles.l0 kq l1 x7_1 x8_1 a0_0 l0_1 = some (r1, r2)) ∧ Aside0 (kq ≤ k) ∧ Aside0 (Kd.R (Kd.int .i64) 2 w' w.heap.size (fun _ => True) v7 x7_1) ∧ Aside0 (w'.heap[gb229]? = some (.cells #[.int .i64 a0_0, (.slice A0_1 l0_1.length c0_1)] 26 (0, 0))) ∧ Aside0 (Below w.heap.size w w'))
  case atStart => exact ⟨(y231), (0), (by first | rfl | (simp; done) | (simp [*]; done)), H', ⟨Nat.le_refl _⟩, ⟨by (with_reducible repeat (first | apply Kd.R_alloc | apply Kd.R_drewN | apply Kd.R_drew)); exact HO233.out⟩, ⟨pB BK229⟩, ⟨pH HB⟩⟩
  case round =>
   clear H'
   try clear c1
   try clear c2
   try clear p2
   try clear c4
   try clear c4b0
   try clear c4b1
   try clear hcz6_0
   try clear hcz6_1
   try clear hfz6_0
   try clear hfz6_1
   obtain ⟨x7_1, x8_1, rfl, HA, HK1, HO_7, BK229, HB⟩ := hrel
   cases gk with
   | zero => exact absurd HA.out (by simp [spec_FacesOnCycles.l0])
   | succ k1 =>
    have H := HA.out
    clear HA
    simp only [spec_FacesOnCycles.l0] at H
    by_cases c10 : x8_1 < (l0_1.length : Int)
    ·rw [if_pos c10] at H
     have c10b0 : decide (x8_1 < (l0_1.length : Int)) = true := decide_eq_true c10
     clear c10
     by_cases c11 : 0 ≤ x8_1
     ·rw [if_pos c11] at H
      have c11b0 : decide (0 ≤ x8_1) = true := decide_eq_true c11
      clear c11
      replace H := Option.bind_eq_some_iff.mp H
      obtain ⟨t235, A120, H⟩ := H
      try dsimp only at H
      have A12 := Aside0.mk A120
      clear A120
      by_cases c13 : 0 ≤ (rd l0_1 x8_1)
      ·rw [if_pos c13] at H
       have c13b0 : decide (0 ≤ (rd l0_1 x8_1)) = true := decide_eq_true c13
       clear c13
       by_cases c14 : (rd l0_1 x8_1) < (t235.length : Int)
       ·rw [if_pos c14] at H
        have c14b0 : decide ((rd l0_1 x8_1) < (t235.length : Int)) = true := decide_eq_true c14
        clear c14
        obtain ⟨bq15, hbq15⟩ : ∃ b_ : Bool, b_ = (rdOf false t235 (rd l0_1 x8_1)) := ⟨_, rfl⟩
        replace H : (if bq15 = true then (if x7_1.length < 17592186044416 then (spec_FacesOnCycles.l0 k1 l1 (x7_1 ++ [rd l0_1 x8_1]) (wrap64 (x8_1 + 1)) a0_0 l0_1) else (none)) else (spec_FacesOnCycles.l0 k1 l1 x7_1 (wrap64 (x8_1 + 1)) a0_0 l0_1)) = some (r1, r2) := by rw [← hbq15] at H; exact H
        have Nbq15 := Aside0.mk hbq15
        clear hbq15
        by_cases c16 : bq15 = true
        ·subst c16
         have H1 : (if x7_1.length < 17592186044416 then (spec_FacesOnCycles.l0 k1 l1 (x7_1 ++ [rd l0_1 x8_1]) (wrap64 (x8_1 + 1)) a0_0 l0_1) else (none)) = some (r1, r2) := by rw [if_pos rfl] at H; exact H
         clear H
         have H := H1
         clear H1
         by_cases c17 : x7_1.length < 17592186044416
         ·rw [if_pos c17] at H
          have LMc17 := Aside0.mk c17
          clear c17
          obtain ⟨y241, hy241⟩ : ∃ y_ : List Int, y_ = (x7_1 ++ [rd l0_1 x8_1]) := ⟨_, rfl⟩
          replace H : (spec_FacesOnCycles.l0 k1 l1 y241 (wrap64 (x8_1 + 1)) a0_0 l0_1) = some (r1, r2) := by first | (rw [hy241]; with_reducible exact H) | (have H2_ := (Option.bind_some _ _).symm.trans H; rw [hy241]; with_reducible exact H2_) | (have H2_ := (Option.bind_some _ _).symm.trans H; with_reducible exact H2_) | with_reducible exact H | (rw [hy241]; exact H) | exact H
          have Ny241 := Aside0.mk hy241
          clear hy241
          have H' := Aside0.mk H
          clear H
          have hcz18_0 : wr.cell? ⟨gb229, 0, none⟩ = some (.int .i64 a0_0) := cB BK229 0
          have hcz18_1 : wr.cell? ⟨gb229, 1, none⟩ = some (.slice A0_1 l0_1.length c0_1) := cB BK229 1
          have hfz18_0 := zB BK229 0
          have hfz18_1 := zB BK229 1
          try go_wp2
          replace HO_7 := Aside0.mk (Kd.R_drew HO_7.out)
          replace BK229 := dB BK229
          replace HB := dH HB
          have p234 : 0 ≤ (x8_1 : Int) := of_decide_eq_true (by first | (with_reducible assumption) | assumption)
          have q234 : x8_1 < (l0_1.length : Int) := of_decide_eq_true (by first | (with_reducible assumption) | assumption)
          obtain ⟨ad234, e234, hx234_0⟩ := Kd.at_int HR0_1.out x8_1 p234 q234
          have hw234_0 := hx234_0
          cases e234
          replace hx234_0 := cH HB hx234_0
          replace p234 := eq_true p234
          replace q234 := eq_true q234
          have p238 : 0 ≤ (x8_1 : Int) := of_decide_eq_true (by first | (with_reducible assumption) | assumption)
          have q238 : x8_1 < (l0_1.length : Int) := of_decide_eq_true (by first | (with_reducible assumption) | assumption)
          obtain ⟨ad238, e238, hx238_0⟩ := Kd.at_int HR0_1.out x8_1 p238 q238
          have hw238_0 := hx238_0
          obtain rfl : ad234 = ad238 := (by injection e238)
          replace hx238_0 := cH HB hx238_0
          replace p238 := eq_true p238
          replace q238 := eq_true q238
          refine st_ 14 (S := fun w' => w'.cell? ⟨gb229, 0, none⟩ = some (.int .i64 a0_0) ∧ w'.cell? ⟨gb229, 1, none⟩ = some (.slice (some ad234) l0_1.length c0_1) ∧ w'.cell? (ad234.add (x8_1).toNat) = some (.int .i64 (rd l0_1 x8_1)) ∧ w'.cell? (ad234.add (x8_1).toNat) = some (.int .i64 (rd l0_1 x8_1))) (ds := []) ⟨cB BK229 0, cB BK229 1, (cH HB hw234_0 :), (cH HB hw238_0 :)⟩ (fun hHeld => ?_); refine with_tabW spec_FacesOnCycles.tab8 spec_FacesOnCycles.bits8 (fun HT_ HW_ => ?_)
          generalize wr.drew = w19 at HO_7 BK229 HB hx234_0 hx238_0 hHeld ⊢
          refine pu_ 0 23 1 HT_ ?_
          refine pu_ 1 24 3 HT_ ?_
          refine pu_ 3 26 11 HT_ ?_
          refine pu_ 7 30 139 HT_ ?_
          refine pu_ 9 32 651 HT_ ?_
          refine tk_ 2 25 655 HT_ HW_ hHeld ?_
          refine pu_ 4 27 671 HT_ ?_
          refine tk_ 5 28 703 HT_ HW_ hHeld ?_
          refine tk_ 8 31 959 HT_ HW_ hHeld ?_
          refine pu_ 10 33 1983 HT_ ?_
          refine tk_ 11 34 4031 HT_ HW_ hHeld ?_
          refine on_ 6 (some 29) 4095 HT_ (fun K hK => ?_)
          refine ca_ Tryz.func34 #[.slice A1 l1.length c1, .int .i64 (rd l0_1 x8_1)] ?_
          with_reducible refine (spec_l02Reached.calls k1 _ _ l1 (rd l0_1 x8_1) t235 _ ?side1 ?side2 A12.out).mono ?_
          (case side1 => exact pC ((Kd.C_below HR1.out HB.out)))
          (case side2 => exact HC1.out)
          rintro e w20 ⟨v236, rfl, ho0, hb⟩
          refine ⟨_, rfl, ?_⟩
          replace HO_7 := sR HO_7 hb
          have HO237 := Aside0.mk (Kd.R_lower ho0 (below_size (pH HB)))
          replace BK229 := sB BK229 hb
          replace HB := sH HB hb
          (try clear hb)
          (try clear hb2)
          (try clear hk)
          (try clear hi)
          (try clear ho0)
          obtain ⟨Ao21, co21, eo21⟩ := Kd.R_slice HO237.out
          (first | subst eo21 | (injection eo21 with f1_ f2_ f3_; have f4_ := f1_.symm; have f5_ := f3_.symm; clear f1_ f2_ f3_; subst f4_; subst f5_))
          have p239 : 0 ≤ ((rd l0_1 x8_1) : Int) := of_decide_eq_true (by first | (with_reducible assumption) | assumption)
          have q239 : (rd l0_1 x8_1) < (t235.length : Int) := of_decide_eq_true (by first | (with_reducible assumption) | assumption)
          obtain ⟨ad239, e239, hx239_0⟩ := Kd.at_bool (Kd.R_reads' HO237.out).2.2 (rd l0_1 x8_1) p239 q239
          (try rw [← Nbq15.out] at hx239_0)
          cases e239
          replace p239 := eq_true p239
          replace q239 := eq_true q239
          refine hK.out _ _ ⟨cB BK229 0, cB BK229 1, (cH HB hw234_0 :), (cH HB hw238_0 :)⟩ (fun hHeld => ?_)
          clear hK K
          refine nm_ ?_
          refine pu_ 12 35 8191 HT_ ?_
          refine on_ 13 (some 36) 16383 HT_ (fun K hK => ?_)
          refine value_ (by rfl) rfl (v := .bool true) (w1 := _) (by go_simp; first | done | rfl) ?_
          refine hK.out _ _ hHeld (fun hHeld => ?_)
          clear hK K
          refine nm_ ?_
          refine dn_ HT_ ?_
          have hcz22_0 : w20.cell? ⟨gb229, 0, none⟩ = some (.int .i64 a0_0) := cB BK229 0
          have hcz22_1 : w20.cell? ⟨gb229, 1, none⟩ = some (.slice (some ad234) l0_1.length c0_1) := cB BK229 1
          have hfz22_0 := zB BK229 0
          have hfz22_1 := zB BK229 1
          have p240 : 0 ≤ (x8_1 : Int) := of_decide_eq_true (by first | (with_reducible assumption) | assumption)
          have q240 : x8_1 < (l0_1.length : Int) := of_decide_eq_true (by first | (with_reducible assumption) | assumption)
          obtain ⟨ad240, e240, hx240_0⟩ := Kd.at_int HR0_1.out x8_1 p240 q240
          obtain rfl : ad234 = ad240 := (by injection e240)
          replace hx240_0 := cH HB hx240_0
          replace p240 := eq_true p240
          replace q240 := eq_true q240
          try go_wp2_with (first | ((with_reducible refine gate_builtin (b := .append) (xs := #[.tmp 37, .tmp 43]) rfl ?_); at_builtin; refine Kd.R_append (Kd.int .i64) (w0 := w) w.heap.size rfl (.tmp 37) (.tmp 43) 24 2 (.int .i64 0) 8 rfl Tryz.underlying24 info2 rfl (by decide) (by omega) u7 x7_1 (rd l0_1 x8_1) [.int .i64 (rd l0_1 x8_1)] (fun _ => True) (fun _ => False) rfl rfl ?aP (fun _ hk => hk.elim) ?aF ?aO ?aB ?aS ?aL ?_; (case aP => exact rfl); (case aB => exact (pH HB)); (case aF => exact (fun _ _ => trivial)); (case aO => exact (pR HO_7)); (case aS => exact (below_size (pH HB))); (case aL => have := LMc17.out; omega); intro v242 w23 ho hb hg hat; rw [← Ny241.out] at ho; replace BK229 := Aside0.mk (blk_grown (g := gb229) (o := .cells #[.int .i64 a0_0, .slice (some ad234) l0_1.length c0_1] 26 (0, 0)) (pB BK229) hg (Kd.R_ne HO_7.out BK229.out (by decide))); replace HO237 := Aside0.mk (Kd.R_over' (pR HO237) (Kd.R_typed (pR HO_7)) (by decide) hg); replace HB := Aside0.mk (hb); have HO243 := Aside0.mk (ho); clear HO_7; clear ho hb hg hat))
          go_roundg k1
          case measure => have := HK1.out; omega
          case rel => exact ⟨(y241), (wrap64 (x8_1 + 1)), (by first | rfl | (simp; done) | (simp [*]; done)), H', ⟨by have := HK1.out; omega⟩, ⟨by (with_reducible repeat (first | apply Kd.R_alloc | apply Kd.R_drewN | apply Kd.R_drew)); exact HO243.out⟩, ⟨pB BK229⟩, ⟨pH HB⟩⟩
         ·rw [if_neg c17] at H
          exact absurd H (by simp)
        ·replace c16 := Bool.eq_false_iff.mpr c16
         subst c16
         have H1 : (spec_FacesOnCycles.l0 k1 l1 x7_1 (wrap64 (x8_1 + 1)) a0_0 l0_1) = some (r1, r2) := by rw [if_neg (show ¬ (false = true) by decide)] at H; exact H
         clear H
         have H := H1
         clear H1
         have H' := Aside0.mk H
         clear H
         have hcz24_0 : wr.cell? ⟨gb229, 0, none⟩ = some (.int .i64 a0_0) := cB BK229 0
         have hcz24_1 : wr.cell? ⟨gb229, 1, none⟩ = some (.slice A0_1 l0_1.length c0_1) := cB BK229 1
         have hfz24_0 := zB BK229 0
         have hfz24_1 := zB BK229 1
         try go_wp2
         replace HO_7 := Aside0.mk (Kd.R_drew HO_7.out)
         replace BK229 := dB BK229
         replace HB := dH HB
         have p234 : 0 ≤ (x8_1 : Int) := of_decide_eq_true (by first | (with_reducible assumption) | assumption)
         have q234 : x8_1 < (l0_1.length : Int) := of_decide_eq_true (by first | (with_reducible assumption) | assumption)
         obtain ⟨ad234, e234, hx234_0⟩ := Kd.at_int HR0_1.out x8_1 p234 q234
         have hw234_0 := hx234_0
         cases e234
         replace hx234_0 := cH HB hx234_0
         replace p234 := eq_true p234
         replace q234 := eq_true q234
         have p238 : 0 ≤ (x8_1 : Int) := of_decide_eq_true (by first | (with_reducible assumption) | assumption)
         have q238 : x8_1 < (l0_1.length : Int) := of_decide_eq_true (by first | (with_reducible assumption) | assumption)
         obtain ⟨ad238, e238, hx238_0⟩ := Kd.at_int HR0_1.out x8_1 p238 q238
         have hw238_0 := hx238_0
         obtain rfl : ad234 = ad238 := (by injection e238)
         replace hx238_0 := cH HB hx238_0
         replace p238 := eq_true p238
         replace q238 := eq_true q238
         refine st_ 14 (S := fun w' => w'.cell? ⟨gb229, 0, none⟩ = some (.int .i64 a0_0) ∧ w'.cell? ⟨gb229, 1, none⟩ = some (.slice (some ad234) l0_1.length c0_1) ∧ w'.cell? (ad234.add (x8_1).toNat) = some (.int .i64 (rd l0_1 x8_1)) ∧ w'.cell? (ad234.add (x8_1).toNat) = some (.int .i64 (rd l0_1 x8_1))) (ds := []) ⟨cB BK229 0, cB BK229 1, (cH HB hw234_0 :), (cH HB hw238_0 :)⟩ (fun hHeld => ?_); refine with_tabW spec_FacesOnCycles.tab8 spec_FacesOnCycles.bits8 (fun HT_ HW_ => ?_)
         generalize wr.drew = w25 at HO_7 BK229 HB hx234_0 hx238_0 hHeld ⊢
         refine pu_ 0 23 1 HT_ ?_
         refine pu_ 1 24 3 HT_ ?_
         refine pu_ 3 26 11 HT_ ?_
         refine pu_ 7 30 139 HT_ ?_
         refine pu_ 9 32 651 HT_ ?_
         refine tk_ 2 25 655 HT_ HW_ hHeld ?_
         refine pu_ 4 27 671 HT_ ?_
         refine tk_ 5 28 703 HT_ HW_ hHeld ?_
         refine tk_ 8 31 959 HT_ HW_ hHeld ?_
         refine pu_ 10 33 1983 HT_ ?_
         refine tk_ 11 34 4031 HT_ HW_ hHeld ?_
         refine on_ 6 (some 29) 4095 HT_ (fun K hK => ?_)
         refine ca_ Tryz.func34 #[.slice A1 l1.length c1, .int .i64 (rd l0_1 x8_1)] ?_
         with_reducible refine (spec_l02Reached.calls k1 _ _ l1 (rd l0_1 x8_1) t235 _ ?side1 ?side2 A12.out).mono ?_
         (case side1 => exact pC ((Kd.C_below HR1.out HB.out)))
         (case side2 => exact HC1.out)
         rintro e w26 ⟨v236, rfl, ho0, hb⟩
         refine ⟨_, rfl, ?_⟩
         replace HO_7 := sR HO_7 hb
         have HO237 := Aside0.mk (Kd.R_lower ho0 (below_size (pH HB)))
         replace BK229 := sB BK229 hb
         replace HB := sH HB hb
         (try clear hb)
         (try clear hb2)
         (try clear hk)
         (try clear hi)
         (try clear ho0)
         obtain ⟨Ao27, co27, eo27⟩ := Kd.R_slice HO237.out
         (first | subst eo27 | (injection eo27 with f1_ f2_ f3_; have f4_ := f1_.symm; have f5_ := f3_.symm; clear f1_ f2_ f3_; subst f4_; subst f5_))
         have p239 : 0 ≤ ((rd l0_1 x8_1) : Int) := of_decide_eq_true (by first | (with_reducible assumption) | assumption)
         have q239 : (rd l0_1 x8_1) < (t235.length : Int) := of_decide_eq_true (by first | (with_reducible assumption) | assumption)
         obtain ⟨ad239, e239, hx239_0⟩ := Kd.at_bool (Kd.R_reads' HO237.out).2.2 (rd l0_1 x8_1) p239 q239
         (try rw [← Nbq15.out] at hx239_0)
         cases e239
         replace p239 := eq_true p239
         replace q239 := eq_true q239
         refine hK.out _ _ ⟨cB BK229 0, cB BK229 1, (cH HB hw234_0 :), (cH HB hw238_0 :)⟩ (fun hHeld => ?_)
         clear hK K
         refine nm_ ?_
         refine pu_ 12 35 8191 HT_ ?_
         refine on_ 13 (some 36) 16383 HT_ (fun K hK => ?_)
         refine value_ (by rfl) rfl (v := .bool false) (w1 := _) (by go_simp; first | done | rfl) ?_
         refine hK.out _ _ hHeld (fun hHeld => ?_)
         clear hK K
         refine nm_ ?_
         refine dn_ HT_ ?_
         try go_wp2
         go_roundg k1
         case measure => have := HK1.out; omega
         case rel => exact ⟨(x7_1), (wrap64 (x8_1 + 1)), (by first | rfl | (simp; done) | (simp [*]; done)), H', ⟨by have := HK1.out; omega⟩, ⟨by (with_reducible repeat (first | apply Kd.R_alloc | apply Kd.R_drewN | apply Kd.R_drew)); exact HO_7.out⟩, ⟨pB BK229⟩, ⟨pH HB⟩⟩
       ·rw [if_neg c14] at H
        exact absurd H (by simp)
      ·rw [if_neg c13] at H
       exact absurd H (by simp)
     ·rw [if_neg c11] at H
      exact absurd H (by simp)
    ·rw [if_neg c10] at H
     have c10b0 : decide (x8_1 < (l0_1.length : Int)) = false := decide_eq_false c10
     clear c10
     simp only [Option.some.injEq, Prod.mk.injEq] at H
     obtain ⟨rfl, rfl⟩ := H
     have hcz28_0 : wr.cell? ⟨gb229, 0, none⟩ = some (.int .i64 a0_0) := cB BK229 0
     have hcz28_1 : wr.cell? ⟨gb229, 1, none⟩ = some (.slice A0_1 l0_1.length c0_1) := cB BK229 1
     have hfz28_0 := zB BK229 0
     have hfz28_1 := zB BK229 1
     go_wp2
     go_ret2
     exact ⟨_, by first | rfl | (simp [errW_none, errW_some] <;> rfl) | (simp [*, errW_none, errW_some] <;> rfl) | (exfalso; simp_all), by (with_reducible repeat (first | apply Kd.R_alloc | apply Kd.R_drewN | apply Kd.R_drew)); exact HO_7.out, pH HB⟩
 ·rw [if_neg c4] at H
  have c4b0 : (t230 == 0) = false := beq_eq_false_iff_ne.mpr c4
  have c4b1 : (t230 != 0) = true := bne_iff_ne.mpr c4
  simp only [Option.some.injEq, Prod.mk.injEq] at H
  obtain ⟨rfl, rfl⟩ := H
  go_enter Tryz.func16, Tryz.ntmps16
  go_wp2_with (first | ((with_reducible refine gate_dst (N := 2) rfl ?_); refine box_event ?hg (N := 2) ?hd (cs := #[.int .i64 a0_0, .slice A0_1 l0_1.length c0_1]) (t := 26) ?hr ?_; (case hd => rfl); (case hg => rfl); (case hr => first | (go_simp; done) | (go_simp; rfl)); intro gb229 hg w29 hbox hb; have BK229 := Aside0.mk (hbox); have GW229 := gH HB hg; have GE229 := gH HB hg; replace HB := sH HB hb; clear hb hbox hg; have hcz30_0 : w29.cell? ⟨gb229, 0, none⟩ = some (.int .i64 a0_0) := cB BK229 0; have hcz30_1 : w29.cell? ⟨gb229, 1, none⟩ = some (.slice A0_1 l0_1.length c0_1) := cB BK229 1; have hfz30_0 := zB BK229 0; have hfz30_1 := zB BK229 1) | ((with_reducible refine gate_callee (f := 22) rfl ?_); refine cl_ (some 11) Tryz.func22 #[.agg #[.int .i64 a0_0, .slice A0_1 l0_1.length c0_1], .slice A1 l1.length c1, .slice none 0 0] ?_; (refine (spec_l02Code.calls k a0_0 _ _ l0_1 _ _ l1 _ _ ([] : List Int) t230 _ ?side1 ?side2 ?side3 ?side4 ?side5 ?side6 A3.out).mono ?_); (case side1 => exact pC ((Kd.C_below HR0_1.out HB.out))); (case side2 => exact HC0_1.out); (case side3 => exact pC ((Kd.C_below HR1.out HB.out))); (case side4 => exact HC1.out); (case side5 => exact Kd.C_nil _ _); (case side6 => exact Nat.le_refl _); rintro e w31 ⟨rfl, hb⟩; refine ⟨_, rfl, ?_⟩; replace BK229 := sB BK229 hb; replace HB := sH HB hb; (try clear hb); (try clear hi)))
  go_ret2
  exact ⟨_, by first | rfl | (simp [errW_none, errW_some] <;> rfl) | (simp [*, errW_none, errW_some] <;> rfl) | (exfalso; simp_all), by first | exact Kd.R_nil _ _ _ _ _ | exact Kd.N_nil _ _ _ _ _ | exact Kd.V_nil _ _ _ _ _ | exact Kd.Q_nil _ _ _ _ _ | exact Kd.S_nil _ _ _ _ _, pH HB⟩
def laws_sum.l0 : Nat → List Int → Int → Int → Option (Int)
 | 0, _, _, _ => none
 | k + 1, x0, x3, x4 => if x4 < (x0.length : Int) then (if 0 ≤ x4 then (laws_sum.l0 k x0 (wrap64 (x3 + (rd x0 x4))) (wrap64 (x4 + 1))) else (none)) else (some x3)
def laws_sum.f (k : Nat) (l0 : List Int) : Option (Int) := laws_sum.l0 k l0 0 0
set_option maxHeartbeats 8000000 in
set_option maxRecDepth 100000 in
theorem laws_sum.calls (k : Nat) (A0 : Option Addr) (c0 : Nat) (l0 : List Int) (r : Int) (w : World) (hr0 : Kd.C (Kd.int .i64) w A0 l0.length l0) (hc0 : l0.length ≤ c0) (h : laws_sum.f k l0 = some r) :
  Calls Tryz.prog 17 #[.slice A0 l0.length c0] w fun e w' => e = .returned (.int .i64 r) ∧ Drawn0 w w' := by
 have HR0 := Aside0.mk hr0
 have HC0 := Aside0.mk hc0
 clear hr0 hc0
 have H : (laws_sum.l0 k l0 0 0) = some r := h
 clear h
 have H' := Aside0.mk H
 clear H
 go_enter Tryz.func17, Tryz.ntmps17
 go_wp2
 go_loopg [3, 4] k (fun kq v3 v4 w' => ∃ (x3_1 : Int) (x4_1 : Int), v3 = .int .i64 x3_1 ∧ v4 = .int .i64 x4_1 ∧ Aside0 (laws_sum.l0 kq l0 x3_1 x4_1 = some r) ∧ Aside0 (kq ≤ k) ∧ Drawn0 w w')
 case atStart => exact ⟨(0), (0), (by first | rfl | (simp; done) | (simp [*]; done)), (by first | rfl | (simp; done) | (simp [*]; done)), H', ⟨Nat.le_refl _⟩, by repeat (first | exact Drawn0.refl _ | apply Drawn0.step)⟩
 case round =>
  clear H'
  try clear c1
  obtain ⟨x3_1, x4_1, rfl, rfl, HA, HK1, ⟨m1, rfl⟩⟩ := hrel
  cases gk with
  | zero => exact absurd HA.out (by simp [laws_sum.l0])
  | succ k1 =>
   have H := HA.out
   clear HA
   simp only [laws_sum.l0] at H
   by_cases c2 : x4_1 < (l0.length : Int)
   ·rw [if_pos c2] at H
    have c2b0 : decide (x4_1 < (l0.length : Int)) = true := decide_eq_true c2
    clear c2
    by_cases c3 : 0 ≤ x4_1
    ·rw [if_pos c3] at H
     have c3b0 : decide (0 ≤ x4_1) = true := decide_eq_true c3
     clear c3
     have H' := Aside0.mk H
     clear H
     have p244 : 0 ≤ (x4_1 : Int) := of_decide_eq_true (by first | (with_reducible assumption) | assumption)
     have q244 : x4_1 < (l0.length : Int) := of_decide_eq_true (by first | (with_reducible assumption) | assumption)
     obtain ⟨ad244, e244, hx244_0⟩ := Kd.at_int HR0.out x4_1 p244 q244
     cases e244
     replace p244 := eq_true p244
     replace q244 := eq_true q244
     go_wp2
     go_roundg k1
     case measure => have := HK1.out; omega
     case rel => exact ⟨(wrap64 (x3_1 + (rd l0 x4_1))), (wrap64 (x4_1 + 1)), (by first | rfl | (simp; done) | (simp [*]; done)), (by first | rfl | (simp; done) | (simp [*]; done)), H', ⟨by have := HK1.out; omega⟩, by repeat (first | exact Drawn0.refl _ | apply Drawn0.step)⟩
    ·rw [if_neg c3] at H
     exact absurd H (by simp)
   ·rw [if_neg c2] at H
    have c2b0 : decide (x4_1 < (l0.length : Int)) = false := decide_eq_false c2
    clear c2
    obtain rfl := Option.some.inj H
    go_wp2
    go_ret
    exact ⟨by first | rfl | (simp; done) | (simp [*]; done), by repeat (first | exact Drawn0.refl _ | apply Drawn0.step)⟩
def laws_likeInts.l0 : Nat → List Int → List Int → Int → Option (Bool)
 | 0, _, _, _ => none
 | k + 1, x0, x1, x5 => if x5 < (x0.length : Int) then (if 0 ≤ x5 then (if x5 < (x1.length : Int) then (if (rd x0 x5) = (rd x1 x5) then (laws_likeInts.l0 k x0 x1 (wrap64 (x5 + 1))) else (some false)) else (none)) else (none)) else (some true)
def laws_likeInts.f (k : Nat) (l0 : List Int) (l1 : List Int) : Option (Bool) := if (l0.length : Int) = (l1.length : Int) then (laws_likeInts.l0 k l0 l1 0) else (some false)
set_option maxHeartbeats 8000000 in
set_option maxRecDepth 100000 in
theorem laws_likeInts.calls (k : Nat) (A0 : Option Addr) (c0 : Nat) (l0 : List Int) (A1 : Option Addr) (c1 : Nat) (l1 : List Int) (r : Bool) (w : World) (hr0 : Kd.C (Kd.int .i64) w A0 l0.length l0) (hc0 : l0.length ≤ c0) (hr1 : Kd.C (Kd.int .i64) w A1 l1.length l1) (hc1 : l1.length ≤ c1) (h : laws_likeInts.f k l0 l1 = some r) :
  Calls Tryz.prog 8 #[.slice A0 l0.length c0, .slice A1 l1.length c1] w fun e w' => e = .returned (.bool r) ∧ Drawn0 w w' := by
 have HR0 := Aside0.mk hr0
 have HC0 := Aside0.mk hc0
 clear hr0 hc0
 have HR1 := Aside0.mk hr1
 have HC1 := Aside0.mk hc1
 clear hr1 hc1
 have H : (if (l0.length : Int) = (l1.length : Int) then (laws_likeInts.l0 k l0 l1 0) else (some false)) = some r := h
 clear h
 by_cases c3 : (l0.length : Int) = (l1.length : Int)
 ·rw [if_pos c3] at H
  have c3b0 : ((l0.length : Int) == (l1.length : Int)) = true := beq_iff_eq.mpr c3
  have c3b1 : ((l0.length : Int) != (l1.length : Int)) = false := bne_eq_false_iff_eq.mpr c3
  have c3b2 : (l0.length == l1.length) = true := by first | simpa using c3 | (simp at c3 ⊢; omega)
  clear c3
  have H' := Aside0.mk H
  clear H
  go_enter Tryz.func8, Tryz.ntmps8
  go_wp2
  repeat (go_quiet (fail); try go_wp2)
  go_loopg [5] k (fun kq v5 w' => ∃ (x5_1 : Int), v5 = .int .i64 x5_1 ∧ Aside0 (laws_likeInts.l0 kq l0 l1 x5_1 = some r) ∧ Aside0 (kq ≤ k) ∧ Drawn0 w w')
  case atStart => exact ⟨(0), (by first | rfl | (simp; done) | (simp [*]; done)), H', ⟨Nat.le_refl _⟩, by repeat (first | exact Drawn0.refl _ | apply Drawn0.step)⟩
  case round =>
   clear H'
   try clear c1
   try clear p2
   try clear c3
   try clear c3b0
   try clear c3b1
   try clear c3b2
   obtain ⟨x5_1, rfl, HA, HK1, ⟨m1, rfl⟩⟩ := hrel
   cases gk with
   | zero => exact absurd HA.out (by simp [laws_likeInts.l0])
   | succ k1 =>
    have H := HA.out
    clear HA
    simp only [laws_likeInts.l0] at H
    by_cases c4 : x5_1 < (l0.length : Int)
    ·rw [if_pos c4] at H
     have c4b0 : decide (x5_1 < (l0.length : Int)) = true := decide_eq_true c4
     clear c4
     by_cases c5 : 0 ≤ x5_1
     ·rw [if_pos c5] at H
      have c5b0 : decide (0 ≤ x5_1) = true := decide_eq_true c5
      clear c5
      by_cases c6 : x5_1 < (l1.length : Int)
      ·rw [if_pos c6] at H
       have c6b0 : decide (x5_1 < (l1.length : Int)) = true := decide_eq_true c6
       clear c6
       by_cases c7 : (rd l0 x5_1) = (rd l1 x5_1)
       ·rw [if_pos c7] at H
        have c7b0 : ((rd l0 x5_1) == (rd l1 x5_1)) = true := beq_iff_eq.mpr c7
        have c7b1 : ((rd l0 x5_1) != (rd l1 x5_1)) = false := bne_eq_false_iff_eq.mpr c7
        clear c7
        have H' := Aside0.mk H
        clear H
        have p245 : 0 ≤ (x5_1 : Int) := of_decide_eq_true (by first | (with_reducible assumption) | assumption)
        have q245 : x5_1 < (l0.length : Int) := of_decide_eq_true (by first | (with_reducible assumption) | assumption)
        obtain ⟨ad245, e245, hx245_0⟩ := Kd.at_int HR0.out x5_1 p245 q245
        cases e245
        replace p245 := eq_true p245
        replace q245 := eq_true q245
        have p246 : 0 ≤ (x5_1 : Int) := of_decide_eq_true (by first | (with_reducible assumption) | assumption)
        have q246 : x5_1 < (l1.length : Int) := of_decide_eq_true (by first | (with_reducible assumption) | assumption)
        obtain ⟨ad246, e246, hx246_0⟩ := Kd.at_int HR1.out x5_1 p246 q246
        cases e246
        replace p246 := eq_true p246
        replace q246 := eq_true q246
        go_wp2
        repeat (go_quiet (fail); try go_wp2)
        go_roundg k1
        case measure => have := HK1.out; omega
        case rel => exact ⟨(wrap64 (x5_1 + 1)), (by first | rfl | (simp; done) | (simp [*]; done)), H', ⟨by have := HK1.out; omega⟩, by repeat (first | exact Drawn0.refl _ | apply Drawn0.step)⟩
       ·rw [if_neg c7] at H
        have c7b0 : ((rd l0 x5_1) == (rd l1 x5_1)) = false := beq_eq_false_iff_ne.mpr c7
        have c7b1 : ((rd l0 x5_1) != (rd l1 x5_1)) = true := bne_iff_ne.mpr c7
        obtain rfl := Option.some.inj H
        have p245 : 0 ≤ (x5_1 : Int) := of_decide_eq_true (by first | (with_reducible assumption) | assumption)
        have q245 : x5_1 < (l0.length : Int) := of_decide_eq_true (by first | (with_reducible assumption) | assumption)
        obtain ⟨ad245, e245, hx245_0⟩ := Kd.at_int HR0.out x5_1 p245 q245
        cases e245
        replace p245 := eq_true p245
        replace q245 := eq_true q245
        have p246 : 0 ≤ (x5_1 : Int) := of_decide_eq_true (by first | (with_reducible assumption) | assumption)
        have q246 : x5_1 < (l1.length : Int) := of_decide_eq_true (by first | (with_reducible assumption) | assumption)
        obtain ⟨ad246, e246, hx246_0⟩ := Kd.at_int HR1.out x5_1 p246 q246
        cases e246
        replace p246 := eq_true p246
        replace q246 := eq_true q246
        go_wp2
        repeat (go_quiet (fail); try go_wp2)
        go_ret
        exact ⟨by first | rfl | (simp; done) | (simp [*]; done), by repeat (first | exact Drawn0.refl _ | apply Drawn0.step)⟩
      ·rw [if_neg c6] at H
       exact absurd H (by simp)
     ·rw [if_neg c5] at H
      exact absurd H (by simp)
    ·rw [if_neg c4] at H
     have c4b0 : decide (x5_1 < (l0.length : Int)) = false := decide_eq_false c4
     clear c4
     obtain rfl := Option.some.inj H
     go_wp2
     repeat (go_quiet (fail); try go_wp2)
     go_ret
     exact ⟨by first | rfl | (simp; done) | (simp [*]; done), by repeat (first | exact Drawn0.refl _ | apply Drawn0.step)⟩
 ·rw [if_neg c3] at H
  have c3b0 : ((l0.length : Int) == (l1.length : Int)) = false := beq_eq_false_iff_ne.mpr c3
  have c3b1 : ((l0.length : Int) != (l1.length : Int)) = true := bne_iff_ne.mpr c3
  have c3b2 : (l0.length == l1.length) = false := by first | simpa using c3 | (simp at c3 ⊢; omega)
  obtain rfl := Option.some.inj H
  go_enter Tryz.func8, Tryz.ntmps8
  go_wp2
  repeat (go_quiet (fail); try go_wp2)
  go_ret
  exact ⟨by first | rfl | (simp; done) | (simp [*]; done), by repeat (first | exact Drawn0.refl _ | apply Drawn0.step)⟩
end Go.Proofs.YtpnmifahfpmplaaGreat.QS
namespace Go.Proofs.YtpnmifahfpmplaaGreat.Pu
open Go.RowKit Kp Ext QS Im YtpnmifahfpmplaaGreatW.PrintWords YtpnmifahfpmplaaGreatW.PrintLast YtpnmifahfpmplaaGreatW.PrintMore
def ifP {α : Type} (n : Int) (xs : List Int) (l : List Pr) (a b : α) : α × Int := if pcode n xs l = 0 then (a, 0) else (b, pcode n xs l)
def critF (n : Int) (xs : List Int) (l : List Pr) : List Int × Int := ifP n xs l (critL xs l) []
def numF (n : Int) (xs : List Int) (l : List Pr) : List Int × Int := ifP n xs l (cntL (dimL xs + 1).toNat (critL xs l)) []
def acyF (n : Int) (xs : List Int) (l : List Pr) : Bool × Int := ifP n xs l (acycB l) false
def cycF (n : Int) (xs : List Int) (l : List Pr) : List Int × Int := ifP n xs l (cycL xs l) []
def isF (n : Int) (xs : List Int) (l : List Pr) : Bool × Int := if isC n xs then (pairingB xs l, 0) else (false, 1)
section
variable (n : Int) {xs : List Int} {l : List Pr}
theorem ifP_second {α : Type} (a b : α) : (ifP n xs l a b).2 = pcode n xs l := by unfold ifP; split <;> simp_all
theorem pcode_fK (hx : xs.length ≤ 1048576) (hl : l.length ≤ 1048576) : QK.impl_pairingCode.f n xs l true = some (pcode n xs l) := by
  unfold QK.impl_pairingCode.f impl_complexCode.f pcode
  cases hi : isC n xs with
  | false =>
    rw [if_pos ⟨by omega, fun h => by cases h⟩]; rfl
  | true =>
    have hp : QK.impl_pairingCode_1.f true n xs l = some (pairingB xs l) := by
      unfold QK.impl_pairingCode_1.f impl_Complex_isPairing.f
      have hc : isC n xs = true ∧ l.length ≤ 1099511627776 := ⟨hi, by omega⟩
      simp [hc]
    unfold QK.clo_38
    rw [hp, if_pos ⟨by omega, fun _ => rfl⟩]
    cases pairingB xs l <;> rfl
theorem ev_critP (hx : xs.length ≤ 1048576) (hl : l.length ≤ 1048576) : QK.impl_CriticalFaces.f n xs l = some (critF n xs l) := by
  unfold QK.impl_CriticalFaces.f critF ifP
  rw [pcode_fK n hx hl, Option.bind_some]
  by_cases h : pcode n xs l = 0
  · obtain ⟨hi, hp⟩ := pcode_zero h
    rw [if_pos h, if_pos h, crit_fK hi hl (facesP_of hi hp)]; rfl
  · rw [if_neg h, if_neg h]
theorem ev_numP (hx : xs.length ≤ 1048576) (hl : l.length ≤ 1048576) : Ev (fun k => QK.impl_CriticalNumbers.f k n xs l) (numF n xs l) := by
  unfold QK.impl_CriticalNumbers.f numF ifP
  simp only [pcode_fK n hx hl, Option.bind_some]
  by_cases h : pcode n xs l = 0
  · obtain ⟨hi, hp⟩ := pcode_zero h
    simp only [if_pos h, crit_fK hi hl (facesP_of hi hp), Option.bind_some]
    exact Ev.bind (ev_cntK hi (fun x hx => (List.mem_filter.1 hx).1) (Nat.le_trans (List.length_filter_le _ _) hx)) (Ev.now _)
  · simp only [if_neg h]; exact Ev.now _
theorem code_fK (hx : xs.length ≤ 1048576) : impl_complexCode.f n xs (fnp 27) = some (if isC n xs then 0 else 1) := by
  unfold impl_complexCode.f
  rw [if_pos ⟨by omega, fun _ => rfl⟩]
  cases isC n xs <;> rfl
theorem ev_isP (hx : xs.length ≤ 1048576) (hl : l.length ≤ 1048576) : QK.impl_IsPairing.f n xs l = some (isF n xs l) := by
  unfold QK.impl_IsPairing.f isF
  rw [code_fK n hx, Option.bind_some]
  cases hi : isC n xs with
  | false => rfl
  | true =>
    have hc : isC n xs = true ∧ l.length ≤ 1099511627776 := ⟨hi, by omega⟩
    simp [impl_Complex_isPairing.f, hc]
theorem bfs_some (hl : l.length ≤ 1048576) (hr : FacesP l) (x : Int) : (bfs l 1000 [] [x]).isSome = true := by
  obtain ⟨M, hM, _⟩ := bfs_spec hl hr x 64 [] [x] ⟨by simp, by simp⟩ (by simp) (by simp [getM]) (by simp) (by intro z hz; left; simp [getM] at hz ⊢; exact hz) (by omega) 1000 (by omega)
  rw [hM]; rfl
theorem ev_acyP (hx : xs.length ≤ 1048576) (hl : l.length ≤ 1048576) : QK.impl_IsAcyclicPairing.f n xs l = some (acyF n xs l) := by
  unfold QK.impl_IsAcyclicPairing.f acyF ifP
  rw [pcode_fK n hx hl, Option.bind_some]
  by_cases h : pcode n xs l = 0
  · obtain ⟨hi, hp⟩ := pcode_zero h
    have hb : okBfs l = true := by
      unfold okBfs
      rw [Bool.and_eq_true, decide_eq_true_eq]
      exact ⟨hl, List.all_eq_true.2 fun q _ => bfs_some hl (facesP_of hi hp) q.f0⟩
    rw [if_pos h, if_pos h]
    simp [impl_Complex_isAcyclic.f, hb]
  · rw [if_neg h, if_neg h]
theorem ev_cycP (hx : xs.length ≤ 1048576) (hl : l.length ≤ 1048576) : QK.impl_FacesOnCycles.f n xs l = some (cycF n xs l) := by
  unfold QK.impl_FacesOnCycles.f cycF ifP
  rw [pcode_fK n hx hl, Option.bind_some]
  by_cases h : pcode n xs l = 0
  · obtain ⟨hi, hp⟩ := pcode_zero h
    have hb : okCyc xs l = true := by
      unfold okCyc
      rw [Bool.and_eq_true, decide_eq_true_eq]
      exact ⟨hx, List.all_eq_true.2 fun x _ => bfs_some hl (facesP_of hi hp) x⟩
    rw [if_pos h, if_pos h]
    simp [impl_Complex_onCycles.f, hb, cycL]
  · rw [if_neg h, if_neg h]
theorem euler_step {x : Int} (h1 : 1 ≤ x) (h6 : x ≤ 63) : wrap64 (1 - wrap64 (2 * Int.tmod (onesZ x - 1) 2)) = sgnZ x := by
  have h2 := ones1 ⟨h1, h6⟩
  have h3 := ones_le x
  have h4 : Int.tmod (onesZ x - 1) 2 = (onesZ x - 1) % 2 := Int.tmod_eq_emod_of_nonneg (by omega)
  rw [h4, w64 (x := 2 * ((onesZ x - 1) % 2)) (by omega) (by omega), w64 (by omega) (by omega)]
  unfold sgnZ
  omega
theorem sumG_snoc (g : Int → Int) (a : List Int) (x : Int) : sumG g (a ++ [x]) = sumG g a + g x := by rw [sumG_app]; simp [sumG]
theorem ev_euler (hi : isC n xs = true) : Ev (fun k => QK.impl_EulerNumber.f k n xs) (eulZ xs, 0) := by
  have hs := isC_small hi
  have h63 := isC_63 hi
  have key : ∀ d (i : Nat) (a : Int), xs.length - i = d → i ≤ xs.length → a = sumG sgnZ (xs.take i) → -(i : Int) ≤ a ∧ a ≤ i → Ev (fun k => QK.impl_Complex_euler.l0 k a xs (xs.length : Int) (i : Int)) (eulZ xs) := by
    intro d
    induction d with
    | zero =>
      intro i a hd hil ha hb
      rw [List.take_of_length_le (by omega)] at ha
      refine Ev.step (f := fun k => some a) (fun k => ?_) (by rw [ha]; exact Ev.now _)
      simp only [QK.impl_Complex_euler.l0]; rw [if_neg (by omega)]
    | succ d ih =>
      intro i a hd hil ha hb
      have hi' : i < xs.length := by omega
      have hx := h63 _ (List.getElem_mem hi')
      have hg : -1 ≤ sgnZ xs[i] ∧ sgnZ xs[i] ≤ 1 := by unfold sgnZ; omega
      have hw : wrap64 (a + sgnZ xs[i]) = a + sgnZ xs[i] := w64 (by omega) (by omega)
      refine Ev.step (fun k => ?_) (ih (i + 1) (a + sgnZ xs[i]) (by omega) (by omega) (by rw [ha, List.take_succ_eq_append_getElem hi', sumG_snoc]) (by omega))
      simp only [QK.impl_Complex_euler.l0]
      rw [if_pos (by omega), if_pos (by omega), if_pos (by omega), rd_at hi', dimK_eq (by omega) (by omega)]
      simp only [Option.bind_some]
      rw [euler_step hx.1 hx.2, hw, show wrap64 ((i : Int) + 1) = ((i + 1 : Nat) : Int) by rw [w64 (by omega) (by omega)]; omega]
  unfold QK.impl_EulerNumber.f QK.impl_Complex_euler.f
  simp only [code_fK n (show xs.length ≤ 1048576 by omega), hi, Option.bind_some]
  exact Ev.bind (key _ 0 0 rfl (Nat.zero_le _) rfl (by omega)) (Ev.now _)
theorem ev_critS (hx : xs.length ≤ 1048576) (hl : l.length ≤ 1048576) : Ev (fun k => spec_CriticalFaces.f k n xs l) (critF n xs l) := by
  unfold spec_CriticalFaces.f critF ifP
  refine Ev.bind (ev_pcode n hx hl) ?_
  by_cases h : pcode n xs l = 0
  · simp only [if_pos h]; exact Ev.bind (ev_crit n hx hl) (Ev.now _)
  · simp only [if_neg h]; exact Ev.now _
theorem ev_numS (hx : xs.length ≤ 1048576) (hl : l.length ≤ 1048576) : Ev (fun k => spec_CriticalNumbers.f k n xs l) (numF n xs l) := by
  unfold spec_CriticalNumbers.f numF ifP
  refine Ev.bind (ev_pcode n hx hl) ?_
  by_cases h : pcode n xs l = 0
  · simp only [if_pos h]; exact Ev.bind (ev_numbers (pcode_zero h).1 hl) (Ev.now _)
  · simp only [if_neg h]; exact Ev.now _
theorem ev_isS (hx : xs.length ≤ 1048576) (hl : l.length ≤ 1048576) : Ev (fun k => spec_IsPairing.f k n xs l) (isF n xs l) := by
  unfold spec_IsPairing.f isF
  refine Ev.bind (ev_is n (by unfold maxLen; omega)) ?_
  cases hi : isC n xs with
  | false => simp only [Bool.false_eq_true, if_false]; exact Ev.now _
  | true => simp only [if_true]; exact Ev.bind (ev_is2 hi hl) (Ev.now _)
theorem ev_acyS (hx : xs.length ≤ 1048576) (hl : l.length ≤ 1048576) : Ev (fun k => spec_IsAcyclicPairing.f k n xs l) (acyF n xs l) := by
  unfold spec_IsAcyclicPairing.f acyF ifP
  refine Ev.bind (ev_pcode n hx hl) ?_
  by_cases h : pcode n xs l = 0
  · obtain ⟨hi, hp⟩ := pcode_zero h
    simp only [if_pos h]; exact Ev.bind (ev_acyclic hl (facesP_of hi hp)) (Ev.now _)
  · simp only [if_neg h]; exact Ev.now _
theorem ev_cycS (hx : xs.length ≤ 1048576) (hl : l.length ≤ 1048576) : Ev (fun k => spec_FacesOnCycles.f k n xs l) (cycF n xs l) := by
  unfold spec_FacesOnCycles.f cycF ifP
  refine Ev.bind (ev_pcode n hx hl) ?_
  by_cases h : pcode n xs l = 0
  · obtain ⟨hi, hp⟩ := pcode_zero h
    have hr := facesP_of hi hp
    have h63 := isC_63 hi
    simp only [if_pos h]
    have key : ∀ d (i : Nat) (acc : List Int), xs.length - i = d → i ≤ xs.length → acc.length ≤ i → Ev (fun k => spec_FacesOnCycles.l0 k l acc (i : Int) n xs) (acc ++ cycL (xs.drop i) l, 0) := by
      intro d
      induction d with
      | zero =>
        intro i acc hd hil ha
        rw [List.drop_eq_nil_of_le (by omega)]
        refine Ev.step (f := fun k => some (acc, 0)) (fun k => ?_) (by simpa [cycL] using Ev.now (acc, (0 : Int)))
        simp only [spec_FacesOnCycles.l0]; rw [if_neg (by omega)]
      | succ d ih =>
        intro i acc hd hil ha
        have hi' : i < xs.length := by omega
        have hx1 := h63 _ (List.getElem_mem hi')
        obtain ⟨B, e1, e2, e3⟩ := ev_reached hl hr xs[i]
        have e4 := e3 xs[i] (by omega) (by omega)
        rw [← loopB_iff hl hr] at e4
        have hrb : rdOf false B xs[i] = loopB l xs[i] := by
          rw [show rdOf false B xs[i] = B[xs[i].toNat]?.getD false from by simp [rdOf, List.getD_eq_getElem?_getD], Bool.eq_iff_iff]
          exact e4
        rw [List.drop_eq_getElem_cons hi']
        have hw : wrap64 ((i : Int) + 1) = ((i + 1 : Nat) : Int) := by rw [w64 (by omega) (by omega)]; omega
        refine Ev.step (f := fun k => (spec_l02Reached.f k l xs[i]).bind fun t => if 0 ≤ xs[i] then if xs[i] < (t.length : Int) then if rdOf false t xs[i] = true then if acc.length < 17592186044416 then spec_FacesOnCycles.l0 k l (acc ++ [xs[i]]) ((i + 1 : Nat) : Int) n xs else none else spec_FacesOnCycles.l0 k l acc ((i + 1 : Nat) : Int) n xs else none else none) (fun k => ?_) (Ev.bind e1 ?_)
        · simp only [spec_FacesOnCycles.l0]
          rw [if_pos (by omega), if_pos (by omega), rd_at hi', hw]
        · simp only [if_pos (show 0 ≤ xs[i] by omega), if_pos (show xs[i] < (B.length : Int) by omega), hrb]
          unfold cycL
          cases hlp : loopB l xs[i] with
          | true =>
            simp only [if_true, if_pos (show acc.length < 17592186044416 by omega)]
            have := ih (i + 1) (acc ++ [xs[i]]) (by omega) (by omega) (by simp; omega)
            rw [List.filter_cons_of_pos (by exact hlp)]
            rw [List.append_assoc] at this
            exact this
          | false =>
            simp only [Bool.false_eq_true, if_false]
            rw [List.filter_cons_of_neg (by rw [hlp]; exact Bool.false_ne_true)]
            exact ih (i + 1) acc (by omega) (by omega) (by omega)
    have := key _ 0 [] rfl (Nat.zero_le _) (by simp)
    simpa using this
  · simp only [if_neg h]; exact Ev.now _
theorem ev_like {a : List Int} (ha : a.length ≤ 1048576) : Ev (fun k => laws_likeInts.f k a a) true := by
  have key : ∀ d (i : Nat), a.length - i = d → i ≤ a.length → Ev (fun k => laws_likeInts.l0 k a a (i : Int)) true := by
    intro d
    induction d with
    | zero =>
      intro i hd hi
      refine Ev.step (f := fun k => some true) (fun k => ?_) (Ev.now _)
      simp only [laws_likeInts.l0]; rw [if_neg (by omega)]
    | succ d ih =>
      intro i hd hi
      refine Ev.step (fun k => ?_) (ih (i + 1) (by omega) (by omega))
      simp only [laws_likeInts.l0]; rw [if_pos (by omega), if_pos (by omega), if_pos (by omega), if_pos trivial, show wrap64 ((i : Int) + 1) = ((i + 1 : Nat) : Int) by rw [w64 (by omega) (by omega)]; omega]
  unfold laws_likeInts.f
  simp only [if_true]
  exact key _ 0 rfl (Nat.zero_le _)
theorem ev_sum {a : List Int} (ha : a.length ≤ 1000) (hb : ∀ x ∈ a, 0 ≤ x ∧ x ≤ 1000) : Ev (fun k => laws_sum.f k a) (a.foldl (· + ·) 0) := by
  have key : ∀ d (i : Nat) (s : Int), a.length - i = d → i ≤ a.length → 0 ≤ s ∧ s ≤ 1000 * i → Ev (fun k => laws_sum.l0 k a s (i : Int)) ((a.drop i).foldl (· + ·) s) := by
    intro d
    induction d with
    | zero =>
      intro i s hd hi hs
      rw [List.drop_eq_nil_of_le (by omega)]
      refine Ev.step (f := fun k => some s) (fun k => ?_) (Ev.now _)
      simp only [laws_sum.l0]; rw [if_neg (by omega)]
    | succ d ih =>
      intro i s hd hi hs
      have hi' : i < a.length := by omega
      have hx := hb _ (List.getElem_mem hi')
      rw [List.drop_eq_getElem_cons hi', List.foldl_cons]
      refine Ev.step (fun k => ?_) (ih (i + 1) (s + a[i]) (by omega) (by omega) (by omega))
      simp only [laws_sum.l0]; rw [if_pos (by omega), if_pos (by omega), rd_at hi', w64 (x := s + a[i]) (by omega) (by omega), show wrap64 ((i : Int) + 1) = ((i + 1 : Nat) : Int) by rw [w64 (by omega) (by omega)]; omega]
  unfold laws_sum.f
  exact key _ 0 0 rfl (Nat.zero_le _) (by omega)
end
end Go.Proofs.YtpnmifahfpmplaaGreat.Pu
namespace Go.Proofs.YtpnmifahfpmplaaGreat.QS
open Cw Kp Ext Go.RowKit YtpnmifahfpmplaaGreatW.PrintWords YtpnmifahfpmplaaGreatW.PrintLast YtpnmifahfpmplaaGreatW.PrintMore
attribute [local go_sem] max2_int min2_int max_two min_two max_three min_three max_four min_four   -- for this text's walks alone
def laws_big.f (l0 : List Int) : Option (Bool) := some (decide ((l0.length : Int) > 4096))
set_option maxHeartbeats 8000000 in
set_option maxRecDepth 100000 in
theorem laws_big.calls (A0 : Option Addr) (c0 : Nat) (l0 : List Int) (r : Bool) (w : World) (hr0 : Kd.C (Kd.int .u8) w A0 l0.length l0) (hc0 : l0.length ≤ c0) (h : laws_big.f l0 = some r) :
  Calls Tryz.prog 4 #[.slice A0 l0.length c0] w fun e w' => e = .returned (.bool r) ∧ Drawn0 w w' := by
 have HR0 := Aside0.mk hr0
 have HC0 := Aside0.mk hc0
 clear hr0 hc0
 have H : (some (decide ((l0.length : Int) > 4096))) = some r := h
 clear h
 obtain rfl := Option.some.inj H
 go_enter Tryz.func4, Tryz.ntmps4
 go_wp2
 go_ret
 exact ⟨by first | rfl | (simp; done) | (simp [*]; done), by repeat (first | exact Drawn0.refl _ | apply Drawn0.step)⟩
end Go.Proofs.YtpnmifahfpmplaaGreat.QS
namespace Go.Proofs.YtpnmifahfpmplaaGreat.QFnPairings
open Go.RowKit Go.Shelf Kp Cw Ext QS Im Pu YtpnmifahfpmplaaGreatW.PrintWords YtpnmifahfpmplaaGreatW.PrintLast YtpnmifahfpmplaaGreatW.PrintMore
def laws_FnPairings.f (k : Nat) (l0 : List Int) : Option Bool := if l0.length ≤ maxLen ∧ (l0.all fun x => decide (0 ≤ x) && decide (x ≤ 255)) = true then some true else none
theorem drawn_below {w w1 : World} (h : Drawn0 w w1) : Below w.heap.size w w1 := by
  obtain ⟨nd, rfl⟩ := h
  exact pw_below_drewN (Below.refl _ _) nd
set_option maxRecDepth 100000 in
set_option maxHeartbeats 8000000 in
theorem way1 (A : Option Addr) (c : Nat) (l0 : List Int) (w : World) (hr : Kd.C (Kd.int .u8) w A l0.length l0) (hc : l0.length ≤ c) (hl : 4096 < l0.length) :
    Calls Tryz.prog 3 #[.slice A l0.length c] w fun e w' => e = .returned (.bool true) ∧ Below w.heap.size w w' := by
  have HR := Aside0.mk hr
  have HC := Aside0.mk hc
  have HF : Aside0 (laws_big.f l0 = some true) := ⟨by unfold laws_big.f; simp; omega⟩
  clear hr hc
  go_enter Tryz.func3, Tryz.ntmps3
  go_wp2_with (go_at_call 4; refine (laws_big.calls A c l0 true _ HR.out HC.out HF.out).mono ?_; rintro e w1 ⟨rfl, ⟨nd, rfl⟩⟩)
  go_ret
  exact ⟨rfl, pw_below_drewN (Below.refl _ _) nd⟩
set_option maxRecDepth 100000 in
set_option maxHeartbeats 16000000 in
theorem way2 (A : Option Addr) (c : Nat) (l0 : List Int) (w : World) (hr : Kd.C (Kd.int .u8) w A l0.length l0) (hc : l0.length ≤ c) (hl : l0.length ≤ 4096) (hb : ∀ x ∈ l0, 0 ≤ x ∧ x ≤ 255) :
    Calls Tryz.prog 3 #[.slice A l0.length c] w fun e w' => e = .returned (.bool true) ∧ Below w.heap.size w w' := by
  have HR := Aside0.mk hr
  have HC := Aside0.mk hc
  have HBY := Aside0.mk hb
  have HF : Aside0 (laws_big.f l0 = some false) := ⟨by unfold laws_big.f; simp; omega⟩
  clear hr hc hb
  go_enter Tryz.func3, Tryz.ntmps3
  go_upto_region 4 with (first
    | (go_at_call 4; refine (laws_big.calls A c l0 false _ HR.out HC.out HF.out).mono ?_; rintro e w1 ⟨rfl, ⟨nd, rfl⟩⟩; have HB1 := Aside0.mk (pw_below_drewN (Below.refl w.heap.size w) nd))
    | (go_at_call 5; refine (drawCrit_c A c l0 _ (Kd.C_below HR.out HB1.out) HC.out hl HBY.out).mono ?_; rintro e w2 ⟨n, v, ys, u, l, rfl, hk, hb⟩; obtain ⟨A1, c1, rfl⟩ := Kd.R_slice hk.1; obtain ⟨Au, cu, rfl⟩ := Kd.V_slice hk.2.2.1; have HK0 := Aside0.mk hk; have HB2 := Aside0.mk (below_in HB1.out hb); clear hk hb HB1))
  have hy64 : ys.length ≤ 64 := HK0.out.2.1
  have hl100 : l.length ≤ 100 := HK0.out.2.2.2
  have hym : ys.length ≤ 1048576 := by omega
  have hlm : l.length ≤ 1048576 := by omega
  obtain ⟨P, hP⟩ : ∃ P, pcode n ys l = P := ⟨_, rfl⟩
  obtain ⟨C, hC⟩ : ∃ C, (critF n ys l).1 = C := ⟨_, rfl⟩
  obtain ⟨N, hN⟩ : ∃ N, (numF n ys l).1 = N := ⟨_, rfl⟩
  obtain ⟨B, hB⟩ : ∃ B, (isF n ys l).1 = B := ⟨_, rfl⟩
  obtain ⟨Q, hQ⟩ : ∃ Q, (isF n ys l).2 = Q := ⟨_, rfl⟩
  obtain ⟨G, hG⟩ : ∃ G, (acyF n ys l).1 = G := ⟨_, rfl⟩
  obtain ⟨Y, hY⟩ : ∃ Y, (cycF n ys l).1 = Y := ⟨_, rfl⟩
  have ec : critF n ys l = (C, P) := Prod.ext hC ((ifP_second n _ _).trans hP)
  have en : numF n ys l = (N, P) := Prod.ext hN ((ifP_second n _ _).trans hP)
  have ei : isF n ys l = (B, Q) := Prod.ext hB hQ
  have ea : acyF n ys l = (G, P) := Prod.ext hG ((ifP_second n _ _).trans hP)
  have ey : cycF n ys l = (Y, P) := Prod.ext hY ((ifP_second n _ _).trans hP)
  have FcP := Aside0.mk (ec ▸ ev_critP n hym hlm)
  obtain ⟨kcS, h⟩ := (ec ▸ ev_critS n hym hlm).rounds
  have FcS := Aside0.mk h
  obtain ⟨knP, h⟩ := (en ▸ ev_numP n hym hlm).rounds
  have FnP := Aside0.mk h
  obtain ⟨knS, h⟩ := (en ▸ ev_numS n hym hlm).rounds
  have FnS := Aside0.mk h
  have FiP := Aside0.mk (ei ▸ ev_isP n hym hlm)
  obtain ⟨kiS, h⟩ := (ei ▸ ev_isS n hym hlm).rounds
  have FiS := Aside0.mk h
  have FaP := Aside0.mk (ea ▸ ev_acyP n hym hlm)
  obtain ⟨kaS, h⟩ := (ea ▸ ev_acyS n hym hlm).rounds
  have FaS := Aside0.mk h
  have FyP := Aside0.mk (ey ▸ ev_cycP n hym hlm)
  obtain ⟨kyS, h⟩ := (ey ▸ ev_cycS n hym hlm).rounds
  have FyS := Aside0.mk h
  clear h
  have hCl : C.length ≤ 64 := by rw [← hC]; unfold critF ifP; split <;> simp [critL]; exact Nat.le_trans (List.length_filter_le _ _) hy64
  have hYl : Y.length ≤ 64 := by rw [← hY]; unfold cycF ifP; split <;> simp [cycL]; exact Nat.le_trans (List.length_filter_le _ _) hy64
  have hNl : N.length ≤ 64 := by rw [← hN]; unfold numF ifP; split <;> simp [cntL_len]; have := (dim_rng ys).2.1; omega
  obtain ⟨klC, h⟩ := (ev_like (a := C) (by omega)).rounds
  have HLC := Aside0.mk h
  obtain ⟨klN, h⟩ := (ev_like (a := N) (by omega)).rounds
  have HLN := Aside0.mk h
  obtain ⟨klY, h⟩ := (ev_like (a := Y) (by omega)).rounds
  have HLY := Aside0.mk h
  have HREL := Aside0.mk (And.intro hP (And.intro hC (And.intro hN (And.intro hB (And.intro hQ (And.intro hG hY))))))
  have hb2 := below_alloc (Below.refl w2.heap.size w2) (.cells #[.int .i64 n, .slice A1 ys.length c1] 26)
  have HX := Aside0.mk (CxAt.new w2 n A1 ys.length c1)
  have HK := Aside0.mk (HK0.out.below hb2)
  have HB := Aside0.mk (below_in HB2.out hb2)
  have hx0 := HX.out.c0
  have hx1 := HX.out.c1
  clear h hb2 HK0 HB2 hP hC hN hB hQ hG hY ec en ei ea ey hym hlm
  go_upto_region 24 with (first
    | (go_at_call 6; refine (QK.impl_CriticalFaces.calls n A1 c1 ys Au cu l C P _ (Kd.R_reads' HK.out.1).2.2 (Kd.R_reads' HK.out.1).2.1 (Kd.V_reads' HK.out.2.2.1).2.2 (Kd.V_reads' HK.out.2.2.1).2.1 FcP.out).mono ?_; rintro e wx ⟨vHC, rfl, hv, hb⟩; obtain ⟨AHC, cHC, hvHC⟩ := Kd.R_slice hv; subst hvHC; have HC := Aside0.mk hv; clear hv; (have HC0 := HC; clear HC); have HXn := Aside0.mk (HX.out.below hb); have HKn := Aside0.mk (HK.out.below hb); have HBn := Aside0.mk (below_in HB.out hb); clear hb hx0 hx1 HX HK HB; have HX := HXn; have HK := HKn; have HB := HBn; clear HXn HKn HBn; have hx0 := HX.out.c0; have hx1 := HX.out.c1; (have HC := HC0; clear HC0))
    | (go_at_call 7; refine (spec_CriticalFaces.calls kcS n A1 c1 ys Au cu l C P _ (Kd.R_reads' HK.out.1).2.2 (Kd.R_reads' HK.out.1).2.1 (Kd.V_reads' HK.out.2.2.1).2.2 (Kd.V_reads' HK.out.2.2.1).2.1 FcS.out).mono ?_; rintro e wx ⟨vHD, rfl, hv, hb⟩; obtain ⟨AHD, cHD, hvHD⟩ := Kd.R_slice hv; subst hvHD; have HD := Aside0.mk hv; clear hv; (have HD0 := HD; clear HD); have HXn := Aside0.mk (HX.out.below hb); have HKn := Aside0.mk (HK.out.below hb); have HBn := Aside0.mk (below_in HB.out hb); have HCn := Aside0.mk (Kd.R_below HC.out hb); clear hb hx0 hx1 HX HK HB HC; have HX := HXn; have HK := HKn; have HB := HBn; have HC := HCn; clear HXn HKn HBn HCn; have hx0 := HX.out.c0; have hx1 := HX.out.c1; (have HD := HD0; clear HD0))
    | (go_at_call 8; refine (laws_likeInts.calls klC AHC cHC C AHD cHD C true _ (Kd.R_reads' HC.out).2.2 (Kd.R_reads' HC.out).2.1 (Kd.R_reads' HD.out).2.2 (Kd.R_reads' HD.out).2.1 HLC.out).mono ?_; rintro e wx ⟨rfl, hd⟩; have hb := drawn_below hd; clear hd; have HXn := Aside0.mk (HX.out.below hb); have HKn := Aside0.mk (HK.out.below hb); have HBn := Aside0.mk (below_in HB.out hb); clear HC HD; clear hb hx0 hx1 HX HK HB; have HX := HXn; have HK := HKn; have HB := HBn; clear HXn HKn HBn; have hx0 := HX.out.c0; have hx1 := HX.out.c1)
    | (go_at_call 9; refine (QK.impl_CriticalNumbers.calls knP n A1 c1 ys Au cu l N P _ (Kd.R_reads' HK.out.1).2.2 (Kd.R_reads' HK.out.1).2.1 (Kd.V_reads' HK.out.2.2.1).2.2 (Kd.V_reads' HK.out.2.2.1).2.1 FnP.out).mono ?_; rintro e wx ⟨vHN, rfl, hv, hb⟩; obtain ⟨AHN, cHN, hvHN⟩ := Kd.R_slice hv; subst hvHN; have HN := Aside0.mk hv; clear hv; (have HN0 := HN; clear HN); have HXn := Aside0.mk (HX.out.below hb); have HKn := Aside0.mk (HK.out.below hb); have HBn := Aside0.mk (below_in HB.out hb); clear hb hx0 hx1 HX HK HB; have HX := HXn; have HK := HKn; have HB := HBn; clear HXn HKn HBn; have hx0 := HX.out.c0; have hx1 := HX.out.c1; (have HN := HN0; clear HN0))
    | (go_at_call 10; refine (spec_CriticalNumbers.calls knS n A1 c1 ys Au cu l N P _ (Kd.R_reads' HK.out.1).2.2 (Kd.R_reads' HK.out.1).2.1 (Kd.V_reads' HK.out.2.2.1).2.2 (Kd.V_reads' HK.out.2.2.1).2.1 FnS.out).mono ?_; rintro e wx ⟨vHM, rfl, hv, hb⟩; obtain ⟨AHM, cHM, hvHM⟩ := Kd.R_slice hv; subst hvHM; have HM := Aside0.mk hv; clear hv; (have HM0 := HM; clear HM); have HXn := Aside0.mk (HX.out.below hb); have HKn := Aside0.mk (HK.out.below hb); have HBn := Aside0.mk (below_in HB.out hb); have HNn := Aside0.mk (Kd.R_below HN.out hb); clear hb hx0 hx1 HX HK HB HN; have HX := HXn; have HK := HKn; have HB := HBn; have HN := HNn; clear HXn HKn HBn HNn; have hx0 := HX.out.c0; have hx1 := HX.out.c1; (have HM := HM0; clear HM0))
    | (go_at_call 8; refine (laws_likeInts.calls klN AHN cHN N AHM cHM N true _ (Kd.R_reads' HN.out).2.2 (Kd.R_reads' HN.out).2.1 (Kd.R_reads' HM.out).2.2 (Kd.R_reads' HM.out).2.1 HLN.out).mono ?_; rintro e wx ⟨rfl, hd⟩; have hb := drawn_below hd; clear hd; have HXn := Aside0.mk (HX.out.below hb); have HKn := Aside0.mk (HK.out.below hb); have HBn := Aside0.mk (below_in HB.out hb); have HNn := Aside0.mk (Kd.R_below HN.out hb); clear HM; clear hb hx0 hx1 HX HK HB HN; have HX := HXn; have HK := HKn; have HB := HBn; have HN := HNn; clear HXn HKn HBn HNn; have hx0 := HX.out.c0; have hx1 := HX.out.c1)
    | (go_at_call 11; refine (QK.impl_IsPairing.calls n A1 c1 ys Au cu l B Q _ (Kd.R_reads' HK.out.1).2.2 (Kd.R_reads' HK.out.1).2.1 (Kd.V_reads' HK.out.2.2.1).2.2 (Kd.V_reads' HK.out.2.2.1).2.1 FiP.out).mono ?_; rintro e wx ⟨rfl, hb⟩; have HXn := Aside0.mk (HX.out.below hb); have HKn := Aside0.mk (HK.out.below hb); have HBn := Aside0.mk (below_in HB.out hb); have HNn := Aside0.mk (Kd.R_below HN.out hb); clear hb hx0 hx1 HX HK HB HN; have HX := HXn; have HK := HKn; have HB := HBn; have HN := HNn; clear HXn HKn HBn HNn; have hx0 := HX.out.c0; have hx1 := HX.out.c1)
    | (go_at_call 12; refine (spec_IsPairing.calls kiS n A1 c1 ys Au cu l B Q _ (Kd.R_reads' HK.out.1).2.2 (Kd.R_reads' HK.out.1).2.1 (Kd.V_reads' HK.out.2.2.1).2.2 (Kd.V_reads' HK.out.2.2.1).2.1 FiS.out).mono ?_; rintro e wx ⟨rfl, hb⟩; have HXn := Aside0.mk (HX.out.below hb); have HKn := Aside0.mk (HK.out.below hb); have HBn := Aside0.mk (below_in HB.out hb); have HNn := Aside0.mk (Kd.R_below HN.out hb); clear hb hx0 hx1 HX HK HB HN; have HX := HXn; have HK := HKn; have HB := HBn; have HN := HNn; clear HXn HKn HBn HNn; have hx0 := HX.out.c0; have hx1 := HX.out.c1)
    | (go_at_call 13; refine (QK.impl_IsAcyclicPairing.calls n A1 c1 ys Au cu l G P _ (Kd.R_reads' HK.out.1).2.2 (Kd.R_reads' HK.out.1).2.1 (Kd.V_reads' HK.out.2.2.1).2.2 (Kd.V_reads' HK.out.2.2.1).2.1 FaP.out).mono ?_; rintro e wx ⟨rfl, hb⟩; have HXn := Aside0.mk (HX.out.below hb); have HKn := Aside0.mk (HK.out.below hb); have HBn := Aside0.mk (below_in HB.out hb); have HNn := Aside0.mk (Kd.R_below HN.out hb); clear hb hx0 hx1 HX HK HB HN; have HX := HXn; have HK := HKn; have HB := HBn; have HN := HNn; clear HXn HKn HBn HNn; have hx0 := HX.out.c0; have hx1 := HX.out.c1)
    | (go_at_call 14; refine (spec_IsAcyclicPairing.calls kaS n A1 c1 ys Au cu l G P _ (Kd.R_reads' HK.out.1).2.2 (Kd.R_reads' HK.out.1).2.1 (Kd.V_reads' HK.out.2.2.1).2.2 (Kd.V_reads' HK.out.2.2.1).2.1 FaS.out).mono ?_; rintro e wx ⟨rfl, hb⟩; have HXn := Aside0.mk (HX.out.below hb); have HKn := Aside0.mk (HK.out.below hb); have HBn := Aside0.mk (below_in HB.out hb); have HNn := Aside0.mk (Kd.R_below HN.out hb); clear hb hx0 hx1 HX HK HB HN; have HX := HXn; have HK := HKn; have HB := HBn; have HN := HNn; clear HXn HKn HBn HNn; have hx0 := HX.out.c0; have hx1 := HX.out.c1)
    | (go_at_call 15; refine (QK.impl_FacesOnCycles.calls n A1 c1 ys Au cu l Y P _ (Kd.R_reads' HK.out.1).2.2 (Kd.R_reads' HK.out.1).2.1 (Kd.V_reads' HK.out.2.2.1).2.2 (Kd.V_reads' HK.out.2.2.1).2.1 FyP.out).mono ?_; rintro e wx ⟨vHY, rfl, hv, hb⟩; obtain ⟨AHY, cHY, hvHY⟩ := Kd.R_slice hv; subst hvHY; have HY := Aside0.mk hv; clear hv; (have HY0 := HY; clear HY); have HXn := Aside0.mk (HX.out.below hb); have HKn := Aside0.mk (HK.out.below hb); have HBn := Aside0.mk (below_in HB.out hb); have HNn := Aside0.mk (Kd.R_below HN.out hb); clear hb hx0 hx1 HX HK HB HN; have HX := HXn; have HK := HKn; have HB := HBn; have HN := HNn; clear HXn HKn HBn HNn; have hx0 := HX.out.c0; have hx1 := HX.out.c1; (have HY := HY0; clear HY0))
    | (go_at_call 16; refine (spec_FacesOnCycles.calls kyS n A1 c1 ys Au cu l Y P _ (Kd.R_reads' HK.out.1).2.2 (Kd.R_reads' HK.out.1).2.1 (Kd.V_reads' HK.out.2.2.1).2.2 (Kd.V_reads' HK.out.2.2.1).2.1 FyS.out).mono ?_; rintro e wx ⟨vHZ, rfl, hv, hb⟩; obtain ⟨AHZ, cHZ, hvHZ⟩ := Kd.R_slice hv; subst hvHZ; have HZ := Aside0.mk hv; clear hv; (have HZ0 := HZ; clear HZ); have HXn := Aside0.mk (HX.out.below hb); have HKn := Aside0.mk (HK.out.below hb); have HBn := Aside0.mk (below_in HB.out hb); have HNn := Aside0.mk (Kd.R_below HN.out hb); have HYn := Aside0.mk (Kd.R_below HY.out hb); clear hb hx0 hx1 HX HK HB HN HY; have HX := HXn; have HK := HKn; have HB := HBn; have HN := HNn; have HY := HYn; clear HXn HKn HBn HNn HYn; have hx0 := HX.out.c0; have hx1 := HX.out.c1; (have HZ := HZ0; clear HZ0))
    | (go_at_call 8; refine (laws_likeInts.calls klY AHY cHY Y AHZ cHZ Y true _ (Kd.R_reads' HY.out).2.2 (Kd.R_reads' HY.out).2.1 (Kd.R_reads' HZ.out).2.2 (Kd.R_reads' HZ.out).2.1 HLY.out).mono ?_; rintro e wx ⟨rfl, hd⟩; have hb := drawn_below hd; clear hd; have HXn := Aside0.mk (HX.out.below hb); have HKn := Aside0.mk (HK.out.below hb); have HBn := Aside0.mk (below_in HB.out hb); have HNn := Aside0.mk (Kd.R_below HN.out hb); clear HY HZ; clear hb hx0 hx1 HX HK HB HN; have HX := HXn; have HK := HKn; have HB := HBn; have HN := HNn; clear HXn HKn HBn HNn; have hx0 := HX.out.c0; have hx1 := HX.out.c1))
  clear hx0 hx1 FcP FcS FnP FnS FiP FiS FaP FaS FyP FyS HLC HLN HLY
  obtain ⟨hP, hC, hN, hB, hQ, hG, hY⟩ := HREL.out
  cases hi : isC n ys with
  | false =>
    have eP : P = 1 := by rw [← hP]; unfold pcode; rw [hi]; rfl
    have eQ : Q = 1 := by rw [← hQ]; unfold isF; rw [hi]; rfl
    have eC : C = [] := by rw [← hC]; unfold critF ifP; rw [hP, eP]; rfl
    subst eP eQ eC
    clear hP hC hN hB hQ hG hY hi HREL
    go_wp2
    go_ret
    exact ⟨rfl, HB.out⟩
  | true =>
    cases hp : pairingB ys l with
    | false =>
      have eP : P = 2 := by rw [← hP]; unfold pcode; rw [hi, hp]; rfl
      have eQ : Q = 0 := by rw [← hQ]; unfold isF; rw [hi]; rfl
      have eB : B = false := by rw [← hB]; unfold isF; rw [hi, hp]; rfl
      have eC : C = [] := by rw [← hC]; unfold critF ifP; rw [hP, eP]; rfl
      subst eP eQ eB eC
      clear hP hC hN hB hQ hG hY hi hp HREL
      go_wp2
      go_ret
      exact ⟨rfl, HB.out⟩
    | true =>
      have eP : P = 0 := by rw [← hP]; unfold pcode; rw [hi, hp]; rfl
      have eQ : Q = 0 := by rw [← hQ]; unfold isF; rw [hi]; rfl
      have eB : B = true := by rw [← hB]; unfold isF; rw [hi, hp]; rfl
      have eC : C = critL ys l := by rw [← hC]; unfold critF ifP; rw [hP, eP]; rfl
      have eN : N = cntL (dimL ys + 1).toNat C := by rw [eC, ← hN]; unfold numF ifP; rw [hP, eP]; rfl
      have eG : G = acycB l := by rw [← hG]; unfold acyF ifP; rw [hP, eP]; rfl
      have eY : Y = cycL ys l := by rw [← hY]; unfold cycF ifP; rw [hP, eP]; rfl
      obtain ⟨hac, hne⟩ := acyc_iff hi hp
      rw [← eG, ← eY] at hac
      rw [← eY] at hne
      have eG2 : G = ((Y.length : Int) == 0) := by rw [hac, Bool.eq_iff_iff, decide_eq_true_eq, beq_iff_eq]; omega
      have hY1 : ((Y.length : Int) == 1) = false := beq_eq_false_iff_ne.2 (by omega)
      have hlen : (C.length : Int) + 2 * (l.length : Int) = (ys.length : Int) := by have := crit_len hi hp; rw [← eC] at this; omega
      have hNb : ∀ x ∈ N, 0 ≤ x ∧ x ≤ 100 := by
        intro x hx
        obtain ⟨j, hj, rfl⟩ := List.mem_iff_getElem.1 hx
        have h1 := cntL_le (D := (dimL ys + 1).toNat) (d := j) C
        rw [← eN, List.getElem?_eq_getElem hj] at h1
        simp only [Option.getD_some] at h1
        omega
      have hsum : N.foldl (· + ·) 0 = (C.length : Int) := by rw [eN, eC]; exact crit_sum hi l
      have heu : altZ N = eulZ ys := by rw [eN, eC]; exact crit_euler hi hp
      obtain ⟨ks, hks⟩ := (ev_sum (a := N) (by omega) (fun x hx => by have := hNb x hx; omega)).rounds
      rw [hsum] at hks
      obtain ⟨ke, hke⟩ := (ev_euler n hi).rounds
      have HKS := Aside0.mk hks
      have HKE := Aside0.mk hke
      have HNB := Aside0.mk hNb
      have HEU := Aside0.mk heu
      subst eP eQ eB eG2
      clear hP hC hN hB hQ hG hY hi hp HREL eC eN eG eY hac hne hNb hsum heu hks hke
      have hx1 := HX.out.c1
      have hx0 := HX.out.c0
      go_upto_region 33 with (first
        | (go_at_call 17; refine (laws_sum.calls ks AHN cHN N (C.length : Int) _ (Kd.R_reads' HN.out).2.2 (Kd.R_reads' HN.out).2.1 HKS.out).mono ?_; rintro e wx ⟨rfl, hd⟩; have hb := drawn_below hd; clear hd; have HXn := Aside0.mk (HX.out.below hb); have HKn := Aside0.mk (HK.out.below hb); have HBn := Aside0.mk (below_in HB.out hb); have HNn := Aside0.mk (Kd.R_below HN.out hb); clear hb hx0 hx1 HX HK HB HN; have HX := HXn; have HK := HKn; have HB := HBn; have HN := HNn; clear HXn HKn HBn HNn; have hx0 := HX.out.c0; have hx1 := HX.out.c1)
        | (go_at_call 18; refine (QK.impl_EulerNumber.calls ke n A1 c1 ys (eulZ ys) 0 _ (Kd.R_reads' HK.out.1).2.2 (Kd.R_reads' HK.out.1).2.1 HKE.out).mono ?_; rintro e wx ⟨rfl, hb⟩; have HXn := Aside0.mk (HX.out.below hb); have HKn := Aside0.mk (HK.out.below hb); have HBn := Aside0.mk (below_in HB.out hb); have HNn := Aside0.mk (Kd.R_below HN.out hb); clear hb hx0 hx1 HX HK HB HN; have HX := HXn; have HK := HKn; have HB := HBn; have HN := HNn; clear HXn HKn HBn HNn; have hx0 := HX.out.c0; have hx1 := HX.out.c1))
      have HNC := Aside0.mk (Kd.R_reads' HN.out).2.2
      clear hx0 hx1 HN HX HK
      go_wp2
      go_loopw [27, 28] (fun s27 s28 wr => ∃ (i : Nat) (a : Int), s28 = .int .i64 i ∧ s27 = .int .i64 a ∧ i ≤ N.length ∧ Aside0 (a = altZ (N.take i)) ∧ (-100 * (i : Int) ≤ a ∧ a ≤ 100 * (i : Int)) ∧ Aside0 (RC wr AHN N.length N) ∧ Aside0 (Below w.heap.size w wr)) (fun _ s28 _ => N.length - (intOf s28).toNat)
      case atStart => exact ⟨0, 0, rfl, rfl, Nat.zero_le _, ⟨rfl⟩, by omega, HNC, HB⟩
      case round =>
        clear HNC HB
        obtain ⟨i, a, rfl, rfl, hil, HA, hab, HNC, HB⟩ := hrel
        by_cases hlt : i < N.length
        · have hltz : (i : Int) < (N.length : Int) := by omega
          obtain ⟨ad, hAd, hcl⟩ := Kd.at_int HNC.out (i : Int) (by omega) (by omega)
          subst hAd
          rw [Int.toNat_natCast, rd_at hlt] at hcl
          have hxb := HNB.out _ (List.getElem_mem hlt)
          have HTS : Aside0 (altZ (N.take (i + 1)) = altZ (N.take i) + (if i % 2 = 0 then N[i] else -N[i])) := ⟨by rw [List.take_succ_eq_append_getElem hlt, altZ_snoc, List.length_take, Nat.min_eq_left (by omega)]⟩
          generalize N[i] = x at hcl hxb HTS
          by_cases hpar : i % 2 = 0
          · have hpz : ((i : Int) % 2 == 0) = true := beq_iff_eq.2 (by omega)
            rw [if_pos hpar] at HTS
            clear hpar
            go_wp2
            go_roundw
            case measure => simp [intOf]; omega
            case rel => exact ⟨i + 1, a + x, by go_num, by go_num, by omega, ⟨by rw [HTS.out, HA.out]⟩, by omega, HNC, HB⟩
          · have hpz : ((i : Int) % 2 == 0) = false := beq_eq_false_iff_ne.2 (by omega)
            rw [if_neg hpar] at HTS
            clear hpar
            go_wp2
            go_roundw
            case measure => simp [intOf]; omega
            case rel => exact ⟨i + 1, a - x, by go_num, by go_num, by omega, ⟨by rw [HTS.out, HA.out]; omega⟩, by omega, HNC, HB⟩
        · obtain rfl : i = N.length := by omega
          have hltz : ¬ ((N.length : Int) < (N.length : Int)) := by omega
          have hae : a = eulZ ys := by rw [HA.out, List.take_length]; exact HEU.out
          subst hae
          clear HA
          go_wp2
          go_ret
          exact ⟨rfl, HB.out⟩
theorem laws_FnPairings.calls (k : Nat) (A0 : Option Addr) (c0 : Nat) (l0 : List Int) (r : Bool) (w : World) (hr0 : Kd.C (Kd.int .u8) w A0 l0.length l0) (hc0 : l0.length ≤ c0) (h : laws_FnPairings.f k l0 = some r) :
    Calls Tryz.prog 3 #[.slice A0 l0.length c0] w fun e w' => e = .returned (.bool r) ∧ Below w.heap.size w w' := by
  unfold laws_FnPairings.f at h
  split at h
  · rename_i hm
    obtain rfl := Option.some.inj h
    by_cases h1 : 4096 < l0.length
    · exact way1 A0 c0 l0 w hr0 hc0 h1
    · refine way2 A0 c0 l0 w hr0 hc0 (by omega) (fun x hx => ?_)
      have := List.all_eq_true.1 hm.2 x hx
      rw [Bool.and_eq_true, decide_eq_true_eq, decide_eq_true_eq] at this
      exact this
  · cases h
end Go.Proofs.YtpnmifahfpmplaaGreat.QFnPairings
namespace Go.Proofs.YtpnmifahfpmplaaGreat.Pu
open Go.RowKit QFnPairings
theorem wf_byte {x : Int} (h : (Lit.int .u8 x).wf = true) : 0 ≤ x ∧ x ≤ 255 := by
  have e1 : IntKind.u8.min = 0 := by decide
  have e2 : IntKind.u8.max = 255 := by decide
  simp [Lit.wf] at h
  omega
theorem FnPairings (l0 : List Int) (hm : l0.length ≤ maxLen) (hw : ∀ x ∈ l0, (Lit.int .u8 x).wf = true) : ∃ k, laws_FnPairings.f k l0 = some true := by
  refine ⟨0, ?_⟩
  unfold laws_FnPairings.f
  rw [if_pos ⟨hm, List.all_eq_true.2 fun x hx => by
    have := wf_byte (hw x hx)
    rw [Bool.and_eq_true, decide_eq_true_eq, decide_eq_true_eq]
    exact this⟩]
end Go.Proofs.YtpnmifahfpmplaaGreat.Pu
