/- Words and lemmas for FnExactCancelFaces, part 5: what the row's text comes to. -/
import Derived.Test.YtdnbmobdiidfmaaGreatProg
import Derived.Below
import Derived.Deep.Draws
import Derived.Deep.AppendLies
import Derived.Maps.AppendAt
import Derived.OwnWalk
import Derived.Laws.BytesArg
import Derived.Laws.MakeOwn
import Derived.Laws.OwnMore
import Derived.Deep.OwnRows
import Derived.Tactics
import Derived.Lib.ConvBytes
import Derived.Laws.Slices
import Derived.WalkKit
import Derived.KernelRfl
import Derived.RowKit3
import Derived.Deep.LoopGhost
import Derived.Deep.QuietTactic
import Derived.BigQuiet
import Derived.WideLaws
import Derived.Deep.DeepCutAuto
import Derived.Deep.CutBlock
import Derived.Deep.RegionHeld3
import Derived.Laws.Rows
import Derived.Lib.AppendStr
import Derived.ArgAppend
import Derived.Laws.IdiomCopy
import Derived.OrdersHeld
import Derived.Laws.BitsLemmas
import Derived.RowKit
import Derived.Test.YtdnbmobdiidfmaaGreatZFnExactCancelFacesd
set_option linter.unusedVariables false
set_option linter.unusedSimpArgs false
namespace Go.Proofs.YtdnbmobdiidfmaaGreat.QB
open Cw Kp Ext Go.RowKit YtdnbmobdiidfmaaGreatW.PrintWords YtdnbmobdiidfmaaGreatW.PrintLast YtdnbmobdiidfmaaGreatW.PrintMore
attribute [local go_sem] max2_int min2_int max_two min_two max_three min_three max_four min_four   -- for this text's walks alone
def errW : Option Int → Value
 | none => .nilIface
 | some c => .iface 0 (.int .i64 c)
theorem errW_none : errW none = .nilIface := rfl
theorem errW_some (c : Int) : errW (some c) = .iface 0 (.int .i64 c) := rfl
def impl_pairingCode_1.f (a0_0 : Bool) (a1_0 : Int) (l1_1 : List Int) (l2_0 : List (S45)) : Option (Bool) := if a0_0 = true then ((impl_Complex_isPairing.f a1_0 l1_1 l2_0).bind fun t104 => (some t104)) else (some false)
set_option maxHeartbeats 8000000 in
set_option maxRecDepth 100000 in
theorem impl_pairingCode_1.calls (g0 : Nat) (a0_0 : Bool) (g1 : Nat) (a1_0 : Int) (A1_1 : Option Addr) (c1_1 : Nat) (l1_1 : List Int) (g2 : Nat) (A2_0 : Option Addr) (c2_0 : Nat) (l2_0 : List (S45)) (r : Bool) (w : World) (hb0 : w.heap[g0]? = some (.cells #[.bool a0_0] 4 (0, 0))) (hb1 : w.heap[g1]? = some (.cells #[.int .i64 a1_0, .slice A1_1 l1_1.length c1_1] 31 (0, 0))) (hr1_1 : Kd.C (Kd.int .i64) w A1_1 l1_1.length l1_1) (hc1_1 : l1_1.length ≤ c1_1) (hb2 : w.heap[g2]? = some (.cells #[.slice A2_0 l2_0.length c2_0] 28 (0, 0))) (hr2_0 : Kd.C k45 w A2_0 l2_0.length l2_0) (hc2_0 : l2_0.length ≤ c2_0) (h : impl_pairingCode_1.f a0_0 a1_0 l1_1 l2_0 = some r) :
  Calls Tryz.prog 62 #[.pointer (some ⟨g0, 0, none⟩), .pointer (some ⟨g1, 0, none⟩), .pointer (some ⟨g2, 0, none⟩)] w fun e w' => e = .returned (.bool r) ∧ Below w.heap.size w w' := by
 have hu31 := Tryz.underlying31
 have HR1_1 := Aside0.mk hr1_1
 have HC1_1 := Aside0.mk hc1_1
 clear hr1_1 hc1_1
 have HR2_0 := Aside0.mk hr2_0
 have HC2_0 := Aside0.mk hc2_0
 clear hr2_0 hc2_0
 have BK101 := Aside0.mk hb0
 clear hb0
 have BK102 := Aside0.mk hb1
 clear hb1
 have BK103 := Aside0.mk hb2
 clear hb2
 have HB := Aside0.mk (Below.refl w.heap.size w)
 have H : (if a0_0 = true then ((impl_Complex_isPairing.f a1_0 l1_1 l2_0).bind fun t104 => (some t104)) else (some false)) = some r := h
 clear h
 by_cases c4 : a0_0 = true
 ·subst c4
  have H1 : ((impl_Complex_isPairing.f a1_0 l1_1 l2_0).bind fun t104 => (some t104)) = some r := by rw [if_pos rfl] at H; exact H
  clear H
  have H := H1
  clear H1
  replace H := Option.bind_eq_some_iff.mp H
  obtain ⟨t104, A50, H⟩ := H
  try dsimp only at H
  have A5 := Aside0.mk A50
  clear A50
  obtain rfl := Option.some.inj H
  (try have hnb6 := NB101_102.out)
  (try have hnc6 := NB102_101.out)
  (try have hnb7 := NB101_103.out)
  (try have hnc7 := NB103_101.out)
  have hcz8_0 : w.cell? ⟨g0, 0, none⟩ = some (.bool true) := cB BK101 0
  have hfz8_0 := zB BK101 0
  (try have hnb9 := NB102_103.out)
  (try have hnc9 := NB103_102.out)
  have hcz10_0 : w.cell? ⟨g1, 0, none⟩ = some (.int .i64 a1_0) := cB BK102 0
  have hcz10_1 : w.cell? ⟨g1, 1, none⟩ = some (.slice A1_1 l1_1.length c1_1) := cB BK102 1
  have hfz10_0 := zB BK102 0
  have hfz10_1 := zB BK102 1
  have hcz11_0 : w.cell? ⟨g2, 0, none⟩ = some (.slice A2_0 l2_0.length c2_0) := cB BK103 0
  have hfz11_0 := zB BK103 0
  go_enter Tryz.func62, Tryz.ntmps62
  go_wp2_with (first | (go_at_call 63; (with_reducible refine (impl_Complex_isPairing.calls a1_0 _ _ l1_1 _ _ l2_0 t104 _ ?side1 ?side2 ?side3 ?side4 A5.out).mono ?_); (case side1 => exact pC (HR1_1.out)); (case side2 => exact HC1_1.out); (case side3 => exact pC (HR2_0.out)); (case side4 => exact HC2_0.out); rintro e w12 ⟨rfl, hb⟩; replace BK101 := sB BK101 hb; replace BK102 := sB BK102 hb; replace BK103 := sB BK103 hb; replace HB := sH HB hb; (try clear hb); (try clear hi)))
  go_ret
  exact ⟨by first | rfl | (simp [errW_none, errW_some] <;> rfl) | (simp [*, errW_none, errW_some] <;> rfl) | (exfalso; simp_all), pH HB⟩
 ·replace c4 := Bool.eq_false_iff.mpr c4
  subst c4
  have H1 : (some false) = some r := by rw [if_neg (show ¬ (false = true) by decide)] at H; exact H
  clear H
  have H := H1
  clear H1
  obtain rfl := Option.some.inj H
  (try have hnb13 := NB101_102.out)
  (try have hnc13 := NB102_101.out)
  (try have hnb14 := NB101_103.out)
  (try have hnc14 := NB103_101.out)
  have hcz15_0 : w.cell? ⟨g0, 0, none⟩ = some (.bool false) := cB BK101 0
  have hfz15_0 := zB BK101 0
  go_enter Tryz.func62, Tryz.ntmps62
  go_wp2
  go_ret
  exact ⟨by first | rfl | (simp [errW_none, errW_some] <;> rfl) | (simp [*, errW_none, errW_some] <;> rfl) | (exfalso; simp_all), pH HB⟩
def clo_62 (a0_0 : Bool) (a1_0 : Int) (l1_1 : List Int) (l2_0 : List (S45)) : Pred := Pred.ofU (impl_pairingCode_1.f a0_0 a1_0 l1_1 l2_0)
set_option maxRecDepth 100000 in
theorem clo_ok_62 {W : World} {g0 : Nat} {a0_0 : Bool} {g1 : Nat} {a1_0 : Int} {A1_1 : Option Addr} {c1_1 : Nat} {l1_1 : List Int} {g2 : Nat} {A2_0 : Option Addr} {c2_0 : Nat} {l2_0 : List (S45)} (hb0 : W.heap[g0]? = some (.cells #[.bool a0_0] 4 (0, 0))) (hb1 : W.heap[g1]? = some (.cells #[.int .i64 a1_0, .slice A1_1 l1_1.length c1_1] 31 (0, 0))) (hb2 : W.heap[g2]? = some (.cells #[.slice A2_0 l2_0.length c2_0] 28 (0, 0))) (hr1_1 : Kd.C (Kd.int .i64) W A1_1 l1_1.length l1_1) (hc1_1 : l1_1.length ≤ c1_1) (hr2_0 : Kd.C k45 W A2_0 l2_0.length l2_0) (hc2_0 : l2_0.length ≤ c2_0) : FnOk (.func (.func 62) #[] #[.pointer (some ⟨g0, 0, none⟩), .pointer (some ⟨g1, 0, none⟩), .pointer (some ⟨g2, 0, none⟩)]) (clo_62 a0_0 a1_0 l1_1 l2_0) W :=
 FnOk.ofU (enters_of Tryz.func62 (by kernel_rfl) rfl) (fun V b hV hr => by
  show Calls Tryz.prog 62 #[.pointer (some ⟨g0, 0, none⟩), .pointer (some ⟨g1, 0, none⟩), .pointer (some ⟨g2, 0, none⟩)] V _
  exact (impl_pairingCode_1.calls g0 a0_0 g1 a1_0 A1_1 c1_1 l1_1 g2 A2_0 c2_0 l2_0 b V ((hV.block g0 (blk_lt hb0)).trans hb0) ((hV.block g1 (blk_lt hb1)).trans hb1) (Kd.C_below hr1_1 hV) hc1_1 ((hV.block g2 (blk_lt hb2)).trans hb2) (Kd.C_below hr2_0 hV) hc2_0 hr).mono (fun e w' h_ => ⟨h_.1, h_.2⟩))
def impl_pairingCode.f (a0_0 : Int) (l0_1 : List Int) (l1 : List (S45)) (a2 : Bool) : Option (Int) := (impl_complexCode.f a0_0 l0_1 (clo_62 a2 a0_0 l0_1 l1)).bind fun t108 => (some t108)
set_option maxHeartbeats 8000000 in
set_option maxRecDepth 100000 in
theorem impl_pairingCode.calls (a0_0 : Int) (A0_1 : Option Addr) (c0_1 : Nat) (l0_1 : List Int) (A1 : Option Addr) (c1 : Nat) (l1 : List (S45)) (a2 : Bool) (r : Int) (w : World) (hr0_1 : Kd.C (Kd.int .i64) w A0_1 l0_1.length l0_1) (hc0_1 : l0_1.length ≤ c0_1) (hr1 : Kd.C k45 w A1 l1.length l1) (hc1 : l1.length ≤ c1) (h : impl_pairingCode.f a0_0 l0_1 l1 a2 = some r) :
  Calls Tryz.prog 46 #[.agg #[.int .i64 a0_0, .slice A0_1 l0_1.length c0_1], .slice A1 l1.length c1, .bool a2] w fun e w' => e = .returned (.int .i64 r) ∧ Below w.heap.size w w' := by
 have hu31 := Tryz.underlying31
 have HR0_1 := Aside0.mk hr0_1
 have HC0_1 := Aside0.mk hc0_1
 clear hr0_1 hc0_1
 have HR1 := Aside0.mk hr1
 have HC1 := Aside0.mk hc1
 clear hr1 hc1
 have HB := Aside0.mk (Below.refl w.heap.size w)
 have H : ((impl_complexCode.f a0_0 l0_1 (clo_62 a2 a0_0 l0_1 l1)).bind fun t108 => (some t108)) = some r := h
 clear h
 replace H := Option.bind_eq_some_iff.mp H
 obtain ⟨t108, A40, H⟩ := H
 try dsimp only at H
 have A4 := Aside0.mk A40
 clear A40
 obtain rfl := Option.some.inj H
 go_enter Tryz.func46, Tryz.ntmps46
 go_wp2_with (first | ((with_reducible refine gate_dst (N := 3) rfl ?_); refine box_event ?hg (N := 3) ?hd (cs := #[.int .i64 a0_0, .slice A0_1 l0_1.length c0_1]) (t := 31) ?hr ?_; (case hd => rfl); (case hg => rfl); (case hr => first | (go_simp; done) | (go_simp; rfl)); intro gb105 hg w5 hbox hb; have BK105 := Aside0.mk (hbox); have GW105 := gH HB hg; have GE105 := gH HB hg; replace HB := sH HB hb; clear hb hbox hg) | ((with_reducible refine gate_dst (N := 4) rfl ?_); refine box_event ?hg (N := 4) ?hd (cs := #[.slice A1 l1.length c1]) (t := 28) ?hr ?_; (case hd => rfl); (case hg => rfl); (case hr => first | (go_simp; done) | (go_simp; rfl)); intro gb106 hg w6 hbox hb; have BK106 := Aside0.mk (hbox); have GW106 := gH HB hg; have GE106 := gH HB hg; replace HB := sH HB hb; have NB105_106 := nB BK105 hg; have NB106_105 := oB BK105 hg; replace BK105 := sB BK105 hb; clear hb hbox hg) | ((with_reducible refine gate_dst (N := 5) rfl ?_); refine box_event ?hg (N := 5) ?hd (cs := #[.bool a2]) (t := 4) ?hr ?_; (case hd => rfl); (case hg => rfl); (case hr => first | (go_simp; done) | (go_simp; rfl)); intro gb107 hg w7 hbox hb; have BK107 := Aside0.mk (hbox); have GW107 := gH HB hg; have GE107 := gH HB hg; replace HB := sH HB hb; have NB105_107 := nB BK105 hg; have NB107_105 := oB BK105 hg; replace BK105 := sB BK105 hb; have NB106_107 := nB BK106 hg; have NB107_106 := oB BK106 hg; replace BK106 := sB BK106 hb; clear hb hbox hg; (try have hnb8 := NB105_106.out); (try have hnc8 := NB106_105.out); (try have hnb9 := NB105_107.out); (try have hnc9 := NB107_105.out); have hcz10_0 : w7.cell? ⟨gb105, 0, none⟩ = some (.int .i64 a0_0) := cB BK105 0; have hcz10_1 : w7.cell? ⟨gb105, 1, none⟩ = some (.slice A0_1 l0_1.length c0_1) := cB BK105 1; have hfz10_0 := zB BK105 0; have hfz10_1 := zB BK105 1) | ((with_reducible refine gate_callee (f := 61) rfl ?_); refine cl_ (some 9) Tryz.func61 #[.agg #[.int .i64 a0_0, .slice A0_1 l0_1.length c0_1], .func (.func 62) #[] #[.pointer (some ⟨gb107, 0, none⟩), .pointer (some ⟨gb105, 0, none⟩), .pointer (some ⟨gb106, 0, none⟩)]] ?_; (with_reducible refine (impl_complexCode.calls a0_0 _ _ l0_1 _ (clo_62 a2 a0_0 l0_1 l1) t108 _ ?side1 ?side2 ?side3 A4.out).mono ?_); (case side1 => exact pC ((Kd.C_below HR0_1.out HB.out))); (case side2 => exact HC0_1.out); (case side3 => exact clo_ok_62 (pB BK107) (pB BK105) (pB BK106) (by exact pC ((Kd.C_below HR0_1.out HB.out))) (by exact HC0_1.out) (by exact pC ((Kd.C_below HR1.out HB.out))) (by exact HC1.out)); rintro e w11 ⟨rfl, hb⟩; refine ⟨_, rfl, ?_⟩; replace BK105 := sB BK105 hb; replace BK106 := sB BK106 hb; replace BK107 := sB BK107 hb; replace HB := sH HB hb; (try clear hb); (try clear hi)))
 go_ret
 exact ⟨by first | rfl | (simp [errW_none, errW_some] <;> rfl) | (simp [*, errW_none, errW_some] <;> rfl) | (exfalso; simp_all), pH HB⟩
def impl_acyclicCode.f (a0_0 : Int) (l0_1 : List Int) (l1 : List (S45)) (a2 : Bool) : Option (Int) := (impl_pairingCode.f a0_0 l0_1 l1 a2).bind fun t110 => (if t110 = 0 then ((impl_Complex_isAcyclic.f a0_0 l0_1 l1).bind fun t111 => (if t111 = true then (some 0) else (some 5))) else (some t110))
set_option maxHeartbeats 8000000 in
set_option maxRecDepth 100000 in
theorem impl_acyclicCode.calls (a0_0 : Int) (A0_1 : Option Addr) (c0_1 : Nat) (l0_1 : List Int) (A1 : Option Addr) (c1 : Nat) (l1 : List (S45)) (a2 : Bool) (r : Int) (w : World) (hr0_1 : Kd.C (Kd.int .i64) w A0_1 l0_1.length l0_1) (hc0_1 : l0_1.length ≤ c0_1) (hr1 : Kd.C k45 w A1 l1.length l1) (hc1 : l1.length ≤ c1) (h : impl_acyclicCode.f a0_0 l0_1 l1 a2 = some r) :
  Calls Tryz.prog 47 #[.agg #[.int .i64 a0_0, .slice A0_1 l0_1.length c0_1], .slice A1 l1.length c1, .bool a2] w fun e w' => e = .returned (.int .i64 r) ∧ Below w.heap.size w w' := by
 have hu31 := Tryz.underlying31
 have HR0_1 := Aside0.mk hr0_1
 have HC0_1 := Aside0.mk hc0_1
 clear hr0_1 hc0_1
 have HR1 := Aside0.mk hr1
 have HC1 := Aside0.mk hc1
 clear hr1 hc1
 have HB := Aside0.mk (Below.refl w.heap.size w)
 have H : ((impl_pairingCode.f a0_0 l0_1 l1 a2).bind fun t110 => (if t110 = 0 then ((impl_Complex_isAcyclic.f a0_0 l0_1 l1).bind fun t111 => (if t111 = true then (some 0) else (some 5))) else (some t110))) = some r := h
 clear h
 replace H := Option.bind_eq_some_iff.mp H
 obtain ⟨t110, A40, H⟩ := H
 try dsimp only at H
 have A4 := Aside0.mk A40
 clear A40
 by_cases c5 : t110 = 0
 ·rw [if_pos c5] at H
  have c5b0 : (t110 == 0) = true := beq_iff_eq.mpr c5
  have c5b1 : (t110 != 0) = false := bne_eq_false_iff_eq.mpr c5
  clear c5
  replace H := Option.bind_eq_some_iff.mp H
  obtain ⟨t111, A60, H⟩ := H
  try dsimp only at H
  have A6 := Aside0.mk A60
  clear A60
  by_cases c7 : t111 = true
  ·subst c7
   have H1 : (some 0) = some r := by rw [if_pos rfl] at H; exact H
   clear H
   have H := H1
   clear H1
   obtain rfl := Option.some.inj H
   go_enter Tryz.func47, Tryz.ntmps47
   go_wp2_with (first | ((with_reducible refine gate_dst (N := 3) rfl ?_); refine box_event ?hg (N := 3) ?hd (cs := #[.int .i64 a0_0, .slice A0_1 l0_1.length c0_1]) (t := 31) ?hr ?_; (case hd => rfl); (case hg => rfl); (case hr => first | (go_simp; done) | (go_simp; rfl)); intro gb109 hg w8 hbox hb; have BK109 := Aside0.mk (hbox); have GW109 := gH HB hg; have GE109 := gH HB hg; replace HB := sH HB hb; clear hb hbox hg; have hcz9_0 : w8.cell? ⟨gb109, 0, none⟩ = some (.int .i64 a0_0) := cB BK109 0; have hcz9_1 : w8.cell? ⟨gb109, 1, none⟩ = some (.slice A0_1 l0_1.length c0_1) := cB BK109 1; have hfz9_0 := zB BK109 0; have hfz9_1 := zB BK109 1) | ((with_reducible refine gate_callee (f := 46) rfl ?_); refine cl_ (some 11) Tryz.func46 #[.agg #[.int .i64 a0_0, .slice A0_1 l0_1.length c0_1], .slice A1 l1.length c1, .bool a2] ?_; (with_reducible refine (impl_pairingCode.calls a0_0 _ _ l0_1 _ _ l1 a2 t110 _ ?side1 ?side2 ?side3 ?side4 A4.out).mono ?_); (case side1 => exact pC ((Kd.C_below HR0_1.out HB.out))); (case side2 => exact HC0_1.out); (case side3 => exact pC ((Kd.C_below HR1.out HB.out))); (case side4 => exact HC1.out); rintro e w10 ⟨rfl, hb⟩; refine ⟨_, rfl, ?_⟩; replace BK109 := sB BK109 hb; replace HB := sH HB hb; (try clear hb); (try clear hi); have hcz11_0 : w10.cell? ⟨gb109, 0, none⟩ = some (.int .i64 a0_0) := cB BK109 0; have hcz11_1 : w10.cell? ⟨gb109, 1, none⟩ = some (.slice A0_1 l0_1.length c0_1) := cB BK109 1; have hfz11_0 := zB BK109 0; have hfz11_1 := zB BK109 1) | ((with_reducible refine gate_callee (f := 64) rfl ?_); refine cl_ (some 17) Tryz.func64 #[.agg #[.int .i64 a0_0, .slice A0_1 l0_1.length c0_1], .slice A1 l1.length c1] ?_; (with_reducible refine (impl_Complex_isAcyclic.calls a0_0 _ _ l0_1 _ _ l1 true _ ?side1 ?side2 ?side3 ?side4 A6.out).mono ?_); (case side1 => exact pC ((Kd.C_below HR0_1.out HB.out))); (case side2 => exact HC0_1.out); (case side3 => exact pC ((Kd.C_below HR1.out HB.out))); (case side4 => exact HC1.out); rintro e w12 ⟨rfl, hb⟩; refine ⟨_, rfl, ?_⟩; replace BK109 := sB BK109 hb; replace HB := sH HB hb; (try clear hb); (try clear hi)))
   go_ret
   exact ⟨by first | rfl | (simp [errW_none, errW_some] <;> rfl) | (simp [*, errW_none, errW_some] <;> rfl) | (exfalso; simp_all), pH HB⟩
  ·replace c7 := Bool.eq_false_iff.mpr c7
   subst c7
   have H1 : (some 5) = some r := by rw [if_neg (show ¬ (false = true) by decide)] at H; exact H
   clear H
   have H := H1
   clear H1
   obtain rfl := Option.some.inj H
   go_enter Tryz.func47, Tryz.ntmps47
   go_wp2_with (first | ((with_reducible refine gate_dst (N := 3) rfl ?_); refine box_event ?hg (N := 3) ?hd (cs := #[.int .i64 a0_0, .slice A0_1 l0_1.length c0_1]) (t := 31) ?hr ?_; (case hd => rfl); (case hg => rfl); (case hr => first | (go_simp; done) | (go_simp; rfl)); intro gb109 hg w13 hbox hb; have BK109 := Aside0.mk (hbox); have GW109 := gH HB hg; have GE109 := gH HB hg; replace HB := sH HB hb; clear hb hbox hg; have hcz14_0 : w13.cell? ⟨gb109, 0, none⟩ = some (.int .i64 a0_0) := cB BK109 0; have hcz14_1 : w13.cell? ⟨gb109, 1, none⟩ = some (.slice A0_1 l0_1.length c0_1) := cB BK109 1; have hfz14_0 := zB BK109 0; have hfz14_1 := zB BK109 1) | ((with_reducible refine gate_callee (f := 46) rfl ?_); refine cl_ (some 11) Tryz.func46 #[.agg #[.int .i64 a0_0, .slice A0_1 l0_1.length c0_1], .slice A1 l1.length c1, .bool a2] ?_; (with_reducible refine (impl_pairingCode.calls a0_0 _ _ l0_1 _ _ l1 a2 t110 _ ?side1 ?side2 ?side3 ?side4 A4.out).mono ?_); (case side1 => exact pC ((Kd.C_below HR0_1.out HB.out))); (case side2 => exact HC0_1.out); (case side3 => exact pC ((Kd.C_below HR1.out HB.out))); (case side4 => exact HC1.out); rintro e w15 ⟨rfl, hb⟩; refine ⟨_, rfl, ?_⟩; replace BK109 := sB BK109 hb; replace HB := sH HB hb; (try clear hb); (try clear hi); have hcz16_0 : w15.cell? ⟨gb109, 0, none⟩ = some (.int .i64 a0_0) := cB BK109 0; have hcz16_1 : w15.cell? ⟨gb109, 1, none⟩ = some (.slice A0_1 l0_1.length c0_1) := cB BK109 1; have hfz16_0 := zB BK109 0; have hfz16_1 := zB BK109 1) | ((with_reducible refine gate_callee (f := 64) rfl ?_); refine cl_ (some 17) Tryz.func64 #[.agg #[.int .i64 a0_0, .slice A0_1 l0_1.length c0_1], .slice A1 l1.length c1] ?_; (with_reducible refine (impl_Complex_isAcyclic.calls a0_0 _ _ l0_1 _ _ l1 false _ ?side1 ?side2 ?side3 ?side4 A6.out).mono ?_); (case side1 => exact pC ((Kd.C_below HR0_1.out HB.out))); (case side2 => exact HC0_1.out); (case side3 => exact pC ((Kd.C_below HR1.out HB.out))); (case side4 => exact HC1.out); rintro e w17 ⟨rfl, hb⟩; refine ⟨_, rfl, ?_⟩; replace BK109 := sB BK109 hb; replace HB := sH HB hb; (try clear hb); (try clear hi)))
   go_ret
   exact ⟨by first | rfl | (simp [errW_none, errW_some] <;> rfl) | (simp [*, errW_none, errW_some] <;> rfl) | (exfalso; simp_all), pH HB⟩
 ·rw [if_neg c5] at H
  have c5b0 : (t110 == 0) = false := beq_eq_false_iff_ne.mpr c5
  have c5b1 : (t110 != 0) = true := bne_iff_ne.mpr c5
  obtain rfl := Option.some.inj H
  go_enter Tryz.func47, Tryz.ntmps47
  go_wp2_with (first | ((with_reducible refine gate_dst (N := 3) rfl ?_); refine box_event ?hg (N := 3) ?hd (cs := #[.int .i64 a0_0, .slice A0_1 l0_1.length c0_1]) (t := 31) ?hr ?_; (case hd => rfl); (case hg => rfl); (case hr => first | (go_simp; done) | (go_simp; rfl)); intro gb109 hg w18 hbox hb; have BK109 := Aside0.mk (hbox); have GW109 := gH HB hg; have GE109 := gH HB hg; replace HB := sH HB hb; clear hb hbox hg; have hcz19_0 : w18.cell? ⟨gb109, 0, none⟩ = some (.int .i64 a0_0) := cB BK109 0; have hcz19_1 : w18.cell? ⟨gb109, 1, none⟩ = some (.slice A0_1 l0_1.length c0_1) := cB BK109 1; have hfz19_0 := zB BK109 0; have hfz19_1 := zB BK109 1) | ((with_reducible refine gate_callee (f := 46) rfl ?_); refine cl_ (some 11) Tryz.func46 #[.agg #[.int .i64 a0_0, .slice A0_1 l0_1.length c0_1], .slice A1 l1.length c1, .bool a2] ?_; (with_reducible refine (impl_pairingCode.calls a0_0 _ _ l0_1 _ _ l1 a2 t110 _ ?side1 ?side2 ?side3 ?side4 A4.out).mono ?_); (case side1 => exact pC ((Kd.C_below HR0_1.out HB.out))); (case side2 => exact HC0_1.out); (case side3 => exact pC ((Kd.C_below HR1.out HB.out))); (case side4 => exact HC1.out); rintro e w20 ⟨rfl, hb⟩; refine ⟨_, rfl, ?_⟩; replace BK109 := sB BK109 hb; replace HB := sH HB hb; (try clear hb); (try clear hi)))
  go_ret
  exact ⟨by first | rfl | (simp [errW_none, errW_some] <;> rfl) | (simp [*, errW_none, errW_some] <;> rfl) | (exfalso; simp_all), pH HB⟩
def impl_Complex_critical_1_1.f (a0_0 : Int) (a0_1 : Int) (a1_0 : Int) : Option (Bool) := if a0_0 = a1_0 then (some true) else (some (a0_1 == a1_0))
set_option maxHeartbeats 8000000 in
set_option maxRecDepth 100000 in
theorem impl_Complex_critical_1_1.calls (a0_0 : Int) (a0_1 : Int) (g1 : Nat) (a1_0 : Int) (r : Bool) (w : World) (hb1 : w.heap[g1]? = some (.cells #[.int .i64 a1_0] 2 (0, 0))) (h : impl_Complex_critical_1_1.f a0_0 a0_1 a1_0 = some r) :
  Calls Tryz.prog 92 #[.agg #[.int .i64 a0_0, .int .i64 a0_1], .pointer (some ⟨g1, 0, none⟩)] w fun e w' => e = .returned (.bool r) ∧ Below w.heap.size w w' := by
 have hu45 := Tryz.underlying45
 have BK112 := Aside0.mk hb1
 clear hb1
 have HB := Aside0.mk (Below.refl w.heap.size w)
 have H : (if a0_0 = a1_0 then (some true) else (some (a0_1 == a1_0))) = some r := h
 clear h
 by_cases c3 : a0_0 = a1_0
 ·rw [if_pos c3] at H
  have c3b0 : (a0_0 == a1_0) = true := beq_iff_eq.mpr c3
  have c3b1 : (a0_0 != a1_0) = false := bne_eq_false_iff_eq.mpr c3
  clear c3
  obtain rfl := Option.some.inj H
  go_enter Tryz.func92, Tryz.ntmps92
  go_wp2_with (first | ((with_reducible refine gate_dst (N := 2) rfl ?_); refine box_event ?hg (N := 2) ?hd (cs := #[.int .i64 a0_0, .int .i64 a0_1]) (t := 45) ?hr ?_; (case hd => rfl); (case hg => rfl); (case hr => first | (go_simp; done) | (go_simp; rfl)); intro gb113 hg w4 hbox hb; have BK113 := Aside0.mk (hbox); have GW113 := gH HB hg; have GE113 := gH HB hg; replace HB := sH HB hb; have NB112_113 := nB BK112 hg; have NB113_112 := oB BK112 hg; replace BK112 := sB BK112 hb; clear hb hbox hg; (try have hnb5 := NB113_112.out); (try have hnc5 := NB112_113.out); have hcz6_0 : w4.cell? ⟨gb113, 0, none⟩ = some (.int .i64 a0_0) := cB BK113 0; have hcz6_1 : w4.cell? ⟨gb113, 1, none⟩ = some (.int .i64 a0_1) := cB BK113 1; have hfz6_0 := zB BK113 0; have hfz6_1 := zB BK113 1; have hcz7_0 : w4.cell? ⟨g1, 0, none⟩ = some (.int .i64 a1_0) := cB BK112 0; have hfz7_0 := zB BK112 0))
  go_ret
  exact ⟨by first | rfl | (simp [errW_none, errW_some] <;> rfl) | (simp [*, errW_none, errW_some] <;> rfl) | (exfalso; simp_all), pH HB⟩
 ·rw [if_neg c3] at H
  have c3b0 : (a0_0 == a1_0) = false := beq_eq_false_iff_ne.mpr c3
  have c3b1 : (a0_0 != a1_0) = true := bne_iff_ne.mpr c3
  obtain rfl := Option.some.inj H
  go_enter Tryz.func92, Tryz.ntmps92
  go_wp2_with (first | ((with_reducible refine gate_dst (N := 2) rfl ?_); refine box_event ?hg (N := 2) ?hd (cs := #[.int .i64 a0_0, .int .i64 a0_1]) (t := 45) ?hr ?_; (case hd => rfl); (case hg => rfl); (case hr => first | (go_simp; done) | (go_simp; rfl)); intro gb113 hg w8 hbox hb; have BK113 := Aside0.mk (hbox); have GW113 := gH HB hg; have GE113 := gH HB hg; replace HB := sH HB hb; have NB112_113 := nB BK112 hg; have NB113_112 := oB BK112 hg; replace BK112 := sB BK112 hb; clear hb hbox hg; (try have hnb9 := NB113_112.out); (try have hnc9 := NB112_113.out); have hcz10_0 : w8.cell? ⟨gb113, 0, none⟩ = some (.int .i64 a0_0) := cB BK113 0; have hcz10_1 : w8.cell? ⟨gb113, 1, none⟩ = some (.int .i64 a0_1) := cB BK113 1; have hfz10_0 := zB BK113 0; have hfz10_1 := zB BK113 1; have hcz11_0 : w8.cell? ⟨g1, 0, none⟩ = some (.int .i64 a1_0) := cB BK112 0; have hfz11_0 := zB BK112 0))
  go_ret
  exact ⟨by first | rfl | (simp [errW_none, errW_some] <;> rfl) | (simp [*, errW_none, errW_some] <;> rfl) | (exfalso; simp_all), pH HB⟩
def clo_92 (a1_0 : Int) : Pred := Pred.ofP (fun x y => impl_Complex_critical_1_1.f x y a1_0)
set_option maxRecDepth 100000 in
theorem clo_ok_92 {W : World} {g1 : Nat} {a1_0 : Int} (hb1 : W.heap[g1]? = some (.cells #[.int .i64 a1_0] 2 (0, 0)))  : FnOk (.func (.func 92) #[] #[.pointer (some ⟨g1, 0, none⟩)]) (clo_92 a1_0) W :=
 FnOk.ofP (enters_of Tryz.func92 (by kernel_rfl) rfl) (fun V x y b hV hr => by
  show Calls Tryz.prog 92 #[.agg #[.int .i64 x, .int .i64 y], .pointer (some ⟨g1, 0, none⟩)] V _
  exact (impl_Complex_critical_1_1.calls x y g1 a1_0 b V ((hV.block g1 (blk_lt hb1)).trans hb1) hr).mono (fun e w' h_ => ⟨h_.1, h_.2⟩))
def impl_Complex_critical_1.f (a0 : Int) (l1_0 : List (S45)) : Option (Bool) := (slices_ContainsFunc_impl_Pair_impl_Pair.f l1_0 (clo_92 a0)).bind fun t116 => (some t116)
set_option maxHeartbeats 8000000 in
set_option maxRecDepth 100000 in
theorem impl_Complex_critical_1.calls (a0 : Int) (g1 : Nat) (A1_0 : Option Addr) (c1_0 : Nat) (l1_0 : List (S45)) (r : Bool) (w : World) (hb1 : w.heap[g1]? = some (.cells #[.slice A1_0 l1_0.length c1_0] 28 (0, 0))) (hr1_0 : Kd.C k45 w A1_0 l1_0.length l1_0) (hc1_0 : l1_0.length ≤ c1_0) (h : impl_Complex_critical_1.f a0 l1_0 = some r) :
  Calls Tryz.prog 90 #[.int .i64 a0, .pointer (some ⟨g1, 0, none⟩)] w fun e w' => e = .returned (.bool r) ∧ Below w.heap.size w w' := by
 have HR1_0 := Aside0.mk hr1_0
 have HC1_0 := Aside0.mk hc1_0
 clear hr1_0 hc1_0
 have BK114 := Aside0.mk hb1
 clear hb1
 have HB := Aside0.mk (Below.refl w.heap.size w)
 have H : ((slices_ContainsFunc_impl_Pair_impl_Pair.f l1_0 (clo_92 a0)).bind fun t116 => (some t116)) = some r := h
 clear h
 replace H := Option.bind_eq_some_iff.mp H
 obtain ⟨t116, A30, H⟩ := H
 try dsimp only at H
 have A3 := Aside0.mk A30
 clear A30
 obtain rfl := Option.some.inj H
 go_enter Tryz.func90, Tryz.ntmps90
 go_wp2_with (first | ((with_reducible refine gate_dst (N := 2) rfl ?_); refine box_event ?hg (N := 2) ?hd (cs := #[.int .i64 a0]) (t := 2) ?hr ?_; (case hd => rfl); (case hg => rfl); (case hr => first | (go_simp; done) | (go_simp; rfl)); intro gb115 hg w4 hbox hb; have BK115 := Aside0.mk (hbox); have GW115 := gH HB hg; have GE115 := gH HB hg; replace HB := sH HB hb; have NB114_115 := nB BK114 hg; have NB115_114 := oB BK114 hg; replace BK114 := sB BK114 hb; clear hb hbox hg; (try have hnb5 := NB114_115.out); (try have hnc5 := NB115_114.out); have hcz6_0 : w4.cell? ⟨g1, 0, none⟩ = some (.slice A1_0 l1_0.length c1_0) := cB BK114 0; have hfz6_0 := zB BK114 0) | ((with_reducible refine gate_callee (f := 91) rfl ?_); refine cl_ (some 6) Tryz.func91 #[.slice A1_0 l1_0.length c1_0, .func (.func 92) #[] #[.pointer (some ⟨gb115, 0, none⟩)]] ?_; (with_reducible refine (slices_ContainsFunc_impl_Pair_impl_Pair.calls _ _ l1_0 _ (clo_92 a0) t116 _ ?side1 ?side2 ?side3 A3.out).mono ?_); (case side1 => exact pC ((Kd.C_below HR1_0.out HB.out))); (case side2 => exact HC1_0.out); (case side3 => exact clo_ok_92 (pB BK115) ); rintro e w7 ⟨rfl, hb⟩; refine ⟨_, rfl, ?_⟩; replace BK114 := sB BK114 hb; replace BK115 := sB BK115 hb; replace HB := sH HB hb; (try clear hb); (try clear hi)))
 go_ret
 exact ⟨by first | rfl | (simp [errW_none, errW_some] <;> rfl) | (simp [*, errW_none, errW_some] <;> rfl) | (exfalso; simp_all), pH HB⟩
def clo_90 (l1_0 : List (S45)) : Pred := Pred.ofI (fun x => impl_Complex_critical_1.f x l1_0)
set_option maxRecDepth 100000 in
theorem clo_ok_90 {W : World} {g1 : Nat} {A1_0 : Option Addr} {c1_0 : Nat} {l1_0 : List (S45)} (hb1 : W.heap[g1]? = some (.cells #[.slice A1_0 l1_0.length c1_0] 28 (0, 0))) (hr1_0 : Kd.C k45 W A1_0 l1_0.length l1_0) (hc1_0 : l1_0.length ≤ c1_0) : FnOk (.func (.func 90) #[] #[.pointer (some ⟨g1, 0, none⟩)]) (clo_90 l1_0) W :=
 FnOk.ofI (enters_of Tryz.func90 (by kernel_rfl) rfl) (fun V x b hV hr => by
  show Calls Tryz.prog 90 #[.int .i64 x, .pointer (some ⟨g1, 0, none⟩)] V _
  exact (impl_Complex_critical_1.calls x g1 A1_0 c1_0 l1_0 b V ((hV.block g1 (blk_lt hb1)).trans hb1) (Kd.C_below hr1_0 hV) hc1_0 hr).mono (fun e w' h_ => ⟨h_.1, h_.2⟩))
def impl_Complex_critical.f (a0_0 : Int) (l0_1 : List Int) (l1 : List (S45)) : Option (List Int) := (slices_Clone_int64_int64.f l0_1).bind fun t119 => ((slices_DeleteFunc_int64_int64.f t119 (clo_90 l1)).bind fun t122 => (some t122))
set_option maxHeartbeats 8000000 in
set_option maxRecDepth 100000 in
theorem impl_Complex_critical.calls (a0_0 : Int) (A0_1 : Option Addr) (c0_1 : Nat) (l0_1 : List Int) (A1 : Option Addr) (c1 : Nat) (l1 : List (S45)) (r : List Int) (w : World) (hr0_1 : Kd.C (Kd.int .i64) w A0_1 l0_1.length l0_1) (hc0_1 : l0_1.length ≤ c0_1) (hr1 : Kd.C k45 w A1 l1.length l1) (hc1 : l1.length ≤ c1) (h : impl_Complex_critical.f a0_0 l0_1 l1 = some r) :
  Calls Tryz.prog 65 #[.agg #[.int .i64 a0_0, .slice A0_1 l0_1.length c0_1], .slice A1 l1.length c1] w fun e w' => ∃ v0_ : Value, e = .returned (v0_) ∧ Kd.R (Kd.int .i64) 2 w' w.heap.size (fun _ => True) v0_ r ∧ Below w.heap.size w w' := by
 have hu31 := Tryz.underlying31
 have HR0_1 := Aside0.mk hr0_1
 have HC0_1 := Aside0.mk hc0_1
 clear hr0_1 hc0_1
 have HR1 := Aside0.mk hr1
 have HC1 := Aside0.mk hc1
 clear hr1 hc1
 have HB := Aside0.mk (Below.refl w.heap.size w)
 have H : ((slices_Clone_int64_int64.f l0_1).bind fun t119 => ((slices_DeleteFunc_int64_int64.f t119 (clo_90 l1)).bind fun t122 => (some t122))) = some r := h
 clear h
 replace H := Option.bind_eq_some_iff.mp H
 obtain ⟨t119, A30, H⟩ := H
 try dsimp only at H
 have A3 := Aside0.mk A30
 clear A30
 replace H := Option.bind_eq_some_iff.mp H
 obtain ⟨t122, A40, H⟩ := H
 try dsimp only at H
 have A4 := Aside0.mk A40
 clear A40
 obtain rfl := Option.some.inj H
 go_enter Tryz.func65, Tryz.ntmps65
 go_wp2_with (first | ((with_reducible refine gate_dst (N := 2) rfl ?_); refine box_event ?hg (N := 2) ?hd (cs := #[.int .i64 a0_0, .slice A0_1 l0_1.length c0_1]) (t := 31) ?hr ?_; (case hd => rfl); (case hg => rfl); (case hr => first | (go_simp; done) | (go_simp; rfl)); intro gb117 hg w5 hbox hb; have BK117 := Aside0.mk (hbox); have GW117 := gH HB hg; have GE117 := gH HB hg; replace HB := sH HB hb; clear hb hbox hg) | ((with_reducible refine gate_dst (N := 3) rfl ?_); refine box_event ?hg (N := 3) ?hd (cs := #[.slice A1 l1.length c1]) (t := 28) ?hr ?_; (case hd => rfl); (case hg => rfl); (case hr => first | (go_simp; done) | (go_simp; rfl)); intro gb118 hg w6 hbox hb; have BK118 := Aside0.mk (hbox); have GW118 := gH HB hg; have GE118 := gH HB hg; replace HB := sH HB hb; have NB117_118 := nB BK117 hg; have NB118_117 := oB BK117 hg; replace BK117 := sB BK117 hb; clear hb hbox hg; (try have hnb7 := NB117_118.out); (try have hnc7 := NB118_117.out); have hcz8_0 : w6.cell? ⟨gb117, 0, none⟩ = some (.int .i64 a0_0) := cB BK117 0; have hcz8_1 : w6.cell? ⟨gb117, 1, none⟩ = some (.slice A0_1 l0_1.length c0_1) := cB BK117 1; have hfz8_0 := zB BK117 0; have hfz8_1 := zB BK117 1) | ((with_reducible refine gate_callee (f := 89) rfl ?_); refine cl_ (some 7) Tryz.func89 #[.slice A0_1 l0_1.length c0_1] ?_; (with_reducible refine (slices_Clone_int64_int64.calls _ _ l0_1 t119 _ ?side1 ?side2 A3.out).mono ?_); (case side1 => exact pC ((Kd.C_below HR0_1.out HB.out))); (case side2 => exact HC0_1.out); rintro e w9 ⟨v120, rfl, ho0, hb⟩; refine ⟨_, rfl, ?_⟩; have HO121 := Aside0.mk (Kd.R_lower ho0 (below_size (pH HB))); replace BK117 := sB BK117 hb; replace BK118 := sB BK118 hb; replace HB := sH HB hb; (try clear hb); (try clear hi); (try clear ho0); obtain ⟨Ao10, co10, eo10⟩ := Kd.R_slice HO121.out; subst eo10) | ((with_reducible refine gate_callee (f := 69) rfl ?_); refine cl_ (some 9) Tryz.func69 #[.slice Ao10 t119.length co10, .func (.func 90) #[] #[.pointer (some ⟨gb118, 0, none⟩)]] ?_; (with_reducible refine (slices_DeleteFunc_int64_int64.calls (fun k_ => some k_ = (.slice Ao10 t119.length co10 : Value).ownBlock) (.slice Ao10 t119.length co10) t119 _ (clo_90 l1) t122 w _ ?side1 ?side2 ?side3 A4.out).mono ?_); (case side1 => repeat (first | (with_reducible first | exact HB.out | apply below_alloc | apply pw_below_drewN | apply below_drew1 | refine below_set ?_ GE117.out | refine below_set ?_ GE118.out) | exact HB.out)); (case side2 => exact Kd.R_tight rfl HO121.out); (case side3 => intro W_ hK_; exact clo_ok_90 (blk_kept (pB BK118) hK_ (fun hs_ => (fun e_ => (Kd.R_ne HO121.out BK118.out (by decide)) e_) hs_)) ((Kd.C_kept_came k45_heap HR1.out (pH HB) (fun k_ hs_ => (fun e_ => Kd.R_base HO121.out k_ e_.symm) hs_)) W_ hK_) (by exact HC1.out)); rintro e w11 ⟨v123, rfl, ho0, hb, hkp⟩; refine ⟨_, rfl, ?_⟩; replace BK117 := Aside0.mk (blk_kept (pB BK117) hkp (fun hs_ => (fun e_ => (Kd.R_ne HO121.out BK117.out (by decide)) e_) hs_)); replace BK118 := Aside0.mk (blk_kept (pB BK118) hkp (fun hs_ => (fun e_ => (Kd.R_ne HO121.out BK118.out (by decide)) e_) hs_)); have HO124 := Aside0.mk (Kd.R_mono (ok' := fun k_ => True) ho0 (fun k_ hk_ => trivial)); replace HB := Aside0.mk (hb); clear HO121; (try clear hb); (try clear hkp); (try clear ho0)))
 go_ret
 exact ⟨_, by first | rfl | (simp [errW_none, errW_some] <;> rfl) | (simp [*, errW_none, errW_some] <;> rfl) | (exfalso; simp_all), by (with_reducible repeat (first | apply Kd.R_alloc | apply Kd.R_drewN | apply Kd.R_drew)); exact HO124.out, pH HB⟩
open Go.Proofs.YtdnbmobdiidfmaaGreat.QA (bits_OnesCount64.f)
open Go.Proofs.YtdnbmobdiidfmaaGreat.QA (bits_OnesCount64.calls)
def impl_size.f (a0 : Int) : Option (Int) := (bits_OnesCount64.f (IntKind.u64.wrap (a0))).bind fun t125 => (some t125)
set_option maxHeartbeats 8000000 in
set_option maxRecDepth 100000 in
theorem impl_size.calls (a0 : Int) (r : Int) (w : World) (h : impl_size.f a0 = some r) :
  Calls Tryz.prog 66 #[.int .i64 a0] w fun e w' => e = .returned (.int .i64 r) ∧ Drawn0 w w' := by
 have H : ((bits_OnesCount64.f (IntKind.u64.wrap (a0))).bind fun t125 => (some t125)) = some r := h
 clear h
 replace H := Option.bind_eq_some_iff.mp H
 obtain ⟨t125, A20, H⟩ := H
 try dsimp only at H
 have A2 := Aside0.mk A20
 clear A20
 obtain rfl := Option.some.inj H
 go_enter Tryz.func66, Tryz.ntmps66
 go_wp2_with (first | ((with_reducible refine gate_callee (f := 93) rfl ?_); refine cl_ (some 5) Tryz.func93 #[.int .u64 (IntKind.u64.wrap (a0))] ?_; (with_reducible refine (bits_OnesCount64.calls (IntKind.u64.wrap (a0)) t125 _ A2.out).mono ?_); rintro e w' ⟨rfl, ⟨nd, rfl⟩⟩; refine ⟨_, rfl, ?_⟩))
 go_ret
 exact ⟨by first | rfl | (simp; done) | (simp [*]; done), by repeat (first | exact Drawn0.refl _ | apply Drawn0.step)⟩
def impl_Complex_areBeside.f (a0_0 : Int) (l0_1 : List Int) (l1 : List (S45)) (a2 : Int) (a3 : Int) : Option (Bool) := (impl_Complex_critical.f a0_0 l0_1 l1).bind fun t127 => ((slices_Contains_int64_int64.f t127 a2).bind fun t130 => (if t130 = true then ((slices_Contains_int64_int64.f t127 a3).bind fun t131 => (if t131 = true then ((impl_size.f a2).bind fun t132 => ((impl_size.f a3).bind fun t133 => (some (t132 == (wrap64 (t133 + 1)))))) else (some false))) else (some false)))
set_option maxHeartbeats 8000000 in
set_option maxRecDepth 100000 in
theorem impl_Complex_areBeside.calls (a0_0 : Int) (A0_1 : Option Addr) (c0_1 : Nat) (l0_1 : List Int) (A1 : Option Addr) (c1 : Nat) (l1 : List (S45)) (a2 : Int) (a3 : Int) (r : Bool) (w : World) (hr0_1 : Kd.C (Kd.int .i64) w A0_1 l0_1.length l0_1) (hc0_1 : l0_1.length ≤ c0_1) (hr1 : Kd.C k45 w A1 l1.length l1) (hc1 : l1.length ≤ c1) (h : impl_Complex_areBeside.f a0_0 l0_1 l1 a2 a3 = some r) :
  Calls Tryz.prog 48 #[.agg #[.int .i64 a0_0, .slice A0_1 l0_1.length c0_1], .slice A1 l1.length c1, .int .i64 a2, .int .i64 a3] w fun e w' => e = .returned (.bool r) ∧ Below w.heap.size w w' := by
 have hu31 := Tryz.underlying31
 have HR0_1 := Aside0.mk hr0_1
 have HC0_1 := Aside0.mk hc0_1
 clear hr0_1 hc0_1
 have HR1 := Aside0.mk hr1
 have HC1 := Aside0.mk hc1
 clear hr1 hc1
 have HB := Aside0.mk (Below.refl w.heap.size w)
 have H : ((impl_Complex_critical.f a0_0 l0_1 l1).bind fun t127 => ((slices_Contains_int64_int64.f t127 a2).bind fun t130 => (if t130 = true then ((slices_Contains_int64_int64.f t127 a3).bind fun t131 => (if t131 = true then ((impl_size.f a2).bind fun t132 => ((impl_size.f a3).bind fun t133 => (some (t132 == (wrap64 (t133 + 1)))))) else (some false))) else (some false)))) = some r := h
 clear h
 replace H := Option.bind_eq_some_iff.mp H
 obtain ⟨t127, A50, H⟩ := H
 try dsimp only at H
 have A5 := Aside0.mk A50
 clear A50
 replace H := Option.bind_eq_some_iff.mp H
 obtain ⟨t130, A60, H⟩ := H
 try dsimp only at H
 have A6 := Aside0.mk A60
 clear A60
 by_cases c7 : t130 = true
 ·subst c7
  have H1 : ((slices_Contains_int64_int64.f t127 a3).bind fun t131 => (if t131 = true then ((impl_size.f a2).bind fun t132 => ((impl_size.f a3).bind fun t133 => (some (t132 == (wrap64 (t133 + 1)))))) else (some false))) = some r := by rw [if_pos rfl] at H; exact H
  clear H
  have H := H1
  clear H1
  replace H := Option.bind_eq_some_iff.mp H
  obtain ⟨t131, A80, H⟩ := H
  try dsimp only at H
  have A8 := Aside0.mk A80
  clear A80
  by_cases c9 : t131 = true
  ·subst c9
   have H1 : ((impl_size.f a2).bind fun t132 => ((impl_size.f a3).bind fun t133 => (some (t132 == (wrap64 (t133 + 1)))))) = some r := by rw [if_pos rfl] at H; exact H
   clear H
   have H := H1
   clear H1
   replace H := Option.bind_eq_some_iff.mp H
   obtain ⟨t132, A100, H⟩ := H
   try dsimp only at H
   have A10 := Aside0.mk A100
   clear A100
   replace H := Option.bind_eq_some_iff.mp H
   obtain ⟨t133, A110, H⟩ := H
   try dsimp only at H
   have A11 := Aside0.mk A110
   clear A110
   obtain rfl := Option.some.inj H
   go_enter Tryz.func48, Tryz.ntmps48
   go_wp2_with (first | ((with_reducible refine gate_dst (N := 4) rfl ?_); refine box_event ?hg (N := 4) ?hd (cs := #[.int .i64 a0_0, .slice A0_1 l0_1.length c0_1]) (t := 31) ?hr ?_; (case hd => rfl); (case hg => rfl); (case hr => first | (go_simp; done) | (go_simp; rfl)); intro gb126 hg w12 hbox hb; have BK126 := Aside0.mk (hbox); have GW126 := gH HB hg; have GE126 := gH HB hg; replace HB := sH HB hb; clear hb hbox hg; have hcz13_0 : w12.cell? ⟨gb126, 0, none⟩ = some (.int .i64 a0_0) := cB BK126 0; have hcz13_1 : w12.cell? ⟨gb126, 1, none⟩ = some (.slice A0_1 l0_1.length c0_1) := cB BK126 1; have hfz13_0 := zB BK126 0; have hfz13_1 := zB BK126 1) | ((with_reducible refine gate_callee (f := 65) rfl ?_); refine cl_ (some 12) Tryz.func65 #[.agg #[.int .i64 a0_0, .slice A0_1 l0_1.length c0_1], .slice A1 l1.length c1] ?_; (with_reducible refine (impl_Complex_critical.calls a0_0 _ _ l0_1 _ _ l1 t127 _ ?side1 ?side2 ?side3 ?side4 A5.out).mono ?_); (case side1 => exact pC ((Kd.C_below HR0_1.out HB.out))); (case side2 => exact HC0_1.out); (case side3 => exact pC ((Kd.C_below HR1.out HB.out))); (case side4 => exact HC1.out); rintro e w14 ⟨v128, rfl, ho0, hb⟩; refine ⟨_, rfl, ?_⟩; have HO129 := Aside0.mk (Kd.R_lower ho0 (below_size (pH HB))); replace BK126 := sB BK126 hb; replace HB := sH HB hb; (try clear hb); (try clear hi); (try clear ho0); obtain ⟨Ao15, co15, eo15⟩ := Kd.R_slice HO129.out; subst eo15) | ((with_reducible refine gate_callee (f := 33) rfl ?_); refine cl_ (some 15) Tryz.func33 #[.slice Ao15 t127.length co15, .int .i64 a2] ?_; (with_reducible refine (slices_Contains_int64_int64.calls _ _ t127 a2 true _ ?side1 ?side2 A6.out).mono ?_); (case side1 => exact pC ((Kd.R_reads' HO129.out).2.2)); (case side2 => exact (Kd.R_reads' HO129.out).2.1); rintro e w16 ⟨rfl, hb⟩; refine ⟨_, rfl, ?_⟩; replace HO129 := sR HO129 hb; replace BK126 := sB BK126 hb; replace HB := sH HB hb; (try clear hb); (try clear hi)) | (go_at_call 33; (with_reducible refine (slices_Contains_int64_int64.calls _ _ t127 a3 true _ ?side1 ?side2 A8.out).mono ?_); (case side1 => exact pC ((Kd.R_reads' HO129.out).2.2)); (case side2 => exact (Kd.R_reads' HO129.out).2.1); rintro e w17 ⟨rfl, hb⟩; replace HO129 := sR HO129 hb; replace BK126 := sB BK126 hb; replace HB := sH HB hb; (try clear hb); (try clear hi)) | (go_at_call 66; (with_reducible refine (impl_size.calls a2 t132 _ A10.out).mono ?_); rintro e w' ⟨rfl, ⟨nd, rfl⟩⟩) | (go_at_call 66; (with_reducible refine (impl_size.calls a3 t133 _ A11.out).mono ?_); rintro e w' ⟨rfl, ⟨nd, rfl⟩⟩))
   go_ret
   exact ⟨by first | rfl | (simp [errW_none, errW_some] <;> rfl) | (simp [*, errW_none, errW_some] <;> rfl) | (exfalso; simp_all), pH HB⟩
  ·replace c9 := Bool.eq_false_iff.mpr c9
   subst c9
   have H1 : (some false) = some r := by rw [if_neg (show ¬ (false = true) by decide)] at H; exact H
   clear H
   have H := H1
   clear H1
   obtain rfl := Option.some.inj H
   go_enter Tryz.func48, Tryz.ntmps48
   go_wp2_with (first | ((with_reducible refine gate_dst (N := 4) rfl ?_); refine box_event ?hg (N := 4) ?hd (cs := #[.int .i64 a0_0, .slice A0_1 l0_1.length c0_1]) (t := 31) ?hr ?_; (case hd => rfl); (case hg => rfl); (case hr => first | (go_simp; done) | (go_simp; rfl)); intro gb126 hg w18 hbox hb; have BK126 := Aside0.mk (hbox); have GW126 := gH HB hg; have GE126 := gH HB hg; replace HB := sH HB hb; clear hb hbox hg; have hcz19_0 : w18.cell? ⟨gb126, 0, none⟩ = some (.int .i64 a0_0) := cB BK126 0; have hcz19_1 : w18.cell? ⟨gb126, 1, none⟩ = some (.slice A0_1 l0_1.length c0_1) := cB BK126 1; have hfz19_0 := zB BK126 0; have hfz19_1 := zB BK126 1) | ((with_reducible refine gate_callee (f := 65) rfl ?_); refine cl_ (some 12) Tryz.func65 #[.agg #[.int .i64 a0_0, .slice A0_1 l0_1.length c0_1], .slice A1 l1.length c1] ?_; (with_reducible refine (impl_Complex_critical.calls a0_0 _ _ l0_1 _ _ l1 t127 _ ?side1 ?side2 ?side3 ?side4 A5.out).mono ?_); (case side1 => exact pC ((Kd.C_below HR0_1.out HB.out))); (case side2 => exact HC0_1.out); (case side3 => exact pC ((Kd.C_below HR1.out HB.out))); (case side4 => exact HC1.out); rintro e w20 ⟨v128, rfl, ho0, hb⟩; refine ⟨_, rfl, ?_⟩; have HO129 := Aside0.mk (Kd.R_lower ho0 (below_size (pH HB))); replace BK126 := sB BK126 hb; replace HB := sH HB hb; (try clear hb); (try clear hi); (try clear ho0); obtain ⟨Ao21, co21, eo21⟩ := Kd.R_slice HO129.out; subst eo21) | ((with_reducible refine gate_callee (f := 33) rfl ?_); refine cl_ (some 15) Tryz.func33 #[.slice Ao21 t127.length co21, .int .i64 a2] ?_; (with_reducible refine (slices_Contains_int64_int64.calls _ _ t127 a2 true _ ?side1 ?side2 A6.out).mono ?_); (case side1 => exact pC ((Kd.R_reads' HO129.out).2.2)); (case side2 => exact (Kd.R_reads' HO129.out).2.1); rintro e w22 ⟨rfl, hb⟩; refine ⟨_, rfl, ?_⟩; replace HO129 := sR HO129 hb; replace BK126 := sB BK126 hb; replace HB := sH HB hb; (try clear hb); (try clear hi)) | (go_at_call 33; (with_reducible refine (slices_Contains_int64_int64.calls _ _ t127 a3 false _ ?side1 ?side2 A8.out).mono ?_); (case side1 => exact pC ((Kd.R_reads' HO129.out).2.2)); (case side2 => exact (Kd.R_reads' HO129.out).2.1); rintro e w23 ⟨rfl, hb⟩; replace HO129 := sR HO129 hb; replace BK126 := sB BK126 hb; replace HB := sH HB hb; (try clear hb); (try clear hi)))
   go_ret
   exact ⟨by first | rfl | (simp [errW_none, errW_some] <;> rfl) | (simp [*, errW_none, errW_some] <;> rfl) | (exfalso; simp_all), pH HB⟩
 ·replace c7 := Bool.eq_false_iff.mpr c7
  subst c7
  have H1 : (some false) = some r := by rw [if_neg (show ¬ (false = true) by decide)] at H; exact H
  clear H
  have H := H1
  clear H1
  obtain rfl := Option.some.inj H
  go_enter Tryz.func48, Tryz.ntmps48
  go_wp2_with (first | ((with_reducible refine gate_dst (N := 4) rfl ?_); refine box_event ?hg (N := 4) ?hd (cs := #[.int .i64 a0_0, .slice A0_1 l0_1.length c0_1]) (t := 31) ?hr ?_; (case hd => rfl); (case hg => rfl); (case hr => first | (go_simp; done) | (go_simp; rfl)); intro gb126 hg w24 hbox hb; have BK126 := Aside0.mk (hbox); have GW126 := gH HB hg; have GE126 := gH HB hg; replace HB := sH HB hb; clear hb hbox hg; have hcz25_0 : w24.cell? ⟨gb126, 0, none⟩ = some (.int .i64 a0_0) := cB BK126 0; have hcz25_1 : w24.cell? ⟨gb126, 1, none⟩ = some (.slice A0_1 l0_1.length c0_1) := cB BK126 1; have hfz25_0 := zB BK126 0; have hfz25_1 := zB BK126 1) | ((with_reducible refine gate_callee (f := 65) rfl ?_); refine cl_ (some 12) Tryz.func65 #[.agg #[.int .i64 a0_0, .slice A0_1 l0_1.length c0_1], .slice A1 l1.length c1] ?_; (with_reducible refine (impl_Complex_critical.calls a0_0 _ _ l0_1 _ _ l1 t127 _ ?side1 ?side2 ?side3 ?side4 A5.out).mono ?_); (case side1 => exact pC ((Kd.C_below HR0_1.out HB.out))); (case side2 => exact HC0_1.out); (case side3 => exact pC ((Kd.C_below HR1.out HB.out))); (case side4 => exact HC1.out); rintro e w26 ⟨v128, rfl, ho0, hb⟩; refine ⟨_, rfl, ?_⟩; have HO129 := Aside0.mk (Kd.R_lower ho0 (below_size (pH HB))); replace BK126 := sB BK126 hb; replace HB := sH HB hb; (try clear hb); (try clear hi); (try clear ho0); obtain ⟨Ao27, co27, eo27⟩ := Kd.R_slice HO129.out; subst eo27) | ((with_reducible refine gate_callee (f := 33) rfl ?_); refine cl_ (some 15) Tryz.func33 #[.slice Ao27 t127.length co27, .int .i64 a2] ?_; (with_reducible refine (slices_Contains_int64_int64.calls _ _ t127 a2 false _ ?side1 ?side2 A6.out).mono ?_); (case side1 => exact pC ((Kd.R_reads' HO129.out).2.2)); (case side2 => exact (Kd.R_reads' HO129.out).2.1); rintro e w28 ⟨rfl, hb⟩; refine ⟨_, rfl, ?_⟩; replace HO129 := sR HO129 hb; replace BK126 := sB BK126 hb; replace HB := sH HB hb; (try clear hb); (try clear hi)))
  go_ret
  exact ⟨by first | rfl | (simp [errW_none, errW_some] <;> rfl) | (simp [*, errW_none, errW_some] <;> rfl) | (exfalso; simp_all), pH HB⟩
def impl_besideCode.f (a0_0 : Int) (l0_1 : List Int) (l1 : List (S45)) (a2 : Int) (a3 : Int) : Option (Int) := (impl_pairingCode.f a0_0 l0_1 l1 true).bind fun t135 => (if t135 = 0 then ((impl_Complex_areBeside.f a0_0 l0_1 l1 a2 a3).bind fun t136 => ((impl_acyclicCode.f a0_0 l0_1 l1 t136).bind fun t137 => (some t137))) else (some t135))
def impl_besideCode.T4 : Bool × List (List Nat × List Nat) := (true, [([], []), ([], []), ([], []), ([], []), ([], []), ([], []), ([2, 3, 4, 5], [2, 3, 4, 5]), ([0, 1, 6, 6], [0, 1, 6]), ([7, 7, 0, 1, 2, 3, 4, 5, 6, 7], [7])])
def impl_besideCode.B4 : List Nat := [0, 0, 0, 0, 0, 0, 60, 127, 255]
theorem impl_besideCode.tab4 : rtab .any (opsOf Tryz.f24 4) = impl_besideCode.T4 := by kernel_rfl
theorem impl_besideCode.bits4 : waitsOk impl_besideCode.T4.2 impl_besideCode.B4 = true := by kernel_rfl
set_option maxHeartbeats 8000000 in
set_option maxRecDepth 100000 in
theorem impl_besideCode.calls (a0_0 : Int) (A0_1 : Option Addr) (c0_1 : Nat) (l0_1 : List Int) (A1 : Option Addr) (c1 : Nat) (l1 : List (S45)) (a2 : Int) (a3 : Int) (r : Int) (w : World) (hr0_1 : Kd.C (Kd.int .i64) w A0_1 l0_1.length l0_1) (hc0_1 : l0_1.length ≤ c0_1) (hr1 : Kd.C k45 w A1 l1.length l1) (hc1 : l1.length ≤ c1) (h : impl_besideCode.f a0_0 l0_1 l1 a2 a3 = some r) :
  Calls Tryz.prog 24 #[.agg #[.int .i64 a0_0, .slice A0_1 l0_1.length c0_1], .slice A1 l1.length c1, .int .i64 a2, .int .i64 a3] w fun e w' => e = .returned (.int .i64 r) ∧ Below w.heap.size w w' := by
 have hu31 := Tryz.underlying31
 have HR0_1 := Aside0.mk hr0_1
 have HC0_1 := Aside0.mk hc0_1
 clear hr0_1 hc0_1
 have HR1 := Aside0.mk hr1
 have HC1 := Aside0.mk hc1
 clear hr1 hc1
 have HB := Aside0.mk (Below.refl w.heap.size w)
 have H : ((impl_pairingCode.f a0_0 l0_1 l1 true).bind fun t135 => (if t135 = 0 then ((impl_Complex_areBeside.f a0_0 l0_1 l1 a2 a3).bind fun t136 => ((impl_acyclicCode.f a0_0 l0_1 l1 t136).bind fun t137 => (some t137))) else (some t135))) = some r := h
 clear h
 replace H := Option.bind_eq_some_iff.mp H
 obtain ⟨t135, A50, H⟩ := H
 try dsimp only at H
 have A5 := Aside0.mk A50
 clear A50
 by_cases c6 : t135 = 0
 ·rw [if_pos c6] at H
  have c6b0 : (t135 == 0) = true := beq_iff_eq.mpr c6
  have c6b1 : (t135 != 0) = false := bne_eq_false_iff_eq.mpr c6
  clear c6
  replace H := Option.bind_eq_some_iff.mp H
  obtain ⟨t136, A70, H⟩ := H
  try dsimp only at H
  have A7 := Aside0.mk A70
  clear A70
  replace H := Option.bind_eq_some_iff.mp H
  obtain ⟨t137, A80, H⟩ := H
  try dsimp only at H
  have A8 := Aside0.mk A80
  clear A80
  obtain rfl := Option.some.inj H
  go_enter Tryz.func24, Tryz.ntmps24
  try go_wp2_with (first | ((with_reducible refine gate_dst (N := 4) rfl ?_); refine box_event ?hg (N := 4) ?hd (cs := #[.int .i64 a0_0, .slice A0_1 l0_1.length c0_1]) (t := 31) ?hr ?_; (case hd => rfl); (case hg => rfl); (case hr => first | (go_simp; done) | (go_simp; rfl)); intro gb134 hg w9 hbox hb; have BK134 := Aside0.mk (hbox); have GW134 := gH HB hg; have GE134 := gH HB hg; replace HB := sH HB hb; clear hb hbox hg; have hcz10_0 : w9.cell? ⟨gb134, 0, none⟩ = some (.int .i64 a0_0) := cB BK134 0; have hcz10_1 : w9.cell? ⟨gb134, 1, none⟩ = some (.slice A0_1 l0_1.length c0_1) := cB BK134 1; have hfz10_0 := zB BK134 0; have hfz10_1 := zB BK134 1) | ((with_reducible refine gate_callee (f := 46) rfl ?_); refine cl_ (some 12) Tryz.func46 #[.agg #[.int .i64 a0_0, .slice A0_1 l0_1.length c0_1], .slice A1 l1.length c1, .bool true] ?_; (with_reducible refine (impl_pairingCode.calls a0_0 _ _ l0_1 _ _ l1 true t135 _ ?side1 ?side2 ?side3 ?side4 A5.out).mono ?_); (case side1 => exact pC ((Kd.C_below HR0_1.out HB.out))); (case side2 => exact HC0_1.out); (case side3 => exact pC ((Kd.C_below HR1.out HB.out))); (case side4 => exact HC1.out); rintro e w11 ⟨rfl, hb⟩; refine ⟨_, rfl, ?_⟩; replace BK134 := sB BK134 hb; replace HB := sH HB hb; (try clear hb); (try clear hi)))
  replace BK134 := dB BK134
  replace HB := dH HB
  refine st_ 9 (S := fun w' => w'.cell? ⟨gb134, 0, none⟩ = some (.int .i64 a0_0) ∧ w'.cell? ⟨gb134, 1, none⟩ = some (.slice A0_1 l0_1.length c0_1)) (ds := []) ⟨cB BK134 0, cB BK134 1⟩ (fun hHeld => ?_); refine with_tabW impl_besideCode.tab4 impl_besideCode.bits4 (fun HT_ HW_ => ?_)
  generalize w11.drew = w12 at BK134 HB hHeld ⊢
  refine pu_ 1 17 2 HT_ ?_
  refine pu_ 3 19 10 HT_ ?_
  refine pu_ 4 20 26 HT_ ?_
  refine pu_ 5 21 58 HT_ ?_
  refine tk_ 0 16 59 HT_ HW_ hHeld ?_
  refine tk_ 2 18 63 HT_ HW_ hHeld ?_
  refine on_ 6 (some 22) 127 HT_ (fun K hK => ?_)
  refine ca_ Tryz.func48 #[.agg #[.int .i64 a0_0, .slice A0_1 l0_1.length c0_1], .slice A1 l1.length c1, .int .i64 a2, .int .i64 a3] ?_
  with_reducible refine (impl_Complex_areBeside.calls a0_0 _ _ l0_1 _ _ l1 a2 a3 t136 _ ?side1 ?side2 ?side3 ?side4 A7.out).mono ?_
  (case side1 => exact pC ((Kd.C_below HR0_1.out HB.out)))
  (case side2 => exact HC0_1.out)
  (case side3 => exact pC ((Kd.C_below HR1.out HB.out)))
  (case side4 => exact HC1.out)
  rintro e w13 ⟨rfl, hb⟩
  refine ⟨_, rfl, ?_⟩
  replace BK134 := sB BK134 hb
  replace HB := sH HB hb
  (try clear hb)
  (try clear hb2)
  (try clear hk)
  (try clear hi)
  refine hK.out _ _ ⟨cB BK134 0, cB BK134 1⟩ (fun hHeld => ?_)
  clear hK K
  refine nm_ ?_
  refine on_ 7 (some 23) 255 HT_ (fun K hK => ?_)
  refine ca_ Tryz.func47 #[.agg #[.int .i64 a0_0, .slice A0_1 l0_1.length c0_1], .slice A1 l1.length c1, .bool t136] ?_
  with_reducible refine (impl_acyclicCode.calls a0_0 _ _ l0_1 _ _ l1 t136 t137 _ ?side1 ?side2 ?side3 ?side4 A8.out).mono ?_
  (case side1 => exact pC ((Kd.C_below HR0_1.out HB.out)))
  (case side2 => exact HC0_1.out)
  (case side3 => exact pC ((Kd.C_below HR1.out HB.out)))
  (case side4 => exact HC1.out)
  rintro e w14 ⟨rfl, hb⟩
  refine ⟨_, rfl, ?_⟩
  replace BK134 := sB BK134 hb
  replace HB := sH HB hb
  (try clear hb)
  (try clear hb2)
  (try clear hk)
  (try clear hi)
  refine hK.out _ _ ⟨cB BK134 0, cB BK134 1⟩ (fun hHeld => ?_)
  clear hK K
  refine nm_ ?_
  refine pu_ 8 8 511 HT_ ?_
  refine dn_ HT_ ?_
  try go_wp2
  go_ret
  exact ⟨by first | rfl | (simp [errW_none, errW_some] <;> rfl) | (simp [*, errW_none, errW_some] <;> rfl) | (exfalso; simp_all), pH HB⟩
 ·rw [if_neg c6] at H
  have c6b0 : (t135 == 0) = false := beq_eq_false_iff_ne.mpr c6
  have c6b1 : (t135 != 0) = true := bne_iff_ne.mpr c6
  obtain rfl := Option.some.inj H
  go_enter Tryz.func24, Tryz.ntmps24
  go_wp2_with (first | ((with_reducible refine gate_dst (N := 4) rfl ?_); refine box_event ?hg (N := 4) ?hd (cs := #[.int .i64 a0_0, .slice A0_1 l0_1.length c0_1]) (t := 31) ?hr ?_; (case hd => rfl); (case hg => rfl); (case hr => first | (go_simp; done) | (go_simp; rfl)); intro gb134 hg w15 hbox hb; have BK134 := Aside0.mk (hbox); have GW134 := gH HB hg; have GE134 := gH HB hg; replace HB := sH HB hb; clear hb hbox hg; have hcz16_0 : w15.cell? ⟨gb134, 0, none⟩ = some (.int .i64 a0_0) := cB BK134 0; have hcz16_1 : w15.cell? ⟨gb134, 1, none⟩ = some (.slice A0_1 l0_1.length c0_1) := cB BK134 1; have hfz16_0 := zB BK134 0; have hfz16_1 := zB BK134 1) | ((with_reducible refine gate_callee (f := 46) rfl ?_); refine cl_ (some 12) Tryz.func46 #[.agg #[.int .i64 a0_0, .slice A0_1 l0_1.length c0_1], .slice A1 l1.length c1, .bool true] ?_; (with_reducible refine (impl_pairingCode.calls a0_0 _ _ l0_1 _ _ l1 true t135 _ ?side1 ?side2 ?side3 ?side4 A5.out).mono ?_); (case side1 => exact pC ((Kd.C_below HR0_1.out HB.out))); (case side2 => exact HC0_1.out); (case side3 => exact pC ((Kd.C_below HR1.out HB.out))); (case side4 => exact HC1.out); rintro e w17 ⟨rfl, hb⟩; refine ⟨_, rfl, ?_⟩; replace BK134 := sB BK134 hb; replace HB := sH HB hb; (try clear hb); (try clear hi)))
  go_ret
  exact ⟨by first | rfl | (simp [errW_none, errW_some] <;> rfl) | (simp [*, errW_none, errW_some] <;> rfl) | (exfalso; simp_all), pH HB⟩
mutual
def impl_countWays.l0 : Nat → List (S45) → Int → Int → List Int → Int → Int → Option (Int)
 | 0, _, _, _, _, _, _ => none
 | k + 1, x0, x2, x7, x15, x16, x17 => if x17 < x16 then (if 0 ≤ x17 then (if x17 < (x15.length : Int) then ((impl_countWays.f k x0 (rd x15 x17) x2).bind fun t142 => (impl_countWays.l0 k x0 x2 (wrap64 (x7 + t142)) x15 x16 (wrap64 (x17 + 1)))) else (none)) else (none)) else (some x7)
def impl_countWays.f : Nat → List (S45) → Int → Int → Option (Int)
 | 0, _, _, _ => none
 | k + 1, l0, a1, a2 => if a1 = a2 then (some 1) else ((impl_steps.f l0 a1).bind fun t138 => (impl_countWays.l0 k l0 a2 0 t138 (t138.length : Int) 0))
end
theorem impl_countWays.mono_l : ∀ k, (∀ y0 y1 y2, LeO (impl_countWays.f k y0 y1 y2) (impl_countWays.f (k + 1) y0 y1 y2)) ∧ (∀ y0 y1 y2 y3 y4 y5, LeO (impl_countWays.l0 k y0 y1 y2 y3 y4 y5) (impl_countWays.l0 (k + 1) y0 y1 y2 y3 y4 y5))
 | 0 => ⟨fun _ _ _ r h => by simp [impl_countWays.f] at h, fun _ _ _ _ _ _ r h => by simp [impl_countWays.l0] at h⟩
 | k + 1 => by
  obtain ⟨ih0, ih1⟩ := impl_countWays.mono_l k
  refine ⟨?_, ?_⟩
  ·intro y0 y1 y2
   unfold impl_countWays.f
   repeat' first
   | (with_reducible exact ih0 _ _ _)
   | (with_reducible exact ih1 _ _ _ _ _ _)
   | (with_reducible exact LeO.refl _)
   | (with_reducible exact LeO.none _)
   | (with_reducible refine LeO.ite ?_ ?_)
   | (with_reducible refine LeO.bind ?_ (fun _ => ?_))
   | exact ih0 _ _ _
   | exact ih1 _ _ _ _ _ _
   | exact LeO.none _
   | refine LeO.ite ?_ ?_
   | refine LeO.bind ?_ (fun _ => ?_)
  ·intro y0 y1 y2 y3 y4 y5
   unfold impl_countWays.l0
   repeat' first
   | (with_reducible exact ih0 _ _ _)
   | (with_reducible exact ih1 _ _ _ _ _ _)
   | (with_reducible exact LeO.refl _)
   | (with_reducible exact LeO.none _)
   | (with_reducible refine LeO.ite ?_ ?_)
   | (with_reducible refine LeO.bind ?_ (fun _ => ?_))
   | exact ih0 _ _ _
   | exact ih1 _ _ _ _ _ _
   | exact LeO.none _
   | refine LeO.ite ?_ ?_
   | refine LeO.bind ?_ (fun _ => ?_)
theorem impl_countWays.mono : ∀ a0 a1 a2 k, LeO (impl_countWays.f k a0 a1 a2) (impl_countWays.f (k + 1) a0 a1 a2) := by
 intro a0 a1 a2 k
 obtain ⟨ih0, ih1⟩ := impl_countWays.mono_l k
 exact ih0 a0 a1 a2
set_option maxHeartbeats 8000000 in
set_option maxRecDepth 100000 in
theorem impl_countWays.calls (k : Nat) : ∀ (A0 : Option Addr) (c0 : Nat) (l0 : List (S45)) (a1 : Int) (a2 : Int) (r : Int) (w : World) (hr0 : Kd.C k45 w A0 l0.length l0) (hc0 : l0.length ≤ c0) (h : impl_countWays.f k l0 a1 a2 = some r),
  Calls Tryz.prog 29 #[.slice A0 l0.length c0, .int .i64 a1, .int .i64 a2] w fun e w' => e = .returned (.int .i64 r) ∧ Below w.heap.size w w' := by
 induction k using Nat.strongRecOn with
 | _ k ih =>
 intro A0 c0 l0 a1 a2 r w hr0 hc0 h
 cases k with
 | zero => exact absurd h (by simp [impl_countWays.f])
 | succ k =>
 simp only [impl_countWays.f] at h
 have HR0 := Aside0.mk hr0
 have HC0 := Aside0.mk hc0
 clear hr0 hc0
 have HB := Aside0.mk (Below.refl w.heap.size w)
 have H : (if a1 = a2 then (some 1) else ((impl_steps.f l0 a1).bind fun t138 => (impl_countWays.l0 k l0 a2 0 t138 (t138.length : Int) 0))) = some r := h
 clear h
 by_cases c4 : a1 = a2
 ·rw [if_pos c4] at H
  have c4b0 : (a1 == a2) = true := beq_iff_eq.mpr c4
  have c4b1 : (a1 != a2) = false := bne_eq_false_iff_eq.mpr c4
  clear c4
  obtain rfl := Option.some.inj H
  go_enter Tryz.func29, Tryz.ntmps29
  go_wp2
  go_ret
  exact ⟨by first | rfl | (simp [errW_none, errW_some] <;> rfl) | (simp [*, errW_none, errW_some] <;> rfl) | (exfalso; simp_all), pH HB⟩
 ·rw [if_neg c4] at H
  have c4b0 : (a1 == a2) = false := beq_eq_false_iff_ne.mpr c4
  have c4b1 : (a1 != a2) = true := bne_iff_ne.mpr c4
  replace H := Option.bind_eq_some_iff.mp H
  obtain ⟨t138, A50, H⟩ := H
  try dsimp only at H
  have A5 := Aside0.mk A50
  clear A50
  have H' := Aside0.mk H
  clear H
  go_enter Tryz.func29, Tryz.ntmps29
  go_wp2_with (first | ((with_reducible refine gate_callee (f := 51) rfl ?_); refine cl_ (some 15) Tryz.func51 #[.slice A0 l0.length c0, .int .i64 a1] ?_; (with_reducible refine (impl_steps.calls _ _ l0 a1 t138 _ ?side1 ?side2 A5.out).mono ?_); (case side1 => exact pC (HR0.out)); (case side2 => exact HC0.out); rintro e w6 ⟨v139, rfl, ho0, hb⟩; refine ⟨_, rfl, ?_⟩; have HO140 := Aside0.mk (Kd.R_lower ho0 (below_size (pH HB))); replace HB := sH HB hb; (try clear hb); (try clear hi); (try clear ho0); obtain ⟨Ao7, co7, eo7⟩ := Kd.R_slice HO140.out; subst eo7))
  go_loopg [7, 17] k (fun kq v7 v17 w' => ∃ (x7_1 : Int) (x17_1 : Int), v7 = .int .i64 x7_1 ∧ v17 = .int .i64 x17_1 ∧ Aside0 (impl_countWays.l0 kq l0 a2 x7_1 t138 (t138.length : Int) x17_1 = some r) ∧ Aside0 (kq ≤ k) ∧ Aside0 (Kd.R (Kd.int .i64) 2 w' w.heap.size (fun _ => True) (.slice Ao7 t138.length co7) t138) ∧ Aside0 (Below w.heap.size w w'))
  case atStart => exact ⟨(0), (0), (by first | rfl | (simp; done) | (simp [*]; done)), (by first | rfl | (simp; done) | (simp [*]; done)), H', ⟨Nat.le_refl _⟩, ⟨by (with_reducible repeat (first | apply Kd.R_alloc | apply Kd.R_drewN | apply Kd.R_drew)); exact HO140.out⟩, ⟨pH HB⟩⟩
  case round =>
   clear H'
   try clear c2
   try clear p2
   try clear c4
   try clear c4b0
   try clear c4b1
   try clear c5
   obtain ⟨x7_1, x17_1, rfl, rfl, HA, HK1, HO_15, HB⟩ := hrel
   cases gk with
   | zero => exact absurd HA.out (by simp [impl_countWays.l0])
   | succ k1 =>
    have H := HA.out
    clear HA
    simp only [impl_countWays.l0] at H
    by_cases c8 : x17_1 < (t138.length : Int)
    ·rw [if_pos c8] at H
     have c8b0 : decide (x17_1 < (t138.length : Int)) = true := decide_eq_true c8
     clear c8
     by_cases c9 : 0 ≤ x17_1
     ·rw [if_pos c9] at H
      have c9b0 : decide (0 ≤ x17_1) = true := decide_eq_true c9
      clear c9
      by_cases c10 : x17_1 < (t138.length : Int)
      ·rw [if_pos c10] at H
       have c10b0 : decide (x17_1 < (t138.length : Int)) = true := decide_eq_true c10
       clear c10
       replace H := Option.bind_eq_some_iff.mp H
       obtain ⟨t142, A110, H⟩ := H
       try dsimp only at H
       have A11 := Aside0.mk A110
       clear A110
       have H' := Aside0.mk H
       clear H
       have p141 : 0 ≤ (x17_1 : Int) := of_decide_eq_true (by first | (with_reducible assumption) | assumption)
       have q141 : x17_1 < (t138.length : Int) := of_decide_eq_true (by first | (with_reducible assumption) | assumption)
       obtain ⟨ad141, e141, hx141_0⟩ := Kd.at_int (Kd.R_reads' HO_15.out).2.2 x17_1 p141 q141
       cases e141
       replace p141 := eq_true p141
       replace q141 := eq_true q141
       go_wp2_with (first | ((with_reducible refine gate_callee (f := 29) rfl ?_); refine cl_ (some 25) Tryz.func29 #[.slice A0 l0.length c0, .int .i64 (rd t138 x17_1), .int .i64 a2] ?_; (with_reducible refine (ih k1 (by have := HK1.out; omega) _ _ l0 (rd t138 x17_1) a2 t142 _ ?side1 ?side2 A11.out).mono ?_); (case side1 => exact pC ((Kd.C_below HR0.out HB.out))); (case side2 => exact HC0.out); rintro e w12 ⟨rfl, hb⟩; refine ⟨_, rfl, ?_⟩; replace HO_15 := sR HO_15 hb; replace HB := sH HB hb; (try clear hb); (try clear hi)))
       go_roundg k1
       case measure => have := HK1.out; omega
       case rel => exact ⟨(wrap64 (x7_1 + t142)), (wrap64 (x17_1 + 1)), (by first | rfl | (simp; done) | (simp [*]; done)), (by first | rfl | (simp; done) | (simp [*]; done)), H', ⟨by have := HK1.out; omega⟩, ⟨by (with_reducible repeat (first | apply Kd.R_alloc | apply Kd.R_drewN | apply Kd.R_drew)); exact HO_15.out⟩, ⟨pH HB⟩⟩
      ·rw [if_neg c10] at H
       exact absurd H (by simp)
     ·rw [if_neg c9] at H
      exact absurd H (by simp)
    ·rw [if_neg c8] at H
     have c8b0 : decide (x17_1 < (t138.length : Int)) = false := decide_eq_false c8
     clear c8
     obtain rfl := Option.some.inj H
     go_wp2
     go_ret
     exact ⟨by first | rfl | (simp [errW_none, errW_some] <;> rfl) | (simp [*, errW_none, errW_some] <;> rfl) | (exfalso; simp_all), pH HB⟩
def impl_waysBetween.l0 : Nat → List (S45) → Int → Int → List Int → Int → Int → Option (Int)
 | 0, _, _, _, _, _, _ => none
 | k + 1, x0, x2, x7, x11, x12, x13 => if x13 < x12 then (if 0 ≤ x13 then (if x13 < (x11.length : Int) then ((impl_countWays.f k x0 (rd x11 x13) x2).bind fun t147 => (impl_waysBetween.l0 k x0 x2 (wrap64 (x7 + t147)) x11 x12 (wrap64 (x13 + 1)))) else (none)) else (none)) else (some x7)
def impl_waysBetween.f (k : Nat) (l0 : List (S45)) (a1 : Int) (a2 : Int) : Option (Int) := (impl_borders.f a1).bind fun t143 => (impl_waysBetween.l0 k l0 a2 0 t143 (t143.length : Int) 0)
set_option maxHeartbeats 8000000 in
set_option maxRecDepth 100000 in
theorem impl_waysBetween.calls (k : Nat) (A0 : Option Addr) (c0 : Nat) (l0 : List (S45)) (a1 : Int) (a2 : Int) (r : Int) (w : World) (hr0 : Kd.C k45 w A0 l0.length l0) (hc0 : l0.length ≤ c0) (h : impl_waysBetween.f k l0 a1 a2 = some r) :
  Calls Tryz.prog 25 #[.slice A0 l0.length c0, .int .i64 a1, .int .i64 a2] w fun e w' => e = .returned (.int .i64 r) ∧ Below w.heap.size w w' := by
 have HR0 := Aside0.mk hr0
 have HC0 := Aside0.mk hc0
 clear hr0 hc0
 have HB := Aside0.mk (Below.refl w.heap.size w)
 have H : ((impl_borders.f a1).bind fun t143 => (impl_waysBetween.l0 k l0 a2 0 t143 (t143.length : Int) 0)) = some r := h
 clear h
 replace H := Option.bind_eq_some_iff.mp H
 obtain ⟨t143, A40, H⟩ := H
 try dsimp only at H
 have A4 := Aside0.mk A40
 clear A40
 have H' := Aside0.mk H
 clear H
 go_enter Tryz.func25, Tryz.ntmps25
 go_wp2_with (first | ((with_reducible refine gate_callee (f := 27) rfl ?_); refine cl_ (some 11) Tryz.func27 #[.int .i64 a1] ?_; (with_reducible refine (impl_borders.calls a1 t143 _ A4.out).mono ?_); rintro e w5 ⟨v144, rfl, ho0, hb⟩; refine ⟨_, rfl, ?_⟩; have HO145 := Aside0.mk (Kd.R_lower ho0 (below_size (pH HB))); replace HB := sH HB hb; (try clear hb); (try clear hi); (try clear ho0); obtain ⟨Ao6, co6, eo6⟩ := Kd.R_slice HO145.out; subst eo6))
 go_loopg [7, 13] k (fun kq v7 v13 w' => ∃ (x7_1 : Int) (x13_1 : Int), v7 = .int .i64 x7_1 ∧ v13 = .int .i64 x13_1 ∧ Aside0 (impl_waysBetween.l0 kq l0 a2 x7_1 t143 (t143.length : Int) x13_1 = some r) ∧ Aside0 (kq ≤ k) ∧ Aside0 (Kd.R (Kd.int .i64) 2 w' w.heap.size (fun _ => True) (.slice Ao6 t143.length co6) t143) ∧ Aside0 (Below w.heap.size w w'))
 case atStart => exact ⟨(0), (0), (by first | rfl | (simp; done) | (simp [*]; done)), (by first | rfl | (simp; done) | (simp [*]; done)), H', ⟨Nat.le_refl _⟩, ⟨by (with_reducible repeat (first | apply Kd.R_alloc | apply Kd.R_drewN | apply Kd.R_drew)); exact HO145.out⟩, ⟨pH HB⟩⟩
 case round =>
  clear H'
  try clear c2
  try clear p2
  obtain ⟨x7_1, x13_1, rfl, rfl, HA, HK1, HO_11, HB⟩ := hrel
  cases gk with
  | zero => exact absurd HA.out (by simp [impl_waysBetween.l0])
  | succ k1 =>
   have H := HA.out
   clear HA
   simp only [impl_waysBetween.l0] at H
   by_cases c7 : x13_1 < (t143.length : Int)
   ·rw [if_pos c7] at H
    have c7b0 : decide (x13_1 < (t143.length : Int)) = true := decide_eq_true c7
    clear c7
    by_cases c8 : 0 ≤ x13_1
    ·rw [if_pos c8] at H
     have c8b0 : decide (0 ≤ x13_1) = true := decide_eq_true c8
     clear c8
     by_cases c9 : x13_1 < (t143.length : Int)
     ·rw [if_pos c9] at H
      have c9b0 : decide (x13_1 < (t143.length : Int)) = true := decide_eq_true c9
      clear c9
      replace H := Option.bind_eq_some_iff.mp H
      obtain ⟨t147, A100, H⟩ := H
      try dsimp only at H
      have A10 := Aside0.mk A100
      clear A100
      have H' := Aside0.mk H
      clear H
      have p146 : 0 ≤ (x13_1 : Int) := of_decide_eq_true (by first | (with_reducible assumption) | assumption)
      have q146 : x13_1 < (t143.length : Int) := of_decide_eq_true (by first | (with_reducible assumption) | assumption)
      obtain ⟨ad146, e146, hx146_0⟩ := Kd.at_int (Kd.R_reads' HO_11.out).2.2 x13_1 p146 q146
      cases e146
      replace p146 := eq_true p146
      replace q146 := eq_true q146
      go_wp2_with (first | ((with_reducible refine gate_callee (f := 29) rfl ?_); refine cl_ (some 21) Tryz.func29 #[.slice A0 l0.length c0, .int .i64 (rd t143 x13_1), .int .i64 a2] ?_; (with_reducible refine (impl_countWays.calls k1 _ _ l0 (rd t143 x13_1) a2 t147 _ ?side1 ?side2 A10.out).mono ?_); (case side1 => exact pC ((Kd.C_below HR0.out HB.out))); (case side2 => exact HC0.out); rintro e w11 ⟨rfl, hb⟩; refine ⟨_, rfl, ?_⟩; replace HO_11 := sR HO_11 hb; replace HB := sH HB hb; (try clear hb); (try clear hi)))
      go_roundg k1
      case measure => have := HK1.out; omega
      case rel => exact ⟨(wrap64 (x7_1 + t147)), (wrap64 (x13_1 + 1)), (by first | rfl | (simp; done) | (simp [*]; done)), (by first | rfl | (simp; done) | (simp [*]; done)), H', ⟨by have := HK1.out; omega⟩, ⟨by (with_reducible repeat (first | apply Kd.R_alloc | apply Kd.R_drewN | apply Kd.R_drew)); exact HO_11.out⟩, ⟨pH HB⟩⟩
     ·rw [if_neg c9] at H
      exact absurd H (by simp)
    ·rw [if_neg c8] at H
     exact absurd H (by simp)
   ·rw [if_neg c7] at H
    have c7b0 : decide (x13_1 < (t143.length : Int)) = false := decide_eq_false c7
    clear c7
    obtain rfl := Option.some.inj H
    go_wp2
    go_ret
    exact ⟨by first | rfl | (simp [errW_none, errW_some] <;> rfl) | (simp [*, errW_none, errW_some] <;> rfl) | (exfalso; simp_all), pH HB⟩
end Go.Proofs.YtdnbmobdiidfmaaGreat.QB
namespace Go.Proofs.YtdnbmobdiidfmaaGreat.QS
open Cw Kp Ext Go.RowKit YtdnbmobdiidfmaaGreatW.PrintWords YtdnbmobdiidfmaaGreatW.PrintLast YtdnbmobdiidfmaaGreatW.PrintMore
attribute [local go_sem] max2_int min2_int max_two min_two max_three min_three max_four min_four   -- for this text's walks alone
mutual
def spec_l02Ways.j0 : Nat → List (S45) → Int → Int → Int → Option (Int)
 | 0, _, _, _, _ => none
 | k + 1, x0, x1, x2, x7 => (spec_l02Next.f k x0 x1).bind fun t244 => (spec_l02Ways.l0 k x0 x2 x7 t244 0)
def spec_l02Ways.l0 : Nat → List (S45) → Int → Int → List Int → Int → Option (Int)
 | 0, _, _, _, _, _ => none
 | k + 1, x0, x2, x7, x8, x9 => if x9 < (x8.length : Int) then (if 0 ≤ x9 then ((spec_l02Ways.f k x0 (rd x8 x9) x2).bind fun t248 => (spec_l02Ways.l0 k x0 x2 (wrap64 (x7 + t248)) x8 (wrap64 (x9 + 1)))) else (none)) else (some x7)
def spec_l02Ways.f : Nat → List (S45) → Int → Int → Option (Int)
 | 0, _, _, _ => none
 | k + 1, l0, a1, a2 => if a1 = a2 then (spec_l02Ways.j0 k l0 a1 a2 1) else (spec_l02Ways.j0 k l0 a1 a2 0)
end
set_option maxHeartbeats 8000000 in
set_option maxRecDepth 100000 in
theorem spec_l02Ways.calls (k : Nat) : ∀ (A0 : Option Addr) (c0 : Nat) (l0 : List (S45)) (a1 : Int) (a2 : Int) (r : Int) (w : World) (hr0 : Kd.C k45 w A0 l0.length l0) (hc0 : l0.length ≤ c0) (h : spec_l02Ways.f k l0 a1 a2 = some r),
  Calls Tryz.prog 20 #[.slice A0 l0.length c0, .int .i64 a1, .int .i64 a2] w fun e w' => e = .returned (.int .i64 r) ∧ Below w.heap.size w w' := by
 induction k using Nat.strongRecOn with
 | _ k ih =>
 intro A0 c0 l0 a1 a2 r w hr0 hc0 h
 cases k with
 | zero => exact absurd h (by simp [spec_l02Ways.f])
 | succ k =>
 simp only [spec_l02Ways.f] at h
 have HR0 := Aside0.mk hr0
 have HC0 := Aside0.mk hc0
 clear hr0 hc0
 have HB := Aside0.mk (Below.refl w.heap.size w)
 have H : (if a1 = a2 then (spec_l02Ways.j0 k l0 a1 a2 1) else (spec_l02Ways.j0 k l0 a1 a2 0)) = some r := h
 clear h
 have HC4 := Aside0.mk H
 clear H
 go_enter Tryz.func20, Tryz.ntmps20
 go_upto_if 12 with (fail)
 go_cut [7] (fun v7 wc => ∃ (kq : Nat) (x7_3 : Int), v7 = .int .i64 x7_3 ∧ Aside0 (spec_l02Ways.j0 kq l0 a1 a2 x7_3 = some r) ∧ Aside0 (kq ≤ k) ∧ Aside0 (Below w.heap.size w wc))
 case first =>
  have H := HC4.out
  clear HC4
  by_cases c5 : a1 = a2
  ·rw [if_pos c5] at H
   have c5b0 : (a1 == a2) = true := beq_iff_eq.mpr c5
   have c5b1 : (a1 != a2) = false := bne_eq_false_iff_eq.mpr c5
   clear c5
   (first | rw [c5b0] | (simp only [i64_w, i32_w]; rw [c5b0]) | skip)
   have H' := Aside0.mk H
   clear H
   go_wp2
   go_meet
   case rel => exact ⟨_, (1), (by first | rfl | (simp; done) | (simp [*]; done)), H', ⟨by first | omega | exact Nat.le_refl _⟩, ⟨pH HB⟩⟩
  ·rw [if_neg c5] at H
   have c5b0 : (a1 == a2) = false := beq_eq_false_iff_ne.mpr c5
   have c5b1 : (a1 != a2) = true := bne_iff_ne.mpr c5
   (first | rw [c5b0] | (simp only [i64_w, i32_w]; rw [c5b0]) | skip)
   have H' := Aside0.mk H
   clear H
   go_wp2
   go_meet
   case rel => exact ⟨_, (0), (by first | rfl | (simp; done) | (simp [*]; done)), H', ⟨by first | omega | exact Nat.le_refl _⟩, ⟨pH HB⟩⟩
 case rest =>
  clear HC4
  try clear c2
  try clear p2
  try clear c5
  try clear c5b0
  try clear c5b1
  obtain ⟨kq, x7_3, rfl, HA, HJ3, HB⟩ := hcut
  cases kq with
  | zero => exact absurd HA.out (by simp [spec_l02Ways.j0])
  | succ kj3 =>
   have H := HA.out
   clear HA
   simp only [spec_l02Ways.j0] at H
   replace H := Option.bind_eq_some_iff.mp H
   obtain ⟨t244, A60, H⟩ := H
   try dsimp only at H
   have A6 := Aside0.mk A60
   clear A60
   have H' := Aside0.mk H
   clear H
   go_wp2_with (first | ((with_reducible refine gate_callee (f := 43) rfl ?_); refine cl_ (some 15) Tryz.func43 #[.slice A0 l0.length c0, .int .i64 a1] ?_; (with_reducible refine (spec_l02Next.calls kj3 _ _ l0 a1 t244 _ ?side1 ?side2 A6.out).mono ?_); (case side1 => exact pC ((Kd.C_below HR0.out HB.out))); (case side2 => exact HC0.out); rintro e w7 ⟨v245, rfl, ho0, hb⟩; refine ⟨_, rfl, ?_⟩; have HO246 := Aside0.mk (Kd.R_lower ho0 (below_size (pH HB))); replace HB := sH HB hb; (try clear hb); (try clear hi); (try clear ho0)))
   go_loopg [7, 9] kj3 (fun kq v7 v9 w' => ∃ (x7_2 : Int) (x9_2 : Int), v7 = .int .i64 x7_2 ∧ v9 = .int .i64 x9_2 ∧ Aside0 (spec_l02Ways.l0 kq l0 a2 x7_2 t244 x9_2 = some r) ∧ Aside0 (kq ≤ kj3) ∧ Aside0 (Kd.R (Kd.int .i64) 2 w' w.heap.size (fun _ => True) v245 t244) ∧ Aside0 (Below w.heap.size w w'))
   case atStart => exact ⟨(x7_3), (0), (by first | rfl | (simp; done) | (simp [*]; done)), (by first | rfl | (simp; done) | (simp [*]; done)), H', ⟨Nat.le_refl _⟩, ⟨by (with_reducible repeat (first | apply Kd.R_alloc | apply Kd.R_drewN | apply Kd.R_drew)); exact HO246.out⟩, ⟨pH HB⟩⟩
   case round =>
    clear H'
    try clear c2
    try clear p2
    try clear c4
    try clear c5
    try clear c5b0
    try clear c5b1
    try clear p2
    obtain ⟨x7_2, x9_2, rfl, rfl, HA, HK2, HO_8, HB⟩ := hrel
    cases gk with
    | zero => exact absurd HA.out (by simp [spec_l02Ways.l0])
    | succ k2 =>
     have H := HA.out
     clear HA
     simp only [spec_l02Ways.l0] at H
     by_cases c8 : x9_2 < (t244.length : Int)
     ·rw [if_pos c8] at H
      have c8b0 : decide (x9_2 < (t244.length : Int)) = true := decide_eq_true c8
      clear c8
      by_cases c9 : 0 ≤ x9_2
      ·rw [if_pos c9] at H
       have c9b0 : decide (0 ≤ x9_2) = true := decide_eq_true c9
       clear c9
       replace H := Option.bind_eq_some_iff.mp H
       obtain ⟨t248, A100, H⟩ := H
       try dsimp only at H
       have A10 := Aside0.mk A100
       clear A100
       have H' := Aside0.mk H
       clear H
       obtain ⟨Ao11, co11, eo11⟩ := Kd.R_slice HO_8.out
       subst eo11
       have p247 : 0 ≤ (x9_2 : Int) := of_decide_eq_true (by first | (with_reducible assumption) | assumption)
       have q247 : x9_2 < (t244.length : Int) := of_decide_eq_true (by first | (with_reducible assumption) | assumption)
       obtain ⟨ad247, e247, hx247_0⟩ := Kd.at_int (Kd.R_reads' HO_8.out).2.2 x9_2 p247 q247
       cases e247
       replace p247 := eq_true p247
       replace q247 := eq_true q247
       go_wp2_with (first | ((with_reducible refine gate_callee (f := 20) rfl ?_); refine cl_ (some 29) Tryz.func20 #[.slice A0 l0.length c0, .int .i64 (rd t244 x9_2), .int .i64 a2] ?_; (with_reducible refine (ih k2 (by have := HJ3.out; have := HK2.out; omega) _ _ l0 (rd t244 x9_2) a2 t248 _ ?side1 ?side2 A10.out).mono ?_); (case side1 => exact pC ((Kd.C_below HR0.out HB.out))); (case side2 => exact HC0.out); rintro e w12 ⟨rfl, hb⟩; refine ⟨_, rfl, ?_⟩; replace HO_8 := sR HO_8 hb; replace HB := sH HB hb; (try clear hb); (try clear hi)))
       go_roundg k2
       case measure => have := HJ3.out; have := HK2.out; omega
       case rel => exact ⟨(wrap64 (x7_2 + t248)), (wrap64 (x9_2 + 1)), (by first | rfl | (simp; done) | (simp [*]; done)), (by first | rfl | (simp; done) | (simp [*]; done)), H', ⟨by have := HJ3.out; have := HK2.out; omega⟩, ⟨by (with_reducible repeat (first | apply Kd.R_alloc | apply Kd.R_drewN | apply Kd.R_drew)); exact HO_8.out⟩, ⟨pH HB⟩⟩
      ·rw [if_neg c9] at H
       exact absurd H (by simp)
     ·rw [if_neg c8] at H
      have c8b0 : decide (x9_2 < (t244.length : Int)) = false := decide_eq_false c8
      clear c8
      obtain rfl := Option.some.inj H
      obtain ⟨Ao13, co13, eo13⟩ := Kd.R_slice HO_8.out
      subst eo13
      go_wp2
      go_ret
      exact ⟨by first | rfl | (simp [errW_none, errW_some] <;> rfl) | (simp [*, errW_none, errW_some] <;> rfl) | (exfalso; simp_all), pH HB⟩
def spec_l06Between.l0 : Nat → List (S45) → Int → List Int → Int → Int → Option (Int)
 | 0, _, _, _, _, _ => none
 | k + 1, x0, x2, x7, x8, x9 => if x9 < (x7.length : Int) then (if 0 ≤ x9 then ((spec_l02Ways.f k x0 (rd x7 x9) x2).bind fun t253 => (spec_l06Between.l0 k x0 x2 x7 (wrap64 (x8 + t253)) (wrap64 (x9 + 1)))) else (none)) else (some x8)
def spec_l06Between.f (k : Nat) (l0 : List (S45)) (a1 : Int) (a2 : Int) : Option (Int) := (spec_l01Below.f k a1).bind fun t249 => (spec_l06Between.l0 k l0 a2 t249 0 0)
set_option maxHeartbeats 8000000 in
set_option maxRecDepth 100000 in
theorem spec_l06Between.calls (k : Nat) (A0 : Option Addr) (c0 : Nat) (l0 : List (S45)) (a1 : Int) (a2 : Int) (r : Int) (w : World) (hr0 : Kd.C k45 w A0 l0.length l0) (hc0 : l0.length ≤ c0) (h : spec_l06Between.f k l0 a1 a2 = some r) :
  Calls Tryz.prog 17 #[.slice A0 l0.length c0, .int .i64 a1, .int .i64 a2] w fun e w' => e = .returned (.int .i64 r) ∧ Below w.heap.size w w' := by
 have HR0 := Aside0.mk hr0
 have HC0 := Aside0.mk hc0
 clear hr0 hc0
 have HB := Aside0.mk (Below.refl w.heap.size w)
 have H : ((spec_l01Below.f k a1).bind fun t249 => (spec_l06Between.l0 k l0 a2 t249 0 0)) = some r := h
 clear h
 replace H := Option.bind_eq_some_iff.mp H
 obtain ⟨t249, A40, H⟩ := H
 try dsimp only at H
 have A4 := Aside0.mk A40
 clear A40
 have H' := Aside0.mk H
 clear H
 go_enter Tryz.func17, Tryz.ntmps17
 go_wp2_with (first | ((with_reducible refine gate_callee (f := 18) rfl ?_); refine cl_ (some 11) Tryz.func18 #[.int .i64 a1] ?_; (with_reducible refine (spec_l01Below.calls k a1 t249 _ A4.out).mono ?_); rintro e w5 ⟨v250, rfl, ho0, hb⟩; refine ⟨_, rfl, ?_⟩; have HO251 := Aside0.mk (Kd.R_lower ho0 (below_size (pH HB))); replace HB := sH HB hb; (try clear hb); (try clear hi); (try clear ho0)))
 go_loopg [8, 9] k (fun kq v8 v9 w' => ∃ (x8_1 : Int) (x9_1 : Int), v8 = .int .i64 x8_1 ∧ v9 = .int .i64 x9_1 ∧ Aside0 (spec_l06Between.l0 kq l0 a2 t249 x8_1 x9_1 = some r) ∧ Aside0 (kq ≤ k) ∧ Aside0 (Kd.R (Kd.int .i64) 2 w' w.heap.size (fun _ => True) v250 t249) ∧ Aside0 (Below w.heap.size w w'))
 case atStart => exact ⟨(0), (0), (by first | rfl | (simp; done) | (simp [*]; done)), (by first | rfl | (simp; done) | (simp [*]; done)), H', ⟨Nat.le_refl _⟩, ⟨by (with_reducible repeat (first | apply Kd.R_alloc | apply Kd.R_drewN | apply Kd.R_drew)); exact HO251.out⟩, ⟨pH HB⟩⟩
 case round =>
  clear H'
  try clear c1
  try clear p2
  obtain ⟨x8_1, x9_1, rfl, rfl, HA, HK1, HO_7, HB⟩ := hrel
  cases gk with
  | zero => exact absurd HA.out (by simp [spec_l06Between.l0])
  | succ k1 =>
   have H := HA.out
   clear HA
   simp only [spec_l06Between.l0] at H
   by_cases c6 : x9_1 < (t249.length : Int)
   ·rw [if_pos c6] at H
    have c6b0 : decide (x9_1 < (t249.length : Int)) = true := decide_eq_true c6
    clear c6
    by_cases c7 : 0 ≤ x9_1
    ·rw [if_pos c7] at H
     have c7b0 : decide (0 ≤ x9_1) = true := decide_eq_true c7
     clear c7
     replace H := Option.bind_eq_some_iff.mp H
     obtain ⟨t253, A80, H⟩ := H
     try dsimp only at H
     have A8 := Aside0.mk A80
     clear A80
     have H' := Aside0.mk H
     clear H
     obtain ⟨Ao9, co9, eo9⟩ := Kd.R_slice HO_7.out
     subst eo9
     have p252 : 0 ≤ (x9_1 : Int) := of_decide_eq_true (by first | (with_reducible assumption) | assumption)
     have q252 : x9_1 < (t249.length : Int) := of_decide_eq_true (by first | (with_reducible assumption) | assumption)
     obtain ⟨ad252, e252, hx252_0⟩ := Kd.at_int (Kd.R_reads' HO_7.out).2.2 x9_1 p252 q252
     cases e252
     replace p252 := eq_true p252
     replace q252 := eq_true q252
     go_wp2_with (first | ((with_reducible refine gate_callee (f := 20) rfl ?_); refine cl_ (some 25) Tryz.func20 #[.slice A0 l0.length c0, .int .i64 (rd t249 x9_1), .int .i64 a2] ?_; (with_reducible refine (spec_l02Ways.calls k1 _ _ l0 (rd t249 x9_1) a2 t253 _ ?side1 ?side2 A8.out).mono ?_); (case side1 => exact pC ((Kd.C_below HR0.out HB.out))); (case side2 => exact HC0.out); rintro e w10 ⟨rfl, hb⟩; refine ⟨_, rfl, ?_⟩; replace HO_7 := sR HO_7 hb; replace HB := sH HB hb; (try clear hb); (try clear hi)))
     go_roundg k1
     case measure => have := HK1.out; omega
     case rel => exact ⟨(wrap64 (x8_1 + t253)), (wrap64 (x9_1 + 1)), (by first | rfl | (simp; done) | (simp [*]; done)), (by first | rfl | (simp; done) | (simp [*]; done)), H', ⟨by have := HK1.out; omega⟩, ⟨by (with_reducible repeat (first | apply Kd.R_alloc | apply Kd.R_drewN | apply Kd.R_drew)); exact HO_7.out⟩, ⟨pH HB⟩⟩
    ·rw [if_neg c7] at H
     exact absurd H (by simp)
   ·rw [if_neg c6] at H
    have c6b0 : decide (x9_1 < (t249.length : Int)) = false := decide_eq_false c6
    clear c6
    obtain rfl := Option.some.inj H
    obtain ⟨Ao11, co11, eo11⟩ := Kd.R_slice HO_7.out
    subst eo11
    go_wp2
    go_ret
    exact ⟨by first | rfl | (simp [errW_none, errW_some] <;> rfl) | (simp [*, errW_none, errW_some] <;> rfl) | (exfalso; simp_all), pH HB⟩
end Go.Proofs.YtdnbmobdiidfmaaGreat.QS
namespace Go.Proofs.YtdnbmobdiidfmaaGreat.Pu
open Go.RowKit Kp Ext QS Im YtdnbmobdiidfmaaGreatW.PrintWords YtdnbmobdiidfmaaGreatW.PrintLast YtdnbmobdiidfmaaGreatW.PrintMore
theorem crit_clo (f : Int) : (QB.clo_92 f).sort = 2 ∧ ∀ q : Pr, 0 ≤ q.f0 → q.f0 ≤ 63 → 0 ≤ q.f1 → q.f1 ≤ 63 → (QB.clo_92 f).pP q = (q.f0 == f || q.f1 == f) :=
  ofP_face (p := fun q : Pr => q.f0 == f || q.f1 == f) fun x y _ _ _ _ => by
    unfold QB.impl_Complex_critical_1_1.f
    by_cases h : x = f <;> simp [h]
theorem okDomP_faces {l : List Pr} (hr : FacesP l) (a : Pred) : okDomP a l = true := by
  rw [okDomP, Bool.or_eq_true]
  refine .inr (List.all_eq_true.2 fun q hq => ?_)
  have := hr q hq
  simp; omega
theorem any_congr_mem {α : Type} {p q : α → Bool} {l : List α} (h : ∀ x ∈ l, p x = q x) : l.any p = l.any q := by
  induction l with
  | nil => rfl
  | cons a l ih => rw [List.any_cons, List.any_cons, h a (by simp), ih (fun x hx => h x (by simp [hx]))]
theorem crit1_f {l : List Pr} (hl : l.length ≤ 1048576) (hr : FacesP l) (f : Int) : QB.impl_Complex_critical_1.f f l = some (!critP l f) := by
  obtain ⟨s1, p1⟩ := crit_clo f
  unfold QB.impl_Complex_critical_1.f slices_ContainsFunc_impl_Pair_impl_Pair.f
  rw [if_pos ⟨by omega, s1, okDomP_faces hr _⟩, Option.bind_some]
  unfold critP
  rw [Bool.not_not, any_congr_mem fun q hq => by have := hr q hq; exact p1 q (by omega) (by omega) (by omega) (by omega)]
theorem crit_f {n : Int} {xs : List Int} (hi : isC n xs = true) {l : List Pr} (hl : l.length ≤ 1048576) (hr : FacesP l) : QB.impl_Complex_critical.f n xs l = some (critL xs l) := by
  have hs := isC_small hi
  have r := isC_63 hi
  obtain ⟨s2, _, p2⟩ := ofI_face (f := fun x => QB.impl_Complex_critical_1.f x l) (p := fun x => !critP l x) (fun x _ _ => crit1_f hl hr x)
  have hd : okDom (QB.clo_90 l) xs = true := by
    rw [okDom, Bool.or_eq_true]
    refine .inr (List.all_eq_true.2 fun x hx => ?_)
    have := r x hx
    simp; omega
  unfold QB.impl_Complex_critical.f slices_Clone_int64_int64.f slices_DeleteFunc_int64_int64.f
  rw [if_pos (by omega), Option.bind_some, if_pos ⟨by omega, s2, hd⟩, Option.bind_some]
  unfold critL
  refine congrArg some (List.filter_congr fun x hx => ?_)
  have := r x hx
  rw [show (QB.clo_90 l).pI x = !critP l x from p2 x (by omega) (by omega), Bool.not_not]
theorem pcode_f (n : Int) {xs : List Int} (hx : xs.length ≤ 1048576) {l : List Pr} (hl : l.length ≤ 1048576) (b : Bool) : QB.impl_pairingCode.f n xs l b = some (if isC n xs then (if b && pairingB xs l then 0 else 2) else 1) := by
  unfold QB.impl_pairingCode.f impl_complexCode.f
  cases hi : isC n xs with
  | false =>
    rw [if_pos ⟨by omega, fun h => by cases h⟩]; rfl
  | true =>
    have hp : QB.impl_pairingCode_1.f b n xs l = some (b && pairingB xs l) := by
      unfold QB.impl_pairingCode_1.f impl_Complex_isPairing.f
      have hc : isC n xs = true ∧ l.length ≤ 1099511627776 := ⟨hi, by omega⟩
      cases b with
      | false => simp
      | true => simp [hc]
    unfold QB.clo_62
    rw [hp, if_pos ⟨by omega, fun _ => rfl⟩]
    cases b <;> cases pairingB xs l <;> rfl
theorem sizeB_all : ((List.range 64).all fun f => QB.impl_size.f (f : Int) == some (onesZ (f : Int))) = true := by decide +kernel
theorem sizeB_eq {x : Int} (h0 : 0 ≤ x) (h6 : x ≤ 63) : QB.impl_size.f x = some (onesZ x) := by
  obtain ⟨m, rfl⟩ := Int.eq_ofNat_of_zero_le h0
  exact eq_of_beq (List.all_eq_true.1 sizeB_all m (List.mem_range.2 (by omega)))
theorem beside_f {n : Int} {xs : List Int} (hi : isC n xs = true) {l : List Pr} (hl : l.length ≤ 1048576) (hr : FacesP l) (b a : Int) : QB.impl_Complex_areBeside.f n xs l b a = some (besideB xs l b a) := by
  have hs := isC_small hi
  have r := isC_63 hi
  have hsub : ∀ x, x ∈ critL xs l → 1 ≤ x ∧ x ≤ 63 := fun x hx => r x (List.mem_filter.1 hx).1
  have hlen : (critL xs l).length ≤ 63 := by have := List.length_filter_le (critP l) xs; unfold critL; omega
  have hc : ∀ x, slices_Contains_int64_int64.f (critL xs l) x = some (decide (x ∈ critL xs l)) := fun x => by
    unfold slices_Contains_int64_int64.f
    rw [if_pos (by omega)]
    congr 1
    rw [Bool.eq_iff_iff, List.any_eq_true, decide_eq_true_iff]
    constructor
    · rintro ⟨y, hy, he⟩
      rw [eq_of_beq he]; exact hy
    · exact fun h => ⟨x, h, by simp⟩
  have hsz : ∀ x : Int, 0 ≤ x → x ≤ 63 → QB.impl_size.f x = some (onesZ x) := fun x => sizeB_eq
  unfold QB.impl_Complex_areBeside.f besideB
  generalize QB.impl_size.f = S at hsz ⊢
  rw [crit_f hi hl hr, Option.bind_some, hc b, Option.bind_some, hc a]
  have o1 := ones_le a
  have hw : wrap64 (onesZ a + 1) = onesZ a + 1 := w64 (by omega) (by omega)
  have hb1 : decide (b ∈ critL xs l) = true → S b = some (onesZ b) := fun h => by have := hsub b (of_decide_eq_true h); exact hsz b (by omega) (by omega)
  have ha1 : decide (a ∈ critL xs l) = true → S a = some (onesZ a) := fun h => by have := hsub a (of_decide_eq_true h); exact hsz a (by omega) (by omega)
  generalize decide (b ∈ critL xs l) = db at hb1 ⊢
  generalize decide (a ∈ critL xs l) = da at ha1 ⊢
  generalize onesZ a = oa at hw ha1 ⊢
  generalize onesZ b = ob at hb1 ⊢
  cases db with
  | false => rfl
  | true =>
    cases da with
    | false => rfl
    | true =>
      rw [if_pos rfl, Option.bind_some, if_pos rfl, hb1 rfl, ha1 rfl, Option.bind_some, Option.bind_some, hw]
      rfl
theorem bcode_f (n : Int) {xs : List Int} (hx : xs.length ≤ 1048576) {l : List Pr} (hl : l.length ≤ 1048576) (b a : Int) : QB.impl_besideCode.f n xs l b a = some (gcode n xs l b a) := by
  unfold QB.impl_besideCode.f gcode pcode
  rw [pcode_f n hx hl, Option.bind_some]
  cases hi : isC n xs with
  | false => simp
  | true =>
    cases hp : pairingB xs l with
    | false => simp
    | true =>
      have hF := facesP_of hi hp
      simp only [if_true, Bool.true_and]
      rw [beside_f hi hl hF, Option.bind_some]
      unfold QB.impl_acyclicCode.f
      rw [pcode_f n hx hl, Option.bind_some]
      simp only [hi, if_true, hp, Bool.and_true]
      cases besideB xs l b a with
      | false => simp
      | true =>
        simp only [if_true]
        unfold impl_Complex_isAcyclic.f
        rw [if_pos (okBfs_of hl hF)]
        cases acycB l <;> rfl
theorem no_loop {l : List Pr} (hl : l.length ≤ 1048576) (hr : FacesP l) (h : acycB l = true) (x : Int) : ¬ Rch l x x := by
  intro hx
  have hne : highZ l x ≠ 0 := by
    intro h0
    have : ∀ y, y ∉ nextZ l x := fun y hy => by unfold nextZ at hy; rw [if_pos h0] at hy; cases hy
    cases hx with
    | one h => exact this _ h
    | more h _ => exact this _ h
  unfold highZ at hne
  cases hq : l.find? (fun q => q.f0 == x) with
  | none => rw [hq] at hne; exact hne rfl
  | some q =>
    have hm := List.mem_of_find?_eq_some hq
    have he : q.f0 = x := by simpa using List.find?_some hq
    have h1 := List.all_eq_true.1 h q hm
    rw [he, (loopB_iff hl hr x).2 hx] at h1
    cases h1
end Go.Proofs.YtdnbmobdiidfmaaGreat.Pu
namespace Go.Proofs.YtdnbmobdiidfmaaGreat.Pu
open Go.RowKit Kp Ext Im YtdnbmobdiidfmaaGreatW.PrintWords YtdnbmobdiidfmaaGreatW.PrintLast YtdnbmobdiidfmaaGreatW.PrintMore
theorem mem_with {l : List Pr} {p x : Pr} : x ∈ withP l p ↔ x = p ∨ x ∈ l := by
  unfold withP
  rw [List.mem_append, List.mem_cons]
  constructor
  · rintro (h | h | h)
    · exact .inr (List.mem_of_mem_take h)
    · exact .inl h
    · exact .inr (List.mem_of_mem_drop h)
  · rintro (h | h)
    · exact .inr (.inl h)
    · have h2 : x ∈ l.take (placeP l p) ++ l.drop (placeP l p) := by rw [List.take_append_drop]; exact h
      rcases List.mem_append.1 h2 with h | h
      · exact .inl h
      · exact .inr (.inr h)
theorem sorted_with {l : List Pr} (hs : SortedP l) {p : Pr} (hp : p ∉ l) : SortedP (withP l p) := by
  have hc := fun j hj => place_cut (p := p) hs j hj
  have hle := placeP_le l p
  unfold withP
  generalize placeP l p = m at hc hle
  have htake : ∀ q ∈ l.take m, cmpP q p < 0 := fun q hq => by
    obtain ⟨j, hj, rfl⟩ := List.mem_iff_getElem.1 hq
    rw [List.length_take] at hj
    rw [List.getElem_take]
    exact (hc j (by omega)).2 (by omega)
  have hdrop : ∀ q ∈ l.drop m, cmpP p q < 0 := fun q hq => by
    obtain ⟨j, hj, rfl⟩ := List.mem_iff_getElem.1 hq
    rw [List.length_drop] at hj
    rw [List.getElem_drop]
    have h1 : ¬ cmpP (l[m + j]'(by omega)) p < 0 := fun h => by have := (hc (m + j) (by omega)).1 h; omega
    by_cases h2 : cmpP p (l[m + j]'(by omega)) < 0
    · exact h2
    · exact absurd (cmp_eq h2 h1) (fun e => hp (e ▸ List.getElem_mem _))
  show List.Pairwise _ _
  rw [List.pairwise_append, List.pairwise_cons]
  refine ⟨List.Pairwise.sublist (List.take_sublist _ _) hs, ⟨hdrop, List.Pairwise.sublist (List.drop_sublist _ _) hs⟩, fun a ha b hb => ?_⟩
  rcases List.mem_cons.1 hb with rfl | hb
  · exact htake a ha
  · exact cmp_trans (htake a ha) (hdrop b hb)
theorem sorted_ext : ∀ {a b : List Pr}, SortedP a → SortedP b → (∀ x, x ∈ a ↔ x ∈ b) → a = b
  | [], [], _, _, _ => rfl
  | [], y :: b, _, _, h => absurd ((h y).2 (List.mem_cons_self ..)) (by simp)
  | x :: a, [], _, _, h => absurd ((h x).1 (List.mem_cons_self ..)) (by simp)
  | x :: a, y :: b, ha, hb, h => by
    obtain ⟨ha1, ha2⟩ := List.pairwise_cons.1 ha
    obtain ⟨hb1, hb2⟩ := List.pairwise_cons.1 hb
    have hxy : x = y := by
      rcases List.mem_cons.1 ((h x).1 (List.mem_cons_self ..)) with e | hx
      · exact e
      · rcases List.mem_cons.1 ((h y).2 (List.mem_cons_self ..)) with e | hy
        · exact e.symm
        · exact absurd (hb1 x hx) (cmp_asym (ha1 y hy))
    subst hxy
    rw [sorted_ext ha2 hb2 fun z => ⟨fun hz => ?_, fun hz => ?_⟩]
    · rcases List.mem_cons.1 ((h z).1 (List.mem_cons_of_mem _ hz)) with e | hz'
      · subst e; exact absurd (ha1 z hz) (cmp_irr z)
      · exact hz'
    · rcases List.mem_cons.1 ((h z).2 (List.mem_cons_of_mem _ hz)) with e | hz'
      · subst e; exact absurd (hb1 z hz) (cmp_irr z)
      · exact hz'
def swapP (out : List Pr) (p : Pr) : List Pr := withP (out.filter fun q => !(q.f0 == p.f0)) p
theorem mem_swap {out : List Pr} {p x : Pr} : x ∈ swapP out p ↔ x = p ∨ (x ∈ out ∧ x.f0 ≠ p.f0) := by
  unfold swapP
  rw [mem_with, List.mem_filter]
  simp
theorem swap_sorted {out : List Pr} (h : SortedP out) (p : Pr) : SortedP (swapP out p) := by
  unfold swapP
  exact sorted_with (List.Pairwise.sublist List.filter_sublist h) (by simp)
theorem swap_len (out : List Pr) (p : Pr) : (swapP out p).length ≤ out.length + 1 := by
  unfold swapP
  rw [withP_len]
  have := List.length_filter_le (fun q : Pr => !(q.f0 == p.f0)) out
  omega
theorem fold_swap : ∀ (prs out : List Pr), SortedP out → (prs.map (·.f0)).Nodup → SortedP (prs.foldl swapP out) ∧ ∀ x, x ∈ prs.foldl swapP out ↔ x ∈ prs ∨ (x ∈ out ∧ x.f0 ∉ prs.map (·.f0))
  | [], out, h, _ => ⟨h, fun x => by simp⟩
  | p :: prs, out, h, hn => by
    have hn' := List.nodup_cons.1 (show (p.f0 :: prs.map (·.f0)).Nodup from hn)
    obtain ⟨h1, h2⟩ := fold_swap prs (swapP out p) (swap_sorted h p) hn'.2
    refine ⟨h1, fun x => ?_⟩
    rw [List.foldl_cons, h2, mem_swap, List.map_cons, List.mem_cons, List.mem_cons, not_or]
    constructor
    · rintro (h | ⟨rfl | ⟨ho, hne⟩, hm⟩)
      · exact .inl (.inr h)
      · exact .inl (.inl rfl)
      · exact .inr ⟨ho, hne, hm⟩
    · rintro ((rfl | h) | ⟨ho, hne, hm⟩)
      · exact .inr ⟨.inl rfl, hn'.1⟩
      · exact .inl h
      · exact .inr ⟨.inr ⟨ho, hne⟩, hm⟩
def sumW : List Int → Int
  | [] => 0
  | x :: l => x + sumW l
theorem sumW_append : ∀ (a b : List Int), sumW (a ++ b) = sumW a + sumW b
  | [], b => by simp [sumW]
  | x :: a, b => by rw [List.cons_append, sumW, sumW, sumW_append a b]; omega
theorem sumW_nonneg : ∀ {l : List Int}, (∀ x ∈ l, 0 ≤ x) → 0 ≤ sumW l
  | [], _ => Int.le_refl _
  | x :: l, h => by
    have h1 := h x (List.mem_cons_self ..)
    have h2 := sumW_nonneg (l := l) fun y hy => h y (List.mem_cons_of_mem _ hy)
    rw [sumW]; omega
theorem sumW_le {B : Nat} : ∀ {l : List Int}, (∀ x ∈ l, x ≤ (B : Int)) → sumW l ≤ ((l.length * B : Nat) : Int)
  | [], _ => by simp [sumW]
  | x :: l, h => by
    have h1 := h x (List.mem_cons_self ..)
    have h2 := sumW_le (l := l) fun y hy => h y (List.mem_cons_of_mem _ hy)
    rw [sumW, List.length_cons, Nat.succ_mul]; omega
theorem sumW_take {f : Int → Int} {L : List Int} (h : ∀ y ∈ L, 0 ≤ f y) (i : Nat) : 0 ≤ sumW ((L.take i).map f) ∧ sumW ((L.take i).map f) ≤ sumW (L.map f) := by
  have h1 : 0 ≤ sumW ((L.take i).map f) := sumW_nonneg fun x hx => by
    obtain ⟨y, hy, rfl⟩ := List.mem_map.1 hx
    exact h y (List.mem_of_mem_take hy)
  have h2 : 0 ≤ sumW ((L.drop i).map f) := sumW_nonneg fun x hx => by
    obtain ⟨y, hy, rfl⟩ := List.mem_map.1 hx
    exact h y (List.mem_of_mem_drop hy)
  have h3 : sumW (L.map f) = sumW ((L.take i).map f) + sumW ((L.drop i).map f) := by
    rw [← sumW_append, ← List.map_append, List.take_append_drop]
  omega
theorem sumW_succ {f : Int → Int} {L : List Int} {i : Nat} (hi : i < L.length) : sumW ((L.take (i + 1)).map f) = sumW ((L.take i).map f) + f L[i] := by
  rw [List.take_succ_eq_append_getElem hi, List.map_append, sumW_append]
  simp [sumW]
theorem sumW_zero {f : Int → Int} : ∀ {L : List Int}, (∀ y ∈ L, 0 ≤ f y) → sumW (L.map f) = 0 → ∀ y ∈ L, f y = 0
  | [], _, _, y, hy => by cases hy
  | x :: L, h, hs, y, hy => by
    have h1 := h x (List.mem_cons_self ..)
    have h2 := sumW_nonneg (l := L.map f) fun z hz => by
      obtain ⟨y, hy, rfl⟩ := List.mem_map.1 hz
      exact h y (List.mem_cons_of_mem _ hy)
    rw [List.map_cons, sumW] at hs
    rcases List.mem_cons.1 hy with rfl | hy
    · omega
    · exact sumW_zero (fun y hy => h y (List.mem_cons_of_mem _ hy)) (by omega) y hy
theorem sumW_one {f : Int → Int} : ∀ {L : List Int}, (∀ y ∈ L, 0 ≤ f y) → sumW (L.map f) = 1 → ∃ A y B, L = A ++ y :: B ∧ f y = 1 ∧ (∀ z ∈ A, f z = 0) ∧ ∀ z ∈ B, f z = 0
  | [], _, hs => by simp [sumW] at hs
  | x :: L, h, hs => by
    have h1 := h x (List.mem_cons_self ..)
    have hL : ∀ y ∈ L, 0 ≤ f y := fun y hy => h y (List.mem_cons_of_mem _ hy)
    have h2 := sumW_nonneg (l := L.map f) fun z hz => by
      obtain ⟨y, hy, rfl⟩ := List.mem_map.1 hz
      exact hL y hy
    rw [List.map_cons, sumW] at hs
    by_cases h0 : f x = 0
    · obtain ⟨A, y, B, rfl, hy, ha, hb⟩ := sumW_one hL (by omega)
      refine ⟨x :: A, y, B, rfl, hy, fun z hz => ?_, hb⟩
      rcases List.mem_cons.1 hz with rfl | hz
      · exact h0
      · exact ha z hz
    · exact ⟨[], x, L, rfl, by omega, (fun z hz => by cases hz), sumW_zero hL (by omega)⟩
theorem find_one {f : Int → Int} {A B : List Int} {y : Int} (hy : f y = 1) (ha : ∀ z ∈ A, f z = 0) : (A ++ y :: B).find? (fun z => decide (f z > 0)) = some y := by
  rw [List.find?_append, List.find?_eq_none.2 (fun z hz => by simp [ha z hz]), List.find?_cons_of_pos (by simp [hy])]
  rfl
theorem foldl_keep {p : Int → Bool} : ∀ (L : List Int) (s : Int), (∀ z ∈ L, p z = false) → L.foldl (fun s y => if p y then y else s) s = s
  | [], s, _ => rfl
  | x :: L, s, h => by
    rw [List.foldl_cons, h x (List.mem_cons_self ..)]
    exact foldl_keep L s fun z hz => h z (List.mem_cons_of_mem _ hz)
theorem foldl_one {f : Int → Int} {A B : List Int} {y s : Int} (hy : f y = 1) (ha : ∀ z ∈ A, f z = 0) (hb : ∀ z ∈ B, f z = 0) : (A ++ y :: B).foldl (fun s y => if f y == 1 then y else s) s = y := by
  rw [List.foldl_append, List.foldl_cons, foldl_keep (p := fun y => f y == 1) A s (fun z hz => by simp [ha z hz])]
  rw [if_pos (by simp [hy])]
  exact foldl_keep (p := fun y => f y == 1) B y (fun z hz => by simp [hb z hz])
theorem foldl_filter {p q : Int → Bool} : ∀ (L : List Int) (s : Int), L.foldl (fun s y => if p y && q y then y else s) s = (L.filter p).foldl (fun s y => if q y then y else s) s
  | [], s => rfl
  | x :: L, s => by
    rw [List.foldl_cons, foldl_filter L, List.filter_cons]
    cases hp : p x with
    | true => simp only [Bool.true_and, if_true, List.foldl_cons]
    | false => simp
open Classical in
noncomputable def rankC (l : List Pr) (a : Int) : Nat := ((List.range 64).filter fun y : Nat => decide (Rch l a (y : Int))).length
theorem filter_leC {p q : Nat → Bool} : ∀ (L : List Nat), (∀ x ∈ L, p x = true → q x = true) → (L.filter p).length ≤ (L.filter q).length
  | [], _ => by simp
  | y :: L, h => by
    have h1 := filter_leC L (fun z hz => h z (by simp [hz]))
    have h2 := h y (by simp)
    rw [List.filter_cons, List.filter_cons]
    cases hp : p y with
    | true => rw [h2 hp]; simp; omega
    | false => cases q y <;> simp <;> omega
theorem filter_ltC {p q : Nat → Bool} : ∀ (L : List Nat), (∀ x ∈ L, p x = true → q x = true) → (∃ x ∈ L, q x = true ∧ p x = false) → (L.filter p).length < (L.filter q).length
  | [], _, h => by obtain ⟨x, hx, _⟩ := h; cases hx
  | x :: L, h, he => by
    rw [List.filter_cons, List.filter_cons]
    have h1 := h x (by simp)
    have hL := filter_leC L (fun z hz => h z (by simp [hz]))
    obtain ⟨y, hy, hq, hp⟩ := he
    rcases List.mem_cons.1 hy with rfl | hy
    · rw [hp, hq]; simp; omega
    · have := filter_ltC L (fun z hz => h z (by simp [hz])) ⟨y, hy, hq, hp⟩
      cases hpx : p x with
      | true => rw [h1 hpx]; simp; omega
      | false => cases q x <;> simp <;> omega
open Classical in
theorem rank_ltC {l : List Pr} (hr : FacesP l) {a y : Int} (hy : y ∈ nextZ l a) (hn : ¬ Rch l y y) : rankC l y < rankC l a := by
  have hyr := nextZ_range hr hy
  unfold rankC
  refine filter_ltC _ (fun x _ h => ?_) ⟨y.toNat, List.mem_range.2 (by omega), ?_, ?_⟩
  · exact decide_eq_true (.more hy (of_decide_eq_true h))
  · rw [Int.toNat_of_nonneg (by omega)]; exact decide_eq_true (.one hy)
  · rw [Int.toNat_of_nonneg (by omega)]; exact decide_eq_false hn
theorem ones_below_all : ((List.range 64).all fun f => (bordersL (f : Int)).all fun y => onesZ y + 1 == onesZ (f : Int)) = true := by decide +kernel
theorem ones_below {f y : Int} (h1 : 0 ≤ f) (h2 : f ≤ 63) (hy : y ∈ bordersL f) : onesZ y + 1 = onesZ f := by
  obtain ⟨m, rfl⟩ := Int.eq_ofNat_of_zero_le h1
  have := List.all_eq_true.1 (List.all_eq_true.1 ones_below_all m (List.mem_range.2 (by omega))) y hy
  simpa using this
theorem ones20_all : ((List.range 64).all fun y => decide (((List.range 64).filter fun z : Nat => onesZ (z : Int) == onesZ (y : Int)).length ≤ 20)) = true := by decide +kernel
theorem pairing_mem {xs : List Int} {l : List Pr} (hp : pairingB xs l = true) {q : Pr} (hq : q ∈ l) : pairB xs q = true := by
  obtain ⟨i, hi, rfl⟩ := List.mem_iff_getElem.1 hq
  exact (pairing_at hp hi).1
theorem pair_ones {xs : List Int} {q : Pr} (h : pairB xs q = true) : onesZ q.f1 = onesZ q.f0 + 1 := by
  unfold pairB at h
  simp only [Bool.and_eq_true, beq_iff_eq] at h
  exact h.2.2.2
theorem high_mem {l : List Pr} {x : Int} (h : highZ l x ≠ 0) : ∃ q ∈ l, q.f0 = x ∧ q.f1 = highZ l x := by
  unfold highZ at h ⊢
  cases hq : l.find? (fun q => q.f0 == x) with
  | none => rw [hq] at h; exact absurd rfl h
  | some q => exact ⟨q, List.mem_of_find?_eq_some hq, by simpa using List.find?_some hq, rfl⟩
theorem next_high {l : List Pr} {x y : Int} (h : y ∈ nextZ l x) : highZ l x ≠ 0 ∧ y ∈ bordersL (highZ l x) ∧ y ≠ x := by
  unfold nextZ at h
  split at h
  · cases h
  · rename_i h0
    have := List.mem_filter.1 h
    exact ⟨h0, this.1, by simpa using this.2⟩
theorem next_ones {n : Int} {xs : List Int} (hi : isC n xs = true) {l : List Pr} (hp : pairingB xs l = true) {x y : Int} (hy : y ∈ nextZ l x) : onesZ y = onesZ x := by
  obtain ⟨h0, hb, _⟩ := next_high hy
  obtain ⟨q, hq, h1, h2⟩ := high_mem h0
  have h3 := pair_ones (pairing_mem hp hq)
  have h4 := facesP_of hi hp q hq
  have h5 := ones_below (f := highZ l x) (by omega) (by omega) hb
  rw [h1, h2] at h3
  omega
theorem rch_ones {n : Int} {xs : List Int} (hi : isC n xs = true) {l : List Pr} (hp : pairingB xs l = true) {x y : Int} (h : Rch l x y) : onesZ y = onesZ x := by
  induction h with
  | one h => exact next_ones hi hp h
  | more h _ ih => rw [ih, next_ones hi hp h]
open Classical in
theorem rank_20 {n : Int} {xs : List Int} (hi : isC n xs = true) {l : List Pr} (hp : pairingB xs l = true) (x : Int) : rankC l x ≤ 20 := by
  unfold rankC
  cases h : (List.range 64).filter fun y : Nat => decide (Rch l x (y : Int)) with
  | nil => simp
  | cons y0 t =>
    have hy : y0 ∈ (List.range 64).filter fun y : Nat => decide (Rch l x (y : Int)) := by rw [h]; exact List.mem_cons_self ..
    obtain ⟨hy1, hy2⟩ := List.mem_filter.1 hy
    have h20 := of_decide_eq_true (List.all_eq_true.1 ones20_all y0 hy1)
    rw [← h]
    refine Nat.le_trans (filter_leC _ fun z _ hz => ?_) h20
    rw [beq_iff_eq, rch_ones hi hp (of_decide_eq_true hz), rch_ones hi hp (of_decide_eq_true hy2)]
theorem f1_inj {xs : List Int} {l : List Pr} (hp : pairingB xs l = true) {q r : Pr} (hq : q ∈ l) (hr : r ∈ l) (h : q.f1 = r.f1) : q = r := by
  obtain ⟨i, hi, rfl⟩ := List.mem_iff_getElem.1 hq
  obtain ⟨j, hj, rfl⟩ := List.mem_iff_getElem.1 hr
  have key : ∀ i j (hi : i < l.length) (hj : j < l.length), l[i].f1 = l[j].f1 → i < j → False := fun i j hi hj h hij => by
    have h2 := ((pairing_at hp hj).2.1 l[i] (by rw [List.mem_take_iff_getElem]; exact ⟨i, by omega, rfl⟩)).2
    unfold hasF at h2
    rw [← h] at h2
    simp at h2
  rcases Nat.lt_trichotomy i j with h1 | h1 | h1
  · exact absurd h1 (fun h1 => key i j hi hj h h1)
  · subst h1; rfl
  · exact absurd h1 (fun h1 => key j i hj hi h.symm h1)
def tw (l : List Pr) (a : Int) : Nat → Int → Int
  | 0, _ => 0
  | m + 1, x => if x = a then 1 else sumW ((nextZ l x).map fun y => tw l a m y)
def TW (l : List Pr) (a x : Int) : Int := tw l a 64 x
theorem TW_self (l : List Pr) (a : Int) : TW l a a = 1 := by unfold TW; rw [tw, if_pos rfl]
theorem tw_fuel {l : List Pr} (hr : FacesP l) (hac : ∀ x, ¬ Rch l x x) (a : Int) : ∀ (m : Nat) (x : Int), rankC l x < m → tw l a m x = tw l a (m + 1) x
  | 0, x, h => absurd h (Nat.not_lt_zero _)
  | m + 1, x, h => by
    rw [tw, tw]
    by_cases hx : x = a
    · rw [if_pos hx, if_pos hx]
    · rw [if_neg hx, if_neg hx]
      refine congrArg sumW (List.map_congr_left fun y hy => ?_)
      exact tw_fuel hr hac a m y (by have := rank_ltC hr hy (hac y); omega)
theorem tw_range {l : List Pr} (hr : FacesP l) (hac : ∀ x, ¬ Rch l x x) (a : Int) : ∀ (m : Nat) (x : Int), rankC l x < m → 0 ≤ tw l a m x ∧ tw l a m x ≤ ((6 ^ rankC l x : Nat) : Int)
  | 0, x, h => absurd h (Nat.not_lt_zero _)
  | m + 1, x, h => by
    rw [tw]
    by_cases hx : x = a
    · rw [if_pos hx]
      have := Nat.one_le_pow (rankC l x) 6 (by omega)
      omega
    · rw [if_neg hx]
      have hy : ∀ y ∈ nextZ l x, 0 ≤ tw l a m y ∧ tw l a m y ≤ ((6 ^ (rankC l x - 1) : Nat) : Int) := fun y hy => by
        have h1 := rank_ltC hr hy (hac y)
        have h2 := tw_range hr hac a m y (by omega)
        have h3 : 6 ^ rankC l y ≤ 6 ^ (rankC l x - 1) := Nat.pow_le_pow_right (by omega) (by omega)
        omega
      refine ⟨sumW_nonneg fun z hz => ?_, ?_⟩
      · obtain ⟨y, hyn, rfl⟩ := List.mem_map.1 hz
        exact (hy y hyn).1
      · cases hn : nextZ l x with
        | nil => exact Int.natCast_nonneg _
        | cons y0 t =>
          have h1 := rank_ltC hr (a := x) (y := y0) (by rw [hn]; exact List.mem_cons_self ..) (hac y0)
          have h2 := sumW_le (B := 6 ^ (rankC l x - 1)) (l := (nextZ l x).map fun y => tw l a m y) fun z hz => by
            obtain ⟨y, hyn, rfl⟩ := List.mem_map.1 hz
            exact (hy y hyn).2
          rw [List.length_map, hn] at h2
          have h3 := nextZ_len (l := l) (a := x)
          rw [hn] at h3
          have h4 : (y0 :: t).length * 6 ^ (rankC l x - 1) ≤ 6 * 6 ^ (rankC l x - 1) := Nat.mul_le_mul_right _ h3
          have h5 : 6 * 6 ^ (rankC l x - 1) = 6 ^ rankC l x := by rw [Nat.mul_comm, ← Nat.pow_succ]; congr 1; omega
          omega
theorem TW_range {n : Int} {xs : List Int} (hi : isC n xs = true) {l : List Pr} (hp : pairingB xs l = true) (hac : ∀ x, ¬ Rch l x x) (a : Int) (x : Int) : 0 ≤ TW l a x ∧ TW l a x ≤ 3656158440062976 := by
  have h1 := rank_20 hi hp x
  have h2 := tw_range (facesP_of hi hp) hac a 64 x (by omega)
  have h3 : 6 ^ rankC l x ≤ 6 ^ 20 := Nat.pow_le_pow_right (by omega) h1
  have h4 : (6 : Nat) ^ 20 = 3656158440062976 := by decide
  unfold TW
  omega
theorem TW_next {n : Int} {xs : List Int} (hi : isC n xs = true) {l : List Pr} (hp : pairingB xs l = true) (hac : ∀ x, ¬ Rch l x x) (a : Int) {x : Int} (hx : x ≠ a) : TW l a x = sumW ((nextZ l x).map (TW l a)) := by
  have h1 := rank_20 hi hp x
  unfold TW
  rw [tw_fuel (facesP_of hi hp) hac a 64 x (by omega), tw, if_neg hx]
theorem next_one {n : Int} {xs : List Int} (hi : isC n xs = true) {l : List Pr} (hp : pairingB xs l = true) (hac : ∀ x, ¬ Rch l x x) (a : Int) {x : Int} (hx : x ≠ a) (h1 : TW l a x = 1) : ∃ A y B, nextZ l x = A ++ y :: B ∧ TW l a y = 1 ∧ (∀ z ∈ A, TW l a z = 0) ∧ ∀ z ∈ B, TW l a z = 0 := by
  rw [TW_next hi hp hac a hx] at h1
  exact sumW_one (fun y _ => (TW_range hi hp hac a y).1) h1
def wayW (l : List Pr) (a : Int) : Nat → Int → List Int
  | 0, _ => []
  | m + 1, x => if x = a then [a] else match (nextZ l x).find? (fun y => decide (TW l a y > 0)) with
    | some y => x :: wayW l a m y
    | none => []
def prsOf (l : List Pr) : Int → List Int → List Pr
  | _, [] => []
  | h, f :: w => ⟨f, h⟩ :: prsOf l (if highZ l f = 0 then h else highZ l f) w
theorem prs_low (l : List Pr) : ∀ (h : Int) (w : List Int), (prsOf l h w).map (·.f0) = w
  | _, [] => rfl
  | h, f :: w => by rw [prsOf, List.map_cons, prs_low l _ w]
theorem prs_len (l : List Pr) (h : Int) (w : List Int) : (prsOf l h w).length = w.length := by
  have := congrArg List.length (prs_low l h w)
  simpa using this
def faceR (l : List Pr) (a high : Int) : Int := (bordersL high).foldl (fun s y => if !(highZ l y == high) && TW l a y == 1 then y else s) 0
def refW (l : List Pr) (a : Int) : Nat → List Pr → Int → List Pr
  | 0, out, _ => out
  | m + 1, out, high => if high = 0 then out else refW l a m (swapP out ⟨faceR l a high, high⟩) (highZ l (faceR l a high))
theorem face_next {xs : List Int} {l : List Pr} (hp : pairingB xs l = true) (a : Int) {x y : Int} {A B : List Int} (h : nextZ l x = A ++ y :: B) (hy : TW l a y = 1) (ha : ∀ z ∈ A, TW l a z = 0) (hb : ∀ z ∈ B, TW l a z = 0) : faceR l a (highZ l x) = y := by
  obtain ⟨h0, _, _⟩ := next_high (l := l) (x := x) (y := y) (by rw [h]; simp)
  unfold faceR
  rw [foldl_filter (p := fun y => !(highZ l y == highZ l x)) (q := fun y => TW l a y == 1)]
  have hf : (bordersL (highZ l x)).filter (fun y => !(highZ l y == highZ l x)) = nextZ l x := by
    unfold nextZ
    rw [if_neg h0]
    refine List.filter_congr fun z hz => ?_
    congr 1
    rw [Bool.eq_iff_iff, beq_iff_eq, beq_iff_eq]
    refine ⟨fun e => ?_, fun e => by rw [e]⟩
    obtain ⟨q, hq, q1, q2⟩ := high_mem (l := l) (x := z) (by rw [e]; exact h0)
    obtain ⟨r, hr, r1, r2⟩ := high_mem h0
    have := f1_inj hp hq hr (by rw [q2, r2, e])
    rw [← q1, ← r1, this]
  rw [hf, h]
  exact foldl_one hy ha hb
theorem way_props {n : Int} {xs : List Int} (hi : isC n xs = true) {l : List Pr} (hp : pairingB xs l = true) (hac : ∀ x, ¬ Rch l x x) (a : Int) : ∀ (m : Nat) (x : Int), rankC l x < m → TW l a x = 1 → (wayW l a m x).Nodup ∧ (∀ f ∈ wayW l a m x, f = x ∨ Rch l x f) ∧ (wayW l a m x).length ≤ m
  | 0, x, h, _ => absurd h (Nat.not_lt_zero _)
  | m + 1, x, h, h1 => by
    rw [wayW]
    by_cases hx : x = a
    · rw [if_pos hx]
      exact ⟨by simp, fun f hf => .inl (by rw [List.mem_singleton.1 hf, hx]), by simp⟩
    · rw [if_neg hx]
      obtain ⟨A, y, B, hn, hy, ha, hb⟩ := next_one hi hp hac a hx h1
      rw [hn, find_one hy ha]
      have hyn : y ∈ nextZ l x := by rw [hn]; simp
      obtain ⟨p1, p2, p3⟩ := way_props hi hp hac a m y (by have := rank_ltC (facesP_of hi hp) hyn (hac y); omega) hy
      refine ⟨List.nodup_cons.2 ⟨fun hm => ?_, p1⟩, fun f hf => ?_, by simp only [List.length_cons]; omega⟩
      · rcases p2 x hm with e | e
        · exact hac x (e ▸ .one (e ▸ hyn))
        · exact hac x (.more hyn e)
      · rcases List.mem_cons.1 hf with rfl | hf
        · exact .inl rfl
        · rcases p2 f hf with rfl | e
          · exact .inr (.one hyn)
          · exact .inr (.more hyn e)
theorem ref_way {n : Int} {xs : List Int} (hi : isC n xs = true) {l : List Pr} (hp : pairingB xs l = true) (hac : ∀ x, ¬ Rch l x x) (a : Int) (ha0 : highZ l a = 0) : ∀ (m : Nat) (x : Int) (out : List Pr) (high : Int), rankC l x < m → TW l a x = 1 → high ≠ 0 → faceR l a high = x → refW l a (m + 1) out high = (prsOf l high (wayW l a m x)).foldl swapP out
  | 0, x, _, _, h, _, _, _ => absurd h (Nat.not_lt_zero _)
  | m + 1, x, out, high, h, h1, h0, hf => by
    rw [refW, if_neg h0, hf, wayW]
    by_cases hx : x = a
    · rw [if_pos hx]
      subst hx
      rw [ha0, refW, if_pos rfl]
      rfl
    · rw [if_neg hx]
      obtain ⟨A, y, B, hn, hy, ha, hb⟩ := next_one hi hp hac a hx h1
      rw [hn, find_one hy ha]
      have hyn : y ∈ nextZ l x := by rw [hn]; simp
      have hh := (next_high hyn).1
      rw [ref_way hi hp hac a ha0 m y _ _ (by have := rank_ltC (facesP_of hi hp) hyn (hac y); omega) hy hh (face_next hp a hn hy ha hb)]
      show _ = (prsOf l high (x :: wayW l a m y)).foldl swapP out
      rw [prsOf, List.foldl_cons, if_neg hh]
def rawC (l : List Pr) (b : Int) (way : List Int) : List Pr := prsOf l b way ++ l.filter fun p => !(way.contains p.f0)
theorem raw_nodup {xs : List Int} {l : List Pr} (hp : pairingB xs l = true) (b : Int) {way : List Int} (hw : way.Nodup) : (rawC l b way).Nodup := by
  have hs := sorted_of hp
  unfold rawC
  refine List.nodup_append.2 ⟨?_, ?_, ?_⟩
  · have h := prs_low l b way
    have h2 : ((prsOf l b way).map (·.f0)).Nodup := by rw [h]; exact hw
    exact List.Pairwise.of_map (fun p : Pr => p.f0) (fun p q h e => h (by rw [e])) h2
  · exact List.Pairwise.imp (fun {p q} h e => by subst e; exact cmp_irr p h) (List.Pairwise.sublist List.filter_sublist hs)
  · intro p hp1 q hq1 e
    subst e
    obtain ⟨_, h2⟩ := List.mem_filter.1 hq1
    have h3 : p.f0 ∈ way := by rw [← prs_low l b way]; exact List.mem_map_of_mem hp1
    simp [h3] at h2
theorem sorted_raw {xs : List Int} {l : List Pr} (hp : pairingB xs l = true) (b : Int) {way : List Int} (hw : way.Nodup) {L : List Pr} (hs : L.Pairwise fun p q => ¬ cmpP q p < 0) (hm : L.Perm (rawC l b way)) : L = (prsOf l b way).foldl swapP l := by
  have hn : L.Nodup := (hm.nodup_iff).2 (raw_nodup hp b hw)
  have hss : SortedP L := by
    have h2 := List.Pairwise.and hs hn
    refine List.Pairwise.imp (fun {p q} h => ?_) h2
    by_cases h3 : cmpP p q < 0
    · exact h3
    · exact absurd (cmp_eq h3 h.1) h.2
  obtain ⟨h1, h2⟩ := fold_swap (prsOf l b way) l (sorted_of hp) (by rw [prs_low]; exact hw)
  refine sorted_ext hss h1 fun x => ?_
  rw [hm.mem_iff, h2, prs_low]
  unfold rawC
  rw [List.mem_append, List.mem_filter]
  simp
end Go.Proofs.YtdnbmobdiidfmaaGreat.Pu
namespace Go.Proofs.YtdnbmobdiidfmaaGreat.Pu
open Go.RowKit Kp Ext QS Im YtdnbmobdiidfmaaGreatW.PrintWords YtdnbmobdiidfmaaGreatW.PrintLast YtdnbmobdiidfmaaGreatW.PrintMore
theorem part_range {n : Int} {xs : List Int} (hi : isC n xs = true) {l : List Pr} (hp : pairingB xs l = true) (hac : ∀ x, ¬ Rch l x x) (a : Int) (L : List Int) (i : Nat) : 0 ≤ sumW ((L.take i).map (TW l a)) ∧ sumW ((L.take i).map (TW l a)) ≤ sumW (L.map (TW l a)) :=
  sumW_take (fun y _ => (TW_range hi hp hac a y).1) i
theorem all_range {n : Int} {xs : List Int} (hi : isC n xs = true) {l : List Pr} (hp : pairingB xs l = true) (hac : ∀ x, ¬ Rch l x x) (a : Int) {L : List Int} (hL : L.length ≤ 6) : sumW (L.map (TW l a)) ≤ 21936950640377856 := by
  have h := sumW_le (B := 3656158440062976) (l := L.map (TW l a)) fun x hx => by
    obtain ⟨y, _, rfl⟩ := List.mem_map.1 hx
    exact (TW_range hi hp hac a y).2
  rw [List.length_map] at h
  have h2 : L.length * 3656158440062976 ≤ 6 * 3656158440062976 := Nat.mul_le_mul_right _ hL
  omega
theorem ev_countW {n : Int} {xs : List Int} (hi : isC n xs = true) {l : List Pr} (hp : pairingB xs l = true) (hac : ∀ x, ¬ Rch l x x) (a : Int) : ∀ (m : Nat) (x : Int), rankC l x < m → Ev (fun k => QB.impl_countWays.f k l x a) (TW l a x)
  | 0, x, h => absurd h (Nat.not_lt_zero _)
  | m + 1, x, h => by
    have hr := facesP_of hi hp
    have hl := pairing_len hi hp
    by_cases hx : x = a
    · subst hx
      rw [TW_self]
      exact Ev.step (f := fun _ => some 1) (fun k => by simp [QB.impl_countWays.f]) (Ev.now _)
    · rw [TW_next hi hp hac a hx]
      have hs : impl_steps.f l x = some (nextZ l x) := steps_f (by omega) hr x
      have hz : ∀ y ∈ nextZ l x, Ev (fun k => QB.impl_countWays.f k l y a) (TW l a y) := fun y hy => ev_countW hi hp hac a m y (by have := rank_ltC hr hy (hac y); omega)
      have hlen := nextZ_len (l := l) (a := x)
      generalize nextZ l x = L at hs hz hlen ⊢
      have hall := all_range hi hp hac a hlen
      have loop : ∀ d (i : Nat), L.length - i = d → i ≤ L.length → Ev (fun k => QB.impl_countWays.l0 k l a (sumW ((L.take i).map (TW l a))) L (L.length : Int) i) (sumW (L.map (TW l a))) := by
        intro d
        induction d with
        | zero =>
          intro i hd hi2
          rw [List.take_of_length_le (by omega)]
          exact Ev.step (f := fun _ => some (sumW (L.map (TW l a)))) (fun k => by simp only [QB.impl_countWays.l0]; rw [if_neg (by omega)]) (Ev.now _)
        | succ d ihd =>
          intro i hd hi2
          have hi' : i < L.length := by omega
          have h1 := part_range hi hp hac a L i
          have h2 := part_range hi hp hac a L (i + 1)
          rw [sumW_succ hi'] at h2
          refine Ev.step (f := fun k => (QB.impl_countWays.f k l L[i] a).bind fun t => QB.impl_countWays.l0 k l a (wrap64 (sumW ((L.take i).map (TW l a)) + t)) L (L.length : Int) ((i + 1 : Nat) : Int)) (fun k => ?_) (Ev.bind (hz _ (List.getElem_mem hi')) ?_)
          · simp only [QB.impl_countWays.l0]; rw [if_pos (by omega), if_pos (by omega), if_pos (by omega), rd_at hi', succ64 (by omega)]
          · rw [w64 (by omega) (by omega), ← sumW_succ hi']
            exact ihd (i + 1) (by omega) (by omega)
      refine Ev.step (f := fun k => QB.impl_countWays.l0 k l a 0 L (L.length : Int) 0) (fun k => ?_) (loop _ 0 rfl (Nat.zero_le _))
      simp only [QB.impl_countWays.f]; rw [if_neg hx, hs]; rfl
theorem ev_waysW {n : Int} {xs : List Int} (hi : isC n xs = true) {l : List Pr} (hp : pairingB xs l = true) (hac : ∀ x, ¬ Rch l x x) (a : Int) (ha0 : highZ l a = 0) : ∀ (m : Nat) (x : Int), rankC l x < m → Ev (fun k => spec_l02Ways.f k l x a) (TW l a x)
  | 0, x, h => absurd h (Nat.not_lt_zero _)
  | m + 1, x, h => by
    have hr := facesP_of hi hp
    have hl := pairing_len hi hp
    by_cases hx : x = a
    · subst hx
      rw [TW_self]
      refine Ev.step (fun k => by simp only [spec_l02Ways.f, if_true]; rfl) ?_
      refine Ev.step (fun k => by simp only [spec_l02Ways.j0]; rfl) (Ev.bind (ev_next (by omega) hr x) ?_)
      have hn : nextZ l x = [] := by unfold nextZ; rw [if_pos ha0]
      rw [hn]
      exact Ev.step (f := fun _ => some 1) (fun k => by simp [spec_l02Ways.l0]) (Ev.now _)
    · rw [TW_next hi hp hac a hx]
      have hn := ev_next (l := l) (by omega) hr x
      have hz : ∀ y ∈ nextZ l x, Ev (fun k => spec_l02Ways.f k l y a) (TW l a y) := fun y hy => ev_waysW hi hp hac a ha0 m y (by have := rank_ltC hr hy (hac y); omega)
      have hlen := nextZ_len (l := l) (a := x)
      generalize nextZ l x = L at hn hz hlen ⊢
      have hall := all_range hi hp hac a hlen
      have loop : ∀ d (i : Nat), L.length - i = d → i ≤ L.length → Ev (fun k => spec_l02Ways.l0 k l a (sumW ((L.take i).map (TW l a))) L i) (sumW (L.map (TW l a))) := by
        intro d
        induction d with
        | zero =>
          intro i hd hi2
          rw [List.take_of_length_le (by omega)]
          exact Ev.step (f := fun _ => some (sumW (L.map (TW l a)))) (fun k => by simp only [spec_l02Ways.l0]; rw [if_neg (by omega)]) (Ev.now _)
        | succ d ihd =>
          intro i hd hi2
          have hi' : i < L.length := by omega
          have h1 := part_range hi hp hac a L i
          have h2 := part_range hi hp hac a L (i + 1)
          rw [sumW_succ hi'] at h2
          refine Ev.step (f := fun k => (spec_l02Ways.f k l L[i] a).bind fun t => spec_l02Ways.l0 k l a (wrap64 (sumW ((L.take i).map (TW l a)) + t)) L ((i + 1 : Nat) : Int)) (fun k => ?_) (Ev.bind (hz _ (List.getElem_mem hi')) ?_)
          · simp only [spec_l02Ways.l0]; rw [if_pos (by omega), if_pos (by omega), rd_at hi', succ64 (by omega)]
          · rw [w64 (by omega) (by omega), ← sumW_succ hi']
            exact ihd (i + 1) (by omega) (by omega)
      refine Ev.step (fun k => by simp only [spec_l02Ways.f]; rw [if_neg hx]) ?_
      exact Ev.step (fun k => by simp only [spec_l02Ways.j0]; rfl) (Ev.bind hn (loop _ 0 rfl (Nat.zero_le _)))
theorem ev_betweenI {n : Int} {xs : List Int} (hi : isC n xs = true) {l : List Pr} (hp : pairingB xs l = true) (hac : ∀ x, ¬ Rch l x x) (a : Int) {b : Int} : Ev (fun k => QB.impl_waysBetween.f k l b a) (sumW ((bordersL b).map (TW l a))) := by
  have hbr : impl_borders.f b = some (bordersL b) := by unfold impl_borders.f; rw [if_pos trivial]
  have hlen := borders_len6 (f := b)
  unfold QB.impl_waysBetween.f
  simp only [hbr, Option.bind_some]
  generalize bordersL b = L at hlen ⊢
  have hall := all_range hi hp hac a hlen
  have loop : ∀ d (i : Nat), L.length - i = d → i ≤ L.length → Ev (fun k => QB.impl_waysBetween.l0 k l a (sumW ((L.take i).map (TW l a))) L (L.length : Int) i) (sumW (L.map (TW l a))) := by
    intro d
    induction d with
    | zero =>
      intro i hd hi2
      rw [List.take_of_length_le (by omega)]
      exact Ev.step (f := fun _ => some (sumW (L.map (TW l a)))) (fun k => by simp only [QB.impl_waysBetween.l0]; rw [if_neg (by omega)]) (Ev.now _)
    | succ d ihd =>
      intro i hd hi2
      have hi' : i < L.length := by omega
      have h1 := part_range hi hp hac a L i
      have h2 := part_range hi hp hac a L (i + 1)
      rw [sumW_succ hi'] at h2
      refine Ev.step (f := fun k => (QB.impl_countWays.f k l L[i] a).bind fun t => QB.impl_waysBetween.l0 k l a (wrap64 (sumW ((L.take i).map (TW l a)) + t)) L (L.length : Int) ((i + 1 : Nat) : Int)) (fun k => ?_) (Ev.bind (ev_countW hi hp hac a _ L[i] (Nat.lt_succ_self _)) ?_)
      · simp only [QB.impl_waysBetween.l0]; rw [if_pos (by omega), if_pos (by omega), if_pos (by omega), rd_at hi', succ64 (by omega)]
      · rw [w64 (by omega) (by omega), ← sumW_succ hi']
        exact ihd (i + 1) (by omega) (by omega)
  exact loop _ 0 rfl (Nat.zero_le _)
theorem ev_betweenS {n : Int} {xs : List Int} (hi : isC n xs = true) {l : List Pr} (hp : pairingB xs l = true) (hac : ∀ x, ¬ Rch l x x) (a : Int) (ha0 : highZ l a = 0) {b : Int} (hb : 1 ≤ b ∧ b ≤ 63) : Ev (fun k => spec_l06Between.f k l b a) (sumW ((bordersL b).map (TW l a))) := by
  have hlen := borders_len6 (f := b)
  unfold spec_l06Between.f
  refine Ev.bind (ev_below hb.1 hb.2) ?_
  generalize bordersL b = L at hlen ⊢
  have hall := all_range hi hp hac a hlen
  have loop : ∀ d (i : Nat), L.length - i = d → i ≤ L.length → Ev (fun k => spec_l06Between.l0 k l a L (sumW ((L.take i).map (TW l a))) i) (sumW (L.map (TW l a))) := by
    intro d
    induction d with
    | zero =>
      intro i hd hi2
      rw [List.take_of_length_le (by omega)]
      exact Ev.step (f := fun _ => some (sumW (L.map (TW l a)))) (fun k => by simp only [spec_l06Between.l0]; rw [if_neg (by omega)]) (Ev.now _)
    | succ d ihd =>
      intro i hd hi2
      have hi' : i < L.length := by omega
      have h1 := part_range hi hp hac a L i
      have h2 := part_range hi hp hac a L (i + 1)
      rw [sumW_succ hi'] at h2
      refine Ev.step (f := fun k => (spec_l02Ways.f k l L[i] a).bind fun t => spec_l06Between.l0 k l a L (wrap64 (sumW ((L.take i).map (TW l a)) + t)) ((i + 1 : Nat) : Int)) (fun k => ?_) (Ev.bind (ev_waysW hi hp hac a ha0 _ L[i] (Nat.lt_succ_self _)) ?_)
      · simp only [spec_l06Between.l0]; rw [if_pos (by omega), if_pos (by omega), rd_at hi', succ64 (by omega)]
      · rw [w64 (by omega) (by omega), ← sumW_succ hi']
        exact ihd (i + 1) (by omega) (by omega)
  exact loop _ 0 rfl (Nat.zero_le _)
end Go.Proofs.YtdnbmobdiidfmaaGreat.Pu
namespace Go.Proofs.YtdnbmobdiidfmaaGreat.Ext
open YtdnbmobdiidfmaaGreatW.PrintWords
open Classical in
noncomputable def limO {α : Type} (g : Nat → Option α) : Option α := if h : ∃ r : α, ∃ k, g k = some r then some (Classical.choose h) else none
theorem limO_get {α : Type} {g : Nat → Option α} {r : α} (h : limO g = some r) : ∃ k, g k = some r := by
  unfold limO at h
  split at h
  · rename_i hc
    obtain rfl := Option.some.inj h
    exact Classical.choose_spec hc
  · cases h
theorem limO_of {α : Type} {g : Nat → Option α} {r : α} (hg : ∀ k, LeO (g k) (g (k + 1))) (h : Ev g r) : limO g = some r := by
  obtain ⟨k, hk⟩ := h.rounds
  have hc : ∃ r : α, ∃ k, g k = some r := ⟨r, k, hk⟩
  unfold limO
  rw [dif_pos hc]
  obtain ⟨k', hk'⟩ := Classical.choose_spec hc
  obtain ⟨K, hK⟩ := h
  have h1 := at_rounds hg (Nat.le_max_left k' K) hk'
  have h2 := hK (max k' K) (Nat.le_max_right _ _)
  rw [h1] at h2
  exact h2
end Go.Proofs.YtdnbmobdiidfmaaGreat.Ext
namespace Go.Proofs.YtdnbmobdiidfmaaGreat.Ext
open Go.RowKit Im Kp YtdnbmobdiidfmaaGreatW.PrintWords YtdnbmobdiidfmaaGreatW.PrintLast YtdnbmobdiidfmaaGreatW.PrintMore
noncomputable def impl_countWays.f (l0 : List S45) (a1 : Int) (a2 : Int) : Option (Int) := limO fun k => QB.impl_countWays.f k l0 a1 a2
theorem impl_countWays.calls (A0 : Option Addr) (c0 : Nat) (l0 : List S45) (a1 : Int) (a2 : Int) (r : Int) (w : World) (hr0 : Kd.C k45 w A0 l0.length l0) (hc0 : l0.length ≤ c0) (h : impl_countWays.f l0 a1 a2 = some r) :
    Calls Tryz.prog 29 #[.slice A0 l0.length c0, .int .i64 a1, .int .i64 a2] w fun e w' => e = .returned (.int .i64 r) ∧ Below w.heap.size w w' := by
  obtain ⟨k, hk⟩ := limO_get h
  exact QB.impl_countWays.calls k A0 c0 l0 a1 a2 r w hr0 hc0 hk
theorem impl_countWays.come (l0 : List S45) (a1 : Int) (a2 : Int) {r : Int} (h : Ev (fun k => QB.impl_countWays.f k l0 a1 a2) r) : impl_countWays.f l0 a1 a2 = some r := limO_of (fun k => QB.impl_countWays.mono _ _ _ k) h
end Go.Proofs.YtdnbmobdiidfmaaGreat.Ext
namespace Go.Proofs.YtdnbmobdiidfmaaGreat.QC
open Cw Kp Ext Go.RowKit YtdnbmobdiidfmaaGreatW.PrintWords YtdnbmobdiidfmaaGreatW.PrintLast YtdnbmobdiidfmaaGreatW.PrintMore
attribute [local go_sem] max2_int min2_int max_two min_two max_three min_three max_four min_four   -- for this text's walks alone
def errW : Option Int → Value
 | none => .nilIface
 | some c => .iface 0 (.int .i64 c)
theorem errW_none : errW none = .nilIface := rfl
theorem errW_some (c : Int) : errW (some c) = .iface 0 (.int .i64 c) := rfl
theorem info2 : (Tryz.prog.info? 2).map (fun i => (i.zero, i.size, i.bytes)) = some (some (.int .i64 0), 1, 8) := by kernel_rfl
mutual
noncomputable def impl_onlyWay.l0 : Nat → List (S45) → Int → Int → List Int → Int → Int → Option (List Int)
 | 0, _, _, _, _, _, _ => none
 | k + 1, x0, x1, x2, x16, x17, x18 => if x18 < x17 then (if 0 ≤ x18 then (if x18 < (x16.length : Int) then ((impl_countWays.f x0 (rd x16 x18) x2).bind fun t108 => (if t108 > 0 then ((some (([x1] : List Int) : List Int)).bind fun y109 => ((impl_onlyWay.f k x0 (rd x16 x18) x2).bind fun t112 => (if y109.length + t112.length < 17592186044416 then (some (y109 ++ t112)) else (none)))) else (impl_onlyWay.l0 k x0 x1 x2 x16 x17 (wrap64 (x18 + 1))))) else (none)) else (none)) else (some ([] : List Int))
noncomputable def impl_onlyWay.f : Nat → List (S45) → Int → Int → Option (List Int)
 | 0, _, _, _ => none
 | k + 1, l0, a1, a2 => if a1 = a2 then (some (([a1] : List Int))) else ((impl_steps.f l0 a1).bind fun t104 => (impl_onlyWay.l0 k l0 a1 a2 t104 (t104.length : Int) 0))
end
set_option maxHeartbeats 8000000 in
set_option maxRecDepth 100000 in
theorem impl_onlyWay.calls (k : Nat) : ∀ (A0 : Option Addr) (c0 : Nat) (l0 : List (S45)) (a1 : Int) (a2 : Int) (r : List Int) (w : World) (hr0 : Kd.C k45 w A0 l0.length l0) (hc0 : l0.length ≤ c0) (h : impl_onlyWay.f k l0 a1 a2 = some r),
  Calls Tryz.prog 30 #[.slice A0 l0.length c0, .int .i64 a1, .int .i64 a2] w fun e w' => ∃ v0_ : Value, e = .returned (v0_) ∧ Kd.R (Kd.int .i64) 2 w' w.heap.size (fun _ => True) v0_ r ∧ Below w.heap.size w w' := by
 induction k using Nat.strongRecOn with
 | _ k ih =>
 intro A0 c0 l0 a1 a2 r w hr0 hc0 h
 cases k with
 | zero => exact absurd h (by simp [impl_onlyWay.f])
 | succ k =>
 simp only [impl_onlyWay.f] at h
 have HR0 := Aside0.mk hr0
 have HC0 := Aside0.mk hc0
 clear hr0 hc0
 have HB := Aside0.mk (Below.refl w.heap.size w)
 have H : (if a1 = a2 then (some (([a1] : List Int))) else ((impl_steps.f l0 a1).bind fun t104 => (impl_onlyWay.l0 k l0 a1 a2 t104 (t104.length : Int) 0))) = some r := h
 clear h
 by_cases c4 : a1 = a2
 ·rw [if_pos c4] at H
  have c4b0 : (a1 == a2) = true := beq_iff_eq.mpr c4
  have c4b1 : (a1 != a2) = false := bne_eq_false_iff_eq.mpr c4
  clear c4
  obtain ⟨y101, hy101⟩ : ∃ y_ : List Int, y_ = (([a1] : List Int)) := ⟨_, rfl⟩
  replace H : (some y101) = some r := by first | (rw [hy101]; with_reducible exact H) | (have H2_ := (Option.bind_some _ _).symm.trans H; rw [hy101]; with_reducible exact H2_) | (have H2_ := (Option.bind_some _ _).symm.trans H; with_reducible exact H2_) | with_reducible exact H | (rw [hy101]; exact H) | exact H
  have Ny101 := Aside0.mk hy101
  clear hy101
  obtain rfl := Option.some.inj H
  go_enter Tryz.func30, Tryz.ntmps30
  go_wp2_with (first | ((with_reducible refine gate_dst (N := 13) rfl ?_); refine Kd.R_lit (Kd.int .i64) _ 2 ?hg (N := 13) ?hd (xs := ([a1] : List Int)) (inner := [.int .i64 a1]) (ok := fun _ => True) (okp := fun _ => True) ?hr ?hp (fun _ hk => hk) trivial (Below.refl _ _) (Nat.le_refl _) (by simp) ?_; (case hd => rfl); (case hg => rfl); (case hr => first | (go_simp; done) | (go_simp; rfl)); (case hp => exact (Reps.one (show Kd.M (Kd.int .i64) _ _ _ a1 [.int .i64 a1] from rfl) (Reps.none _ _))); intro v102 w5 ho6 hb hg_ hnew_; clear hg_ hnew_; (first | rw [← Ny101.out] at ho6 | (simp only [Int.reduceToNat] at ho6; rw [← Ny101.out] at ho6)); have HO103 := Aside0.mk (Kd.R_lower ho6 (below_size (pH HB))); replace HB := sH HB hb; clear hb ho6))
  go_ret
  exact ⟨_, by first | rfl | (simp [errW_none, errW_some] <;> rfl) | (simp [*, errW_none, errW_some] <;> rfl) | (exfalso; simp_all), by (with_reducible repeat (first | apply Kd.R_alloc | apply Kd.R_drewN | apply Kd.R_drew)); exact HO103.out, pH HB⟩
 ·rw [if_neg c4] at H
  have c4b0 : (a1 == a2) = false := beq_eq_false_iff_ne.mpr c4
  have c4b1 : (a1 != a2) = true := bne_iff_ne.mpr c4
  replace H := Option.bind_eq_some_iff.mp H
  obtain ⟨t104, A70, H⟩ := H
  try dsimp only at H
  have A7 := Aside0.mk A70
  clear A70
  have H' := Aside0.mk H
  clear H
  go_enter Tryz.func30, Tryz.ntmps30
  go_wp2_with (first | ((with_reducible refine gate_callee (f := 51) rfl ?_); refine cl_ (some 16) Tryz.func51 #[.slice A0 l0.length c0, .int .i64 a1] ?_; (with_reducible refine (impl_steps.calls _ _ l0 a1 t104 _ ?side1 ?side2 A7.out).mono ?_); (case side1 => exact pC (HR0.out)); (case side2 => exact HC0.out); rintro e w8 ⟨v105, rfl, ho0, hb⟩; refine ⟨_, rfl, ?_⟩; have HO106 := Aside0.mk (Kd.R_lower ho0 (below_size (pH HB))); replace HB := sH HB hb; (try clear hb); (try clear hi); (try clear ho0); obtain ⟨Ao9, co9, eo9⟩ := Kd.R_slice HO106.out; subst eo9))
  go_loopg [18] k (fun kq v18 w' => ∃ (x18_1 : Int), v18 = .int .i64 x18_1 ∧ Aside0 (impl_onlyWay.l0 kq l0 a1 a2 t104 (t104.length : Int) x18_1 = some r) ∧ Aside0 (kq ≤ k) ∧ Aside0 (Kd.R (Kd.int .i64) 2 w' w.heap.size (fun _ => True) (.slice Ao9 t104.length co9) t104) ∧ Aside0 (Below w.heap.size w w'))
  case atStart => exact ⟨(0), (by first | rfl | (simp; done) | (simp [*]; done)), H', ⟨Nat.le_refl _⟩, ⟨by (with_reducible repeat (first | apply Kd.R_alloc | apply Kd.R_drewN | apply Kd.R_drew)); exact HO106.out⟩, ⟨pH HB⟩⟩
  case round =>
   clear H'
   try clear p2
   try clear c3
   try clear c4
   try clear c4b0
   try clear c4b1
   try clear c5
   obtain ⟨x18_1, rfl, HA, HK1, HO_16, HB⟩ := hrel
   cases gk with
   | zero => exact absurd HA.out (by simp [impl_onlyWay.l0])
   | succ k1 =>
    have H := HA.out
    clear HA
    simp only [impl_onlyWay.l0] at H
    by_cases c10 : x18_1 < (t104.length : Int)
    ·rw [if_pos c10] at H
     have c10b0 : decide (x18_1 < (t104.length : Int)) = true := decide_eq_true c10
     clear c10
     by_cases c11 : 0 ≤ x18_1
     ·rw [if_pos c11] at H
      have c11b0 : decide (0 ≤ x18_1) = true := decide_eq_true c11
      clear c11
      by_cases c12 : x18_1 < (t104.length : Int)
      ·rw [if_pos c12] at H
       have c12b0 : decide (x18_1 < (t104.length : Int)) = true := decide_eq_true c12
       clear c12
       replace H := Option.bind_eq_some_iff.mp H
       obtain ⟨t108, A130, H⟩ := H
       try dsimp only at H
       have A13 := Aside0.mk A130
       clear A130
       by_cases c14 : t108 > 0
       ·rw [if_pos c14] at H
        have c14b0 : decide (0 < t108) = true := decide_eq_true c14
        clear c14
        obtain ⟨y109, hy109⟩ : ∃ y_ : List Int, y_ = (([a1] : List Int)) := ⟨_, rfl⟩
        replace H : ((impl_onlyWay.f k1 l0 (rd t104 x18_1) a2).bind fun t112 => (if y109.length + t112.length < 17592186044416 then (some (y109 ++ t112)) else (none))) = some r := by first | (rw [hy109]; with_reducible exact H) | (have H2_ := (Option.bind_some _ _).symm.trans H; rw [hy109]; with_reducible exact H2_) | (have H2_ := (Option.bind_some _ _).symm.trans H; with_reducible exact H2_) | with_reducible exact H | (rw [hy109]; exact H) | exact H
        have Ny109 := Aside0.mk hy109
        clear hy109
        replace H := Option.bind_eq_some_iff.mp H
        obtain ⟨t112, A150, H⟩ := H
        try dsimp only at H
        have A15 := Aside0.mk A150
        clear A150
        by_cases c16 : y109.length + t112.length < 17592186044416
        ·rw [if_pos c16] at H
         have LMc16 := Aside0.mk c16
         clear c16
         obtain ⟨y115, hy115⟩ : ∃ y_ : List Int, y_ = (y109 ++ t112) := ⟨_, rfl⟩
         replace H : (some y115) = some r := by first | (rw [hy115]; with_reducible exact H) | (have H2_ := (Option.bind_some _ _).symm.trans H; rw [hy115]; with_reducible exact H2_) | (have H2_ := (Option.bind_some _ _).symm.trans H; with_reducible exact H2_) | with_reducible exact H | (rw [hy115]; exact H) | exact H
         have Ny115 := Aside0.mk hy115
         clear hy115
         obtain rfl := Option.some.inj H
         have p107 : 0 ≤ (x18_1 : Int) := of_decide_eq_true (by first | (with_reducible assumption) | assumption)
         have q107 : x18_1 < (t104.length : Int) := of_decide_eq_true (by first | (with_reducible assumption) | assumption)
         obtain ⟨ad107, e107, hx107_0⟩ := Kd.at_int (Kd.R_reads' HO_16.out).2.2 x18_1 p107 q107
         cases e107
         replace p107 := eq_true p107
         replace q107 := eq_true q107
         go_wp2_with (first | ((with_reducible refine gate_callee (f := 29) rfl ?_); refine cl_ (some 25) Tryz.func29 #[.slice A0 l0.length c0, .int .i64 (rd t104 x18_1), .int .i64 a2] ?_; (with_reducible refine (impl_countWays.calls _ _ l0 (rd t104 x18_1) a2 t108 _ ?side1 ?side2 A13.out).mono ?_); (case side1 => exact pC ((Kd.C_below HR0.out HB.out))); (case side2 => exact HC0.out); rintro e w17 ⟨rfl, hb⟩; refine ⟨_, rfl, ?_⟩; replace HO_16 := sR HO_16 hb; replace HB := sH HB hb; (try clear hb); (try clear hi)) | ((with_reducible refine gate_dst (N := 28) rfl ?_); refine Kd.R_lit (Kd.int .i64) _ 2 ?hg (N := 28) ?hd (xs := ([a1] : List Int)) (inner := [.int .i64 a1]) (ok := fun _ => True) (okp := fun _ => True) ?hr ?hp (fun _ hk => hk) trivial (Below.refl _ _) (Nat.le_refl _) (by simp) ?_; (case hd => rfl); (case hg => rfl); (case hr => first | (go_simp; done) | (go_simp; rfl)); (case hp => exact (Reps.one (show Kd.M (Kd.int .i64) _ _ _ a1 [.int .i64 a1] from rfl) (Reps.none _ _))); intro v110 w18 ho19 hb hg_ hnew_; clear hg_ hnew_; (first | rw [← Ny109.out] at ho19 | (simp only [Int.reduceToNat] at ho19; rw [← Ny109.out] at ho19)); have HO111 := Aside0.mk (Kd.R_lower (Kd.R_new' ho19 (Kd.R_lt (pR HO_16))) (below_size (pH HB))); replace HO_16 := Aside0.mk (Kd.R_elder' (pR HO_16) (Kd.R_base ho19) hb); replace HB := sH HB hb; clear hb ho19) | ((with_reducible refine gate_callee (f := 30) rfl ?_); refine cl_ (some 32) Tryz.func30 #[.slice A0 l0.length c0, .int .i64 (rd t104 x18_1), .int .i64 a2] ?_; (with_reducible refine (ih k1 (by have := HK1.out; omega) _ _ l0 (rd t104 x18_1) a2 t112 _ ?side1 ?side2 A15.out).mono ?_); (case side1 => exact pC ((Kd.C_below HR0.out HB.out))); (case side2 => exact HC0.out); rintro e w20 ⟨v113, rfl, ho0, hb⟩; refine ⟨_, rfl, ?_⟩; have HO114 := Aside0.mk (Kd.R_lower (Kd.R_new' (Kd.R_new' ho0 (Kd.R_lt (pR HO_16))) (Kd.R_lt (pR HO111))) (below_size (pH HB))); replace HO_16 := Aside0.mk (Kd.R_elder' (pR HO_16) (Kd.R_base ho0) hb); replace HO111 := Aside0.mk (Kd.R_elder' (pR HO111) (Kd.R_base ho0) hb); replace HB := sH HB hb; (try clear hb); (try clear hi); (try clear ho0); obtain ⟨Ao22, co22, eo22⟩ := Kd.R_slice HO114.out; subst eo22) | ((with_reducible refine gate_builtin (b := .append) (xs := #[.tmp 28, .tmp 32]) rfl ?_); at_builtin; refine Kd.R_append_rows (Kd.int .i64) (w0 := w) w.heap.size rfl (.tmp 28) (.tmp 32) 22 2 (.int .i64 0) 8 rfl Tryz.underlying22 info2 rfl (by decide) (by omega) v110 y109 t112 _ _ _ (fun k_ => some k_ ≠ (.slice (some ad107) t104.length co9 : Value).ownBlock ∧ some k_ ≠ (.slice Ao22 t112.length co22 : Value).ownBlock) (fun _ => False) rfl rfl ?aO ?aR (fun _ _ h => h) (fun _ h => h.elim) ?aF ?aB ?aS ?aL ?_; (case aR => exact pC ((Kd.R_reads' HO114.out).2.2)); (case aB => exact (pH HB)); (case aF => exact (fun k_ hk => ⟨Kd.fresh' (Kd.R_lt (pR HO_16)) k_ hk, Kd.fresh' (Kd.R_lt (pR HO114)) k_ hk⟩)); (case aO => exact (by (with_reducible repeat (first | apply Kd.R_alloc | apply Kd.R_drewN | apply Kd.R_drew)); exact Kd.R_mono HO111.out (fun _ hk => ⟨hk.1.2, hk.2⟩))); (case aS => exact (below_size (pH HB))); (case aL => have := LMc16.out; omega); intro v116 w21 ho hb hg hat; rw [← Ny115.out] at ho; have n0_ := Aside0.mk (Kd.R_after (ok := (fun k_ => some k_ ≠ (.slice Ao22 t112.length co22 : Value).ownBlock)) (by (with_reducible repeat (first | apply Kd.R_alloc | apply Kd.R_drewN | apply Kd.R_drew)); exact Kd.R_mono HO_16.out (fun _ hk => ⟨hk.2, hk.1.2⟩)) hg hat); have n1_ := Aside0.mk (Kd.R_after (ok := (fun k_ => some k_ ≠ (.slice (some ad107) t104.length co9 : Value).ownBlock)) (by (with_reducible repeat (first | apply Kd.R_alloc | apply Kd.R_drewN | apply Kd.R_drew)); exact Kd.R_mono HO114.out (fun _ hk => ⟨hk.1.2, hk.2⟩)) hg hat); have n2_ := Aside0.mk (hb); have n3_ := Aside0.mk (ho); clear HO_16; clear HO114; clear HB; clear HO111; have HO_16 := n0_; have HO114 := n1_; have HB := n2_; have HO117 := n3_; clear n0_ n1_ n2_ n3_; clear ho hb hg hat))
         go_ret
         exact ⟨_, by first | rfl | (simp [errW_none, errW_some] <;> rfl) | (simp [*, errW_none, errW_some] <;> rfl) | (exfalso; simp_all), by (with_reducible repeat (first | apply Kd.R_alloc | apply Kd.R_drewN | apply Kd.R_drew)); exact Kd.R_mono HO117.out (fun _ hk => trivial), pH HB⟩
        ·rw [if_neg c16] at H
         exact absurd H (by simp)
       ·rw [if_neg c14] at H
        have c14b0 : decide (0 < t108) = false := decide_eq_false c14
        clear c14
        have H' := Aside0.mk H
        clear H
        have p107 : 0 ≤ (x18_1 : Int) := of_decide_eq_true (by first | (with_reducible assumption) | assumption)
        have q107 : x18_1 < (t104.length : Int) := of_decide_eq_true (by first | (with_reducible assumption) | assumption)
        obtain ⟨ad107, e107, hx107_0⟩ := Kd.at_int (Kd.R_reads' HO_16.out).2.2 x18_1 p107 q107
        cases e107
        replace p107 := eq_true p107
        replace q107 := eq_true q107
        go_wp2_with (first | ((with_reducible refine gate_callee (f := 29) rfl ?_); refine cl_ (some 25) Tryz.func29 #[.slice A0 l0.length c0, .int .i64 (rd t104 x18_1), .int .i64 a2] ?_; (with_reducible refine (impl_countWays.calls _ _ l0 (rd t104 x18_1) a2 t108 _ ?side1 ?side2 A13.out).mono ?_); (case side1 => exact pC ((Kd.C_below HR0.out HB.out))); (case side2 => exact HC0.out); rintro e w23 ⟨rfl, hb⟩; refine ⟨_, rfl, ?_⟩; replace HO_16 := sR HO_16 hb; replace HB := sH HB hb; (try clear hb); (try clear hi)))
        go_roundg k1
        case measure => have := HK1.out; omega
        case rel => exact ⟨(wrap64 (x18_1 + 1)), (by first | rfl | (simp; done) | (simp [*]; done)), H', ⟨by have := HK1.out; omega⟩, ⟨by (with_reducible repeat (first | apply Kd.R_alloc | apply Kd.R_drewN | apply Kd.R_drew)); exact HO_16.out⟩, ⟨pH HB⟩⟩
      ·rw [if_neg c12] at H
       exact absurd H (by simp)
     ·rw [if_neg c11] at H
      exact absurd H (by simp)
    ·rw [if_neg c10] at H
     have c10b0 : decide (x18_1 < (t104.length : Int)) = false := decide_eq_false c10
     clear c10
     obtain rfl := Option.some.inj H
     go_wp2
     go_ret
     exact ⟨_, by first | rfl | (simp [errW_none, errW_some] <;> rfl) | (simp [*, errW_none, errW_some] <;> rfl) | (exfalso; simp_all), by first | exact Kd.R_nil _ _ _ _ _ | exact Kd.N_nil _ _ _ _ _ | exact Kd.V_nil _ _ _ _ _ | exact Kd.Q_nil _ _ _ _ _ | exact Kd.S_nil _ _ _ _ _, pH HB⟩
end Go.Proofs.YtdnbmobdiidfmaaGreat.QC
namespace Go.Proofs.YtdnbmobdiidfmaaGreat.QS
open Cw Kp Ext Go.RowKit YtdnbmobdiidfmaaGreatW.PrintWords YtdnbmobdiidfmaaGreatW.PrintLast YtdnbmobdiidfmaaGreatW.PrintMore
attribute [local go_sem] max2_int min2_int max_two min_two max_three min_three max_four min_four   -- for this text's walks alone
mutual
def spec_CancelFaces.j0 : Nat → List (S45) → Int → Int → Int → Bool → Int → List Int → Option ((List (S45)) × Int)
 | 0, _, _, _, _, _, _, _ => none
 | k + 1, x1, x2, x3, x10, x32, x307000, x307001 => if x32 = true then (spec_CancelFaces.j1 k x1 x2 x3 5 x307000 x307001) else (spec_CancelFaces.j1 k x1 x2 x3 x10 x307000 x307001)
def spec_CancelFaces.j1 : Nat → List (S45) → Int → Int → Int → Int → List Int → Option ((List (S45)) × Int)
 | 0, _, _, _, _, _, _ => none
 | k + 1, x1, x2, x3, x10, x307000, x307001 => if x10 = 0 then ((some (([] : List (S45)) : List (S45))).bind fun y309 => (if y309.length + x1.length < 8796093022208 then (spec_CancelFaces.l0 k x1 x3 (y309 ++ x1) x2 x307000 x307001) else (none))) else (some (([] : List (S45)), x10))
def spec_CancelFaces.l0 : Nat → List (S45) → Int → List (S45) → Int → Int → List Int → Option ((List (S45)) × Int)
 | 0, _, _, _, _, _, _ => none
 | k + 1, x1, x3, x11, x12, x307000, x307001 => if x12 = 0 then (some (x11, 0)) else ((spec_l01Below.f k x12).bind fun t315 => (spec_CancelFaces.l1 k x1 x3 x11 x12 t315 0 0 x307000 x307001))
def spec_CancelFaces.l1 : Nat → List (S45) → Int → List (S45) → Int → List Int → Int → Int → Int → List Int → Option ((List (S45)) × Int)
 | 0, _, _, _, _, _, _, _, _, _ => none
 | k + 1, x1, x3, x11, x12, x13, x14, x15, x307000, x307001 => if x15 < (x13.length : Int) then (if 0 ≤ x15 then ((spec_l02High.f k x1 (rd x13 x15)).bind fun t319 => (if t319 = x12 then (spec_CancelFaces.l1 k x1 x3 x11 x12 x13 x14 (wrap64 (x15 + 1)) x307000 x307001) else ((spec_l02Ways.f k x1 (rd x13 x15) x3).bind fun t321 => (if t321 = 1 then (spec_CancelFaces.l1 k x1 x3 x11 x12 x13 (rd x13 x15) (wrap64 (x15 + 1)) x307000 x307001) else (spec_CancelFaces.l1 k x1 x3 x11 x12 x13 x14 (wrap64 (x15 + 1)) x307000 x307001))))) else (none)) else ((spec_l02High.f k x1 x14).bind fun t323 => (spec_CancelFaces.l2 k x1 x3 x11 x12 x14 t323 (([] : List (S45))) 0 x307000 x307001))
def spec_CancelFaces.l2 : Nat → List (S45) → Int → List (S45) → Int → Int → Int → List (S45) → Int → Int → List Int → Option ((List (S45)) × Int)
 | 0, _, _, _, _, _, _, _, _, _, _ => none
 | k + 1, x1, x3, x11, x12, x14, x16, x17, x18, x307000, x307001 => if x18 < (x11.length : Int) then (if 0 ≤ x18 then (if ((rd_T45 x11 x18).f0) = x14 then (spec_CancelFaces.l2 k x1 x3 x11 x12 x14 x16 x17 (wrap64 (x18 + 1)) x307000 x307001) else (if x17.length < 8796093022208 then (spec_CancelFaces.l2 k x1 x3 x11 x12 x14 x16 (x17 ++ [(⟨(rd_T45 x11 x18).f0, (rd_T45 x11 x18).f1⟩ : S45)]) (wrap64 (x18 + 1)) x307000 x307001) else (none))) else (none)) else ((spec_l02With.f k x307000 x307001 x17 x14 x12).bind fun bt332 => (spec_CancelFaces.l0 k x1 x3 bt332.1 x16 x307000 x307001))
end
def spec_CancelFaces.f (k : Nat) (a0_0 : Int) (l0_1 : List Int) (l1 : List (S45)) (a2 : Int) (a3 : Int) : Option ((List (S45)) × Int) := (spec_l06Given.f k a0_0 l0_1 l1 a2 a3).bind fun t307 => (if t307 = 0 then ((spec_l06Between.f k l1 a2 a3).bind fun t308 => (spec_CancelFaces.j0 k l1 a2 a3 t307 (t308 != 1) a0_0 l0_1)) else (spec_CancelFaces.j0 k l1 a2 a3 t307 false a0_0 l0_1))
set_option maxHeartbeats 8000000 in
set_option maxRecDepth 100000 in
theorem spec_CancelFaces.calls (k : Nat) (a0_0 : Int) (A0_1 : Option Addr) (c0_1 : Nat) (l0_1 : List Int) (A1 : Option Addr) (c1 : Nat) (l1 : List (S45)) (a2 : Int) (a3 : Int) (r1 : List (S45)) (r2 : Int) (w : World) (hr0_1 : Kd.C (Kd.int .i64) w A0_1 l0_1.length l0_1) (hc0_1 : l0_1.length ≤ c0_1) (hr1 : Kd.C k45 w A1 l1.length l1) (hc1 : l1.length ≤ c1) (h : spec_CancelFaces.f k a0_0 l0_1 l1 a2 a3 = some (r1, r2)) :
  Calls Tryz.prog 6 #[.agg #[.int .i64 a0_0, .slice A0_1 l0_1.length c0_1], .slice A1 l1.length c1, .int .i64 a2, .int .i64 a3] w fun e w' => ∃ v0_ : Value, e = .returned (.tuple #[v0_, .int .i64 r2]) ∧ Kd.R k45 45 w' w.heap.size (fun _ => True) v0_ r1 ∧ Below w.heap.size w w' := by
 have hu31 := Tryz.underlying31
 have hu45 := Tryz.underlying45
 have HR0_1 := Aside0.mk hr0_1
 have HC0_1 := Aside0.mk hc0_1
 clear hr0_1 hc0_1
 have HR1 := Aside0.mk hr1
 have HC1 := Aside0.mk hc1
 clear hr1 hc1
 have HB := Aside0.mk (Below.refl w.heap.size w)
 have H : ((spec_l06Given.f k a0_0 l0_1 l1 a2 a3).bind fun t307 => (if t307 = 0 then ((spec_l06Between.f k l1 a2 a3).bind fun t308 => (spec_CancelFaces.j0 k l1 a2 a3 t307 (t308 != 1) a0_0 l0_1)) else (spec_CancelFaces.j0 k l1 a2 a3 t307 false a0_0 l0_1))) = some (r1, r2) := h
 clear h
 replace H := Option.bind_eq_some_iff.mp H
 obtain ⟨t307, A50, H⟩ := H
 try dsimp only at H
 have A5 := Aside0.mk A50
 clear A50
 have HC6 := Aside0.mk H
 clear H
 go_enter Tryz.func6, Tryz.ntmps6
 go_upto_region 2 with (first | ((with_reducible refine gate_dst (N := 4) rfl ?_); refine box_event ?hg (N := 4) ?hd (cs := #[.int .i64 a0_0, .slice A0_1 l0_1.length c0_1]) (t := 31) ?hr ?_; (case hd => rfl); (case hg => rfl); (case hr => first | (go_simp; done) | (go_simp; rfl)); intro gb306 hg w7 hbox hb; have BK306 := Aside0.mk (hbox); have GW306 := gH HB hg; have GE306 := gH HB hg; replace HB := sH HB hb; clear hb hbox hg; have hcz8_0 : w7.cell? ⟨gb306, 0, none⟩ = some (.int .i64 a0_0) := cB BK306 0; have hcz8_1 : w7.cell? ⟨gb306, 1, none⟩ = some (.slice A0_1 l0_1.length c0_1) := cB BK306 1; have hfz8_0 := zB BK306 0; have hfz8_1 := zB BK306 1) | ((with_reducible refine gate_callee (f := 16) rfl ?_); refine cl_ (some 23) Tryz.func16 #[.agg #[.int .i64 a0_0, .slice A0_1 l0_1.length c0_1], .slice A1 l1.length c1, .int .i64 a2, .int .i64 a3] ?_; (with_reducible refine (spec_l06Given.calls k a0_0 _ _ l0_1 _ _ l1 a2 a3 t307 _ ?side1 ?side2 ?side3 ?side4 A5.out).mono ?_); (case side1 => exact pC ((Kd.C_below HR0_1.out HB.out))); (case side2 => exact HC0_1.out); (case side3 => exact pC ((Kd.C_below HR1.out HB.out))); (case side4 => exact HC1.out); rintro e w9 ⟨rfl, hb⟩; refine ⟨_, rfl, ?_⟩; replace BK306 := sB BK306 hb; replace HB := sH HB hb; (try clear hb); (try clear hi)))
 (try simp only [Act.put, List.setIfInBounds_toArray, List.set_cons_zero, List.set_cons_succ])
 go_cut [32] (fun v32 wc => ∃ (kq : Nat) (x32_5 : Bool), v32 = .bool x32_5 ∧ Aside0 (spec_CancelFaces.j0 kq l1 a2 a3 t307 x32_5 a0_0 l0_1 = some (r1, r2)) ∧ Aside0 (kq ≤ k) ∧ Aside0 (wc.heap[gb306]? = some (.cells #[.int .i64 a0_0, (.slice A0_1 l0_1.length c0_1)] 31 (0, 0))) ∧ Aside0 (Below w.heap.size w wc))
 case first =>
  have H := HC6.out
  clear HC6
  by_cases c10 : t307 = 0
  ·rw [if_pos c10] at H
   have c10b0 : (t307 == 0) = true := beq_iff_eq.mpr c10
   have c10b1 : (t307 != 0) = false := bne_eq_false_iff_eq.mpr c10
   clear c10
   (first | rw [c10b0] | (simp only [i64_w, i32_w]; rw [c10b0]) | skip)
   replace H := Option.bind_eq_some_iff.mp H
   obtain ⟨t308, A110, H⟩ := H
   try dsimp only at H
   have A11 := Aside0.mk A110
   clear A110
   have H' := Aside0.mk H
   clear H
   go_wp2_with (first | (go_at_call 17; (with_reducible refine (spec_l06Between.calls k _ _ l1 a2 a3 t308 _ ?side1 ?side2 A11.out).mono ?_); (case side1 => exact pC ((Kd.C_below HR1.out HB.out))); (case side2 => exact HC1.out); rintro e w12 ⟨rfl, hb⟩; replace BK306 := sB BK306 hb; replace HB := sH HB hb; (try clear hb); (try clear hi)))
   go_meet
   case rel => exact ⟨_, ((t308 != 1)), (by first | rfl | (simp; done) | (simp [*]; done)), H', ⟨by first | omega | exact Nat.le_refl _⟩, ⟨pB BK306⟩, ⟨pH HB⟩⟩
  ·rw [if_neg c10] at H
   have c10b0 : (t307 == 0) = false := beq_eq_false_iff_ne.mpr c10
   have c10b1 : (t307 != 0) = true := bne_iff_ne.mpr c10
   (first | rw [c10b0] | (simp only [i64_w, i32_w]; rw [c10b0]) | skip)
   have H' := Aside0.mk H
   clear H
   go_wp2
   go_meet
   case rel => exact ⟨_, (false), (by first | rfl | (simp; done) | (simp [*]; done)), H', ⟨by first | omega | exact Nat.le_refl _⟩, ⟨pB BK306⟩, ⟨pH HB⟩⟩
 case rest =>
  clear HC6
  try clear c1
  try clear p2
  try clear c6
  try clear c10
  try clear c10b0
  try clear c10b1
  try clear hcz8_0
  try clear hcz8_1
  try clear hfz8_0
  try clear hfz8_1
  obtain ⟨kq, x32_5, rfl, HA, HJ5, BK306, HB⟩ := hcut
  cases kq with
  | zero => exact absurd HA.out (by simp [spec_CancelFaces.j0])
  | succ kj5 =>
   have H := HA.out
   clear HA
   simp only [spec_CancelFaces.j0] at H
   have HC13 := Aside0.mk H
   clear H
   go_upto_if 32 with (fail)
   go_cut [10] (fun v10 wc => ∃ (kq : Nat) (x10_12 : Int), v10 = .int .i64 x10_12 ∧ Aside0 (spec_CancelFaces.j1 kq l1 a2 a3 x10_12 a0_0 l0_1 = some (r1, r2)) ∧ Aside0 (kq ≤ kj5) ∧ Aside0 (wc.heap[gb306]? = some (.cells #[.int .i64 a0_0, (.slice A0_1 l0_1.length c0_1)] 31 (0, 0))) ∧ Aside0 (Below w.heap.size w wc))
   case first =>
    have H := HC13.out
    clear HC13
    by_cases c14 : x32_5 = true
    ·subst c14
     have H1 : (spec_CancelFaces.j1 kj5 l1 a2 a3 5 a0_0 l0_1) = some (r1, r2) := by rw [if_pos rfl] at H; exact H
     clear H
     have H := H1
     clear H1
     have H' := Aside0.mk H
     clear H
     go_wp2
     go_meet
     case rel => exact ⟨_, (5), (by first | rfl | (simp; done) | (simp [*]; done)), H', ⟨by have := HJ5.out; first | omega | exact Nat.le_refl _⟩, ⟨pB BK306⟩, ⟨pH HB⟩⟩
    ·replace c14 := Bool.eq_false_iff.mpr c14
     subst c14
     have H1 : (spec_CancelFaces.j1 kj5 l1 a2 a3 t307 a0_0 l0_1) = some (r1, r2) := by rw [if_neg (show ¬ (false = true) by decide)] at H; exact H
     clear H
     have H := H1
     clear H1
     have H' := Aside0.mk H
     clear H
     go_wp2
     go_meet
     case rel => exact ⟨_, (t307), (by first | rfl | (simp; done) | (simp [*]; done)), H', ⟨by have := HJ5.out; first | omega | exact Nat.le_refl _⟩, ⟨pB BK306⟩, ⟨pH HB⟩⟩
   case rest =>
    clear HC13
    try clear c1
    try clear p2
    try clear c6
    try clear c10
    try clear c10b0
    try clear c10b1
    try clear c14
    try clear hcz8_0
    try clear hcz8_1
    try clear hfz8_0
    try clear hfz8_1
    try clear p2
    obtain ⟨kq, x10_12, rfl, HA, HJ12, BK306, HB⟩ := hcut
    cases kq with
    | zero => exact absurd HA.out (by simp [spec_CancelFaces.j1])
    | succ kj12 =>
     have H := HA.out
     clear HA
     simp only [spec_CancelFaces.j1] at H
     by_cases c15 : x10_12 = 0
     ·rw [if_pos c15] at H
      have c15b0 : (x10_12 == 0) = true := beq_iff_eq.mpr c15
      have c15b1 : (x10_12 != 0) = false := bne_eq_false_iff_eq.mpr c15
      clear c15
      obtain ⟨y309, hy309⟩ : ∃ y_ : List (S45), y_ = (([] : List (S45))) := ⟨_, rfl⟩
      replace H : (if y309.length + l1.length < 8796093022208 then (spec_CancelFaces.l0 kj12 l1 a3 (y309 ++ l1) a2 a0_0 l0_1) else (none)) = some (r1, r2) := by first | (rw [hy309]; with_reducible exact H) | (have H2_ := (Option.bind_some _ _).symm.trans H; rw [hy309]; with_reducible exact H2_) | (have H2_ := (Option.bind_some _ _).symm.trans H; with_reducible exact H2_) | with_reducible exact H | (rw [hy309]; exact H) | exact H
      have Ny309 := Aside0.mk hy309
      clear hy309
      by_cases c16 : y309.length + l1.length < 8796093022208
      ·rw [if_pos c16] at H
       have LMc16 := Aside0.mk c16
       clear c16
       obtain ⟨y312, hy312⟩ : ∃ y_ : List (S45), y_ = (y309 ++ l1) := ⟨_, rfl⟩
       replace H : (spec_CancelFaces.l0 kj12 l1 a3 y312 a2 a0_0 l0_1) = some (r1, r2) := by first | (rw [hy312]; with_reducible exact H) | (have H2_ := (Option.bind_some _ _).symm.trans H; rw [hy312]; with_reducible exact H2_) | (have H2_ := (Option.bind_some _ _).symm.trans H; with_reducible exact H2_) | with_reducible exact H | (rw [hy312]; exact H) | exact H
       have Ny312 := Aside0.mk hy312
       clear hy312
       have H' := Aside0.mk H
       clear H
       go_wp2_with (first | ((with_reducible refine gate_dst (N := 36) rfl ?_); refine Kd.R_lit k45 _ 45 ?hg (N := 36) ?hd (xs := ([] : List (S45))) (inner := []) (ok := fun _ => True) (okp := fun _ => True) ?hr ?hp (fun _ hk => hk) trivial (Below.refl _ _) (Nat.le_refl _) (by simp) ?_; (case hd => rfl); (case hg => rfl); (case hr => first | (go_simp; done) | (go_simp; rfl)); (case hp => exact (Reps.none _ _)); intro v310 w17 ho18 hb hg_ hnew_; clear hg_ hnew_; (first | rw [← Ny309.out] at ho18 | (simp only [Int.reduceToNat] at ho18; rw [← Ny309.out] at ho18)); have HO311 := Aside0.mk (Kd.R_lower ho18 (below_size (pH HB))); replace BK306 := sB BK306 hb; replace HB := sH HB hb; clear hb ho18) | ((with_reducible refine gate_builtin (b := .append) (xs := #[.tmp 36, .tmp 37]) rfl ?_); at_builtin; refine Kd.R_append_rows k45 (w0 := w) w.heap.size rfl (.tmp 36) (.tmp 37) 28 45 (.agg #[(.int .i64 0), (.int .i64 0)]) 16 rfl Tryz.underlying28 info45 rfl (by decide) (by omega) v310 y309 l1 _ _ _ (fun _ => True) (fun _ => False) rfl rfl ?aO ?aR (fun _ _ h => h) (fun _ h => h.elim) ?aF ?aB ?aS ?aL ?_; (case aR => exact pC ((Kd.C_below HR1.out HB.out))); (case aB => exact (pH HB)); (case aF => exact (fun _ _ => trivial)); (case aO => exact (pR HO311)); (case aS => exact (below_size (pH HB))); (case aL => have := LMc16.out; omega); intro v313 w19 ho hb hg hat; rw [← Ny312.out] at ho; replace BK306 := Aside0.mk (blk_grown (g := gb306) (o := .cells #[.int .i64 a0_0, .slice A0_1 l0_1.length c0_1] 31 (0, 0)) (pB BK306) hg (Kd.R_ne HO311.out BK306.out (by decide))); replace HB := Aside0.mk (hb); have HO314 := Aside0.mk (ho); clear HO311; clear ho hb hg hat))
       go_loopg [11, 12] kj12 (fun kq v11 v12 w' => ∃ (x11_3 : List (S45)) (x12_3 : Int), v12 = .int .i64 x12_3 ∧ Aside0 (spec_CancelFaces.l0 kq l1 a3 x11_3 x12_3 a0_0 l0_1 = some (r1, r2)) ∧ Aside0 (kq ≤ kj12) ∧ Aside0 (Kd.R k45 45 w' w.heap.size (fun _ => True) v11 x11_3) ∧ Aside0 (w'.heap[gb306]? = some (.cells #[.int .i64 a0_0, (.slice A0_1 l0_1.length c0_1)] 31 (0, 0))) ∧ Aside0 (Below w.heap.size w w'))
       case atStart => exact ⟨(y312), (a2), (by first | rfl | (simp; done) | (simp [*]; done)), H', ⟨Nat.le_refl _⟩, ⟨by (with_reducible repeat (first | apply Kd.R_alloc | apply Kd.R_drewN | apply Kd.R_drew)); exact HO314.out⟩, ⟨pB BK306⟩, ⟨pH HB⟩⟩
       case round =>
        clear H'
        try clear c1
        try clear p2
        try clear c6
        try clear c10
        try clear c10b0
        try clear c10b1
        try clear c14
        try clear c15
        try clear c15b0
        try clear c15b1
        try clear c16
        try clear hcz8_0
        try clear hcz8_1
        try clear hfz8_0
        try clear hfz8_1
        try clear p2
        obtain ⟨x11_3, x12_3, rfl, HA, HK3, HO_11, BK306, HB⟩ := hrel
        cases gk with
        | zero => exact absurd HA.out (by simp [spec_CancelFaces.l0])
        | succ k3 =>
         have H := HA.out
         clear HA
         simp only [spec_CancelFaces.l0] at H
         by_cases c20 : x12_3 = 0
         ·rw [if_pos c20] at H
          have c20b0 : (x12_3 == 0) = true := beq_iff_eq.mpr c20
          have c20b1 : (x12_3 != 0) = false := bne_eq_false_iff_eq.mpr c20
          clear c20
          simp only [Option.some.injEq, Prod.mk.injEq] at H
          obtain ⟨rfl, rfl⟩ := H
          go_wp2
          go_ret2
          exact ⟨_, by first | rfl | (simp [errW_none, errW_some] <;> rfl) | (simp [*, errW_none, errW_some] <;> rfl) | (exfalso; simp_all), by (with_reducible repeat (first | apply Kd.R_alloc | apply Kd.R_drewN | apply Kd.R_drew)); exact HO_11.out, pH HB⟩
         ·rw [if_neg c20] at H
          have c20b0 : (x12_3 == 0) = false := beq_eq_false_iff_ne.mpr c20
          have c20b1 : (x12_3 != 0) = true := bne_iff_ne.mpr c20
          replace H := Option.bind_eq_some_iff.mp H
          obtain ⟨t315, A210, H⟩ := H
          try dsimp only at H
          have A21 := Aside0.mk A210
          clear A210
          have H' := Aside0.mk H
          clear H
          go_wp2_with (first | ((with_reducible refine gate_callee (f := 18) rfl ?_); refine cl_ (some 43) Tryz.func18 #[.int .i64 x12_3] ?_; (with_reducible refine (spec_l01Below.calls k3 x12_3 t315 _ A21.out).mono ?_); rintro e w22 ⟨v316, rfl, ho0, hb⟩; refine ⟨_, rfl, ?_⟩; replace HO_11 := sR HO_11 hb; have HO317 := Aside0.mk (Kd.R_lower ho0 (below_size (pH HB))); replace BK306 := sB BK306 hb; replace HB := sH HB hb; (try clear hb); (try clear hi); (try clear ho0)))
          go_loopg [14, 15] k3 (fun kq v14 v15 w' => ∃ (x14_4 : Int) (x15_4 : Int), v14 = .int .i64 x14_4 ∧ v15 = .int .i64 x15_4 ∧ Aside0 (spec_CancelFaces.l1 kq l1 a3 x11_3 x12_3 t315 x14_4 x15_4 a0_0 l0_1 = some (r1, r2)) ∧ Aside0 (kq ≤ k3) ∧ Aside0 (Kd.R k45 45 w' w.heap.size (fun _ => True) u11 x11_3) ∧ Aside0 (Kd.R (Kd.int .i64) 2 w' w.heap.size (fun _ => True) v316 t315) ∧ Aside0 (w'.heap[gb306]? = some (.cells #[.int .i64 a0_0, (.slice A0_1 l0_1.length c0_1)] 31 (0, 0))) ∧ Aside0 (Below w.heap.size w w'))
          case atStart => exact ⟨(0), (0), (by first | rfl | (simp; done) | (simp [*]; done)), (by first | rfl | (simp; done) | (simp [*]; done)), H', ⟨Nat.le_refl _⟩, ⟨by (with_reducible repeat (first | apply Kd.R_alloc | apply Kd.R_drewN | apply Kd.R_drew)); exact HO_11.out⟩, ⟨by (with_reducible repeat (first | apply Kd.R_alloc | apply Kd.R_drewN | apply Kd.R_drew)); exact HO317.out⟩, ⟨pB BK306⟩, ⟨pH HB⟩⟩
          case round =>
           clear H'
           try clear c1
           try clear c2
           try clear p2
           try clear c6
           try clear c10
           try clear c10b0
           try clear c10b1
           try clear c14
           try clear c15
           try clear c15b0
           try clear c15b1
           try clear c16
           try clear c18
           try clear c20
           try clear c20b0
           try clear c20b1
           try clear hcz8_0
           try clear hcz8_1
           try clear hfz8_0
           try clear hfz8_1
           try clear p2
           obtain ⟨x14_4, x15_4, rfl, rfl, HA, HK4, HO_11, HO_13, BK306, HB⟩ := hrel
           cases gk with
           | zero => exact absurd HA.out (by simp [spec_CancelFaces.l1])
           | succ k4 =>
            have H := HA.out
            clear HA
            simp only [spec_CancelFaces.l1] at H
            by_cases c23 : x15_4 < (t315.length : Int)
            ·rw [if_pos c23] at H
             have c23b0 : decide (x15_4 < (t315.length : Int)) = true := decide_eq_true c23
             clear c23
             by_cases c24 : 0 ≤ x15_4
             ·rw [if_pos c24] at H
              have c24b0 : decide (0 ≤ x15_4) = true := decide_eq_true c24
              clear c24
              replace H := Option.bind_eq_some_iff.mp H
              obtain ⟨t319, A250, H⟩ := H
              try dsimp only at H
              have A25 := Aside0.mk A250
              clear A250
              by_cases c26 : t319 = x12_3
              ·rw [if_pos c26] at H
               have c26b0 : (t319 == x12_3) = true := beq_iff_eq.mpr c26
               have c26b1 : (t319 != x12_3) = false := bne_eq_false_iff_eq.mpr c26
               clear c26
               have H' := Aside0.mk H
               clear H
               obtain ⟨Ao27, co27, eo27⟩ := Kd.R_slice HO_13.out
               subst eo27
               have p318 : 0 ≤ (x15_4 : Int) := of_decide_eq_true (by first | (with_reducible assumption) | assumption)
               have q318 : x15_4 < (t315.length : Int) := of_decide_eq_true (by first | (with_reducible assumption) | assumption)
               obtain ⟨ad318, e318, hx318_0⟩ := Kd.at_int (Kd.R_reads' HO_13.out).2.2 x15_4 p318 q318
               cases e318
               replace p318 := eq_true p318
               replace q318 := eq_true q318
               go_wp2_with (first | ((with_reducible refine gate_callee (f := 19) rfl ?_); refine cl_ (some 55) Tryz.func19 #[.slice A1 l1.length c1, .int .i64 (rd t315 x15_4)] ?_; (with_reducible refine (spec_l02High.calls k4 _ _ l1 (rd t315 x15_4) t319 _ ?side1 ?side2 A25.out).mono ?_); (case side1 => exact pC ((Kd.C_below HR1.out HB.out))); (case side2 => exact HC1.out); rintro e w' ⟨rfl, ⟨nd, rfl⟩⟩; refine ⟨_, rfl, ?_⟩))
               go_roundg k4
               case measure => have := HJ5.out; have := HJ12.out; have := HK3.out; have := HK4.out; omega
               case rel => exact ⟨(x14_4), (wrap64 (x15_4 + 1)), (by first | rfl | (simp; done) | (simp [*]; done)), (by first | rfl | (simp; done) | (simp [*]; done)), H', ⟨by have := HJ5.out; have := HJ12.out; have := HK3.out; have := HK4.out; omega⟩, ⟨by (with_reducible repeat (first | apply Kd.R_alloc | apply Kd.R_drewN | apply Kd.R_drew)); exact HO_11.out⟩, ⟨by (with_reducible repeat (first | apply Kd.R_alloc | apply Kd.R_drewN | apply Kd.R_drew)); exact HO_13.out⟩, ⟨pB BK306⟩, ⟨pH HB⟩⟩
              ·rw [if_neg c26] at H
               have c26b0 : (t319 == x12_3) = false := beq_eq_false_iff_ne.mpr c26
               have c26b1 : (t319 != x12_3) = true := bne_iff_ne.mpr c26
               replace H := Option.bind_eq_some_iff.mp H
               obtain ⟨t321, A280, H⟩ := H
               try dsimp only at H
               have A28 := Aside0.mk A280
               clear A280
               by_cases c29 : t321 = 1
               ·rw [if_pos c29] at H
                have c29b0 : (t321 == 1) = true := beq_iff_eq.mpr c29
                have c29b1 : (t321 != 1) = false := bne_eq_false_iff_eq.mpr c29
                clear c29
                have H' := Aside0.mk H
                clear H
                obtain ⟨Ao30, co30, eo30⟩ := Kd.R_slice HO_13.out
                subst eo30
                have p318 : 0 ≤ (x15_4 : Int) := of_decide_eq_true (by first | (with_reducible assumption) | assumption)
                have q318 : x15_4 < (t315.length : Int) := of_decide_eq_true (by first | (with_reducible assumption) | assumption)
                obtain ⟨ad318, e318, hx318_0⟩ := Kd.at_int (Kd.R_reads' HO_13.out).2.2 x15_4 p318 q318
                cases e318
                replace p318 := eq_true p318
                replace q318 := eq_true q318
                go_wp2_with (first | ((with_reducible refine gate_callee (f := 19) rfl ?_); refine cl_ (some 55) Tryz.func19 #[.slice A1 l1.length c1, .int .i64 (rd t315 x15_4)] ?_; (with_reducible refine (spec_l02High.calls k4 _ _ l1 (rd t315 x15_4) t319 _ ?side1 ?side2 A25.out).mono ?_); (case side1 => exact pC ((Kd.C_below HR1.out HB.out))); (case side2 => exact HC1.out); rintro e w' ⟨rfl, ⟨nd, rfl⟩⟩; refine ⟨_, rfl, ?_⟩; have p320 : 0 ≤ (x15_4 : Int) := of_decide_eq_true (by first | (with_reducible assumption) | assumption); have q320 : x15_4 < (t315.length : Int) := of_decide_eq_true (by first | (with_reducible assumption) | assumption); obtain ⟨ad320, e320, hx320_0⟩ := Kd.at_int (Kd.R_reads' HO_13.out).2.2 x15_4 p320 q320; obtain rfl : ad318 = ad320 := (by injection e320); replace p320 := eq_true p320; replace q320 := eq_true q320) | (go_at_call 20; (with_reducible refine (spec_l02Ways.calls k4 _ _ l1 (rd t315 x15_4) a3 t321 _ ?side1 ?side2 A28.out).mono ?_); (case side1 => exact pC ((Kd.C_below HR1.out (pH HB)))); (case side2 => exact HC1.out); rintro e w31 ⟨rfl, hb⟩; replace HO_11 := sR HO_11 hb; replace HO_13 := sR HO_13 hb; replace BK306 := sB BK306 hb; replace HB := sH HB hb; (try clear hb); (try clear hi); have p322 : 0 ≤ (x15_4 : Int) := of_decide_eq_true (by first | (with_reducible assumption) | assumption); have q322 : x15_4 < (t315.length : Int) := of_decide_eq_true (by first | (with_reducible assumption) | assumption); obtain ⟨ad322, e322, hx322_0⟩ := Kd.at_int (Kd.R_reads' HO_13.out).2.2 x15_4 p322 q322; obtain rfl : ad318 = ad322 := (by injection e322); replace p322 := eq_true p322; replace q322 := eq_true q322))
                go_roundg k4
                case measure => have := HJ5.out; have := HJ12.out; have := HK3.out; have := HK4.out; omega
                case rel => exact ⟨(rd t315 x15_4), (wrap64 (x15_4 + 1)), (by first | rfl | (simp; done) | (simp [*]; done)), (by first | rfl | (simp; done) | (simp [*]; done)), H', ⟨by have := HJ5.out; have := HJ12.out; have := HK3.out; have := HK4.out; omega⟩, ⟨by (with_reducible repeat (first | apply Kd.R_alloc | apply Kd.R_drewN | apply Kd.R_drew)); exact HO_11.out⟩, ⟨by (with_reducible repeat (first | apply Kd.R_alloc | apply Kd.R_drewN | apply Kd.R_drew)); exact HO_13.out⟩, ⟨pB BK306⟩, ⟨pH HB⟩⟩
               ·rw [if_neg c29] at H
                have c29b0 : (t321 == 1) = false := beq_eq_false_iff_ne.mpr c29
                have c29b1 : (t321 != 1) = true := bne_iff_ne.mpr c29
                have H' := Aside0.mk H
                clear H
                obtain ⟨Ao32, co32, eo32⟩ := Kd.R_slice HO_13.out
                subst eo32
                have p318 : 0 ≤ (x15_4 : Int) := of_decide_eq_true (by first | (with_reducible assumption) | assumption)
                have q318 : x15_4 < (t315.length : Int) := of_decide_eq_true (by first | (with_reducible assumption) | assumption)
                obtain ⟨ad318, e318, hx318_0⟩ := Kd.at_int (Kd.R_reads' HO_13.out).2.2 x15_4 p318 q318
                cases e318
                replace p318 := eq_true p318
                replace q318 := eq_true q318
                go_wp2_with (first | ((with_reducible refine gate_callee (f := 19) rfl ?_); refine cl_ (some 55) Tryz.func19 #[.slice A1 l1.length c1, .int .i64 (rd t315 x15_4)] ?_; (with_reducible refine (spec_l02High.calls k4 _ _ l1 (rd t315 x15_4) t319 _ ?side1 ?side2 A25.out).mono ?_); (case side1 => exact pC ((Kd.C_below HR1.out HB.out))); (case side2 => exact HC1.out); rintro e w' ⟨rfl, ⟨nd, rfl⟩⟩; refine ⟨_, rfl, ?_⟩; have p320 : 0 ≤ (x15_4 : Int) := of_decide_eq_true (by first | (with_reducible assumption) | assumption); have q320 : x15_4 < (t315.length : Int) := of_decide_eq_true (by first | (with_reducible assumption) | assumption); obtain ⟨ad320, e320, hx320_0⟩ := Kd.at_int (Kd.R_reads' HO_13.out).2.2 x15_4 p320 q320; obtain rfl : ad318 = ad320 := (by injection e320); replace p320 := eq_true p320; replace q320 := eq_true q320) | (go_at_call 20; (with_reducible refine (spec_l02Ways.calls k4 _ _ l1 (rd t315 x15_4) a3 t321 _ ?side1 ?side2 A28.out).mono ?_); (case side1 => exact pC ((Kd.C_below HR1.out (pH HB)))); (case side2 => exact HC1.out); rintro e w33 ⟨rfl, hb⟩; replace HO_11 := sR HO_11 hb; replace HO_13 := sR HO_13 hb; replace BK306 := sB BK306 hb; replace HB := sH HB hb; (try clear hb); (try clear hi)))
                go_roundg k4
                case measure => have := HJ5.out; have := HJ12.out; have := HK3.out; have := HK4.out; omega
                case rel => exact ⟨(x14_4), (wrap64 (x15_4 + 1)), (by first | rfl | (simp; done) | (simp [*]; done)), (by first | rfl | (simp; done) | (simp [*]; done)), H', ⟨by have := HJ5.out; have := HJ12.out; have := HK3.out; have := HK4.out; omega⟩, ⟨by (with_reducible repeat (first | apply Kd.R_alloc | apply Kd.R_drewN | apply Kd.R_drew)); exact HO_11.out⟩, ⟨by (with_reducible repeat (first | apply Kd.R_alloc | apply Kd.R_drewN | apply Kd.R_drew)); exact HO_13.out⟩, ⟨pB BK306⟩, ⟨pH HB⟩⟩
             ·rw [if_neg c24] at H
              exact absurd H (by simp)
            ·rw [if_neg c23] at H
             have c23b0 : decide (x15_4 < (t315.length : Int)) = false := decide_eq_false c23
             clear c23
             replace H := Option.bind_eq_some_iff.mp H
             obtain ⟨t323, A340, H⟩ := H
             try dsimp only at H
             have A34 := Aside0.mk A340
             clear A340
             obtain ⟨y324, hy324⟩ : ∃ y_ : List (S45), y_ = (([] : List (S45))) := ⟨_, rfl⟩
             replace H : (spec_CancelFaces.l2 k4 l1 a3 x11_3 x12_3 x14_4 t323 y324 0 a0_0 l0_1) = some (r1, r2) := by first | (rw [hy324]; with_reducible exact H) | (have H2_ := (Option.bind_some _ _).symm.trans H; rw [hy324]; with_reducible exact H2_) | (have H2_ := (Option.bind_some _ _).symm.trans H; with_reducible exact H2_) | with_reducible exact H | (rw [hy324]; exact H) | exact H
             have Ny324 := Aside0.mk hy324
             clear hy324
             have H' := Aside0.mk H
             clear H
             obtain ⟨Ao35, co35, eo35⟩ := Kd.R_slice HO_13.out
             subst eo35
             go_wp2_with (first | ((with_reducible refine gate_callee (f := 19) rfl ?_); refine cl_ (some 74) Tryz.func19 #[.slice A1 l1.length c1, .int .i64 x14_4] ?_; (with_reducible refine (spec_l02High.calls k4 _ _ l1 x14_4 t323 _ ?side1 ?side2 A34.out).mono ?_); (case side1 => exact pC ((Kd.C_below HR1.out HB.out))); (case side2 => exact HC1.out); rintro e w' ⟨rfl, ⟨nd, rfl⟩⟩; refine ⟨_, rfl, ?_⟩) | ((with_reducible refine gate_dst (N := 75) rfl ?_); refine Kd.R_lit k45 _ 45 ?hg (N := 75) ?hd (xs := ([] : List (S45))) (inner := []) (ok := fun _ => True) (okp := fun _ => True) ?hr ?hp (fun _ hk => hk) trivial (Below.refl _ _) (Nat.le_refl _) (by simp) ?_; (case hd => rfl); (case hg => rfl); (case hr => first | (go_simp; done) | (go_simp; rfl)); (case hp => exact (Reps.none _ _)); intro v325 w36 ho37 hb hg_ hnew_; clear hg_ hnew_; (first | rw [← Ny324.out] at ho37 | (simp only [Int.reduceToNat] at ho37; rw [← Ny324.out] at ho37)); replace HO_13 := sR HO_13 hb; have HO326 := Aside0.mk (Kd.R_lower (Kd.R_new' ho37 (Kd.R_lt (pR HO_11))) (below_size (pH HB))); replace HO_11 := Aside0.mk (Kd.R_elder' (pR HO_11) (Kd.R_base ho37) hb); replace BK306 := sB BK306 hb; replace HB := sH HB hb; clear hb ho37))
             go_loopg [17, 18] k4 (fun kq v17 v18 w' => ∃ (x17_5 : List (S45)) (x18_5 : Int), v18 = .int .i64 x18_5 ∧ Aside0 (spec_CancelFaces.l2 kq l1 a3 x11_3 x12_3 x14_4 t323 x17_5 x18_5 a0_0 l0_1 = some (r1, r2)) ∧ Aside0 (kq ≤ k4) ∧ Aside0 (Kd.R k45 45 w' w.heap.size (fun k_ => some k_ ≠ (v17 : Value).ownBlock) u11 x11_3) ∧ Aside0 (Kd.R k45 45 w' w.heap.size (fun k_ => some k_ ≠ (u11 : Value).ownBlock) v17 x17_5) ∧ Aside0 (w'.heap[gb306]? = some (.cells #[.int .i64 a0_0, (.slice A0_1 l0_1.length c0_1)] 31 (0, 0))) ∧ Aside0 (Below w.heap.size w w'))
             case atStart => exact ⟨(y324), (0), (by first | rfl | (simp; done) | (simp [*]; done)), H', ⟨Nat.le_refl _⟩, ⟨by (with_reducible repeat (first | apply Kd.R_alloc | apply Kd.R_drewN | apply Kd.R_drew)); exact Kd.R_mono HO_11.out (fun _ hk => hk.2)⟩, ⟨by (with_reducible repeat (first | apply Kd.R_alloc | apply Kd.R_drewN | apply Kd.R_drew)); exact Kd.R_mono HO326.out (fun _ hk => hk.2)⟩, ⟨pB BK306⟩, ⟨pH HB⟩⟩
             case round =>
              clear H'
              try clear c1
              try clear c2
              try clear p2
              try clear p3
              try clear q3
              try clear hx3
              try clear c6
              try clear p6
              try clear c10
              try clear c10b0
              try clear c10b1
              try clear c14
              try clear c15
              try clear c15b0
              try clear c15b1
              try clear c16
              try clear c18
              try clear c19
              try clear c20
              try clear c20b0
              try clear c20b1
              try clear c23
              try clear c23b0
              try clear c24
              try clear c24b0
              try clear c26
              try clear c26b0
              try clear c26b1
              try clear c29
              try clear c29b0
              try clear c29b1
              try clear p31
              try clear q31
              try clear hx31
              try clear p32
              try clear q32
              try clear hx32
              try clear hcz8_0
              try clear hcz8_1
              try clear hfz8_0
              try clear hfz8_1
              try clear hx318_0
              try clear hx320_0
              try clear hx322_0
              try clear p2
              try clear p318
              try clear p320
              try clear p322
              try clear q318
              try clear q320
              try clear q322
              obtain ⟨x17_5, x18_5, rfl, HA, HK5, HO_11, HO_17, BK306, HB⟩ := hrel
              cases gk with
              | zero => exact absurd HA.out (by simp [spec_CancelFaces.l2])
              | succ k5 =>
               have H := HA.out
               clear HA
               simp only [spec_CancelFaces.l2] at H
               by_cases c38 : x18_5 < (x11_3.length : Int)
               ·rw [if_pos c38] at H
                have c38b0 : decide (x18_5 < (x11_3.length : Int)) = true := decide_eq_true c38
                clear c38
                by_cases c39 : 0 ≤ x18_5
                ·rw [if_pos c39] at H
                 have c39b0 : decide (0 ≤ x18_5) = true := decide_eq_true c39
                 clear c39
                 by_cases c40 : ((rd_T45 x11_3 x18_5).f0) = x14_4
                 ·rw [if_pos c40] at H
                  have c40b0 : (((rd_T45 x11_3 x18_5).f0) == x14_4) = true := beq_iff_eq.mpr c40
                  have c40b1 : (((rd_T45 x11_3 x18_5).f0) != x14_4) = false := bne_eq_false_iff_eq.mpr c40
                  clear c40
                  have H' := Aside0.mk H
                  clear H
                  obtain ⟨Ao41, co41, eo41⟩ := Kd.R_slice HO_11.out
                  subst eo41
                  have p327 : 0 ≤ (x18_5 : Int) := of_decide_eq_true (by first | (with_reducible assumption) | assumption)
                  have q327 : x18_5 < (x11_3.length : Int) := of_decide_eq_true (by first | (with_reducible assumption) | assumption)
                  obtain ⟨ad327, e327, hx327_0, hx327_1⟩ := at_T45 (Kd.R_reads' HO_11.out).2.2 x18_5 p327 q327
                  cases e327
                  replace p327 := eq_true p327
                  replace q327 := eq_true q327
                  go_wp2
                  go_roundg k5
                  case measure => have := HJ5.out; have := HJ12.out; have := HK3.out; have := HK4.out; have := HK5.out; omega
                  case rel => exact ⟨(x17_5), (wrap64 (x18_5 + 1)), (by first | rfl | (simp; done) | (simp [*]; done)), H', ⟨by have := HJ5.out; have := HJ12.out; have := HK3.out; have := HK4.out; have := HK5.out; omega⟩, ⟨by (with_reducible repeat (first | apply Kd.R_alloc | apply Kd.R_drewN | apply Kd.R_drew)); exact HO_11.out⟩, ⟨by (with_reducible repeat (first | apply Kd.R_alloc | apply Kd.R_drewN | apply Kd.R_drew)); exact HO_17.out⟩, ⟨pB BK306⟩, ⟨pH HB⟩⟩
                 ·rw [if_neg c40] at H
                  have c40b0 : (((rd_T45 x11_3 x18_5).f0) == x14_4) = false := beq_eq_false_iff_ne.mpr c40
                  have c40b1 : (((rd_T45 x11_3 x18_5).f0) != x14_4) = true := bne_iff_ne.mpr c40
                  by_cases c42 : x17_5.length < 8796093022208
                  ·rw [if_pos c42] at H
                   have LMc42 := Aside0.mk c42
                   clear c42
                   obtain ⟨y329, hy329⟩ : ∃ y_ : List (S45), y_ = (x17_5 ++ [(⟨(rd_T45 x11_3 x18_5).f0, (rd_T45 x11_3 x18_5).f1⟩ : S45)]) := ⟨_, rfl⟩
                   replace H : (spec_CancelFaces.l2 k5 l1 a3 x11_3 x12_3 x14_4 t323 y329 (wrap64 (x18_5 + 1)) a0_0 l0_1) = some (r1, r2) := by first | (rw [hy329]; with_reducible exact H) | (have H2_ := (Option.bind_some _ _).symm.trans H; rw [hy329]; with_reducible exact H2_) | (have H2_ := (Option.bind_some _ _).symm.trans H; with_reducible exact H2_) | with_reducible exact H | (rw [hy329]; exact H) | exact H
                   have Ny329 := Aside0.mk hy329
                   clear hy329
                   have H' := Aside0.mk H
                   clear H
                   obtain ⟨Ao43, co43, eo43⟩ := Kd.R_slice HO_11.out
                   subst eo43
                   have p327 : 0 ≤ (x18_5 : Int) := of_decide_eq_true (by first | (with_reducible assumption) | assumption)
                   have q327 : x18_5 < (x11_3.length : Int) := of_decide_eq_true (by first | (with_reducible assumption) | assumption)
                   obtain ⟨ad327, e327, hx327_0, hx327_1⟩ := at_T45 (Kd.R_reads' HO_11.out).2.2 x18_5 p327 q327
                   cases e327
                   replace p327 := eq_true p327
                   replace q327 := eq_true q327
                   have p328 : 0 ≤ (x18_5 : Int) := of_decide_eq_true (by first | (with_reducible assumption) | assumption)
                   have q328 : x18_5 < (x11_3.length : Int) := of_decide_eq_true (by first | (with_reducible assumption) | assumption)
                   obtain ⟨ad328, e328, hx328_0, hx328_1⟩ := at_T45 (Kd.R_reads' HO_11.out).2.2 x18_5 p328 q328
                   obtain rfl : ad327 = ad328 := (by injection e328)
                   replace p328 := eq_true p328
                   replace q328 := eq_true q328
                   go_wp2_with (first | ((with_reducible refine gate_builtin (b := .append) (xs := #[.tmp 89, .tmp 94]) rfl ?_); at_builtin; refine Kd.R_append k45 (w0 := w) w.heap.size rfl (.tmp 89) (.tmp 94) 28 45 (.agg #[(.int .i64 0), (.int .i64 0)]) 16 rfl Tryz.underlying28 info45 rfl (by decide) (by omega) u17 x17_5 (⟨(rd_T45 x11_3 x18_5).f0, (rd_T45 x11_3 x18_5).f1⟩ : S45) [.int .i64 ((rd_T45 x11_3 x18_5).f0), .int .i64 ((rd_T45 x11_3 x18_5).f1)] (fun k_ => some k_ ≠ (.slice (some ad327) x11_3.length co43 : Value).ownBlock) (fun _ => False) rfl rfl ?aP (fun _ hk => hk.elim) ?aF ?aO ?aB ?aS ?aL ?_; (case aP => exact k45_mkM _ _ _ (⟨(rd_T45 x11_3 x18_5).f0, (rd_T45 x11_3 x18_5).f1⟩ : S45)); (case aB => exact (pH HB)); (case aF => exact (fun k_ hk => Kd.fresh' (Kd.R_lt (pR HO_11)) k_ hk)); (case aO => exact (pR HO_17)); (case aS => exact (below_size (pH HB))); (case aL => have := LMc42.out; omega); intro v330 w44 ho hb hg hat; rw [← Ny329.out] at ho; have n0_ := Aside0.mk (Kd.R_after (ok := (fun _ => True)) (by (with_reducible repeat (first | apply Kd.R_alloc | apply Kd.R_drewN | apply Kd.R_drew)); exact Kd.R_mono HO_11.out (fun _ hk => ⟨trivial, hk⟩)) hg hat); have n1_ := Aside0.mk (blk_grown (g := gb306) (o := .cells #[.int .i64 a0_0, .slice A0_1 l0_1.length c0_1] 31 (0, 0)) (pB BK306) hg (Kd.R_ne HO_17.out BK306.out (by decide))); have n2_ := Aside0.mk (hb); have n3_ := Aside0.mk (ho); clear HO_11; clear BK306; clear HB; clear HO_17; have HO_11 := n0_; have BK306 := n1_; have HB := n2_; have HO331 := n3_; clear n0_ n1_ n2_ n3_; clear ho hb hg hat))
                   go_roundg k5
                   case measure => have := HJ5.out; have := HJ12.out; have := HK3.out; have := HK4.out; have := HK5.out; omega
                   case rel => exact ⟨(y329), (wrap64 (x18_5 + 1)), (by first | rfl | (simp; done) | (simp [*]; done)), H', ⟨by have := HJ5.out; have := HJ12.out; have := HK3.out; have := HK4.out; have := HK5.out; omega⟩, ⟨by (with_reducible repeat (first | apply Kd.R_alloc | apply Kd.R_drewN | apply Kd.R_drew)); exact Kd.R_mono HO_11.out (fun _ hk => hk.2)⟩, ⟨by (with_reducible repeat (first | apply Kd.R_alloc | apply Kd.R_drewN | apply Kd.R_drew)); exact HO331.out⟩, ⟨pB BK306⟩, ⟨pH HB⟩⟩
                  ·rw [if_neg c42] at H
                   exact absurd H (by simp)
                ·rw [if_neg c39] at H
                 exact absurd H (by simp)
               ·rw [if_neg c38] at H
                have c38b0 : decide (x18_5 < (x11_3.length : Int)) = false := decide_eq_false c38
                clear c38
                replace H := Option.bind_eq_some_iff.mp H
                obtain ⟨⟨t332, t335⟩, A450, H⟩ := H
                try dsimp only at H
                have A45 := Aside0.mk A450
                clear A450
                have H' := Aside0.mk H
                clear H
                obtain ⟨Ao46, co46, eo46⟩ := Kd.R_slice HO_11.out
                subst eo46
                have hcz47_0 : wr.cell? ⟨gb306, 0, none⟩ = some (.int .i64 a0_0) := cB BK306 0
                have hcz47_1 : wr.cell? ⟨gb306, 1, none⟩ = some (.slice A0_1 l0_1.length c0_1) := cB BK306 1
                have hfz47_0 := zB BK306 0
                have hfz47_1 := zB BK306 1
                obtain ⟨Ao48, co48, eo48⟩ := Kd.R_slice HO_17.out
                subst eo48
                go_wp2_with (first | ((with_reducible refine gate_callee (f := 21) rfl ?_); refine cl_ (some 102) Tryz.func21 #[.agg #[.int .i64 a0_0, .slice A0_1 l0_1.length c0_1], .slice Ao48 x17_5.length co48, .agg #[.int .i64 x14_4, .int .i64 x12_3]] ?_; (with_reducible refine (spec_l02With.calls k5 a0_0 _ _ l0_1 _ _ x17_5 x14_4 x12_3 t332 t335 _ ?side1 ?side2 ?side3 ?side4 A45.out).mono ?_); (case side1 => exact pC ((Kd.C_below HR0_1.out HB.out))); (case side2 => exact HC0_1.out); (case side3 => exact pC ((Kd.R_reads' HO_17.out).2.2)); (case side4 => exact (Kd.R_reads' HO_17.out).2.1); rintro e w49 ⟨v333, rfl, ho0, hb⟩; refine ⟨_, rfl, ?_⟩; have HO334 := Aside0.mk (Kd.R_lower (Kd.R_new' (Kd.R_new' ho0 (Kd.R_lt (pR HO_11))) (Kd.R_lt (pR HO_17))) (below_size (pH HB))); replace HO_11 := Aside0.mk (Kd.R_elder' (pR HO_11) (Kd.R_base ho0) hb); replace HO_17 := Aside0.mk (Kd.R_elder' (pR HO_17) (Kd.R_base ho0) hb); replace BK306 := sB BK306 hb; replace HB := sH HB hb; (try clear hb); (try clear hi); (try clear ho0)))
                go_roundg k5
                case measure => have := HJ5.out; have := HJ12.out; have := HK3.out; have := HK4.out; have := HK5.out; omega
                case rel => exact ⟨(t332), (t323), (by first | rfl | (simp; done) | (simp [*]; done)), H', ⟨by have := HJ5.out; have := HJ12.out; have := HK3.out; have := HK4.out; have := HK5.out; omega⟩, ⟨by (with_reducible repeat (first | apply Kd.R_alloc | apply Kd.R_drewN | apply Kd.R_drew)); exact Kd.R_mono HO334.out (fun _ hk => trivial)⟩, ⟨pB BK306⟩, ⟨pH HB⟩⟩
      ·rw [if_neg c16] at H
       exact absurd H (by simp)
     ·rw [if_neg c15] at H
      have c15b0 : (x10_12 == 0) = false := beq_eq_false_iff_ne.mpr c15
      have c15b1 : (x10_12 != 0) = true := bne_iff_ne.mpr c15
      simp only [Option.some.injEq, Prod.mk.injEq] at H
      obtain ⟨rfl, rfl⟩ := H
      go_wp2
      go_ret2
      exact ⟨_, by first | rfl | (simp [errW_none, errW_some] <;> rfl) | (simp [*, errW_none, errW_some] <;> rfl) | (exfalso; simp_all), by first | exact Kd.R_nil _ _ _ _ _ | exact Kd.N_nil _ _ _ _ _ | exact Kd.V_nil _ _ _ _ _ | exact Kd.Q_nil _ _ _ _ _ | exact Kd.S_nil _ _ _ _ _, pH HB⟩
end Go.Proofs.YtdnbmobdiidfmaaGreat.QS
namespace Go.Proofs.YtdnbmobdiidfmaaGreat.Pu
open Go.RowKit Kp Ext QS Im YtdnbmobdiidfmaaGreatW.PrintWords YtdnbmobdiidfmaaGreatW.PrintLast YtdnbmobdiidfmaaGreatW.PrintMore
theorem ev_onlyWay {n : Int} {xs : List Int} (hi : isC n xs = true) {l : List Pr} (hp : pairingB xs l = true) (hac : ∀ x, ¬ Rch l x x) (a : Int) : ∀ (m : Nat) (x : Int), m ≤ 1000000 → rankC l x < m → TW l a x = 1 → Ev (fun k => QC.impl_onlyWay.f k l x a) (wayW l a m x)
  | 0, x, _, h, _ => absurd h (Nat.not_lt_zero _)
  | m + 1, x, hm, h, h1 => by
    have hr := facesP_of hi hp
    have hl := pairing_len hi hp
    by_cases hx : x = a
    · rw [wayW, if_pos hx]
      refine Ev.step (f := fun _ => some [a]) (fun k => ?_) (Ev.now _)
      simp only [QC.impl_onlyWay.f]
      rw [if_pos hx, hx]
    · obtain ⟨A, y, B, hn, hy, ha, hb⟩ := next_one hi hp hac a hx h1
      rw [wayW, if_neg hx]
      have hyn : y ∈ nextZ l x := by rw [hn]; simp
      have hrk := rank_ltC hr hyn (hac y)
      have ih := ev_onlyWay hi hp hac a m y (by omega) (by omega) hy
      have hw := (way_props hi hp hac a m y (by omega) hy).2.2
      have hs : impl_steps.f l x = some (nextZ l x) := steps_f (by omega) hr x
      have hlen := nextZ_len (l := l) (a := x)
      rw [hn, find_one hy ha]
      rw [hn] at hs hlen
      have hcw : ∀ z, impl_countWays.f l z a = some (TW l a z) := fun z => impl_countWays.come l z a (ev_countW hi hp hac a _ z (Nat.lt_succ_self _))
      have hAl : A.length < (A ++ y :: B).length := by simp
      have loop : ∀ d (i : Nat), A.length - i = d → i ≤ A.length → Ev (fun k => QC.impl_onlyWay.l0 k l x a (A ++ y :: B) ((A ++ y :: B).length : Int) i) (x :: wayW l a m y) := by
        intro d
        induction d with
        | zero =>
          intro i hd hi2
          obtain rfl : i = A.length := by omega
          have hat : (A ++ y :: B)[A.length] = y := by simp
          refine Ev.step (f := fun k => (QC.impl_onlyWay.f k l y a).bind fun t112 => if ([x] : List Int).length + t112.length < 17592186044416 then some ([x] ++ t112) else none) (fun k => ?_) (Ev.bind ih ?_)
          · simp only [QC.impl_onlyWay.l0]
            rw [if_pos (by omega), if_pos (by omega), if_pos (by omega), rd_at hAl, hat, hcw, Option.bind_some, if_pos (by omega), Option.bind_some]
          · rw [if_pos (by simp only [List.length_cons, List.length_nil]; omega)]
            exact Ev.now _
        | succ d ihd =>
          intro i hd hi2
          have hi' : i < A.length := by omega
          have hi3 : i < (A ++ y :: B).length := by omega
          have hat : (A ++ y :: B)[i] = A[i] := List.getElem_append_left hi'
          refine Ev.step (fun k => ?_) (ihd (i + 1) (by omega) (by omega))
          simp only [QC.impl_onlyWay.l0]
          rw [if_pos (by omega), if_pos (by omega), if_pos (by omega), rd_at hi3, hat, hcw, Option.bind_some, ha _ (List.getElem_mem hi'), if_neg (by omega), succ64 (by omega)]
      refine Ev.step (f := fun k => QC.impl_onlyWay.l0 k l x a (A ++ y :: B) ((A ++ y :: B).length : Int) 0) (fun k => ?_) (loop _ 0 rfl (Nat.zero_le _))
      simp only [QC.impl_onlyWay.f]
      rw [if_neg hx, hs]
      rfl
theorem ref_l2 {n : Int} {xs : List Int} (hi : isC n xs = true) {l : List Pr} (a : Int) {out : List Pr} (hs : SortedP out) (ho : out.length ≤ 900000) (high face next : Int) (R : List Pr × Int)
    (hR : Ev (fun k => spec_CancelFaces.l0 k l a (swapP out ⟨face, high⟩) next n xs) R) :
    ∀ d (i : Nat), out.length - i = d → i ≤ out.length → Ev (fun k => spec_CancelFaces.l2 k l a out high face next ((out.take i).filter fun q => !(q.f0 == face)) (i : Int) n xs) R := by
  intro d
  induction d with
  | zero =>
    intro i hd hi2
    rw [List.take_of_length_le (by omega)]
    refine Ev.step (f := fun k => (spec_l02With.f k n xs (out.filter fun q => !(q.f0 == face)) face high).bind fun bt => spec_CancelFaces.l0 k l a bt.1 next n xs) (fun k => ?_) ?_
    · simp only [spec_CancelFaces.l2]
      rw [if_neg (by omega)]
    · exact Ev.bind (ev_with hi (List.Pairwise.sublist List.filter_sublist hs) (Nat.le_trans (List.length_filter_le _ _) (by omega)) ⟨face, high⟩) hR
  | succ d ihd =>
    intro i hd hi2
    have hi' : i < out.length := by omega
    have ih := ihd (i + 1) (by omega) (by omega)
    rw [List.take_succ_eq_append_getElem hi', List.filter_append] at ih
    by_cases hf : out[i].f0 = face
    · rw [List.filter_cons_of_neg (by simp [hf]), List.filter_nil, List.append_nil] at ih
      refine Ev.step (fun k => ?_) ih
      simp only [spec_CancelFaces.l2]
      rw [if_pos (by omega), if_pos (by omega), rdP_at hi', if_pos hf, succ64 (by omega)]
    · rw [List.filter_cons_of_pos (by simp [hf]), List.filter_nil] at ih
      refine Ev.step (fun k => ?_) ih
      simp only [spec_CancelFaces.l2]
      rw [if_pos (by omega), if_pos (by omega), rdP_at hi', if_neg hf, if_pos (Nat.lt_of_le_of_lt (List.length_filter_le _ _) (by rw [List.length_take]; omega)), succ64 (by omega)]
theorem ref_step {n : Int} {xs : List Int} (hi : isC n xs = true) {l : List Pr} (hp : pairingB xs l = true) (hac : ∀ x, ¬ Rch l x x) (a : Int) (ha0 : highZ l a = 0) {out : List Pr} (hs : SortedP out) (ho : out.length ≤ 900000) {high : Int} (h1 : 1 ≤ high) (h63 : high ≤ 63) (R : List Pr × Int)
    (hR : Ev (fun k => spec_CancelFaces.l0 k l a (swapP out ⟨faceR l a high, high⟩) (highZ l (faceR l a high)) n xs) R) : Ev (fun k => spec_CancelFaces.l0 k l a out high n xs) R := by
  have hl := pairing_len hi hp
  have hlen := borders_len6 (f := high)
  refine Ev.step (f := fun k => (spec_l01Below.f k high).bind fun t => spec_CancelFaces.l1 k l a out high t 0 0 n xs) (fun k => ?_) (Ev.bind (ev_below h1 h63) ?_)
  · simp only [spec_CancelFaces.l0]
    rw [if_neg (by omega)]
  unfold faceR at hR
  generalize bordersL high = L at hlen hR
  have loop : ∀ d (i : Nat), L.length - i = d → i ≤ L.length → Ev (fun k => spec_CancelFaces.l1 k l a out high L ((L.take i).foldl (fun s y => if !(highZ l y == high) && TW l a y == 1 then y else s) 0) (i : Int) n xs) R := by
    intro d
    induction d with
    | zero =>
      intro i hd hi2
      rw [List.take_of_length_le (by omega)]
      generalize L.foldl (fun s y => if !(highZ l y == high) && TW l a y == 1 then y else s) 0 = face at hR ⊢
      refine Ev.step (f := fun k => (spec_l02High.f k l face).bind fun t => spec_CancelFaces.l2 k l a out high face t [] 0 n xs) (fun k => ?_) (Ev.bind (ev_high (by omega) face) ?_)
      · simp only [spec_CancelFaces.l1]
        rw [if_neg (by omega)]
      · exact ref_l2 hi a hs ho high face _ R hR _ 0 rfl (Nat.zero_le _)
    | succ d ihd =>
      intro i hd hi2
      have hi' : i < L.length := by omega
      have ih := ihd (i + 1) (by omega) (by omega)
      rw [List.take_succ_eq_append_getElem hi', List.foldl_append, List.foldl_cons, List.foldl_nil] at ih
      generalize (L.take i).foldl (fun s y => if !(highZ l y == high) && TW l a y == 1 then y else s) 0 = face at ih ⊢
      refine Ev.step (f := fun k => (spec_l02High.f k l L[i]).bind fun t319 => if t319 = high then spec_CancelFaces.l1 k l a out high L face ((i + 1 : Nat) : Int) n xs else (spec_l02Ways.f k l L[i] a).bind fun t321 => if t321 = 1 then spec_CancelFaces.l1 k l a out high L L[i] ((i + 1 : Nat) : Int) n xs else spec_CancelFaces.l1 k l a out high L face ((i + 1 : Nat) : Int) n xs) (fun k => ?_) (Ev.bind (ev_high (by omega) L[i]) ?_)
      · simp only [spec_CancelFaces.l1]
        rw [if_pos (by omega), if_pos (by omega), rd_at hi', succ64 (by omega)]
      · by_cases hh : highZ l L[i] = high
        · simp only [if_pos hh]
          rw [if_neg (by simp [hh])] at ih
          exact ih
        · simp only [if_neg hh]
          refine Ev.bind (ev_waysW hi hp hac a ha0 _ L[i] (Nat.lt_succ_self _)) ?_
          by_cases ht : TW l a L[i] = 1
          · simp only [if_pos ht]
            rw [if_pos (by simp [hh, ht])] at ih
            exact ih
          · simp only [if_neg ht]
            rw [if_neg (by simp [hh, ht])] at ih
            exact ih
  have := loop _ 0 rfl (Nat.zero_le _)
  simpa using this
theorem ev_refL {n : Int} {xs : List Int} (hi : isC n xs = true) {l : List Pr} (hp : pairingB xs l = true) (hac : ∀ x, ¬ Rch l x x) (a : Int) (ha0 : highZ l a = 0) : ∀ (m : Nat) (x : Int) (out : List Pr) (high : Int), rankC l x < m → TW l a x = 1 → 1 ≤ high → high ≤ 63 → faceR l a high = x → SortedP out → out.length + m ≤ 800000 → Ev (fun k => spec_CancelFaces.l0 k l a out high n xs) (refW l a (m + 1) out high, 0)
  | 0, x, _, _, h, _, _, _, _, _, _ => absurd h (Nat.not_lt_zero _)
  | m + 1, x, out, high, h, h1, hh1, hh2, hf, hs, ho => by
    have hr := facesP_of hi hp
    have hsl := swap_len out ⟨x, high⟩
    rw [refW, if_neg (by omega)]
    refine ref_step hi hp hac a ha0 hs (by omega) hh1 hh2 _ ?_
    rw [hf]
    by_cases hx : x = a
    · subst hx
      rw [ha0, refW, if_pos rfl]
      refine Ev.step (f := fun _ => some (swapP out ⟨x, high⟩, 0)) (fun k => ?_) (Ev.now _)
      simp only [spec_CancelFaces.l0]
      rw [if_pos trivial]
    · obtain ⟨A, y, B, hn, hy, ha, hb⟩ := next_one hi hp hac a hx h1
      have hyn : y ∈ nextZ l x := by rw [hn]; simp
      have hh := (next_high hyn).1
      have hrg := highZ_range hr x
      exact ev_refL hi hp hac a ha0 m y _ _ (by have := rank_ltC hr hyn (hac y); omega) hy (by omega) (by omega) (face_next hp a hn hy ha hb) (swap_sorted hs _) (by omega)
def waysI (l : List Pr) (b a : Int) : Int := sumW ((bordersL b).map (TW l a))
def wayI (l : List Pr) (b a : Int) : List Int := wayW l a 64 (faceR l a b)
def cancelI (n : Int) (xs : List Int) (l : List Pr) (b a : Int) : List Pr × Int :=
  if gcode n xs l b a = 0 then (if waysI l b a = 1 then ((prsOf l b (wayI l b a)).foldl swapP l, 0) else ([], 5)) else ([], gcode n xs l b a)
theorem crit_high {l : List Pr} {f : Int} (h : critP l f = true) : highZ l f = 0 ∧ ∀ y, 1 ≤ f → highZ l y ≠ f := by
  unfold critP at h
  have h2 : ∀ q ∈ l, q.f0 ≠ f ∧ q.f1 ≠ f := fun q hq => by
    have h3 : l.any (fun p => p.f0 == f || p.f1 == f) = false := by simpa using h
    have := List.any_eq_false.1 h3 q hq
    simpa using this
  refine ⟨?_, fun y hf e => ?_⟩
  · by_cases h0 : highZ l f = 0
    · exact h0
    · obtain ⟨q, hq, h3, _⟩ := high_mem h0
      exact absurd h3 (h2 q hq).1
  · obtain ⟨q, hq, _, h4⟩ := high_mem (l := l) (x := y) (by omega)
    exact (h2 q hq).2 (by rw [h4, e])
theorem gcode_zero {n : Int} {xs : List Int} {l : List Pr} (hl : l.length ≤ 1048576) {b a : Int} (h : gcode n xs l b a = 0) :
    isC n xs = true ∧ pairingB xs l = true ∧ (∀ x, ¬ Rch l x x) ∧ (1 ≤ b ∧ b ≤ 63) ∧ highZ l a = 0 ∧ ∀ y, highZ l y ≠ b := by
  have hp : pcode n xs l = 0 := by
    unfold gcode at h
    by_cases h0 : pcode n xs l = 0
    · exact h0
    · rw [if_neg h0] at h; exact absurd h h0
  obtain ⟨hi, hpa⟩ := pcode_zero hp
  have hF := facesP_of hi hpa
  have hb : besideB xs l b a = true ∧ acycB l = true := by
    unfold gcode at h
    rw [if_pos hp] at h
    cases h1 : besideB xs l b a <;> cases h2 : acycB l <;> simp [h1, h2] at h ⊢
  have h1 := hb.1
  unfold besideB at h1
  simp only [Bool.and_eq_true, decide_eq_true_eq] at h1
  have hbb := isC_63 hi b (List.mem_filter.1 h1.1).1
  exact ⟨hi, hpa, no_loop hl hF hb.2, by omega, (crit_high (List.mem_filter.1 h1.2.1).2).1, fun y => (crit_high (List.mem_filter.1 h1.1).2).2 y (by omega)⟩
theorem first_one {n : Int} {xs : List Int} (hi : isC n xs = true) {l : List Pr} (hp : pairingB xs l = true) (hac : ∀ x, ¬ Rch l x x) {b a : Int} (hb : ∀ y, highZ l y ≠ b) (h1 : waysI l b a = 1) :
    ∃ A y B, bordersL b = A ++ y :: B ∧ TW l a y = 1 ∧ (∀ z ∈ A, TW l a z = 0) ∧ faceR l a b = y := by
  obtain ⟨A, y, B, hn, hy, ha, hb2⟩ := sumW_one (fun y _ => (TW_range hi hp hac a y).1) h1
  refine ⟨A, y, B, hn, hy, ha, ?_⟩
  unfold faceR
  rw [foldl_filter (p := fun y => !(highZ l y == b)) (q := fun y => TW l a y == 1), List.filter_eq_self.2 (fun z _ => by simp [hb z]), hn]
  exact foldl_one hy ha hb2
theorem ev_specCF (n : Int) {xs : List Int} (hx : xs.length ≤ 1048576) {l : List Pr} (hl : l.length ≤ 1048576) (b a : Int) : Ev (fun k => spec_CancelFaces.f k n xs l b a) (cancelI n xs l b a) := by
  unfold spec_CancelFaces.f cancelI
  refine Ev.bind (ev_given n hx hl b a) ?_
  by_cases h : gcode n xs l b a = 0
  · simp only [h, if_true]
    obtain ⟨hi, hp, hac, hb, ha0, hbn⟩ := gcode_zero hl h
    have hll := pairing_len hi hp
    refine Ev.bind (ev_betweenS hi hp hac a ha0 hb) ?_
    show Ev (fun k => spec_CancelFaces.j0 k l b a 0 (waysI l b a != 1) n xs) _
    by_cases h1 : waysI l b a = 1
    · rw [if_pos h1, show (waysI l b a != 1) = false by simp [h1]]
      obtain ⟨A, y, B, hn, hy, ha, hf⟩ := first_one hi hp hac hbn h1
      refine Ev.step (f := fun k => spec_CancelFaces.j1 k l b a 0 n xs) (fun k => by simp only [spec_CancelFaces.j0]; rw [if_neg Bool.false_ne_true]) ?_
      refine Ev.step (f := fun k => spec_CancelFaces.l0 k l a ([] ++ l) b n xs) (fun k => ?_) ?_
      · simp only [spec_CancelFaces.j1]
        rw [if_pos trivial, Option.bind_some, if_pos (by simp only [List.length_nil]; omega)]
      · rw [List.nil_append]
        have h20 := rank_20 hi hp y
        have h2 := ev_refL hi hp hac a ha0 64 y l b (by omega) hy hb.1 hb.2 hf (sorted_of hp) (by omega)
        rw [ref_way hi hp hac a ha0 64 y l b (by omega) hy (by omega) hf] at h2
        unfold wayI
        rw [hf]
        exact h2
    · rw [if_neg h1, show (waysI l b a != 1) = true by simp [h1]]
      refine Ev.step (f := fun k => spec_CancelFaces.j1 k l b a 5 n xs) (fun k => by simp only [spec_CancelFaces.j0, if_true]) ?_
      refine Ev.step (f := fun _ => some ([], 5)) (fun k => ?_) (Ev.now _)
      simp only [spec_CancelFaces.j1]
      rw [if_neg (by decide)]
  · simp only [h, if_false]
    refine Ev.step (f := fun k => spec_CancelFaces.j1 k l b a (gcode n xs l b a) n xs) (fun k => by simp only [spec_CancelFaces.j0]; rw [if_neg Bool.false_ne_true]) ?_
    refine Ev.step (f := fun _ => some ([], gcode n xs l b a)) (fun k => ?_) (Ev.now _)
    simp only [spec_CancelFaces.j1]
    rw [if_neg h]
end Go.Proofs.YtdnbmobdiidfmaaGreat.Pu
namespace Go.Proofs.YtdnbmobdiidfmaaGreat.Im
open Go.RowKit Go.Shelf Cw YtdnbmobdiidfmaaGreatW.PrintWords YtdnbmobdiidfmaaGreatW.PrintLast YtdnbmobdiidfmaaGreatW.PrintMore
def kV : Kd Value where
  sz := 1
  E := []
  K := fun _ x cs => cs = [x] ∧ x.oneCell' = true
  M := fun _ _ _ x cs => cs = [x] ∧ x.oneCell' = true
  K_len := by rintro w x cs ⟨rfl, _⟩; rfl
  K_one := by rintro w x cs ⟨rfl, h⟩ u hu; rw [List.mem_singleton.1 hu]; exact h
  K_below := fun _ h => h
  K_of_M := fun h => h
  M_mono := fun _ h => h
  M_bound := fun h => h
  M_move := fun _ h => h
  M_lower := fun _ h => h
abbrev VO (w : World) (base : Nat) (v : Value) (vs : List Value) : Prop := Kd.R kV 22 w base (fun _ => True) v vs
section
variable {ops : Array Oper} {rest : List Oper} {o : Oper} {a : Act} {Q : Exit → Act → World → Prop}
end
theorem VO.slice {w : World} {base : Nat} {v : Value} {vs : List Value} (h : VO w base v vs) : ∃ A c, v = .slice A vs.length c := Kd.R_slice h
theorem VO.reads {w : World} {base : Nat} {A : Option Addr} {n c : Nat} {vs : List Value} (h : VO w base (.slice A n c) vs) : n = vs.length ∧ n ≤ c ∧ Kd.C kV w A vs.length vs := Kd.R_reads' h
theorem VC.cell {w : World} {A : Option Addr} {n : Nat} {vs : List Value} (h : Kd.C kV w A n vs) {i : Nat} (hi : i < vs.length) : ∃ ad, A = some ad ∧ w.cell? (ad.add i) = some vs[i] := by
  obtain ⟨ad, c, hA, _, ⟨rfl, _⟩, hc⟩ := Kd.C_get h (.slice none 0 0) (i : Int) (by omega) (by have := h.1; omega)
  refine ⟨ad, hA, ?_⟩
  have := hc 0 _ rfl
  rw [show ((i : Int)).toNat * kV.sz + 0 = i by simp [kV], show ((i : Int)).toNat = i by omega, List.getD_eq_getElem?_getD, List.getElem?_eq_getElem hi] at this
  exact this
theorem VO.made (w : World) (base cap : Nat) (cur : Array Value) (hb : base ≤ w.heap.size) (hm : cap ≤ maxLen) (hs : cur.size = cap) : VO (w.alloc (.cells cur 22)) base (.slice (some ⟨w.heap.size, 0, none⟩) 0 cap) [] :=
  ⟨fun _ _ => trivial, [], World.ownsRow_made w cur cap hb hm (by rw [hs]; exact (Nat.mul_one _).symm), Reps.none _ _⟩
theorem VO.one (w : World) (base : Nat) (u : Value) (hu : u.oneCell' = true) (hb : base ≤ w.heap.size) : VO (w.alloc (.cells #[u] 22)) base (.slice (some ⟨w.heap.size, 0, none⟩) 1 1) [u] := by
  refine ⟨fun _ _ => trivial, [u], ⟨rfl, .inr ⟨w.heap.size, 1, #[u], rfl, hb, heap_alloc_new w _, Nat.le_refl _, by simp [maxLen], rfl, rfl⟩⟩, rfl, fun j p hj => ?_⟩
  rcases j with _ | j
  · obtain rfl : u = p := by simpa using hj
    exact ⟨rfl, hu⟩
  · simp at hj
theorem VC.none (w : World) (A : Option Addr) : Kd.C kV w A 0 [] := ⟨rfl, by simp, fun h => absurd h (Nat.lt_irrefl _)⟩
def VI (w : World) (base : Nat) (vs : List Value) (M : List (List Int)) : Prop := vs.length = M.length ∧ ∀ i (h1 : i < vs.length) (h2 : i < M.length), RO w base vs[i] M[i]
section
variable {w w1 : World} {base base' : Nat} {vs : List Value} {M : List (List Int)}
theorem RO.moveI {v : Value} {xs : List Int} (h : RO w base v xs) (hm : ∀ (k : Nat) (cells : Array Value), w.heap[k]? = some (.cells cells 2 (0, 0)) → w1.heap[k]? = w.heap[k]?) : RO w1 base v xs :=
  Kd.R_mono (Kd.R_step (Kd.R_bound h) (fun k ho _ => by
    obtain ⟨_, _, _, q, hq, cells, hc⟩ := ho
    have hq' : q = 2 := by simpa [Kd.int, Kd.scalar] using hq
    subst hq'
    exact hm k cells hc)) (fun _ _ => trivial)
theorem VI.nil (w : World) (base : Nat) : VI w base [] [] := ⟨rfl, fun i h => absurd h (Nat.not_lt_zero _)⟩
theorem VI.move (h : VI w base vs M) (hm : ∀ (k : Nat) (cells : Array Value), w.heap[k]? = some (.cells cells 2 (0, 0)) → w1.heap[k]? = w.heap[k]?) : VI w1 base vs M := ⟨h.1, fun i h1 h2 => RO.moveI (h.2 i h1 h2) hm⟩
theorem VI.below (h : VI w base vs M) (hb : Below w.heap.size w w1) : VI w1 base vs M := h.move fun k cells hk => hb.block k (blk_lt hk)
theorem VI.take (h : VI w base vs M) (m : Nat) : VI w base (vs.take m) (M.take m) := ⟨by rw [List.length_take, List.length_take, h.1], fun i h1 h2 => by
  rw [List.getElem_take, List.getElem_take]
  exact h.2 i _ _⟩
theorem VI.drop (h : VI w base vs M) (m : Nat) : VI w base (vs.drop m) (M.drop m) := ⟨by rw [List.length_drop, List.length_drop, h.1], fun i h1 h2 => by
  rw [List.getElem_drop, List.getElem_drop]
  exact h.2 _ _ _⟩
theorem VI.append {us : List Value} {N : List (List Int)} (h : VI w base vs M) (h' : VI w base us N) : VI w base (vs ++ us) (M ++ N) := ⟨by rw [List.length_append, List.length_append, h.1, h'.1], fun i h1 h2 => by
  by_cases hi : i < vs.length
  · rw [List.getElem_append_left hi, List.getElem_append_left (by rw [← h.1]; exact hi)]
    exact h.2 i _ _
  · rw [List.getElem_append_right (by omega), List.getElem_append_right (by rw [← h.1]; omega)]
    simp only [h.1]
    exact h'.2 _ (by rw [List.length_append] at h1; have := h.1; omega) _⟩
theorem VI.one {v : Value} {xs : List Int} (h : RO w base v xs) : VI w base [v] [xs] := ⟨rfl, fun i h1 h2 => by
  obtain rfl : i = 0 := by simp at h1; exact h1
  exact h⟩
theorem VI.grown {base2 : Nat} {v : Value} {us : List Value} (h : VI w base vs M) (ho : VO w base2 v us) (hg : w.grownBy w1 v.ownBlock) : VI w1 base vs M := h.move fun k cells hk => hg.block k (blk_lt hk) (fun e => by
  obtain ⟨inner, hown⟩ := Kd.R_own ho
  obtain ⟨cs, hc⟩ := own_typed hown k e.symm
  rw [hk] at hc
  injection hc with hc
  injection hc with _ hc
  revert hc
  decide)
end
end Go.Proofs.YtdnbmobdiidfmaaGreat.Im
namespace Go.Proofs.YtdnbmobdiidfmaaGreat.Im
open Go.RowKit Go.Shelf Kp Cw Ext Pu YtdnbmobdiidfmaaGreatW.PrintWords YtdnbmobdiidfmaaGreatW.PrintLast YtdnbmobdiidfmaaGreatW.PrintMore
theorem one_row {w : World} {vb : Nat} {x y : Int} (h : PrAt w vb x y) : Kd.C k45 w (some ⟨vb, 0, none⟩) 1 [⟨x, y⟩] := by
  refine ⟨rfl, by omega, fun _ => ⟨⟨vb, 0, none⟩, rfl, fun j p hj => ⟨fl [p], rfl, k45_mk w p, fun k u hu => ?_⟩⟩⟩
  have hj0 : j = 0 := by
    rcases j with _ | j
    · rfl
    · simp at hj
  subst hj0
  obtain rfl : (⟨x, y⟩ : Pr) = p := by simpa using hj
  simpa using cells_src (w := w) (L := [.int .i64 x, .int .i64 y]) (a := 0) h rfl k u hu
theorem PO.ne_block {w : World} {base : Nat} {v : Value} {vs : List Pr} (h : PO w base v vs) {g t : Nat} {cells : Array Value} (hg : w.heap[g]? = some (.cells cells t (0, 0))) (ht : t ≠ 45) : some g ≠ v.ownBlock := fun e => by
  obtain ⟨inner, hown⟩ := Kd.R_own h
  obtain ⟨cs, hc2⟩ := own_typed hown g e.symm
  rw [hg] at hc2
  injection hc2 with hc2
  injection hc2 with _ hc2
  exact ht hc2
def hiA (l : List Pr) : Int → List Int → Int
  | h, [] => h
  | h, f :: w => hiA l (if highZ l f = 0 then h else highZ l f) w
theorem hiA_snoc (l : List Pr) : ∀ (w : List Int) (h f : Int), hiA l h (w ++ [f]) = if highZ l f = 0 then hiA l h w else highZ l f
  | [], h, f => rfl
  | g :: w, h, f => by rw [List.cons_append, hiA, hiA_snoc l w]; rfl
theorem prs_snoc (l : List Pr) : ∀ (w : List Int) (h f : Int), prsOf l h (w ++ [f]) = prsOf l h w ++ [⟨f, hiA l h w⟩]
  | [], h, f => rfl
  | g :: w, h, f => by rw [List.cons_append, prsOf, prs_snoc l w]; rfl
theorem cl2_f (b : Nat) (f : Int) (w : World) (hb : w.heap[b]? = some (.cells #[.int .i64 f] 2 (0, 0))) : FnP Tryz.prog (.func (.func 32) #[] #[.pointer (some ⟨b, 0, none⟩)]) (fun _ => True) (fun q => q.f0 == f) w := by
  refine ⟨_, _, _, rfl, enters_of Tryz.func32 (by kernel_rfl) rfl, fun W x hW _ => ?_⟩
  have hb' := (hW.block _ (blk_lt hb)).trans hb
  clear hb hW
  have HP := Aside0.mk (PrAt.new W x.f0 x.f1)
  have hx0 := HP.out.c0
  have hbl := below_alloc (Below.refl W.heap.size W) (.cells #[.int .i64 x.f0, .int .i64 x.f1] 45)
  have hf : (W.alloc (.cells #[.int .i64 x.f0, .int .i64 x.f1] 45)).cell? ⟨b, 0, none⟩ = some (.int .i64 f) := blk_cell ((hbl.block _ (blk_lt hb')).trans hb') 0
  have HB := Aside0.mk hbl
  clear hb' hbl
  go_enter Tryz.func32, Tryz.ntmps32
  go_wp2
  go_ret
  exact ⟨rfl, HB.out⟩
theorem cl1_f (b1 b2 : Nat) (A : Option Addr) (c : Nat) (l : List Pr) (a : Int) (w : World) (hb1 : w.heap[b1]? = some (.cells #[.slice A l.length c] 28 (0, 0))) (hb2 : w.heap[b2]? = some (.cells #[.int .i64 a] 2 (0, 0))) (hr : Kd.C k45 w A l.length l) (hc : l.length ≤ c)
    (hw : ∀ f, impl_countWays.f l f a = some (TW l a f)) : FnB Tryz.prog (.func (.func 28) #[] #[.pointer (some ⟨b1, 0, none⟩), .pointer (some ⟨b2, 0, none⟩)]) (fun _ => True) (fun f => decide (TW l a f > 0)) w := by
  refine ⟨_, _, _, rfl, enters_of Tryz.func28 (by kernel_rfl) rfl, fun W x hW _ => ?_⟩
  have hb1' := (hW.block _ (blk_lt hb1)).trans hb1
  have hb2' := (hW.block _ (blk_lt hb2)).trans hb2
  have HR := Aside0.mk (Kd.C_below hr hW)
  have HC := Aside0.mk hc
  have HW := Aside0.mk (hw x)
  have hx0 := blk_cell hb1' 0
  have hx1 := blk_cell hb2' 0
  simp only [List.getElem?_toArray, List.getElem?_cons_zero] at hx0 hx1
  show Calls Tryz.prog 28 #[.int .i64 x, .pointer (some ⟨b1, 0, none⟩), .pointer (some ⟨b2, 0, none⟩)] W fun e w' => e = .returned (.bool (decide (TW l a x > 0))) ∧ Below W.heap.size W w'
  generalize TW l a x = t at HW ⊢
  clear hb1 hb2 hr hc hw hW hb1' hb2'
  go_enter Tryz.func28, Tryz.ntmps28
  go_wp2_with (go_at_call 29; refine (impl_countWays.calls A c l x a t _ HR.out HC.out HW.out).mono ?_; rintro e w1 ⟨rfl, hb⟩; have HB := Aside0.mk hb; clear hb)
  go_ret
  exact ⟨rfl, HB.out⟩
structure BX (w : World) (n : Int) (A : Option Addr) (c len : Nat) (A1 : Option Addr) (c1 len1 : Nat) (a : Int) (W : World) : Prop where
  x : CxAt W w.heap.size n A len c
  l : W.heap[w.heap.size + 1]? = some (.cells #[.slice A1 len1 c1] 28 (0, 0))
  a : W.heap[w.heap.size + 2]? = some (.cells #[.int .i64 a] 2 (0, 0))
  hb : Below w.heap.size w W
section
variable {w : World} {n : Int} {A : Option Addr} {c len : Nat} {A1 : Option Addr} {c1 len1 : Nat} {a : Int} {W W1 : World}
theorem BX.below (h : BX w n A c len A1 c1 len1 a W) (hB : Below W.heap.size W W1) : BX w n A c len A1 c1 len1 a W1 :=
  ⟨h.x.below hB, (hB.block _ (blk_lt h.l)).trans h.l, (hB.block _ (blk_lt h.a)).trans h.a, below_in h.hb hB⟩
theorem BX.cl (h : BX w n A c len A1 c1 len1 a W) : W.cell? ⟨w.heap.size + 1, 0, none⟩ = some (.slice A1 len1 c1) := (cell_of_row W _ 0 _ _ _ h.l).trans rfl
theorem BX.ca (h : BX w n A c len A1 c1 len1 a W) : W.cell? ⟨w.heap.size + 2, 0, none⟩ = some (.int .i64 a) := (cell_of_row W _ 0 _ _ _ h.a).trans rfl
theorem BX.new (w : World) (n : Int) (A : Option Addr) (c len : Nat) (A1 : Option Addr) (c1 len1 : Nat) (a : Int) : BX w n A c len A1 c1 len1 a (((w.alloc (.cells #[.int .i64 n, .slice A len c] 31)).alloc (.cells #[.slice A1 len1 c1] 28)).alloc (.cells #[.int .i64 a] 2)) := by
  have b1 := below_alloc (Below.refl (w.alloc (.cells #[.int .i64 n, .slice A len c] 31)).heap.size (w.alloc (.cells #[.int .i64 n, .slice A len c] 31))) (.cells #[.slice A1 len1 c1] 28)
  have b2 := below_alloc (Below.refl ((w.alloc (.cells #[.int .i64 n, .slice A len c] 31)).alloc (.cells #[.slice A1 len1 c1] 28)).heap.size ((w.alloc (.cells #[.int .i64 n, .slice A len c] 31)).alloc (.cells #[.slice A1 len1 c1] 28))) (.cells #[.int .i64 a] 2)
  have n1 := heap_alloc_new (w.alloc (.cells #[.int .i64 n, .slice A len c] 31)) (.cells #[.slice A1 len1 c1] 28)
  have n2 := heap_alloc_new ((w.alloc (.cells #[.int .i64 n, .slice A len c] 31)).alloc (.cells #[.slice A1 len1 c1] 28)) (.cells #[.int .i64 a] 2)
  rw [show (w.alloc (.cells #[.int .i64 n, .slice A len c] 31)).heap.size = w.heap.size + 1 by simp] at n1
  rw [show ((w.alloc (.cells #[.int .i64 n, .slice A len c] 31)).alloc (.cells #[.slice A1 len1 c1] 28)).heap.size = w.heap.size + 2 by simp] at n2
  exact ⟨(CxAt.new w n A len c).below (below_in b1 b2), (b2.block _ (blk_lt n1)).trans n1, n2, below_in (below_alloc (Below.refl w.heap.size w) _) (below_in b1 b2)⟩
end
theorem any_contains (way : List Int) (y : Int) : (way.any fun x => y == x) = way.contains y := by
  rw [Bool.eq_iff_iff, List.any_eq_true, List.contains_iff_mem]
  simp
theorem first_at {p : Int → Bool} {A B : List Int} {y : Int} (ha : ∀ z ∈ A, p z = false) (hy : p y = true) : firstI p (A ++ y :: B) = (A.length : Int) := by
  unfold firstI
  rw [if_pos (List.any_eq_true.2 ⟨y, by simp, hy⟩), List.findIdx_append, List.findIdx_cons, hy]
  have h1 : List.findIdx p A = A.length := List.findIdx_eq_length.2 ha
  rw [h1]
  simp
set_option maxRecDepth 100000 in
set_option maxHeartbeats 16000000 in
theorem cancel_c (n : Int) (A : Option Addr) (c : Nat) (xs : List Int) (A1 : Option Addr) (c1 : Nat) (l : List Pr) (b a : Int) (w : World) (hr : RC w A xs.length xs) (hc : xs.length ≤ c) (hr1 : Kd.C k45 w A1 l.length l) (hc1 : l.length ≤ c1) (hx : xs.length ≤ 1048576) (hl : l.length ≤ 1048576) :
    Calls Tryz.prog 9 #[.agg #[.int .i64 n, .slice A xs.length c], .slice A1 l.length c1, .int .i64 b, .int .i64 a] w fun e w' => ∃ v, e = .returned (.tuple #[v, .int .i64 (cancelI n xs l b a).2]) ∧ PO w' w.heap.size v (cancelI n xs l b a).1 ∧ Below w.heap.size w w' := by
  have HX := Aside0.mk (BX.new w n A c xs.length A1 c1 l.length a)
  have hx0 := HX.out.x.c0
  have hx1 := HX.out.x.c1
  have hx2 := HX.out.cl
  have hx3 := HX.out.ca
  have HR := Aside0.mk hr
  have HC := Aside0.mk hc
  have HR1 := Aside0.mk hr1
  have HC1 := Aside0.mk hc1
  have HBC := Aside0.mk (bcode_f n hx hl b a)
  have HL := Aside0.mk hl
  clear hr hc hr1 hc1 hx hl
  obtain ⟨D, hD⟩ : ∃ D, cancelI n xs l b a = D := ⟨_, rfl⟩
  rw [hD]
  by_cases hg : gcode n xs l b a = 0
  · obtain ⟨hi, hp, hac, hbr, ha0, hbn⟩ := gcode_zero HL.out hg
    rw [hg] at HBC
    obtain ⟨kw, hkw⟩ := (ev_betweenI hi hp hac a (b := b)).rounds
    have HKW : Aside0 (QB.impl_waysBetween.f kw l b a = some (waysI l b a)) := ⟨hkw⟩
    clear hkw
    by_cases h1 : waysI l b a = 1
    · obtain ⟨LA, y, LB, hbd, hy, hla, hfc⟩ := first_one hi hp hac hbn h1
      obtain rfl : D = ((prsOf l b (wayI l b a)).foldl swapP l, 0) := by rw [← hD]; unfold cancelI; rw [if_pos hg, if_pos h1]
      rw [h1] at HKW
      have h20 := rank_20 hi hp y
      obtain ⟨ko, hko⟩ := (ev_onlyWay hi hp hac a 64 y (by omega) (by omega) hy).rounds
      obtain ⟨hwn, _, hwl⟩ := way_props hi hp hac a 64 y (by omega) hy
      have hwe : wayI l b a = wayW l a 64 y := by unfold wayI; rw [hfc]
      have hne0 : wayW l a 64 y ≠ [] := fun e => by
        rw [wayW] at e
        by_cases hya : y = a
        · rw [if_pos hya] at e; cases e
        · obtain ⟨A', z, B', hn', hz', ha', _⟩ := next_one hi hp hac a hya hy
          rw [if_neg hya, hn', find_one hz' ha'] at e
          cases e
      rw [hwe]
      generalize wayW l a 64 y = way at hko hwn hwl hne0
      have HKO := Aside0.mk hko
      have HWN := Aside0.mk hwn
      have HNE := Aside0.mk hne0
      have HP0 := Aside0.mk hp
      have HF := Aside0.mk (facesP_of hi hp)
      have HLL := Aside0.mk (pairing_len hi hp)
      have HCW := Aside0.mk (fun f => impl_countWays.come l f a (ev_countW hi hp hac a _ f (Nat.lt_succ_self _)))
      have HFI : Aside0 (firstI (fun f => decide (TW l a f > 0)) (bordersL b) = (LA.length : Int)) := ⟨by rw [hbd]; exact first_at (fun z hz => by simp [hla z hz]) (by simp [hy])⟩
      have hbl : LA.length < (bordersL b).length := by rw [hbd]; simp
      have hbz : (LA.length : Int) < ((bordersL b).length : Int) := by omega
      have HBY : Aside0 ((bordersL b)[LA.length]?.getD 0 = y) := ⟨by rw [hbd]; simp⟩
      have HBL := Aside0.mk hbl
      clear hD hg hi hp hac hbr ha0 hbn h1 hbd hy hla hfc h20 hko hwn hwe hne0 hbl
      generalize LA.length = i0 at HFI hbz HBY HBL
      go_enter Tryz.func9, Tryz.ntmps9
      go_upto_region 8 with (first
        | (go_at_call 24; refine (QB.impl_besideCode.calls n A c xs A1 c1 l b a 0 _ (Kd.C_below HR.out HX.out.hb) HC.out (Kd.C_below HR1.out HX.out.hb) HC1.out HBC.out).mono ?_; rintro e w1 ⟨rfl, hb⟩; have HX1 := Aside0.mk (HX.out.below hb); have hy2 := HX1.out.cl; have hy3 := HX1.out.ca; clear hb hx0 hx1 hx2 hx3 HX)
        | (go_at_call 25; refine (QB.impl_waysBetween.calls kw A1 c1 l b a 1 _ (Kd.C_below HR1.out HX1.out.hb) HC1.out HKW.out).mono ?_; rintro e w2 ⟨rfl, hb⟩; have HX2 := Aside0.mk (HX1.out.below hb); clear hb hy2 hy3 HX1)
        | (go_at_call 27; refine (borders_c b _).mono ?_; rintro e w3 ⟨v3, rfl, hv, hb⟩; have HX3 := Aside0.mk (HX2.out.below hb); obtain ⟨A3, c3, rfl⟩ := Kd.R_slice hv; have HV3 := Aside0.mk (Kd.R_reads' hv); clear hb hv HX2)
        | (go_at_call 26; refine (indexFunc_c A3 _ c3 (bordersL b) _ (fun _ => True) (fun f => decide (TW l a f > 0)) _ HV3.out.2.2 (cl1_f (w.heap.size + 1) (w.heap.size + 2) A1 c1 l a _ HX3.out.l HX3.out.a (Kd.C_below HR1.out HX3.out.hb) HC1.out HCW.out) (fun _ _ => trivial)).mono ?_; rw [HFI.out]; rintro e w4 ⟨rfl, hb⟩; have HX4 := Aside0.mk (HX3.out.below hb); have hy2 := HX4.out.cl; have hy3 := HX4.out.ca; clear hb HX3 HV3))
      refine st_ 9 (S := fun w' => w'.cell? ⟨w.heap.size + 1, 0, none⟩ = some (.slice A1 l.length c1) ∧ w'.cell? ⟨w.heap.size + 2, 0, none⟩ = some (.int .i64 a)) (ds := []) ⟨hy2, hy3⟩ (fun hHeld => ?_)
      refine with_tabW (T := (true, [([], []), ([], []), ([1], [1]), ([], []), ([2, 3], [2, 3]), ([4], [4]), ([], []), ([0, 5, 6, 2], [0, 5, 6]), ([7, 7, 0, 1, 2, 3, 4, 5, 6, 7], [7])])) (B := [0, 0, 2, 0, 14, 30, 0, 127, 255]) (by kernel_rfl) (by kernel_rfl) (fun HT_ HW_ => ?_)
      refine pd_ 1 38 2 HT_ ?_
      refine pd_ 3 40 10 HT_ ?_
      refine tk_ 0 37 11 HT_ HW_ hHeld ?_
      refine tk_ 6 43 75 HT_ HW_ hHeld ?_
      refine on_ 2 (some 39) 79 HT_ (fun K hK => ?_)
      refine ca_ Tryz.func27 #[.int .i64 b] ?_
      refine (borders_c b _).mono ?_; rintro e w5 ⟨v5, rfl, hv, hb1⟩; have hb := (below_drew (Below.refl w4.heap.size w4)).trans hb1; have HX5 := Aside0.mk (HX4.out.below hb); obtain ⟨A5, c5, rfl⟩ := Kd.R_slice hv; obtain ⟨ad5, rfl, hc5⟩ := RC.at_ (Kd.R_reads' hv).2.2 (Below.refl _ _) HBL.out; rw [HBY.out] at hc5; clear hb hb1 hv hy2 hy3 HX4
      refine ⟨_, rfl, ?_⟩
      refine hK.out _ _ ⟨HX5.out.cl, HX5.out.ca⟩ (fun hHeld => ?_)
      clear hK K
      refine nm_ ?_
      refine pd_ 4 41 95 HT_ ?_
      refine on_ 5 (some 42) 127 HT_ (fun K hK => ?_)
      (refine value_ (by rfl) rfl (v := .int .i64 y) (w1 := w5) (by go_simp) ?_)
      refine hK.out _ _ ⟨HX5.out.cl, HX5.out.ca⟩ (fun hHeld => ?_)
      clear hK K
      refine nm_ ?_
      refine on_ 7 (some 44) 255 HT_ (fun K hK => ?_)
      refine ca_ Tryz.func30 #[.slice A1 l.length c1, .int .i64 y, .int .i64 a] ?_
      refine (QC.impl_onlyWay.calls ko A1 c1 l y a way _ (Kd.C_below HR1.out HX5.out.hb) HC1.out HKO.out).mono ?_; rintro e w6 ⟨v6, rfl, hv, hb⟩; have HX6 := Aside0.mk (HX5.out.below hb); obtain ⟨A6, c6, rfl⟩ := Kd.R_slice hv; have HV6 := Aside0.mk (Kd.R_reads' hv); clear hb hv hc5 HX5
      refine ⟨_, rfl, ?_⟩
      refine hK.out _ _ ⟨HX6.out.cl, HX6.out.ca⟩ (fun hHeld => ?_)
      clear hK K
      refine nm_ ?_
      refine pd_ 8 13 511 HT_ ?_
      refine dn_ HT_ ?_
      go_wp2
      have HOB0 : Aside0 (PO w6 w6.heap.size (.slice none 0 0) (prsOf l b (way.take 0))) := ⟨Kd.R_nil _ _ _ _ _⟩
      have HB60 : Aside0 (Below w6.heap.size w6 w6) := ⟨Below.refl _ _⟩
      go_loopw [12, 14, 48] (fun s12 s14 s48 wr => ∃ j : Nat, j ≤ way.length ∧ s14 = .int .i64 (hiA l b (way.take j)) ∧ s48 = .int .i64 j ∧ Aside0 (PO wr w6.heap.size s12 (prsOf l b (way.take j))) ∧ Aside0 (Below w6.heap.size w6 wr)) (fun _ _ s48 _ => way.length - (intOf s48).toNat)
      case atStart => exact ⟨0, Nat.zero_le _, rfl, rfl, HOB0, HB60⟩
      case round =>
        clear HOB0 HB60
        obtain ⟨j, hj, rfl, rfl, HO, HB⟩ := hrel
        by_cases hlt : j < way.length
        · have hltz : (j : Int) < (way.length : Int) := by omega
          obtain ⟨ad6, rfl, hc6⟩ := RC.at_ HV6.out.2.2 HB.out hlt
          obtain ⟨f, hf⟩ : ∃ f, way[j]?.getD 0 = f := ⟨_, rfl⟩
          rw [hf] at hc6
          have hwj : way.take (j + 1) = way.take j ++ [f] := by
            rw [List.take_succ_eq_append_getElem hlt]
            rw [List.getElem?_eq_getElem hlt] at hf
            rw [← hf]; rfl
          have HPS : Aside0 (prsOf l b (way.take (j + 1)) = prsOf l b (way.take j) ++ [⟨f, hiA l b (way.take j)⟩]) := ⟨by rw [hwj, prs_snoc]⟩
          have HHI : Aside0 (hiA l b (way.take (j + 1)) = if highZ l f = 0 then hiA l b (way.take j) else highZ l f) := ⟨by rw [hwj, hiA_snoc]⟩
          have HPL : Aside0 ((prsOf l b (way.take j)).length + 1 ≤ 8796093022208) := ⟨by rw [prs_len, List.length_take]; omega⟩
          generalize hiA l b (way.take j) = hi at HPS HHI
          generalize prsOf l b (way.take j) = ps at HPS HPL HO
          obtain ⟨Ao, co, rfl⟩ := Kd.R_slice HO.out
          have b1 := below_alloc (Below.refl wr.heap.size wr) (.cells #[.int .i64 f] 2)
          have b2 := below_alloc (Below.refl (wr.alloc (.cells #[.int .i64 f] 2)).heap.size (wr.alloc (.cells #[.int .i64 f] 2))) (.cells #[.int .i64 f, .int .i64 hi] 45)
          have HO2 := Aside0.mk (Kd.R_below (Kd.R_below HO.out b1) b2)
          have hpr : PrAt ((wr.alloc (.cells #[.int .i64 f] 2)).alloc (.cells #[.int .i64 f, .int .i64 hi] 45)) (wr.heap.size + 1) f hi := by simpa using PrAt.new (wr.alloc (.cells #[.int .i64 f] 2)) f hi
          have HR2 := Aside0.mk (one_row hpr)
          have HBB := Aside0.mk (below_in HB.out (below_in b1 b2))
          have n1 := heap_alloc_new wr (.cells #[.int .i64 f] 2)
          have HN2 := Aside0.mk ((b2.block _ (blk_lt n1)).trans n1)
          have HNE2 : Aside0 (some wr.heap.size ≠ (Value.slice Ao ps.length co).ownBlock) := ⟨fun e => absurd (Kd.R_lt HO.out _ e.symm) (Nat.lt_irrefl _)⟩
          clear b1 b2 hpr n1 hwj hf HO HB
          cases hq : l.find? (fun q => q.f0 == f) with
          | none =>
            have HFP := Aside0.mk (fstP_none hq)
            have hh0 : highZ l f = 0 := by unfold highZ; rw [hq]; rfl
            have hhi := HHI.out
            rw [if_pos hh0] at hhi
            have HHJ := Aside0.mk hhi
            clear hq hh0 hhi HHI
            go_wp2_with (first
              | (at_builtin; refine apPs w6.heap.size rfl _ _ rfl _ _ _ _ _ _ rfl rfl HO2.out HR2.out HBB.out HBB.out.size HPL.out ?_; intro v7 w7 ho hb hg hat; have HO7 := Aside0.mk ho; have HB7 := Aside0.mk hb; have hn7 := (hg.block _ (blk_lt HN2.out) HNE2.out).trans HN2.out; have HN7 := Aside0.mk hn7; have HX7 := Aside0.mk (HX6.out.below hb); have hz2 := HX7.out.cl; clear ho hb hg hat hn7 HO2 HR2 HBB HN2)
              | (go_at_call 31; refine (indexPair_c A1 c1 l _ (fun _ => True) (fun q => q.f0 == f) _ (Kd.C_below HR1.out HX7.out.hb) (cl2_f wr.heap.size f _ HN7.out) (fun _ _ => trivial) (by have := HL.out; omega)).mono ?_; rw [HFP.out]; rintro e w8 ⟨rfl, hb⟩; have HO8 := Aside0.mk (Kd.R_below HO7.out hb); have HB8 := Aside0.mk (below_in HB7.out hb); clear hb hz2 HO7 HB7 HX7 HN7))
            go_roundw
            case measure => simp [intOf]; omega
            case rel => exact ⟨j + 1, by omega, by rw [HHJ.out], by go_num, by rw [HPS.out]; exact HO8, HB8⟩
          | some q =>
            obtain ⟨i, hfp, hil, hiq⟩ := fstP_some hq
            have HFP := Aside0.mk hfp
            have hqf := HF.out q (List.mem_of_find?_eq_some hq)
            have hh0 : highZ l f = q.f1 := by unfold highZ; rw [hq]; rfl
            have hhi := HHI.out
            rw [if_neg (by omega), hh0] at hhi
            have HHJ := Aside0.mk hhi
            have hilz : (i : Int) < (l.length : Int) := by omega
            obtain ⟨ad1, rfl, _, hp1⟩ := at_T45 HR1.out (i : Int) (by omega) hilz
            rw [show ((i : Int)).toNat = i by omega, show rd_T45 l (i : Int) = q by rw [← hiq]; rfl] at hp1
            have HP1 := Aside0.mk hp1
            clear hq hh0 hhi HHI hfp hil hiq hqf hp1
            go_wp2_with (first
              | (at_builtin; refine apPs w6.heap.size rfl _ _ rfl _ _ _ _ _ _ rfl rfl HO2.out HR2.out HBB.out HBB.out.size HPL.out ?_; intro v7 w7 ho hb hg hat; have HO7 := Aside0.mk ho; have HB7 := Aside0.mk hb; have hn7 := (hg.block _ (blk_lt HN2.out) HNE2.out).trans HN2.out; have HN7 := Aside0.mk hn7; have HX7 := Aside0.mk (HX6.out.below hb); have hz2 := HX7.out.cl; clear ho hb hg hat hn7 HO2 HR2 HBB HN2)
              | (go_at_call 31; refine (indexPair_c (some ad1) c1 l _ (fun _ => True) (fun q => q.f0 == f) _ (Kd.C_below HR1.out HX7.out.hb) (cl2_f wr.heap.size f _ HN7.out) (fun _ _ => trivial) (by have := HL.out; omega)).mono ?_; rw [HFP.out]; rintro e w8 ⟨rfl, hb⟩; have HO8 := Aside0.mk (Kd.R_below HO7.out hb); have HB8 := Aside0.mk (below_in HB7.out hb); have HX8 := Aside0.mk (HX7.out.below hb); have hy2 := HX8.out.cl; have hp1 := pw_cell_below HX8.out.hb HP1.out; clear hb hz2 HO7 HB7 HX7 HN7))
            go_roundw
            case measure => simp [intOf]; omega
            case rel => exact ⟨j + 1, by omega, by rw [HHJ.out], by go_num, by rw [HPS.out]; exact HO8, HB8⟩
        · obtain rfl : j = way.length := by omega
          have hltz : ¬ ((way.length : Int) < (way.length : Int)) := by omega
          rw [List.take_length] at HO
          have hy2 := (HX6.out.below HB.out).cl
          go_wp2
          have HO0 : Aside0 (PO wr w6.heap.size u12 (prsOf l b way ++ (l.take 0).filter fun p => !(way.contains p.f0))) := ⟨by rw [List.take_zero, List.filter_nil, List.append_nil]; exact HO.out⟩
          clear HO
          clear hy2
          go_loopw [12, 71] (fun s12 s71 wq => ∃ j : Nat, j ≤ l.length ∧ s71 = .int .i64 j ∧ Aside0 (PO wq w6.heap.size s12 (prsOf l b way ++ (l.take j).filter fun p => !(way.contains p.f0))) ∧ Aside0 (Below w6.heap.size w6 wq)) (fun _ s71 _ => l.length - (intOf s71).toNat)
          case atStart => exact ⟨0, Nat.zero_le _, rfl, HO0, HB⟩
          case round =>
            clear HO0 HB
            obtain ⟨j, hj, rfl, HO, HB⟩ := hrel
            have hll := HLL.out
            obtain ⟨raw, hraw⟩ : ∃ raw, prsOf l b way ++ (l.take j).filter (fun p => !(way.contains p.f0)) = raw := ⟨_, rfl⟩
            have hrl : raw.length ≤ 200 := by
              rw [← hraw, List.length_append, prs_len]
              have h8 := List.length_filter_le (fun p : Pr => !(way.contains p.f0)) (l.take j)
              rw [List.length_take] at h8
              have h9 := HLL.out
              omega
            by_cases hlt : j < l.length
            · have hltz : (j : Int) < (l.length : Int) := by omega
              obtain ⟨q, hq⟩ : ∃ q, l[j] = q := ⟨_, rfl⟩
              obtain ⟨ad1, rfl, hp0, hp1⟩ := at_T45 HR1.out (j : Int) (by omega) hltz
              rw [show ((j : Int)).toNat = j by omega, show rd_T45 l (j : Int) = q by rw [rdP_at hlt, hq]] at hp0 hp1
              have hbw := below_in HX6.out.hb HB.out
              have hc0 := pw_cell_below hbw hp0
              have hc1 := pw_cell_below hbw hp1
              have htk : l.take (j + 1) = l.take j ++ [q] := by rw [List.take_succ_eq_append_getElem hlt, hq]
              have HN : Aside0 (prsOf l b way ++ (l.take (j + 1)).filter (fun p => !(way.contains p.f0)) = if way.contains q.f0 then raw else raw ++ [q]) := ⟨by
                rw [htk, List.filter_append, ← List.append_assoc, hraw]
                cases hcq : way.contains q.f0 with
                | true => rw [List.filter_cons_of_neg (by simp only [hcq]; decide)]; simp
                | false => rw [List.filter_cons_of_pos (by simp only [hcq]; decide)]; simp⟩
              rw [hraw] at HO
              obtain ⟨Ao, co, rfl⟩ := Kd.R_slice HO.out
              have b1 := below_alloc (Below.refl wr.heap.size wr) (.cells #[.int .i64 q.f0, .int .i64 q.f1] 45)
              have HP1 := Aside0.mk (PrAt.new wr q.f0 q.f1)
              have HO1 := Aside0.mk (Kd.R_below HO.out b1)
              have HB1 := Aside0.mk (below_in HB.out b1)
              have ht0 := HP1.out.c0
              have HCT : Aside0 ((way.any fun x => q.f0 == x) = way.contains q.f0) := ⟨any_contains way q.f0⟩
              have HRL := Aside0.mk hrl
              clear hraw hrl hq hp0 hp1 hbw htk b1 HO HB
              cases hcq : way.contains q.f0 with
              | true =>
                rw [hcq] at HCT HN
                have HN1 := Aside0.mk HN.out
                simp only [if_true] at HN1
                clear hcq HN
                go_wp2_with (go_at_call 33; refine (contains_c A6 way.length c6 way q.f0 _ (Kd.C_below HV6.out.2.2 HB1.out)).mono ?_; rw [HCT.out]; rintro e w2 ⟨rfl, hb⟩; have HO2 := Aside0.mk (Kd.R_below HO1.out hb); have HB2 := Aside0.mk (below_in HB1.out hb); clear hb ht0 HO1 HB1 HP1 hc0 hc1)
                go_roundw
                case measure => simp [intOf]; omega
                case rel => exact ⟨j + 1, by omega, by go_num, by rw [HN1.out]; exact HO2, HB2⟩
              | false =>
                rw [hcq] at HCT HN
                have HN1 := Aside0.mk HN.out
                simp only [Bool.false_eq_true, if_false] at HN1
                clear hcq HN
                go_wp2_with (first
                  | (go_at_call 33; refine (contains_c A6 way.length c6 way q.f0 _ (Kd.C_below HV6.out.2.2 HB1.out)).mono ?_; rw [HCT.out]; rintro e w2 ⟨rfl, hb⟩; have hq2 := HP1.out.below hb; have ht1 := hq2.c0; have ht2 := hq2.c1; have hba := below_alloc (Below.refl w2.heap.size w2) (.cells #[.int .i64 q.f0, .int .i64 q.f1] 45); have HO2 := Aside0.mk (Kd.R_below (Kd.R_below HO1.out hb) hba); have HB2 := Aside0.mk (below_in (below_in HB1.out hb) hba); have HR2 := Aside0.mk (one_row (PrAt.new w2 q.f0 q.f1)); clear hb hq2 hba ht0 HO1 HB1 HP1 hc0 hc1)
                  | (at_builtin; refine apPs w6.heap.size rfl _ _ rfl _ _ _ _ _ _ rfl rfl HO2.out HR2.out HB2.out HB2.out.size (by have := HRL.out; omega) ?_; intro v7 w7 ho hb hg hat; have HO7 := Aside0.mk ho; have HB7 := Aside0.mk hb; clear ho hb hg hat HO2 HR2 HB2 ht1 ht2))
                go_roundw
                case measure => simp [intOf]; omega
                case rel => exact ⟨j + 1, by omega, by go_num, by rw [HN1.out]; exact HO7, HB7⟩
            · obtain rfl : j = l.length := by omega
              have hltz : ¬ ((l.length : Int) < (l.length : Int)) := by omega
              rw [List.take_length] at HO hraw
              have HRW : Aside0 (rawC l b way = raw) := ⟨hraw⟩
              rw [hraw] at HO
              have hrn : raw ≠ [] := fun e => by
                rw [← hraw] at e
                have h8 := (List.append_eq_nil_iff.1 e).1
                have h9 := prs_len l b way
                rw [h8] at h9
                exact HNE.out (List.eq_nil_of_length_eq_zero h9.symm)
              have HS := Aside0.mk (sortP_c _ raw w6.heap.size _ HO.out hrn HB.out.size (by omega))
              obtain ⟨Ao, co, rfl⟩ := Kd.R_slice HO.out
              clear hraw hrn hrl HO
              go_wp2_with (go_at_call 34; refine HS.out.mono ?_; rintro e w9 ⟨L, rfl, ho, hlen, hpm, hpw, hb⟩; have HO9 := Aside0.mk ho; have HPM := Aside0.mk hpm; have HPW := Aside0.mk hpw; have HB9 := Aside0.mk hb; clear ho hlen hpm hpw hb HS)
              go_ret2
              refine ⟨.slice Ao raw.length co, rfl, ?_, below_in HX6.out.hb (HB.out.trans HB9.out)⟩
              have h8 := HPM.out
              rw [← HRW.out] at h8
              have he := sorted_raw HP0.out b HWN.out (List.Pairwise.imp (fun {p q} h => by omega) HPW.out) h8
              rw [← he]
              exact Kd.R_lower HO9.out HX6.out.hb.size
    · obtain rfl : D = ([], 5) := by rw [← hD]; unfold cancelI; rw [if_pos hg, if_neg h1]
      obtain ⟨t, ht⟩ : ∃ t, waysI l b a = t := ⟨_, rfl⟩
      rw [ht] at HKW h1
      have h2 : (t == 1) = false := beq_eq_false_iff_ne.2 h1
      clear hD hg hi hp hac hbr ha0 hbn ht
      go_enter Tryz.func9, Tryz.ntmps9
      go_wp2_with (first
        | (go_at_call 24; refine (QB.impl_besideCode.calls n A c xs A1 c1 l b a 0 _ (Kd.C_below HR.out HX.out.hb) HC.out (Kd.C_below HR1.out HX.out.hb) HC1.out HBC.out).mono ?_; rintro e w1 ⟨rfl, hb⟩; have HX1 := Aside0.mk (HX.out.below hb); have hy2 := HX1.out.cl; have hy3 := HX1.out.ca; clear hb hx0 hx1 hx2 hx3 HX)
        | (go_at_call 25; refine (QB.impl_waysBetween.calls kw A1 c1 l b a t _ (Kd.C_below HR1.out HX1.out.hb) HC1.out HKW.out).mono ?_; rintro e w2 ⟨rfl, hb⟩; have HX2 := Aside0.mk (HX1.out.below hb); clear hb hy2 hy3 HX1))
      go_ret2
      exact ⟨_, rfl, Kd.R_nil _ _ _ _ _, HX2.out.hb⟩
  · obtain rfl : D = ([], gcode n xs l b a) := by rw [← hD]; unfold cancelI; rw [if_neg hg]
    obtain ⟨t, ht⟩ : ∃ t, gcode n xs l b a = t := ⟨_, rfl⟩
    rw [ht] at HBC hg ⊢
    have h2 : (t == 0) = false := beq_eq_false_iff_ne.2 hg
    clear hD ht
    go_enter Tryz.func9, Tryz.ntmps9
    go_wp2_with (go_at_call 24; refine (QB.impl_besideCode.calls n A c xs A1 c1 l b a t _ (Kd.C_below HR.out HX.out.hb) HC.out (Kd.C_below HR1.out HX.out.hb) HC1.out HBC.out).mono ?_; rintro e w1 ⟨rfl, hb⟩; have HX1 := Aside0.mk (HX.out.below hb); clear hb hx0 hx1 hx2 hx3 HX)
    go_ret2
    exact ⟨_, rfl, Kd.R_nil _ _ _ _ _, HX1.out.hb⟩
end Go.Proofs.YtdnbmobdiidfmaaGreat.Im
namespace Go.Proofs.YtdnbmobdiidfmaaGreat.Ext
open Go.RowKit Im Pu Kp YtdnbmobdiidfmaaGreatW.PrintWords YtdnbmobdiidfmaaGreatW.PrintLast YtdnbmobdiidfmaaGreatW.PrintMore
def impl_CancelFaces.f (a0_0 : Int) (l0_1 : List Int) (l1 : List S45) (a2 : Int) (a3 : Int) : Option (List S45 × Int) := if l0_1.length ≤ 1048576 ∧ l1.length ≤ 1048576 then some (cancelI a0_0 l0_1 l1 a2 a3) else none
theorem impl_CancelFaces.calls (a0_0 : Int) (A0_1 : Option Addr) (c0_1 : Nat) (l0_1 : List Int) (A1 : Option Addr) (c1 : Nat) (l1 : List S45) (a2 : Int) (a3 : Int) (r1 : List S45) (r2 : Int) (w : World) (hr0_1 : Kd.C (Kd.int .i64) w A0_1 l0_1.length l0_1) (_hc0_1 : l0_1.length ≤ c0_1) (hr1 : Kd.C k45 w A1 l1.length l1) (_hc1 : l1.length ≤ c1) (h : impl_CancelFaces.f a0_0 l0_1 l1 a2 a3 = some (r1, r2)) :
    Calls Tryz.prog 9 #[.agg #[.int .i64 a0_0, .slice A0_1 l0_1.length c0_1], .slice A1 l1.length c1, .int .i64 a2, .int .i64 a3] w fun e w' => ∃ v0_ : Value, e = .returned (.tuple #[v0_, .int .i64 r2]) ∧ Kd.R k45 45 w' w.heap.size (fun _ => True) v0_ r1 ∧ Below w.heap.size w w' := by
  unfold impl_CancelFaces.f at h
  by_cases hl : l0_1.length ≤ 1048576 ∧ l1.length ≤ 1048576
  · rw [if_pos hl] at h
    have hd := Option.some.inj h
    have := cancel_c a0_0 A0_1 c0_1 l0_1 A1 c1 l1 a2 a3 w hr0_1 _hc0_1 hr1 _hc1 hl.1 hl.2
    rw [hd] at this
    exact this
  · rw [if_neg hl] at h; cases h
end Go.Proofs.YtdnbmobdiidfmaaGreat.Ext
namespace Go.Proofs.YtdnbmobdiidfmaaGreat.QS
open Cw Kp Ext Go.RowKit YtdnbmobdiidfmaaGreatW.PrintWords YtdnbmobdiidfmaaGreatW.PrintLast YtdnbmobdiidfmaaGreatW.PrintMore
attribute [local go_sem] max2_int min2_int max_two min_two max_three min_three max_four min_four   -- for this text's walks alone
def laws_eqPairS.l0 : Nat → List (S45) → List (S45) → Int → Option (Bool)
 | 0, _, _, _ => none
 | k + 1, x0, x1, x5 => if x5 < (x0.length : Int) then (if 0 ≤ x5 then (if x5 < (x1.length : Int) then ((laws_eqPair.f ((rd_T45 x0 x5).f0) ((rd_T45 x0 x5).f1) ((rd_T45 x1 x5).f0) ((rd_T45 x1 x5).f1)).bind fun t123 => (if t123 = true then (laws_eqPairS.l0 k x0 x1 (wrap64 (x5 + 1))) else (some false))) else (none)) else (none)) else (some true)
def laws_eqPairS.f (k : Nat) (l0 : List (S45)) (l1 : List (S45)) : Option (Bool) := if (l0.length : Int) = (l1.length : Int) then (laws_eqPairS.l0 k l0 l1 0) else (some false)
def laws_eqPairS.T6 : Bool × List (List Nat × List Nat) := (true, [([], []), ([], []), ([0, 1], [0, 1]), ([2], [2]), ([], []), ([], []), ([4, 5], [4, 5]), ([6], [6]), ([3, 7], [3, 7]), ([8], [8])])
def laws_eqPairS.B6 : List Nat := [0, 0, 3, 7, 0, 0, 48, 112, 255, 511]
theorem laws_eqPairS.tab6 : rtab .any (opsOf Tryz.f10 6) = laws_eqPairS.T6 := by kernel_rfl
theorem laws_eqPairS.bits6 : waitsOk laws_eqPairS.T6.2 laws_eqPairS.B6 = true := by kernel_rfl
set_option maxHeartbeats 8000000 in
set_option maxRecDepth 100000 in
theorem laws_eqPairS.calls (k : Nat) (A0 : Option Addr) (c0 : Nat) (l0 : List (S45)) (A1 : Option Addr) (c1 : Nat) (l1 : List (S45)) (r : Bool) (w : World) (hr0 : Kd.C k45 w A0 l0.length l0) (hc0 : l0.length ≤ c0) (hr1 : Kd.C k45 w A1 l1.length l1) (hc1 : l1.length ≤ c1) (h : laws_eqPairS.f k l0 l1 = some r) :
  Calls Tryz.prog 10 #[.slice A0 l0.length c0, .slice A1 l1.length c1] w fun e w' => e = .returned (.bool r) ∧ Below w.heap.size w w' := by
 have hu45 := Tryz.underlying45
 have HR0 := Aside0.mk hr0
 have HC0 := Aside0.mk hc0
 clear hr0 hc0
 have HR1 := Aside0.mk hr1
 have HC1 := Aside0.mk hc1
 clear hr1 hc1
 have HB := Aside0.mk (Below.refl w.heap.size w)
 have H : (if (l0.length : Int) = (l1.length : Int) then (laws_eqPairS.l0 k l0 l1 0) else (some false)) = some r := h
 clear h
 by_cases c3 : (l0.length : Int) = (l1.length : Int)
 ·rw [if_pos c3] at H
  have c3b0 : ((l0.length : Int) == (l1.length : Int)) = true := beq_iff_eq.mpr c3
  have c3b1 : ((l0.length : Int) != (l1.length : Int)) = false := bne_eq_false_iff_eq.mpr c3
  have c3b2 : (l0.length == l1.length) = true := by first | simpa using c3 | (simp at c3 ⊢; omega)
  clear c3
  have H' := Aside0.mk H
  clear H
  go_enter Tryz.func10, Tryz.ntmps10
  go_wp2
  go_loopg [5] k (fun kq v5 w' => ∃ (x5_1 : Int), v5 = .int .i64 x5_1 ∧ Aside0 (laws_eqPairS.l0 kq l0 l1 x5_1 = some r) ∧ Aside0 (kq ≤ k) ∧ Aside0 (Below w.heap.size w w'))
  case atStart => exact ⟨(0), (by first | rfl | (simp; done) | (simp [*]; done)), H', ⟨Nat.le_refl _⟩, ⟨pH HB⟩⟩
  case round =>
   clear H'
   try clear c1
   try clear p2
   try clear c3
   try clear c3b0
   try clear c3b1
   try clear c3b2
   obtain ⟨x5_1, rfl, HA, HK1, HB⟩ := hrel
   cases gk with
   | zero => exact absurd HA.out (by simp [laws_eqPairS.l0])
   | succ k1 =>
    have H := HA.out
    clear HA
    simp only [laws_eqPairS.l0] at H
    by_cases c4 : x5_1 < (l0.length : Int)
    ·rw [if_pos c4] at H
     have c4b0 : decide (x5_1 < (l0.length : Int)) = true := decide_eq_true c4
     clear c4
     by_cases c5 : 0 ≤ x5_1
     ·rw [if_pos c5] at H
      have c5b0 : decide (0 ≤ x5_1) = true := decide_eq_true c5
      clear c5
      by_cases c6 : x5_1 < (l1.length : Int)
      ·rw [if_pos c6] at H
       have c6b0 : decide (x5_1 < (l1.length : Int)) = true := decide_eq_true c6
       clear c6
       replace H := Option.bind_eq_some_iff.mp H
       obtain ⟨t123, A70, H⟩ := H
       try dsimp only at H
       have A7 := Aside0.mk A70
       clear A70
       by_cases c8 : t123 = true
       ·subst c8
        have H1 : (laws_eqPairS.l0 k1 l0 l1 (wrap64 (x5_1 + 1))) = some r := by rw [if_pos rfl] at H; exact H
        clear H
        have H := H1
        clear H1
        have H' := Aside0.mk H
        clear H
        try go_wp2
        replace HB := dH HB
        have p121 : 0 ≤ (x5_1 : Int) := of_decide_eq_true (by first | (with_reducible assumption) | assumption)
        have q121 : x5_1 < (l0.length : Int) := of_decide_eq_true (by first | (with_reducible assumption) | assumption)
        obtain ⟨ad121, e121, hx121_0, hx121_1⟩ := at_T45 HR0.out x5_1 p121 q121
        have hw121_1 := hx121_1
        have hw121_0 := hx121_0
        cases e121
        replace hx121_0 := cH HB hx121_0
        replace hx121_1 := cH HB hx121_1
        replace p121 := eq_true p121
        replace q121 := eq_true q121
        have p122 : 0 ≤ (x5_1 : Int) := of_decide_eq_true (by first | (with_reducible assumption) | assumption)
        have q122 : x5_1 < (l1.length : Int) := of_decide_eq_true (by first | (with_reducible assumption) | assumption)
        obtain ⟨ad122, e122, hx122_0, hx122_1⟩ := at_T45 HR1.out x5_1 p122 q122
        have hw122_1 := hx122_1
        have hw122_0 := hx122_0
        cases e122
        replace hx122_0 := cH HB hx122_0
        replace hx122_1 := cH HB hx122_1
        replace p122 := eq_true p122
        replace q122 := eq_true q122
        refine st_ 10 (S := fun w' => w'.cell? (ad121.add ((x5_1).toNat * 2)) = some (.int .i64 ((rd_T45 l0 x5_1).f0)) ∧ w'.cell? ⟨(ad121.add ((x5_1).toNat * 2)).block, (ad121.add ((x5_1).toNat * 2)).off + 1, none⟩ = some (.int .i64 ((rd_T45 l0 x5_1).f1)) ∧ w'.cell? (ad122.add ((x5_1).toNat * 2)) = some (.int .i64 ((rd_T45 l1 x5_1).f0)) ∧ w'.cell? ⟨(ad122.add ((x5_1).toNat * 2)).block, (ad122.add ((x5_1).toNat * 2)).off + 1, none⟩ = some (.int .i64 ((rd_T45 l1 x5_1).f1))) (ds := []) ⟨(cH HB hw121_0 :), (cH HB hw121_1 :), (cH HB hw122_0 :), (cH HB hw122_1 :)⟩ (fun hHeld => ?_); refine with_tabW laws_eqPairS.tab6 laws_eqPairS.bits6 (fun HT_ HW_ => ?_)
        generalize wr.drew = w9 at HB hx121_0 hx121_1 hx122_0 hx122_1 hHeld ⊢
        refine pu_ 0 17 1 HT_ ?_
        refine pu_ 1 18 3 HT_ ?_
        refine pu_ 2 19 7 HT_ ?_
        refine pu_ 4 21 23 HT_ ?_
        refine pu_ 5 22 55 HT_ ?_
        refine pu_ 6 23 119 HT_ ?_
        refine tk_ 3 20 127 HT_ HW_ hHeld ?_
        refine tk_ 7 24 255 HT_ HW_ hHeld ?_
        refine on_ 8 (some 25) 511 HT_ (fun K hK => ?_)
        refine ca_ Tryz.func36 #[.agg #[.int .i64 ((rd_T45 l0 x5_1).f0), .int .i64 ((rd_T45 l0 x5_1).f1)], .agg #[.int .i64 ((rd_T45 l1 x5_1).f0), .int .i64 ((rd_T45 l1 x5_1).f1)]] ?_
        with_reducible refine (laws_eqPair.calls ((rd_T45 l0 x5_1).f0) ((rd_T45 l0 x5_1).f1) ((rd_T45 l1 x5_1).f0) ((rd_T45 l1 x5_1).f1) true _ A7.out).mono ?_
        rintro e w10 ⟨rfl, hb⟩
        refine ⟨_, rfl, ?_⟩
        replace HB := sH HB hb
        (try clear hb)
        (try clear hb2)
        (try clear hk)
        (try clear hi)
        refine hK.out _ _ ⟨(cH HB hw121_0 :), (cH HB hw121_1 :), (cH HB hw122_0 :), (cH HB hw122_1 :)⟩ (fun hHeld => ?_)
        clear hK K
        refine nm_ ?_
        refine pu_ 9 26 1023 HT_ ?_
        refine dn_ HT_ ?_
        try go_wp2
        go_roundg k1
        case measure => have := HK1.out; omega
        case rel => exact ⟨(wrap64 (x5_1 + 1)), (by first | rfl | (simp; done) | (simp [*]; done)), H', ⟨by have := HK1.out; omega⟩, ⟨pH HB⟩⟩
       ·replace c8 := Bool.eq_false_iff.mpr c8
        subst c8
        have H1 : (some false) = some r := by rw [if_neg (show ¬ (false = true) by decide)] at H; exact H
        clear H
        have H := H1
        clear H1
        obtain rfl := Option.some.inj H
        try go_wp2
        replace HB := dH HB
        have p121 : 0 ≤ (x5_1 : Int) := of_decide_eq_true (by first | (with_reducible assumption) | assumption)
        have q121 : x5_1 < (l0.length : Int) := of_decide_eq_true (by first | (with_reducible assumption) | assumption)
        obtain ⟨ad121, e121, hx121_0, hx121_1⟩ := at_T45 HR0.out x5_1 p121 q121
        have hw121_1 := hx121_1
        have hw121_0 := hx121_0
        cases e121
        replace hx121_0 := cH HB hx121_0
        replace hx121_1 := cH HB hx121_1
        replace p121 := eq_true p121
        replace q121 := eq_true q121
        have p122 : 0 ≤ (x5_1 : Int) := of_decide_eq_true (by first | (with_reducible assumption) | assumption)
        have q122 : x5_1 < (l1.length : Int) := of_decide_eq_true (by first | (with_reducible assumption) | assumption)
        obtain ⟨ad122, e122, hx122_0, hx122_1⟩ := at_T45 HR1.out x5_1 p122 q122
        have hw122_1 := hx122_1
        have hw122_0 := hx122_0
        cases e122
        replace hx122_0 := cH HB hx122_0
        replace hx122_1 := cH HB hx122_1
        replace p122 := eq_true p122
        replace q122 := eq_true q122
        refine st_ 10 (S := fun w' => w'.cell? (ad121.add ((x5_1).toNat * 2)) = some (.int .i64 ((rd_T45 l0 x5_1).f0)) ∧ w'.cell? ⟨(ad121.add ((x5_1).toNat * 2)).block, (ad121.add ((x5_1).toNat * 2)).off + 1, none⟩ = some (.int .i64 ((rd_T45 l0 x5_1).f1)) ∧ w'.cell? (ad122.add ((x5_1).toNat * 2)) = some (.int .i64 ((rd_T45 l1 x5_1).f0)) ∧ w'.cell? ⟨(ad122.add ((x5_1).toNat * 2)).block, (ad122.add ((x5_1).toNat * 2)).off + 1, none⟩ = some (.int .i64 ((rd_T45 l1 x5_1).f1))) (ds := []) ⟨(cH HB hw121_0 :), (cH HB hw121_1 :), (cH HB hw122_0 :), (cH HB hw122_1 :)⟩ (fun hHeld => ?_); refine with_tabW laws_eqPairS.tab6 laws_eqPairS.bits6 (fun HT_ HW_ => ?_)
        generalize wr.drew = w11 at HB hx121_0 hx121_1 hx122_0 hx122_1 hHeld ⊢
        refine pu_ 0 17 1 HT_ ?_
        refine pu_ 1 18 3 HT_ ?_
        refine pu_ 2 19 7 HT_ ?_
        refine pu_ 4 21 23 HT_ ?_
        refine pu_ 5 22 55 HT_ ?_
        refine pu_ 6 23 119 HT_ ?_
        refine tk_ 3 20 127 HT_ HW_ hHeld ?_
        refine tk_ 7 24 255 HT_ HW_ hHeld ?_
        refine on_ 8 (some 25) 511 HT_ (fun K hK => ?_)
        refine ca_ Tryz.func36 #[.agg #[.int .i64 ((rd_T45 l0 x5_1).f0), .int .i64 ((rd_T45 l0 x5_1).f1)], .agg #[.int .i64 ((rd_T45 l1 x5_1).f0), .int .i64 ((rd_T45 l1 x5_1).f1)]] ?_
        with_reducible refine (laws_eqPair.calls ((rd_T45 l0 x5_1).f0) ((rd_T45 l0 x5_1).f1) ((rd_T45 l1 x5_1).f0) ((rd_T45 l1 x5_1).f1) false _ A7.out).mono ?_
        rintro e w12 ⟨rfl, hb⟩
        refine ⟨_, rfl, ?_⟩
        replace HB := sH HB hb
        (try clear hb)
        (try clear hb2)
        (try clear hk)
        (try clear hi)
        refine hK.out _ _ ⟨(cH HB hw121_0 :), (cH HB hw121_1 :), (cH HB hw122_0 :), (cH HB hw122_1 :)⟩ (fun hHeld => ?_)
        clear hK K
        refine nm_ ?_
        refine pu_ 9 26 1023 HT_ ?_
        refine dn_ HT_ ?_
        try go_wp2
        go_ret
        exact ⟨by first | rfl | (simp [errW_none, errW_some] <;> rfl) | (simp [*, errW_none, errW_some] <;> rfl) | (exfalso; simp_all), pH HB⟩
      ·rw [if_neg c6] at H
       exact absurd H (by simp)
     ·rw [if_neg c5] at H
      exact absurd H (by simp)
    ·rw [if_neg c4] at H
     have c4b0 : decide (x5_1 < (l0.length : Int)) = false := decide_eq_false c4
     clear c4
     obtain rfl := Option.some.inj H
     go_wp2
     go_ret
     exact ⟨by first | rfl | (simp [errW_none, errW_some] <;> rfl) | (simp [*, errW_none, errW_some] <;> rfl) | (exfalso; simp_all), pH HB⟩
 ·rw [if_neg c3] at H
  have c3b0 : ((l0.length : Int) == (l1.length : Int)) = false := beq_eq_false_iff_ne.mpr c3
  have c3b1 : ((l0.length : Int) != (l1.length : Int)) = true := bne_iff_ne.mpr c3
  have c3b2 : (l0.length == l1.length) = false := by first | simpa using c3 | (simp at c3 ⊢; omega)
  obtain rfl := Option.some.inj H
  go_enter Tryz.func10, Tryz.ntmps10
  go_wp2
  go_ret
  exact ⟨by first | rfl | (simp [errW_none, errW_some] <;> rfl) | (simp [*, errW_none, errW_some] <;> rfl) | (exfalso; simp_all), pH HB⟩
def laws_szPairS.f (l0 : List (S44)) (a1 : Int) : Option (Int) := if (wrap64 (a1 - (l0.length : Int))) < 0 then (some (-1)) else (some (wrap64 (a1 - (l0.length : Int))))
set_option maxHeartbeats 8000000 in
set_option maxRecDepth 100000 in
theorem laws_szPairS.calls (A0 : Option Addr) (c0 : Nat) (l0 : List (S44)) (a1 : Int) (r : Int) (w : World) (hr0 : Kd.C k44 w A0 l0.length l0) (hc0 : l0.length ≤ c0) (h : laws_szPairS.f l0 a1 = some r) :
  Calls Tryz.prog 5 #[.slice A0 l0.length c0, .int .i64 a1] w fun e w' => e = .returned (.int .i64 r) ∧ Drawn0 w w' := by
 have HR0 := Aside0.mk hr0
 have HC0 := Aside0.mk hc0
 clear hr0 hc0
 have H : (if (wrap64 (a1 - (l0.length : Int))) < 0 then (some (-1)) else (some (wrap64 (a1 - (l0.length : Int))))) = some r := h
 clear h
 by_cases c3 : (wrap64 (a1 - (l0.length : Int))) < 0
 ·rw [if_pos c3] at H
  have c3b0 : decide ((wrap64 (a1 - (l0.length : Int))) < 0) = true := decide_eq_true c3
  clear c3
  obtain rfl := Option.some.inj H
  go_enter Tryz.func5, Tryz.ntmps5
  go_wp2
  go_ret
  exact ⟨by first | rfl | (simp; done) | (simp [*]; done), by repeat (first | exact Drawn0.refl _ | apply Drawn0.step)⟩
 ·rw [if_neg c3] at H
  have c3b0 : decide ((wrap64 (a1 - (l0.length : Int))) < 0) = false := decide_eq_false c3
  clear c3
  obtain rfl := Option.some.inj H
  go_enter Tryz.func5, Tryz.ntmps5
  go_wp2
  go_ret
  exact ⟨by first | rfl | (simp; done) | (simp [*]; done), by repeat (first | exact Drawn0.refl _ | apply Drawn0.step)⟩
def laws_toPairS.l0 : Nat → List (S44) → List (S45) → Int → Option ((List (S45)))
 | 0, _, _, _ => none
 | k + 1, x0, x3, x4 => if x4 < (x0.length : Int) then (if 0 ≤ x4 then ((laws_toPair.f ((rd_T44 x0 x4).f0) ((rd_T44 x0 x4).f1)).bind fun bt118 => (if x4 < (x3.length : Int) then (laws_toPairS.l0 k x0 (x3.set (x4 : Int).toNat (⟨bt118.1, bt118.2⟩ : S45)) (wrap64 (x4 + 1))) else (none))) else (none)) else (some x3)
def laws_toPairS.f (k : Nat) (l0 : List (S44)) : Option ((List (S45))) := if 0 ≤ (l0.length : Int) then (if ((l0.length : Int) : Int).toNat ≤ 17592186044416 then (laws_toPairS.l0 k l0 (List.replicate ((l0.length : Int) : Int).toNat z45) 0) else (none)) else (none)
set_option maxHeartbeats 8000000 in
set_option maxRecDepth 100000 in
theorem laws_toPairS.calls (k : Nat) (A0 : Option Addr) (c0 : Nat) (l0 : List (S44)) (r : List (S45)) (w : World) (hr0 : Kd.C k44 w A0 l0.length l0) (hc0 : l0.length ≤ c0) (h : laws_toPairS.f k l0 = some r) :
  Calls Tryz.prog 8 #[.slice A0 l0.length c0] w fun e w' => ∃ v0_ : Value, e = .returned (v0_) ∧ Kd.R k45 45 w' w.heap.size (fun _ => True) v0_ r ∧ Below w.heap.size w w' := by
 have hu44 := Tryz.underlying44
 have hu45 := Tryz.underlying45
 have HR0 := Aside0.mk hr0
 have HC0 := Aside0.mk hc0
 clear hr0 hc0
 have HB := Aside0.mk (Below.refl w.heap.size w)
 have H : (if 0 ≤ (l0.length : Int) then (if ((l0.length : Int) : Int).toNat ≤ 17592186044416 then (laws_toPairS.l0 k l0 (List.replicate ((l0.length : Int) : Int).toNat z45) 0) else (none)) else (none)) = some r := h
 clear h
 by_cases c2 : 0 ≤ (l0.length : Int)
 ·rw [if_pos c2] at H
  have c2b0 := eq_true c2
  have c2b1 : decide (0 ≤ (l0.length : Int)) = true := decide_eq_true c2
  clear c2
  by_cases c3 : ((l0.length : Int) : Int).toNat ≤ 17592186044416
  ·rw [if_pos c3] at H
   have c3b0 := eq_true c3
   have c3b1 : decide (((l0.length : Int) : Int).toNat ≤ 17592186044416) = true := decide_eq_true c3
   clear c3
   obtain ⟨y114, hy114⟩ : ∃ y_ : List (S45), y_ = (List.replicate ((l0.length : Int) : Int).toNat z45) := ⟨_, rfl⟩
   replace H : (laws_toPairS.l0 k l0 y114 0) = some r := by first | (rw [hy114]; with_reducible exact H) | (have H2_ := (Option.bind_some _ _).symm.trans H; rw [hy114]; with_reducible exact H2_) | (have H2_ := (Option.bind_some _ _).symm.trans H; with_reducible exact H2_) | with_reducible exact H | (rw [hy114]; exact H) | exact H
   have Ny114 := Aside0.mk hy114
   clear hy114
   have H' := Aside0.mk H
   clear H
   go_enter Tryz.func8, Tryz.ntmps8
   go_wp2_with (first | ((with_reducible refine gate_dst (N := 7) rfl ?_); refine Kd.R_make k45 _ 45 rfl (N := 7) rfl 28 _ _ rfl (l0.length : Int) rfl rfl Tryz.underlying28 (.agg #[(.int .i64 0), (.int .i64 0)]) 16 info45 rfl (by decide) (by omega) z45 (ok := fun _ => True) (okp := fun _ => True) (k45_mkM _ _ _ z45 ) (fun _ hk => hk) trivial (of_decide_eq_true (by first | (with_reducible assumption) | assumption)) (Nat.le_trans (Nat.mul_le_mul_right _ (of_decide_eq_true (by first | (with_reducible assumption) | assumption) : (l0.length : Int).toNat ≤ 17592186044416)) (by omega)) (Below.refl _ _) (Nat.le_refl _) ?_; intro v115 w4 ho5 hb hg_ hnew_; clear hg_ hnew_; (first | rw [← Ny114.out] at ho5 | (simp only [Int.reduceToNat] at ho5; rw [← Ny114.out] at ho5)); have HO116 := Aside0.mk (Kd.R_lower ho5 (below_size (pH HB))); replace HB := sH HB hb; clear hb ho5))
   go_loopg [4] k (fun kq v4 w' => ∃ (x3_1 : List (S45)) (x4_1 : Int), v4 = .int .i64 x4_1 ∧ Aside0 (laws_toPairS.l0 kq l0 x3_1 x4_1 = some r) ∧ Aside0 (kq ≤ k) ∧ Aside0 (Kd.R k45 45 w' w.heap.size (fun _ => True) v115 x3_1) ∧ Aside0 (Below w.heap.size w w'))
   case atStart => exact ⟨(y114), (0), (by first | rfl | (simp; done) | (simp [*]; done)), H', ⟨Nat.le_refl _⟩, ⟨by (with_reducible repeat (first | apply Kd.R_alloc | apply Kd.R_drewN | apply Kd.R_drew)); exact HO116.out⟩, ⟨pH HB⟩⟩
   case round =>
    clear H'
    try clear c2
    try clear c2b0
    try clear c2b1
    try clear p2
    try clear c3
    try clear c3b0
    try clear c3b1
    obtain ⟨x3_1, x4_1, rfl, HA, HK1, HO_3, HB⟩ := hrel
    cases gk with
    | zero => exact absurd HA.out (by simp [laws_toPairS.l0])
    | succ k1 =>
     have H := HA.out
     clear HA
     simp only [laws_toPairS.l0] at H
     by_cases c6 : x4_1 < (l0.length : Int)
     ·rw [if_pos c6] at H
      have c6b0 : decide (x4_1 < (l0.length : Int)) = true := decide_eq_true c6
      clear c6
      by_cases c7 : 0 ≤ x4_1
      ·rw [if_pos c7] at H
       have c7b0 : decide (0 ≤ x4_1) = true := decide_eq_true c7
       clear c7
       replace H := Option.bind_eq_some_iff.mp H
       obtain ⟨⟨t118, t119⟩, A80, H⟩ := H
       try dsimp only at H
       have A8 := Aside0.mk A80
       clear A80
       by_cases c9 : x4_1 < (x3_1.length : Int)
       ·rw [if_pos c9] at H
        have c9b0 : decide (x4_1 < (x3_1.length : Int)) = true := decide_eq_true c9
        clear c9
        obtain ⟨y120, hy120⟩ : ∃ y_ : List (S45), y_ = (x3_1.set (x4_1 : Int).toNat (⟨t118, t119⟩ : S45)) := ⟨_, rfl⟩
        replace H : (laws_toPairS.l0 k1 l0 y120 (wrap64 (x4_1 + 1))) = some r := by first | (rw [hy120]; with_reducible exact H) | (have H2_ := (Option.bind_some _ _).symm.trans H; rw [hy120]; with_reducible exact H2_) | (have H2_ := (Option.bind_some _ _).symm.trans H; with_reducible exact H2_) | with_reducible exact H | (rw [hy120]; exact H) | exact H
        have Ny120 := Aside0.mk hy120
        clear hy120
        have H' := Aside0.mk H
        clear H
        have p117 : 0 ≤ (x4_1 : Int) := of_decide_eq_true (by first | (with_reducible assumption) | assumption)
        have q117 : x4_1 < (l0.length : Int) := of_decide_eq_true (by first | (with_reducible assumption) | assumption)
        obtain ⟨ad117, e117, hx117_0, hx117_1⟩ := at_T44 HR0.out x4_1 p117 q117
        cases e117
        replace hx117_0 := cH HB hx117_0
        replace hx117_1 := cH HB hx117_1
        replace p117 := eq_true p117
        replace q117 := eq_true q117
        go_wp2_with (first | ((with_reducible refine gate_callee (f := 23) rfl ?_); refine cl_ (some 20) Tryz.func23 #[.agg #[.int .i64 ((rd_T44 l0 x4_1).f0), .int .i64 ((rd_T44 l0 x4_1).f1)]] ?_; (with_reducible refine (laws_toPair.calls ((rd_T44 l0 x4_1).f0) ((rd_T44 l0 x4_1).f1) t118 t119 _ A8.out).mono ?_); rintro e w11 ⟨rfl, hb⟩; refine ⟨_, rfl, ?_⟩; replace HO_3 := sR HO_3 hb; replace HB := sH HB hb; (try clear hb); (try clear hi); have p10 : 0 ≤ (x4_1 : Int) := of_decide_eq_true (by first | (with_reducible assumption) | assumption); have q10 : (x4_1 : Int) < ((x3_1.length : Int) : Int) := of_decide_eq_true (by first | (with_reducible assumption) | assumption); obtain ⟨go10, co10, eo10, gb10, gl10, cl10, HG10⟩ := Kd.R_form HO_3.out (by omega); (first | cases eo10 | (injection eo10 with ea_ en_ ec_; (first | subst ea_ | (injection ea_ with ea_; subst ea_)); subst ec_; clear en_)); have GB10 := Aside0.mk gb10; have GG10 := Aside0.mk HG10; clear gb10 gl10 HG10; obtain ⟨ce10, hcl10, hM10, hcc10, hfr10⟩ := Kd.R_elem HO_3.out z45 (x4_1 : Int) p10 q10; obtain rfl := k45_openM hM10; have hx10_0 : w11.cell? ⟨go10, (x4_1 : Int).toNat * 2, none⟩ = some (.int .i64 ((rd_T45 x3_1 x4_1).f0)) := hcc10 0 _ rfl; have hx10_1 : w11.cell? ⟨go10, (x4_1 : Int).toNat * 2 + 1, none⟩ = some (.int .i64 ((rd_T45 x3_1 x4_1).f1)) := hcc10 1 _ rfl; have hf10_0 : w11.frozen? ⟨go10, (x4_1 : Int).toNat * 2, none⟩ = false := hfr10 0; have hf10_1 : w11.frozen? ⟨go10, (x4_1 : Int).toNat * 2 + 1, none⟩ = false := hfr10 1; clear hcl10 hcc10 hfr10 hM10; replace p10 := eq_true p10; replace q10 := eq_true q10; have HX12 := Aside0.mk (show Kd.R k45 45 w11 w.heap.size (fun _ => True) (.slice (some ⟨go10, 0, none⟩) x3_1.length co10) x3_1 from (pR HO_3)); obtain ⟨ce12, hcl12, hM12, hcc12, hfr12⟩ := Kd.R_elem HX12.out z45 (x4_1 : Int) (of_decide_eq_true (by first | (with_reducible assumption) | assumption)) (by have h_ : (x4_1 : Int) < ((x3_1.length : Int) : Int) := of_decide_eq_true (by first | (with_reducible assumption) | assumption); first | exact h_ | (have e_ := (Kd.R_reads' HO_3.out).1; omega) | simpa using h_); obtain rfl := k45_openM hM12; have HP12 := Kd.R_seg HX12.out (x4_1 : Int) (of_decide_eq_true (by first | (with_reducible assumption) | assumption)) (by have h_ : (x4_1 : Int) < ((x3_1.length : Int) : Int) := of_decide_eq_true (by first | (with_reducible assumption) | assumption); first | exact h_ | (have e_ := (Kd.R_reads' HO_3.out).1; omega) | simpa using h_) (seg := [.int .i64 t118, .int .i64 t119]) (j := 0) hcl12 hcc12 (show 2 ≤ 2 from by decide) (x' := (⟨t118, t119⟩ : S45)) (k45_mkM _ _ _ (⟨t118, t119⟩ : S45) ) (fun _ hk => hk); have hx12_0 := hcc12 0 _ rfl; (try simp only [show (k45).sz = 2 from rfl, Nat.mul_one, Nat.add_zero] at hx12_0); have hf12_0 := hfr12 0; (try simp only [show (k45).sz = 2 from rfl, Nat.mul_one, Nat.add_zero] at hf12_0); have hx12_1 := hcc12 1 _ rfl; (try simp only [show (k45).sz = 2 from rfl, Nat.mul_one, Nat.add_zero] at hx12_1); have hf12_1 := hfr12 1; (try simp only [show (k45).sz = 2 from rfl, Nat.mul_one, Nat.add_zero] at hf12_1); clear hcl12 hcc12 hfr12 hM12) | ((with_reducible refine gate_store (t := 45) (p := 21) rfl ?_); refine store_event (t := 45) (p := 21) (v := ?vo_w13) (w1 := ((w11.setCell ⟨go10, (x4_1 : Int).toNat * 2, none⟩ (.int .i64 t118)).setCell ⟨go10, (x4_1 : Int).toNat * 2 + 1, none⟩ (.int .i64 t119))) ?hg ?ho ?hn ?hr ?_; (case ho => rfl); (case hg => rfl); (case hn => rfl); (case hr => first | (go_simp; done) | (go_simp; rfl)); intro w13 hw; have hg : w11.grownBy w13 (some go10) := (by rw [hw]; exact HP12.2); have hp_ : Kd.R k45 45 w13 w.heap.size (fun _ => True) (.slice (some ⟨go10, 0, none⟩) x3_1.length co10) y120 := (by rw [hw, Ny120.out]; exact HP12.1); clear HP12; have n0_ := Aside0.mk (hp_); have n1_ := Aside0.mk ((by rw [hw]; exact below_set (below_set (HB.out) GB10.out) GB10.out : Below w.heap.size w w13)); clear HO_3; clear HB; have HO_3 := n0_; have HB := n1_; clear n0_ n1_; clear hg hw hp_))
        go_roundg k1
        case measure => have := HK1.out; omega
        case rel => exact ⟨(y120), (wrap64 (x4_1 + 1)), (by first | rfl | (simp; done) | (simp [*]; done)), H', ⟨by have := HK1.out; omega⟩, ⟨by (with_reducible repeat (first | apply Kd.R_alloc | apply Kd.R_drewN | apply Kd.R_drew)); exact HO_3.out⟩, ⟨pH HB⟩⟩
       ·rw [if_neg c9] at H
        exact absurd H (by simp)
      ·rw [if_neg c7] at H
       exact absurd H (by simp)
     ·rw [if_neg c6] at H
      have c6b0 : decide (x4_1 < (l0.length : Int)) = false := decide_eq_false c6
      clear c6
      obtain rfl := Option.some.inj H
      go_wp2
      go_ret
      exact ⟨_, by first | rfl | (simp [errW_none, errW_some] <;> rfl) | (simp [*, errW_none, errW_some] <;> rfl) | (exfalso; simp_all), by (with_reducible repeat (first | apply Kd.R_alloc | apply Kd.R_drewN | apply Kd.R_drew)); exact HO_3.out, pH HB⟩
  ·rw [if_neg c3] at H
   exact absurd H (by simp)
 ·rw [if_neg c2] at H
  exact absurd H (by simp)
end Go.Proofs.YtdnbmobdiidfmaaGreat.QS
