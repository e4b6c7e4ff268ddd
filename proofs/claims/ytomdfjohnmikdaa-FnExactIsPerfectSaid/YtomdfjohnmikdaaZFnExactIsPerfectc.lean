/- Words and lemmas for FnExactIsPerfect, part 3: what the row's text comes to. -/
import Derived.Test.YtomdfjohnmikdaaProg
import Derived.Below
import Derived.Deep.Draws
import Derived.Deep.AppendLies
import Derived.Maps.AppendAt
import Derived.OwnWalk
import Derived.Laws.BytesArg
import Derived.Laws.MakeOwn
import Derived.Laws.OwnMore
import Derived.Deep.OwnRows
import Derived.Tactics
import Derived.Lib.ConvBytes
import Derived.Laws.Slices
import Derived.WalkKit
import Derived.KernelRfl
import Derived.RowKit3
import Derived.Deep.LoopGhost
import Derived.Deep.QuietTactic
import Derived.BigQuiet
import Derived.WideLaws
import Derived.Deep.DeepCutAuto
import Derived.Deep.CutBlock
import Derived.Deep.RegionHeld3
import Derived.Laws.Rows
import Derived.Lib.AppendStr
import Derived.ArgAppend
import Derived.Laws.IdiomCopy
import Derived.OrdersHeld
import Derived.Laws.BitsLemmas
import Derived.RowKit
import Derived.Test.YtomdfjohnmikdaaZFnExactIsPerfectb
namespace Go.Proofs.Ytomdfjohnmikdaa.QI
open Go.Proofs.Ytomdfjohnmikdaa.Kp Go.Proofs.Ytomdfjohnmikdaa.Ext Go.RowKit Go.Proofs.YtomdfjohnmikdaaW.PrintWords Go.Proofs.YtomdfjohnmikdaaW.PrintLast Go.Proofs.YtomdfjohnmikdaaW.PrintMore
attribute [local go_sem] max2_int min2_int max_two min_two max_three min_three max_four min_four   -- for this text's walks alone
set_option linter.unusedVariables false
set_option linter.unusedSimpArgs false
def errW : Option Int → Value
  | none => .nilIface
  | some c => .iface 0 (.int .i64 c)
theorem errW_none : errW none = .nilIface := rfl
theorem errW_some (c : Int) : errW (some c) = .iface 0 (.int .i64 c) := rfl
end Go.Proofs.Ytomdfjohnmikdaa.QI
namespace Go.Proofs.Ytomdfjohnmikdaa.QI
open Go.Proofs.Ytomdfjohnmikdaa.Kp Go.Proofs.Ytomdfjohnmikdaa.Ext Go.RowKit Go.Proofs.YtomdfjohnmikdaaW.PrintWords Go.Proofs.YtomdfjohnmikdaaW.PrintLast Go.Proofs.YtomdfjohnmikdaaW.PrintMore
attribute [local go_sem] max2_int min2_int max_two min_two max_three min_three max_four min_four   -- for this text's walks alone
set_option linter.unusedVariables false
set_option linter.unusedSimpArgs false
def bits_OnesCount64.f (a0 : Int) : Option (Int) := some (Go.bits .and .i64 (wrap64 (IntKind.u64.wrap ((IntKind.u64.wrap ((IntKind.u64.wrap ((Go.bits .and .u64 (IntKind.u64.wrap (((IntKind.u64.wrap ((Go.bits .and .u64 ((IntKind.u64.wrap ((Go.bits .and .u64 (a0 / 2) 6148914691236517205) + (Go.bits .and .u64 a0 6148914691236517205))) / 4) 3689348814741910323) + (Go.bits .and .u64 (IntKind.u64.wrap ((Go.bits .and .u64 (a0 / 2) 6148914691236517205) + (Go.bits .and .u64 a0 6148914691236517205))) 3689348814741910323))) / 16) + (IntKind.u64.wrap ((Go.bits .and .u64 ((IntKind.u64.wrap ((Go.bits .and .u64 (a0 / 2) 6148914691236517205) + (Go.bits .and .u64 a0 6148914691236517205))) / 4) 3689348814741910323) + (Go.bits .and .u64 (IntKind.u64.wrap ((Go.bits .and .u64 (a0 / 2) 6148914691236517205) + (Go.bits .and .u64 a0 6148914691236517205))) 3689348814741910323))))) 1085102592571150095) + ((Go.bits .and .u64 (IntKind.u64.wrap (((IntKind.u64.wrap ((Go.bits .and .u64 ((IntKind.u64.wrap ((Go.bits .and .u64 (a0 / 2) 6148914691236517205) + (Go.bits .and .u64 a0 6148914691236517205))) / 4) 3689348814741910323) + (Go.bits .and .u64 (IntKind.u64.wrap ((Go.bits .and .u64 (a0 / 2) 6148914691236517205) + (Go.bits .and .u64 a0 6148914691236517205))) 3689348814741910323))) / 16) + (IntKind.u64.wrap ((Go.bits .and .u64 ((IntKind.u64.wrap ((Go.bits .and .u64 (a0 / 2) 6148914691236517205) + (Go.bits .and .u64 a0 6148914691236517205))) / 4) 3689348814741910323) + (Go.bits .and .u64 (IntKind.u64.wrap ((Go.bits .and .u64 (a0 / 2) 6148914691236517205) + (Go.bits .and .u64 a0 6148914691236517205))) 3689348814741910323))))) 1085102592571150095) / 256))) + ((IntKind.u64.wrap ((Go.bits .and .u64 (IntKind.u64.wrap (((IntKind.u64.wrap ((Go.bits .and .u64 ((IntKind.u64.wrap ((Go.bits .and .u64 (a0 / 2) 6148914691236517205) + (Go.bits .and .u64 a0 6148914691236517205))) / 4) 3689348814741910323) + (Go.bits .and .u64 (IntKind.u64.wrap ((Go.bits .and .u64 (a0 / 2) 6148914691236517205) + (Go.bits .and .u64 a0 6148914691236517205))) 3689348814741910323))) / 16) + (IntKind.u64.wrap ((Go.bits .and .u64 ((IntKind.u64.wrap ((Go.bits .and .u64 (a0 / 2) 6148914691236517205) + (Go.bits .and .u64 a0 6148914691236517205))) / 4) 3689348814741910323) + (Go.bits .and .u64 (IntKind.u64.wrap ((Go.bits .and .u64 (a0 / 2) 6148914691236517205) + (Go.bits .and .u64 a0 6148914691236517205))) 3689348814741910323))))) 1085102592571150095) + ((Go.bits .and .u64 (IntKind.u64.wrap (((IntKind.u64.wrap ((Go.bits .and .u64 ((IntKind.u64.wrap ((Go.bits .and .u64 (a0 / 2) 6148914691236517205) + (Go.bits .and .u64 a0 6148914691236517205))) / 4) 3689348814741910323) + (Go.bits .and .u64 (IntKind.u64.wrap ((Go.bits .and .u64 (a0 / 2) 6148914691236517205) + (Go.bits .and .u64 a0 6148914691236517205))) 3689348814741910323))) / 16) + (IntKind.u64.wrap ((Go.bits .and .u64 ((IntKind.u64.wrap ((Go.bits .and .u64 (a0 / 2) 6148914691236517205) + (Go.bits .and .u64 a0 6148914691236517205))) / 4) 3689348814741910323) + (Go.bits .and .u64 (IntKind.u64.wrap ((Go.bits .and .u64 (a0 / 2) 6148914691236517205) + (Go.bits .and .u64 a0 6148914691236517205))) 3689348814741910323))))) 1085102592571150095) / 256))) / 65536))) + ((IntKind.u64.wrap ((IntKind.u64.wrap ((Go.bits .and .u64 (IntKind.u64.wrap (((IntKind.u64.wrap ((Go.bits .and .u64 ((IntKind.u64.wrap ((Go.bits .and .u64 (a0 / 2) 6148914691236517205) + (Go.bits .and .u64 a0 6148914691236517205))) / 4) 3689348814741910323) + (Go.bits .and .u64 (IntKind.u64.wrap ((Go.bits .and .u64 (a0 / 2) 6148914691236517205) + (Go.bits .and .u64 a0 6148914691236517205))) 3689348814741910323))) / 16) + (IntKind.u64.wrap ((Go.bits .and .u64 ((IntKind.u64.wrap ((Go.bits .and .u64 (a0 / 2) 6148914691236517205) + (Go.bits .and .u64 a0 6148914691236517205))) / 4) 3689348814741910323) + (Go.bits .and .u64 (IntKind.u64.wrap ((Go.bits .and .u64 (a0 / 2) 6148914691236517205) + (Go.bits .and .u64 a0 6148914691236517205))) 3689348814741910323))))) 1085102592571150095) + ((Go.bits .and .u64 (IntKind.u64.wrap (((IntKind.u64.wrap ((Go.bits .and .u64 ((IntKind.u64.wrap ((Go.bits .and .u64 (a0 / 2) 6148914691236517205) + (Go.bits .and .u64 a0 6148914691236517205))) / 4) 3689348814741910323) + (Go.bits .and .u64 (IntKind.u64.wrap ((Go.bits .and .u64 (a0 / 2) 6148914691236517205) + (Go.bits .and .u64 a0 6148914691236517205))) 3689348814741910323))) / 16) + (IntKind.u64.wrap ((Go.bits .and .u64 ((IntKind.u64.wrap ((Go.bits .and .u64 (a0 / 2) 6148914691236517205) + (Go.bits .and .u64 a0 6148914691236517205))) / 4) 3689348814741910323) + (Go.bits .and .u64 (IntKind.u64.wrap ((Go.bits .and .u64 (a0 / 2) 6148914691236517205) + (Go.bits .and .u64 a0 6148914691236517205))) 3689348814741910323))))) 1085102592571150095) / 256))) + ((IntKind.u64.wrap ((Go.bits .and .u64 (IntKind.u64.wrap (((IntKind.u64.wrap ((Go.bits .and .u64 ((IntKind.u64.wrap ((Go.bits .and .u64 (a0 / 2) 6148914691236517205) + (Go.bits .and .u64 a0 6148914691236517205))) / 4) 3689348814741910323) + (Go.bits .and .u64 (IntKind.u64.wrap ((Go.bits .and .u64 (a0 / 2) 6148914691236517205) + (Go.bits .and .u64 a0 6148914691236517205))) 3689348814741910323))) / 16) + (IntKind.u64.wrap ((Go.bits .and .u64 ((IntKind.u64.wrap ((Go.bits .and .u64 (a0 / 2) 6148914691236517205) + (Go.bits .and .u64 a0 6148914691236517205))) / 4) 3689348814741910323) + (Go.bits .and .u64 (IntKind.u64.wrap ((Go.bits .and .u64 (a0 / 2) 6148914691236517205) + (Go.bits .and .u64 a0 6148914691236517205))) 3689348814741910323))))) 1085102592571150095) + ((Go.bits .and .u64 (IntKind.u64.wrap (((IntKind.u64.wrap ((Go.bits .and .u64 ((IntKind.u64.wrap ((Go.bits .and .u64 (a0 / 2) 6148914691236517205) + (Go.bits .and .u64 a0 6148914691236517205))) / 4) 3689348814741910323) + (Go.bits .and .u64 (IntKind.u64.wrap ((Go.bits .and .u64 (a0 / 2) 6148914691236517205) + (Go.bits .and .u64 a0 6148914691236517205))) 3689348814741910323))) / 16) + (IntKind.u64.wrap ((Go.bits .and .u64 ((IntKind.u64.wrap ((Go.bits .and .u64 (a0 / 2) 6148914691236517205) + (Go.bits .and .u64 a0 6148914691236517205))) / 4) 3689348814741910323) + (Go.bits .and .u64 (IntKind.u64.wrap ((Go.bits .and .u64 (a0 / 2) 6148914691236517205) + (Go.bits .and .u64 a0 6148914691236517205))) 3689348814741910323))))) 1085102592571150095) / 256))) / 65536))) / 4294967296)))) 127)
set_option maxHeartbeats 8000000 in
set_option maxRecDepth 100000 in
theorem bits_OnesCount64.calls (a0 : Int) (r : Int) (w : World) (h : bits_OnesCount64.f a0 = some r) :
    Calls Try.prog 174 #[.int .u64 a0] w fun e w' => e = .returned (.int .i64 r) ∧ Drawn0 w w' := by
  have H : (some (Go.bits .and .i64 (wrap64 (IntKind.u64.wrap ((IntKind.u64.wrap ((IntKind.u64.wrap ((Go.bits .and .u64 (IntKind.u64.wrap (((IntKind.u64.wrap ((Go.bits .and .u64 ((IntKind.u64.wrap ((Go.bits .and .u64 (a0 / 2) 6148914691236517205) + (Go.bits .and .u64 a0 6148914691236517205))) / 4) 3689348814741910323) + (Go.bits .and .u64 (IntKind.u64.wrap ((Go.bits .and .u64 (a0 / 2) 6148914691236517205) + (Go.bits .and .u64 a0 6148914691236517205))) 3689348814741910323))) / 16) + (IntKind.u64.wrap ((Go.bits .and .u64 ((IntKind.u64.wrap ((Go.bits .and .u64 (a0 / 2) 6148914691236517205) + (Go.bits .and .u64 a0 6148914691236517205))) / 4) 3689348814741910323) + (Go.bits .and .u64 (IntKind.u64.wrap ((Go.bits .and .u64 (a0 / 2) 6148914691236517205) + (Go.bits .and .u64 a0 6148914691236517205))) 3689348814741910323))))) 1085102592571150095) + ((Go.bits .and .u64 (IntKind.u64.wrap (((IntKind.u64.wrap ((Go.bits .and .u64 ((IntKind.u64.wrap ((Go.bits .and .u64 (a0 / 2) 6148914691236517205) + (Go.bits .and .u64 a0 6148914691236517205))) / 4) 3689348814741910323) + (Go.bits .and .u64 (IntKind.u64.wrap ((Go.bits .and .u64 (a0 / 2) 6148914691236517205) + (Go.bits .and .u64 a0 6148914691236517205))) 3689348814741910323))) / 16) + (IntKind.u64.wrap ((Go.bits .and .u64 ((IntKind.u64.wrap ((Go.bits .and .u64 (a0 / 2) 6148914691236517205) + (Go.bits .and .u64 a0 6148914691236517205))) / 4) 3689348814741910323) + (Go.bits .and .u64 (IntKind.u64.wrap ((Go.bits .and .u64 (a0 / 2) 6148914691236517205) + (Go.bits .and .u64 a0 6148914691236517205))) 3689348814741910323))))) 1085102592571150095) / 256))) + ((IntKind.u64.wrap ((Go.bits .and .u64 (IntKind.u64.wrap (((IntKind.u64.wrap ((Go.bits .and .u64 ((IntKind.u64.wrap ((Go.bits .and .u64 (a0 / 2) 6148914691236517205) + (Go.bits .and .u64 a0 6148914691236517205))) / 4) 3689348814741910323) + (Go.bits .and .u64 (IntKind.u64.wrap ((Go.bits .and .u64 (a0 / 2) 6148914691236517205) + (Go.bits .and .u64 a0 6148914691236517205))) 3689348814741910323))) / 16) + (IntKind.u64.wrap ((Go.bits .and .u64 ((IntKind.u64.wrap ((Go.bits .and .u64 (a0 / 2) 6148914691236517205) + (Go.bits .and .u64 a0 6148914691236517205))) / 4) 3689348814741910323) + (Go.bits .and .u64 (IntKind.u64.wrap ((Go.bits .and .u64 (a0 / 2) 6148914691236517205) + (Go.bits .and .u64 a0 6148914691236517205))) 3689348814741910323))))) 1085102592571150095) + ((Go.bits .and .u64 (IntKind.u64.wrap (((IntKind.u64.wrap ((Go.bits .and .u64 ((IntKind.u64.wrap ((Go.bits .and .u64 (a0 / 2) 6148914691236517205) + (Go.bits .and .u64 a0 6148914691236517205))) / 4) 3689348814741910323) + (Go.bits .and .u64 (IntKind.u64.wrap ((Go.bits .and .u64 (a0 / 2) 6148914691236517205) + (Go.bits .and .u64 a0 6148914691236517205))) 3689348814741910323))) / 16) + (IntKind.u64.wrap ((Go.bits .and .u64 ((IntKind.u64.wrap ((Go.bits .and .u64 (a0 / 2) 6148914691236517205) + (Go.bits .and .u64 a0 6148914691236517205))) / 4) 3689348814741910323) + (Go.bits .and .u64 (IntKind.u64.wrap ((Go.bits .and .u64 (a0 / 2) 6148914691236517205) + (Go.bits .and .u64 a0 6148914691236517205))) 3689348814741910323))))) 1085102592571150095) / 256))) / 65536))) + ((IntKind.u64.wrap ((IntKind.u64.wrap ((Go.bits .and .u64 (IntKind.u64.wrap (((IntKind.u64.wrap ((Go.bits .and .u64 ((IntKind.u64.wrap ((Go.bits .and .u64 (a0 / 2) 6148914691236517205) + (Go.bits .and .u64 a0 6148914691236517205))) / 4) 3689348814741910323) + (Go.bits .and .u64 (IntKind.u64.wrap ((Go.bits .and .u64 (a0 / 2) 6148914691236517205) + (Go.bits .and .u64 a0 6148914691236517205))) 3689348814741910323))) / 16) + (IntKind.u64.wrap ((Go.bits .and .u64 ((IntKind.u64.wrap ((Go.bits .and .u64 (a0 / 2) 6148914691236517205) + (Go.bits .and .u64 a0 6148914691236517205))) / 4) 3689348814741910323) + (Go.bits .and .u64 (IntKind.u64.wrap ((Go.bits .and .u64 (a0 / 2) 6148914691236517205) + (Go.bits .and .u64 a0 6148914691236517205))) 3689348814741910323))))) 1085102592571150095) + ((Go.bits .and .u64 (IntKind.u64.wrap (((IntKind.u64.wrap ((Go.bits .and .u64 ((IntKind.u64.wrap ((Go.bits .and .u64 (a0 / 2) 6148914691236517205) + (Go.bits .and .u64 a0 6148914691236517205))) / 4) 3689348814741910323) + (Go.bits .and .u64 (IntKind.u64.wrap ((Go.bits .and .u64 (a0 / 2) 6148914691236517205) + (Go.bits .and .u64 a0 6148914691236517205))) 3689348814741910323))) / 16) + (IntKind.u64.wrap ((Go.bits .and .u64 ((IntKind.u64.wrap ((Go.bits .and .u64 (a0 / 2) 6148914691236517205) + (Go.bits .and .u64 a0 6148914691236517205))) / 4) 3689348814741910323) + (Go.bits .and .u64 (IntKind.u64.wrap ((Go.bits .and .u64 (a0 / 2) 6148914691236517205) + (Go.bits .and .u64 a0 6148914691236517205))) 3689348814741910323))))) 1085102592571150095) / 256))) + ((IntKind.u64.wrap ((Go.bits .and .u64 (IntKind.u64.wrap (((IntKind.u64.wrap ((Go.bits .and .u64 ((IntKind.u64.wrap ((Go.bits .and .u64 (a0 / 2) 6148914691236517205) + (Go.bits .and .u64 a0 6148914691236517205))) / 4) 3689348814741910323) + (Go.bits .and .u64 (IntKind.u64.wrap ((Go.bits .and .u64 (a0 / 2) 6148914691236517205) + (Go.bits .and .u64 a0 6148914691236517205))) 3689348814741910323))) / 16) + (IntKind.u64.wrap ((Go.bits .and .u64 ((IntKind.u64.wrap ((Go.bits .and .u64 (a0 / 2) 6148914691236517205) + (Go.bits .and .u64 a0 6148914691236517205))) / 4) 3689348814741910323) + (Go.bits .and .u64 (IntKind.u64.wrap ((Go.bits .and .u64 (a0 / 2) 6148914691236517205) + (Go.bits .and .u64 a0 6148914691236517205))) 3689348814741910323))))) 1085102592571150095) + ((Go.bits .and .u64 (IntKind.u64.wrap (((IntKind.u64.wrap ((Go.bits .and .u64 ((IntKind.u64.wrap ((Go.bits .and .u64 (a0 / 2) 6148914691236517205) + (Go.bits .and .u64 a0 6148914691236517205))) / 4) 3689348814741910323) + (Go.bits .and .u64 (IntKind.u64.wrap ((Go.bits .and .u64 (a0 / 2) 6148914691236517205) + (Go.bits .and .u64 a0 6148914691236517205))) 3689348814741910323))) / 16) + (IntKind.u64.wrap ((Go.bits .and .u64 ((IntKind.u64.wrap ((Go.bits .and .u64 (a0 / 2) 6148914691236517205) + (Go.bits .and .u64 a0 6148914691236517205))) / 4) 3689348814741910323) + (Go.bits .and .u64 (IntKind.u64.wrap ((Go.bits .and .u64 (a0 / 2) 6148914691236517205) + (Go.bits .and .u64 a0 6148914691236517205))) 3689348814741910323))))) 1085102592571150095) / 256))) / 65536))) / 4294967296)))) 127)) = some r := h
  clear h
  obtain rfl := Option.some.inj H
  go_enter Try.func174, Try.ntmps174
  go_wp2
  go_ret
  exact ⟨by first | rfl | (simp; done) | (simp [*]; done), by repeat (first | exact Drawn0.refl _ | apply Drawn0.step)⟩
def impl_size.f (a0 : Int) : Option (Int) := (bits_OnesCount64.f (IntKind.u64.wrap (a0))).bind fun t101 => (some t101)
set_option maxHeartbeats 8000000 in
set_option maxRecDepth 100000 in
theorem impl_size.calls (a0 : Int) (r : Int) (w : World) (h : impl_size.f a0 = some r) :
    Calls Try.prog 136 #[.int .i64 a0] w fun e w' => e = .returned (.int .i64 r) ∧ Drawn0 w w' := by
  have H : ((bits_OnesCount64.f (IntKind.u64.wrap (a0))).bind fun t101 => (some t101)) = some r := h
  clear h
  replace H := Option.bind_eq_some_iff.mp H
  obtain ⟨t101, A20, H⟩ := H
  replace H : (some t101) = some r := H
  have A2 := Aside0.mk A20
  clear A20
  obtain rfl := Option.some.inj H
  go_enter Try.func136, Try.ntmps136
  go_wp2_with (first | ((with_reducible refine gate_callee (f := 174) rfl ?_); refine goesL_ (some 5) rfl rfl Try.func174 (by kernel_rfl) rfl #[.int .u64 (IntKind.u64.wrap (a0))] rfl (by (try simp only [List.map_toArray, List.map_cons, List.map_nil]); first | done | rfl | (simp only [List.length_drop, List.length_take]; rfl)) ?_; (with_reducible refine (bits_OnesCount64.calls (IntKind.u64.wrap (a0)) t101 _ A2.out).mono ?_); rintro e w' ⟨rfl, ⟨nd, rfl⟩⟩; refine ⟨_, rfl, ?_⟩))
  go_ret
  exact ⟨by first | rfl | (simp; done) | (simp [*]; done), by repeat (first | exact Drawn0.refl _ | apply Drawn0.step)⟩
def impl_dimension.f (a0 : Int) : Option (Int) := (impl_size.f a0).bind fun t102 => (some (wrap64 (t102 - 1)))
set_option maxHeartbeats 8000000 in
set_option maxRecDepth 100000 in
theorem impl_dimension.calls (a0 : Int) (r : Int) (w : World) (h : impl_dimension.f a0 = some r) :
    Calls Try.prog 107 #[.int .i64 a0] w fun e w' => e = .returned (.int .i64 r) ∧ Drawn0 w w' := by
  have H : ((impl_size.f a0).bind fun t102 => (some (wrap64 (t102 - 1)))) = some r := h
  clear h
  replace H := Option.bind_eq_some_iff.mp H
  obtain ⟨t102, A20, H⟩ := H
  replace H : (some (wrap64 (t102 - 1))) = some r := H
  have A2 := Aside0.mk A20
  clear A20
  obtain rfl := Option.some.inj H
  go_enter Try.func107, Try.ntmps107
  go_wp2_with (first | ((with_reducible refine gate_callee (f := 136) rfl ?_); refine goesL_ (some 4) rfl rfl Try.func136 (by kernel_rfl) rfl #[.int .i64 a0] rfl (by (try simp only [List.map_toArray, List.map_cons, List.map_nil]); first | done | rfl | (simp only [List.length_drop, List.length_take]; rfl)) ?_; (with_reducible refine (impl_size.calls a0 t102 _ A2.out).mono ?_); rintro e w' ⟨rfl, ⟨nd, rfl⟩⟩; refine ⟨_, rfl, ?_⟩))
  go_ret
  exact ⟨by first | rfl | (simp; done) | (simp [*]; done), by repeat (first | exact Drawn0.refl _ | apply Drawn0.step)⟩
def impl_Complex_dimension.l0 : Nat → Int → List Int → Int → Int → Option (Int)
  | 0, _, _, _, _ => none
  | k + 1, x3, x7, x8, x9 => if x9 < x8 then (if 0 ≤ x9 then (if x9 < (x7.length : Int) then ((impl_dimension.f (rd x7 x9)).bind fun t105 => (impl_Complex_dimension.l0 k (mx x3 t105) x7 x8 (wrap64 (x9 + 1)))) else (none)) else (none)) else (some x3)
def impl_Complex_dimension.f (k : Nat) (a0_0 : Int) (l0_1 : List Int) : Option (Int) := impl_Complex_dimension.l0 k (-1) l0_1 (l0_1.length : Int) 0
set_option maxHeartbeats 8000000 in
set_option maxRecDepth 100000 in
theorem impl_Complex_dimension.calls (k : Nat) (a0_0 : Int) (A0_1 : Option Addr) (c0_1 : Nat) (l0_1 : List Int) (r : Int) (w : World) (hr0_1 : Kd.C (Kd.int .i64) w A0_1 l0_1.length l0_1) (hc0_1 : l0_1.length ≤ c0_1) (h : impl_Complex_dimension.f k a0_0 l0_1 = some r) :
    Calls Try.prog 56 #[.agg #[.int .i64 a0_0, .slice A0_1 l0_1.length c0_1]] w fun e w' => e = .returned (.int .i64 r) ∧ Below w.heap.size w w' := by
  have hu28 := Try.underlying28
  have HR0_1 := Aside0.mk hr0_1
  have HC0_1 := Aside0.mk hc0_1
  clear hr0_1 hc0_1
  have HB := Aside0.mk (Below.refl w.heap.size w)
  have H : (impl_Complex_dimension.l0 k (-1) l0_1 (l0_1.length : Int) 0) = some r := h
  clear h
  have H' := Aside0.mk H
  clear H
  go_enter Try.func56, Try.ntmps56
  go_wp2_with (first | ((with_reducible refine gate_dst (N := 1) rfl ?_); refine box_event ?hg (N := 1) ?hd (cs := #[.int .i64 a0_0, .slice A0_1 l0_1.length c0_1]) (t := 28) ?hr ?_; (case hd => rfl); (case hg => rfl); (case hr => first | (go_simp; done) | (go_simp; rfl)); intro gb103 hg w2 hbox hb; have n0_ := Aside0.mk (below_step (by repeat (first | (with_reducible first | exact HB.out | apply below_alloc | apply pw_below_drewN | apply below_drew1) | exact HB.out)) hb); have n1_ := Aside0.mk (hbox); have n2_ := Aside0.mk ((by rw [hg]; exact (below_size (by repeat (first | (with_reducible first | exact HB.out | apply below_alloc | apply pw_below_drewN | apply below_drew1) | exact HB.out))) : w.heap.size ≤ gb103)); have n3_ := Aside0.mk ((by rw [hg]; exact (below_size (by repeat (first | (with_reducible first | exact HB.out | apply below_alloc | apply pw_below_drewN | apply below_drew1) | exact HB.out))) : w.heap.size ≤ gb103)); clear HB; have HB := n0_; have BK103 := n1_; have GW103 := n2_; have GE103 := n3_; clear n0_ n1_ n2_ n3_; clear hb hbox hg; have hcz3_0 : w2.cell? ⟨gb103, 0, none⟩ = some (.int .i64 a0_0) := (blk_cell BK103.out 0).trans rfl; have hcz3_1 : w2.cell? ⟨gb103, 1, none⟩ = some (.slice A0_1 l0_1.length c0_1) := (blk_cell BK103.out 1).trans rfl; have hfz3_0 := blk_frozen BK103.out 0; have hfz3_1 := blk_frozen BK103.out 1))
  go_loopg [3, 9] k (fun kq v3 v9 w' => ∃ (x3_1 : Int) (x9_1 : Int), v3 = .int .i64 x3_1 ∧ v9 = .int .i64 x9_1 ∧ Aside0 (impl_Complex_dimension.l0 kq x3_1 l0_1 (l0_1.length : Int) x9_1 = some r) ∧ Aside0 (kq ≤ k) ∧ Aside0 (w'.heap[gb103]? = some (.cells #[.int .i64 a0_0, (.slice A0_1 l0_1.length c0_1)] 28 (0, 0))) ∧ Aside0 (Below w.heap.size w w'))
  case atStart => exact ⟨((-1)), (0), (by first | rfl | (simp; done) | (simp [*]; done)), (by first | rfl | (simp; done) | (simp [*]; done)), H', ⟨Nat.le_refl _⟩, ⟨by (with_reducible repeat (first | refine blk_drewN ?_ _ | refine blk_drew ?_ | refine blk_alloc ?_ _)); exact BK103.out⟩, ⟨by repeat (first | (with_reducible first | exact HB.out | apply below_alloc | apply pw_below_drewN | apply below_drew1 | refine below_set ?_ GE103.out) | exact HB.out)⟩⟩
  case round =>
    clear H'
    try clear p2
    try clear hcz3_0
    try clear hcz3_1
    try clear hfz3_0
    try clear hfz3_1
    obtain ⟨x3_1, x9_1, rfl, rfl, HA, HK1, BK103, HB⟩ := hrel
    cases gk with
    | zero => exact absurd HA.out (by simp [impl_Complex_dimension.l0])
    | succ k1 =>
      have H := HA.out
      clear HA
      simp only [impl_Complex_dimension.l0] at H
      by_cases c4 : x9_1 < (l0_1.length : Int)
      · rw [if_pos c4] at H
        have c4b0 : decide (x9_1 < (l0_1.length : Int)) = true := decide_eq_true c4
        clear c4
        by_cases c5 : 0 ≤ x9_1
        · rw [if_pos c5] at H
          have c5b0 : decide (0 ≤ x9_1) = true := decide_eq_true c5
          clear c5
          by_cases c6 : x9_1 < (l0_1.length : Int)
          · rw [if_pos c6] at H
            have c6b0 : decide (x9_1 < (l0_1.length : Int)) = true := decide_eq_true c6
            clear c6
            replace H := Option.bind_eq_some_iff.mp H
            obtain ⟨t105, A70, H⟩ := H
            replace H : (impl_Complex_dimension.l0 k1 (mx x3_1 t105) l0_1 (l0_1.length : Int) (wrap64 (x9_1 + 1))) = some r := H
            have A7 := Aside0.mk A70
            clear A70
            obtain ⟨ji8, hji8⟩ : ∃ j_ : Int, (mx x3_1 t105) = j_ := ⟨_, rfl⟩
            replace H : (impl_Complex_dimension.l0 k1 ji8 l0_1 (l0_1.length : Int) (wrap64 (x9_1 + 1))) = some r := by first | (rw [hji8] at H; exact H) | (simp only [hji8] at H ⊢; exact H)
            (try rw [hji8] at A7)
            have hji8_ : (if x3_1 < t105 then t105 else x3_1) = ji8 := hji8
            have H' := Aside0.mk H
            clear H
            have p104 : 0 ≤ (x9_1 : Int) := of_decide_eq_true (by first | (with_reducible assumption) | assumption)
            have q104 : x9_1 < (l0_1.length : Int) := of_decide_eq_true (by first | (with_reducible assumption) | assumption)
            obtain ⟨ad104, e104, hx104_0⟩ := Kd.at_int HR0_1.out x9_1 p104 q104
            cases e104
            replace hx104_0 := (HB.out.cell (World.block_lt_of_cell? w _ hx104_0)).trans hx104_0
            replace p104 := eq_true p104
            replace q104 := eq_true q104
            go_wp2_with (first | ((with_reducible refine gate_callee (f := 107) rfl ?_); refine goesL_ (some 15) rfl rfl Try.func107 (by kernel_rfl) rfl #[.int .i64 (rd l0_1 x9_1)] rfl (by (try simp only [List.map_toArray, List.map_cons, List.map_nil]); first | done | rfl | (simp only [List.length_drop, List.length_take]; rfl)) ?_; (with_reducible refine (impl_dimension.calls (rd l0_1 x9_1) t105 _ A7.out).mono ?_); rintro e w' ⟨rfl, ⟨nd, rfl⟩⟩; refine ⟨_, rfl, ?_⟩))
            go_roundg k1
            case measure => have := HK1.out; omega
            case rel => exact ⟨(ji8), (wrap64 (x9_1 + 1)), (by first | rfl | (simp; done) | (simp only [← hji8] <;> (first | rfl | simp)) | (simp [*]; done)), (by first | rfl | (simp; done) | (simp [*]; done)), H', ⟨by have := HK1.out; omega⟩, ⟨by (with_reducible repeat (first | refine blk_drewN ?_ _ | refine blk_drew ?_ | refine blk_alloc ?_ _)); exact BK103.out⟩, ⟨by repeat (first | (with_reducible first | exact HB.out | apply below_alloc | apply pw_below_drewN | apply below_drew1 | refine below_set ?_ GE103.out) | exact HB.out)⟩⟩
          · rw [if_neg c6] at H
            exact absurd H (by simp)
        · rw [if_neg c5] at H
          exact absurd H (by simp)
      · rw [if_neg c4] at H
        have c4b0 : decide (x9_1 < (l0_1.length : Int)) = false := decide_eq_false c4
        clear c4
        obtain rfl := Option.some.inj H
        go_wp2
        go_ret
        exact ⟨by first | rfl | (simp [errW_none, errW_some] <;> rfl) | (simp [*, errW_none, errW_some] <;> rfl), by repeat (first | (with_reducible first | exact HB.out | apply below_alloc | apply pw_below_drewN | apply below_drew1 | refine below_set ?_ GE103.out) | exact HB.out)⟩
end Go.Proofs.Ytomdfjohnmikdaa.QI
namespace Go.Proofs.Ytomdfjohnmikdaa.Im
set_option linter.unusedVariables false
set_option linter.unusedSimpArgs false
open Go.RowKit Go.Shelf Go.Proofs.Ytomdfjohnmikdaa.QI Go.Proofs.Ytomdfjohnmikdaa.Ext Go.Proofs.YtomdfjohnmikdaaW.PrintWords Go.Proofs.YtomdfjohnmikdaaW.PrintLast Go.Proofs.YtomdfjohnmikdaaW.PrintMore
def onesZ (x : Int) : Int := ((verts x).length : Int)
theorem size_all : ((List.range 64).all fun f => impl_size.f (f : Int) == some (onesZ (f : Int))) = true := by decide +kernel
theorem size_eq {x : Int} (h0 : 0 ≤ x) (h6 : x ≤ 63) : impl_size.f x = some (onesZ x) := by
  obtain ⟨m, rfl⟩ := Int.eq_ofNat_of_zero_le h0
  exact eq_of_beq (List.all_eq_true.1 size_all m (List.mem_range.2 (by omega)))
theorem isC_63 {n : Int} {l : List Int} (h : isC n l = true) : ∀ x ∈ l, 1 ≤ x ∧ x ≤ 63 := by
  obtain ⟨⟨h1, h6⟩, ha, _⟩ := isC_of h
  intro x hx
  obtain ⟨i, hi, rfl⟩ := List.mem_iff_getElem.1 hx
  have h2 := List.all_eq_true.1 ha i (List.mem_range.2 hi)
  simp only [okAt, List.getElem?_eq_getElem hi, Option.getD_some, withinB, Bool.and_eq_true, decide_eq_true_eq] at h2
  have hF : fullZ n ≤ 63 := by
    obtain rfl | rfl | rfl | rfl | rfl | rfl : n = 1 ∨ n = 2 ∨ n = 3 ∨ n = 4 ∨ n = 5 ∨ n = 6 := by omega
    all_goals decide +kernel
  omega
theorem w64' {x : Int} (h1 : -9223372036854775808 ≤ x) (h2 : x ≤ 9223372036854775807) : wrap64 x = x := by unfold wrap64; omega
theorem rd_at' {l : List Int} {i : Nat} (h : i < l.length) : rd l (i : Int) = l[i] := by simp [rd, List.getD_eq_getElem?_getD, List.getElem?_eq_getElem h]
end Go.Proofs.Ytomdfjohnmikdaa.Im
namespace Go.Proofs.Ytomdfjohnmikdaa.Im
set_option linter.unusedVariables false
set_option linter.unusedSimpArgs false
open Go.RowKit Go.Shelf Go.Proofs.Ytomdfjohnmikdaa.QI Go.Proofs.Ytomdfjohnmikdaa.Ext Go.Proofs.YtomdfjohnmikdaaW.PrintWords Go.Proofs.YtomdfjohnmikdaaW.PrintLast Go.Proofs.YtomdfjohnmikdaaW.PrintMore
theorem dim_eq {x : Int} (h0 : 0 ≤ x) (h6 : x ≤ 63) : impl_dimension.f x = some (onesZ x - 1) := by
  unfold impl_dimension.f
  rw [size_eq h0 h6]
  have : (verts x).length ≤ 6 := verts_len x
  simp only [Option.bind_some]
  rw [w64' (by unfold onesZ; omega) (by unfold onesZ; omega)]
def dimL (l : List Int) : Int := l.foldl (fun a x => max a (onesZ x - 1)) (-1)
theorem dim_loop (l : List Int) (hr : ∀ x ∈ l, 1 ≤ x ∧ x ≤ 63) (hm : l.length ≤ 4611686018427387904) :
    ∀ d (i : Nat) (a : Int), l.length - i = d → i ≤ l.length → Ev (fun k => impl_Complex_dimension.l0 k a l (l.length : Int) i) ((l.drop i).foldl (fun a x => max a (onesZ x - 1)) a) := by
  intro d
  induction d with
  | zero =>
    intro i a hd hi
    rw [List.drop_eq_nil_of_le (by omega)]
    refine Ev.step (f := fun k => some a) (fun k => ?_) (Ev.now _)
    simp only [impl_Complex_dimension.l0]; rw [if_neg (by omega)]
  | succ d ih =>
    intro i a hd hi
    have hi' : i < l.length := by omega
    have hx := hr _ (List.getElem_mem hi')
    rw [List.drop_eq_getElem_cons hi', List.foldl_cons]
    refine Ev.step (f := fun k => impl_Complex_dimension.l0 k (max a (onesZ l[i] - 1)) l (l.length : Int) ((i + 1 : Nat) : Int)) (fun k => ?_) (ih (i + 1) _ (by omega) (by omega))
    simp only [impl_Complex_dimension.l0]
    rw [if_pos (by omega), if_pos (by omega), if_pos (by omega), rd_at' hi', dim_eq (by omega) (by omega)]
    simp only [Option.bind_some]
    rw [show wrap64 ((i : Int) + 1) = ((i + 1 : Nat) : Int) by rw [w64' (by omega) (by omega)]; omega, show mx a (onesZ l[i] - 1) = max a (onesZ l[i] - 1) by unfold mx; split <;> omega]
theorem dimension_c (m : Int) (A : Option Addr) (c : Nat) (xs : List Int) (w : World) (hr : RC w A xs.length xs) (hc : xs.length ≤ c) (hi : isC m xs = true) :
    Calls Try.prog 56 #[.agg #[.int .i64 m, .slice A xs.length c]] w fun e w' => e = .returned (.int .i64 (dimL xs)) ∧ Below w.heap.size w w' := by
  obtain ⟨k, hk⟩ := (dim_loop xs (isC_63 hi) (by have := isC_small hi; omega) _ 0 (-1) rfl (Nat.zero_le _)).rounds
  exact impl_Complex_dimension.calls k m A c xs _ w hr hc hk
end Go.Proofs.Ytomdfjohnmikdaa.Im
namespace Go.Proofs.Ytomdfjohnmikdaa.Im
set_option linter.unusedVariables false
set_option linter.unusedSimpArgs false
open Go.RowKit Go.Shelf Go.Proofs.Ytomdfjohnmikdaa.Kp Go.Proofs.Ytomdfjohnmikdaa.Ext Go.Proofs.Ytomdfjohnmikdaa.Cw Go.Proofs.YtomdfjohnmikdaaW.PrintWords Go.Proofs.YtomdfjohnmikdaaW.PrintLast Go.Proofs.YtomdfjohnmikdaaW.PrintMore
theorem sizeA_eq {x : Int} (h0 : 0 ≤ x) (h6 : x ≤ 63) : QA.impl_size.f x = some (onesZ x) := size_eq h0 h6
/-- Whether two numbers are a pair of a complex. -/
def pairB (xs : List Int) (p : Pr) : Bool := decide (p.f0 ∈ xs) && (decide (p.f1 ∈ xs) && ((Go.bits .andNot .i64 p.f0 p.f1 == 0) && (onesZ p.f1 == onesZ p.f0 + 1)))
theorem isPair_f {n : Int} {xs : List Int} (hi : isC n xs = true) (p : Pr) : QA.impl_Complex_isPair.f n xs p.f0 p.f1 = some (pairB xs p) := by
  have hs := isC_small hi
  have ha := ascB_asc (isC_of hi).2.1
  have r := isC_63 hi
  unfold QA.impl_Complex_isPair.f pairB impl_Complex_has.f impl_isIn.f
  rw [if_pos ⟨by omega, ha⟩, if_pos ⟨by omega, ha⟩]
  simp only [Option.bind_some, decide_eq_true_eq, if_true]
  by_cases h0 : p.f0 ∈ xs
  · by_cases h1 : p.f1 ∈ xs
    · have a0 := r _ h0
      have a1 := r _ h1
      have hv := verts_len p.f0
      rw [if_pos h0, if_pos h1, sizeA_eq (by omega) (by omega), sizeA_eq (by omega) (by omega)]
      simp only [Option.bind_some, h0, h1, decide_true, Bool.true_and]
      rw [w64' (by unfold onesZ; omega) (by unfold onesZ; omega)]
      cases (Go.bits .andNot .i64 p.f0 p.f1 == 0) <;> simp
    · simp [h0, h1]
  · simp [h0]
theorem isPair_c (n : Int) (A : Option Addr) (c : Nat) (xs : List Int) (p : Pr) (w : World) (hr : RC w A xs.length xs) (hc : xs.length ≤ c) (hi : isC n xs = true) :
    Calls Try.prog 114 #[.agg #[.int .i64 n, .slice A xs.length c], .agg #[.int .i64 p.f0, .int .i64 p.f1]] w fun e w' => e = .returned (.bool (pairB xs p)) ∧ Below w.heap.size w w' :=
  QA.impl_Complex_isPair.calls n A c xs p.f0 p.f1 _ w hr hc (isPair_f hi p)
def hasF (x : Int) (q : Pr) : Bool := x == q.f0 || x == q.f1
def okPairAt (xs : List Int) (l : List Pr) (i : Nat) : Bool :=
  pairB xs (l.getD i z73) && (!(l.take i).any (hasF (l.getD i z73).f0) && (!(l.take i).any (hasF (l.getD i z73).f1) && (i == 0 || decide (cmpP (l.getD (i - 1) z73) (l.getD i z73) < 0))))
def pairingB (xs : List Int) (l : List Pr) : Bool := (List.range l.length).all (okPairAt xs l)
theorem pairingB_no {xs : List Int} {l : List Pr} {i : Nat} (hi : i < l.length) (h : okPairAt xs l i = false) : pairingB xs l = false := by
  rw [Bool.eq_false_iff]
  intro hc
  rw [List.all_eq_true.1 hc i (List.mem_range.2 hi)] at h
  cases h
theorem pairingB_yes {xs : List Int} {l : List Pr} (h : ∀ i, i < l.length → okPairAt xs l i = true) : pairingB xs l = true := List.all_eq_true.2 (fun i hi => h i (List.mem_range.1 hi))
def CellsP (w : World) (ad : Addr) (m : Nat) (q : Pr) : Prop := w.cell? (ad.add (m * 2)) = some (.int .i64 q.f0) ∧ w.cell? ⟨(ad.add (m * 2)).block, (ad.add (m * 2)).off + 1, none⟩ = some (.int .i64 q.f1)
theorem cellsP_below {w w1 : World} {ad : Addr} {m : Nat} {q : Pr} (h : CellsP w ad m q) (hb : Below w.heap.size w w1) : CellsP w1 ad m q := ⟨pw_cell_below hb h.1, pw_cell_below hb h.2⟩
theorem CxAt.drew' {w : World} {b : Nat} {n : Int} {A : Option Addr} {len c : Nat} (h : CxAt w b n A len c) : CxAt w.drew b n A len c := h
theorem prAt_put {w w1 : World} {b g : Nat} {x y : Int} {M : List (Int × Bool)} (h : PrAt w g x y) (hm : MapB w b M) (hg : w.grownBy w1 (some b)) : PrAt w1 g x y := (hg.block g h.lt (fun e => hm.ne h (by injection e with e; exact e.symm))).trans h
theorem cxAt_put {w w1 : World} {b g : Nat} {n : Int} {A : Option Addr} {len c : Nat} {M : List (Int × Bool)} (h : CxAt w g n A len c) (hm : MapB w b M) (hg : w.grownBy w1 (some b)) : CxAt w1 g n A len c := (hg.block g h.lt (fun e => hm.ne h (by injection e with e; exact e.symm))).trans h
/-- What the pairs so far have met. -/
def Met (w : World) (b : Nat) (l : List Pr) : Prop := ∃ M, MapB w b M ∧ ∀ x, getM M x = l.any (hasF x)
theorem lookB {w : World} {b : Nat} {M : List (Int × Bool)} {v : Bool} (h : MapB w b M) {x : Int} (hv : getM M x = v) : (Instr.lookup 132 (.map (some b)) (.int .i64 x) false).run Try.prog w = .ok (.bool v) w := by
  rw [← hv]
  exact h.look Try.underlying132 Try.underlying2 (by kernel_rfl) x
theorem putB {w : World} {b : Nat} {M : List (Int × Bool)} (h : MapB w b M) (x : Int) (v : Bool) : ∃ w', (Instr.mapUpdate 132 (.map (some b)) (.int .i64 x) (.bool v)).run Try.prog w = .ok () w' ∧ MapB w' b (putM M x v) ∧ w.grownBy w' (some b) ∧ w'.heap.size = w.heap.size :=
  h.put Try.underlying132 Try.underlying2 x v
theorem met_snoc {w : World} {b : Nat} {M : List (Int × Bool)} {l : List Pr} {q : Pr} (h : MapB w b (putM (putM M q.f0 true) q.f1 true)) (hM : ∀ x, getM M x = l.any (hasF x)) : Met w b (l ++ [q]) := by
  refine ⟨_, h, fun x => ?_⟩
  rw [getM_put, getM_put, hM, List.any_append]
  by_cases h1 : x = q.f1
  · simp [h1, hasF]
  · by_cases h0 : x = q.f0
    · simp [h0, hasF]
    · simp [h0, h1, hasF]
theorem getD_take {l : List Pr} {k : Nat} (hk : k < l.length) : l.take (k + 1) = l.take k ++ [l.getD k z73] := by
  rw [List.take_succ_eq_append_getElem hk, List.getD_eq_getElem?_getD, List.getElem?_eq_getElem hk]
  rfl
set_option maxRecDepth 100000 in
set_option maxHeartbeats 2000000 in
theorem isPairing_c (n : Int) (A : Option Addr) (c : Nat) (xs : List Int) (A1 : Option Addr) (c1 : Nat) (l : List Pr) (w : World) (hr : RC w A xs.length xs) (hc : xs.length ≤ c) (hi : isC n xs = true) (hr1 : Kd.C k73 w A1 l.length l) (hl : l.length ≤ 1099511627776) :
    Calls Try.prog 118 #[.agg #[.int .i64 n, .slice A xs.length c], .slice A1 l.length c1] w fun e w' => e = .returned (.bool (pairingB xs l)) ∧ Below w.heap.size w w' := by
  have HR := Aside0.mk hr
  have HR1 := Aside0.mk hr1
  have HI := Aside0.mk hi
  have HC := Aside0.mk hc
  clear hr hr1 hi hc
  have hmm := @run_makeMap Try.prog
  have hx0 := Aside0.mk ((CxAt.new w n A xs.length c).below (below_alloc (Below.refl _ _) (.map #[] 0)))
  have hm0 : Aside0 (MapB ((w.alloc (.cells #[.int .i64 n, .slice A xs.length c] 28)).alloc (.map #[] 0)) (w.heap.size + 1) []) := ⟨by simpa using MapB.made (w.alloc (.cells #[.int .i64 n, .slice A xs.length c] 28))⟩
  go_enter Try.func118, Try.ntmps118
  go_wp2
  go_loopw [11] (fun i wr => ∃ k : Nat, k ≤ l.length ∧ i = .int .i64 k ∧ Aside0 (Below w.heap.size w wr) ∧ Aside0 (CxAt wr w.heap.size n A xs.length c) ∧ Aside0 (Met wr (w.heap.size + 1) (l.take k)) ∧ Aside0 (∀ j, j < k → okPairAt xs l j = true)) (fun i _ => l.length - (intOf i).toNat)
  case atStart => exact ⟨0, by omega, rfl, ⟨below_alloc (below_alloc (Below.refl _ _) _) _⟩, hx0, ⟨[], hm0.out, fun x => rfl⟩, ⟨fun j hj => absurd hj (by omega)⟩⟩
  case round =>
    clear hx0 hm0
    obtain ⟨k, hk, rfl, hB, hX, hM, hA⟩ := hrel
    by_cases hlt : k < l.length
    · have hltz : (k : Int) < (l.length : Int) := by omega
      obtain ⟨ad, rfl, h0, h1⟩ := pair_at (Kd.C_below HR1.out hB.out) k hlt
      obtain ⟨q, hq⟩ : ∃ q, l.getD k z73 = q := ⟨_, rfl⟩
      rw [hq] at h0 h1
      have HQ := Aside0.mk hq
      have HL := Aside0.mk hlt
      clear hq
      obtain ⟨M, hm1, hm2⟩ := hM.out
      clear hM
      have HN := Aside0.mk hm2
      clear hm2
      have HX := Aside0.mk ((hX.out.below (below_alloc (Below.refl _ _) (.cells #[.int .i64 q.f0, .int .i64 q.f1] 73))).below (Below.refl _ _).drew)
      have HM := Aside0.mk ((hm1.alloc (.cells #[.int .i64 q.f0, .int .i64 q.f1] 73)).drew)
      have HP := Aside0.mk ((PrAt.new wr q.f0 q.f1).drew)
      have HB := Aside0.mk ((hB.out.trans ((below_alloc (Below.refl wr.heap.size wr) (.cells #[.int .i64 q.f0, .int .i64 q.f1] 73)).mono hB.out.size)).drew)
      have HG := Aside0.mk hB.out.size
      clear hX hm1 hB
      by_cases h1' : pairB xs q = true
      case neg =>
        have H1 := Aside0.mk (Bool.eq_false_iff.2 h1')
        have hno : okPairAt xs l k = false := by unfold okPairAt; rw [HQ.out, H1.out]; rfl
        have HNO := Aside0.mk (pairingB_no HL.out hno)
        clear h1' hno
        go_wp2
        refine st_ 30 (S := fun w' => w'.cell? ⟨w.heap.size, 0, none⟩ = some (.int .i64 n) ∧ w'.cell? ⟨w.heap.size, 1, none⟩ = some (.slice A xs.length c) ∧ w'.cell? ⟨wr.heap.size, 0, none⟩ = some (.int .i64 q.f0) ∧ w'.cell? ⟨wr.heap.size, 1, none⟩ = some (.int .i64 q.f1)) (ds := []) ⟨HX.out.c0, HX.out.c1, HP.out.c0, HP.out.c1⟩ (fun hHeld => ?_)
        refine with_tabW (T := (true, [([], []), ([], []), ([0, 1], [0, 1]), ([2], [2]), ([3, 2], [3]), ([4], [4]), ([4], [4]), ([6, 4], [4, 6]), ([5, 7, 4], [4, 5, 7]), ([4, 8], [4, 8]), ([9, 4], [9]), ([10], [10]), ([10], [10]), ([12, 10], [10, 12]), ([11, 13, 10], [10, 11, 13]), ([10, 14], [10, 14]), ([15, 10], [15]), ([16], [16]), ([17, 16], [16, 17]), ([18, 16, 16], [16, 18]), ([19], [19]), ([19], [19]), ([21, 19], [19, 21]), ([20, 22, 19], [19, 20, 22]), ([23, 19], [19, 23]), ([19], [19]), ([24, 25, 19, 19], [19, 24, 25]), ([26, 19], [19, 26]), ([19, 27, 16], [16, 19, 27]), ([16, 28], [16, 28])])) (B := [0, 0, 3, 7, 15, 31, 31, 95, 255, 511, 1023, 2047, 2047, 6143, 16383, 32767, 65535, 131071, 262143, 524287, 1048575, 1048575, 3145727, 8388607, 16777215, 1048575, 67108863, 134217727, 268435455, 536870911]) (by kernel_rfl) (by kernel_rfl) (fun HT_ HW_ => ?_)
        refine tk_ 0 16 1 HT_ HW_ hHeld ?_
        refine tk_ 1 17 3 HT_ HW_ hHeld ?_
        refine on_ 2 (some 18) 7 HT_ (fun K hK => ?_)
        refine ca_ Try.func114 #[.agg #[.int .i64 n, .slice A xs.length c], .agg #[.int .i64 q.f0, .int .i64 q.f1]] ?_
        refine (isPair_c n A c xs q _ (Kd.C_below HR.out HB.out) HC.out HI.out).mono ?_; rw [show pairB xs q = false from H1.out]; rintro e w1 ⟨rfl, hb⟩; have HX1 := Aside0.mk (HX.out.below hb); have HM1 := Aside0.mk (HM.out.below hb); have HP1 := Aside0.mk (HP.out.below hb); have HB1 := Aside0.mk (below_in HB.out hb); clear HX HM HP HB; have HX := HX1; have HM := HM1; have HP := HP1; have HB := HB1; clear HX1 HM1 HP1 HB1
        refine ⟨_, rfl, ?_⟩
        refine hK.out _ _ ⟨HX.out.c0, HX.out.c1, HP.out.c0, HP.out.c1⟩ (fun hHeld => ?_)
        clear hK K
        refine nm_ ?_
        refine pd_ 3 19 15 HT_ ?_
        refine pd_ 4 20 31 HT_ ?_
        refine pn_ 5 21 63 HT_ ?_
        refine pn_ 6 22 127 HT_ ?_
        refine pn_ 7 23 255 HT_ ?_
        refine pn_ 8 24 511 HT_ ?_
        refine pd_ 9 25 1023 HT_ ?_
        refine pd_ 10 26 2047 HT_ ?_
        refine pn_ 11 27 4095 HT_ ?_
        refine pn_ 12 28 8191 HT_ ?_
        refine pn_ 13 29 16383 HT_ ?_
        refine pn_ 14 30 32767 HT_ ?_
        refine pd_ 15 31 65535 HT_ ?_
        refine pd_ 16 32 131071 HT_ ?_
        refine pn_ 17 33 262143 HT_ ?_
        refine pn_ 18 34 524287 HT_ ?_
        refine pn_ 19 35 1048575 HT_ ?_
        refine pn_ 20 36 2097151 HT_ ?_
        refine pn_ 21 37 4194303 HT_ ?_
        refine pn_ 22 38 8388607 HT_ ?_
        refine pn_ 23 39 16777215 HT_ ?_
        refine pn_ 24 40 33554431 HT_ ?_
        refine pn_ 25 41 67108863 HT_ ?_
        refine pn_ 26 42 134217727 HT_ ?_
        refine pn_ 27 43 268435455 HT_ ?_
        refine pn_ 28 44 536870911 HT_ ?_
        refine pd_ 29 45 1073741823 HT_ ?_
        refine dn_ HT_ ?_
        go_wp2
        go_ret
        exact ⟨by rw [HNO.out]; rfl, HB.out⟩
      have H1 := Aside0.mk h1'
      clear h1'
      by_cases h2' : getM M q.f0 = true
      case pos =>
        have H2 := Aside0.mk h2'
        have hno : okPairAt xs l k = false := by unfold okPairAt; rw [HQ.out, H1.out, ← HN.out, H2.out]; rfl
        have HNO := Aside0.mk (pairingB_no HL.out hno)
        clear h2' hno
        go_wp2
        refine st_ 30 (S := fun w' => w'.cell? ⟨w.heap.size, 0, none⟩ = some (.int .i64 n) ∧ w'.cell? ⟨w.heap.size, 1, none⟩ = some (.slice A xs.length c) ∧ w'.cell? ⟨wr.heap.size, 0, none⟩ = some (.int .i64 q.f0) ∧ w'.cell? ⟨wr.heap.size, 1, none⟩ = some (.int .i64 q.f1) ∧ (Instr.lookup 132 (.map (some (w.heap.size + 1))) (.int .i64 q.f0) false).run Try.prog w' = .ok (.bool true) w') (ds := []) ⟨HX.out.c0, HX.out.c1, HP.out.c0, HP.out.c1, lookB HM.out H2.out⟩ (fun hHeld => ?_)
        refine with_tabW (T := (true, [([], []), ([], []), ([0, 1], [0, 1]), ([2], [2]), ([3, 2], [3]), ([4], [4]), ([4], [4]), ([6, 4], [4, 6]), ([5, 7, 4], [4, 5, 7]), ([4, 8], [4, 8]), ([9, 4], [9]), ([10], [10]), ([10], [10]), ([12, 10], [10, 12]), ([11, 13, 10], [10, 11, 13]), ([10, 14], [10, 14]), ([15, 10], [15]), ([16], [16]), ([17, 16], [16, 17]), ([18, 16, 16], [16, 18]), ([19], [19]), ([19], [19]), ([21, 19], [19, 21]), ([20, 22, 19], [19, 20, 22]), ([23, 19], [19, 23]), ([19], [19]), ([24, 25, 19, 19], [19, 24, 25]), ([26, 19], [19, 26]), ([19, 27, 16], [16, 19, 27]), ([16, 28], [16, 28])])) (B := [0, 0, 3, 7, 15, 31, 31, 95, 255, 511, 1023, 2047, 2047, 6143, 16383, 32767, 65535, 131071, 262143, 524287, 1048575, 1048575, 3145727, 8388607, 16777215, 1048575, 67108863, 134217727, 268435455, 536870911]) (by kernel_rfl) (by kernel_rfl) (fun HT_ HW_ => ?_)
        refine tk_ 0 16 1 HT_ HW_ hHeld ?_
        refine tk_ 1 17 3 HT_ HW_ hHeld ?_
        refine on_ 2 (some 18) 7 HT_ (fun K hK => ?_)
        refine ca_ Try.func114 #[.agg #[.int .i64 n, .slice A xs.length c], .agg #[.int .i64 q.f0, .int .i64 q.f1]] ?_
        refine (isPair_c n A c xs q _ (Kd.C_below HR.out HB.out) HC.out HI.out).mono ?_; rw [show pairB xs q = true from H1.out]; rintro e w1 ⟨rfl, hb⟩; have HX1 := Aside0.mk (HX.out.below hb); have HM1 := Aside0.mk (HM.out.below hb); have HP1 := Aside0.mk (HP.out.below hb); have HB1 := Aside0.mk (below_in HB.out hb); clear HX HM HP HB; have HX := HX1; have HM := HM1; have HP := HP1; have HB := HB1; clear HX1 HM1 HP1 HB1
        refine ⟨_, rfl, ?_⟩
        refine hK.out _ _ ⟨HX.out.c0, HX.out.c1, HP.out.c0, HP.out.c1, lookB HM.out H2.out⟩ (fun hHeld => ?_)
        clear hK K
        refine nm_ ?_
        refine pd_ 3 19 15 HT_ ?_
        refine pd_ 4 20 31 HT_ ?_
        refine pd_ 5 21 63 HT_ ?_
        refine pd_ 6 22 127 HT_ ?_
        refine tk_ 7 23 255 HT_ HW_ hHeld ?_
        refine tk_ 8 24 511 HT_ HW_ hHeld ?_
        refine pd_ 9 25 1023 HT_ ?_
        refine pd_ 10 26 2047 HT_ ?_
        refine pn_ 11 27 4095 HT_ ?_
        refine pn_ 12 28 8191 HT_ ?_
        refine pn_ 13 29 16383 HT_ ?_
        refine pn_ 14 30 32767 HT_ ?_
        refine pd_ 15 31 65535 HT_ ?_
        refine pd_ 16 32 131071 HT_ ?_
        refine pn_ 17 33 262143 HT_ ?_
        refine pn_ 18 34 524287 HT_ ?_
        refine pn_ 19 35 1048575 HT_ ?_
        refine pn_ 20 36 2097151 HT_ ?_
        refine pn_ 21 37 4194303 HT_ ?_
        refine pn_ 22 38 8388607 HT_ ?_
        refine pn_ 23 39 16777215 HT_ ?_
        refine pn_ 24 40 33554431 HT_ ?_
        refine pn_ 25 41 67108863 HT_ ?_
        refine pn_ 26 42 134217727 HT_ ?_
        refine pn_ 27 43 268435455 HT_ ?_
        refine pn_ 28 44 536870911 HT_ ?_
        refine pd_ 29 45 1073741823 HT_ ?_
        refine dn_ HT_ ?_
        go_wp2
        go_ret
        exact ⟨by rw [HNO.out]; rfl, HB.out⟩
      have H2 := Aside0.mk (Bool.eq_false_iff.2 h2')
      clear h2'
      by_cases h3' : getM M q.f1 = true
      case pos =>
        have H3 := Aside0.mk h3'
        have hno : okPairAt xs l k = false := by unfold okPairAt; rw [HQ.out, H1.out, ← HN.out, ← HN.out, H2.out, H3.out]; rfl
        have HNO := Aside0.mk (pairingB_no HL.out hno)
        clear h3' hno
        go_wp2
        refine st_ 30 (S := fun w' => w'.cell? ⟨w.heap.size, 0, none⟩ = some (.int .i64 n) ∧ w'.cell? ⟨w.heap.size, 1, none⟩ = some (.slice A xs.length c) ∧ w'.cell? ⟨wr.heap.size, 0, none⟩ = some (.int .i64 q.f0) ∧ w'.cell? ⟨wr.heap.size, 1, none⟩ = some (.int .i64 q.f1) ∧ (Instr.lookup 132 (.map (some (w.heap.size + 1))) (.int .i64 q.f0) false).run Try.prog w' = .ok (.bool false) w' ∧ (Instr.lookup 132 (.map (some (w.heap.size + 1))) (.int .i64 q.f1) false).run Try.prog w' = .ok (.bool true) w') (ds := []) ⟨HX.out.c0, HX.out.c1, HP.out.c0, HP.out.c1, lookB HM.out H2.out, lookB HM.out H3.out⟩ (fun hHeld => ?_)
        refine with_tabW (T := (true, [([], []), ([], []), ([0, 1], [0, 1]), ([2], [2]), ([3, 2], [3]), ([4], [4]), ([4], [4]), ([6, 4], [4, 6]), ([5, 7, 4], [4, 5, 7]), ([4, 8], [4, 8]), ([9, 4], [9]), ([10], [10]), ([10], [10]), ([12, 10], [10, 12]), ([11, 13, 10], [10, 11, 13]), ([10, 14], [10, 14]), ([15, 10], [15]), ([16], [16]), ([17, 16], [16, 17]), ([18, 16, 16], [16, 18]), ([19], [19]), ([19], [19]), ([21, 19], [19, 21]), ([20, 22, 19], [19, 20, 22]), ([23, 19], [19, 23]), ([19], [19]), ([24, 25, 19, 19], [19, 24, 25]), ([26, 19], [19, 26]), ([19, 27, 16], [16, 19, 27]), ([16, 28], [16, 28])])) (B := [0, 0, 3, 7, 15, 31, 31, 95, 255, 511, 1023, 2047, 2047, 6143, 16383, 32767, 65535, 131071, 262143, 524287, 1048575, 1048575, 3145727, 8388607, 16777215, 1048575, 67108863, 134217727, 268435455, 536870911]) (by kernel_rfl) (by kernel_rfl) (fun HT_ HW_ => ?_)
        refine tk_ 0 16 1 HT_ HW_ hHeld ?_
        refine tk_ 1 17 3 HT_ HW_ hHeld ?_
        refine on_ 2 (some 18) 7 HT_ (fun K hK => ?_)
        refine ca_ Try.func114 #[.agg #[.int .i64 n, .slice A xs.length c], .agg #[.int .i64 q.f0, .int .i64 q.f1]] ?_
        refine (isPair_c n A c xs q _ (Kd.C_below HR.out HB.out) HC.out HI.out).mono ?_; rw [show pairB xs q = true from H1.out]; rintro e w1 ⟨rfl, hb⟩; have HX1 := Aside0.mk (HX.out.below hb); have HM1 := Aside0.mk (HM.out.below hb); have HP1 := Aside0.mk (HP.out.below hb); have HB1 := Aside0.mk (below_in HB.out hb); clear HX HM HP HB; have HX := HX1; have HM := HM1; have HP := HP1; have HB := HB1; clear HX1 HM1 HP1 HB1
        refine ⟨_, rfl, ?_⟩
        refine hK.out _ _ ⟨HX.out.c0, HX.out.c1, HP.out.c0, HP.out.c1, lookB HM.out H2.out, lookB HM.out H3.out⟩ (fun hHeld => ?_)
        clear hK K
        refine nm_ ?_
        refine pd_ 3 19 15 HT_ ?_
        refine pd_ 4 20 31 HT_ ?_
        refine pd_ 5 21 63 HT_ ?_
        refine pd_ 6 22 127 HT_ ?_
        refine tk_ 7 23 255 HT_ HW_ hHeld ?_
        refine tk_ 8 24 511 HT_ HW_ hHeld ?_
        refine pd_ 9 25 1023 HT_ ?_
        refine pd_ 10 26 2047 HT_ ?_
        refine pd_ 11 27 4095 HT_ ?_
        refine pd_ 12 28 8191 HT_ ?_
        refine tk_ 13 29 16383 HT_ HW_ hHeld ?_
        refine tk_ 14 30 32767 HT_ HW_ hHeld ?_
        refine pd_ 15 31 65535 HT_ ?_
        refine pd_ 16 32 131071 HT_ ?_
        refine pn_ 17 33 262143 HT_ ?_
        refine pn_ 18 34 524287 HT_ ?_
        refine pn_ 19 35 1048575 HT_ ?_
        refine pn_ 20 36 2097151 HT_ ?_
        refine pn_ 21 37 4194303 HT_ ?_
        refine pn_ 22 38 8388607 HT_ ?_
        refine pn_ 23 39 16777215 HT_ ?_
        refine pn_ 24 40 33554431 HT_ ?_
        refine pn_ 25 41 67108863 HT_ ?_
        refine pn_ 26 42 134217727 HT_ ?_
        refine pn_ 27 43 268435455 HT_ ?_
        refine pn_ 28 44 536870911 HT_ ?_
        refine pd_ 29 45 1073741823 HT_ ?_
        refine dn_ HT_ ?_
        go_wp2
        go_ret
        exact ⟨by rw [HNO.out]; rfl, HB.out⟩
      have H3 := Aside0.mk (Bool.eq_false_iff.2 h3')
      clear h3'
      rcases k with _ | m
      · rw [Nat.zero_mul, show ad.add 0 = ad by unfold Addr.add; simp] at h0 h1
        have hok : okPairAt xs l 0 = true := by unfold okPairAt; rw [HQ.out, H1.out, ← HN.out, ← HN.out, H2.out, H3.out]; rfl
        have HOK := Aside0.mk hok
        clear hok
        go_wp2
        refine st_ 30 (S := fun w' => w'.cell? ⟨w.heap.size, 0, none⟩ = some (.int .i64 n) ∧ w'.cell? ⟨w.heap.size, 1, none⟩ = some (.slice A xs.length c) ∧ w'.cell? ⟨wr.heap.size, 0, none⟩ = some (.int .i64 q.f0) ∧ w'.cell? ⟨wr.heap.size, 1, none⟩ = some (.int .i64 q.f1) ∧ (Instr.lookup 132 (.map (some (w.heap.size + 1))) (.int .i64 q.f0) false).run Try.prog w' = .ok (.bool false) w' ∧ (Instr.lookup 132 (.map (some (w.heap.size + 1))) (.int .i64 q.f1) false).run Try.prog w' = .ok (.bool false) w') (ds := []) ⟨HX.out.c0, HX.out.c1, HP.out.c0, HP.out.c1, lookB HM.out H2.out, lookB HM.out H3.out⟩ (fun hHeld => ?_)
        refine with_tabW (T := (true, [([], []), ([], []), ([0, 1], [0, 1]), ([2], [2]), ([3, 2], [3]), ([4], [4]), ([4], [4]), ([6, 4], [4, 6]), ([5, 7, 4], [4, 5, 7]), ([4, 8], [4, 8]), ([9, 4], [9]), ([10], [10]), ([10], [10]), ([12, 10], [10, 12]), ([11, 13, 10], [10, 11, 13]), ([10, 14], [10, 14]), ([15, 10], [15]), ([16], [16]), ([17, 16], [16, 17]), ([18, 16, 16], [16, 18]), ([19], [19]), ([19], [19]), ([21, 19], [19, 21]), ([20, 22, 19], [19, 20, 22]), ([23, 19], [19, 23]), ([19], [19]), ([24, 25, 19, 19], [19, 24, 25]), ([26, 19], [19, 26]), ([19, 27, 16], [16, 19, 27]), ([16, 28], [16, 28])])) (B := [0, 0, 3, 7, 15, 31, 31, 95, 255, 511, 1023, 2047, 2047, 6143, 16383, 32767, 65535, 131071, 262143, 524287, 1048575, 1048575, 3145727, 8388607, 16777215, 1048575, 67108863, 134217727, 268435455, 536870911]) (by kernel_rfl) (by kernel_rfl) (fun HT_ HW_ => ?_)
        refine tk_ 0 16 1 HT_ HW_ hHeld ?_
        refine tk_ 1 17 3 HT_ HW_ hHeld ?_
        refine on_ 2 (some 18) 7 HT_ (fun K hK => ?_)
        refine ca_ Try.func114 #[.agg #[.int .i64 n, .slice A xs.length c], .agg #[.int .i64 q.f0, .int .i64 q.f1]] ?_
        refine (isPair_c n A c xs q _ (Kd.C_below HR.out HB.out) HC.out HI.out).mono ?_; rw [show pairB xs q = true from H1.out]; rintro e w1 ⟨rfl, hb⟩; have HX1 := Aside0.mk (HX.out.below hb); have HM1 := Aside0.mk (HM.out.below hb); have HP1 := Aside0.mk (HP.out.below hb); have HB1 := Aside0.mk (below_in HB.out hb); clear HX HM HP HB; have HX := HX1; have HM := HM1; have HP := HP1; have HB := HB1; clear HX1 HM1 HP1 HB1
        refine ⟨_, rfl, ?_⟩
        refine hK.out _ _ ⟨HX.out.c0, HX.out.c1, HP.out.c0, HP.out.c1, lookB HM.out H2.out, lookB HM.out H3.out⟩ (fun hHeld => ?_)
        clear hK K
        refine nm_ ?_
        refine pd_ 3 19 15 HT_ ?_
        refine pd_ 4 20 31 HT_ ?_
        refine pd_ 5 21 63 HT_ ?_
        refine pd_ 6 22 127 HT_ ?_
        refine tk_ 7 23 255 HT_ HW_ hHeld ?_
        refine tk_ 8 24 511 HT_ HW_ hHeld ?_
        refine pd_ 9 25 1023 HT_ ?_
        refine pd_ 10 26 2047 HT_ ?_
        refine pd_ 11 27 4095 HT_ ?_
        refine pd_ 12 28 8191 HT_ ?_
        refine tk_ 13 29 16383 HT_ HW_ hHeld ?_
        refine tk_ 14 30 32767 HT_ HW_ hHeld ?_
        refine pd_ 15 31 65535 HT_ ?_
        refine pd_ 16 32 131071 HT_ ?_
        refine pd_ 17 33 262143 HT_ ?_
        refine pd_ 18 34 524287 HT_ ?_
        refine pd_ 19 35 1048575 HT_ ?_
        refine pn_ 20 36 2097151 HT_ ?_
        refine pn_ 21 37 4194303 HT_ ?_
        refine pn_ 22 38 8388607 HT_ ?_
        refine pn_ 23 39 16777215 HT_ ?_
        refine pn_ 24 40 33554431 HT_ ?_
        refine pn_ 25 41 67108863 HT_ ?_
        refine pn_ 26 42 134217727 HT_ ?_
        refine pn_ 27 43 268435455 HT_ ?_
        refine pd_ 28 44 536870911 HT_ ?_
        refine pd_ 29 45 1073741823 HT_ ?_
        refine dn_ HT_ ?_
        go_wp2
        refine st_ 8 (S := fun w' => w'.cell? ⟨wr.heap.size, 0, none⟩ = some (.int .i64 q.f0) ∧ w'.cell? ⟨wr.heap.size, 1, none⟩ = some (.int .i64 q.f1)) (ds := []) ⟨HP.out.drew.c0, HP.out.drew.c1⟩ (fun hHeld => ?_)
        refine with_tabW (T := (true, [([], []), ([], []), ([1], [1]), ([], []), ([], []), ([4], [4]), ([0, 2, 0, 1, 2], [0, 2]), ([3, 5, 6, 0, 1, 2, 3, 4, 5, 6], [3, 5])])) (B := [0, 0, 2, 0, 0, 16, 7, 127]) (by kernel_rfl) (by kernel_rfl) (fun HT_ HW_ => ?_)
        refine pd_ 0 46 1 HT_ ?_
        refine pd_ 1 47 3 HT_ ?_
        refine pd_ 3 49 11 HT_ ?_
        refine pd_ 4 50 27 HT_ ?_
        refine tk_ 2 48 31 HT_ HW_ hHeld ?_
        refine tk_ 5 51 63 HT_ HW_ hHeld ?_
        refine on_ 6 none 127 HT_ (fun K hK => ?_)
        (obtain ⟨w3, hrun, hM3, hg3, hz3⟩ := putB HM.out.drew q.f0 true; refine skip_ (by rfl) rfl (w1 := w3) (by go_simp) ?_; have HP3 := Aside0.mk (prAt_put HP.out.drew HM.out.drew hg3); have HX3 := Aside0.mk (cxAt_put HX.out.drew' HM.out.drew hg3); have HB3 := Aside0.mk (HB.out.drew.grown hg3 HB.out.drew.size (fun j hj => by injection hj with hj; omega)); have HM3 := Aside0.mk hM3; clear hrun hg3 hz3 hM3 HP HX HB HM)
        refine hK.out _ _ ⟨HP3.out.c0, HP3.out.c1⟩ (fun hHeld => ?_)
        clear hK K
        refine on_ 7 none 255 HT_ (fun K hK => ?_)
        (obtain ⟨w4, hrun, hM4, hg4, hz4⟩ := putB HM3.out q.f1 true; refine skip_ (by rfl) rfl (w1 := w4) (by go_simp) ?_; have HP := Aside0.mk (prAt_put HP3.out HM3.out hg4); have HX := Aside0.mk (cxAt_put HX3.out HM3.out hg4); have HB := Aside0.mk (HB3.out.grown hg4 HB3.out.size (fun j hj => by injection hj with hj; omega)); have HM := Aside0.mk hM4; clear hrun hg4 hz4 hM4 HP3 HX3 HB3 HM3)
        refine hK.out _ _ ⟨HP.out.c0, HP.out.c1⟩ (fun hHeld => ?_)
        clear hK K
        refine dn_ HT_ ?_
        go_wp2
        go_roundw
        case measure => simp [intOf]; omega
        case rel => exact ⟨0 + 1, by have := HL.out; omega, by go_num, HB, HX, ⟨by rw [getD_take HL.out, HQ.out]; exact met_snoc HM.out HN.out⟩, ⟨fun j hj => by rcases Nat.lt_or_ge j (0) with h | h; exact hA.out j h; obtain rfl : j = 0 := (by omega); exact HOK.out⟩⟩
      · have hltm : m < l.length := by omega
        obtain ⟨ad', ead, g0, g1⟩ := pair_at (Kd.C_below HR1.out HB.out) m hltm
        obtain rfl : ad = ad' := by injection ead
        obtain ⟨q', hq'⟩ : ∃ q', l.getD m z73 = q' := ⟨_, rfl⟩
        rw [hq'] at g0 g1
        have HQ' := Aside0.mk hq'
        have HW : Aside0 (CellsP _ ad m q') := ⟨g0, g1⟩
        clear hq' g0 g1 ead
        have hw64 : wrap64 (m : Int) = (m : Int) := w64' (by omega) (by omega)
        have hmz : (0 : Int) ≤ (m : Int) := by omega
        have hml : (m : Int) < (l.length : Int) := by omega
        clear hltm
        by_cases h4' : cmpP q' q < 0
        · have hok : okPairAt xs l (m + 1) = true := by unfold okPairAt; rw [HQ.out, H1.out, ← HN.out, ← HN.out, H2.out, H3.out, Nat.add_sub_cancel, HQ'.out]; simp [h4']
          have HOK := Aside0.mk hok
          have HC4 : Aside0 (cmpP q' q = cmpP q' q) := ⟨rfl⟩
          have h5' : ¬ 0 ≤ cmpP q' q := by omega
          clear hok
          go_wp2
          refine st_ 30 (S := fun w' => w'.cell? ⟨w.heap.size, 0, none⟩ = some (.int .i64 n) ∧ w'.cell? ⟨w.heap.size, 1, none⟩ = some (.slice A xs.length c) ∧ w'.cell? ⟨wr.heap.size, 0, none⟩ = some (.int .i64 q.f0) ∧ w'.cell? ⟨wr.heap.size, 1, none⟩ = some (.int .i64 q.f1) ∧ (Instr.lookup 132 (.map (some (w.heap.size + 1))) (.int .i64 q.f0) false).run Try.prog w' = .ok (.bool false) w' ∧ (Instr.lookup 132 (.map (some (w.heap.size + 1))) (.int .i64 q.f1) false).run Try.prog w' = .ok (.bool false) w' ∧ w'.cell? (ad.add (m * 2)) = some (.int .i64 q'.f0) ∧ w'.cell? ⟨(ad.add (m * 2)).block, (ad.add (m * 2)).off + 1, none⟩ = some (.int .i64 q'.f1)) (ds := []) ⟨HX.out.c0, HX.out.c1, HP.out.c0, HP.out.c1, lookB HM.out H2.out, lookB HM.out H3.out, HW.out.1, HW.out.2⟩ (fun hHeld => ?_)
          refine with_tabW (T := (true, [([], []), ([], []), ([0, 1], [0, 1]), ([2], [2]), ([3, 2], [3]), ([4], [4]), ([4], [4]), ([6, 4], [4, 6]), ([5, 7, 4], [4, 5, 7]), ([4, 8], [4, 8]), ([9, 4], [9]), ([10], [10]), ([10], [10]), ([12, 10], [10, 12]), ([11, 13, 10], [10, 11, 13]), ([10, 14], [10, 14]), ([15, 10], [15]), ([16], [16]), ([17, 16], [16, 17]), ([18, 16, 16], [16, 18]), ([19], [19]), ([19], [19]), ([21, 19], [19, 21]), ([20, 22, 19], [19, 20, 22]), ([23, 19], [19, 23]), ([19], [19]), ([24, 25, 19, 19], [19, 24, 25]), ([26, 19], [19, 26]), ([19, 27, 16], [16, 19, 27]), ([16, 28], [16, 28])])) (B := [0, 0, 3, 7, 15, 31, 31, 95, 255, 511, 1023, 2047, 2047, 6143, 16383, 32767, 65535, 131071, 262143, 524287, 1048575, 1048575, 3145727, 8388607, 16777215, 1048575, 67108863, 134217727, 268435455, 536870911]) (by kernel_rfl) (by kernel_rfl) (fun HT_ HW_ => ?_)
          refine tk_ 0 16 1 HT_ HW_ hHeld ?_
          refine tk_ 1 17 3 HT_ HW_ hHeld ?_
          refine on_ 2 (some 18) 7 HT_ (fun K hK => ?_)
          refine ca_ Try.func114 #[.agg #[.int .i64 n, .slice A xs.length c], .agg #[.int .i64 q.f0, .int .i64 q.f1]] ?_
          refine (isPair_c n A c xs q _ (Kd.C_below HR.out HB.out) HC.out HI.out).mono ?_; rw [show pairB xs q = true from H1.out]; rintro e w1 ⟨rfl, hb⟩; have HX1 := Aside0.mk (HX.out.below hb); have HM1 := Aside0.mk (HM.out.below hb); have HP1 := Aside0.mk (HP.out.below hb); have HB1 := Aside0.mk (below_in HB.out hb); clear HX HM HP HB; have HX := HX1; have HM := HM1; have HP := HP1; have HB := HB1; clear HX1 HM1 HP1 HB1; have hpw1 := Aside0.mk (cellsP_below HW.out hb); clear HW; have HW := hpw1; clear hpw1
          refine ⟨_, rfl, ?_⟩
          refine hK.out _ _ ⟨HX.out.c0, HX.out.c1, HP.out.c0, HP.out.c1, lookB HM.out H2.out, lookB HM.out H3.out, HW.out.1, HW.out.2⟩ (fun hHeld => ?_)
          clear hK K
          refine nm_ ?_
          refine pd_ 3 19 15 HT_ ?_
          refine pd_ 4 20 31 HT_ ?_
          refine pd_ 5 21 63 HT_ ?_
          refine pd_ 6 22 127 HT_ ?_
          refine tk_ 7 23 255 HT_ HW_ hHeld ?_
          refine tk_ 8 24 511 HT_ HW_ hHeld ?_
          refine pd_ 9 25 1023 HT_ ?_
          refine pd_ 10 26 2047 HT_ ?_
          refine pd_ 11 27 4095 HT_ ?_
          refine pd_ 12 28 8191 HT_ ?_
          refine tk_ 13 29 16383 HT_ HW_ hHeld ?_
          refine tk_ 14 30 32767 HT_ HW_ hHeld ?_
          refine pd_ 15 31 65535 HT_ ?_
          refine pd_ 16 32 131071 HT_ ?_
          refine pd_ 17 33 262143 HT_ ?_
          refine pd_ 18 34 524287 HT_ ?_
          refine pd_ 19 35 1048575 HT_ ?_
          refine pd_ 20 36 2097151 HT_ ?_
          refine pd_ 21 37 4194303 HT_ ?_
          refine pd_ 22 38 8388607 HT_ ?_
          refine pd_ 23 39 16777215 HT_ ?_
          refine tk_ 24 40 33554431 HT_ HW_ hHeld ?_
          refine tk_ 25 41 67108863 HT_ HW_ hHeld ?_
          refine on_ 26 (some 42) 134217727 HT_ (fun K hK => ?_)
          refine ca_ Try.func116 #[.agg #[.int .i64 q'.f0, .int .i64 q'.f1], .agg #[.int .i64 q.f0, .int .i64 q.f1]] ?_
          refine (comparePairs_c q' q _).mono ?_; rintro e w1 ⟨rfl, hb⟩; have HX1 := Aside0.mk (HX.out.below hb); have HM1 := Aside0.mk (HM.out.below hb); have HP1 := Aside0.mk (HP.out.below hb); have HB1 := Aside0.mk (below_in HB.out hb); have hpw1 := Aside0.mk (cellsP_below HW.out hb); clear HX HM HP HB HW; have HX := HX1; have HM := HM1; have HP := HP1; have HB := HB1; have HW := hpw1; clear HX1 HM1 HP1 HB1 hpw1; generalize cmpP q' q = cp at h4' h5' HC4
          refine ⟨_, rfl, ?_⟩
          refine hK.out _ _ ⟨HX.out.c0, HX.out.c1, HP.out.c0, HP.out.c1, lookB HM.out H2.out, lookB HM.out H3.out, HW.out.1, HW.out.2⟩ (fun hHeld => ?_)
          clear hK K
          refine nm_ ?_
          refine pd_ 27 43 268435455 HT_ ?_
          refine pd_ 28 44 536870911 HT_ ?_
          refine pd_ 29 45 1073741823 HT_ ?_
          refine dn_ HT_ ?_
          go_wp2
          refine st_ 8 (S := fun w' => w'.cell? ⟨wr.heap.size, 0, none⟩ = some (.int .i64 q.f0) ∧ w'.cell? ⟨wr.heap.size, 1, none⟩ = some (.int .i64 q.f1)) (ds := []) ⟨HP.out.drew.c0, HP.out.drew.c1⟩ (fun hHeld => ?_)
          refine with_tabW (T := (true, [([], []), ([], []), ([1], [1]), ([], []), ([], []), ([4], [4]), ([0, 2, 0, 1, 2], [0, 2]), ([3, 5, 6, 0, 1, 2, 3, 4, 5, 6], [3, 5])])) (B := [0, 0, 2, 0, 0, 16, 7, 127]) (by kernel_rfl) (by kernel_rfl) (fun HT_ HW_ => ?_)
          refine pd_ 0 46 1 HT_ ?_
          refine pd_ 1 47 3 HT_ ?_
          refine pd_ 3 49 11 HT_ ?_
          refine pd_ 4 50 27 HT_ ?_
          refine tk_ 2 48 31 HT_ HW_ hHeld ?_
          refine tk_ 5 51 63 HT_ HW_ hHeld ?_
          refine on_ 6 none 127 HT_ (fun K hK => ?_)
          (obtain ⟨w3, hrun, hM3, hg3, hz3⟩ := putB HM.out.drew q.f0 true; refine skip_ (by rfl) rfl (w1 := w3) (by go_simp) ?_; have HP3 := Aside0.mk (prAt_put HP.out.drew HM.out.drew hg3); have HX3 := Aside0.mk (cxAt_put HX.out.drew' HM.out.drew hg3); have HB3 := Aside0.mk (HB.out.drew.grown hg3 HB.out.drew.size (fun j hj => by injection hj with hj; omega)); have HM3 := Aside0.mk hM3; clear hrun hg3 hz3 hM3 HP HX HB HM)
          refine hK.out _ _ ⟨HP3.out.c0, HP3.out.c1⟩ (fun hHeld => ?_)
          clear hK K
          refine on_ 7 none 255 HT_ (fun K hK => ?_)
          (obtain ⟨w4, hrun, hM4, hg4, hz4⟩ := putB HM3.out q.f1 true; refine skip_ (by rfl) rfl (w1 := w4) (by go_simp) ?_; have HP := Aside0.mk (prAt_put HP3.out HM3.out hg4); have HX := Aside0.mk (cxAt_put HX3.out HM3.out hg4); have HB := Aside0.mk (HB3.out.grown hg4 HB3.out.size (fun j hj => by injection hj with hj; omega)); have HM := Aside0.mk hM4; clear hrun hg4 hz4 hM4 HP3 HX3 HB3 HM3)
          refine hK.out _ _ ⟨HP.out.c0, HP.out.c1⟩ (fun hHeld => ?_)
          clear hK K
          refine dn_ HT_ ?_
          go_wp2
          go_roundw
          case measure => simp [intOf]; omega
          case rel => exact ⟨(m + 1) + 1, by have := HL.out; omega, by go_num, HB, HX, ⟨by rw [getD_take HL.out, HQ.out]; exact met_snoc HM.out HN.out⟩, ⟨fun j hj => by rcases Nat.lt_or_ge j ((m + 1)) with h | h; exact hA.out j h; obtain rfl : j = (m + 1) := (by omega); exact HOK.out⟩⟩
        · have hno : okPairAt xs l (m + 1) = false := by unfold okPairAt; rw [HQ.out, H1.out, ← HN.out, ← HN.out, H2.out, H3.out, Nat.add_sub_cancel, HQ'.out]; simp [h4']
          have HNO := Aside0.mk (pairingB_no HL.out hno)
          have HC4 : Aside0 (cmpP q' q = cmpP q' q) := ⟨rfl⟩
          have h5' : 0 ≤ cmpP q' q := by omega
          clear hno
          go_wp2
          refine st_ 30 (S := fun w' => w'.cell? ⟨w.heap.size, 0, none⟩ = some (.int .i64 n) ∧ w'.cell? ⟨w.heap.size, 1, none⟩ = some (.slice A xs.length c) ∧ w'.cell? ⟨wr.heap.size, 0, none⟩ = some (.int .i64 q.f0) ∧ w'.cell? ⟨wr.heap.size, 1, none⟩ = some (.int .i64 q.f1) ∧ (Instr.lookup 132 (.map (some (w.heap.size + 1))) (.int .i64 q.f0) false).run Try.prog w' = .ok (.bool false) w' ∧ (Instr.lookup 132 (.map (some (w.heap.size + 1))) (.int .i64 q.f1) false).run Try.prog w' = .ok (.bool false) w' ∧ w'.cell? (ad.add (m * 2)) = some (.int .i64 q'.f0) ∧ w'.cell? ⟨(ad.add (m * 2)).block, (ad.add (m * 2)).off + 1, none⟩ = some (.int .i64 q'.f1)) (ds := []) ⟨HX.out.c0, HX.out.c1, HP.out.c0, HP.out.c1, lookB HM.out H2.out, lookB HM.out H3.out, HW.out.1, HW.out.2⟩ (fun hHeld => ?_)
          refine with_tabW (T := (true, [([], []), ([], []), ([0, 1], [0, 1]), ([2], [2]), ([3, 2], [3]), ([4], [4]), ([4], [4]), ([6, 4], [4, 6]), ([5, 7, 4], [4, 5, 7]), ([4, 8], [4, 8]), ([9, 4], [9]), ([10], [10]), ([10], [10]), ([12, 10], [10, 12]), ([11, 13, 10], [10, 11, 13]), ([10, 14], [10, 14]), ([15, 10], [15]), ([16], [16]), ([17, 16], [16, 17]), ([18, 16, 16], [16, 18]), ([19], [19]), ([19], [19]), ([21, 19], [19, 21]), ([20, 22, 19], [19, 20, 22]), ([23, 19], [19, 23]), ([19], [19]), ([24, 25, 19, 19], [19, 24, 25]), ([26, 19], [19, 26]), ([19, 27, 16], [16, 19, 27]), ([16, 28], [16, 28])])) (B := [0, 0, 3, 7, 15, 31, 31, 95, 255, 511, 1023, 2047, 2047, 6143, 16383, 32767, 65535, 131071, 262143, 524287, 1048575, 1048575, 3145727, 8388607, 16777215, 1048575, 67108863, 134217727, 268435455, 536870911]) (by kernel_rfl) (by kernel_rfl) (fun HT_ HW_ => ?_)
          refine tk_ 0 16 1 HT_ HW_ hHeld ?_
          refine tk_ 1 17 3 HT_ HW_ hHeld ?_
          refine on_ 2 (some 18) 7 HT_ (fun K hK => ?_)
          refine ca_ Try.func114 #[.agg #[.int .i64 n, .slice A xs.length c], .agg #[.int .i64 q.f0, .int .i64 q.f1]] ?_
          refine (isPair_c n A c xs q _ (Kd.C_below HR.out HB.out) HC.out HI.out).mono ?_; rw [show pairB xs q = true from H1.out]; rintro e w1 ⟨rfl, hb⟩; have HX1 := Aside0.mk (HX.out.below hb); have HM1 := Aside0.mk (HM.out.below hb); have HP1 := Aside0.mk (HP.out.below hb); have HB1 := Aside0.mk (below_in HB.out hb); clear HX HM HP HB; have HX := HX1; have HM := HM1; have HP := HP1; have HB := HB1; clear HX1 HM1 HP1 HB1; have hpw1 := Aside0.mk (cellsP_below HW.out hb); clear HW; have HW := hpw1; clear hpw1
          refine ⟨_, rfl, ?_⟩
          refine hK.out _ _ ⟨HX.out.c0, HX.out.c1, HP.out.c0, HP.out.c1, lookB HM.out H2.out, lookB HM.out H3.out, HW.out.1, HW.out.2⟩ (fun hHeld => ?_)
          clear hK K
          refine nm_ ?_
          refine pd_ 3 19 15 HT_ ?_
          refine pd_ 4 20 31 HT_ ?_
          refine pd_ 5 21 63 HT_ ?_
          refine pd_ 6 22 127 HT_ ?_
          refine tk_ 7 23 255 HT_ HW_ hHeld ?_
          refine tk_ 8 24 511 HT_ HW_ hHeld ?_
          refine pd_ 9 25 1023 HT_ ?_
          refine pd_ 10 26 2047 HT_ ?_
          refine pd_ 11 27 4095 HT_ ?_
          refine pd_ 12 28 8191 HT_ ?_
          refine tk_ 13 29 16383 HT_ HW_ hHeld ?_
          refine tk_ 14 30 32767 HT_ HW_ hHeld ?_
          refine pd_ 15 31 65535 HT_ ?_
          refine pd_ 16 32 131071 HT_ ?_
          refine pd_ 17 33 262143 HT_ ?_
          refine pd_ 18 34 524287 HT_ ?_
          refine pd_ 19 35 1048575 HT_ ?_
          refine pd_ 20 36 2097151 HT_ ?_
          refine pd_ 21 37 4194303 HT_ ?_
          refine pd_ 22 38 8388607 HT_ ?_
          refine pd_ 23 39 16777215 HT_ ?_
          refine tk_ 24 40 33554431 HT_ HW_ hHeld ?_
          refine tk_ 25 41 67108863 HT_ HW_ hHeld ?_
          refine on_ 26 (some 42) 134217727 HT_ (fun K hK => ?_)
          refine ca_ Try.func116 #[.agg #[.int .i64 q'.f0, .int .i64 q'.f1], .agg #[.int .i64 q.f0, .int .i64 q.f1]] ?_
          refine (comparePairs_c q' q _).mono ?_; rintro e w1 ⟨rfl, hb⟩; have HX1 := Aside0.mk (HX.out.below hb); have HM1 := Aside0.mk (HM.out.below hb); have HP1 := Aside0.mk (HP.out.below hb); have HB1 := Aside0.mk (below_in HB.out hb); have hpw1 := Aside0.mk (cellsP_below HW.out hb); clear HX HM HP HB HW; have HX := HX1; have HM := HM1; have HP := HP1; have HB := HB1; have HW := hpw1; clear HX1 HM1 HP1 HB1 hpw1; generalize cmpP q' q = cp at h4' h5' HC4
          refine ⟨_, rfl, ?_⟩
          refine hK.out _ _ ⟨HX.out.c0, HX.out.c1, HP.out.c0, HP.out.c1, lookB HM.out H2.out, lookB HM.out H3.out, HW.out.1, HW.out.2⟩ (fun hHeld => ?_)
          clear hK K
          refine nm_ ?_
          refine pd_ 27 43 268435455 HT_ ?_
          refine pd_ 28 44 536870911 HT_ ?_
          refine pd_ 29 45 1073741823 HT_ ?_
          refine dn_ HT_ ?_
          go_wp2
          go_ret
          exact ⟨by rw [HNO.out]; rfl, HB.out⟩
    · obtain rfl : k = l.length := by omega
      have hltz : ¬ (l.length : Int) < (l.length : Int) := by omega
      go_wp2
      go_ret
      exact ⟨by rw [pairingB_yes hA.out]; rfl, hB.out⟩
end Go.Proofs.Ytomdfjohnmikdaa.Im
namespace Go.Proofs.Ytomdfjohnmikdaa.QS
open Go.Proofs.Ytomdfjohnmikdaa.Cw Go.Proofs.Ytomdfjohnmikdaa.Kp Go.Proofs.Ytomdfjohnmikdaa.Ext Go.RowKit Go.Proofs.YtomdfjohnmikdaaW.PrintWords Go.Proofs.YtomdfjohnmikdaaW.PrintLast Go.Proofs.YtomdfjohnmikdaaW.PrintMore
attribute [local go_sem] max2_int min2_int max_two min_two max_three min_three max_four min_four   -- for this text's walks alone
set_option linter.unusedVariables false
set_option linter.unusedSimpArgs false
def spec_l01Ones.l0 : Nat → Int → Int → Option (Int)
 | 0, _, _ => none
 | k + 1, x0, x3 => if x0 > 0 then (spec_l01Ones.l0 k (wrap64 (Int.tdiv x0 2)) (wrap64 (x3 + (Int.tmod x0 2)))) else (some x3)
def spec_l01Ones.f (k : Nat) (a0 : Int) : Option (Int) := spec_l01Ones.l0 k a0 0
theorem spec_l01Ones.mono_l : ∀ k, (∀ y0 y1, LeO (spec_l01Ones.l0 k y0 y1) (spec_l01Ones.l0 (k + 1) y0 y1))
 | 0 => fun _ _ r h => by simp [spec_l01Ones.l0] at h
 | k + 1 => by
  have ih0 := spec_l01Ones.mono_l k
  ·intro y0 y1
   unfold spec_l01Ones.l0
   repeat' first
   | (with_reducible exact ih0 _ _)
   | (with_reducible exact LeO.refl _)
   | (with_reducible exact LeO.none _)
   | (with_reducible refine LeO.ite ?_ ?_)
   | (with_reducible refine LeO.bind ?_ (fun _ => ?_))
   | exact ih0 _ _
   | exact LeO.none _
   | refine LeO.ite ?_ ?_
   | refine LeO.bind ?_ (fun _ => ?_)
theorem spec_l01Ones.mono : ∀ a0 k, LeO (spec_l01Ones.f k a0) (spec_l01Ones.f (k + 1) a0) := by
 intro a0 k
 have ih0 := spec_l01Ones.mono_l k
 unfold spec_l01Ones.f
 repeat' first
   | (with_reducible exact ih0 _ _)
   | (with_reducible exact LeO.refl _)
   | (with_reducible exact LeO.none _)
   | (with_reducible refine LeO.ite ?_ ?_)
   | (with_reducible refine LeO.bind ?_ (fun _ => ?_))
   | exact ih0 _ _
   | exact LeO.none _
   | refine LeO.ite ?_ ?_
   | refine LeO.bind ?_ (fun _ => ?_)
set_option maxHeartbeats 8000000 in
set_option maxRecDepth 100000 in
theorem spec_l01Ones.calls (k : Nat) (a0 : Int) (r : Int) (w : World) (h : spec_l01Ones.f k a0 = some r) :
  Calls Try.prog 129 #[.int .i64 a0] w fun e w' => e = .returned (.int .i64 r) ∧ Drawn0 w w' := by
 have H : (spec_l01Ones.l0 k a0 0) = some r := h
 clear h
 have H' := Aside0.mk H
 clear H
 go_enter Try.func129, Try.ntmps129
 go_wp2
 go_loopg [0, 3] k (fun kq v0 v3 w' => ∃ (x0_1 : Int) (x3_1 : Int), v0 = .int .i64 x0_1 ∧ v3 = .int .i64 x3_1 ∧ Aside0 (spec_l01Ones.l0 kq x0_1 x3_1 = some r) ∧ Aside0 (kq ≤ k) ∧ Drawn0 w w')
 case atStart => exact ⟨(a0), (0), (by first | rfl | (simp; done) | (simp [*]; done)), (by first | rfl | (simp; done) | (simp [*]; done)), H', ⟨Nat.le_refl _⟩, by repeat (first | exact Drawn0.refl _ | apply Drawn0.step)⟩
 case round =>
  clear H'
  try clear c1
  obtain ⟨x0_1, x3_1, rfl, rfl, HA, HK1, ⟨m1, rfl⟩⟩ := hrel
  cases gk with
  | zero => exact absurd HA.out (by simp [spec_l01Ones.l0])
  | succ k1 =>
   have H := HA.out
   clear HA
   simp only [spec_l01Ones.l0] at H
   by_cases c2 : x0_1 > 0
   ·rw [if_pos c2] at H
    have c2b0 : decide (0 < x0_1) = true := decide_eq_true c2
    clear c2
    have H' := Aside0.mk H
    clear H
    go_wp2
    go_roundg k1
    case measure => have := HK1.out; omega
    case rel => exact ⟨(wrap64 (Int.tdiv x0_1 2)), (wrap64 (x3_1 + (Int.tmod x0_1 2))), (by first | rfl | (simp; done) | (simp [*]; done)), (by first | rfl | (simp; done) | (simp [*]; done)), H', ⟨by have := HK1.out; omega⟩, by repeat (first | exact Drawn0.refl _ | apply Drawn0.step)⟩
   ·rw [if_neg c2] at H
    have c2b0 : decide (0 < x0_1) = false := decide_eq_false c2
    clear c2
    obtain rfl := Option.some.inj H
    go_wp2
    go_ret
    exact ⟨by first | rfl | (simp; done) | (simp [*]; done), by repeat (first | exact Drawn0.refl _ | apply Drawn0.step)⟩
end Go.Proofs.Ytomdfjohnmikdaa.QS
namespace Go.Proofs.Ytomdfjohnmikdaa.QS
open Go.Proofs.Ytomdfjohnmikdaa.Cw Go.Proofs.Ytomdfjohnmikdaa.Kp Go.Proofs.Ytomdfjohnmikdaa.Ext Go.RowKit Go.Proofs.YtomdfjohnmikdaaW.PrintWords Go.Proofs.YtomdfjohnmikdaaW.PrintLast Go.Proofs.YtomdfjohnmikdaaW.PrintMore
attribute [local go_sem] max2_int min2_int max_two min_two max_three min_three max_four min_four   -- for this text's walks alone
set_option linter.unusedVariables false
set_option linter.unusedSimpArgs false
def spec_l01Of.l0 : Nat → Int → List Int → Int → Int → List Int → Option (List Int)
 | 0, _, _, _, _, _ => none
 | k + 1, x1, x5, x6, x165000, x165001 => if x6 < (x165001.length : Int) then (if 0 ≤ x6 then ((spec_l01Ones.f k (rd x165001 x6)).bind fun t169 => (if t169 = (wrap64 (x1 + 1)) then (if x5.length < 17592186044416 then (spec_l01Of.l0 k x1 (x5 ++ [rd x165001 x6]) (wrap64 (x6 + 1)) x165000 x165001) else (none)) else (spec_l01Of.l0 k x1 x5 (wrap64 (x6 + 1)) x165000 x165001))) else (none)) else (some x5)
def spec_l01Of.f (k : Nat) (a0_0 : Int) (l0_1 : List Int) (a1 : Int) : Option (List Int) := spec_l01Of.l0 k a1 (([] : List Int)) 0 a0_0 l0_1
theorem spec_l01Of.mono_l : ∀ k, (∀ y0 y1 y2 y3 y4, LeO (spec_l01Of.l0 k y0 y1 y2 y3 y4) (spec_l01Of.l0 (k + 1) y0 y1 y2 y3 y4))
 | 0 => fun _ _ _ _ _ r h => by simp [spec_l01Of.l0] at h
 | k + 1 => by
  have ih0 := spec_l01Of.mono_l k
  ·intro y0 y1 y2 y3 y4
   unfold spec_l01Of.l0
   repeat' first
   | (with_reducible exact ih0 _ _ _ _ _)
   | (with_reducible exact spec_l01Ones.mono _ _)
   | (with_reducible exact LeO.refl _)
   | (with_reducible exact LeO.none _)
   | (with_reducible refine LeO.ite ?_ ?_)
   | (with_reducible refine LeO.bind ?_ (fun _ => ?_))
   | exact ih0 _ _ _ _ _
   | exact spec_l01Ones.mono _ _
   | exact LeO.none _
   | refine LeO.ite ?_ ?_
   | refine LeO.bind ?_ (fun _ => ?_)
theorem spec_l01Of.mono : ∀ a0 a1 a2 k, LeO (spec_l01Of.f k a0 a1 a2) (spec_l01Of.f (k + 1) a0 a1 a2) := by
 intro a0 a1 a2 k
 have ih0 := spec_l01Of.mono_l k
 unfold spec_l01Of.f
 repeat' first
   | (with_reducible exact ih0 _ _ _ _ _)
   | (with_reducible exact spec_l01Ones.mono _ _)
   | (with_reducible exact LeO.refl _)
   | (with_reducible exact LeO.none _)
   | (with_reducible refine LeO.ite ?_ ?_)
   | (with_reducible refine LeO.bind ?_ (fun _ => ?_))
   | exact ih0 _ _ _ _ _
   | exact spec_l01Ones.mono _ _
   | exact LeO.none _
   | refine LeO.ite ?_ ?_
   | refine LeO.bind ?_ (fun _ => ?_)
set_option maxHeartbeats 8000000 in
set_option maxRecDepth 100000 in
theorem spec_l01Of.calls (k : Nat) (a0_0 : Int) (A0_1 : Option Addr) (c0_1 : Nat) (l0_1 : List Int) (a1 : Int) (r : List Int) (w : World) (hr0_1 : Kd.C (Kd.int .i64) w A0_1 l0_1.length l0_1) (hc0_1 : l0_1.length ≤ c0_1) (h : spec_l01Of.f k a0_0 l0_1 a1 = some r) :
  Calls Try.prog 104 #[.agg #[.int .i64 a0_0, .slice A0_1 l0_1.length c0_1], .int .i64 a1] w fun e w' => ∃ v0_ : Value, e = .returned (v0_) ∧ Kd.R (Kd.int .i64) 2 w' w.heap.size (fun _ => True) v0_ r ∧ Below w.heap.size w w' := by
 have hu28 := Try.underlying28
 have HR0_1 := Aside0.mk hr0_1
 have HC0_1 := Aside0.mk hc0_1
 clear hr0_1 hc0_1
 have HB := Aside0.mk (Below.refl w.heap.size w)
 have H : (spec_l01Of.l0 k a1 (([] : List Int)) 0 a0_0 l0_1) = some r := h
 clear h
 obtain ⟨y165, hy165⟩ : ∃ y_ : List Int, y_ = (([] : List Int)) := ⟨_, rfl⟩
 replace H : (spec_l01Of.l0 k a1 y165 0 a0_0 l0_1) = some r := by first | (rw [hy165]; with_reducible exact H) | (have H2_ := (Option.bind_some _ _).symm.trans H; rw [hy165]; with_reducible exact H2_) | (have H2_ := (Option.bind_some _ _).symm.trans H; with_reducible exact H2_) | with_reducible exact H | (rw [hy165]; exact H) | exact H
 have Ny165 := Aside0.mk hy165
 clear hy165
 have H' := Aside0.mk H
 clear H
 go_enter Try.func104, Try.ntmps104
 go_wp2_with (first | ((with_reducible refine gate_dst (N := 2) rfl ?_); refine box_event ?hg (N := 2) ?hd (cs := #[.int .i64 a0_0, .slice A0_1 l0_1.length c0_1]) (t := 28) ?hr ?_; (case hd => rfl); (case hg => rfl); (case hr => first | (go_simp; done) | (go_simp; rfl)); intro gb164 hg w3 hbox hb; have BK164 := Aside0.mk (hbox); have GW164 := gH HB hg; have GE164 := gH HB hg; replace HB := sH HB hb; clear hb hbox hg) | ((with_reducible refine gate_dst (N := 7) rfl ?_); refine Kd.R_lit (Kd.int .i64) _ 2 ?hg (N := 7) ?hd (xs := ([] : List Int)) (inner := []) (ok := fun _ => True) (okp := fun _ => True) ?hr ?hp (fun _ hk => hk) trivial (Below.refl _ _) (Nat.le_refl _) (by simp) ?_; (case hd => rfl); (case hg => rfl); (case hr => first | (go_simp; done) | (go_simp; rfl)); (case hp => exact (Reps.none _ _)); intro v166 w4 ho5 hb hg_ hnew_; clear hg_ hnew_; (first | rw [← Ny165.out] at ho5 | (simp only [Int.reduceToNat] at ho5; rw [← Ny165.out] at ho5)); have HO167 := Aside0.mk (Kd.R_lower ho5 (below_size (pH HB))); replace BK164 := sB BK164 hb; replace HB := sH HB hb; clear hb ho5))
 go_loopg [5, 6] k (fun kq v5 v6 w' => ∃ (x5_1 : List Int) (x6_1 : Int), v6 = .int .i64 x6_1 ∧ Aside0 (spec_l01Of.l0 kq a1 x5_1 x6_1 a0_0 l0_1 = some r) ∧ Aside0 (kq ≤ k) ∧ Aside0 (Kd.R (Kd.int .i64) 2 w' w.heap.size (fun _ => True) v5 x5_1) ∧ Aside0 (w'.heap[gb164]? = some (.cells #[.int .i64 a0_0, (.slice A0_1 l0_1.length c0_1)] 28 (0, 0))) ∧ Aside0 (Below w.heap.size w w'))
 case atStart => exact ⟨(y165), (0), (by first | rfl | (simp; done) | (simp [*]; done)), H', ⟨Nat.le_refl _⟩, ⟨by (with_reducible repeat (first | apply Kd.R_alloc | apply Kd.R_drewN | apply Kd.R_drew)); exact HO167.out⟩, ⟨pB BK164⟩, ⟨pH HB⟩⟩
 case round =>
  clear H'
  try clear c1
  try clear p2
  obtain ⟨x5_1, x6_1, rfl, HA, HK1, HO_5, BK164, HB⟩ := hrel
  cases gk with
  | zero => exact absurd HA.out (by simp [spec_l01Of.l0])
  | succ k1 =>
   have H := HA.out
   clear HA
   simp only [spec_l01Of.l0] at H
   by_cases c6 : x6_1 < (l0_1.length : Int)
   ·rw [if_pos c6] at H
    have c6b0 : decide (x6_1 < (l0_1.length : Int)) = true := decide_eq_true c6
    clear c6
    by_cases c7 : 0 ≤ x6_1
    ·rw [if_pos c7] at H
     have c7b0 : decide (0 ≤ x6_1) = true := decide_eq_true c7
     clear c7
     replace H := Option.bind_eq_some_iff.mp H
     obtain ⟨t169, A80, H⟩ := H
     try dsimp only at H
     have A8 := Aside0.mk A80
     clear A80
     by_cases c9 : t169 = (wrap64 (a1 + 1))
     ·rw [if_pos c9] at H
      have c9b0 : (t169 == (wrap64 (a1 + 1))) = true := beq_iff_eq.mpr c9
      have c9b1 : (t169 != (wrap64 (a1 + 1))) = false := bne_eq_false_iff_eq.mpr c9
      clear c9
      by_cases c10 : x5_1.length < 17592186044416
      ·rw [if_pos c10] at H
       have LMc10 := Aside0.mk c10
       clear c10
       obtain ⟨y171, hy171⟩ : ∃ y_ : List Int, y_ = (x5_1 ++ [rd l0_1 x6_1]) := ⟨_, rfl⟩
       replace H : (spec_l01Of.l0 k1 a1 y171 (wrap64 (x6_1 + 1)) a0_0 l0_1) = some r := by first | (rw [hy171]; with_reducible exact H) | (have H2_ := (Option.bind_some _ _).symm.trans H; rw [hy171]; with_reducible exact H2_) | (have H2_ := (Option.bind_some _ _).symm.trans H; with_reducible exact H2_) | with_reducible exact H | (rw [hy171]; exact H) | exact H
       have Ny171 := Aside0.mk hy171
       clear hy171
       have H' := Aside0.mk H
       clear H
       have hcz11_0 : wr.cell? ⟨gb164, 0, none⟩ = some (.int .i64 a0_0) := cB BK164 0
       have hcz11_1 : wr.cell? ⟨gb164, 1, none⟩ = some (.slice A0_1 l0_1.length c0_1) := cB BK164 1
       have hfz11_0 := zB BK164 0
       have hfz11_1 := zB BK164 1
       have p168 : 0 ≤ (x6_1 : Int) := of_decide_eq_true (by first | (with_reducible assumption) | assumption)
       have q168 : x6_1 < (l0_1.length : Int) := of_decide_eq_true (by first | (with_reducible assumption) | assumption)
       obtain ⟨ad168, e168, hx168_0⟩ := Kd.at_int HR0_1.out x6_1 p168 q168
       cases e168
       replace hx168_0 := cH HB hx168_0
       replace p168 := eq_true p168
       replace q168 := eq_true q168
       go_wp2_with (first | ((with_reducible refine gate_callee (f := 129) rfl ?_); refine cl_ (some 20) Try.func129 #[.int .i64 (rd l0_1 x6_1)] ?_; (with_reducible refine (spec_l01Ones.calls k1 (rd l0_1 x6_1) t169 _ A8.out).mono ?_); rintro e w' ⟨rfl, ⟨nd, rfl⟩⟩; refine ⟨_, rfl, ?_⟩; have p170 : 0 ≤ (x6_1 : Int) := of_decide_eq_true (by first | (with_reducible assumption) | assumption); have q170 : x6_1 < (l0_1.length : Int) := of_decide_eq_true (by first | (with_reducible assumption) | assumption); obtain ⟨ad170, e170, hx170_0⟩ := Kd.at_int HR0_1.out x6_1 p170 q170; obtain rfl : ad168 = ad170 := (by injection e170); replace hx170_0 := cH HB hx170_0; replace p170 := eq_true p170; replace q170 := eq_true q170) | ((with_reducible refine gate_builtin (b := .append) (xs := #[.tmp 24, .tmp 30]) rfl ?_); at_builtin; refine Kd.R_append (Kd.int .i64) (w0 := w) w.heap.size rfl (.tmp 24) (.tmp 30) 22 2 (.int .i64 0) 8 rfl Try.underlying22 info2 rfl (by decide) (by omega) u5 x5_1 (rd l0_1 x6_1) [.int .i64 (rd l0_1 x6_1)] (fun _ => True) (fun _ => False) rfl rfl ?aP (fun _ hk => hk.elim) ?aF ?aO ?aB ?aS ?aL ?_; (case aP => exact rfl); (case aB => exact (pH HB)); (case aF => exact (fun _ _ => trivial)); (case aO => exact (pR HO_5)); (case aS => exact (below_size (pH HB))); (case aL => have := LMc10.out; omega); intro v172 w12 ho hb hg hat; rw [← Ny171.out] at ho; replace BK164 := Aside0.mk (blk_grown (g := gb164) (o := .cells #[.int .i64 a0_0, .slice (some ad168) l0_1.length c0_1] 28 (0, 0)) (pB BK164) hg (Kd.R_ne HO_5.out BK164.out (by decide))); replace HB := Aside0.mk (hb); have HO173 := Aside0.mk (ho); clear HO_5; clear ho hb hg hat))
       go_roundg k1
       case measure => have := HK1.out; omega
       case rel => exact ⟨(y171), (wrap64 (x6_1 + 1)), (by first | rfl | (simp; done) | (simp [*]; done)), H', ⟨by have := HK1.out; omega⟩, ⟨by (with_reducible repeat (first | apply Kd.R_alloc | apply Kd.R_drewN | apply Kd.R_drew)); exact HO173.out⟩, ⟨pB BK164⟩, ⟨pH HB⟩⟩
      ·rw [if_neg c10] at H
       exact absurd H (by simp)
     ·rw [if_neg c9] at H
      have c9b0 : (t169 == (wrap64 (a1 + 1))) = false := beq_eq_false_iff_ne.mpr c9
      have c9b1 : (t169 != (wrap64 (a1 + 1))) = true := bne_iff_ne.mpr c9
      have H' := Aside0.mk H
      clear H
      have hcz13_0 : wr.cell? ⟨gb164, 0, none⟩ = some (.int .i64 a0_0) := cB BK164 0
      have hcz13_1 : wr.cell? ⟨gb164, 1, none⟩ = some (.slice A0_1 l0_1.length c0_1) := cB BK164 1
      have hfz13_0 := zB BK164 0
      have hfz13_1 := zB BK164 1
      have p168 : 0 ≤ (x6_1 : Int) := of_decide_eq_true (by first | (with_reducible assumption) | assumption)
      have q168 : x6_1 < (l0_1.length : Int) := of_decide_eq_true (by first | (with_reducible assumption) | assumption)
      obtain ⟨ad168, e168, hx168_0⟩ := Kd.at_int HR0_1.out x6_1 p168 q168
      cases e168
      replace hx168_0 := cH HB hx168_0
      replace p168 := eq_true p168
      replace q168 := eq_true q168
      go_wp2_with (first | ((with_reducible refine gate_callee (f := 129) rfl ?_); refine cl_ (some 20) Try.func129 #[.int .i64 (rd l0_1 x6_1)] ?_; (with_reducible refine (spec_l01Ones.calls k1 (rd l0_1 x6_1) t169 _ A8.out).mono ?_); rintro e w' ⟨rfl, ⟨nd, rfl⟩⟩; refine ⟨_, rfl, ?_⟩))
      go_roundg k1
      case measure => have := HK1.out; omega
      case rel => exact ⟨(x5_1), (wrap64 (x6_1 + 1)), (by first | rfl | (simp; done) | (simp [*]; done)), H', ⟨by have := HK1.out; omega⟩, ⟨by (with_reducible repeat (first | apply Kd.R_alloc | apply Kd.R_drewN | apply Kd.R_drew)); exact HO_5.out⟩, ⟨pB BK164⟩, ⟨pH HB⟩⟩
    ·rw [if_neg c7] at H
     exact absurd H (by simp)
   ·rw [if_neg c6] at H
    have c6b0 : decide (x6_1 < (l0_1.length : Int)) = false := decide_eq_false c6
    clear c6
    obtain rfl := Option.some.inj H
    have hcz14_0 : wr.cell? ⟨gb164, 0, none⟩ = some (.int .i64 a0_0) := cB BK164 0
    have hcz14_1 : wr.cell? ⟨gb164, 1, none⟩ = some (.slice A0_1 l0_1.length c0_1) := cB BK164 1
    have hfz14_0 := zB BK164 0
    have hfz14_1 := zB BK164 1
    go_wp2
    go_ret
    exact ⟨_, by first | rfl | (simp [errW_none, errW_some] <;> rfl) | (simp [*, errW_none, errW_some] <;> rfl) | (exfalso; simp_all), by (with_reducible repeat (first | apply Kd.R_alloc | apply Kd.R_drewN | apply Kd.R_drew)); exact HO_5.out, pH HB⟩
end Go.Proofs.Ytomdfjohnmikdaa.QS
namespace Go.Proofs.Ytomdfjohnmikdaa.QS
open Go.Proofs.Ytomdfjohnmikdaa.Cw Go.Proofs.Ytomdfjohnmikdaa.Kp Go.Proofs.Ytomdfjohnmikdaa.Ext Go.RowKit Go.Proofs.YtomdfjohnmikdaaW.PrintWords Go.Proofs.YtomdfjohnmikdaaW.PrintLast Go.Proofs.YtomdfjohnmikdaaW.PrintMore
attribute [local go_sem] max2_int min2_int max_two min_two max_three min_three max_four min_four   -- for this text's walks alone
set_option linter.unusedVariables false
set_option linter.unusedSimpArgs false
def spec_l01Below.l0 : Nat → Int → List Int → Int → Option (List Int)
 | 0, _, _, _ => none
 | k + 1, x0, x3, x4 => if x4 ≥ 0 then (if 0 ≤ (IntKind.u64.wrap (x4)) then (if (Go.bits .and .i64 (shr .i64 x0 (IntKind.u64.wrap (x4))) 1) = 1 then (if x0 = (shl .i64 1 (IntKind.u64.wrap (x4))) then (spec_l01Below.l0 k x0 x3 (wrap64 (x4 - 1))) else (if x3.length < 17592186044416 then (spec_l01Below.l0 k x0 (x3 ++ [wrap64 (x0 - (shl .i64 1 (IntKind.u64.wrap (x4))))]) (wrap64 (x4 - 1))) else (none))) else (spec_l01Below.l0 k x0 x3 (wrap64 (x4 - 1)))) else (none)) else (some x3)
def spec_l01Below.f (k : Nat) (a0 : Int) : Option (List Int) := spec_l01Below.l0 k a0 (([] : List Int)) 62
theorem spec_l01Below.mono_l : ∀ k, (∀ y0 y1 y2, LeO (spec_l01Below.l0 k y0 y1 y2) (spec_l01Below.l0 (k + 1) y0 y1 y2))
 | 0 => fun _ _ _ r h => by simp [spec_l01Below.l0] at h
 | k + 1 => by
  have ih0 := spec_l01Below.mono_l k
  ·intro y0 y1 y2
   unfold spec_l01Below.l0
   repeat' first
   | (with_reducible exact ih0 _ _ _)
   | (with_reducible exact LeO.refl _)
   | (with_reducible exact LeO.none _)
   | (with_reducible refine LeO.ite ?_ ?_)
   | (with_reducible refine LeO.bind ?_ (fun _ => ?_))
   | exact ih0 _ _ _
   | exact LeO.none _
   | refine LeO.ite ?_ ?_
   | refine LeO.bind ?_ (fun _ => ?_)
theorem spec_l01Below.mono : ∀ a0 k, LeO (spec_l01Below.f k a0) (spec_l01Below.f (k + 1) a0) := by
 intro a0 k
 have ih0 := spec_l01Below.mono_l k
 unfold spec_l01Below.f
 repeat' first
   | (with_reducible exact ih0 _ _ _)
   | (with_reducible exact LeO.refl _)
   | (with_reducible exact LeO.none _)
   | (with_reducible refine LeO.ite ?_ ?_)
   | (with_reducible refine LeO.bind ?_ (fun _ => ?_))
   | exact ih0 _ _ _
   | exact LeO.none _
   | refine LeO.ite ?_ ?_
   | refine LeO.bind ?_ (fun _ => ?_)
set_option maxHeartbeats 8000000 in
set_option maxRecDepth 100000 in
theorem spec_l01Below.calls (k : Nat) (a0 : Int) (r : List Int) (w : World) (h : spec_l01Below.f k a0 = some r) :
  Calls Try.prog 101 #[.int .i64 a0] w fun e w' => ∃ v0_ : Value, e = .returned (v0_) ∧ Kd.R (Kd.int .i64) 2 w' w.heap.size (fun _ => True) v0_ r ∧ Below w.heap.size w w' := by
 have HB := Aside0.mk (Below.refl w.heap.size w)
 have H : (spec_l01Below.l0 k a0 (([] : List Int)) 62) = some r := h
 clear h
 obtain ⟨y140, hy140⟩ : ∃ y_ : List Int, y_ = (([] : List Int)) := ⟨_, rfl⟩
 replace H : (spec_l01Below.l0 k a0 y140 62) = some r := by first | (rw [hy140]; with_reducible exact H) | (have H2_ := (Option.bind_some _ _).symm.trans H; rw [hy140]; with_reducible exact H2_) | (have H2_ := (Option.bind_some _ _).symm.trans H; with_reducible exact H2_) | with_reducible exact H | (rw [hy140]; exact H) | exact H
 have Ny140 := Aside0.mk hy140
 clear hy140
 have H' := Aside0.mk H
 clear H
 go_enter Try.func101, Try.ntmps101
 go_wp2_with (first | ((with_reducible refine gate_dst (N := 5) rfl ?_); refine Kd.R_lit (Kd.int .i64) _ 2 ?hg (N := 5) ?hd (xs := ([] : List Int)) (inner := []) (ok := fun _ => True) (okp := fun _ => True) ?hr ?hp (fun _ hk => hk) trivial (Below.refl _ _) (Nat.le_refl _) (by simp) ?_; (case hd => rfl); (case hg => rfl); (case hr => first | (go_simp; done) | (go_simp; rfl)); (case hp => exact (Reps.none _ _)); intro v141 w2 ho3 hb hg_ hnew_; clear hg_ hnew_; (first | rw [← Ny140.out] at ho3 | (simp only [Int.reduceToNat] at ho3; rw [← Ny140.out] at ho3)); have HO142 := Aside0.mk (Kd.R_lower ho3 (below_size (pH HB))); replace HB := sH HB hb; clear hb ho3))
 go_loopg [3, 4] k (fun kq v3 v4 w' => ∃ (x3_1 : List Int) (x4_1 : Int), v4 = .int .i64 x4_1 ∧ Aside0 (spec_l01Below.l0 kq a0 x3_1 x4_1 = some r) ∧ Aside0 (kq ≤ k) ∧ Aside0 (Kd.R (Kd.int .i64) 2 w' w.heap.size (fun _ => True) v3 x3_1) ∧ Aside0 (Below w.heap.size w w'))
 case atStart => exact ⟨(y140), (62), (by first | rfl | (simp; done) | (simp [*]; done)), H', ⟨Nat.le_refl _⟩, ⟨by (with_reducible repeat (first | apply Kd.R_alloc | apply Kd.R_drewN | apply Kd.R_drew)); exact HO142.out⟩, ⟨pH HB⟩⟩
 case round =>
  clear H'
  try clear c1
  try clear p2
  obtain ⟨x3_1, x4_1, rfl, HA, HK1, HO_3, HB⟩ := hrel
  cases gk with
  | zero => exact absurd HA.out (by simp [spec_l01Below.l0])
  | succ k1 =>
   have H := HA.out
   clear HA
   simp only [spec_l01Below.l0] at H
   by_cases c4 : x4_1 ≥ 0
   ·rw [if_pos c4] at H
    have c4b0 : decide (0 ≤ x4_1) = true := decide_eq_true c4
    clear c4
    obtain ⟨ji5, hji5⟩ : ∃ j_ : Int, (IntKind.u64.wrap (x4_1)) = j_ := ⟨_, rfl⟩
    replace H : (if 0 ≤ (ji5) then (if (Go.bits .and .i64 (shr .i64 a0 (ji5)) 1) = 1 then (if a0 = (shl .i64 1 (ji5)) then (spec_l01Below.l0 k1 a0 x3_1 (wrap64 (x4_1 - 1))) else (if x3_1.length < 17592186044416 then (spec_l01Below.l0 k1 a0 (x3_1 ++ [wrap64 (a0 - (shl .i64 1 (ji5)))]) (wrap64 (x4_1 - 1))) else (none))) else (spec_l01Below.l0 k1 a0 x3_1 (wrap64 (x4_1 - 1)))) else (none)) = some r := by first | (rw [hji5] at H; exact H) | (simp only [hji5] at H ⊢; exact H)
    by_cases c6 : 0 ≤ (ji5)
    ·rw [if_pos c6] at H
     have c6b0 := eq_true c6
     have c6b1 : decide (0 ≤ (ji5)) = true := decide_eq_true c6
     clear c6
     obtain ⟨ji7, hji7⟩ : ∃ j_ : Int, (shr .i64 a0 (ji5)) = j_ := ⟨_, rfl⟩
     replace H : (if (Go.bits .and .i64 (ji7) 1) = 1 then (if a0 = (shl .i64 1 (ji5)) then (spec_l01Below.l0 k1 a0 x3_1 (wrap64 (x4_1 - 1))) else (if x3_1.length < 17592186044416 then (spec_l01Below.l0 k1 a0 (x3_1 ++ [wrap64 (a0 - (shl .i64 1 (ji5)))]) (wrap64 (x4_1 - 1))) else (none))) else (spec_l01Below.l0 k1 a0 x3_1 (wrap64 (x4_1 - 1)))) = some r := by first | (rw [hji7] at H; exact H) | (simp only [hji7] at H ⊢; exact H)
     have hji7_ : (a0 / 2 ^ min (ji5).toNat 64) = ji7 := hji7
     have hji7z : (ji5) ≤ 64 → (a0 / 2 ^ (ji5).toNat) = ji7 := shr_small hji7
     by_cases c8 : (Go.bits .and .i64 (ji7) 1) = 1
     ·rw [if_pos c8] at H
      have c8b0 : ((Go.bits .and .i64 (ji7) 1) == 1) = true := beq_iff_eq.mpr c8
      have c8b1 : ((Go.bits .and .i64 (ji7) 1) != 1) = false := bne_eq_false_iff_eq.mpr c8
      clear c8
      have c9b0 := eq_true (of_decide_eq_true (by first | (with_reducible assumption) | assumption) : 0 ≤ (ji5))
      obtain ⟨ji10, hji10⟩ : ∃ j_ : Int, (shl .i64 1 (ji5)) = j_ := ⟨_, rfl⟩
      replace H : (if a0 = (ji10) then (spec_l01Below.l0 k1 a0 x3_1 (wrap64 (x4_1 - 1))) else (if x3_1.length < 17592186044416 then (spec_l01Below.l0 k1 a0 (x3_1 ++ [wrap64 (a0 - (ji10))]) (wrap64 (x4_1 - 1))) else (none))) = some r := by first | (rw [hji10] at H; exact H) | (simp only [hji10] at H ⊢; exact H)
      have hji10_ : (IntKind.i64.wrap (1 * 2 ^ min (ji5).toNat 64)) = ji10 := hji10
      have hji10z : (ji5) ≤ 64 → (IntKind.i64.wrap (1 * 2 ^ (ji5).toNat)) = ji10 := shl_small hji10
      have hji10u : (IntKind.i64.wrap (2 ^ min (ji5).toNat 64)) = ji10 := by have h_ := hji10_; rw [Int.one_mul] at h_; exact h_
      have hji10v : (ji5) ≤ 64 → (IntKind.i64.wrap (2 ^ (ji5).toNat)) = ji10 := fun hle_ => by have h_ := hji10z hle_; rw [Int.one_mul] at h_; exact h_
      have hji10y : (wrap64 (1 * 2 ^ min (ji5).toNat 64)) = ji10 := (i64_w _).symm.trans hji10_
      have hji10x : (ji5) ≤ 64 → (wrap64 (1 * 2 ^ (ji5).toNat)) = ji10 := fun h_ => (i64_w _).symm.trans (hji10z h_)
      by_cases c11 : a0 = (ji10)
      ·rw [if_pos c11] at H
       have c11b0 : (a0 == (ji10)) = true := beq_iff_eq.mpr c11
       have c11b1 : (a0 != (ji10)) = false := bne_eq_false_iff_eq.mpr c11
       clear c11
       have H' := Aside0.mk H
       clear H
       go_wp2
       go_roundg k1
       case measure => have := HK1.out; omega
       case rel => exact ⟨(x3_1), (wrap64 (x4_1 - 1)), (by first | rfl | (simp; done) | (simp [*]; done)), H', ⟨by have := HK1.out; omega⟩, ⟨by (with_reducible repeat (first | apply Kd.R_alloc | apply Kd.R_drewN | apply Kd.R_drew)); exact HO_3.out⟩, ⟨pH HB⟩⟩
      ·rw [if_neg c11] at H
       have c11b0 : (a0 == (ji10)) = false := beq_eq_false_iff_ne.mpr c11
       have c11b1 : (a0 != (ji10)) = true := bne_iff_ne.mpr c11
       have c12b0 := eq_true (of_decide_eq_true (by first | (with_reducible assumption) | assumption) : 0 ≤ (ji5))
       by_cases c13 : x3_1.length < 17592186044416
       ·rw [if_pos c13] at H
        have LMc13 := Aside0.mk c13
        clear c13
        obtain ⟨y143, hy143⟩ : ∃ y_ : List Int, y_ = (x3_1 ++ [wrap64 (a0 - (ji10))]) := ⟨_, rfl⟩
        replace H : (spec_l01Below.l0 k1 a0 y143 (wrap64 (x4_1 - 1))) = some r := by first | (rw [hy143]; with_reducible exact H) | (have H2_ := (Option.bind_some _ _).symm.trans H; rw [hy143]; with_reducible exact H2_) | (have H2_ := (Option.bind_some _ _).symm.trans H; with_reducible exact H2_) | with_reducible exact H | (rw [hy143]; exact H) | exact H
        have Ny143 := Aside0.mk hy143
        clear hy143
        have H' := Aside0.mk H
        clear H
        go_wp2_with (first | ((with_reducible refine gate_builtin (b := .append) (xs := #[.tmp 23, .tmp 29]) rfl ?_); at_builtin; refine Kd.R_append (Kd.int .i64) (w0 := w) w.heap.size rfl (.tmp 23) (.tmp 29) 22 2 (.int .i64 0) 8 rfl Try.underlying22 info2 rfl (by decide) (by omega) u3 x3_1 (wrap64 (a0 - (ji10))) [.int .i64 (wrap64 (a0 - (ji10)))] (fun _ => True) (fun _ => False) rfl rfl ?aP (fun _ hk => hk.elim) ?aF ?aO ?aB ?aS ?aL ?_; (case aP => exact rfl); (case aB => exact (pH HB)); (case aF => exact (fun _ _ => trivial)); (case aO => exact (pR HO_3)); (case aS => exact (below_size (pH HB))); (case aL => have := LMc13.out; omega); intro v144 w14 ho hb hg hat; rw [← Ny143.out] at ho; replace HB := Aside0.mk (hb); have HO145 := Aside0.mk (ho); clear HO_3; clear ho hb hg hat))
        go_roundg k1
        case measure => have := HK1.out; omega
        case rel => exact ⟨(y143), (wrap64 (x4_1 - 1)), (by first | rfl | (simp; done) | (simp [*]; done)), H', ⟨by have := HK1.out; omega⟩, ⟨by (with_reducible repeat (first | apply Kd.R_alloc | apply Kd.R_drewN | apply Kd.R_drew)); exact HO145.out⟩, ⟨pH HB⟩⟩
       ·rw [if_neg c13] at H
        exact absurd H (by simp)
     ·rw [if_neg c8] at H
      have c8b0 : ((Go.bits .and .i64 (ji7) 1) == 1) = false := beq_eq_false_iff_ne.mpr c8
      have c8b1 : ((Go.bits .and .i64 (ji7) 1) != 1) = true := bne_iff_ne.mpr c8
      have H' := Aside0.mk H
      clear H
      go_wp2
      go_roundg k1
      case measure => have := HK1.out; omega
      case rel => exact ⟨(x3_1), (wrap64 (x4_1 - 1)), (by first | rfl | (simp; done) | (simp [*]; done)), H', ⟨by have := HK1.out; omega⟩, ⟨by (with_reducible repeat (first | apply Kd.R_alloc | apply Kd.R_drewN | apply Kd.R_drew)); exact HO_3.out⟩, ⟨pH HB⟩⟩
    ·rw [if_neg c6] at H
     exact absurd H (by simp)
   ·rw [if_neg c4] at H
    have c4b0 : decide (0 ≤ x4_1) = false := decide_eq_false c4
    clear c4
    obtain rfl := Option.some.inj H
    go_wp2
    go_ret
    exact ⟨_, by first | rfl | (simp [errW_none, errW_some] <;> rfl) | (simp [*, errW_none, errW_some] <;> rfl) | (exfalso; simp_all), by (with_reducible repeat (first | apply Kd.R_alloc | apply Kd.R_drewN | apply Kd.R_drew)); exact HO_3.out, pH HB⟩
end Go.Proofs.Ytomdfjohnmikdaa.QS
namespace Go.Proofs.Ytomdfjohnmikdaa.QS
open Go.Proofs.Ytomdfjohnmikdaa.Cw Go.Proofs.Ytomdfjohnmikdaa.Kp Go.Proofs.Ytomdfjohnmikdaa.Ext Go.RowKit Go.Proofs.YtomdfjohnmikdaaW.PrintWords Go.Proofs.YtomdfjohnmikdaaW.PrintLast Go.Proofs.YtomdfjohnmikdaaW.PrintMore
attribute [local go_sem] max2_int min2_int max_two min_two max_three min_three max_four min_four   -- for this text's walks alone
set_option linter.unusedVariables false
set_option linter.unusedSimpArgs false
def spec_l03Signs.l0 : Nat → List Int → Int → Option (List Int)
 | 0, _, _ => none
 | k + 1, x3, x4 => if x4 ≥ 0 then (if x3.length < 17592186044416 then (spec_l03Signs.l0 k (x3 ++ [wrap64 (1 - (wrap64 (2 * (Int.tmod x4 2))))]) (wrap64 (x4 - 1))) else (none)) else (some x3)
def spec_l03Signs.f (k : Nat) (a0 : Int) : Option (List Int) := (some (([] : List Int) : List Int)).bind fun y179 => ((spec_l01Ones.f k a0).bind fun t182 => (if (wrap64 (t182 - 1)) = 0 then (some y179) else (spec_l03Signs.l0 k y179 (wrap64 (t182 - 1)))))
theorem spec_l03Signs.mono_l : ∀ k, (∀ y0 y1, LeO (spec_l03Signs.l0 k y0 y1) (spec_l03Signs.l0 (k + 1) y0 y1))
 | 0 => fun _ _ r h => by simp [spec_l03Signs.l0] at h
 | k + 1 => by
  have ih0 := spec_l03Signs.mono_l k
  ·intro y0 y1
   unfold spec_l03Signs.l0
   repeat' first
   | (with_reducible exact ih0 _ _)
   | (with_reducible exact spec_l01Ones.mono _ _)
   | (with_reducible exact LeO.refl _)
   | (with_reducible exact LeO.none _)
   | (with_reducible refine LeO.ite ?_ ?_)
   | (with_reducible refine LeO.bind ?_ (fun _ => ?_))
   | exact ih0 _ _
   | exact spec_l01Ones.mono _ _
   | exact LeO.none _
   | refine LeO.ite ?_ ?_
   | refine LeO.bind ?_ (fun _ => ?_)
theorem spec_l03Signs.mono : ∀ a0 k, LeO (spec_l03Signs.f k a0) (spec_l03Signs.f (k + 1) a0) := by
 intro a0 k
 have ih0 := spec_l03Signs.mono_l k
 unfold spec_l03Signs.f
 repeat' first
   | (with_reducible exact ih0 _ _)
   | (with_reducible exact spec_l01Ones.mono _ _)
   | (with_reducible exact LeO.refl _)
   | (with_reducible exact LeO.none _)
   | (with_reducible refine LeO.ite ?_ ?_)
   | (with_reducible refine LeO.bind ?_ (fun _ => ?_))
   | exact ih0 _ _
   | exact spec_l01Ones.mono _ _
   | exact LeO.none _
   | refine LeO.ite ?_ ?_
   | refine LeO.bind ?_ (fun _ => ?_)
set_option maxHeartbeats 8000000 in
set_option maxRecDepth 100000 in
theorem spec_l03Signs.calls (k : Nat) (a0 : Int) (r : List Int) (w : World) (h : spec_l03Signs.f k a0 = some r) :
  Calls Try.prog 183 #[.int .i64 a0] w fun e w' => ∃ v0_ : Value, e = .returned (v0_) ∧ Kd.R (Kd.int .i64) 2 w' w.heap.size (fun _ => True) v0_ r ∧ Below w.heap.size w w' := by
 have HB := Aside0.mk (Below.refl w.heap.size w)
 have H : ((some (([] : List Int) : List Int)).bind fun y179 => ((spec_l01Ones.f k a0).bind fun t182 => (if (wrap64 (t182 - 1)) = 0 then (some y179) else (spec_l03Signs.l0 k y179 (wrap64 (t182 - 1)))))) = some r := h
 clear h
 obtain ⟨y179, hy179⟩ : ∃ y_ : List Int, y_ = (([] : List Int)) := ⟨_, rfl⟩
 replace H : ((spec_l01Ones.f k a0).bind fun t182 => (if (wrap64 (t182 - 1)) = 0 then (some y179) else (spec_l03Signs.l0 k y179 (wrap64 (t182 - 1))))) = some r := by first | (rw [hy179]; with_reducible exact H) | (have H2_ := (Option.bind_some _ _).symm.trans H; rw [hy179]; with_reducible exact H2_) | (have H2_ := (Option.bind_some _ _).symm.trans H; with_reducible exact H2_) | with_reducible exact H | (rw [hy179]; exact H) | exact H
 have Ny179 := Aside0.mk hy179
 clear hy179
 replace H := Option.bind_eq_some_iff.mp H
 obtain ⟨t182, A20, H⟩ := H
 try dsimp only at H
 have A2 := Aside0.mk A20
 clear A20
 by_cases c3 : (wrap64 (t182 - 1)) = 0
 ·rw [if_pos c3] at H
  have c3b0 : ((wrap64 (t182 - 1)) == 0) = true := beq_iff_eq.mpr c3
  have c3b1 : ((wrap64 (t182 - 1)) != 0) = false := bne_eq_false_iff_eq.mpr c3
  clear c3
  obtain rfl := Option.some.inj H
  go_enter Try.func183, Try.ntmps183
  go_wp2_with (first | ((with_reducible refine gate_dst (N := 5) rfl ?_); refine Kd.R_lit (Kd.int .i64) _ 2 ?hg (N := 5) ?hd (xs := ([] : List Int)) (inner := []) (ok := fun _ => True) (okp := fun _ => True) ?hr ?hp (fun _ hk => hk) trivial (Below.refl _ _) (Nat.le_refl _) (by simp) ?_; (case hd => rfl); (case hg => rfl); (case hr => first | (go_simp; done) | (go_simp; rfl)); (case hp => exact (Reps.none _ _)); intro v180 w4 ho5 hb hg_ hnew_; clear hg_ hnew_; (first | rw [← Ny179.out] at ho5 | (simp only [Int.reduceToNat] at ho5; rw [← Ny179.out] at ho5)); have HO181 := Aside0.mk (Kd.R_lower ho5 (below_size (pH HB))); replace HB := sH HB hb; clear hb ho5) | ((with_reducible refine gate_callee (f := 129) rfl ?_); refine cl_ (some 7) Try.func129 #[.int .i64 a0] ?_; (with_reducible refine (spec_l01Ones.calls k a0 t182 _ A2.out).mono ?_); rintro e w' ⟨rfl, ⟨nd, rfl⟩⟩; refine ⟨_, rfl, ?_⟩))
  go_ret
  exact ⟨_, by first | rfl | (simp [errW_none, errW_some] <;> rfl) | (simp [*, errW_none, errW_some] <;> rfl) | (exfalso; simp_all), by (with_reducible repeat (first | apply Kd.R_alloc | apply Kd.R_drewN | apply Kd.R_drew)); exact HO181.out, pH HB⟩
 ·rw [if_neg c3] at H
  have c3b0 : ((wrap64 (t182 - 1)) == 0) = false := beq_eq_false_iff_ne.mpr c3
  have c3b1 : ((wrap64 (t182 - 1)) != 0) = true := bne_iff_ne.mpr c3
  have H' := Aside0.mk H
  clear H
  go_enter Try.func183, Try.ntmps183
  go_wp2_with (first | ((with_reducible refine gate_dst (N := 5) rfl ?_); refine Kd.R_lit (Kd.int .i64) _ 2 ?hg (N := 5) ?hd (xs := ([] : List Int)) (inner := []) (ok := fun _ => True) (okp := fun _ => True) ?hr ?hp (fun _ hk => hk) trivial (Below.refl _ _) (Nat.le_refl _) (by simp) ?_; (case hd => rfl); (case hg => rfl); (case hr => first | (go_simp; done) | (go_simp; rfl)); (case hp => exact (Reps.none _ _)); intro v180 w6 ho7 hb hg_ hnew_; clear hg_ hnew_; (first | rw [← Ny179.out] at ho7 | (simp only [Int.reduceToNat] at ho7; rw [← Ny179.out] at ho7)); have HO181 := Aside0.mk (Kd.R_lower ho7 (below_size (pH HB))); replace HB := sH HB hb; clear hb ho7) | ((with_reducible refine gate_callee (f := 129) rfl ?_); refine cl_ (some 7) Try.func129 #[.int .i64 a0] ?_; (with_reducible refine (spec_l01Ones.calls k a0 t182 _ A2.out).mono ?_); rintro e w' ⟨rfl, ⟨nd, rfl⟩⟩; refine ⟨_, rfl, ?_⟩))
  go_loopg [3, 4] k (fun kq v3 v4 w' => ∃ (x3_1 : List Int) (x4_1 : Int), v4 = .int .i64 x4_1 ∧ Aside0 (spec_l03Signs.l0 kq x3_1 x4_1 = some r) ∧ Aside0 (kq ≤ k) ∧ Aside0 (Kd.R (Kd.int .i64) 2 w' w.heap.size (fun _ => True) v3 x3_1) ∧ Aside0 (Below w.heap.size w w'))
  case atStart => exact ⟨(y179), (wrap64 (t182 - 1)), (by first | rfl | (simp; done) | (simp [*]; done)), H', ⟨Nat.le_refl _⟩, ⟨by (with_reducible repeat (first | apply Kd.R_alloc | apply Kd.R_drewN | apply Kd.R_drew)); exact HO181.out⟩, ⟨pH HB⟩⟩
  case round =>
   clear H'
   try clear c1
   try clear p2
   try clear c3
   try clear c3b0
   try clear c3b1
   try clear p6
   obtain ⟨x3_1, x4_1, rfl, HA, HK1, HO_3, HB⟩ := hrel
   cases gk with
   | zero => exact absurd HA.out (by simp [spec_l03Signs.l0])
   | succ k1 =>
    have H := HA.out
    clear HA
    simp only [spec_l03Signs.l0] at H
    by_cases c8 : x4_1 ≥ 0
    ·rw [if_pos c8] at H
     have c8b0 : decide (0 ≤ x4_1) = true := decide_eq_true c8
     clear c8
     by_cases c9 : x3_1.length < 17592186044416
     ·rw [if_pos c9] at H
      have LMc9 := Aside0.mk c9
      clear c9
      obtain ⟨y183, hy183⟩ : ∃ y_ : List Int, y_ = (x3_1 ++ [wrap64 (1 - (wrap64 (2 * (Int.tmod x4_1 2))))]) := ⟨_, rfl⟩
      replace H : (spec_l03Signs.l0 k1 y183 (wrap64 (x4_1 - 1))) = some r := by first | (rw [hy183]; with_reducible exact H) | (have H2_ := (Option.bind_some _ _).symm.trans H; rw [hy183]; with_reducible exact H2_) | (have H2_ := (Option.bind_some _ _).symm.trans H; with_reducible exact H2_) | with_reducible exact H | (rw [hy183]; exact H) | exact H
      have Ny183 := Aside0.mk hy183
      clear hy183
      have H' := Aside0.mk H
      clear H
      go_wp2_with (first | ((with_reducible refine gate_builtin (b := .append) (xs := #[.tmp 16, .tmp 21]) rfl ?_); at_builtin; refine Kd.R_append (Kd.int .i64) (w0 := w) w.heap.size rfl (.tmp 16) (.tmp 21) 22 2 (.int .i64 0) 8 rfl Try.underlying22 info2 rfl (by decide) (by omega) u3 x3_1 (wrap64 (1 - (wrap64 (2 * (Int.tmod x4_1 2))))) [.int .i64 (wrap64 (1 - (wrap64 (2 * (Int.tmod x4_1 2)))))] (fun _ => True) (fun _ => False) rfl rfl ?aP (fun _ hk => hk.elim) ?aF ?aO ?aB ?aS ?aL ?_; (case aP => exact rfl); (case aB => exact (pH HB)); (case aF => exact (fun _ _ => trivial)); (case aO => exact (pR HO_3)); (case aS => exact (below_size (pH HB))); (case aL => have := LMc9.out; omega); intro v184 w10 ho hb hg hat; rw [← Ny183.out] at ho; replace HB := Aside0.mk (hb); have HO185 := Aside0.mk (ho); clear HO_3; clear ho hb hg hat))
      go_roundg k1
      case measure => have := HK1.out; omega
      case rel => exact ⟨(y183), (wrap64 (x4_1 - 1)), (by first | rfl | (simp; done) | (simp [*]; done)), H', ⟨by have := HK1.out; omega⟩, ⟨by (with_reducible repeat (first | apply Kd.R_alloc | apply Kd.R_drewN | apply Kd.R_drew)); exact HO185.out⟩, ⟨pH HB⟩⟩
     ·rw [if_neg c9] at H
      exact absurd H (by simp)
    ·rw [if_neg c8] at H
     have c8b0 : decide (0 ≤ x4_1) = false := decide_eq_false c8
     clear c8
     obtain rfl := Option.some.inj H
     go_wp2
     go_ret
     exact ⟨_, by first | rfl | (simp [errW_none, errW_some] <;> rfl) | (simp [*, errW_none, errW_some] <;> rfl) | (exfalso; simp_all), by (with_reducible repeat (first | apply Kd.R_alloc | apply Kd.R_drewN | apply Kd.R_drew)); exact HO_3.out, pH HB⟩
end Go.Proofs.Ytomdfjohnmikdaa.QS
namespace Go.Proofs.Ytomdfjohnmikdaa.QS
open Go.Proofs.Ytomdfjohnmikdaa.Cw Go.Proofs.Ytomdfjohnmikdaa.Kp Go.Proofs.Ytomdfjohnmikdaa.Ext Go.RowKit Go.Proofs.YtomdfjohnmikdaaW.PrintWords Go.Proofs.YtomdfjohnmikdaaW.PrintLast Go.Proofs.YtomdfjohnmikdaaW.PrintMore
attribute [local go_sem] max2_int min2_int max_two min_two max_three min_three max_four min_four   -- for this text's walks alone
set_option linter.unusedVariables false
set_option linter.unusedSimpArgs false
def spec_l03Place.l0 : Nat → List Int → Int → Int → Option (Int)
 | 0, _, _, _ => none
 | k + 1, x0, x1, x5 => if x5 < (x0.length : Int) then (if 0 ≤ x5 then (if (rd x0 x5) = x1 then (some x5) else (spec_l03Place.l0 k x0 x1 (wrap64 (x5 + 1)))) else (none)) else (some (-1))
def spec_l03Place.f (k : Nat) (l0 : List Int) (a1 : Int) : Option (Int) := spec_l03Place.l0 k l0 a1 0
set_option maxHeartbeats 8000000 in
set_option maxRecDepth 100000 in
theorem spec_l03Place.calls (k : Nat) (A0 : Option Addr) (c0 : Nat) (l0 : List Int) (a1 : Int) (r : Int) (w : World) (hr0 : Kd.C (Kd.int .i64) w A0 l0.length l0) (hc0 : l0.length ≤ c0) (h : spec_l03Place.f k l0 a1 = some r) :
  Calls Try.prog 184 #[.slice A0 l0.length c0, .int .i64 a1] w fun e w' => e = .returned (.int .i64 r) ∧ Drawn0 w w' := by
 have HR0 := Aside0.mk hr0
 have HC0 := Aside0.mk hc0
 clear hr0 hc0
 have H : (spec_l03Place.l0 k l0 a1 0) = some r := h
 clear h
 have H' := Aside0.mk H
 clear H
 go_enter Try.func184, Try.ntmps184
 go_wp2
 go_loopg [5] k (fun kq v5 w' => ∃ (x5_1 : Int), v5 = .int .i64 x5_1 ∧ Aside0 (spec_l03Place.l0 kq l0 a1 x5_1 = some r) ∧ Aside0 (kq ≤ k) ∧ Drawn0 w w')
 case atStart => exact ⟨(0), (by first | rfl | (simp; done) | (simp [*]; done)), H', ⟨Nat.le_refl _⟩, by repeat (first | exact Drawn0.refl _ | apply Drawn0.step)⟩
 case round =>
  clear H'
  try clear c1
  try clear p2
  obtain ⟨x5_1, rfl, HA, HK1, ⟨m1, rfl⟩⟩ := hrel
  cases gk with
  | zero => exact absurd HA.out (by simp [spec_l03Place.l0])
  | succ k1 =>
   have H := HA.out
   clear HA
   simp only [spec_l03Place.l0] at H
   by_cases c3 : x5_1 < (l0.length : Int)
   ·rw [if_pos c3] at H
    have c3b0 : decide (x5_1 < (l0.length : Int)) = true := decide_eq_true c3
    clear c3
    by_cases c4 : 0 ≤ x5_1
    ·rw [if_pos c4] at H
     have c4b0 : decide (0 ≤ x5_1) = true := decide_eq_true c4
     clear c4
     by_cases c5 : (rd l0 x5_1) = a1
     ·rw [if_pos c5] at H
      have c5b0 : ((rd l0 x5_1) == a1) = true := beq_iff_eq.mpr c5
      have c5b1 : ((rd l0 x5_1) != a1) = false := bne_eq_false_iff_eq.mpr c5
      clear c5
      obtain rfl := Option.some.inj H
      have p186 : 0 ≤ (x5_1 : Int) := of_decide_eq_true (by first | (with_reducible assumption) | assumption)
      have q186 : x5_1 < (l0.length : Int) := of_decide_eq_true (by first | (with_reducible assumption) | assumption)
      obtain ⟨ad186, e186, hx186_0⟩ := Kd.at_int HR0.out x5_1 p186 q186
      cases e186
      replace p186 := eq_true p186
      replace q186 := eq_true q186
      go_wp2
      go_ret
      exact ⟨by first | rfl | (simp; done) | (simp [*]; done), by repeat (first | exact Drawn0.refl _ | apply Drawn0.step)⟩
     ·rw [if_neg c5] at H
      have c5b0 : ((rd l0 x5_1) == a1) = false := beq_eq_false_iff_ne.mpr c5
      have c5b1 : ((rd l0 x5_1) != a1) = true := bne_iff_ne.mpr c5
      have H' := Aside0.mk H
      clear H
      have p186 : 0 ≤ (x5_1 : Int) := of_decide_eq_true (by first | (with_reducible assumption) | assumption)
      have q186 : x5_1 < (l0.length : Int) := of_decide_eq_true (by first | (with_reducible assumption) | assumption)
      obtain ⟨ad186, e186, hx186_0⟩ := Kd.at_int HR0.out x5_1 p186 q186
      cases e186
      replace p186 := eq_true p186
      replace q186 := eq_true q186
      go_wp2
      go_roundg k1
      case measure => have := HK1.out; omega
      case rel => exact ⟨(wrap64 (x5_1 + 1)), (by first | rfl | (simp; done) | (simp [*]; done)), H', ⟨by have := HK1.out; omega⟩, by repeat (first | exact Drawn0.refl _ | apply Drawn0.step)⟩
    ·rw [if_neg c4] at H
     exact absurd H (by simp)
   ·rw [if_neg c3] at H
    have c3b0 : decide (x5_1 < (l0.length : Int)) = false := decide_eq_false c3
    clear c3
    obtain rfl := Option.some.inj H
    go_wp2
    go_ret
    exact ⟨by first | rfl | (simp; done) | (simp [*]; done), by repeat (first | exact Drawn0.refl _ | apply Drawn0.step)⟩
end Go.Proofs.Ytomdfjohnmikdaa.QS
namespace Go.Proofs.Ytomdfjohnmikdaa.Im
set_option linter.unusedVariables false
set_option linter.unusedSimpArgs false
open Go.RowKit Go.Shelf Go.Proofs.Ytomdfjohnmikdaa.Cw Go.Proofs.YtomdfjohnmikdaaW.PrintWords Go.Proofs.YtomdfjohnmikdaaW.PrintLast Go.Proofs.YtomdfjohnmikdaaW.PrintMore
abbrev RI (w : World) (base : Nat) (ok : Nat → Prop) (v : Value) (xs : List Int) : Prop := Kd.R (Kd.int .i64) 2 w base ok v xs
def RowsPost (w : World) (m : Nat) (M : List (List Int)) (e : Ending) (w' : World) : Prop := ∃ (v : Value) (bs : List Nat), e = .returned v ∧ MxW w' w.heap.size v bs m ∧ MxI w' w.heap.size bs m M ∧ Below w.heap.size w w'
theorem infoR : (Try.prog.info? 22).map (fun i => (i.zero, i.size, i.bytes)) = some (some (.slice none 0 0), 1, 24) := by kernel_rfl
theorem RI.low {w : World} {base base' : Nat} {v : Value} {xs : List Int} (h : RI w base (fun _ => True) v xs) (hb : base' ≤ base) : RI w base' (fun k => k < w.heap.size) v xs := Kd.R_lower (Kd.R_mono (Kd.R_bound h) (fun k hk => hk.2.2.1)) hb
/-- Two rows that were there before the matrix grew. -/
def Two (W : World) (base Y : Nat) (v7 : Value) (F : List Int) (v8 : Value) (C : List Int) : Prop := RI W base (fun k => k < Y) v7 F ∧ RI W base (fun k => k < Y) v8 C ∧ Y ≤ W.heap.size
section
variable {W W1 : World} {base Y : Nat} {v7 v8 : Value} {F C : List Int}
theorem Two.of (h7 : RI W base (fun _ => True) v7 F) (h8 : RI W base (fun _ => True) v8 C) : ∃ Y, Two W base Y v7 F v8 C := ⟨_, RI.low h7 (Nat.le_refl _), RI.low h8 (Nat.le_refl _), Nat.le_refl _⟩
theorem Two.below (h : Two W base Y v7 F v8 C) (hb : Below W.heap.size W W1) : Two W1 base Y v7 F v8 C := ⟨Kd.R_below h.1 hb, Kd.R_below h.2.1 hb, Nat.le_trans h.2.2 hb.size⟩
theorem Two.far (h : Two W base Y v7 F v8 C) {y : Nat} (hy : Y ≤ y) (j : Nat) (u : Value) : Two (W.setCell ⟨y, j, none⟩ u) base Y v7 F v8 C :=
  ⟨Kd.R_far h.1 (p := ⟨y, j, none⟩) (fun k hk => Nat.ne_of_lt (Nat.lt_of_lt_of_le hk hy)) u, Kd.R_far h.2.1 (p := ⟨y, j, none⟩) (fun k hk => Nat.ne_of_lt (Nat.lt_of_lt_of_le hk hy)) u, by simpa using h.2.2⟩
theorem Two.grown (h : Two W base Y v7 F v8 C) {base' m : Nat} {bs : List Nat} {v : Value} (ho : MxW W base' v bs m) (hg : W.grownBy W1 v.ownBlock) : Two W1 base Y v7 F v8 C :=
  ⟨Kd.R_over' h.1 (fun k hk => own_typed ho k hk) (by decide) hg, Kd.R_over' h.2.1 (fun k hk => own_typed ho k hk) (by decide) hg, Nat.le_trans h.2.2 hg.size⟩
end
theorem sign_mod {s : Int} (h : s = 1 ∨ s = -1) : wrap64 (s + 2) = s + 2 ∧ IntKind.i64.wrap (s + 2) = s + 2 ∧ Int.tmod (s + 2) 2 = 1 := by
  rcases h with rfl | rfl
  · refine ⟨by simp [wrap64], by rw [IntKind.wrap_i64]; simp, by decide⟩
  · refine ⟨by simp [wrap64], by rw [IntKind.wrap_i64]; simp, by decide⟩
theorem MxI.rowLast {w : World} {base : Nat} {bs : List Nat} {m y : Nat} {M : List (List Int)} {row : List Int} (h : MxI w base (bs ++ [y]) m (M ++ [row])) {p : Nat} (hp : p < m) : ∃ v, w.cell? ⟨y, p, none⟩ = some (.int .i64 v) ∧ w.frozen? ⟨y, p, none⟩ = false ∧ MxI (w.setCell ⟨y, p, none⟩ (.int .i64 1)) base (bs ++ [y]) m (M ++ [row.set p 1]) := by
  have hl : bs.length = M.length := by have := h.1; simp at this; exact this
  have h1 : bs.length < (bs ++ [y]).length := by simp
  have h2 : bs.length < (M ++ [row]).length := by simp; omega
  have hc := h.cell h1 h2 hp
  have hpu := h.put h1 h2 hp 1
  have e1 : (bs ++ [y])[bs.length]'h1 = y := by simp
  have e2 : (M ++ [row])[bs.length]'h2 = row := by
    rw [List.getElem_append_right (by omega)]
    simp
  rw [e1] at hc hpu
  refine ⟨_, hc.1, hc.2, ?_⟩
  rw [e2, hl, List.set_append_right _ _ (Nat.le_refl _), Nat.sub_self] at hpu
  exact hpu
set_option maxRecDepth 100000 in
set_option maxHeartbeats 4000000 in
theorem rows2_c (k : Nat) (n : Int) (A : Option Addr) (c : Nat) (xs : List Int) (d : Int) (F C : List Int) (P : Int → List Int) (w : World) (hr : RC w A xs.length xs) (hc : xs.length ≤ c) (hd : -1 ≤ d ∧ d ≤ 100)
    (hF : QS.spec_l01Of.f k n xs d = some F) (hC : QS.spec_l01Of.f k n xs (d - 1) = some C)
    (hP : ∀ f ∈ F, QS.spec_l01Below.f k f = some (P f) ∧ ∃ S, QS.spec_l03Signs.f k f = some S ∧ S.length = (P f).length ∧ ∀ s ∈ S, s = 1 ∨ s = -1)
    (hpl : ∀ f ∈ F, ∀ g ∈ P f, ∃ p : Nat, QS.spec_l03Place.f k C g = some (p : Int) ∧ ∃ h : p < C.length, C[p] = g) (hCn : C.Nodup) (hl1 : F.length ≤ 1000) (hl2 : C.length ≤ 1000) (hl3 : ∀ f ∈ F, (P f).length ≤ 1000) :
    Calls Try.prog 151 #[.agg #[.int .i64 n, .slice A xs.length c], .int .i64 d, .int .i64 2] w (RowsPost w C.length (matZ C F P)) := by
  have hx0 := Aside0.mk (CxAt.new w n A xs.length c).drew'
  have hb0 := Aside0.mk (below_alloc (Below.refl w.heap.size w) (.cells #[.int .i64 n, .slice A xs.length c] 28)).drew
  have HR := Aside0.mk hr
  have HC := Aside0.mk hc
  have HF := Aside0.mk hF
  have HCC := Aside0.mk hC
  have HPP := Aside0.mk hP
  have HPL := Aside0.mk hpl
  have HCN := Aside0.mk hCn
  have HL3 := Aside0.mk hl3
  have hdw : wrap64 (d - 1) = d - 1 := by unfold wrap64; omega
  have hdv : IntKind.i64.wrap (d - 1) = d - 1 := by rw [IntKind.wrap_i64]; omega
  clear hr hc hF hC hP hpl hCn hl3
  go_enter Try.func151, Try.ntmps151
  go_wp2
  have HX := hx0; have HB := hb0; clear hx0 hb0
  refine st_ 11 (S := fun w' => w'.cell? ⟨w.heap.size, 0, none⟩ = some (.int .i64 n) ∧ w'.cell? ⟨w.heap.size, 1, none⟩ = some (.slice A xs.length c)) (ds := []) ⟨HX.out.c0, HX.out.c1⟩ (fun hHeld => ?_)
  refine with_tabW (T := (true, [([], []), ([], []), ([0, 1], [0, 1]), ([], []), ([], []), ([4], [4]), ([3, 5, 2], [3, 5]), ([], []), ([2, 6, 0, 1, 2], [2]), ([6, 8, 0, 1, 2, 3, 4, 5, 6, 8], [6]), ([7, 9, 0, 1, 2, 3, 4, 5, 6, 7, 8, 9], [7])])) (B := [0, 0, 3, 0, 0, 16, 63, 0, 127, 383, 1023]) (by kernel_rfl) (by kernel_rfl) (fun HT_ HW_ => ?_)
  refine pd_ 1 16 2 HT_ ?_
  refine pd_ 4 19 18 HT_ ?_
  refine pd_ 5 20 50 HT_ ?_
  refine tk_ 0 15 51 HT_ HW_ hHeld ?_
  refine tk_ 3 18 59 HT_ HW_ hHeld ?_
  refine tw_ 2 7 (some 17) (some 22) 63 187 HT_ (fun K hK => ?_) (fun K hK => ?_)
  refine ca_ Try.func104 #[.agg #[.int .i64 n, .slice A xs.length c], .int .i64 d] ?_
  refine (QS.spec_l01Of.calls k n A c xs d F _ (Kd.C_below HR.out HB.out) HC.out HF.out).mono ?_; rintro e w2 ⟨v7, rfl, hv, hb⟩; have HV7 := Aside0.mk (Kd.R_lower hv HB.out.size); have HX2 := Aside0.mk (HX.out.below hb); have HB2 := Aside0.mk (below_in HB.out hb); clear HX HB hv hb; have HX := HX2; have HB := HB2; clear HX2 HB2
  refine ⟨_, rfl, ?_⟩
  refine hK.out _ _ ⟨HX.out.c0, HX.out.c1⟩ (fun hHeld => ?_)
  clear hK K
  refine nm_ ?_
  refine tw_ 6 7 (some 21) (some 22) 127 191 HT_ (fun K hK => ?_) (fun K hK => ?_)
  refine ca_ Try.func104 #[.agg #[.int .i64 n, .slice A xs.length c], .int .i64 (d - 1)] ?_
  refine (QS.spec_l01Of.calls k n A c xs (d - 1) C _ (Kd.C_below HR.out HB.out) HC.out HCC.out).mono ?_; rintro e w4 ⟨v8, rfl, hv, hb⟩; have HV8 := Aside0.mk (Kd.R_lower hv HB.out.size); have HX2 := Aside0.mk (HX.out.below hb); have HV72 := Aside0.mk (Kd.R_below HV7.out hb); have HB2 := Aside0.mk (below_in HB.out hb); clear HX HB HV7 hv hb; have HX := HX2; have HB := HB2; have HV7 := HV72; clear HX2 HB2 HV72
  refine ⟨_, rfl, ?_⟩
  refine hK.out _ _ ⟨HX.out.c0, HX.out.c1⟩ (fun hHeld => ?_)
  clear hK K
  refine nm_ ?_
  refine pd_ 8 7 383 HT_ ?_
  refine pd_ 9 8 895 HT_ ?_
  refine on_ 7 (some 22) 1023 HT_ (fun K hK => ?_)
  (refine value_ (by rfl) rfl (v := .slice (some ⟨w4.heap.size, 0, none⟩) 0 0) (w1 := w4.alloc (.cells #[] 22)) (by go_simp) ?_; have HX2 := Aside0.mk (HX.out.below (below_alloc (Below.refl _ _) (.cells #[] 22))); have HO : Aside0 (MxW (w4.alloc (.cells #[] 22)) w.heap.size (.slice (some ⟨w4.heap.size, 0, none⟩) 0 0) [] C.length) := ⟨World.ownsRow_made w4 #[] 0 HB.out.size (Nat.zero_le _) rfl⟩; have HV72 := Aside0.mk (Kd.R_alloc HV7.out (.cells #[] 22)); have HV82 := Aside0.mk (Kd.R_alloc HV8.out (.cells #[] 22)); have HB2 := Aside0.mk (HB.out.alloc HB.out.size (.cells #[] 22)); clear HX HB HV7 HV8; have HX := HX2; have HB := HB2; have HV7 := HV72; have HV8 := HV82; clear HX2 HB2 HV72 HV82)
  refine hK.out _ _ ⟨HX.out.c0, HX.out.c1⟩ (fun hHeld => ?_)
  clear hK K
  refine nm_ ?_
  refine pd_ 10 9 2047 HT_ ?_
  refine dn_ HT_ ?_
  rotate_left
  (refine value_ (by rfl) rfl (v := .slice (some ⟨w2.heap.size, 0, none⟩) 0 0) (w1 := w2.alloc (.cells #[] 22)) (by go_simp) ?_; have HX2 := Aside0.mk (HX.out.below (below_alloc (Below.refl _ _) (.cells #[] 22))); have HO : Aside0 (MxW (w2.alloc (.cells #[] 22)) w.heap.size (.slice (some ⟨w2.heap.size, 0, none⟩) 0 0) [] C.length) := ⟨World.ownsRow_made w2 #[] 0 HB.out.size (Nat.zero_le _) rfl⟩; have HV72 := Aside0.mk (Kd.R_alloc HV7.out (.cells #[] 22)); have HB2 := Aside0.mk (HB.out.alloc HB.out.size (.cells #[] 22)); clear HX HB HV7; have HX := HX2; have HB := HB2; have HV7 := HV72; clear HX2 HB2 HV72)
  refine hK.out _ _ ⟨HX.out.c0, HX.out.c1⟩ (fun hHeld => ?_)
  clear hK K
  refine nm_ ?_
  refine on_ 6 (some 21) 255 HT_ (fun K hK => ?_)
  refine ca_ Try.func104 #[.agg #[.int .i64 n, .slice A xs.length c], .int .i64 (d - 1)] ?_
  refine (QS.spec_l01Of.calls k n A c xs (d - 1) C _ (Kd.C_below HR.out HB.out) HC.out HCC.out).mono ?_; rintro e w4 ⟨v8, rfl, hv, hb⟩; have HV8 := Aside0.mk (Kd.R_lower hv HB.out.size); have HX2 := Aside0.mk (HX.out.below hb); have HV72 := Aside0.mk (Kd.R_below HV7.out hb); have HO2 := Aside0.mk (pw_own_below HO.out hb); have HB2 := Aside0.mk (below_in HB.out hb); clear HX HB HV7 HO hv hb; have HX := HX2; have HB := HB2; have HV7 := HV72; have HO := HO2; clear HX2 HB2 HV72 HO2
  refine ⟨_, rfl, ?_⟩
  refine hK.out _ _ ⟨HX.out.c0, HX.out.c1⟩ (fun hHeld => ?_)
  clear hK K
  refine nm_ ?_
  refine pd_ 8 7 511 HT_ ?_
  refine pd_ 9 8 1023 HT_ ?_
  refine pd_ 10 9 2047 HT_ ?_
  refine dn_ HT_ ?_
  rotate_left
  (refine value_ (by rfl) rfl (v := .slice (some ⟨(w.alloc (.cells #[.int .i64 n, .slice A xs.length c] 28)).drew.heap.size, 0, none⟩) 0 0) (w1 := (w.alloc (.cells #[.int .i64 n, .slice A xs.length c] 28)).drew.alloc (.cells #[] 22)) (by go_simp) ?_; have HX2 := Aside0.mk (HX.out.below (below_alloc (Below.refl _ _) (.cells #[] 22))); have HO : Aside0 (MxW ((w.alloc (.cells #[.int .i64 n, .slice A xs.length c] 28)).drew.alloc (.cells #[] 22)) w.heap.size (.slice (some ⟨(w.alloc (.cells #[.int .i64 n, .slice A xs.length c] 28)).drew.heap.size, 0, none⟩) 0 0) [] C.length) := ⟨World.ownsRow_made (w.alloc (.cells #[.int .i64 n, .slice A xs.length c] 28)).drew #[] 0 HB.out.size (Nat.zero_le _) rfl⟩; have HB2 := Aside0.mk (HB.out.alloc HB.out.size (.cells #[] 22)); clear HX HB ; have HX := HX2; have HB := HB2; clear HX2 HB2 )
  refine hK.out _ _ ⟨HX.out.c0, HX.out.c1⟩ (fun hHeld => ?_)
  clear hK K
  refine nm_ ?_
  refine on_ 2 (some 17) 191 HT_ (fun K hK => ?_)
  refine ca_ Try.func104 #[.agg #[.int .i64 n, .slice A xs.length c], .int .i64 d] ?_
  refine (QS.spec_l01Of.calls k n A c xs d F _ (Kd.C_below HR.out HB.out) HC.out HF.out).mono ?_; rintro e w2 ⟨v7, rfl, hv, hb⟩; have HV7 := Aside0.mk (Kd.R_lower hv HB.out.size); have HX2 := Aside0.mk (HX.out.below hb); have HO2 := Aside0.mk (pw_own_below HO.out hb); have HB2 := Aside0.mk (below_in HB.out hb); clear HX HB HO hv hb; have HX := HX2; have HB := HB2; have HO := HO2; clear HX2 HB2 HO2
  refine ⟨_, rfl, ?_⟩
  refine hK.out _ _ ⟨HX.out.c0, HX.out.c1⟩ (fun hHeld => ?_)
  clear hK K
  refine nm_ ?_
  refine on_ 6 (some 21) 255 HT_ (fun K hK => ?_)
  refine ca_ Try.func104 #[.agg #[.int .i64 n, .slice A xs.length c], .int .i64 (d - 1)] ?_
  refine (QS.spec_l01Of.calls k n A c xs (d - 1) C _ (Kd.C_below HR.out HB.out) HC.out HCC.out).mono ?_; rintro e w4 ⟨v8, rfl, hv, hb⟩; have HV8 := Aside0.mk (Kd.R_lower hv HB.out.size); have HX2 := Aside0.mk (HX.out.below hb); have HV72 := Aside0.mk (Kd.R_below HV7.out hb); have HO2 := Aside0.mk (pw_own_below HO.out hb); have HB2 := Aside0.mk (below_in HB.out hb); clear HX HB HV7 HO hv hb; have HX := HX2; have HB := HB2; have HV7 := HV72; have HO := HO2; clear HX2 HB2 HV72 HO2
  refine ⟨_, rfl, ?_⟩
  refine hK.out _ _ ⟨HX.out.c0, HX.out.c1⟩ (fun hHeld => ?_)
  clear hK K
  refine nm_ ?_
  refine pd_ 8 7 511 HT_ ?_
  refine pd_ 9 8 1023 HT_ ?_
  refine pd_ 10 9 2047 HT_ ?_
  refine dn_ HT_ ?_
  rotate_left
  all_goals
    obtain ⟨A7, c7, rfl⟩ := Kd.R_slice HV7.out
    obtain ⟨A8, c8, rfl⟩ := Kd.R_slice HV8.out
    obtain ⟨Y, h2⟩ := Two.of HV7.out HV8.out
    have H2 := Aside0.mk h2
    clear HV7 HV8 HX hHeld h2
    have hmk : ∀ W : World, (Instr.makeSlice 22 (.int .i64 (C.length : Int)) (.int .i64 (C.length : Int))).run Try.prog W = .ok (.slice (some ⟨W.heap.size, 0, none⟩) C.length C.length) (W.alloc (.cells (numV (List.replicate C.length 0)).toArray 2)) := fun W => by
      rw [← made_zero]
      exact print_make_of 22 2 (.int .i64 0) 8 Try.underlying22 info64 rfl (by decide) C.length (by omega) W
    go_wp2
    go_loopw [9, 10] (fun v9 s10 wr => ∃ (i : Nat) (bs : List Nat), i ≤ F.length ∧ s10 = .int .i64 i ∧ Aside0 (MxW wr w.heap.size v9 bs C.length) ∧ Aside0 (MxI wr w.heap.size bs C.length (matZ C (F.take i) P)) ∧ Aside0 (Two wr w.heap.size Y (.slice A7 F.length c7) F (.slice A8 C.length c8) C) ∧ Aside0 (Below w.heap.size w wr)) (fun _ s10 _ => F.length - (intOf s10).toNat)
    case atStart => exact ⟨0, [], by omega, rfl, (by first | exact HO | exact ⟨by have := HO.out; rw [show (w.alloc (.cells #[.int .i64 n, .slice A xs.length c] 28)).drew.heap.size = w.heap.size + 1 by simp] at this; exact this⟩), ⟨⟨rfl, List.nodup_nil, fun i h => absurd h (Nat.not_lt_zero _)⟩⟩, H2, HB⟩
    case round =>
      clear HO H2 HB
      obtain ⟨i, bs, hi, rfl, HO, HI, H2, HB⟩ := hrel
      have HBL : Aside0 (bs.length ≤ 1000) := ⟨by have := HI.out.1; unfold matZ at this; simp at this; omega⟩
      by_cases hlt : i < F.length
      · have hltz : (i : Int) < (F.length : Int) := by omega
        obtain ⟨af, rfl, hf0⟩ := Kd.at_int (Kd.R_reads' H2.out.1).2.2 i (by omega) (by omega)
        obtain ⟨f, hf⟩ : ∃ f, rd F i = f := ⟨_, rfl⟩
        rw [hf, show ((i : Int)).toNat = i by omega] at hf0
        have hfm : f ∈ F := by rw [← hf, rd_at' hlt]; exact List.getElem_mem hlt
        obtain ⟨hpf, Sg, hsf, hsl, hsg⟩ := HPP.out f hfm
        have hpl := HPL.out f hfm
        have hpl3 := HL3.out f hfm
        have HPF := Aside0.mk hpf
        have HSF := Aside0.mk hsf
        have HSG := Aside0.mk hsg
        have HPLF := Aside0.mk hpl
        have HFE : Aside0 (matZ C (F.take (i + 1)) P = matZ C (F.take i) P ++ [rowTo C (P f) (P f).length]) := ⟨by rw [List.take_succ_eq_append_getElem hlt, ← rd_at' hlt, hf]; unfold matZ; simp⟩
        have HS1 : Aside0 (MxI (wr.alloc (.cells (numV (List.replicate C.length 0)).toArray 2)).drew w.heap.size (bs ++ [wr.heap.size]) C.length (matZ C (F.take i) P ++ [List.replicate C.length 0])) := ⟨HI.out.snoc HB.out.size⟩
        have HO1 := Aside0.mk (show MxW (wr.alloc (.cells (numV (List.replicate C.length 0)).toArray 2)).drew w.heap.size _ bs C.length from pw_own_below HO.out (below_alloc (Below.refl wr.heap.size wr) (.cells (numV (List.replicate C.length 0)).toArray 2)).drew)
        have H21 : Aside0 (Two (wr.alloc (.cells (numV (List.replicate C.length 0)).toArray 2)).drew w.heap.size Y (.slice (some af) F.length c7) F (.slice A8 C.length c8) C) := ⟨H2.out.below (below_alloc (Below.refl wr.heap.size wr) (.cells (numV (List.replicate C.length 0)).toArray 2)).drew⟩
        have HB1 : Aside0 (Below w.heap.size w (wr.alloc (.cells (numV (List.replicate C.length 0)).toArray 2)).drew) := ⟨(HB.out.alloc HB.out.size (.cells (numV (List.replicate C.length 0)).toArray 2)).drew⟩
        have HYY : Aside0 (Y ≤ wr.heap.size) := ⟨H2.out.2.2⟩
        have HWW : Aside0 (w.heap.size ≤ wr.heap.size) := ⟨HB.out.size⟩
        have hf1 : (wr.alloc (.cells (numV (List.replicate C.length 0)).toArray 2)).drew.cell? (af.add i) = some (.int .i64 f) := pw_cell_below (below_alloc (Below.refl _ _) _) hf0
        clear HO HI H2 HB hpf hsf hsg hpl hf hfm hf0
        go_wp2
        refine st_ 12 (S := fun w' => w'.cell? (af.add i) = some (.int .i64 f)) (ds := []) hf1 (fun hHeld => ?_)
        refine with_tabW (T := (true, [([], []), ([], []), ([0, 1], [0, 1]), ([2], [2]), ([3], [3]), ([], []), ([], []), ([5, 6], [5, 6]), ([7], [7]), ([8, 4], [8]), ([4, 9, 0, 1, 2, 3, 4], [4]), ([9, 10, 0, 1, 2, 3, 4, 5, 6, 7, 8, 9, 10], [9])])) (B := [0, 0, 3, 7, 15, 0, 0, 96, 224, 511, 1023, 2047]) (by kernel_rfl) (by kernel_rfl) (fun HT_ HW_ => ?_)
        refine pd_ 0 32 1 HT_ ?_
        refine pd_ 1 33 3 HT_ ?_
        refine pd_ 2 34 7 HT_ ?_
        refine pd_ 5 37 39 HT_ ?_
        refine pd_ 6 38 103 HT_ ?_
        refine pd_ 7 39 231 HT_ ?_
        refine tk_ 3 35 239 HT_ HW_ hHeld ?_
        refine tk_ 8 40 495 HT_ HW_ hHeld ?_
        refine on_ 4 (some 36) 511 HT_ (fun K hK => ?_)
        refine ca_ Try.func101 #[.int .i64 f] ?_
        refine (QS.spec_l01Below.calls k f (P f) _ HPF.out).mono ?_; rintro e w2 ⟨vp, rfl, hv, hb⟩; have HVP := Aside0.mk (Kd.R_lower (Kd.R_mono (Kd.R_bound hv) (fun k hk => (show wr.heap.size + 1 ≤ k by have := hk.2.1; simpa using this))) (base' := w.heap.size) (HB1.out.size)); have HSZ : Aside0 (wr.heap.size + 1 ≤ w2.heap.size) := ⟨by have := hb.size; simpa using this⟩; have HS2 := Aside0.mk (HS1.out.below hb); have HO2 := Aside0.mk (pw_own_below HO1.out hb); have H22 := Aside0.mk (H21.out.below hb); have hf2 := pw_cell_below hb hf1; have HB2 := Aside0.mk (below_in HB1.out hb); clear HS1 HO1 H21 HB1 hf1; have HS1 := HS2; have HO1 := HO2; have H21 := H22; have HB1 := HB2; have hf1 := hf2; clear HS2 HO2 H22 HB2 hf2; clear hv hb
        refine ⟨_, rfl, ?_⟩
        refine hK.out _ _ hf1 (fun hHeld => ?_)
        clear hK K
        refine nm_ ?_
        refine on_ 9 (some 41) 1023 HT_ (fun K hK => ?_)
        refine ca_ Try.func183 #[.int .i64 f] ?_
        refine (QS.spec_l03Signs.calls k f Sg _ HSF.out).mono ?_; rintro e w3 ⟨vs, rfl, hv, hb⟩; have HVS := Aside0.mk (Kd.R_lower (Kd.R_mono (Kd.R_bound hv) (fun k hk => (Nat.le_trans HSZ.out hk.2.1))) (base' := w.heap.size) (HB1.out.size)); have HVP2 := Aside0.mk (Kd.R_below HVP.out hb); clear HVP; have HVP := HVP2; clear HVP2; have HS2 := Aside0.mk (HS1.out.below hb); have HO2 := Aside0.mk (pw_own_below HO1.out hb); have H22 := Aside0.mk (H21.out.below hb); have hf2 := pw_cell_below hb hf1; have HB2 := Aside0.mk (below_in HB1.out hb); clear HS1 HO1 H21 HB1 hf1; have HS1 := HS2; have HO1 := HO2; have H21 := H22; have HB1 := HB2; have hf1 := hf2; clear HS2 HO2 H22 HB2 hf2; clear hv hb
        refine ⟨_, rfl, ?_⟩
        refine hK.out _ _ hf1 (fun hHeld => ?_)
        clear hK K
        refine nm_ ?_
        refine pd_ 10 12 2047 HT_ ?_
        refine pd_ 11 13 4095 HT_ ?_
        refine dn_ HT_ ?_
        have hyy := HYY.out
        have hw0 := HWW.out
        obtain ⟨Ap, cp, rfl⟩ := Kd.R_slice HVP.out
        obtain ⟨As, cs, rfl⟩ := Kd.R_slice HVS.out
        have hz0 : List.replicate C.length (0 : Int) = rowTo C (P f) 0 := (rowTo_zero _ _).symm
        rw [hz0] at HS1
        clear hf1 hHeld hz0 HSZ HYY HWW
        generalize wr.heap.size = y0 at HS1 HVP HVS hyy hw0 ⊢
        have HYY := Aside0.mk hyy
        have HW0 : Aside0 (w.heap.size ≤ y0) := ⟨hw0⟩
        clear hw0
        clear hyy
        go_wp2
        go_loopw [14] (fun s14 wq => ∃ j : Nat, j ≤ (P f).length ∧ s14 = .int .i64 j ∧ Aside0 (MxI wq w.heap.size (bs ++ [y0]) C.length (matZ C (F.take i) P ++ [rowTo C (P f) j])) ∧ Aside0 (MxW wq w.heap.size u9 bs C.length) ∧ Aside0 (Two wq w.heap.size Y (.slice (some af) F.length c7) F (.slice A8 C.length c8) C) ∧ Aside0 (RI wq w.heap.size (fun k => y0 + 1 ≤ k) (.slice Ap (P f).length cp) (P f)) ∧ Aside0 (RI wq w.heap.size (fun k => y0 + 1 ≤ k) (.slice As Sg.length cs) Sg) ∧ Aside0 (Below w.heap.size w wq)) (fun s14 _ => (P f).length - (intOf s14).toNat)
        case atStart => exact ⟨0, by omega, rfl, HS1, HO1, H21, HVP, HVS, HB1⟩
        case round =>
          clear HS1 HO1 H21 HVP HVS HB1
          obtain ⟨j, hj, rfl, HS, HO, H2, HVP, HVS, HB⟩ := hrel
          by_cases hjl : j < (P f).length
          · have hjz : (j : Int) < ((P f).length : Int) := by omega
            have hjs : (j : Int) < (Sg.length : Int) := by omega
            obtain ⟨ap, rfl, hp0⟩ := Kd.at_int (Kd.R_reads' HVP.out).2.2 j (by omega) (by omega)
            obtain ⟨ag, rfl, hs0⟩ := Kd.at_int (Kd.R_reads' HVS.out).2.2 j (by omega) (by omega)
            obtain ⟨g, hg⟩ : ∃ g, rd (P f) j = g := ⟨_, rfl⟩
            obtain ⟨sg, hsg⟩ : ∃ sg, rd Sg j = sg := ⟨_, rfl⟩
            rw [hg, show ((j : Int)).toNat = j by omega] at hp0
            rw [hsg, show ((j : Int)).toNat = j by omega] at hs0
            have hgm : g ∈ P f := by rw [← hg, rd_at' hjl]; exact List.getElem_mem hjl
            have hsm : sg ∈ Sg := by rw [← hsg, rd_at' (by omega)]; exact List.getElem_mem (by omega)
            obtain ⟨q, hpk, hqC, hqe⟩ := HPLF.out g hgm
            obtain ⟨hm1, hm2, hm3⟩ := sign_mod (HSG.out sg hsm)
            have hge : (P f)[j] = g := by rw [← hg, rd_at' hjl]
            have HNX := Aside0.mk (rowTo_next HCN.out hjl hqC (hqe.trans hge.symm))
            have hqz : (q : Int) < (C.length : Int) := by omega
            have HPK := Aside0.mk hpk
            have hbd : Below wr.heap.size wr wr.drew := (Below.refl _ wr).drew
            have HSd := Aside0.mk (HS.out.below hbd); have HOd := Aside0.mk (pw_own_below HO.out hbd); have H2d := Aside0.mk (H2.out.below hbd); have HVPd := Aside0.mk (Kd.R_below HVP.out hbd); have HVSd := Aside0.mk (Kd.R_below HVS.out hbd); have HBd := Aside0.mk (below_in HB.out hbd)
            have hp1 : wr.drew.cell? (ap.add j) = some (.int .i64 g) := hp0
            have hs1 : wr.drew.cell? (ag.add j) = some (.int .i64 sg) := hs0
            clear hg hsg hgm hsm hqe hpk hge hbd HS HO H2 HVP HVS HB hp0 hs0
            go_wp2
            refine st_ 17 (S := fun w' => w'.cell? (ap.add j) = some (.int .i64 g) ∧ w'.cell? (ag.add j) = some (.int .i64 sg)) (ds := [16]) ⟨hp1, hs1⟩ (fun hHeld => ?_)
            refine with_tabW (T := (true, [([], []), ([], []), ([], []), ([], []), ([2, 3], [2, 3]), ([4], [4]), ([1, 5], [1, 5]), ([], []), ([], []), ([7, 8], [7, 8]), ([9], [9]), ([], []), ([10, 11], [10, 11]), ([], []), ([12, 13], [12, 13]), ([0, 6, 0, 1, 2, 3, 4, 5, 6, 7, 8, 9, 10, 11, 12, 13, 14], [0, 6]), ([15, 14, 6, 0, 1, 2, 3, 4, 5, 6, 7, 8, 9, 10, 11, 12, 13, 14], [14, 15])])) (B := [0, 0, 0, 0, 12, 28, 62, 0, 0, 384, 896, 0, 3968, 0, 16256, 32767, 65535]) (by kernel_rfl) (by kernel_rfl) (fun HT_ HW_ => ?_)
            refine pd_ 0 48 1 HT_ ?_
            refine pd_ 1 49 3 HT_ ?_
            refine pd_ 2 50 7 HT_ ?_
            refine pd_ 3 51 15 HT_ ?_
            refine pd_ 4 52 31 HT_ ?_
            refine pd_ 7 55 159 HT_ ?_
            refine pd_ 8 56 415 HT_ ?_
            refine pd_ 9 57 927 HT_ ?_
            refine pd_ 11 59 2975 HT_ ?_
            refine pd_ 13 61 11167 HT_ ?_
            refine tk_ 5 53 11199 HT_ HW_ hHeld ?_
            refine tk_ 10 58 12223 HT_ HW_ hHeld ?_
            refine pd_ 12 60 16319 HT_ ?_
            refine pd_ 14 62 32703 HT_ ?_
            refine on_ 6 (some 54) 32767 HT_ (fun K hK => ?_)
            refine ca_ Try.func184 #[.slice A8 C.length c8, .int .i64 g] ?_
            refine (QS.spec_l03Place.calls k A8 c8 C g (q : Int) _ (Kd.R_reads' H2d.out.2.1).2.2 (Kd.R_reads' H2d.out.2.1).2.1 HPK.out).mono ?_; rintro e w9 ⟨rfl, hdr⟩; have hb := hdr.below; have HS := Aside0.mk (HSd.out.below hb); have HO := Aside0.mk (pw_own_below HOd.out hb); have H2 := Aside0.mk (H2d.out.below hb); have HVP := Aside0.mk (Kd.R_below HVPd.out hb); have HVS := Aside0.mk (Kd.R_below HVSd.out hb); have HB := Aside0.mk (below_in HBd.out hb); have hp2 := pw_cell_below hb hp1; have hs2 := pw_cell_below hb hs1; clear HSd HOd H2d HVPd HVSd HBd hp1 hs1 hb hdr
            refine ⟨_, rfl, ?_⟩
            refine hK.out _ _ ⟨hp2, hs2⟩ (fun hHeld => ?_)
            clear hK K
            refine nm_ ?_
            refine pd_ 15 63 65535 HT_ ?_
            refine la_ 16 none 131071 HT_ (fun K hK => ?_)
            (obtain ⟨u, hu1, hu2, hu3⟩ := HS.out.rowLast hqC; rw [HNX.out] at hu3; have hblk := HS.out.block (i := bs.length) (by simp); rw [show (bs ++ [y0])[bs.length]'(by simp) = y0 by simp] at hblk; obtain ⟨cells, hblk⟩ := hblk; have HU3 := Aside0.mk hu3; have HOS := Aside0.mk (own_far HO.out (y := y0) (j := q) (MxW.ne HO.out hblk) (.int .i64 1)); have H2S := Aside0.mk (H2.out.far HYY.out q (.int .i64 1)); have HVPS := Aside0.mk (Kd.R_far HVP.out (p := ⟨y0, q, none⟩) (fun k hk => by have : y0 + 1 ≤ k := hk; show k ≠ y0; omega) (.int .i64 1)); have HVSS := Aside0.mk (Kd.R_far HVS.out (p := ⟨y0, q, none⟩) (fun k hk => by have : y0 + 1 ≤ k := hk; show k ≠ y0; omega) (.int .i64 1)); have HBS := Aside0.mk (HB.out.setCell (p := ⟨y0, q, none⟩) (HW0.out) (.int .i64 1)); clear hu3 hblk HS HO H2 HVP HVS HB hp2 hs2; refine skip_ (by rfl) rfl (w1 := w9.setCell ⟨y0, q, none⟩ (.int .i64 1)) (by go_simp) ?_)
            refine hK.out _ _ ?_
            clear hK K
            refine dn_ HT_ ?_
            go_wp2
            go_roundw
            case measure => simp [intOf]; omega
            case rel => exact ⟨j + 1, by omega, by go_num, HU3, HOS, H2S, HVPS, HVSS, HBS⟩
          · obtain rfl : j = (P f).length := by omega
            have hjz : ¬ ((P f).length : Int) < ((P f).length : Int) := by omega
            rw [← HFE.out] at HS
            go_wp2_with (at_builtin; refine print_append_of (rowV C.length) w.heap.size rfl (.tmp 64) (.tmp 66) 53 22 (.slice none 0 0) 24 rfl Try.underlying53 infoR rfl (by decide) _ bs y0 rfl rfl (rowV_one _ _) HO.out HB.out HB.out.size (by have := HBL.out; omega) ?_; intro v1 w9 ho hb hg hat; have HI9 := Aside0.mk (HS.out.grown HO.out hg); have H29 := Aside0.mk (H2.out.grown HO.out hg); have HO9 := Aside0.mk ho; have HB9 := Aside0.mk hb; clear ho hb hg hat)
            exact ⟨⟨i + 1, bs ++ [y0], by omega, by go_num, HO9, HI9, H29, HB9⟩, by simp [intOf]; omega⟩
      · obtain rfl : i = F.length := by omega
        have hltz : ¬ (F.length : Int) < (F.length : Int) := by omega
        rw [List.take_length] at HI
        go_wp2
        go_ret
        exact ⟨_, _, rfl, HO.out, HI.out, HB.out⟩
end Go.Proofs.Ytomdfjohnmikdaa.Im
namespace Go.Proofs.Ytomdfjohnmikdaa.QS
open Go.Proofs.Ytomdfjohnmikdaa.Cw Go.Proofs.Ytomdfjohnmikdaa.Kp Go.Proofs.Ytomdfjohnmikdaa.Ext Go.RowKit Go.Proofs.YtomdfjohnmikdaaW.PrintWords Go.Proofs.YtomdfjohnmikdaaW.PrintLast Go.Proofs.YtomdfjohnmikdaaW.PrintMore
attribute [local go_sem] max2_int min2_int max_two min_two max_three min_three max_four min_four   -- for this text's walks alone
set_option linter.unusedVariables false
set_option linter.unusedSimpArgs false
def laws_szInt64S.f (l0 : List Int) (a1 : Int) : Option (Int) := if (wrap64 (a1 - (l0.length : Int))) < 0 then (some (-1)) else (some (wrap64 (a1 - (l0.length : Int))))
set_option maxHeartbeats 8000000 in
set_option maxRecDepth 100000 in
theorem laws_szInt64S.calls (A0 : Option Addr) (c0 : Nat) (l0 : List Int) (a1 : Int) (r : Int) (w : World) (hr0 : Kd.C (Kd.int .i64) w A0 l0.length l0) (hc0 : l0.length ≤ c0) (h : laws_szInt64S.f l0 a1 = some r) :
  Calls Try.prog 49 #[.slice A0 l0.length c0, .int .i64 a1] w fun e w' => e = .returned (.int .i64 r) ∧ Drawn0 w w' := by
 have HR0 := Aside0.mk hr0
 have HC0 := Aside0.mk hc0
 clear hr0 hc0
 have H : (if (wrap64 (a1 - (l0.length : Int))) < 0 then (some (-1)) else (some (wrap64 (a1 - (l0.length : Int))))) = some r := h
 clear h
 by_cases c3 : (wrap64 (a1 - (l0.length : Int))) < 0
 ·rw [if_pos c3] at H
  have c3b0 : decide ((wrap64 (a1 - (l0.length : Int))) < 0) = true := decide_eq_true c3
  clear c3
  obtain rfl := Option.some.inj H
  go_enter Try.func49, Try.ntmps49
  go_wp2
  go_ret
  exact ⟨by first | rfl | (simp; done) | (simp [*]; done), by repeat (first | exact Drawn0.refl _ | apply Drawn0.step)⟩
 ·rw [if_neg c3] at H
  have c3b0 : decide ((wrap64 (a1 - (l0.length : Int))) < 0) = false := decide_eq_false c3
  clear c3
  obtain rfl := Option.some.inj H
  go_enter Try.func49, Try.ntmps49
  go_wp2
  go_ret
  exact ⟨by first | rfl | (simp; done) | (simp [*]; done), by repeat (first | exact Drawn0.refl _ | apply Drawn0.step)⟩
end Go.Proofs.Ytomdfjohnmikdaa.QS
namespace Go.Proofs.Ytomdfjohnmikdaa.QS
open Go.Proofs.Ytomdfjohnmikdaa.Cw Go.Proofs.Ytomdfjohnmikdaa.Kp Go.Proofs.Ytomdfjohnmikdaa.Ext Go.RowKit Go.Proofs.YtomdfjohnmikdaaW.PrintWords Go.Proofs.YtomdfjohnmikdaaW.PrintLast Go.Proofs.YtomdfjohnmikdaaW.PrintMore
attribute [local go_sem] max2_int min2_int max_two min_two max_three min_three max_four min_four   -- for this text's walks alone
set_option linter.unusedVariables false
set_option linter.unusedSimpArgs false
def laws_szComplex.f (a0_0 : Int) (l0_1 : List Int) (a1 : Int) : Option (Int) := (laws_szInt64S.f l0_1 a1).bind fun t102 => (if t102 < 0 then (some (-1)) else (some t102))
set_option maxHeartbeats 8000000 in
set_option maxRecDepth 100000 in
theorem laws_szComplex.calls (a0_0 : Int) (A0_1 : Option Addr) (c0_1 : Nat) (l0_1 : List Int) (a1 : Int) (r : Int) (w : World) (hr0_1 : Kd.C (Kd.int .i64) w A0_1 l0_1.length l0_1) (hc0_1 : l0_1.length ≤ c0_1) (h : laws_szComplex.f a0_0 l0_1 a1 = some r) :
  Calls Try.prog 13 #[.agg #[.int .i64 a0_0, .slice A0_1 l0_1.length c0_1], .int .i64 a1] w fun e w' => e = .returned (.int .i64 r) ∧ Below w.heap.size w w' := by
 have hu24 := Try.underlying24
 have HR0_1 := Aside0.mk hr0_1
 have HC0_1 := Aside0.mk hc0_1
 clear hr0_1 hc0_1
 have HB := Aside0.mk (Below.refl w.heap.size w)
 have H : ((laws_szInt64S.f l0_1 a1).bind fun t102 => (if t102 < 0 then (some (-1)) else (some t102))) = some r := h
 clear h
 replace H := Option.bind_eq_some_iff.mp H
 obtain ⟨t102, A30, H⟩ := H
 try dsimp only at H
 have A3 := Aside0.mk A30
 clear A30
 by_cases c4 : t102 < 0
 ·rw [if_pos c4] at H
  have c4b0 : decide (t102 < 0) = true := decide_eq_true c4
  clear c4
  obtain rfl := Option.some.inj H
  go_enter Try.func13, Try.ntmps13
  go_wp2_with (first | ((with_reducible refine gate_dst (N := 2) rfl ?_); refine box_event ?hg (N := 2) ?hd (cs := #[.int .i64 a0_0, .slice A0_1 l0_1.length c0_1]) (t := 24) ?hr ?_; (case hd => rfl); (case hg => rfl); (case hr => first | (go_simp; done) | (go_simp; rfl)); intro gb101 hg w5 hbox hb; have BK101 := Aside0.mk (hbox); have GW101 := gH HB hg; have GE101 := gH HB hg; replace HB := sH HB hb; clear hb hbox hg; have hcz6_0 : w5.cell? ⟨gb101, 0, none⟩ = some (.int .i64 a0_0) := cB BK101 0; have hcz6_1 : w5.cell? ⟨gb101, 1, none⟩ = some (.slice A0_1 l0_1.length c0_1) := cB BK101 1; have hfz6_0 := zB BK101 0; have hfz6_1 := zB BK101 1) | ((with_reducible refine gate_callee (f := 49) rfl ?_); refine cl_ (some 8) Try.func49 #[.slice A0_1 l0_1.length c0_1, .int .i64 a1] ?_; (with_reducible refine (laws_szInt64S.calls _ _ l0_1 a1 t102 _ ?side1 ?side2 A3.out).mono ?_); (case side1 => exact pC ((Kd.C_below HR0_1.out HB.out))); (case side2 => exact HC0_1.out); rintro e w' ⟨rfl, ⟨nd, rfl⟩⟩; refine ⟨_, rfl, ?_⟩))
  go_ret
  exact ⟨by first | rfl | (simp [errW_none, errW_some] <;> rfl) | (simp [*, errW_none, errW_some] <;> rfl) | (exfalso; simp_all), pH HB⟩
 ·rw [if_neg c4] at H
  have c4b0 : decide (t102 < 0) = false := decide_eq_false c4
  clear c4
  obtain rfl := Option.some.inj H
  go_enter Try.func13, Try.ntmps13
  go_wp2_with (first | ((with_reducible refine gate_dst (N := 2) rfl ?_); refine box_event ?hg (N := 2) ?hd (cs := #[.int .i64 a0_0, .slice A0_1 l0_1.length c0_1]) (t := 24) ?hr ?_; (case hd => rfl); (case hg => rfl); (case hr => first | (go_simp; done) | (go_simp; rfl)); intro gb101 hg w7 hbox hb; have BK101 := Aside0.mk (hbox); have GW101 := gH HB hg; have GE101 := gH HB hg; replace HB := sH HB hb; clear hb hbox hg; have hcz8_0 : w7.cell? ⟨gb101, 0, none⟩ = some (.int .i64 a0_0) := cB BK101 0; have hcz8_1 : w7.cell? ⟨gb101, 1, none⟩ = some (.slice A0_1 l0_1.length c0_1) := cB BK101 1; have hfz8_0 := zB BK101 0; have hfz8_1 := zB BK101 1) | ((with_reducible refine gate_callee (f := 49) rfl ?_); refine cl_ (some 8) Try.func49 #[.slice A0_1 l0_1.length c0_1, .int .i64 a1] ?_; (with_reducible refine (laws_szInt64S.calls _ _ l0_1 a1 t102 _ ?side1 ?side2 A3.out).mono ?_); (case side1 => exact pC ((Kd.C_below HR0_1.out HB.out))); (case side2 => exact HC0_1.out); rintro e w' ⟨rfl, ⟨nd, rfl⟩⟩; refine ⟨_, rfl, ?_⟩))
  go_ret
  exact ⟨by first | rfl | (simp [errW_none, errW_some] <;> rfl) | (simp [*, errW_none, errW_some] <;> rfl) | (exfalso; simp_all), pH HB⟩
end Go.Proofs.Ytomdfjohnmikdaa.QS
namespace Go.Proofs.Ytomdfjohnmikdaa.QS
open Go.Proofs.Ytomdfjohnmikdaa.Cw Go.Proofs.Ytomdfjohnmikdaa.Kp Go.Proofs.Ytomdfjohnmikdaa.Ext Go.RowKit Go.Proofs.YtomdfjohnmikdaaW.PrintWords Go.Proofs.YtomdfjohnmikdaaW.PrintLast Go.Proofs.YtomdfjohnmikdaaW.PrintMore
attribute [local go_sem] max2_int min2_int max_two min_two max_three min_three max_four min_four   -- for this text's walks alone
set_option linter.unusedVariables false
set_option linter.unusedSimpArgs false
def laws_toInt64S.l0 : Nat → List Int → List Int → Int → Option (List Int)
 | 0, _, _, _ => none
 | k + 1, x0, x3, x4 => if x4 < (x0.length : Int) then (if 0 ≤ x4 then (if x4 < (x3.length : Int) then (laws_toInt64S.l0 k x0 (x3.set (x4 : Int).toNat (rd x0 x4)) (wrap64 (x4 + 1))) else (none)) else (none)) else (some x3)
def laws_toInt64S.f (k : Nat) (l0 : List Int) : Option (List Int) := if 0 ≤ (l0.length : Int) then (if ((l0.length : Int) : Int).toNat ≤ 35184372088832 then (laws_toInt64S.l0 k l0 (List.replicate ((l0.length : Int) : Int).toNat 0) 0) else (none)) else (none)
set_option maxHeartbeats 8000000 in
set_option maxRecDepth 100000 in
theorem laws_toInt64S.calls (k : Nat) (A0 : Option Addr) (c0 : Nat) (l0 : List Int) (r : List Int) (w : World) (hr0 : Kd.C (Kd.int .i64) w A0 l0.length l0) (hc0 : l0.length ≤ c0) (h : laws_toInt64S.f k l0 = some r) :
  Calls Try.prog 16 #[.slice A0 l0.length c0] w fun e w' => ∃ v0_ : Value, e = .returned (v0_) ∧ Kd.R (Kd.int .i64) 2 w' w.heap.size (fun _ => True) v0_ r ∧ Below w.heap.size w w' := by
 have HR0 := Aside0.mk hr0
 have HC0 := Aside0.mk hc0
 clear hr0 hc0
 have HB := Aside0.mk (Below.refl w.heap.size w)
 have H : (if 0 ≤ (l0.length : Int) then (if ((l0.length : Int) : Int).toNat ≤ 35184372088832 then (laws_toInt64S.l0 k l0 (List.replicate ((l0.length : Int) : Int).toNat 0) 0) else (none)) else (none)) = some r := h
 clear h
 by_cases c2 : 0 ≤ (l0.length : Int)
 ·rw [if_pos c2] at H
  have c2b0 := eq_true c2
  have c2b1 : decide (0 ≤ (l0.length : Int)) = true := decide_eq_true c2
  clear c2
  by_cases c3 : ((l0.length : Int) : Int).toNat ≤ 35184372088832
  ·rw [if_pos c3] at H
   have c3b0 := eq_true c3
   have c3b1 : decide (((l0.length : Int) : Int).toNat ≤ 35184372088832) = true := decide_eq_true c3
   clear c3
   obtain ⟨y103, hy103⟩ : ∃ y_ : List Int, y_ = (List.replicate ((l0.length : Int) : Int).toNat 0) := ⟨_, rfl⟩
   replace H : (laws_toInt64S.l0 k l0 y103 0) = some r := by first | (rw [hy103]; with_reducible exact H) | (have H2_ := (Option.bind_some _ _).symm.trans H; rw [hy103]; with_reducible exact H2_) | (have H2_ := (Option.bind_some _ _).symm.trans H; with_reducible exact H2_) | with_reducible exact H | (rw [hy103]; exact H) | exact H
   have Ny103 := Aside0.mk hy103
   clear hy103
   have H' := Aside0.mk H
   clear H
   go_enter Try.func16, Try.ntmps16
   go_wp2_with (first | ((with_reducible refine gate_dst (N := 7) rfl ?_); refine Kd.R_make (Kd.int .i64) _ 2 rfl (N := 7) rfl 22 _ _ rfl (l0.length : Int) rfl rfl Try.underlying22 (.int .i64 0) 8 info2 rfl (by decide) (by omega) 0 (ok := fun _ => True) (okp := fun _ => True) rfl (fun _ hk => hk) trivial (of_decide_eq_true (by first | (with_reducible assumption) | assumption)) (Nat.le_trans (Nat.mul_le_mul_right _ (of_decide_eq_true (by first | (with_reducible assumption) | assumption) : (l0.length : Int).toNat ≤ 35184372088832)) (by omega)) (Below.refl _ _) (Nat.le_refl _) ?_; intro v104 w4 ho5 hb hg_ hnew_; clear hg_ hnew_; (first | rw [← Ny103.out] at ho5 | (simp only [Int.reduceToNat] at ho5; rw [← Ny103.out] at ho5)); have HO105 := Aside0.mk (Kd.R_lower ho5 (below_size (pH HB))); replace HB := sH HB hb; clear hb ho5))
   go_loopg [4] k (fun kq v4 w' => ∃ (x3_1 : List Int) (x4_1 : Int), v4 = .int .i64 x4_1 ∧ Aside0 (laws_toInt64S.l0 kq l0 x3_1 x4_1 = some r) ∧ Aside0 (kq ≤ k) ∧ Aside0 (Kd.R (Kd.int .i64) 2 w' w.heap.size (fun _ => True) v104 x3_1) ∧ Aside0 (Below w.heap.size w w'))
   case atStart => exact ⟨(y103), (0), (by first | rfl | (simp; done) | (simp [*]; done)), H', ⟨Nat.le_refl _⟩, ⟨by (with_reducible repeat (first | apply Kd.R_alloc | apply Kd.R_drewN | apply Kd.R_drew)); exact HO105.out⟩, ⟨pH HB⟩⟩
   case round =>
    clear H'
    try clear c1
    try clear c2
    try clear c2b0
    try clear c2b1
    try clear p2
    try clear c3
    try clear c3b0
    try clear c3b1
    obtain ⟨x3_1, x4_1, rfl, HA, HK1, HO_3, HB⟩ := hrel
    cases gk with
    | zero => exact absurd HA.out (by simp [laws_toInt64S.l0])
    | succ k1 =>
     have H := HA.out
     clear HA
     simp only [laws_toInt64S.l0] at H
     by_cases c6 : x4_1 < (l0.length : Int)
     ·rw [if_pos c6] at H
      have c6b0 : decide (x4_1 < (l0.length : Int)) = true := decide_eq_true c6
      clear c6
      by_cases c7 : 0 ≤ x4_1
      ·rw [if_pos c7] at H
       have c7b0 : decide (0 ≤ x4_1) = true := decide_eq_true c7
       clear c7
       by_cases c8 : x4_1 < (x3_1.length : Int)
       ·rw [if_pos c8] at H
        have c8b0 : decide (x4_1 < (x3_1.length : Int)) = true := decide_eq_true c8
        clear c8
        obtain ⟨y107, hy107⟩ : ∃ y_ : List Int, y_ = (x3_1.set (x4_1 : Int).toNat (rd l0 x4_1)) := ⟨_, rfl⟩
        replace H : (laws_toInt64S.l0 k1 l0 y107 (wrap64 (x4_1 + 1))) = some r := by first | (rw [hy107]; with_reducible exact H) | (have H2_ := (Option.bind_some _ _).symm.trans H; rw [hy107]; with_reducible exact H2_) | (have H2_ := (Option.bind_some _ _).symm.trans H; with_reducible exact H2_) | with_reducible exact H | (rw [hy107]; exact H) | exact H
        have Ny107 := Aside0.mk hy107
        clear hy107
        have H' := Aside0.mk H
        clear H
        have p106 : 0 ≤ (x4_1 : Int) := of_decide_eq_true (by first | (with_reducible assumption) | assumption)
        have q106 : x4_1 < (l0.length : Int) := of_decide_eq_true (by first | (with_reducible assumption) | assumption)
        obtain ⟨ad106, e106, hx106_0⟩ := Kd.at_int HR0.out x4_1 p106 q106
        cases e106
        replace hx106_0 := cH HB hx106_0
        replace p106 := eq_true p106
        replace q106 := eq_true q106
        have p9 : 0 ≤ (x4_1 : Int) := of_decide_eq_true (by first | (with_reducible assumption) | assumption)
        have q9 : (x4_1 : Int) < ((x3_1.length : Int) : Int) := of_decide_eq_true (by first | (with_reducible assumption) | assumption)
        obtain ⟨go9, co9, eo9, gb9, gl9, cl9, HG9⟩ := Kd.R_form HO_3.out (by omega)
        (first | cases eo9 | (injection eo9 with ea_ en_ ec_; (first | subst ea_ | (injection ea_ with ea_; subst ea_)); subst ec_; clear en_))
        have GB9 := Aside0.mk gb9
        have GG9 := Aside0.mk HG9
        clear gb9 gl9 HG9
        obtain ⟨hx9_0, hf9_0⟩ := Kd.R_celln 0 HO_3.out (x4_1 : Int) p9 q9
        replace p9 := eq_true p9
        replace q9 := eq_true q9
        have HP10 := Kd.R_putg HO_3.out (x4_1 : Int) (rd l0 x4_1)
        go_wp2_with (first | ((with_reducible refine gate_store (t := 2) (p := 20) rfl ?_); refine store_event (t := 2) (p := 20) (v := ?vo_w11) (w1 := (wr.setCell ⟨go9, (x4_1 : Int).toNat, none⟩ (.int .i64 (rd l0 x4_1)))) ?hg ?ho ?hn ?hr ?_; (case ho => rfl); (case hg => rfl); (case hn => rfl); (case hr => first | (go_simp; done) | (go_simp; rfl)); intro w11 hw; have hg : wr.grownBy w11 (some go9) := (by rw [hw]; exact HP10.2); have hp_ : Kd.R (Kd.int .i64) 2 w11 w.heap.size (fun _ => True) (.slice (some ⟨go9, 0, none⟩) x3_1.length co9) y107 := (by rw [hw, Ny107.out]; exact HP10.1); clear HP10; have n0_ := Aside0.mk (hp_); have n1_ := Aside0.mk ((by rw [hw]; exact below_set (HB.out) GB9.out : Below w.heap.size w w11)); clear HO_3; clear HB; have HO_3 := n0_; have HB := n1_; clear n0_ n1_; clear hg hw hp_))
        go_roundg k1
        case measure => have := HK1.out; omega
        case rel => exact ⟨(y107), (wrap64 (x4_1 + 1)), (by first | rfl | (simp; done) | (simp [*]; done)), H', ⟨by have := HK1.out; omega⟩, ⟨by (with_reducible repeat (first | apply Kd.R_alloc | apply Kd.R_drewN | apply Kd.R_drew)); exact HO_3.out⟩, ⟨pH HB⟩⟩
       ·rw [if_neg c8] at H
        exact absurd H (by simp)
      ·rw [if_neg c7] at H
       exact absurd H (by simp)
     ·rw [if_neg c6] at H
      have c6b0 : decide (x4_1 < (l0.length : Int)) = false := decide_eq_false c6
      clear c6
      obtain rfl := Option.some.inj H
      go_wp2
      go_ret
      exact ⟨_, by first | rfl | (simp [errW_none, errW_some] <;> rfl) | (simp [*, errW_none, errW_some] <;> rfl) | (exfalso; simp_all), by (with_reducible repeat (first | apply Kd.R_alloc | apply Kd.R_drewN | apply Kd.R_drew)); exact HO_3.out, pH HB⟩
  ·rw [if_neg c3] at H
   exact absurd H (by simp)
 ·rw [if_neg c2] at H
  exact absurd H (by simp)
end Go.Proofs.Ytomdfjohnmikdaa.QS
namespace Go.Proofs.Ytomdfjohnmikdaa.QS
open Go.Proofs.Ytomdfjohnmikdaa.Cw Go.Proofs.Ytomdfjohnmikdaa.Kp Go.Proofs.Ytomdfjohnmikdaa.Ext Go.RowKit Go.Proofs.YtomdfjohnmikdaaW.PrintWords Go.Proofs.YtomdfjohnmikdaaW.PrintLast Go.Proofs.YtomdfjohnmikdaaW.PrintMore
attribute [local go_sem] max2_int min2_int max_two min_two max_three min_three max_four min_four   -- for this text's walks alone
set_option linter.unusedVariables false
set_option linter.unusedSimpArgs false
def laws_toComplex.f (k : Nat) (a0_0 : Int) (l0_1 : List Int) : Option (Int × List Int) := (laws_toInt64S.f k l0_1).bind fun t111 => (some (a0_0, t111))
set_option maxHeartbeats 8000000 in
set_option maxRecDepth 100000 in
theorem laws_toComplex.calls (k : Nat) (a0_0 : Int) (A0_1 : Option Addr) (c0_1 : Nat) (l0_1 : List Int) (r1 : Int) (r2 : List Int) (w : World) (hr0_1 : Kd.C (Kd.int .i64) w A0_1 l0_1.length l0_1) (hc0_1 : l0_1.length ≤ c0_1) (h : laws_toComplex.f k a0_0 l0_1 = some (r1, r2)) :
  Calls Try.prog 15 #[.agg #[.int .i64 a0_0, .slice A0_1 l0_1.length c0_1]] w fun e w' => ∃ v1_ : Value, e = .returned (.agg #[.int .i64 r1, v1_]) ∧ Kd.R (Kd.int .i64) 2 w' w.heap.size (fun _ => True) v1_ r2 ∧ Below w.heap.size w w' := by
 have hu24 := Try.underlying24
 have hu28 := Try.underlying28
 have HR0_1 := Aside0.mk hr0_1
 have HC0_1 := Aside0.mk hc0_1
 clear hr0_1 hc0_1
 have HB := Aside0.mk (Below.refl w.heap.size w)
 have H : ((laws_toInt64S.f k l0_1).bind fun t111 => (some (a0_0, t111))) = some (r1, r2) := h
 clear h
 replace H := Option.bind_eq_some_iff.mp H
 obtain ⟨t111, A20, H⟩ := H
 try dsimp only at H
 have A2 := Aside0.mk A20
 clear A20
 simp only [Option.some.injEq, Prod.mk.injEq] at H
 obtain ⟨rfl, rfl⟩ := H
 go_enter Try.func15, Try.ntmps15
 go_wp2_with (first | ((with_reducible refine gate_dst (N := 1) rfl ?_); refine box_event ?hg (N := 1) ?hd (cs := #[.int .i64 a0_0, .slice A0_1 l0_1.length c0_1]) (t := 24) ?hr ?_; (case hd => rfl); (case hg => rfl); (case hr => first | (go_simp; done) | (go_simp; rfl)); intro gb108 hg w3 hbox hb; have BK108 := Aside0.mk (hbox); have GW108 := gH HB hg; have GE108 := gH HB hg; replace HB := sH HB hb; clear hb hbox hg) | ((with_reducible refine gate_dst (N := 2) rfl ?_); refine box_event ?hg (N := 2) ?hd (cs := #[.int .i64 0, .slice none 0 0]) (t := 28) ?hr ?_; (case hd => rfl); (case hg => rfl); (case hr => first | (go_simp; done) | (go_simp; rfl)); intro gb109 hg w4 hbox hb; have BK109 := Aside0.mk (hbox); have GW109 := gH HB hg; have GE109 := gH HB hg; replace HB := sH HB hb; have NB108_109 := nB BK108 hg; have NB109_108 := oB BK108 hg; replace BK108 := sB BK108 hb; clear hb hbox hg) | ((with_reducible refine gate_dst (N := 3) rfl ?_); refine box_event ?hg (N := 3) ?hd (cs := #[.int .i64 0, .slice none 0 0]) (t := 28) ?hr ?_; (case hd => rfl); (case hg => rfl); (case hr => first | (go_simp; done) | (go_simp; rfl)); intro gb110 hg w5 hbox hb; have BK110 := Aside0.mk (hbox); have GW110 := gH HB hg; have GE110 := gH HB hg; replace HB := sH HB hb; have NB108_110 := nB BK108 hg; have NB110_108 := oB BK108 hg; replace BK108 := sB BK108 hb; have NB109_110 := nB BK109 hg; have NB110_109 := oB BK109 hg; replace BK109 := sB BK109 hb; clear hb hbox hg; (try have hnb6 := NB108_109.out); (try have hnc6 := NB109_108.out); (try have hnb7 := NB108_110.out); (try have hnc7 := NB110_108.out); have hcz8_0 : w5.cell? ⟨gb108, 0, none⟩ = some (.int .i64 a0_0) := cB BK108 0; have hcz8_1 : w5.cell? ⟨gb108, 1, none⟩ = some (.slice A0_1 l0_1.length c0_1) := cB BK108 1; have hfz8_0 := zB BK108 0; have hfz8_1 := zB BK108 1; (try have hnb9 := NB110_109.out); (try have hnc9 := NB109_110.out); have hcz10_0 : w5.cell? ⟨gb110, 0, none⟩ = some (.int .i64 0) := cB BK110 0; have hcz10_1 : w5.cell? ⟨gb110, 1, none⟩ = some (.slice none 0 0) := cB BK110 1; have hfz10_0 := zB BK110 0; have hfz10_1 := zB BK110 1) | ((with_reducible refine gate_callee (f := 16) rfl ?_); refine cl_ (some 9) Try.func16 #[.slice A0_1 l0_1.length c0_1] ?_; (with_reducible refine (laws_toInt64S.calls k _ _ l0_1 t111 _ ?side1 ?side2 A2.out).mono ?_); (case side1 => exact Kd.C_below HR0_1.out (pH HB)); (case side2 => exact HC0_1.out); rintro e w11 ⟨v112, rfl, ho0, hb⟩; refine ⟨_, rfl, ?_⟩; have n0_ := Aside0.mk (Kd.R_lower ho0 (below_size (pH HB))); have n1_ := Aside0.mk (blk_below (g := gb108) (o := .cells #[.int .i64 a0_0, .slice A0_1 l0_1.length c0_1] 24 (0, 0)) (by (with_reducible repeat (first | refine blk_drewN ?_ _ | refine blk_drew ?_ | refine blk_alloc ?_ _)); refine blk_far ?_ NB108_110.out _; (with_reducible repeat (first | refine blk_drewN ?_ _ | refine blk_drew ?_ | refine blk_alloc ?_ _)); exact BK108.out) hb); have n2_ := Aside0.mk (blk_below (g := gb109) (o := .cells #[.int .i64 0, .slice none 0 0] 28 (0, 0)) (by (with_reducible repeat (first | refine blk_drewN ?_ _ | refine blk_drew ?_ | refine blk_alloc ?_ _)); refine blk_far ?_ NB109_110.out _; (with_reducible repeat (first | refine blk_drewN ?_ _ | refine blk_drew ?_ | refine blk_alloc ?_ _)); exact BK109.out) hb); have n3_ := Aside0.mk (blk_below (g := gb110) (o := .cells #[.int .i64 a0_0, .slice none 0 0] 28 (0, 0)) (by (with_reducible repeat (first | refine blk_drewN ?_ _ | refine blk_drew ?_ | refine blk_alloc ?_ _)); refine blk_put (cs := #[.int .i64 0, .slice none 0 0]) ?_ 0 _ rfl; (with_reducible repeat (first | refine blk_drewN ?_ _ | refine blk_drew ?_ | refine blk_alloc ?_ _)); exact BK110.out) hb); have n4_ := sH HB hb; clear BK108; clear BK109; clear BK110; clear HB; have HO113 := n0_; have BK108 := n1_; have BK109 := n2_; have BK110 := n3_; have HB := n4_; clear n0_ n1_ n2_ n3_ n4_; (try clear hb); (try clear hi); (try clear ho0); obtain ⟨Ao12, co12, eo12⟩ := Kd.R_slice HO113.out; subst eo12; have hcz13_0 : w11.cell? ⟨gb110, 0, none⟩ = some (.int .i64 a0_0) := cB BK110 0; have hcz13_1 : w11.cell? ⟨gb110, 1, none⟩ = some (.slice none 0 0) := cB BK110 1; have hfz13_0 := zB BK110 0; have hfz13_1 := zB BK110 1; have hcz14_0 : w11.cell? ⟨gb109, 0, none⟩ = some (.int .i64 0) := cB BK109 0; have hcz14_1 : w11.cell? ⟨gb109, 1, none⟩ = some (.slice none 0 0) := cB BK109 1; have hfz14_0 := zB BK109 0; have hfz14_1 := zB BK109 1))
 refine bodyPost_ret (results_cell_row rfl _ _ gb109 28 #[.int .i64 a0_0, .slice Ao12 t111.length co12] (0, 0) _ rfl (by (with_reducible repeat (first | refine blk_drewN ?_ _ | refine blk_drew ?_ | refine blk_alloc ?_ _)); refine blk_put (cs := #[.int .i64 a0_0, .slice none 0 0]) ?_ 1 _ rfl; (with_reducible repeat (first | refine blk_drewN ?_ _ | refine blk_drew ?_ | refine blk_alloc ?_ _)); refine blk_put (cs := #[.int .i64 0, .slice none 0 0]) ?_ 0 _ rfl; (with_reducible repeat (first | refine blk_drewN ?_ _ | refine blk_drew ?_ | refine blk_alloc ?_ _)); refine blk_far ?_ NB109_110.out _; (with_reducible repeat (first | refine blk_drewN ?_ _ | refine blk_drew ?_ | refine blk_alloc ?_ _)); exact BK109.out) Try.underlying28 rfl (by kernel_rfl)) rfl ?_
 exact ⟨_, by first | rfl | (simp [errW_none, errW_some] <;> rfl) | (simp [*, errW_none, errW_some] <;> rfl) | (exfalso; simp_all), by (with_reducible repeat (first | apply Kd.R_alloc | apply Kd.R_drewN | apply Kd.R_drew)); exact Kd.R_mono (Kd.R_far (p := ⟨gb109, 1, none⟩) (Kd.R_far (p := ⟨gb109, 0, none⟩) (Kd.R_far (p := ⟨gb110, 1, none⟩) (Kd.R_types (Kd.R_types HO113.out BK110.out (by decide)) BK109.out (by decide)) (fun _ hk => hk.1.2) (.slice Ao12 t111.length co12)) (fun _ hk => hk.2) (.int .i64 a0_0)) (fun _ hk => hk.2) (.slice Ao12 t111.length co12)) (fun _ hk => trivial), pH HB⟩
end Go.Proofs.Ytomdfjohnmikdaa.QS
namespace Go.Proofs.Ytomdfjohnmikdaa.QS
open Go.Proofs.Ytomdfjohnmikdaa.Cw Go.Proofs.Ytomdfjohnmikdaa.Kp Go.Proofs.Ytomdfjohnmikdaa.Ext Go.RowKit Go.Proofs.YtomdfjohnmikdaaW.PrintWords Go.Proofs.YtomdfjohnmikdaaW.PrintLast Go.Proofs.YtomdfjohnmikdaaW.PrintMore
attribute [local go_sem] max2_int min2_int max_two min_two max_three min_three max_four min_four   -- for this text's walks alone
set_option linter.unusedVariables false
set_option linter.unusedSimpArgs false
def laws_eqInt64S.l0 : Nat → List Int → List Int → Int → Option (Bool)
 | 0, _, _, _ => none
 | k + 1, x0, x1, x5 => if x5 < (x0.length : Int) then (if 0 ≤ x5 then (if x5 < (x1.length : Int) then (if (rd x0 x5) = (rd x1 x5) then (laws_eqInt64S.l0 k x0 x1 (wrap64 (x5 + 1))) else (some false)) else (none)) else (none)) else (some true)
def laws_eqInt64S.f (k : Nat) (l0 : List Int) (l1 : List Int) : Option (Bool) := if (l0.length : Int) = (l1.length : Int) then (laws_eqInt64S.l0 k l0 l1 0) else (some false)
set_option maxHeartbeats 8000000 in
set_option maxRecDepth 100000 in
theorem laws_eqInt64S.calls (k : Nat) (A0 : Option Addr) (c0 : Nat) (l0 : List Int) (A1 : Option Addr) (c1 : Nat) (l1 : List Int) (r : Bool) (w : World) (hr0 : Kd.C (Kd.int .i64) w A0 l0.length l0) (hc0 : l0.length ≤ c0) (hr1 : Kd.C (Kd.int .i64) w A1 l1.length l1) (hc1 : l1.length ≤ c1) (h : laws_eqInt64S.f k l0 l1 = some r) :
  Calls Try.prog 18 #[.slice A0 l0.length c0, .slice A1 l1.length c1] w fun e w' => e = .returned (.bool r) ∧ Drawn0 w w' := by
 have HR0 := Aside0.mk hr0
 have HC0 := Aside0.mk hc0
 clear hr0 hc0
 have HR1 := Aside0.mk hr1
 have HC1 := Aside0.mk hc1
 clear hr1 hc1
 have H : (if (l0.length : Int) = (l1.length : Int) then (laws_eqInt64S.l0 k l0 l1 0) else (some false)) = some r := h
 clear h
 by_cases c3 : (l0.length : Int) = (l1.length : Int)
 ·rw [if_pos c3] at H
  have c3b0 : ((l0.length : Int) == (l1.length : Int)) = true := beq_iff_eq.mpr c3
  have c3b1 : ((l0.length : Int) != (l1.length : Int)) = false := bne_eq_false_iff_eq.mpr c3
  have c3b2 : (l0.length == l1.length) = true := by first | simpa using c3 | (simp at c3 ⊢; omega)
  clear c3
  have H' := Aside0.mk H
  clear H
  go_enter Try.func18, Try.ntmps18
  go_wp2
  repeat (go_quiet (fail); try go_wp2)
  go_loopg [5] k (fun kq v5 w' => ∃ (x5_1 : Int), v5 = .int .i64 x5_1 ∧ Aside0 (laws_eqInt64S.l0 kq l0 l1 x5_1 = some r) ∧ Aside0 (kq ≤ k) ∧ Drawn0 w w')
  case atStart => exact ⟨(0), (by first | rfl | (simp; done) | (simp [*]; done)), H', ⟨Nat.le_refl _⟩, by repeat (first | exact Drawn0.refl _ | apply Drawn0.step)⟩
  case round =>
   clear H'
   try clear c1
   try clear p2
   try clear c3
   try clear c3b0
   try clear c3b1
   try clear c3b2
   obtain ⟨x5_1, rfl, HA, HK1, ⟨m1, rfl⟩⟩ := hrel
   cases gk with
   | zero => exact absurd HA.out (by simp [laws_eqInt64S.l0])
   | succ k1 =>
    have H := HA.out
    clear HA
    simp only [laws_eqInt64S.l0] at H
    by_cases c4 : x5_1 < (l0.length : Int)
    ·rw [if_pos c4] at H
     have c4b0 : decide (x5_1 < (l0.length : Int)) = true := decide_eq_true c4
     clear c4
     by_cases c5 : 0 ≤ x5_1
     ·rw [if_pos c5] at H
      have c5b0 : decide (0 ≤ x5_1) = true := decide_eq_true c5
      clear c5
      by_cases c6 : x5_1 < (l1.length : Int)
      ·rw [if_pos c6] at H
       have c6b0 : decide (x5_1 < (l1.length : Int)) = true := decide_eq_true c6
       clear c6
       by_cases c7 : (rd l0 x5_1) = (rd l1 x5_1)
       ·rw [if_pos c7] at H
        have c7b0 : ((rd l0 x5_1) == (rd l1 x5_1)) = true := beq_iff_eq.mpr c7
        have c7b1 : ((rd l0 x5_1) != (rd l1 x5_1)) = false := bne_eq_false_iff_eq.mpr c7
        clear c7
        have H' := Aside0.mk H
        clear H
        have p114 : 0 ≤ (x5_1 : Int) := of_decide_eq_true (by first | (with_reducible assumption) | assumption)
        have q114 : x5_1 < (l0.length : Int) := of_decide_eq_true (by first | (with_reducible assumption) | assumption)
        obtain ⟨ad114, e114, hx114_0⟩ := Kd.at_int HR0.out x5_1 p114 q114
        cases e114
        replace p114 := eq_true p114
        replace q114 := eq_true q114
        have p115 : 0 ≤ (x5_1 : Int) := of_decide_eq_true (by first | (with_reducible assumption) | assumption)
        have q115 : x5_1 < (l1.length : Int) := of_decide_eq_true (by first | (with_reducible assumption) | assumption)
        obtain ⟨ad115, e115, hx115_0⟩ := Kd.at_int HR1.out x5_1 p115 q115
        cases e115
        replace p115 := eq_true p115
        replace q115 := eq_true q115
        go_wp2
        repeat (go_quiet (fail); try go_wp2)
        go_roundg k1
        case measure => have := HK1.out; omega
        case rel => exact ⟨(wrap64 (x5_1 + 1)), (by first | rfl | (simp; done) | (simp [*]; done)), H', ⟨by have := HK1.out; omega⟩, by repeat (first | exact Drawn0.refl _ | apply Drawn0.step)⟩
       ·rw [if_neg c7] at H
        have c7b0 : ((rd l0 x5_1) == (rd l1 x5_1)) = false := beq_eq_false_iff_ne.mpr c7
        have c7b1 : ((rd l0 x5_1) != (rd l1 x5_1)) = true := bne_iff_ne.mpr c7
        obtain rfl := Option.some.inj H
        have p114 : 0 ≤ (x5_1 : Int) := of_decide_eq_true (by first | (with_reducible assumption) | assumption)
        have q114 : x5_1 < (l0.length : Int) := of_decide_eq_true (by first | (with_reducible assumption) | assumption)
        obtain ⟨ad114, e114, hx114_0⟩ := Kd.at_int HR0.out x5_1 p114 q114
        cases e114
        replace p114 := eq_true p114
        replace q114 := eq_true q114
        have p115 : 0 ≤ (x5_1 : Int) := of_decide_eq_true (by first | (with_reducible assumption) | assumption)
        have q115 : x5_1 < (l1.length : Int) := of_decide_eq_true (by first | (with_reducible assumption) | assumption)
        obtain ⟨ad115, e115, hx115_0⟩ := Kd.at_int HR1.out x5_1 p115 q115
        cases e115
        replace p115 := eq_true p115
        replace q115 := eq_true q115
        go_wp2
        repeat (go_quiet (fail); try go_wp2)
        go_ret
        exact ⟨by first | rfl | (simp; done) | (simp [*]; done), by repeat (first | exact Drawn0.refl _ | apply Drawn0.step)⟩
      ·rw [if_neg c6] at H
       exact absurd H (by simp)
     ·rw [if_neg c5] at H
      exact absurd H (by simp)
    ·rw [if_neg c4] at H
     have c4b0 : decide (x5_1 < (l0.length : Int)) = false := decide_eq_false c4
     clear c4
     obtain rfl := Option.some.inj H
     go_wp2
     repeat (go_quiet (fail); try go_wp2)
     go_ret
     exact ⟨by first | rfl | (simp; done) | (simp [*]; done), by repeat (first | exact Drawn0.refl _ | apply Drawn0.step)⟩
 ·rw [if_neg c3] at H
  have c3b0 : ((l0.length : Int) == (l1.length : Int)) = false := beq_eq_false_iff_ne.mpr c3
  have c3b1 : ((l0.length : Int) != (l1.length : Int)) = true := bne_iff_ne.mpr c3
  have c3b2 : (l0.length == l1.length) = false := by first | simpa using c3 | (simp at c3 ⊢; omega)
  obtain rfl := Option.some.inj H
  go_enter Try.func18, Try.ntmps18
  go_wp2
  repeat (go_quiet (fail); try go_wp2)
  go_ret
  exact ⟨by first | rfl | (simp; done) | (simp [*]; done), by repeat (first | exact Drawn0.refl _ | apply Drawn0.step)⟩
end Go.Proofs.Ytomdfjohnmikdaa.QS
namespace Go.Proofs.Ytomdfjohnmikdaa.QS
open Go.Proofs.Ytomdfjohnmikdaa.Cw Go.Proofs.Ytomdfjohnmikdaa.Kp Go.Proofs.Ytomdfjohnmikdaa.Ext Go.RowKit Go.Proofs.YtomdfjohnmikdaaW.PrintWords Go.Proofs.YtomdfjohnmikdaaW.PrintLast Go.Proofs.YtomdfjohnmikdaaW.PrintMore
attribute [local go_sem] max2_int min2_int max_two min_two max_three min_three max_four min_four   -- for this text's walks alone
set_option linter.unusedVariables false
set_option linter.unusedSimpArgs false
def laws_eqComplex.f (k : Nat) (a0_0 : Int) (l0_1 : List Int) (a1_0 : Int) (l1_1 : List Int) : Option (Bool) := if a0_0 = a1_0 then ((laws_eqInt64S.f k l0_1 l1_1).bind fun t118 => (if t118 = true then (some true) else (some false))) else (some false)
set_option maxHeartbeats 8000000 in
set_option maxRecDepth 100000 in
theorem laws_eqComplex.calls (k : Nat) (a0_0 : Int) (A0_1 : Option Addr) (c0_1 : Nat) (l0_1 : List Int) (a1_0 : Int) (A1_1 : Option Addr) (c1_1 : Nat) (l1_1 : List Int) (r : Bool) (w : World) (hr0_1 : Kd.C (Kd.int .i64) w A0_1 l0_1.length l0_1) (hc0_1 : l0_1.length ≤ c0_1) (hr1_1 : Kd.C (Kd.int .i64) w A1_1 l1_1.length l1_1) (hc1_1 : l1_1.length ≤ c1_1) (h : laws_eqComplex.f k a0_0 l0_1 a1_0 l1_1 = some r) :
  Calls Try.prog 19 #[.agg #[.int .i64 a0_0, .slice A0_1 l0_1.length c0_1], .agg #[.int .i64 a1_0, .slice A1_1 l1_1.length c1_1]] w fun e w' => e = .returned (.bool r) ∧ Below w.heap.size w w' := by
 have hu28 := Try.underlying28
 have HR0_1 := Aside0.mk hr0_1
 have HC0_1 := Aside0.mk hc0_1
 clear hr0_1 hc0_1
 have HR1_1 := Aside0.mk hr1_1
 have HC1_1 := Aside0.mk hc1_1
 clear hr1_1 hc1_1
 have HB := Aside0.mk (Below.refl w.heap.size w)
 have H : (if a0_0 = a1_0 then ((laws_eqInt64S.f k l0_1 l1_1).bind fun t118 => (if t118 = true then (some true) else (some false))) else (some false)) = some r := h
 clear h
 by_cases c3 : a0_0 = a1_0
 ·rw [if_pos c3] at H
  have c3b0 : (a0_0 == a1_0) = true := beq_iff_eq.mpr c3
  have c3b1 : (a0_0 != a1_0) = false := bne_eq_false_iff_eq.mpr c3
  clear c3
  replace H := Option.bind_eq_some_iff.mp H
  obtain ⟨t118, A40, H⟩ := H
  try dsimp only at H
  have A4 := Aside0.mk A40
  clear A40
  by_cases c5 : t118 = true
  ·subst c5
   have H1 : (some true) = some r := by rw [if_pos rfl] at H; exact H
   clear H
   have H := H1
   clear H1
   obtain rfl := Option.some.inj H
   go_enter Try.func19, Try.ntmps19
   go_wp2_with (first | ((with_reducible refine gate_dst (N := 2) rfl ?_); refine box_event ?hg (N := 2) ?hd (cs := #[.int .i64 a0_0, .slice A0_1 l0_1.length c0_1]) (t := 28) ?hr ?_; (case hd => rfl); (case hg => rfl); (case hr => first | (go_simp; done) | (go_simp; rfl)); intro gb116 hg w6 hbox hb; have BK116 := Aside0.mk (hbox); have GW116 := gH HB hg; have GE116 := gH HB hg; replace HB := sH HB hb; clear hb hbox hg) | ((with_reducible refine gate_dst (N := 3) rfl ?_); refine box_event ?hg (N := 3) ?hd (cs := #[.int .i64 a1_0, .slice A1_1 l1_1.length c1_1]) (t := 28) ?hr ?_; (case hd => rfl); (case hg => rfl); (case hr => first | (go_simp; done) | (go_simp; rfl)); intro gb117 hg w7 hbox hb; have BK117 := Aside0.mk (hbox); have GW117 := gH HB hg; have GE117 := gH HB hg; replace HB := sH HB hb; have NB116_117 := nB BK116 hg; have NB117_116 := oB BK116 hg; replace BK116 := sB BK116 hb; clear hb hbox hg; (try have hnb8 := NB116_117.out); (try have hnc8 := NB117_116.out); have hcz9_0 : w7.cell? ⟨gb116, 0, none⟩ = some (.int .i64 a0_0) := cB BK116 0; have hcz9_1 : w7.cell? ⟨gb116, 1, none⟩ = some (.slice A0_1 l0_1.length c0_1) := cB BK116 1; have hfz9_0 := zB BK116 0; have hfz9_1 := zB BK116 1; have hcz10_0 : w7.cell? ⟨gb117, 0, none⟩ = some (.int .i64 a1_0) := cB BK117 0; have hcz10_1 : w7.cell? ⟨gb117, 1, none⟩ = some (.slice A1_1 l1_1.length c1_1) := cB BK117 1; have hfz10_0 := zB BK117 0; have hfz10_1 := zB BK117 1) | ((with_reducible refine gate_callee (f := 18) rfl ?_); refine cl_ (some 14) Try.func18 #[.slice A0_1 l0_1.length c0_1, .slice A1_1 l1_1.length c1_1] ?_; (with_reducible refine (laws_eqInt64S.calls k _ _ l0_1 _ _ l1_1 true _ ?side1 ?side2 ?side3 ?side4 A4.out).mono ?_); (case side1 => exact pC ((Kd.C_below HR0_1.out HB.out))); (case side2 => exact HC0_1.out); (case side3 => exact pC ((Kd.C_below HR1_1.out HB.out))); (case side4 => exact HC1_1.out); rintro e w' ⟨rfl, ⟨nd, rfl⟩⟩; refine ⟨_, rfl, ?_⟩))
   go_ret
   exact ⟨by first | rfl | (simp [errW_none, errW_some] <;> rfl) | (simp [*, errW_none, errW_some] <;> rfl) | (exfalso; simp_all), pH HB⟩
  ·replace c5 := Bool.eq_false_iff.mpr c5
   subst c5
   have H1 : (some false) = some r := by rw [if_neg (show ¬ (false = true) by decide)] at H; exact H
   clear H
   have H := H1
   clear H1
   obtain rfl := Option.some.inj H
   go_enter Try.func19, Try.ntmps19
   go_wp2_with (first | ((with_reducible refine gate_dst (N := 2) rfl ?_); refine box_event ?hg (N := 2) ?hd (cs := #[.int .i64 a0_0, .slice A0_1 l0_1.length c0_1]) (t := 28) ?hr ?_; (case hd => rfl); (case hg => rfl); (case hr => first | (go_simp; done) | (go_simp; rfl)); intro gb116 hg w11 hbox hb; have BK116 := Aside0.mk (hbox); have GW116 := gH HB hg; have GE116 := gH HB hg; replace HB := sH HB hb; clear hb hbox hg) | ((with_reducible refine gate_dst (N := 3) rfl ?_); refine box_event ?hg (N := 3) ?hd (cs := #[.int .i64 a1_0, .slice A1_1 l1_1.length c1_1]) (t := 28) ?hr ?_; (case hd => rfl); (case hg => rfl); (case hr => first | (go_simp; done) | (go_simp; rfl)); intro gb117 hg w12 hbox hb; have BK117 := Aside0.mk (hbox); have GW117 := gH HB hg; have GE117 := gH HB hg; replace HB := sH HB hb; have NB116_117 := nB BK116 hg; have NB117_116 := oB BK116 hg; replace BK116 := sB BK116 hb; clear hb hbox hg; (try have hnb13 := NB116_117.out); (try have hnc13 := NB117_116.out); have hcz14_0 : w12.cell? ⟨gb116, 0, none⟩ = some (.int .i64 a0_0) := cB BK116 0; have hcz14_1 : w12.cell? ⟨gb116, 1, none⟩ = some (.slice A0_1 l0_1.length c0_1) := cB BK116 1; have hfz14_0 := zB BK116 0; have hfz14_1 := zB BK116 1; have hcz15_0 : w12.cell? ⟨gb117, 0, none⟩ = some (.int .i64 a1_0) := cB BK117 0; have hcz15_1 : w12.cell? ⟨gb117, 1, none⟩ = some (.slice A1_1 l1_1.length c1_1) := cB BK117 1; have hfz15_0 := zB BK117 0; have hfz15_1 := zB BK117 1) | ((with_reducible refine gate_callee (f := 18) rfl ?_); refine cl_ (some 14) Try.func18 #[.slice A0_1 l0_1.length c0_1, .slice A1_1 l1_1.length c1_1] ?_; (with_reducible refine (laws_eqInt64S.calls k _ _ l0_1 _ _ l1_1 false _ ?side1 ?side2 ?side3 ?side4 A4.out).mono ?_); (case side1 => exact pC ((Kd.C_below HR0_1.out HB.out))); (case side2 => exact HC0_1.out); (case side3 => exact pC ((Kd.C_below HR1_1.out HB.out))); (case side4 => exact HC1_1.out); rintro e w' ⟨rfl, ⟨nd, rfl⟩⟩; refine ⟨_, rfl, ?_⟩))
   go_ret
   exact ⟨by first | rfl | (simp [errW_none, errW_some] <;> rfl) | (simp [*, errW_none, errW_some] <;> rfl) | (exfalso; simp_all), pH HB⟩
 ·rw [if_neg c3] at H
  have c3b0 : (a0_0 == a1_0) = false := beq_eq_false_iff_ne.mpr c3
  have c3b1 : (a0_0 != a1_0) = true := bne_iff_ne.mpr c3
  obtain rfl := Option.some.inj H
  go_enter Try.func19, Try.ntmps19
  go_wp2_with (first | ((with_reducible refine gate_dst (N := 2) rfl ?_); refine box_event ?hg (N := 2) ?hd (cs := #[.int .i64 a0_0, .slice A0_1 l0_1.length c0_1]) (t := 28) ?hr ?_; (case hd => rfl); (case hg => rfl); (case hr => first | (go_simp; done) | (go_simp; rfl)); intro gb116 hg w16 hbox hb; have BK116 := Aside0.mk (hbox); have GW116 := gH HB hg; have GE116 := gH HB hg; replace HB := sH HB hb; clear hb hbox hg) | ((with_reducible refine gate_dst (N := 3) rfl ?_); refine box_event ?hg (N := 3) ?hd (cs := #[.int .i64 a1_0, .slice A1_1 l1_1.length c1_1]) (t := 28) ?hr ?_; (case hd => rfl); (case hg => rfl); (case hr => first | (go_simp; done) | (go_simp; rfl)); intro gb117 hg w17 hbox hb; have BK117 := Aside0.mk (hbox); have GW117 := gH HB hg; have GE117 := gH HB hg; replace HB := sH HB hb; have NB116_117 := nB BK116 hg; have NB117_116 := oB BK116 hg; replace BK116 := sB BK116 hb; clear hb hbox hg; (try have hnb18 := NB116_117.out); (try have hnc18 := NB117_116.out); have hcz19_0 : w17.cell? ⟨gb116, 0, none⟩ = some (.int .i64 a0_0) := cB BK116 0; have hcz19_1 : w17.cell? ⟨gb116, 1, none⟩ = some (.slice A0_1 l0_1.length c0_1) := cB BK116 1; have hfz19_0 := zB BK116 0; have hfz19_1 := zB BK116 1; have hcz20_0 : w17.cell? ⟨gb117, 0, none⟩ = some (.int .i64 a1_0) := cB BK117 0; have hcz20_1 : w17.cell? ⟨gb117, 1, none⟩ = some (.slice A1_1 l1_1.length c1_1) := cB BK117 1; have hfz20_0 := zB BK117 0; have hfz20_1 := zB BK117 1))
  go_ret
  exact ⟨by first | rfl | (simp [errW_none, errW_some] <;> rfl) | (simp [*, errW_none, errW_some] <;> rfl) | (exfalso; simp_all), pH HB⟩
end Go.Proofs.Ytomdfjohnmikdaa.QS
namespace Go.Proofs.Ytomdfjohnmikdaa.QS
open Go.Proofs.Ytomdfjohnmikdaa.Cw Go.Proofs.Ytomdfjohnmikdaa.Kp Go.Proofs.Ytomdfjohnmikdaa.Ext Go.RowKit Go.Proofs.YtomdfjohnmikdaaW.PrintWords Go.Proofs.YtomdfjohnmikdaaW.PrintLast Go.Proofs.YtomdfjohnmikdaaW.PrintMore
attribute [local go_sem] max2_int min2_int max_two min_two max_three min_three max_four min_four   -- for this text's walks alone
set_option linter.unusedVariables false
set_option linter.unusedSimpArgs false
end Go.Proofs.Ytomdfjohnmikdaa.QS
namespace Go.Proofs.Ytomdfjohnmikdaa.QS
open Go.Proofs.Ytomdfjohnmikdaa.Cw Go.Proofs.Ytomdfjohnmikdaa.Kp Go.Proofs.Ytomdfjohnmikdaa.Ext Go.RowKit Go.Proofs.YtomdfjohnmikdaaW.PrintWords Go.Proofs.YtomdfjohnmikdaaW.PrintLast Go.Proofs.YtomdfjohnmikdaaW.PrintMore
attribute [local go_sem] max2_int min2_int max_two min_two max_three min_three max_four min_four   -- for this text's walks alone
set_option linter.unusedVariables false
set_option linter.unusedSimpArgs false
end Go.Proofs.Ytomdfjohnmikdaa.QS
namespace Go.Proofs.Ytomdfjohnmikdaa.QS
open Go.Proofs.Ytomdfjohnmikdaa.Cw Go.Proofs.Ytomdfjohnmikdaa.Kp Go.Proofs.Ytomdfjohnmikdaa.Ext Go.RowKit Go.Proofs.YtomdfjohnmikdaaW.PrintWords Go.Proofs.YtomdfjohnmikdaaW.PrintLast Go.Proofs.YtomdfjohnmikdaaW.PrintMore
attribute [local go_sem] max2_int min2_int max_two min_two max_three min_three max_four min_four   -- for this text's walks alone
set_option linter.unusedVariables false
set_option linter.unusedSimpArgs false
end Go.Proofs.Ytomdfjohnmikdaa.QS
namespace Go.Proofs.Ytomdfjohnmikdaa.QS
open Go.Proofs.Ytomdfjohnmikdaa.Cw Go.Proofs.Ytomdfjohnmikdaa.Kp Go.Proofs.Ytomdfjohnmikdaa.Ext Go.RowKit Go.Proofs.YtomdfjohnmikdaaW.PrintWords Go.Proofs.YtomdfjohnmikdaaW.PrintLast Go.Proofs.YtomdfjohnmikdaaW.PrintMore
attribute [local go_sem] max2_int min2_int max_two min_two max_three min_three max_four min_four   -- for this text's walks alone
set_option linter.unusedVariables false
set_option linter.unusedSimpArgs false
def spec_l01All.f (a0 : Int) : Option (Int) := if 0 ≤ (IntKind.u64.wrap (a0)) then (some (wrap64 ((shl .i64 1 (IntKind.u64.wrap (a0))) - 1))) else (none)
set_option maxHeartbeats 8000000 in
set_option maxRecDepth 100000 in
theorem spec_l01All.calls (a0 : Int) (r : Int) (w : World) (h : spec_l01All.f a0 = some r) :
  Calls Try.prog 100 #[.int .i64 a0] w fun e w' => e = .returned (.int .i64 r) ∧ Drawn0 w w' := by
 have H : (if 0 ≤ (IntKind.u64.wrap (a0)) then (some (wrap64 ((shl .i64 1 (IntKind.u64.wrap (a0))) - 1))) else (none)) = some r := h
 clear h
 obtain ⟨ji2, hji2⟩ : ∃ j_ : Int, (IntKind.u64.wrap (a0)) = j_ := ⟨_, rfl⟩
 replace H : (if 0 ≤ (ji2) then (some (wrap64 ((shl .i64 1 (ji2)) - 1))) else (none)) = some r := by first | (rw [hji2] at H; exact H) | (simp only [hji2] at H ⊢; exact H)
 by_cases c3 : 0 ≤ (ji2)
 ·rw [if_pos c3] at H
  have c3b0 := eq_true c3
  have c3b1 : decide (0 ≤ (ji2)) = true := decide_eq_true c3
  clear c3
  obtain ⟨ji4, hji4⟩ : ∃ j_ : Int, (shl .i64 1 (ji2)) = j_ := ⟨_, rfl⟩
  replace H : (some (wrap64 ((ji4) - 1))) = some r := by first | (rw [hji4] at H; exact H) | (simp only [hji4] at H ⊢; exact H)
  have hji4_ : (IntKind.i64.wrap (1 * 2 ^ min (ji2).toNat 64)) = ji4 := hji4
  have hji4z : (ji2) ≤ 64 → (IntKind.i64.wrap (1 * 2 ^ (ji2).toNat)) = ji4 := shl_small hji4
  have hji4u : (IntKind.i64.wrap (2 ^ min (ji2).toNat 64)) = ji4 := by have h_ := hji4_; rw [Int.one_mul] at h_; exact h_
  have hji4v : (ji2) ≤ 64 → (IntKind.i64.wrap (2 ^ (ji2).toNat)) = ji4 := fun hle_ => by have h_ := hji4z hle_; rw [Int.one_mul] at h_; exact h_
  have hji4y : (wrap64 (1 * 2 ^ min (ji2).toNat 64)) = ji4 := (i64_w _).symm.trans hji4_
  have hji4x : (ji2) ≤ 64 → (wrap64 (1 * 2 ^ (ji2).toNat)) = ji4 := fun h_ => (i64_w _).symm.trans (hji4z h_)
  obtain rfl := Option.some.inj H
  go_enter Try.func100, Try.ntmps100
  go_wp2
  go_ret
  exact ⟨by first | rfl | (simp; done) | (simp only [← hji2, ← hji4] <;> (first | rfl | simp)) | (simp [*]; done), by repeat (first | exact Drawn0.refl _ | apply Drawn0.step)⟩
 ·rw [if_neg c3] at H
  exact absurd H (by simp)
end Go.Proofs.Ytomdfjohnmikdaa.QS
namespace Go.Proofs.Ytomdfjohnmikdaa.QS
open Go.Proofs.Ytomdfjohnmikdaa.Cw Go.Proofs.Ytomdfjohnmikdaa.Kp Go.Proofs.Ytomdfjohnmikdaa.Ext Go.RowKit Go.Proofs.YtomdfjohnmikdaaW.PrintWords Go.Proofs.YtomdfjohnmikdaaW.PrintLast Go.Proofs.YtomdfjohnmikdaaW.PrintMore
attribute [local go_sem] max2_int min2_int max_two min_two max_three min_three max_four min_four   -- for this text's walks alone
set_option linter.unusedVariables false
set_option linter.unusedSimpArgs false
def spec_l01Has.l0 : Nat → Int → Int → Int → List Int → Option (Bool)
 | 0, _, _, _, _ => none
 | k + 1, x1, x5, x147000, x147001 => if x5 < (x147001.length : Int) then (if 0 ≤ x5 then (if (rd x147001 x5) = x1 then (some true) else (spec_l01Has.l0 k x1 (wrap64 (x5 + 1)) x147000 x147001)) else (none)) else (some false)
def spec_l01Has.f (k : Nat) (a0_0 : Int) (l0_1 : List Int) (a1 : Int) : Option (Bool) := spec_l01Has.l0 k a1 0 a0_0 l0_1
theorem spec_l01Has.mono_l : ∀ k, (∀ y0 y1 y2 y3, LeO (spec_l01Has.l0 k y0 y1 y2 y3) (spec_l01Has.l0 (k + 1) y0 y1 y2 y3))
 | 0 => fun _ _ _ _ r h => by simp [spec_l01Has.l0] at h
 | k + 1 => by
  have ih0 := spec_l01Has.mono_l k
  ·intro y0 y1 y2 y3
   unfold spec_l01Has.l0
   repeat' first
   | (with_reducible exact ih0 _ _ _ _)
   | (with_reducible exact LeO.refl _)
   | (with_reducible exact LeO.none _)
   | (with_reducible refine LeO.ite ?_ ?_)
   | (with_reducible refine LeO.bind ?_ (fun _ => ?_))
   | exact ih0 _ _ _ _
   | exact LeO.none _
   | refine LeO.ite ?_ ?_
   | refine LeO.bind ?_ (fun _ => ?_)
theorem spec_l01Has.mono : ∀ a0 a1 a2 k, LeO (spec_l01Has.f k a0 a1 a2) (spec_l01Has.f (k + 1) a0 a1 a2) := by
 intro a0 a1 a2 k
 have ih0 := spec_l01Has.mono_l k
 unfold spec_l01Has.f
 repeat' first
   | (with_reducible exact ih0 _ _ _ _)
   | (with_reducible exact LeO.refl _)
   | (with_reducible exact LeO.none _)
   | (with_reducible refine LeO.ite ?_ ?_)
   | (with_reducible refine LeO.bind ?_ (fun _ => ?_))
   | exact ih0 _ _ _ _
   | exact LeO.none _
   | refine LeO.ite ?_ ?_
   | refine LeO.bind ?_ (fun _ => ?_)
set_option maxHeartbeats 8000000 in
set_option maxRecDepth 100000 in
theorem spec_l01Has.calls (k : Nat) (a0_0 : Int) (A0_1 : Option Addr) (c0_1 : Nat) (l0_1 : List Int) (a1 : Int) (r : Bool) (w : World) (hr0_1 : Kd.C (Kd.int .i64) w A0_1 l0_1.length l0_1) (hc0_1 : l0_1.length ≤ c0_1) (h : spec_l01Has.f k a0_0 l0_1 a1 = some r) :
  Calls Try.prog 102 #[.agg #[.int .i64 a0_0, .slice A0_1 l0_1.length c0_1], .int .i64 a1] w fun e w' => e = .returned (.bool r) ∧ Below w.heap.size w w' := by
 have hu28 := Try.underlying28
 have HR0_1 := Aside0.mk hr0_1
 have HC0_1 := Aside0.mk hc0_1
 clear hr0_1 hc0_1
 have HB := Aside0.mk (Below.refl w.heap.size w)
 have H : (spec_l01Has.l0 k a1 0 a0_0 l0_1) = some r := h
 clear h
 have H' := Aside0.mk H
 clear H
 go_enter Try.func102, Try.ntmps102
 go_wp2_with (first | ((with_reducible refine gate_dst (N := 2) rfl ?_); refine box_event ?hg (N := 2) ?hd (cs := #[.int .i64 a0_0, .slice A0_1 l0_1.length c0_1]) (t := 28) ?hr ?_; (case hd => rfl); (case hg => rfl); (case hr => first | (go_simp; done) | (go_simp; rfl)); intro gb146 hg w3 hbox hb; have BK146 := Aside0.mk (hbox); have GW146 := gH HB hg; have GE146 := gH HB hg; replace HB := sH HB hb; clear hb hbox hg))
 go_loopg [5] k (fun kq v5 w' => ∃ (x5_1 : Int), v5 = .int .i64 x5_1 ∧ Aside0 (spec_l01Has.l0 kq a1 x5_1 a0_0 l0_1 = some r) ∧ Aside0 (kq ≤ k) ∧ Aside0 (w'.heap[gb146]? = some (.cells #[.int .i64 a0_0, (.slice A0_1 l0_1.length c0_1)] 28 (0, 0))) ∧ Aside0 (Below w.heap.size w w'))
 case atStart => exact ⟨(0), (by first | rfl | (simp; done) | (simp [*]; done)), H', ⟨Nat.le_refl _⟩, ⟨pB BK146⟩, ⟨pH HB⟩⟩
 case round =>
  clear H'
  try clear c1
  try clear p2
  obtain ⟨x5_1, rfl, HA, HK1, BK146, HB⟩ := hrel
  cases gk with
  | zero => exact absurd HA.out (by simp [spec_l01Has.l0])
  | succ k1 =>
   have H := HA.out
   clear HA
   simp only [spec_l01Has.l0] at H
   by_cases c4 : x5_1 < (l0_1.length : Int)
   ·rw [if_pos c4] at H
    have c4b0 : decide (x5_1 < (l0_1.length : Int)) = true := decide_eq_true c4
    clear c4
    by_cases c5 : 0 ≤ x5_1
    ·rw [if_pos c5] at H
     have c5b0 : decide (0 ≤ x5_1) = true := decide_eq_true c5
     clear c5
     by_cases c6 : (rd l0_1 x5_1) = a1
     ·rw [if_pos c6] at H
      have c6b0 : ((rd l0_1 x5_1) == a1) = true := beq_iff_eq.mpr c6
      have c6b1 : ((rd l0_1 x5_1) != a1) = false := bne_eq_false_iff_eq.mpr c6
      clear c6
      obtain rfl := Option.some.inj H
      have hcz7_0 : wr.cell? ⟨gb146, 0, none⟩ = some (.int .i64 a0_0) := cB BK146 0
      have hcz7_1 : wr.cell? ⟨gb146, 1, none⟩ = some (.slice A0_1 l0_1.length c0_1) := cB BK146 1
      have hfz7_0 := zB BK146 0
      have hfz7_1 := zB BK146 1
      have p147 : 0 ≤ (x5_1 : Int) := of_decide_eq_true (by first | (with_reducible assumption) | assumption)
      have q147 : x5_1 < (l0_1.length : Int) := of_decide_eq_true (by first | (with_reducible assumption) | assumption)
      obtain ⟨ad147, e147, hx147_0⟩ := Kd.at_int HR0_1.out x5_1 p147 q147
      cases e147
      replace hx147_0 := cH HB hx147_0
      replace p147 := eq_true p147
      replace q147 := eq_true q147
      go_wp2
      go_ret
      exact ⟨by first | rfl | (simp [errW_none, errW_some] <;> rfl) | (simp [*, errW_none, errW_some] <;> rfl) | (exfalso; simp_all), pH HB⟩
     ·rw [if_neg c6] at H
      have c6b0 : ((rd l0_1 x5_1) == a1) = false := beq_eq_false_iff_ne.mpr c6
      have c6b1 : ((rd l0_1 x5_1) != a1) = true := bne_iff_ne.mpr c6
      have H' := Aside0.mk H
      clear H
      have hcz8_0 : wr.cell? ⟨gb146, 0, none⟩ = some (.int .i64 a0_0) := cB BK146 0
      have hcz8_1 : wr.cell? ⟨gb146, 1, none⟩ = some (.slice A0_1 l0_1.length c0_1) := cB BK146 1
      have hfz8_0 := zB BK146 0
      have hfz8_1 := zB BK146 1
      have p147 : 0 ≤ (x5_1 : Int) := of_decide_eq_true (by first | (with_reducible assumption) | assumption)
      have q147 : x5_1 < (l0_1.length : Int) := of_decide_eq_true (by first | (with_reducible assumption) | assumption)
      obtain ⟨ad147, e147, hx147_0⟩ := Kd.at_int HR0_1.out x5_1 p147 q147
      cases e147
      replace hx147_0 := cH HB hx147_0
      replace p147 := eq_true p147
      replace q147 := eq_true q147
      go_wp2
      go_roundg k1
      case measure => have := HK1.out; omega
      case rel => exact ⟨(wrap64 (x5_1 + 1)), (by first | rfl | (simp; done) | (simp [*]; done)), H', ⟨by have := HK1.out; omega⟩, ⟨pB BK146⟩, ⟨pH HB⟩⟩
    ·rw [if_neg c5] at H
     exact absurd H (by simp)
   ·rw [if_neg c4] at H
    have c4b0 : decide (x5_1 < (l0_1.length : Int)) = false := decide_eq_false c4
    clear c4
    obtain rfl := Option.some.inj H
    have hcz9_0 : wr.cell? ⟨gb146, 0, none⟩ = some (.int .i64 a0_0) := cB BK146 0
    have hcz9_1 : wr.cell? ⟨gb146, 1, none⟩ = some (.slice A0_1 l0_1.length c0_1) := cB BK146 1
    have hfz9_0 := zB BK146 0
    have hfz9_1 := zB BK146 1
    go_wp2
    go_ret
    exact ⟨by first | rfl | (simp [errW_none, errW_some] <;> rfl) | (simp [*, errW_none, errW_some] <;> rfl) | (exfalso; simp_all), pH HB⟩
end Go.Proofs.Ytomdfjohnmikdaa.QS
namespace Go.Proofs.Ytomdfjohnmikdaa.QS
open Go.Proofs.Ytomdfjohnmikdaa.Cw Go.Proofs.Ytomdfjohnmikdaa.Kp Go.Proofs.Ytomdfjohnmikdaa.Ext Go.RowKit Go.Proofs.YtomdfjohnmikdaaW.PrintWords Go.Proofs.YtomdfjohnmikdaaW.PrintLast Go.Proofs.YtomdfjohnmikdaaW.PrintMore
attribute [local go_sem] max2_int min2_int max_two min_two max_three min_three max_four min_four   -- for this text's walks alone
set_option linter.unusedVariables false
set_option linter.unusedSimpArgs false
def spec_l01In.f (a0 : Int) (a1 : Int) (a2 : Int) : Option (Bool) := if a0 ≥ a1 then (some (decide (a0 ≤ a2))) else (some false)
set_option maxHeartbeats 8000000 in
set_option maxRecDepth 100000 in
theorem spec_l01In.calls (a0 : Int) (a1 : Int) (a2 : Int) (r : Bool) (w : World) (h : spec_l01In.f a0 a1 a2 = some r) :
  Calls Try.prog 52 #[.int .i64 a0, .int .i64 a1, .int .i64 a2] w fun e w' => e = .returned (.bool r) ∧ Drawn0 w w' := by
 have H : (if a0 ≥ a1 then (some (decide (a0 ≤ a2))) else (some false)) = some r := h
 clear h
 by_cases c4 : a0 ≥ a1
 ·rw [if_pos c4] at H
  have c4b0 : decide (a1 ≤ a0) = true := decide_eq_true c4
  clear c4
  obtain rfl := Option.some.inj H
  go_enter Try.func52, Try.ntmps52
  go_wp2
  go_ret
  exact ⟨by first | rfl | (simp; done) | (simp [*]; done), by repeat (first | exact Drawn0.refl _ | apply Drawn0.step)⟩
 ·rw [if_neg c4] at H
  have c4b0 : decide (a1 ≤ a0) = false := decide_eq_false c4
  clear c4
  obtain rfl := Option.some.inj H
  go_enter Try.func52, Try.ntmps52
  go_wp2
  go_ret
  exact ⟨by first | rfl | (simp; done) | (simp [*]; done), by repeat (first | exact Drawn0.refl _ | apply Drawn0.step)⟩
end Go.Proofs.Ytomdfjohnmikdaa.QS
namespace Go.Proofs.Ytomdfjohnmikdaa.QS
open Go.Proofs.Ytomdfjohnmikdaa.Cw Go.Proofs.Ytomdfjohnmikdaa.Kp Go.Proofs.Ytomdfjohnmikdaa.Ext Go.RowKit Go.Proofs.YtomdfjohnmikdaaW.PrintWords Go.Proofs.YtomdfjohnmikdaaW.PrintLast Go.Proofs.YtomdfjohnmikdaaW.PrintMore
attribute [local go_sem] max2_int min2_int max_two min_two max_three min_three max_four min_four   -- for this text's walks alone
set_option linter.unusedVariables false
set_option linter.unusedSimpArgs false
mutual
def spec_l01Is.l0 : Nat → Int → Int → List Int → Option (Bool)
 | 0, _, _, _ => none
 | k + 1, x3, x149000, x149001 => if x3 < (x149001.length : Int) then (if 0 ≤ x3 then ((spec_l01All.f x149000).bind fun t151 => ((spec_l01In.f (rd x149001 x3) 1 t151).bind fun t152 => (if t152 = true then (if x3 > 0 then (if 0 ≤ (wrap64 (x3 - 1)) then (if (wrap64 (x3 - 1)) < (x149001.length : Int) then (if (rd x149001 x3) ≤ (rd x149001 (wrap64 (x3 - 1))) then (some false) else (spec_l01Is.l0 k (wrap64 (x3 + 1)) x149000 x149001)) else (none)) else (none)) else (spec_l01Is.l0 k (wrap64 (x3 + 1)) x149000 x149001)) else (some false)))) else (none)) else (spec_l01Is.l1 k 0 x149000 x149001)
def spec_l01Is.l1 : Nat → Int → Int → List Int → Option (Bool)
 | 0, _, _, _ => none
 | k + 1, x4, x149000, x149001 => if x4 < (x149001.length : Int) then (if 0 ≤ x4 then ((spec_l01Below.f k (rd x149001 x4)).bind fun t156 => (spec_l01Is.l2 k x4 t156 0 x149000 x149001)) else (none)) else (some true)
def spec_l01Is.l2 : Nat → Int → List Int → Int → Int → List Int → Option (Bool)
 | 0, _, _, _, _, _ => none
 | k + 1, x4, x5, x6, x149000, x149001 => if x6 < (x5.length : Int) then (if 0 ≤ x6 then ((spec_l01Has.f k x149000 x149001 (rd x5 x6)).bind fun t160 => (if t160 = true then (spec_l01Is.l2 k x4 x5 (wrap64 (x6 + 1)) x149000 x149001) else (some false))) else (none)) else (spec_l01Is.l1 k (wrap64 (x4 + 1)) x149000 x149001)
end
def spec_l01Is.f (k : Nat) (a0_0 : Int) (l0_1 : List Int) : Option (Bool) := (spec_l01In.f a0_0 1 6).bind fun t149 => (if t149 = true then (spec_l01Is.l0 k 0 a0_0 l0_1) else (some false))
theorem spec_l01Is.mono_l : ∀ k, (∀ y0 y1 y2, LeO (spec_l01Is.l0 k y0 y1 y2) (spec_l01Is.l0 (k + 1) y0 y1 y2)) ∧ (∀ y0 y1 y2, LeO (spec_l01Is.l1 k y0 y1 y2) (spec_l01Is.l1 (k + 1) y0 y1 y2)) ∧ (∀ y0 y1 y2 y3 y4, LeO (spec_l01Is.l2 k y0 y1 y2 y3 y4) (spec_l01Is.l2 (k + 1) y0 y1 y2 y3 y4))
 | 0 => ⟨fun _ _ _ r h => by simp [spec_l01Is.l0] at h, fun _ _ _ r h => by simp [spec_l01Is.l1] at h, fun _ _ _ _ _ r h => by simp [spec_l01Is.l2] at h⟩
 | k + 1 => by
  obtain ⟨ih0, ih1, ih2⟩ := spec_l01Is.mono_l k
  refine ⟨?_, ?_, ?_⟩
  ·intro y0 y1 y2
   unfold spec_l01Is.l0
   repeat' first
   | (with_reducible exact ih0 _ _ _)
   | (with_reducible exact ih1 _ _ _)
   | (with_reducible exact ih2 _ _ _ _ _)
   | (with_reducible exact spec_l01Below.mono _ _)
   | (with_reducible exact spec_l01Has.mono _ _ _ _)
   | (with_reducible exact LeO.refl _)
   | (with_reducible exact LeO.none _)
   | (with_reducible refine LeO.ite ?_ ?_)
   | (with_reducible refine LeO.bind ?_ (fun _ => ?_))
   | exact ih0 _ _ _
   | exact ih1 _ _ _
   | exact ih2 _ _ _ _ _
   | exact spec_l01Below.mono _ _
   | exact spec_l01Has.mono _ _ _ _
   | exact LeO.none _
   | refine LeO.ite ?_ ?_
   | refine LeO.bind ?_ (fun _ => ?_)
  ·intro y0 y1 y2
   unfold spec_l01Is.l1
   repeat' first
   | (with_reducible exact ih0 _ _ _)
   | (with_reducible exact ih1 _ _ _)
   | (with_reducible exact ih2 _ _ _ _ _)
   | (with_reducible exact spec_l01Below.mono _ _)
   | (with_reducible exact spec_l01Has.mono _ _ _ _)
   | (with_reducible exact LeO.refl _)
   | (with_reducible exact LeO.none _)
   | (with_reducible refine LeO.ite ?_ ?_)
   | (with_reducible refine LeO.bind ?_ (fun _ => ?_))
   | exact ih0 _ _ _
   | exact ih1 _ _ _
   | exact ih2 _ _ _ _ _
   | exact spec_l01Below.mono _ _
   | exact spec_l01Has.mono _ _ _ _
   | exact LeO.none _
   | refine LeO.ite ?_ ?_
   | refine LeO.bind ?_ (fun _ => ?_)
  ·intro y0 y1 y2 y3 y4
   unfold spec_l01Is.l2
   repeat' first
   | (with_reducible exact ih0 _ _ _)
   | (with_reducible exact ih1 _ _ _)
   | (with_reducible exact ih2 _ _ _ _ _)
   | (with_reducible exact spec_l01Below.mono _ _)
   | (with_reducible exact spec_l01Has.mono _ _ _ _)
   | (with_reducible exact LeO.refl _)
   | (with_reducible exact LeO.none _)
   | (with_reducible refine LeO.ite ?_ ?_)
   | (with_reducible refine LeO.bind ?_ (fun _ => ?_))
   | exact ih0 _ _ _
   | exact ih1 _ _ _
   | exact ih2 _ _ _ _ _
   | exact spec_l01Below.mono _ _
   | exact spec_l01Has.mono _ _ _ _
   | exact LeO.none _
   | refine LeO.ite ?_ ?_
   | refine LeO.bind ?_ (fun _ => ?_)
theorem spec_l01Is.mono : ∀ a0 a1 k, LeO (spec_l01Is.f k a0 a1) (spec_l01Is.f (k + 1) a0 a1) := by
 intro a0 a1 k
 obtain ⟨ih0, ih1, ih2⟩ := spec_l01Is.mono_l k
 unfold spec_l01Is.f
 repeat' first
   | (with_reducible exact ih0 _ _ _)
   | (with_reducible exact ih1 _ _ _)
   | (with_reducible exact ih2 _ _ _ _ _)
   | (with_reducible exact spec_l01Below.mono _ _)
   | (with_reducible exact spec_l01Has.mono _ _ _ _)
   | (with_reducible exact LeO.refl _)
   | (with_reducible exact LeO.none _)
   | (with_reducible refine LeO.ite ?_ ?_)
   | (with_reducible refine LeO.bind ?_ (fun _ => ?_))
   | exact ih0 _ _ _
   | exact ih1 _ _ _
   | exact ih2 _ _ _ _ _
   | exact spec_l01Below.mono _ _
   | exact spec_l01Has.mono _ _ _ _
   | exact LeO.none _
   | refine LeO.ite ?_ ?_
   | refine LeO.bind ?_ (fun _ => ?_)
def spec_l01Is.T6 : Bool × List (List Nat × List Nat) := (true, [([], []), ([0], [0]), ([], []), ([1, 2], [1, 2]), ([3], [3]), ([], []), ([5], [5]), ([6], [6]), ([4, 7, 7], [4, 7]), ([8], [8]), ([9, 8], [9]), ([10], [10]), ([11, 10], [10, 11]), ([12, 10, 10], [10, 12]), ([13], [13]), ([14, 13], [13, 14]), ([13], [13]), ([15, 16, 13], [13, 15, 16]), ([17, 13], [13, 17]), ([13], [13]), ([19, 13], [13, 19]), ([13], [13]), ([21, 13], [13, 21]), ([20, 22, 13], [13, 20, 22]), ([23, 13], [13, 23]), ([18, 24, 13], [13, 18, 24]), ([13, 25, 10], [10, 13, 25]), ([10, 26], [10, 26])])
def spec_l01Is.B6 : List Nat := [0, 1, 0, 7, 15, 0, 32, 96, 255, 511, 1023, 2047, 4095, 8191, 16383, 32767, 16383, 131071, 262143, 16383, 540671, 16383, 2113535, 7880703, 16269311, 33554431, 67108863, 134217727]
theorem spec_l01Is.tab6 : rtab .any (opsOf Try.f50 6) = spec_l01Is.T6 := by kernel_rfl
theorem spec_l01Is.bits6 : waitsOk spec_l01Is.T6.2 spec_l01Is.B6 = true := by kernel_rfl
set_option maxHeartbeats 8000000 in
set_option maxRecDepth 100000 in
theorem spec_l01Is.calls (k : Nat) (a0_0 : Int) (A0_1 : Option Addr) (c0_1 : Nat) (l0_1 : List Int) (r : Bool) (w : World) (hr0_1 : Kd.C (Kd.int .i64) w A0_1 l0_1.length l0_1) (hc0_1 : l0_1.length ≤ c0_1) (h : spec_l01Is.f k a0_0 l0_1 = some r) :
  Calls Try.prog 50 #[.agg #[.int .i64 a0_0, .slice A0_1 l0_1.length c0_1]] w fun e w' => e = .returned (.bool r) ∧ Below w.heap.size w w' := by
 have hu28 := Try.underlying28
 have HR0_1 := Aside0.mk hr0_1
 have HC0_1 := Aside0.mk hc0_1
 clear hr0_1 hc0_1
 have HB := Aside0.mk (Below.refl w.heap.size w)
 have H : ((spec_l01In.f a0_0 1 6).bind fun t149 => (if t149 = true then (spec_l01Is.l0 k 0 a0_0 l0_1) else (some false))) = some r := h
 clear h
 replace H := Option.bind_eq_some_iff.mp H
 obtain ⟨t149, A20, H⟩ := H
 try dsimp only at H
 have A2 := Aside0.mk A20
 clear A20
 by_cases c3 : t149 = true
 ·subst c3
  have H1 : (spec_l01Is.l0 k 0 a0_0 l0_1) = some r := by rw [if_pos rfl] at H; exact H
  clear H
  have H := H1
  clear H1
  have H' := Aside0.mk H
  clear H
  go_enter Try.func50, Try.ntmps50
  go_wp2_with (first | ((with_reducible refine gate_dst (N := 1) rfl ?_); refine box_event ?hg (N := 1) ?hd (cs := #[.int .i64 a0_0, .slice A0_1 l0_1.length c0_1]) (t := 28) ?hr ?_; (case hd => rfl); (case hg => rfl); (case hr => first | (go_simp; done) | (go_simp; rfl)); intro gb148 hg w4 hbox hb; have BK148 := Aside0.mk (hbox); have GW148 := gH HB hg; have GE148 := gH HB hg; replace HB := sH HB hb; clear hb hbox hg; have hcz5_0 : w4.cell? ⟨gb148, 0, none⟩ = some (.int .i64 a0_0) := cB BK148 0; have hcz5_1 : w4.cell? ⟨gb148, 1, none⟩ = some (.slice A0_1 l0_1.length c0_1) := cB BK148 1; have hfz5_0 := zB BK148 0; have hfz5_1 := zB BK148 1) | ((with_reducible refine gate_callee (f := 52) rfl ?_); refine cl_ (some 9) Try.func52 #[.int .i64 a0_0, .int .i64 1, .int .i64 6] ?_; (with_reducible refine (spec_l01In.calls a0_0 1 6 true _ A2.out).mono ?_); rintro e w' ⟨rfl, ⟨nd, rfl⟩⟩; refine ⟨_, rfl, ?_⟩))
  go_loopg [3] k (fun kq v3 w' => ∃ (x3_1 : Int), v3 = .int .i64 x3_1 ∧ Aside0 (spec_l01Is.l0 kq x3_1 a0_0 l0_1 = some r) ∧ Aside0 (kq ≤ k) ∧ Aside0 (w'.heap[gb148]? = some (.cells #[.int .i64 a0_0, (.slice A0_1 l0_1.length c0_1)] 28 (0, 0))) ∧ Aside0 (Below w.heap.size w w'))
  case atStart => exact ⟨(0), (by first | rfl | (simp; done) | (simp [*]; done)), H', ⟨Nat.le_refl _⟩, ⟨pB BK148⟩, ⟨pH HB⟩⟩
  case round =>
   clear H'
   try clear p2
   try clear c3
   try clear c5
   try clear hcz5_0
   try clear hcz5_1
   try clear hfz5_0
   try clear hfz5_1
   obtain ⟨x3_1, rfl, HA, HK1, BK148, HB⟩ := hrel
   cases gk with
   | zero => exact absurd HA.out (by simp [spec_l01Is.l0])
   | succ k1 =>
    have H := HA.out
    clear HA
    simp only [spec_l01Is.l0] at H
    by_cases c6 : x3_1 < (l0_1.length : Int)
    ·rw [if_pos c6] at H
     have c6b0 : decide (x3_1 < (l0_1.length : Int)) = true := decide_eq_true c6
     clear c6
     by_cases c7 : 0 ≤ x3_1
     ·rw [if_pos c7] at H
      have c7b0 : decide (0 ≤ x3_1) = true := decide_eq_true c7
      clear c7
      replace H := Option.bind_eq_some_iff.mp H
      obtain ⟨t151, A80, H⟩ := H
      try dsimp only at H
      have A8 := Aside0.mk A80
      clear A80
      replace H := Option.bind_eq_some_iff.mp H
      obtain ⟨t152, A90, H⟩ := H
      try dsimp only at H
      have A9 := Aside0.mk A90
      clear A90
      by_cases c10 : t152 = true
      ·subst c10
       have H1 : (if x3_1 > 0 then (if 0 ≤ (wrap64 (x3_1 - 1)) then (if (wrap64 (x3_1 - 1)) < (l0_1.length : Int) then (if (rd l0_1 x3_1) ≤ (rd l0_1 (wrap64 (x3_1 - 1))) then (some false) else (spec_l01Is.l0 k1 (wrap64 (x3_1 + 1)) a0_0 l0_1)) else (none)) else (none)) else (spec_l01Is.l0 k1 (wrap64 (x3_1 + 1)) a0_0 l0_1)) = some r := by rw [if_pos rfl] at H; exact H
       clear H
       have H := H1
       clear H1
       by_cases c11 : x3_1 > 0
       ·rw [if_pos c11] at H
        have c11b0 : decide (0 < x3_1) = true := decide_eq_true c11
        clear c11
        obtain ⟨ji12, hji12⟩ : ∃ j_ : Int, (wrap64 (x3_1 - 1)) = j_ := ⟨_, rfl⟩
        replace H : (if 0 ≤ (ji12) then (if (ji12) < (l0_1.length : Int) then (if (rd l0_1 x3_1) ≤ (rd l0_1 (ji12)) then (some false) else (spec_l01Is.l0 k1 (wrap64 (x3_1 + 1)) a0_0 l0_1)) else (none)) else (none)) = some r := by first | (rw [hji12] at H; exact H) | (simp only [hji12] at H ⊢; exact H)
        (try rw [hji12] at A8)
        (try rw [hji12] at A9)
        have hji12w : (IntKind.i64.wrap (x3_1 - 1)) = ji12 := (i64_w _).trans hji12
        by_cases c13 : 0 ≤ (ji12)
        ·rw [if_pos c13] at H
         have c13b0 : decide (0 ≤ (ji12)) = true := decide_eq_true c13
         clear c13
         by_cases c14 : (ji12) < (l0_1.length : Int)
         ·rw [if_pos c14] at H
          have c14b0 : decide ((ji12) < (l0_1.length : Int)) = true := decide_eq_true c14
          clear c14
          by_cases c15 : (rd l0_1 x3_1) ≤ (rd l0_1 (ji12))
          ·rw [if_pos c15] at H
           have c15b0 : decide ((rd l0_1 x3_1) ≤ (rd l0_1 (ji12))) = true := decide_eq_true c15
           clear c15
           obtain rfl := Option.some.inj H
           have hcz16_0 : wr.cell? ⟨gb148, 0, none⟩ = some (.int .i64 a0_0) := cB BK148 0
           have hcz16_1 : wr.cell? ⟨gb148, 1, none⟩ = some (.slice A0_1 l0_1.length c0_1) := cB BK148 1
           have hfz16_0 := zB BK148 0
           have hfz16_1 := zB BK148 1
           try go_wp2
           replace BK148 := dB BK148
           replace HB := dH HB
           have p150 : 0 ≤ (x3_1 : Int) := of_decide_eq_true (by first | (with_reducible assumption) | assumption)
           have q150 : x3_1 < (l0_1.length : Int) := of_decide_eq_true (by first | (with_reducible assumption) | assumption)
           obtain ⟨ad150, e150, hx150_0⟩ := Kd.at_int HR0_1.out x3_1 p150 q150
           have hw150_0 := hx150_0
           cases e150
           replace hx150_0 := cH HB hx150_0
           replace p150 := eq_true p150
           replace q150 := eq_true q150
           have p153 : 0 ≤ (x3_1 : Int) := of_decide_eq_true (by first | (with_reducible assumption) | assumption)
           have q153 : x3_1 < (l0_1.length : Int) := of_decide_eq_true (by first | (with_reducible assumption) | assumption)
           obtain ⟨ad153, e153, hx153_0⟩ := Kd.at_int HR0_1.out x3_1 p153 q153
           have hw153_0 := hx153_0
           obtain rfl : ad150 = ad153 := (by injection e153)
           replace hx153_0 := cH HB hx153_0
           replace p153 := eq_true p153
           replace q153 := eq_true q153
           have p154 : 0 ≤ ((ji12) : Int) := of_decide_eq_true (by first | (with_reducible assumption) | assumption)
           have q154 : (ji12) < (l0_1.length : Int) := of_decide_eq_true (by first | (with_reducible assumption) | assumption)
           obtain ⟨ad154, e154, hx154_0⟩ := Kd.at_int HR0_1.out (ji12) p154 q154
           have hw154_0 := hx154_0
           obtain rfl : ad150 = ad154 := (by injection e154)
           replace hx154_0 := cH HB hx154_0
           replace p154 := eq_true p154
           replace q154 := eq_true q154
           refine st_ 28 (S := fun w' => w'.cell? ⟨gb148, 0, none⟩ = some (.int .i64 a0_0) ∧ w'.cell? ⟨gb148, 1, none⟩ = some (.slice (some ad150) l0_1.length c0_1) ∧ w'.cell? (ad150.add (x3_1).toNat) = some (.int .i64 (rd l0_1 x3_1)) ∧ w'.cell? (ad150.add (x3_1).toNat) = some (.int .i64 (rd l0_1 x3_1)) ∧ w'.cell? (ad150.add ((ji12)).toNat) = some (.int .i64 (rd l0_1 (ji12)))) (ds := []) ⟨cB BK148 0, cB BK148 1, (cH HB hw150_0 :), (cH HB hw153_0 :), (cH HB hw154_0 :)⟩ (fun hHeld => ?_); refine with_tabW spec_l01Is.tab6 spec_l01Is.bits6 (fun HT_ HW_ => ?_)
           generalize wr.drew = w17 at BK148 HB hx150_0 hx153_0 hx154_0 hHeld ⊢
           refine pu_ 0 18 1 HT_ ?_
           refine pu_ 2 20 5 HT_ ?_
           refine pu_ 5 23 37 HT_ ?_
           refine tk_ 1 19 39 HT_ HW_ hHeld ?_
           refine pu_ 3 21 47 HT_ ?_
           refine tk_ 4 22 63 HT_ HW_ hHeld ?_
           refine tk_ 6 24 127 HT_ HW_ hHeld ?_
           refine on_ 7 (some 25) 255 HT_ (fun K hK => ?_)
           refine ca_ Try.func100 #[.int .i64 a0_0] ?_
           with_reducible refine (spec_l01All.calls a0_0 t151 _ A8.out).mono ?_
           rintro e w' ⟨rfl, ⟨nd, rfl⟩⟩
           refine ⟨_, rfl, ?_⟩
           refine hK.out _ _ ⟨cB BK148 0, cB BK148 1, (cH HB hw150_0 :), (cH HB hw153_0 :), (cH HB hw154_0 :)⟩ (fun hHeld => ?_)
           clear hK K
           refine nm_ ?_
           refine on_ 8 (some 26) 511 HT_ (fun K hK => ?_)
           refine ca_ Try.func52 #[.int .i64 (rd l0_1 x3_1), .int .i64 1, .int .i64 t151] ?_
           with_reducible refine (spec_l01In.calls (rd l0_1 x3_1) 1 t151 true _ A9.out).mono ?_
           rintro e w' ⟨rfl, ⟨nd, rfl⟩⟩
           refine ⟨_, rfl, ?_⟩
           refine hK.out _ _ ⟨cB BK148 0, cB BK148 1, (cH HB hw150_0 :), (cH HB hw153_0 :), (cH HB hw154_0 :)⟩ (fun hHeld => ?_)
           clear hK K
           refine nm_ ?_
           refine pu_ 9 27 1023 HT_ ?_
           refine pu_ 10 28 2047 HT_ ?_
           refine pu_ 11 29 4095 HT_ ?_
           refine pu_ 12 30 8191 HT_ ?_
           refine pu_ 13 31 16383 HT_ ?_
           refine pu_ 14 32 32767 HT_ ?_
           refine pu_ 16 34 98303 HT_ ?_
           refine pu_ 19 37 622591 HT_ ?_
           refine pu_ 21 39 2719743 HT_ ?_
           refine pu_ 22 40 6914047 HT_ ?_
           refine tk_ 15 33 6946815 HT_ HW_ hHeld ?_
           refine pu_ 17 35 7077887 HT_ ?_
           refine tk_ 18 36 7340031 HT_ HW_ hHeld ?_
           refine tk_ 20 38 8388607 HT_ HW_ hHeld ?_
           refine pu_ 23 41 16777215 HT_ ?_
           refine tk_ 24 42 33554431 HT_ HW_ hHeld ?_
           refine pu_ 25 43 67108863 HT_ ?_
           refine pu_ 26 44 134217727 HT_ ?_
           refine pu_ 27 45 268435455 HT_ ?_
           refine dn_ HT_ ?_
           try go_wp2
           go_ret
           exact ⟨by first | rfl | (simp [errW_none, errW_some] <;> rfl) | (simp only [← hji12]; first | rfl | (simp [errW_none, errW_some] <;> rfl)) | (simp [*, errW_none, errW_some] <;> rfl) | (exfalso; simp_all), pH HB⟩
          ·rw [if_neg c15] at H
           have c15b0 : decide ((rd l0_1 x3_1) ≤ (rd l0_1 (ji12))) = false := decide_eq_false c15
           clear c15
           have H' := Aside0.mk H
           clear H
           have hcz18_0 : wr.cell? ⟨gb148, 0, none⟩ = some (.int .i64 a0_0) := cB BK148 0
           have hcz18_1 : wr.cell? ⟨gb148, 1, none⟩ = some (.slice A0_1 l0_1.length c0_1) := cB BK148 1
           have hfz18_0 := zB BK148 0
           have hfz18_1 := zB BK148 1
           try go_wp2
           replace BK148 := dB BK148
           replace HB := dH HB
           have p150 : 0 ≤ (x3_1 : Int) := of_decide_eq_true (by first | (with_reducible assumption) | assumption)
           have q150 : x3_1 < (l0_1.length : Int) := of_decide_eq_true (by first | (with_reducible assumption) | assumption)
           obtain ⟨ad150, e150, hx150_0⟩ := Kd.at_int HR0_1.out x3_1 p150 q150
           have hw150_0 := hx150_0
           cases e150
           replace hx150_0 := cH HB hx150_0
           replace p150 := eq_true p150
           replace q150 := eq_true q150
           have p153 : 0 ≤ (x3_1 : Int) := of_decide_eq_true (by first | (with_reducible assumption) | assumption)
           have q153 : x3_1 < (l0_1.length : Int) := of_decide_eq_true (by first | (with_reducible assumption) | assumption)
           obtain ⟨ad153, e153, hx153_0⟩ := Kd.at_int HR0_1.out x3_1 p153 q153
           have hw153_0 := hx153_0
           obtain rfl : ad150 = ad153 := (by injection e153)
           replace hx153_0 := cH HB hx153_0
           replace p153 := eq_true p153
           replace q153 := eq_true q153
           have p154 : 0 ≤ ((ji12) : Int) := of_decide_eq_true (by first | (with_reducible assumption) | assumption)
           have q154 : (ji12) < (l0_1.length : Int) := of_decide_eq_true (by first | (with_reducible assumption) | assumption)
           obtain ⟨ad154, e154, hx154_0⟩ := Kd.at_int HR0_1.out (ji12) p154 q154
           have hw154_0 := hx154_0
           obtain rfl : ad150 = ad154 := (by injection e154)
           replace hx154_0 := cH HB hx154_0
           replace p154 := eq_true p154
           replace q154 := eq_true q154
           refine st_ 28 (S := fun w' => w'.cell? ⟨gb148, 0, none⟩ = some (.int .i64 a0_0) ∧ w'.cell? ⟨gb148, 1, none⟩ = some (.slice (some ad150) l0_1.length c0_1) ∧ w'.cell? (ad150.add (x3_1).toNat) = some (.int .i64 (rd l0_1 x3_1)) ∧ w'.cell? (ad150.add (x3_1).toNat) = some (.int .i64 (rd l0_1 x3_1)) ∧ w'.cell? (ad150.add ((ji12)).toNat) = some (.int .i64 (rd l0_1 (ji12)))) (ds := []) ⟨cB BK148 0, cB BK148 1, (cH HB hw150_0 :), (cH HB hw153_0 :), (cH HB hw154_0 :)⟩ (fun hHeld => ?_); refine with_tabW spec_l01Is.tab6 spec_l01Is.bits6 (fun HT_ HW_ => ?_)
           generalize wr.drew = w19 at BK148 HB hx150_0 hx153_0 hx154_0 hHeld ⊢
           refine pu_ 0 18 1 HT_ ?_
           refine pu_ 2 20 5 HT_ ?_
           refine pu_ 5 23 37 HT_ ?_
           refine tk_ 1 19 39 HT_ HW_ hHeld ?_
           refine pu_ 3 21 47 HT_ ?_
           refine tk_ 4 22 63 HT_ HW_ hHeld ?_
           refine tk_ 6 24 127 HT_ HW_ hHeld ?_
           refine on_ 7 (some 25) 255 HT_ (fun K hK => ?_)
           refine ca_ Try.func100 #[.int .i64 a0_0] ?_
           with_reducible refine (spec_l01All.calls a0_0 t151 _ A8.out).mono ?_
           rintro e w' ⟨rfl, ⟨nd, rfl⟩⟩
           refine ⟨_, rfl, ?_⟩
           refine hK.out _ _ ⟨cB BK148 0, cB BK148 1, (cH HB hw150_0 :), (cH HB hw153_0 :), (cH HB hw154_0 :)⟩ (fun hHeld => ?_)
           clear hK K
           refine nm_ ?_
           refine on_ 8 (some 26) 511 HT_ (fun K hK => ?_)
           refine ca_ Try.func52 #[.int .i64 (rd l0_1 x3_1), .int .i64 1, .int .i64 t151] ?_
           with_reducible refine (spec_l01In.calls (rd l0_1 x3_1) 1 t151 true _ A9.out).mono ?_
           rintro e w' ⟨rfl, ⟨nd, rfl⟩⟩
           refine ⟨_, rfl, ?_⟩
           refine hK.out _ _ ⟨cB BK148 0, cB BK148 1, (cH HB hw150_0 :), (cH HB hw153_0 :), (cH HB hw154_0 :)⟩ (fun hHeld => ?_)
           clear hK K
           refine nm_ ?_
           refine pu_ 9 27 1023 HT_ ?_
           refine pu_ 10 28 2047 HT_ ?_
           refine pu_ 11 29 4095 HT_ ?_
           refine pu_ 12 30 8191 HT_ ?_
           refine pu_ 13 31 16383 HT_ ?_
           refine pu_ 14 32 32767 HT_ ?_
           refine pu_ 16 34 98303 HT_ ?_
           refine pu_ 19 37 622591 HT_ ?_
           refine pu_ 21 39 2719743 HT_ ?_
           refine pu_ 22 40 6914047 HT_ ?_
           refine tk_ 15 33 6946815 HT_ HW_ hHeld ?_
           refine pu_ 17 35 7077887 HT_ ?_
           refine tk_ 18 36 7340031 HT_ HW_ hHeld ?_
           refine tk_ 20 38 8388607 HT_ HW_ hHeld ?_
           refine pu_ 23 41 16777215 HT_ ?_
           refine tk_ 24 42 33554431 HT_ HW_ hHeld ?_
           refine pu_ 25 43 67108863 HT_ ?_
           refine pu_ 26 44 134217727 HT_ ?_
           refine pu_ 27 45 268435455 HT_ ?_
           refine dn_ HT_ ?_
           try go_wp2
           go_roundg k1
           case measure => have := HK1.out; omega
           case rel => exact ⟨(wrap64 (x3_1 + 1)), (by first | rfl | (simp; done) | (simp [*]; done)), H', ⟨by have := HK1.out; omega⟩, ⟨pB BK148⟩, ⟨pH HB⟩⟩
         ·rw [if_neg c14] at H
          exact absurd H (by simp)
        ·rw [if_neg c13] at H
         exact absurd H (by simp)
       ·rw [if_neg c11] at H
        have c11b0 : decide (0 < x3_1) = false := decide_eq_false c11
        clear c11
        have H' := Aside0.mk H
        clear H
        have hcz20_0 : wr.cell? ⟨gb148, 0, none⟩ = some (.int .i64 a0_0) := cB BK148 0
        have hcz20_1 : wr.cell? ⟨gb148, 1, none⟩ = some (.slice A0_1 l0_1.length c0_1) := cB BK148 1
        have hfz20_0 := zB BK148 0
        have hfz20_1 := zB BK148 1
        try go_wp2
        replace BK148 := dB BK148
        replace HB := dH HB
        have p150 : 0 ≤ (x3_1 : Int) := of_decide_eq_true (by first | (with_reducible assumption) | assumption)
        have q150 : x3_1 < (l0_1.length : Int) := of_decide_eq_true (by first | (with_reducible assumption) | assumption)
        obtain ⟨ad150, e150, hx150_0⟩ := Kd.at_int HR0_1.out x3_1 p150 q150
        have hw150_0 := hx150_0
        cases e150
        replace hx150_0 := cH HB hx150_0
        replace p150 := eq_true p150
        replace q150 := eq_true q150
        refine st_ 28 (S := fun w' => w'.cell? ⟨gb148, 0, none⟩ = some (.int .i64 a0_0) ∧ w'.cell? ⟨gb148, 1, none⟩ = some (.slice (some ad150) l0_1.length c0_1) ∧ w'.cell? (ad150.add (x3_1).toNat) = some (.int .i64 (rd l0_1 x3_1))) (ds := []) ⟨cB BK148 0, cB BK148 1, (cH HB hw150_0 :)⟩ (fun hHeld => ?_); refine with_tabW spec_l01Is.tab6 spec_l01Is.bits6 (fun HT_ HW_ => ?_)
        generalize wr.drew = w21 at BK148 HB hx150_0 hHeld ⊢
        refine pu_ 0 18 1 HT_ ?_
        refine pu_ 2 20 5 HT_ ?_
        refine pu_ 5 23 37 HT_ ?_
        refine tk_ 1 19 39 HT_ HW_ hHeld ?_
        refine pu_ 3 21 47 HT_ ?_
        refine tk_ 4 22 63 HT_ HW_ hHeld ?_
        refine tk_ 6 24 127 HT_ HW_ hHeld ?_
        refine on_ 7 (some 25) 255 HT_ (fun K hK => ?_)
        refine ca_ Try.func100 #[.int .i64 a0_0] ?_
        with_reducible refine (spec_l01All.calls a0_0 t151 _ A8.out).mono ?_
        rintro e w' ⟨rfl, ⟨nd, rfl⟩⟩
        refine ⟨_, rfl, ?_⟩
        refine hK.out _ _ ⟨cB BK148 0, cB BK148 1, (cH HB hw150_0 :)⟩ (fun hHeld => ?_)
        clear hK K
        refine nm_ ?_
        refine on_ 8 (some 26) 511 HT_ (fun K hK => ?_)
        refine ca_ Try.func52 #[.int .i64 (rd l0_1 x3_1), .int .i64 1, .int .i64 t151] ?_
        with_reducible refine (spec_l01In.calls (rd l0_1 x3_1) 1 t151 true _ A9.out).mono ?_
        rintro e w' ⟨rfl, ⟨nd, rfl⟩⟩
        refine ⟨_, rfl, ?_⟩
        refine hK.out _ _ ⟨cB BK148 0, cB BK148 1, (cH HB hw150_0 :)⟩ (fun hHeld => ?_)
        clear hK K
        refine nm_ ?_
        refine pu_ 9 27 1023 HT_ ?_
        refine pu_ 10 28 2047 HT_ ?_
        refine pu_ 11 29 4095 HT_ ?_
        refine pu_ 12 30 8191 HT_ ?_
        refine pu_ 13 31 16383 HT_ ?_
        refine pn_ 14 32 32767 HT_ ?_
        refine pn_ 15 33 65535 HT_ ?_
        refine pn_ 16 34 131071 HT_ ?_
        refine pn_ 17 35 262143 HT_ ?_
        refine pn_ 18 36 524287 HT_ ?_
        refine pn_ 19 37 1048575 HT_ ?_
        refine pn_ 20 38 2097151 HT_ ?_
        refine pn_ 21 39 4194303 HT_ ?_
        refine pn_ 22 40 8388607 HT_ ?_
        refine pn_ 23 41 16777215 HT_ ?_
        refine pn_ 24 42 33554431 HT_ ?_
        refine pn_ 25 43 67108863 HT_ ?_
        refine pu_ 26 44 134217727 HT_ ?_
        refine pu_ 27 45 268435455 HT_ ?_
        refine dn_ HT_ ?_
        try go_wp2
        go_roundg k1
        case measure => have := HK1.out; omega
        case rel => exact ⟨(wrap64 (x3_1 + 1)), (by first | rfl | (simp; done) | (simp [*]; done)), H', ⟨by have := HK1.out; omega⟩, ⟨pB BK148⟩, ⟨pH HB⟩⟩
      ·replace c10 := Bool.eq_false_iff.mpr c10
       subst c10
       have H1 : (some false) = some r := by rw [if_neg (show ¬ (false = true) by decide)] at H; exact H
       clear H
       have H := H1
       clear H1
       obtain rfl := Option.some.inj H
       have hcz22_0 : wr.cell? ⟨gb148, 0, none⟩ = some (.int .i64 a0_0) := cB BK148 0
       have hcz22_1 : wr.cell? ⟨gb148, 1, none⟩ = some (.slice A0_1 l0_1.length c0_1) := cB BK148 1
       have hfz22_0 := zB BK148 0
       have hfz22_1 := zB BK148 1
       try go_wp2
       replace BK148 := dB BK148
       replace HB := dH HB
       have p150 : 0 ≤ (x3_1 : Int) := of_decide_eq_true (by first | (with_reducible assumption) | assumption)
       have q150 : x3_1 < (l0_1.length : Int) := of_decide_eq_true (by first | (with_reducible assumption) | assumption)
       obtain ⟨ad150, e150, hx150_0⟩ := Kd.at_int HR0_1.out x3_1 p150 q150
       have hw150_0 := hx150_0
       cases e150
       replace hx150_0 := cH HB hx150_0
       replace p150 := eq_true p150
       replace q150 := eq_true q150
       refine st_ 28 (S := fun w' => w'.cell? ⟨gb148, 0, none⟩ = some (.int .i64 a0_0) ∧ w'.cell? ⟨gb148, 1, none⟩ = some (.slice (some ad150) l0_1.length c0_1) ∧ w'.cell? (ad150.add (x3_1).toNat) = some (.int .i64 (rd l0_1 x3_1))) (ds := []) ⟨cB BK148 0, cB BK148 1, (cH HB hw150_0 :)⟩ (fun hHeld => ?_); refine with_tabW spec_l01Is.tab6 spec_l01Is.bits6 (fun HT_ HW_ => ?_)
       generalize wr.drew = w23 at BK148 HB hx150_0 hHeld ⊢
       refine pu_ 0 18 1 HT_ ?_
       refine pu_ 2 20 5 HT_ ?_
       refine pu_ 5 23 37 HT_ ?_
       refine tk_ 1 19 39 HT_ HW_ hHeld ?_
       refine pu_ 3 21 47 HT_ ?_
       refine tk_ 4 22 63 HT_ HW_ hHeld ?_
       refine tk_ 6 24 127 HT_ HW_ hHeld ?_
       refine on_ 7 (some 25) 255 HT_ (fun K hK => ?_)
       refine ca_ Try.func100 #[.int .i64 a0_0] ?_
       with_reducible refine (spec_l01All.calls a0_0 t151 _ A8.out).mono ?_
       rintro e w' ⟨rfl, ⟨nd, rfl⟩⟩
       refine ⟨_, rfl, ?_⟩
       refine hK.out _ _ ⟨cB BK148 0, cB BK148 1, (cH HB hw150_0 :)⟩ (fun hHeld => ?_)
       clear hK K
       refine nm_ ?_
       refine on_ 8 (some 26) 511 HT_ (fun K hK => ?_)
       refine ca_ Try.func52 #[.int .i64 (rd l0_1 x3_1), .int .i64 1, .int .i64 t151] ?_
       with_reducible refine (spec_l01In.calls (rd l0_1 x3_1) 1 t151 false _ A9.out).mono ?_
       rintro e w' ⟨rfl, ⟨nd, rfl⟩⟩
       refine ⟨_, rfl, ?_⟩
       refine hK.out _ _ ⟨cB BK148 0, cB BK148 1, (cH HB hw150_0 :)⟩ (fun hHeld => ?_)
       clear hK K
       refine nm_ ?_
       refine pu_ 9 27 1023 HT_ ?_
       refine pu_ 10 28 2047 HT_ ?_
       refine pn_ 11 29 4095 HT_ ?_
       refine pn_ 12 30 8191 HT_ ?_
       refine pn_ 13 31 16383 HT_ ?_
       refine pn_ 14 32 32767 HT_ ?_
       refine pn_ 15 33 65535 HT_ ?_
       refine pn_ 16 34 131071 HT_ ?_
       refine pn_ 17 35 262143 HT_ ?_
       refine pn_ 18 36 524287 HT_ ?_
       refine pn_ 19 37 1048575 HT_ ?_
       refine pn_ 20 38 2097151 HT_ ?_
       refine pn_ 21 39 4194303 HT_ ?_
       refine pn_ 22 40 8388607 HT_ ?_
       refine pn_ 23 41 16777215 HT_ ?_
       refine pn_ 24 42 33554431 HT_ ?_
       refine pn_ 25 43 67108863 HT_ ?_
       refine pn_ 26 44 134217727 HT_ ?_
       refine pu_ 27 45 268435455 HT_ ?_
       refine dn_ HT_ ?_
       try go_wp2
       go_ret
       exact ⟨by first | rfl | (simp [errW_none, errW_some] <;> rfl) | (simp [*, errW_none, errW_some] <;> rfl) | (exfalso; simp_all), pH HB⟩
     ·rw [if_neg c7] at H
      exact absurd H (by simp)
    ·rw [if_neg c6] at H
     have c6b0 : decide (x3_1 < (l0_1.length : Int)) = false := decide_eq_false c6
     clear c6
     have H' := Aside0.mk H
     clear H
     have hcz24_0 : wr.cell? ⟨gb148, 0, none⟩ = some (.int .i64 a0_0) := cB BK148 0
     have hcz24_1 : wr.cell? ⟨gb148, 1, none⟩ = some (.slice A0_1 l0_1.length c0_1) := cB BK148 1
     have hfz24_0 := zB BK148 0
     have hfz24_1 := zB BK148 1
     go_wp2
     go_loopg [4] k1 (fun kq v4 w' => ∃ (x4_2 : Int), v4 = .int .i64 x4_2 ∧ Aside0 (spec_l01Is.l1 kq x4_2 a0_0 l0_1 = some r) ∧ Aside0 (kq ≤ k1) ∧ Aside0 (w'.heap[gb148]? = some (.cells #[.int .i64 a0_0, (.slice A0_1 l0_1.length c0_1)] 28 (0, 0))) ∧ Aside0 (Below w.heap.size w w'))
     case atStart => exact ⟨(0), (by first | rfl | (simp; done) | (simp [*]; done)), H', ⟨Nat.le_refl _⟩, ⟨pB BK148⟩, ⟨pH HB⟩⟩
     case round =>
      clear H'
      try clear c1
      try clear p1
      try clear q1
      try clear hx1
      try clear p2
      try clear c5
      try clear c6
      try clear c6b0
      try clear p6
      try clear c7
      try clear c10
      try clear c11
      try clear c11b0
      try clear c13
      try clear c14
      try clear p15
      try clear q15
      try clear hx15
      try clear hcz20_0
      try clear hcz20_1
      try clear hcz22_0
      try clear hcz22_1
      try clear hcz24_0
      try clear hcz24_1
      try clear hfz20_0
      try clear hfz20_1
      try clear hfz22_0
      try clear hfz22_1
      try clear hfz24_0
      try clear hfz24_1
      try clear hx150_0
      try clear p150
      try clear q150
      obtain ⟨x4_2, rfl, HA, HK2, BK148, HB⟩ := hrel
      cases gk with
      | zero => exact absurd HA.out (by simp [spec_l01Is.l1])
      | succ k2 =>
       have H := HA.out
       clear HA
       simp only [spec_l01Is.l1] at H
       by_cases c25 : x4_2 < (l0_1.length : Int)
       ·rw [if_pos c25] at H
        have c25b0 : decide (x4_2 < (l0_1.length : Int)) = true := decide_eq_true c25
        clear c25
        by_cases c26 : 0 ≤ x4_2
        ·rw [if_pos c26] at H
         have c26b0 : decide (0 ≤ x4_2) = true := decide_eq_true c26
         clear c26
         replace H := Option.bind_eq_some_iff.mp H
         obtain ⟨t156, A270, H⟩ := H
         try dsimp only at H
         have A27 := Aside0.mk A270
         clear A270
         have H' := Aside0.mk H
         clear H
         have hcz28_0 : wr.cell? ⟨gb148, 0, none⟩ = some (.int .i64 a0_0) := cB BK148 0
         have hcz28_1 : wr.cell? ⟨gb148, 1, none⟩ = some (.slice A0_1 l0_1.length c0_1) := cB BK148 1
         have hfz28_0 := zB BK148 0
         have hfz28_1 := zB BK148 1
         have p155 : 0 ≤ (x4_2 : Int) := of_decide_eq_true (by first | (with_reducible assumption) | assumption)
         have q155 : x4_2 < (l0_1.length : Int) := of_decide_eq_true (by first | (with_reducible assumption) | assumption)
         obtain ⟨ad155, e155, hx155_0⟩ := Kd.at_int HR0_1.out x4_2 p155 q155
         cases e155
         replace hx155_0 := cH HB hx155_0
         replace p155 := eq_true p155
         replace q155 := eq_true q155
         go_wp2_with (first | ((with_reducible refine gate_callee (f := 101) rfl ?_); refine cl_ (some 58) Try.func101 #[.int .i64 (rd l0_1 x4_2)] ?_; (with_reducible refine (spec_l01Below.calls k2 (rd l0_1 x4_2) t156 _ A27.out).mono ?_); rintro e w29 ⟨v157, rfl, ho0, hb⟩; refine ⟨_, rfl, ?_⟩; have HO158 := Aside0.mk (Kd.R_lower ho0 (below_size (pH HB))); replace BK148 := sB BK148 hb; replace HB := sH HB hb; (try clear hb); (try clear hi); (try clear ho0)))
         go_loopg [6] k2 (fun kq v6 w' => ∃ (x6_3 : Int), v6 = .int .i64 x6_3 ∧ Aside0 (spec_l01Is.l2 kq x4_2 t156 x6_3 a0_0 l0_1 = some r) ∧ Aside0 (kq ≤ k2) ∧ Aside0 (Kd.R (Kd.int .i64) 2 w' w.heap.size (fun _ => True) v157 t156) ∧ Aside0 (w'.heap[gb148]? = some (.cells #[.int .i64 a0_0, (.slice (some ad155) l0_1.length c0_1)] 28 (0, 0))) ∧ Aside0 (Below w.heap.size w w'))
         case atStart => exact ⟨(0), (by first | rfl | (simp; done) | (simp [*]; done)), H', ⟨Nat.le_refl _⟩, ⟨by (with_reducible repeat (first | apply Kd.R_alloc | apply Kd.R_drewN | apply Kd.R_drew)); exact HO158.out⟩, ⟨pB BK148⟩, ⟨pH HB⟩⟩
         case round =>
          clear H'
          try clear c1
          try clear p1
          try clear q1
          try clear hx1
          try clear c2
          try clear p2
          try clear c5
          try clear c6
          try clear c6b0
          try clear p6
          try clear c7
          try clear c10
          try clear c11
          try clear c11b0
          try clear c13
          try clear c14
          try clear p15
          try clear q15
          try clear hx15
          try clear c25
          try clear c25b0
          try clear c26
          try clear c26b0
          try clear hcz20_0
          try clear hcz20_1
          try clear hcz22_0
          try clear hcz22_1
          try clear hcz24_0
          try clear hcz24_1
          try clear hcz28_0
          try clear hcz28_1
          try clear hfz20_0
          try clear hfz20_1
          try clear hfz22_0
          try clear hfz22_1
          try clear hfz24_0
          try clear hfz24_1
          try clear hfz28_0
          try clear hfz28_1
          try clear hx150_0
          try clear hx155_0
          try clear p1
          try clear p15
          try clear p150
          try clear p155
          try clear p2
          try clear p6
          try clear q1
          try clear q15
          try clear q150
          try clear q155
          obtain ⟨x6_3, rfl, HA, HK3, HO_5, BK148, HB⟩ := hrel
          cases gk with
          | zero => exact absurd HA.out (by simp [spec_l01Is.l2])
          | succ k3 =>
           have H := HA.out
           clear HA
           simp only [spec_l01Is.l2] at H
           by_cases c30 : x6_3 < (t156.length : Int)
           ·rw [if_pos c30] at H
            have c30b0 : decide (x6_3 < (t156.length : Int)) = true := decide_eq_true c30
            clear c30
            by_cases c31 : 0 ≤ x6_3
            ·rw [if_pos c31] at H
             have c31b0 : decide (0 ≤ x6_3) = true := decide_eq_true c31
             clear c31
             replace H := Option.bind_eq_some_iff.mp H
             obtain ⟨t160, A320, H⟩ := H
             try dsimp only at H
             have A32 := Aside0.mk A320
             clear A320
             by_cases c33 : t160 = true
             ·subst c33
              have H1 : (spec_l01Is.l2 k3 x4_2 t156 (wrap64 (x6_3 + 1)) a0_0 l0_1) = some r := by rw [if_pos rfl] at H; exact H
              clear H
              have H := H1
              clear H1
              have H' := Aside0.mk H
              clear H
              obtain ⟨Ao34, co34, eo34⟩ := Kd.R_slice HO_5.out
              subst eo34
              try go_wp2
              replace HO_5 := Aside0.mk (Kd.R_drew HO_5.out)
              replace BK148 := dB BK148
              replace HB := dH HB
              have p159 : 0 ≤ (x6_3 : Int) := of_decide_eq_true (by first | (with_reducible assumption) | assumption)
              have q159 : x6_3 < (t156.length : Int) := of_decide_eq_true (by first | (with_reducible assumption) | assumption)
              obtain ⟨ad159, e159, hx159_0⟩ := Kd.at_int (Kd.R_reads' HO_5.out).2.2 x6_3 p159 q159
              cases e159
              replace p159 := eq_true p159
              replace q159 := eq_true q159
              refine st_ 7 (S := fun w' => w'.cell? ⟨gb148, 0, none⟩ = some (.int .i64 a0_0) ∧ w'.cell? ⟨gb148, 1, none⟩ = some (.slice (some ad155) l0_1.length c0_1) ∧ w'.cell? (ad159.add (x6_3).toNat) = some (.int .i64 (rd t156 x6_3))) (ds := []) ⟨cB BK148 0, cB BK148 1, hx159_0⟩ (fun hHeld => ?_)
              generalize wr.drew = w35 at HO_5 BK148 HB hx159_0 hHeld ⊢
              refine pure_ (i := 1) (N := some 66) (v := ?_) (a' := ?_) (mB 7 2) rfl rfl (by kernel_rfl) (fun _ _ _ h => h) (Or.inl ⟨by rfl, ?_⟩) ?_ ?_
              rotate_left
              ·intro w'
               go_simp
               with_reducible rfl
              rotate_left
              ·simp only [Act.put, List.setIfInBounds_toArray, List.set_cons_zero, List.set_cons_succ, i64_w, i32_w]
               rfl
              refine pure_ (i := 2) (N := some 67) (v := ?_) (a' := ?_) (mB 7 6) rfl rfl (by kernel_rfl) (fun _ _ _ h => h) (Or.inl ⟨by rfl, ?_⟩) ?_ ?_
              rotate_left
              ·intro w'
               go_simp
               with_reducible rfl
              rotate_left
              ·simp only [Act.put, List.setIfInBounds_toArray, List.set_cons_zero, List.set_cons_succ, i64_w, i32_w]
               rfl
              refine pure_ (i := 3) (N := some 68) (v := ?_) (a' := ?_) (mB 7 14) rfl rfl (by kernel_rfl) (fun _ _ _ h => h) (Or.inl ⟨by rfl, ?_⟩) ?_ ?_
              rotate_left
              ·intro w'
               go_simp
               with_reducible rfl
              rotate_left
              ·simp only [Act.put, List.setIfInBounds_toArray, List.set_cons_zero, List.set_cons_succ, i64_w, i32_w]
               rfl
              refine take_ (i := 0) (N := some 65) (v := ?_) (a' := ?_) (mB 7 15) rfl rfl (by kernel_rfl) (fun _ _ _ h => h) (Or.inl ⟨by rfl, ?_⟩) hHeld ?_ ?_
              rotate_left
              ·rintro w' ⟨s0, s1, s2⟩
               go_simp
               with_reducible rfl
              rotate_left
              ·simp only [Act.put, List.setIfInBounds_toArray, List.set_cons_zero, List.set_cons_succ, i64_w, i32_w]
               rfl
              refine take_ (i := 4) (N := some 69) (v := ?_) (a' := ?_) (mB 7 31) rfl rfl (by kernel_rfl) (fun _ _ _ h => h) (Or.inl ⟨by rfl, ?_⟩) hHeld ?_ ?_
              rotate_left
              ·rintro w' ⟨s0, s1, s2⟩
               go_simp
               with_reducible rfl
              rotate_left
              ·simp only [Act.put, List.setIfInBounds_toArray, List.set_cons_zero, List.set_cons_succ, i64_w, i32_w]
               rfl
              refine one_ (i := 5) (N := some 70) (mB 7 63) rfl rfl (by kernel_rfl) (by decide) (fun K hK => ?_)
              refine ca_ Try.func102 #[.agg #[.int .i64 a0_0, .slice (some ad155) l0_1.length c0_1], .int .i64 (rd t156 x6_3)] ?_
              with_reducible refine (spec_l01Has.calls k3 a0_0 _ _ l0_1 (rd t156 x6_3) true _ ?side1 ?side2 A32.out).mono ?_
              (case side1 => exact pC ((Kd.C_below HR0_1.out HB.out)))
              (case side2 => exact HC0_1.out)
              rintro e w36 ⟨rfl, hb⟩
              have HS2_ := (hb.cell (World.block_lt_of_cell? _ _ (hHeld.2.2))).trans (hHeld.2.2)
              refine ⟨_, rfl, ?_⟩
              replace HO_5 := sR HO_5 hb
              replace BK148 := sB BK148 hb
              replace HB := sH HB hb
              (try clear hb)
              (try clear hb2)
              (try clear hk)
              (try clear hi)
              refine hK.out _ _ ⟨cB BK148 0, cB BK148 1, HS2_⟩ (fun hHeld => ?_)
              clear hK K
              refine nm_ ?_
              refine pure_ (i := 6) (N := some 71) (v := ?_) (a' := ?_) (mB 7 127) rfl rfl (by kernel_rfl) (fun _ _ _ h => h) (Or.inl ⟨by rfl, ?_⟩) ?_ ?_
              rotate_left
              ·intro w'
               go_simp
               with_reducible rfl
              rotate_left
              ·simp only [Act.put, List.setIfInBounds_toArray, List.set_cons_zero, List.set_cons_succ, i64_w, i32_w]
               rfl
              refine done_ (by kernel_rfl) ?_
              try go_wp2
              go_roundg k3
              case measure => have := HK1.out; have := HK2.out; have := HK3.out; omega
              case rel => exact ⟨(wrap64 (x6_3 + 1)), (by first | rfl | (simp; done) | (simp [*]; done)), H', ⟨by have := HK1.out; have := HK2.out; have := HK3.out; omega⟩, ⟨by (with_reducible repeat (first | apply Kd.R_alloc | apply Kd.R_drewN | apply Kd.R_drew)); exact HO_5.out⟩, ⟨pB BK148⟩, ⟨pH HB⟩⟩
             ·replace c33 := Bool.eq_false_iff.mpr c33
              subst c33
              have H1 : (some false) = some r := by rw [if_neg (show ¬ (false = true) by decide)] at H; exact H
              clear H
              have H := H1
              clear H1
              obtain rfl := Option.some.inj H
              obtain ⟨Ao37, co37, eo37⟩ := Kd.R_slice HO_5.out
              subst eo37
              try go_wp2
              replace HO_5 := Aside0.mk (Kd.R_drew HO_5.out)
              replace BK148 := dB BK148
              replace HB := dH HB
              have p159 : 0 ≤ (x6_3 : Int) := of_decide_eq_true (by first | (with_reducible assumption) | assumption)
              have q159 : x6_3 < (t156.length : Int) := of_decide_eq_true (by first | (with_reducible assumption) | assumption)
              obtain ⟨ad159, e159, hx159_0⟩ := Kd.at_int (Kd.R_reads' HO_5.out).2.2 x6_3 p159 q159
              cases e159
              replace p159 := eq_true p159
              replace q159 := eq_true q159
              refine st_ 7 (S := fun w' => w'.cell? ⟨gb148, 0, none⟩ = some (.int .i64 a0_0) ∧ w'.cell? ⟨gb148, 1, none⟩ = some (.slice (some ad155) l0_1.length c0_1) ∧ w'.cell? (ad159.add (x6_3).toNat) = some (.int .i64 (rd t156 x6_3))) (ds := []) ⟨cB BK148 0, cB BK148 1, hx159_0⟩ (fun hHeld => ?_)
              generalize wr.drew = w38 at HO_5 BK148 HB hx159_0 hHeld ⊢
              refine pure_ (i := 1) (N := some 66) (v := ?_) (a' := ?_) (mB 7 2) rfl rfl (by kernel_rfl) (fun _ _ _ h => h) (Or.inl ⟨by rfl, ?_⟩) ?_ ?_
              rotate_left
              ·intro w'
               go_simp
               with_reducible rfl
              rotate_left
              ·simp only [Act.put, List.setIfInBounds_toArray, List.set_cons_zero, List.set_cons_succ, i64_w, i32_w]
               rfl
              refine pure_ (i := 2) (N := some 67) (v := ?_) (a' := ?_) (mB 7 6) rfl rfl (by kernel_rfl) (fun _ _ _ h => h) (Or.inl ⟨by rfl, ?_⟩) ?_ ?_
              rotate_left
              ·intro w'
               go_simp
               with_reducible rfl
              rotate_left
              ·simp only [Act.put, List.setIfInBounds_toArray, List.set_cons_zero, List.set_cons_succ, i64_w, i32_w]
               rfl
              refine pure_ (i := 3) (N := some 68) (v := ?_) (a' := ?_) (mB 7 14) rfl rfl (by kernel_rfl) (fun _ _ _ h => h) (Or.inl ⟨by rfl, ?_⟩) ?_ ?_
              rotate_left
              ·intro w'
               go_simp
               with_reducible rfl
              rotate_left
              ·simp only [Act.put, List.setIfInBounds_toArray, List.set_cons_zero, List.set_cons_succ, i64_w, i32_w]
               rfl
              refine take_ (i := 0) (N := some 65) (v := ?_) (a' := ?_) (mB 7 15) rfl rfl (by kernel_rfl) (fun _ _ _ h => h) (Or.inl ⟨by rfl, ?_⟩) hHeld ?_ ?_
              rotate_left
              ·rintro w' ⟨s0, s1, s2⟩
               go_simp
               with_reducible rfl
              rotate_left
              ·simp only [Act.put, List.setIfInBounds_toArray, List.set_cons_zero, List.set_cons_succ, i64_w, i32_w]
               rfl
              refine take_ (i := 4) (N := some 69) (v := ?_) (a' := ?_) (mB 7 31) rfl rfl (by kernel_rfl) (fun _ _ _ h => h) (Or.inl ⟨by rfl, ?_⟩) hHeld ?_ ?_
              rotate_left
              ·rintro w' ⟨s0, s1, s2⟩
               go_simp
               with_reducible rfl
              rotate_left
              ·simp only [Act.put, List.setIfInBounds_toArray, List.set_cons_zero, List.set_cons_succ, i64_w, i32_w]
               rfl
              refine one_ (i := 5) (N := some 70) (mB 7 63) rfl rfl (by kernel_rfl) (by decide) (fun K hK => ?_)
              refine ca_ Try.func102 #[.agg #[.int .i64 a0_0, .slice (some ad155) l0_1.length c0_1], .int .i64 (rd t156 x6_3)] ?_
              with_reducible refine (spec_l01Has.calls k3 a0_0 _ _ l0_1 (rd t156 x6_3) false _ ?side1 ?side2 A32.out).mono ?_
              (case side1 => exact pC ((Kd.C_below HR0_1.out HB.out)))
              (case side2 => exact HC0_1.out)
              rintro e w39 ⟨rfl, hb⟩
              have HS2_ := (hb.cell (World.block_lt_of_cell? _ _ (hHeld.2.2))).trans (hHeld.2.2)
              refine ⟨_, rfl, ?_⟩
              replace HO_5 := sR HO_5 hb
              replace BK148 := sB BK148 hb
              replace HB := sH HB hb
              (try clear hb)
              (try clear hb2)
              (try clear hk)
              (try clear hi)
              refine hK.out _ _ ⟨cB BK148 0, cB BK148 1, HS2_⟩ (fun hHeld => ?_)
              clear hK K
              refine nm_ ?_
              refine pure_ (i := 6) (N := some 71) (v := ?_) (a' := ?_) (mB 7 127) rfl rfl (by kernel_rfl) (fun _ _ _ h => h) (Or.inl ⟨by rfl, ?_⟩) ?_ ?_
              rotate_left
              ·intro w'
               go_simp
               with_reducible rfl
              rotate_left
              ·simp only [Act.put, List.setIfInBounds_toArray, List.set_cons_zero, List.set_cons_succ, i64_w, i32_w]
               rfl
              refine done_ (by kernel_rfl) ?_
              try go_wp2
              go_ret
              exact ⟨by first | rfl | (simp [errW_none, errW_some] <;> rfl) | (simp [*, errW_none, errW_some] <;> rfl) | (exfalso; simp_all), pH HB⟩
            ·rw [if_neg c31] at H
             exact absurd H (by simp)
           ·rw [if_neg c30] at H
            have c30b0 : decide (x6_3 < (t156.length : Int)) = false := decide_eq_false c30
            clear c30
            have H' := Aside0.mk H
            clear H
            obtain ⟨Ao40, co40, eo40⟩ := Kd.R_slice HO_5.out
            subst eo40
            go_wp2
            go_roundg k3
            case measure => have := HK1.out; have := HK2.out; have := HK3.out; omega
            case rel => exact ⟨(wrap64 (x4_2 + 1)), (by first | rfl | (simp; done) | (simp [*]; done)), H', ⟨by have := HK1.out; have := HK2.out; have := HK3.out; omega⟩, ⟨pB BK148⟩, ⟨pH HB⟩⟩
        ·rw [if_neg c26] at H
         exact absurd H (by simp)
       ·rw [if_neg c25] at H
        have c25b0 : decide (x4_2 < (l0_1.length : Int)) = false := decide_eq_false c25
        clear c25
        obtain rfl := Option.some.inj H
        have hcz41_0 : wr.cell? ⟨gb148, 0, none⟩ = some (.int .i64 a0_0) := cB BK148 0
        have hcz41_1 : wr.cell? ⟨gb148, 1, none⟩ = some (.slice A0_1 l0_1.length c0_1) := cB BK148 1
        have hfz41_0 := zB BK148 0
        have hfz41_1 := zB BK148 1
        go_wp2
        go_ret
        exact ⟨by first | rfl | (simp [errW_none, errW_some] <;> rfl) | (simp [*, errW_none, errW_some] <;> rfl) | (exfalso; simp_all), pH HB⟩
 ·replace c3 := Bool.eq_false_iff.mpr c3
  subst c3
  have H1 : (some false) = some r := by rw [if_neg (show ¬ (false = true) by decide)] at H; exact H
  clear H
  have H := H1
  clear H1
  obtain rfl := Option.some.inj H
  go_enter Try.func50, Try.ntmps50
  go_wp2_with (first | ((with_reducible refine gate_dst (N := 1) rfl ?_); refine box_event ?hg (N := 1) ?hd (cs := #[.int .i64 a0_0, .slice A0_1 l0_1.length c0_1]) (t := 28) ?hr ?_; (case hd => rfl); (case hg => rfl); (case hr => first | (go_simp; done) | (go_simp; rfl)); intro gb148 hg w42 hbox hb; have BK148 := Aside0.mk (hbox); have GW148 := gH HB hg; have GE148 := gH HB hg; replace HB := sH HB hb; clear hb hbox hg; have hcz43_0 : w42.cell? ⟨gb148, 0, none⟩ = some (.int .i64 a0_0) := cB BK148 0; have hcz43_1 : w42.cell? ⟨gb148, 1, none⟩ = some (.slice A0_1 l0_1.length c0_1) := cB BK148 1; have hfz43_0 := zB BK148 0; have hfz43_1 := zB BK148 1) | ((with_reducible refine gate_callee (f := 52) rfl ?_); refine cl_ (some 9) Try.func52 #[.int .i64 a0_0, .int .i64 1, .int .i64 6] ?_; (with_reducible refine (spec_l01In.calls a0_0 1 6 false _ A2.out).mono ?_); rintro e w' ⟨rfl, ⟨nd, rfl⟩⟩; refine ⟨_, rfl, ?_⟩))
  go_ret
  exact ⟨by first | rfl | (simp [errW_none, errW_some] <;> rfl) | (simp [*, errW_none, errW_some] <;> rfl) | (exfalso; simp_all), pH HB⟩
end Go.Proofs.Ytomdfjohnmikdaa.QS
namespace Go.Proofs.Ytomdfjohnmikdaa.Pu
set_option linter.unusedVariables false
set_option linter.unusedSimpArgs false
open Go.RowKit Go.Proofs.Ytomdfjohnmikdaa.QS Go.Proofs.YtomdfjohnmikdaaW.PrintWords Go.Proofs.YtomdfjohnmikdaaW.PrintLast Go.Proofs.YtomdfjohnmikdaaW.PrintMore
theorem w64 {x : Int} (h1 : -9223372036854775808 ≤ x) (h2 : x ≤ 9223372036854775807) : wrap64 x = x := by unfold wrap64; omega
theorem rd_at {l : List Int} {i : Nat} (h : i < l.length) : rd l (i : Int) = l[i] := by simp [rd, List.getD_eq_getElem?_getD, List.getElem?_eq_getElem h]
theorem sz_ints {l : List Int} (hm : l.length ≤ maxLen) {b : Int} (h0 : 0 ≤ b) (h1 : b ≤ 1048576) : laws_szInt64S.f l b = some (if b < (l.length : Int) then -1 else b - l.length) := by
  unfold laws_szInt64S.f
  simp only [maxLen] at hm
  rw [w64 (by omega) (by omega)]
  by_cases h : b < (l.length : Int)
  · rw [if_pos (by omega), if_pos h]
  · rw [if_neg (by omega), if_neg h]
theorem sz_cx {n : Int} {l : List Int} (hm : l.length ≤ maxLen) {b : Int} (h0 : 0 ≤ b) (h1 : b ≤ 1048576) : laws_szComplex.f n l b = some (if b < (l.length : Int) then -1 else b - l.length) := by
  unfold laws_szComplex.f
  rw [sz_ints hm h0 h1, Option.bind_some]
  by_cases h : b < (l.length : Int)
  · rw [if_pos h, if_pos (by omega)]
  · rw [if_neg h, if_neg (by omega)]
theorem toInt_loop (l : List Int) (hl : l.length ≤ 1048576) : ∀ d (i : Nat) (x3 : List Int) k, l.length - i = d → d < k → i ≤ l.length → x3.length = l.length → (∀ j, j < i → x3[j]? = l[j]?) → laws_toInt64S.l0 k l x3 i = some l := by
  intro d
  induction d with
  | zero =>
    intro i x3 k hd hk hi hx hj
    obtain ⟨k, rfl⟩ : ∃ m, k = m + 1 := ⟨k - 1, by omega⟩
    simp only [laws_toInt64S.l0]
    rw [if_neg (by omega)]
    congr 1
    apply List.ext_getElem?
    intro j
    rcases Nat.lt_or_ge j i with h | h
    · exact hj j h
    · rw [List.getElem?_eq_none (by omega), List.getElem?_eq_none (by omega)]
  | succ d ih =>
    intro i x3 k hd hk hi hx hj
    obtain ⟨k, rfl⟩ : ∃ m, k = m + 1 := ⟨k - 1, by omega⟩
    simp only [laws_toInt64S.l0]
    rw [if_pos (by omega), if_pos (by omega), if_pos (by omega), w64 (by omega) (by omega)]
    refine ih (i + 1) _ k (by omega) (by omega) (by omega) (by simpa using hx) (fun j hji => ?_)
    rw [Int.toNat_natCast, List.getElem?_set]
    split
    · rename_i h
      subst h
      rw [if_pos (by omega), rd_at (by omega), List.getElem?_eq_getElem (by omega)]
    · exact hj j (by omega)
theorem ev_toInt {l : List Int} (hl : l.length ≤ 1048576) : Ev (fun k => laws_toInt64S.f k l) l := by
  refine ⟨l.length + 1, fun k hk => ?_⟩
  dsimp only
  unfold laws_toInt64S.f
  rw [if_pos (by omega), if_pos (by omega)]
  exact toInt_loop l hl l.length 0 _ k (by omega) (by omega) (by omega) (by simp) (fun j hj => absurd hj (Nat.not_lt_zero _))
theorem ev_toComplex {n : Int} {l : List Int} (hl : l.length ≤ 1048576) : Ev (fun k => laws_toComplex.f k n l) (n, l) := by
  unfold laws_toComplex.f
  exact Ev.bind (f := fun _ t => some (n, t)) (ev_toInt hl) (Ev.now _)
theorem eqInt_loop (l : List Int) (hl : l.length ≤ 1048576) : ∀ d (i : Nat) k, l.length - i = d → d < k → i ≤ l.length → laws_eqInt64S.l0 k l l i = some true := by
  intro d
  induction d with
  | zero =>
    intro i k hd hk hi
    obtain ⟨k, rfl⟩ : ∃ m, k = m + 1 := ⟨k - 1, by omega⟩
    simp only [laws_eqInt64S.l0]
    rw [if_neg (by omega)]
  | succ d ih =>
    intro i k hd hk hi
    obtain ⟨k, rfl⟩ : ∃ m, k = m + 1 := ⟨k - 1, by omega⟩
    simp only [laws_eqInt64S.l0]
    rw [if_pos (by omega), if_pos (by omega), if_pos (by omega), if_pos trivial, w64 (by omega) (by omega)]
    exact ih (i + 1) k (by omega) (by omega) (by omega)
theorem ev_eqInt {l : List Int} (hl : l.length ≤ 1048576) : Ev (fun k => laws_eqInt64S.f k l l) true := by
  refine ⟨l.length + 1, fun k hk => ?_⟩
  dsimp only
  unfold laws_eqInt64S.f
  rw [if_pos rfl]
  exact eqInt_loop l hl l.length 0 k (by omega) (by omega) (by omega)
theorem ev_eqComplex {n : Int} {l : List Int} (hl : l.length ≤ 1048576) : Ev (fun k => laws_eqComplex.f k n l n l) true := by
  unfold laws_eqComplex.f
  simp only [if_true]
  exact Ev.bind (f := fun _ t => if t = true then some true else some false) (ev_eqInt hl) (by simp only [if_true]; exact Ev.now _)
end Go.Proofs.Ytomdfjohnmikdaa.Pu
namespace Go.Proofs.Ytomdfjohnmikdaa.Pu
set_option linter.unusedVariables false
set_option linter.unusedSimpArgs false
open Go.RowKit Go.Proofs.Ytomdfjohnmikdaa.QS Go.Proofs.Ytomdfjohnmikdaa.Im Go.Proofs.YtomdfjohnmikdaaW.PrintWords Go.Proofs.YtomdfjohnmikdaaW.PrintLast Go.Proofs.YtomdfjohnmikdaaW.PrintMore
theorem in_eq (a b c : Int) : spec_l01In.f a b c = some (withinB a b c) := by
  unfold spec_l01In.f withinB
  by_cases h : a ≥ b
  · rw [if_pos h, decide_eq_true (show b ≤ a by omega)]; rfl
  · rw [if_neg h, decide_eq_false (show ¬ b ≤ a by omega)]; rfl
theorem all_eq {n : Int} (h1 : 1 ≤ n) (h6 : n ≤ 6) : spec_l01All.f n = some (fullZ n) := by
  obtain rfl | rfl | rfl | rfl | rfl | rfl : n = 1 ∨ n = 2 ∨ n = 3 ∨ n = 4 ∨ n = 5 ∨ n = 6 := by omega
  all_goals decide +kernel
theorem below_all : ((List.range 64).all fun f => f == 0 || spec_l01Below.f 70 (f : Int) == some (bordersL (f : Int))) = true := by decide +kernel
theorem ev_below {f : Int} (h1 : 1 ≤ f) (h2 : f ≤ 63) : Ev (fun k => spec_l01Below.f k f) (bordersL f) := by
  obtain ⟨m, rfl⟩ := Int.eq_ofNat_of_zero_le (show 0 ≤ f by omega)
  have h := List.all_eq_true.1 below_all m (List.mem_range.2 (by omega))
  have h0 : (m == 0) = false := by simp; omega
  rw [h0, Bool.false_or] at h
  exact Ev.of (fun k => spec_l01Below.mono _ k) (k := 70) (by simpa using h)
theorem has_loop (n x : Int) (l : List Int) (hl : l.length ≤ maxLen) : ∀ d (i : Nat) k, l.length - i = d → d < k → i ≤ l.length → spec_l01Has.l0 k x i n l = some (decide (x ∈ l.drop i)) := by
  simp only [maxLen] at hl
  intro d
  induction d with
  | zero =>
    intro i k hd hk hi
    obtain ⟨k, rfl⟩ : ∃ m, k = m + 1 := ⟨k - 1, by omega⟩
    simp only [spec_l01Has.l0]
    rw [if_neg (by omega), List.drop_eq_nil_of_le (by omega)]
    rfl
  | succ d ih =>
    intro i k hd hk hi
    obtain ⟨k, rfl⟩ : ∃ m, k = m + 1 := ⟨k - 1, by omega⟩
    simp only [spec_l01Has.l0]
    rw [if_pos (by omega), if_pos (by omega), rd_at (show i < l.length by omega), List.drop_eq_getElem_cons (show i < l.length by omega)]
    by_cases hx : l[i] = x
    · rw [if_pos hx, hx]; simp
    · rw [if_neg hx, w64 (by omega) (by omega)]
      have := ih (i + 1) k (by omega) (by omega) (by omega)
      rw [show ((i + 1 : Nat) : Int) = (i : Int) + 1 by omega] at this
      rw [this]
      exact congrArg some (decide_eq_decide.2 ⟨fun h => List.mem_cons.2 (Or.inr h), fun h => (List.mem_cons.1 h).resolve_left (Ne.symm hx)⟩)
theorem ev_has {l : List Int} (hl : l.length ≤ maxLen) (n x : Int) : Ev (fun k => spec_l01Has.f k n l x) (decide (x ∈ l)) := by
  refine ⟨l.length + 1, fun k hk => ?_⟩
  dsimp only
  unfold spec_l01Has.f
  have := has_loop n x l hl l.length 0 k (by omega) (by omega) (by omega)
  rwa [List.drop_zero] at this
theorem is_l2 (n : Int) (l b : List Int) (hl : l.length ≤ maxLen) (hb : b.length ≤ maxLen) (x4 : Int) (R : Bool) (hR : Ev (fun k => spec_l01Is.l1 k (wrap64 (x4 + 1)) n l) R) :
    ∀ d (j : Nat), b.length - j = d → j ≤ b.length → Ev (fun k => spec_l01Is.l2 k x4 b j n l) (((b.drop j).all fun y => decide (y ∈ l)) && R) := by
  simp only [maxLen] at hb
  intro d
  induction d with
  | zero =>
    intro j hd hj
    refine Ev.step (f := fun k => spec_l01Is.l1 k (wrap64 (x4 + 1)) n l) (fun k => ?_) ?_
    · simp only [spec_l01Is.l2]; rw [if_neg (by omega)]
    · rw [List.drop_eq_nil_of_le (by omega)]; exact hR
  | succ d ih =>
    intro j hd hj
    refine Ev.step (f := fun k => (spec_l01Has.f k n l b[j]).bind fun t => if t = true then spec_l01Is.l2 k x4 b ((j + 1 : Nat) : Int) n l else some false) (fun k => ?_) ?_
    · simp only [spec_l01Is.l2]
      rw [if_pos (by omega), if_pos (by omega), rd_at (show j < b.length by omega), w64 (by omega) (by omega), show ((j + 1 : Nat) : Int) = (j : Int) + 1 by omega]
    · refine Ev.bind (ev_has hl n b[j]) ?_
      rw [List.drop_eq_getElem_cons (show j < b.length by omega), List.all_cons]
      by_cases hm : b[j] ∈ l
      · rw [decide_eq_true hm]
        simp only [if_true, Bool.true_and]
        exact ih (j + 1) (by omega) (by omega)
      · rw [decide_eq_false hm]
        simp only [Bool.false_and]
        exact Ev.now _
theorem borders_len6 {f : Int} : (bordersL f).length ≤ 6 := by
  unfold bordersL
  refine Nat.le_trans (bordersOf_len _ _) ?_
  rw [upto_length]
  exact verts_len f
theorem is_l1 (n : Int) (l : List Int) (hl : l.length ≤ maxLen) (hr : ∀ x ∈ l, 1 ≤ x ∧ x ≤ 63) :
    ∀ d (i : Nat), l.length - i = d → i ≤ l.length → Ev (fun k => spec_l01Is.l1 k i n l) ((l.drop i).all fun f => (bordersL f).all fun y => decide (y ∈ l)) := by
  have hl' := hl
  simp only [maxLen] at hl'
  intro d
  induction d with
  | zero =>
    intro i hd hi
    refine Ev.step (f := fun k => some true) (fun k => ?_) ?_
    · simp only [spec_l01Is.l1]; rw [if_neg (by omega)]
    · rw [List.drop_eq_nil_of_le (by omega)]; exact Ev.now _
  | succ d ih =>
    intro i hd hi
    have hi' : i < l.length := by omega
    refine Ev.step (f := fun k => (spec_l01Below.f k l[i]).bind fun t => spec_l01Is.l2 k i t 0 n l) (fun k => ?_) ?_
    · simp only [spec_l01Is.l1]
      rw [if_pos (by omega), if_pos (by omega), rd_at hi']
    · have hx := hr l[i] (List.getElem_mem hi')
      refine Ev.bind (ev_below hx.1 hx.2) ?_
      have h1 := ih (i + 1) (by omega) (by omega)
      rw [show ((i + 1 : Nat) : Int) = wrap64 ((i : Int) + 1) by rw [w64 (by omega) (by omega)]; omega] at h1
      have h2 := is_l2 n l (bordersL l[i]) hl (by have := @borders_len6 l[i]; simp only [maxLen]; omega) i _ h1 _ 0 rfl (Nat.zero_le _)
      rw [List.drop_zero] at h2
      rw [List.drop_eq_getElem_cons hi', List.all_cons]
      exact h2
theorem is_l0 (n : Int) (h1 : 1 ≤ n) (h6 : n ≤ 6) (l : List Int) (hl : l.length ≤ maxLen) :
    ∀ d (i : Nat), l.length - i = d → i ≤ l.length → (∀ j, j < i → okAt n l j = true) → Ev (fun k => spec_l01Is.l0 k i n l) (ascB n l && closedB l) := by
  have hl' := hl
  simp only [maxLen] at hl'
  have hF := fullZ_le h1 h6
  intro d
  induction d with
  | zero =>
    intro i hd hi hj
    refine Ev.step (f := fun k => spec_l01Is.l1 k 0 n l) (fun k => ?_) ?_
    · simp only [spec_l01Is.l0]; rw [if_neg (by omega)]
    · have ha : ∀ j, j < l.length → okAt n l j = true := fun j h => hj j (by omega)
      rw [ascB_yes ha, Bool.true_and]
      have hr : ∀ x ∈ l, 1 ≤ x ∧ x ≤ 63 := by
        intro x hx
        obtain ⟨j, hj', rfl⟩ := List.mem_iff_getElem.1 hx
        have := ha j hj'
        simp only [okAt, withinB, Bool.and_eq_true, decide_eq_true_eq, List.getElem?_eq_getElem hj', Option.getD_some] at this
        omega
      have := is_l1 n l hl hr l.length 0 (by omega) (Nat.zero_le _)
      rw [List.drop_zero] at this
      exact this
  | succ d ih =>
    intro i hd hi hj
    have hi' : i < l.length := by omega
    refine Ev.step (f := fun k => if okAt n l i = true then spec_l01Is.l0 k ((i + 1 : Nat) : Int) n l else some false) (fun k => ?_) ?_
    · simp only [spec_l01Is.l0]
      rw [if_pos (by omega), if_pos (by omega), all_eq h1 h6]
      simp only [Option.bind_some, in_eq, rd_at hi']
      have hg : l[i]?.getD 0 = l[i] := by rw [List.getElem?_eq_getElem hi']; rfl
      unfold okAt
      rw [hg]
      rw [show wrap64 ((i : Int) + 1) = ((i + 1 : Nat) : Int) by rw [w64 (by omega) (by omega)]; omega]
      cases hw : withinB l[i] 1 (fullZ n) with
      | false => simp
      | true =>
        simp only [if_true, Bool.true_and]
        rcases Nat.eq_zero_or_pos i with hz | hz
        · subst hz; simp
        · have hp : l[i - 1]?.getD 0 = l[i - 1] := by rw [List.getElem?_eq_getElem (by omega)]; rfl
          have hb : (i == 0) = false := by simp; omega
          rw [if_pos (by omega), w64 (by omega) (by omega), if_pos (by omega), if_pos (by omega), hp, hb, Bool.false_or, show ((i : Int) - 1) = ((i - 1 : Nat) : Int) by omega, rd_at (show i - 1 < l.length by omega)]
          by_cases hle : l[i] ≤ l[i - 1]
          · rw [if_pos hle, decide_eq_false (by omega)]; simp
          · rw [if_neg hle, decide_eq_true (by omega)]; simp
    · cases ho : okAt n l i with
      | true =>
        simp only [if_true]
        exact ih (i + 1) (by omega) (by omega) (okAt_next hj ho)
      | false =>
        rw [ascB_no hi' ho]
        simp only [Bool.false_and]
        exact Ev.now _
/-- IsComplex, the reference's. -/
theorem ev_is (n : Int) {l : List Int} (hl : l.length ≤ maxLen) : Ev (fun k => spec_l01Is.f k n l) (isC n l) := by
  unfold spec_l01Is.f isC
  simp only [in_eq, Option.bind_some]
  cases hw : withinB n 1 6 with
  | false => simp only [Bool.false_and]; exact Ev.now _
  | true =>
    simp only [if_true, Bool.true_and]
    have hn : 1 ≤ n ∧ n ≤ 6 := by simpa [withinB] using hw
    exact is_l0 n hn.1 hn.2 l hl l.length 0 (by omega) (Nat.zero_le _) (fun j hj => absurd hj (Nat.not_lt_zero _))
end Go.Proofs.Ytomdfjohnmikdaa.Pu
namespace Go.Proofs.Ytomdfjohnmikdaa.QS
open Go.Proofs.Ytomdfjohnmikdaa.Cw Go.Proofs.Ytomdfjohnmikdaa.Kp Go.Proofs.Ytomdfjohnmikdaa.Ext Go.RowKit Go.Proofs.YtomdfjohnmikdaaW.PrintWords Go.Proofs.YtomdfjohnmikdaaW.PrintLast Go.Proofs.YtomdfjohnmikdaaW.PrintMore
attribute [local go_sem] max2_int min2_int max_two min_two max_three min_three max_four min_four   -- for this text's walks alone
set_option linter.unusedVariables false
set_option linter.unusedSimpArgs false
end Go.Proofs.Ytomdfjohnmikdaa.QS
namespace Go.Proofs.Ytomdfjohnmikdaa.QS
open Go.Proofs.Ytomdfjohnmikdaa.Cw Go.Proofs.Ytomdfjohnmikdaa.Kp Go.Proofs.Ytomdfjohnmikdaa.Ext Go.RowKit Go.Proofs.YtomdfjohnmikdaaW.PrintWords Go.Proofs.YtomdfjohnmikdaaW.PrintLast Go.Proofs.YtomdfjohnmikdaaW.PrintMore
attribute [local go_sem] max2_int min2_int max_two min_two max_three min_three max_four min_four   -- for this text's walks alone
set_option linter.unusedVariables false
set_option linter.unusedSimpArgs false
end Go.Proofs.Ytomdfjohnmikdaa.QS
namespace Go.Proofs.Ytomdfjohnmikdaa.Pu
set_option linter.unusedVariables false
set_option linter.unusedSimpArgs false
open Go.RowKit Go.Proofs.Ytomdfjohnmikdaa.QS Go.Proofs.Ytomdfjohnmikdaa.Im Go.Proofs.YtomdfjohnmikdaaW.PrintWords Go.Proofs.YtomdfjohnmikdaaW.PrintLast Go.Proofs.YtomdfjohnmikdaaW.PrintMore
theorem ones_all : ((List.range 64).all fun f => spec_l01Ones.f 8 (f : Int) == some (onesZ (f : Int))) = true := by decide +kernel
theorem ev_ones {x : Int} (h0 : 0 ≤ x) (h6 : x ≤ 63) : Ev (fun k => spec_l01Ones.f k x) (onesZ x) := by
  obtain ⟨m, rfl⟩ := Int.eq_ofNat_of_zero_le h0
  exact Ev.of (fun k => spec_l01Ones.mono _ k) (eq_of_beq (List.all_eq_true.1 ones_all m (List.mem_range.2 (by omega))))
theorem ones_le (x : Int) : 0 ≤ onesZ x ∧ onesZ x ≤ 6 := by
  have : (verts x).length ≤ 6 := verts_len x
  unfold onesZ; omega
end Go.Proofs.Ytomdfjohnmikdaa.Pu
namespace Go.Proofs.Ytomdfjohnmikdaa.QS
open Go.Proofs.Ytomdfjohnmikdaa.Cw Go.Proofs.Ytomdfjohnmikdaa.Kp Go.Proofs.Ytomdfjohnmikdaa.Ext Go.RowKit Go.Proofs.YtomdfjohnmikdaaW.PrintWords Go.Proofs.YtomdfjohnmikdaaW.PrintLast Go.Proofs.YtomdfjohnmikdaaW.PrintMore
attribute [local go_sem] max2_int min2_int max_two min_two max_three min_three max_four min_four   -- for this text's walks alone
set_option linter.unusedVariables false
set_option linter.unusedSimpArgs false
def spec_l01Dim.l0 : Nat → Int → Int → Int → List Int → Option (Int)
 | 0, _, _, _, _ => none
 | k + 1, x3, x4, x162000, x162001 => if x4 < (x162001.length : Int) then (if 0 ≤ x4 then ((spec_l01Ones.f k (rd x162001 x4)).bind fun t163 => (spec_l01Dim.l0 k (mx x3 (wrap64 (t163 - 1))) (wrap64 (x4 + 1)) x162000 x162001)) else (none)) else (some x3)
def spec_l01Dim.f (k : Nat) (a0_0 : Int) (l0_1 : List Int) : Option (Int) := spec_l01Dim.l0 k (-1) 0 a0_0 l0_1
theorem spec_l01Dim.mono_l : ∀ k, (∀ y0 y1 y2 y3, LeO (spec_l01Dim.l0 k y0 y1 y2 y3) (spec_l01Dim.l0 (k + 1) y0 y1 y2 y3))
 | 0 => fun _ _ _ _ r h => by simp [spec_l01Dim.l0] at h
 | k + 1 => by
  have ih0 := spec_l01Dim.mono_l k
  ·intro y0 y1 y2 y3
   unfold spec_l01Dim.l0
   repeat' first
   | (with_reducible exact ih0 _ _ _ _)
   | (with_reducible exact spec_l01Ones.mono _ _)
   | (with_reducible exact LeO.refl _)
   | (with_reducible exact LeO.none _)
   | (with_reducible refine LeO.ite ?_ ?_)
   | (with_reducible refine LeO.bind ?_ (fun _ => ?_))
   | exact ih0 _ _ _ _
   | exact spec_l01Ones.mono _ _
   | exact LeO.none _
   | refine LeO.ite ?_ ?_
   | refine LeO.bind ?_ (fun _ => ?_)
theorem spec_l01Dim.mono : ∀ a0 a1 k, LeO (spec_l01Dim.f k a0 a1) (spec_l01Dim.f (k + 1) a0 a1) := by
 intro a0 a1 k
 have ih0 := spec_l01Dim.mono_l k
 unfold spec_l01Dim.f
 repeat' first
   | (with_reducible exact ih0 _ _ _ _)
   | (with_reducible exact spec_l01Ones.mono _ _)
   | (with_reducible exact LeO.refl _)
   | (with_reducible exact LeO.none _)
   | (with_reducible refine LeO.ite ?_ ?_)
   | (with_reducible refine LeO.bind ?_ (fun _ => ?_))
   | exact ih0 _ _ _ _
   | exact spec_l01Ones.mono _ _
   | exact LeO.none _
   | refine LeO.ite ?_ ?_
   | refine LeO.bind ?_ (fun _ => ?_)
set_option maxHeartbeats 8000000 in
set_option maxRecDepth 100000 in
theorem spec_l01Dim.calls (k : Nat) (a0_0 : Int) (A0_1 : Option Addr) (c0_1 : Nat) (l0_1 : List Int) (r : Int) (w : World) (hr0_1 : Kd.C (Kd.int .i64) w A0_1 l0_1.length l0_1) (hc0_1 : l0_1.length ≤ c0_1) (h : spec_l01Dim.f k a0_0 l0_1 = some r) :
  Calls Try.prog 103 #[.agg #[.int .i64 a0_0, .slice A0_1 l0_1.length c0_1]] w fun e w' => e = .returned (.int .i64 r) ∧ Below w.heap.size w w' := by
 have hu28 := Try.underlying28
 have HR0_1 := Aside0.mk hr0_1
 have HC0_1 := Aside0.mk hc0_1
 clear hr0_1 hc0_1
 have HB := Aside0.mk (Below.refl w.heap.size w)
 have H : (spec_l01Dim.l0 k (-1) 0 a0_0 l0_1) = some r := h
 clear h
 have H' := Aside0.mk H
 clear H
 go_enter Try.func103, Try.ntmps103
 go_wp2_with (first | ((with_reducible refine gate_dst (N := 1) rfl ?_); refine box_event ?hg (N := 1) ?hd (cs := #[.int .i64 a0_0, .slice A0_1 l0_1.length c0_1]) (t := 28) ?hr ?_; (case hd => rfl); (case hg => rfl); (case hr => first | (go_simp; done) | (go_simp; rfl)); intro gb161 hg w2 hbox hb; have BK161 := Aside0.mk (hbox); have GW161 := gH HB hg; have GE161 := gH HB hg; replace HB := sH HB hb; clear hb hbox hg))
 go_loopg [3, 4] k (fun kq v3 v4 w' => ∃ (x3_1 : Int) (x4_1 : Int), v3 = .int .i64 x3_1 ∧ v4 = .int .i64 x4_1 ∧ Aside0 (spec_l01Dim.l0 kq x3_1 x4_1 a0_0 l0_1 = some r) ∧ Aside0 (kq ≤ k) ∧ Aside0 (w'.heap[gb161]? = some (.cells #[.int .i64 a0_0, (.slice A0_1 l0_1.length c0_1)] 28 (0, 0))) ∧ Aside0 (Below w.heap.size w w'))
 case atStart => exact ⟨((-1)), (0), (by first | rfl | (simp; done) | (simp [*]; done)), (by first | rfl | (simp; done) | (simp [*]; done)), H', ⟨Nat.le_refl _⟩, ⟨pB BK161⟩, ⟨pH HB⟩⟩
 case round =>
  clear H'
  try clear c1
  try clear p2
  obtain ⟨x3_1, x4_1, rfl, rfl, HA, HK1, BK161, HB⟩ := hrel
  cases gk with
  | zero => exact absurd HA.out (by simp [spec_l01Dim.l0])
  | succ k1 =>
   have H := HA.out
   clear HA
   simp only [spec_l01Dim.l0] at H
   by_cases c3 : x4_1 < (l0_1.length : Int)
   ·rw [if_pos c3] at H
    have c3b0 : decide (x4_1 < (l0_1.length : Int)) = true := decide_eq_true c3
    clear c3
    by_cases c4 : 0 ≤ x4_1
    ·rw [if_pos c4] at H
     have c4b0 : decide (0 ≤ x4_1) = true := decide_eq_true c4
     clear c4
     replace H := Option.bind_eq_some_iff.mp H
     obtain ⟨t163, A50, H⟩ := H
     try dsimp only at H
     have A5 := Aside0.mk A50
     clear A50
     obtain ⟨ji6, hji6⟩ : ∃ j_ : Int, (mx x3_1 (wrap64 (t163 - 1))) = j_ := ⟨_, rfl⟩
     replace H : (spec_l01Dim.l0 k1 ji6 (wrap64 (x4_1 + 1)) a0_0 l0_1) = some r := by first | (rw [hji6] at H; exact H) | (simp only [hji6] at H ⊢; exact H)
     (try rw [hji6] at A5)
     have hji6_ : (if x3_1 < (wrap64 (t163 - 1)) then (wrap64 (t163 - 1)) else x3_1) = ji6 := hji6
     have H' := Aside0.mk H
     clear H
     have hcz7_0 : wr.cell? ⟨gb161, 0, none⟩ = some (.int .i64 a0_0) := cB BK161 0
     have hcz7_1 : wr.cell? ⟨gb161, 1, none⟩ = some (.slice A0_1 l0_1.length c0_1) := cB BK161 1
     have hfz7_0 := zB BK161 0
     have hfz7_1 := zB BK161 1
     have p162 : 0 ≤ (x4_1 : Int) := of_decide_eq_true (by first | (with_reducible assumption) | assumption)
     have q162 : x4_1 < (l0_1.length : Int) := of_decide_eq_true (by first | (with_reducible assumption) | assumption)
     obtain ⟨ad162, e162, hx162_0⟩ := Kd.at_int HR0_1.out x4_1 p162 q162
     cases e162
     replace hx162_0 := cH HB hx162_0
     replace p162 := eq_true p162
     replace q162 := eq_true q162
     go_wp2_with (first | ((with_reducible refine gate_callee (f := 129) rfl ?_); refine cl_ (some 18) Try.func129 #[.int .i64 (rd l0_1 x4_1)] ?_; (with_reducible refine (spec_l01Ones.calls k1 (rd l0_1 x4_1) t163 _ A5.out).mono ?_); rintro e w' ⟨rfl, ⟨nd, rfl⟩⟩; refine ⟨_, rfl, ?_⟩))
     go_roundg k1
     case measure => have := HK1.out; omega
     case rel => exact ⟨(ji6), (wrap64 (x4_1 + 1)), (by first | rfl | (simp; done) | (simp only [← hji6] <;> (first | rfl | simp)) | (simp [*]; done)), (by first | rfl | (simp; done) | (simp [*]; done)), H', ⟨by have := HK1.out; omega⟩, ⟨pB BK161⟩, ⟨pH HB⟩⟩
    ·rw [if_neg c4] at H
     exact absurd H (by simp)
   ·rw [if_neg c3] at H
    have c3b0 : decide (x4_1 < (l0_1.length : Int)) = false := decide_eq_false c3
    clear c3
    obtain rfl := Option.some.inj H
    have hcz8_0 : wr.cell? ⟨gb161, 0, none⟩ = some (.int .i64 a0_0) := cB BK161 0
    have hcz8_1 : wr.cell? ⟨gb161, 1, none⟩ = some (.slice A0_1 l0_1.length c0_1) := cB BK161 1
    have hfz8_0 := zB BK161 0
    have hfz8_1 := zB BK161 1
    go_wp2
    go_ret
    exact ⟨by first | rfl | (simp [errW_none, errW_some] <;> rfl) | (simp [*, errW_none, errW_some] <;> rfl) | (exfalso; simp_all), pH HB⟩
end Go.Proofs.Ytomdfjohnmikdaa.QS
namespace Go.Proofs.Ytomdfjohnmikdaa.Pu
set_option linter.unusedVariables false
set_option linter.unusedSimpArgs false
open Go.RowKit Go.Proofs.Ytomdfjohnmikdaa.QS Go.Proofs.Ytomdfjohnmikdaa.Im Go.Proofs.YtomdfjohnmikdaaW.PrintWords Go.Proofs.YtomdfjohnmikdaaW.PrintLast Go.Proofs.YtomdfjohnmikdaaW.PrintMore
theorem ev_dimO {n : Int} {l : List Int} (hi : isC n l = true) : Ev (fun k => spec_l01Dim.f k n l) (dimL l) := by
  have hl := isC_len hi
  have hr := isC_63 hi
  have key : ∀ d (i : Nat) (a : Int), l.length - i = d → i ≤ l.length → Ev (fun k => spec_l01Dim.l0 k a i n l) ((l.drop i).foldl (fun a x => max a (onesZ x - 1)) a) := by
    intro d
    induction d with
    | zero =>
      intro i a hd hi
      rw [List.drop_eq_nil_of_le (by omega)]
      refine Ev.step (f := fun k => some a) (fun k => ?_) (Ev.now _)
      simp only [spec_l01Dim.l0]; rw [if_neg (by omega)]
    | succ d ih =>
      intro i a hd hi
      have hi' : i < l.length := by omega
      have hx := hr _ (List.getElem_mem hi')
      have h1 := ones_le l[i]
      rw [List.drop_eq_getElem_cons hi', List.foldl_cons]
      refine Ev.step (f := fun k => (spec_l01Ones.f k l[i]).bind fun t320 => (spec_l01Dim.l0 k (mx a (wrap64 (t320 - 1))) ((i + 1 : Nat) : Int) n l)) (fun k => ?_) ?_
      · simp only [spec_l01Dim.l0]
        rw [if_pos (by omega), if_pos (by omega), rd_at hi', show wrap64 ((i : Int) + 1) = ((i + 1 : Nat) : Int) by rw [w64 (by omega) (by omega)]; omega]
      · refine Ev.bind (ev_ones (by omega) (by omega)) ?_
        rw [w64 (by omega) (by omega), show mx a (onesZ l[i] - 1) = max a (onesZ l[i] - 1) by unfold mx; split <;> omega]
        exact ih (i + 1) _ (by omega) (by omega)
  exact key _ 0 (-1) rfl (Nat.zero_le _)
theorem ev_ofO {n : Int} {l : List Int} (hi : isC n l = true) (j : Nat) (hj : j ≤ 100) : Ev (fun k => spec_l01Of.f k n l (j : Int)) (l.filter fun x => onesZ x == ((j + 1 : Nat) : Int)) := by
  have hl := isC_len hi
  have hr := isC_63 hi
  have key : ∀ d (i : Nat) (acc : List Int), l.length - i = d → i ≤ l.length → acc.length ≤ i → Ev (fun k => spec_l01Of.l0 k (j : Int) acc i n l) (acc ++ (l.drop i).filter fun x => onesZ x == ((j + 1 : Nat) : Int)) := by
    intro d
    induction d with
    | zero =>
      intro i acc hd hi ha
      rw [List.drop_eq_nil_of_le (by omega), List.filter_nil, List.append_nil]
      refine Ev.step (f := fun k => some acc) (fun k => ?_) (Ev.now _)
      simp only [spec_l01Of.l0]; rw [if_neg (by omega)]
    | succ d ih =>
      intro i acc hd hi ha
      have hi' : i < l.length := by omega
      have hx := hr _ (List.getElem_mem hi')
      have hwj : wrap64 ((j : Int) + 1) = ((j + 1 : Nat) : Int) := by rw [w64 (by omega) (by omega)]; omega
      rw [List.drop_eq_getElem_cons hi']
      refine Ev.step (f := fun k => (spec_l01Ones.f k l[i]).bind fun t326 => (if t326 = ((j + 1 : Nat) : Int) then (spec_l01Of.l0 k (j : Int) (acc ++ [l[i]]) ((i + 1 : Nat) : Int) n l) else (spec_l01Of.l0 k (j : Int) acc ((i + 1 : Nat) : Int) n l))) (fun k => ?_) ?_
      · simp only [spec_l01Of.l0]
        rw [if_pos (by omega), if_pos (by omega), rd_at hi', show wrap64 ((i : Int) + 1) = ((i + 1 : Nat) : Int) by rw [w64 (by omega) (by omega)]; omega, hwj]
        simp only [if_pos (show acc.length < 17592186044416 by omega)]
      · refine Ev.bind (ev_ones (by omega) (by omega)) ?_
        by_cases ho : onesZ l[i] = ((j + 1 : Nat) : Int)
        · simp only [if_pos ho]
          rw [List.filter_cons_of_pos (by rw [ho]; exact beq_self_eq_true _)]
          have := ih (i + 1) (acc ++ [l[i]]) (by omega) (by omega) (by rw [List.length_append]; simp; omega)
          rw [List.append_assoc] at this
          exact this
        · simp only [if_neg ho]
          rw [List.filter_cons_of_neg (by rw [beq_eq_false_iff_ne.2 ho]; exact Bool.false_ne_true)]
          exact ih (i + 1) acc (by omega) (by omega) (by omega)
  have := key _ 0 [] rfl (Nat.zero_le _) (by simp)
  rw [List.drop_zero, List.nil_append] at this
  exact this
def sigL (f : Int) : List Int := if onesZ f ≤ 1 then [] else ((List.range (onesZ f).toNat).map fun (a : Nat) => (1 - 2 * ((a : Int) % 2) : Int)).reverse
theorem sig_all : ((List.range 64).all fun f => f == 0 || (spec_l03Signs.f 10 (f : Int) == some (sigL (f : Int)))) = true := by decide +kernel
theorem ev_signs {f : Int} (h1 : 1 ≤ f) (h2 : f ≤ 63) : Ev (fun k => spec_l03Signs.f k f) (sigL f) := by
  obtain ⟨a, rfl⟩ := Int.eq_ofNat_of_zero_le (show 0 ≤ f by omega)
  have h := List.all_eq_true.1 sig_all a (List.mem_range.2 (by omega))
  rw [Bool.or_eq_true] at h
  rcases h with h | h
  · have := eq_of_beq h; omega
  · exact Ev.of (fun k => spec_l03Signs.mono _ k) (eq_of_beq h)
theorem sig_len_all : ((List.range 64).all fun f => f == 0 || ((sigL (f : Int)).length == (bordersL (f : Int)).length && ((sigL (f : Int)).all fun s => s == 1 || s == -1) && ((bordersL (f : Int)).all fun g => onesZ g + 1 == onesZ (f : Int)))) = true := by decide +kernel
theorem sig_facts {f : Int} (h1 : 1 ≤ f) (h2 : f ≤ 63) : (sigL f).length = (bordersL f).length ∧ (∀ s ∈ sigL f, s = 1 ∨ s = -1) ∧ ∀ g ∈ bordersL f, onesZ g + 1 = onesZ f := by
  obtain ⟨a, rfl⟩ := Int.eq_ofNat_of_zero_le (show 0 ≤ f by omega)
  have h := List.all_eq_true.1 sig_len_all a (List.mem_range.2 (by omega))
  rw [Bool.or_eq_true] at h
  rcases h with h | h
  · have := eq_of_beq h; omega
  · simp only [Bool.and_eq_true] at h
    refine ⟨eq_of_beq h.1.1, fun s hs => ?_, fun g hg => eq_of_beq (List.all_eq_true.1 h.2 g hg)⟩
    have := List.all_eq_true.1 h.1.2 s hs
    rw [Bool.or_eq_true, beq_iff_eq, beq_iff_eq] at this
    exact this
theorem place_loop (l : List Int) (hl : l.length ≤ 1000) (g : Int) {p : Nat} (hp : p < l.length) (hg : l[p] = g) (hn : ∀ q (h : q < l.length), q < p → l[q] ≠ g) : ∀ d (i : Nat), p - i = d → i ≤ p → Ev (fun k => spec_l03Place.l0 k l g i) (p : Int) := by
  intro d
  induction d with
  | zero =>
    intro i hd hi
    obtain rfl : i = p := by omega
    refine Ev.step (f := fun k => some (i : Int)) (fun k => ?_) (Ev.now _)
    simp only [spec_l03Place.l0]
    rw [if_pos (by omega), if_pos (by omega), rd_at hp, if_pos hg]
  | succ d ih =>
    intro i hd hi
    have hi' : i < l.length := by omega
    refine Ev.step (fun k => ?_) (ih (i + 1) (by omega) (by omega))
    simp only [spec_l03Place.l0]
    rw [if_pos (by omega), if_pos (by omega), rd_at hi', if_neg (hn i hi' (by omega)), show wrap64 ((i : Int) + 1) = ((i + 1 : Nat) : Int) by rw [w64 (by omega) (by omega)]; omega]
theorem ev_place {l : List Int} (hl : l.length ≤ 1000) (hn : l.Nodup) {g : Int} (hg : g ∈ l) : ∃ p : Nat, Ev (fun k => spec_l03Place.f k l g) (p : Int) ∧ ∃ h : p < l.length, l[p] = g := by
  obtain ⟨p, hp, he⟩ := List.mem_iff_getElem.1 hg
  refine ⟨p, ?_, hp, he⟩
  unfold spec_l03Place.f
  refine place_loop l hl g hp he (fun q h hq e => ?_) _ 0 rfl (Nat.zero_le _)
  have := List.pairwise_iff_getElem.1 (List.nodup_iff_pairwise_ne.1 hn) q p h hp hq
  exact this (e.trans he.symm)
end Go.Proofs.Ytomdfjohnmikdaa.Pu
