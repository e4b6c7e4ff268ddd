/- complexCode, and slices.Clone, in the form that the printed callers ask for. -/
import Derived.Test.YtdkoioiiacljeaaImN
import Derived.Test.YtdkoioiiacljeaaFnC
namespace Go.Proofs.Ytdkoioiiacljeaa.Ext
set_option linter.unusedVariables false
set_option linter.unusedSimpArgs false
open Go.RowKit Go.Proofs.Ytdkoioiiacljeaa.Im  Go.Proofs.YtdkoioiiacljeaaW.PrintWords Go.Proofs.YtdkoioiiacljeaaW.PrintLast Go.Proofs.YtdkoioiiacljeaaW.PrintMore

def impl_complexCode.f (a0_0 : Int) (l0_1 : List Int) (a1 : Pred) : Option (Int) := if l0_1.length ≤ 4611686018427387904 ∧ a1.sort = 0 then some (codeOf (isC a0_0 l0_1) a1.u) else none
theorem impl_complexCode.calls (a0_0 : Int) (A0_1 : Option Addr) (c0_1 : Nat) (l0_1 : List Int) (F1 : Value) (a1 : Pred) (r : Int) (w : World) (hr0_1 : Kd.C (Kd.int .i64) w A0_1 l0_1.length l0_1) (_hc0_1 : l0_1.length ≤ c0_1) (hq1 : FnOk F1 a1 w) (h : impl_complexCode.f a0_0 l0_1 a1 = some r) :
    Calls Try.prog 54 #[.agg #[.int .i64 a0_0, .slice A0_1 l0_1.length c0_1], F1] w fun e w' => e = .returned (.int .i64 r) ∧ Below w.heap.size w w' := by
  unfold impl_complexCode.f at h
  by_cases hl : l0_1.length ≤ 4611686018427387904 ∧ a1.sort = 0
  · rw [if_pos hl] at h
    have hd := Option.some.inj h
    rw [← hd]
    exact complexCode_c a0_0 A0_1 l0_1.length c0_1 l0_1 _ a1.u w hr0_1 hl.1 (fun _ => hq1.1 hl.2)
  · rw [if_neg hl] at h; cases h

def slices_Clone_int64_int64.f (l0 : List Int) : Option (List Int) := if l0.length ≤ 1048576 then some (l0) else none
theorem slices_Clone_int64_int64.calls (A0 : Option Addr) (c0 : Nat) (l0 : List Int) (r : List Int) (w : World) (hr0 : Kd.C (Kd.int .i64) w A0 l0.length l0) (_hc0 : l0.length ≤ c0) (h : slices_Clone_int64_int64.f l0 = some r) :
    Calls Try.prog 87 #[.slice A0 l0.length c0] w fun e w' => ∃ v0_ : Value, e = .returned (v0_) ∧ Kd.R (Kd.int .i64) 2 w' w.heap.size (fun _ => True) v0_ r ∧ Below w.heap.size w w' := by
  unfold slices_Clone_int64_int64.f at h
  by_cases hl : l0.length ≤ 1048576
  · rw [if_pos hl] at h
    have hd := Option.some.inj h
    rw [← hd]
    exact clone_c A0 l0.length c0 l0 w hr0 hl
  · rw [if_neg hl] at h; cases h

end Go.Proofs.Ytdkoioiiacljeaa.Ext
