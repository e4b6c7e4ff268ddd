/- CollapsePair in the form that the printed callers ask for. -/
import Derived.Test.YtdkoioiiacljeaaImO
namespace Go.Proofs.Ytdkoioiiacljeaa.Ext
set_option linter.unusedVariables false
set_option linter.unusedSimpArgs false
open Go.RowKit Go.Proofs.Ytdkoioiiacljeaa.Im Go.Proofs.YtdkoioiiacljeaaW.PrintWords Go.Proofs.YtdkoioiiacljeaaW.PrintLast Go.Proofs.YtdkoioiiacljeaaW.PrintMore

def impl_CollapsePair.f (a0_0 : Int) (l0_1 : List Int) (a1 : Int) : Option (Int × List Int × Int) := if l0_1.length ≤ 4611686018427387904 then some (colF a0_0 l0_1 a1) else none
theorem impl_CollapsePair.calls (a0_0 : Int) (A0_1 : Option Addr) (c0_1 : Nat) (l0_1 : List Int) (a1 : Int) (r1 : Int) (r2 : List Int) (r3 : Int) (w : World) (hr0_1 : Kd.C (Kd.int .i64) w A0_1 l0_1.length l0_1) (_hc0_1 : l0_1.length ≤ c0_1) (h : impl_CollapsePair.f a0_0 l0_1 a1 = some (r1, r2, r3)) :
    Calls Try.prog 46 #[.agg #[.int .i64 a0_0, .slice A0_1 l0_1.length c0_1], .int .i64 a1] w fun e w' => ∃ v1_ : Value, e = .returned (.tuple #[.agg #[.int .i64 r1, v1_], .int .i64 r3]) ∧ Kd.R (Kd.int .i64) 2 w' w.heap.size (fun _ => True) v1_ r2 ∧ Below w.heap.size w w' := by
  unfold impl_CollapsePair.f at h
  by_cases hl : l0_1.length ≤ 4611686018427387904
  · rw [if_pos hl] at h
    have hd := Option.some.inj h
    have := collapsePair_c a0_0 A0_1 l0_1.length c0_1 l0_1 a1 w hr0_1 hl
    rw [hd] at this
    exact this
  · rw [if_neg hl] at h; cases h

end Go.Proofs.Ytdkoioiiacljeaa.Ext
