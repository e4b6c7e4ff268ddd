/- (Complex).has in the form that the printed callers ask for. -/
import Derived.Test.YtdkoioiiacljeaaImI
namespace Go.Proofs.Ytdkoioiiacljeaa.Ext
set_option linter.unusedVariables false
set_option linter.unusedSimpArgs false
open Go.RowKit Go.Proofs.Ytdkoioiiacljeaa.Im Go.Proofs.YtdkoioiiacljeaaW.PrintWords Go.Proofs.YtdkoioiiacljeaaW.PrintLast Go.Proofs.YtdkoioiiacljeaaW.PrintMore

def impl_Complex_has.f (a0_0 : Int) (l0_1 : List Int) (a1 : Int) : Option Bool := if l0_1.length ≤ 4611686018427387904 ∧ Asc l0_1 then some (decide (a1 ∈ l0_1)) else none
theorem impl_Complex_has.calls (a0_0 : Int) (A0_1 : Option Addr) (c0_1 : Nat) (l0_1 : List Int) (a1 : Int) (r : Bool) (w : World) (hr0_1 : Kd.C (Kd.int .i64) w A0_1 l0_1.length l0_1) (_hc0_1 : l0_1.length ≤ c0_1) (h : impl_Complex_has.f a0_0 l0_1 a1 = some r) :
    Calls Try.prog 59 #[.agg #[.int .i64 a0_0, .slice A0_1 l0_1.length c0_1], .int .i64 a1] w fun e w' => e = .returned (.bool r) ∧ Below w.heap.size w w' := by
  unfold impl_Complex_has.f at h
  by_cases hl : l0_1.length ≤ 4611686018427387904 ∧ Asc l0_1
  · rw [if_pos hl] at h
    obtain rfl := Option.some.inj h
    exact has_c a0_0 A0_1 l0_1.length c0_1 l0_1 a1 w hr0_1 hl.1 hl.2
  · rw [if_neg hl] at h; cases h

end Go.Proofs.Ytdkoioiiacljeaa.Ext
