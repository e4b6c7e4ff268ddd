/- IsChain in the form that the printed callers ask for. -/
import Derived.Test.YtdkoioiiacljeaaImP
namespace Go.Proofs.Ytdkoioiiacljeaa.Ext
set_option linter.unusedVariables false
set_option linter.unusedSimpArgs false
open Go.RowKit Go.Proofs.Ytdkoioiiacljeaa.Im Go.Proofs.YtdkoioiiacljeaaW.PrintWords Go.Proofs.YtdkoioiiacljeaaW.PrintLast Go.Proofs.YtdkoioiiacljeaaW.PrintMore

def impl_IsChain.f (a0_0 : Int) (l0_1 : List Int) (l1 : List Int) : Option (Bool × Int) := if l0_1.length ≤ 4611686018427387904 ∧ l1.length ≤ 4611686018427387904 then some (isChainF a0_0 l0_1 l1) else none
theorem impl_IsChain.calls (a0_0 : Int) (A0_1 : Option Addr) (c0_1 : Nat) (l0_1 : List Int) (A1 : Option Addr) (c1 : Nat) (l1 : List Int) (r1 : Bool) (r2 : Int) (w : World) (hr0_1 : Kd.C (Kd.int .i64) w A0_1 l0_1.length l0_1) (_hc0_1 : l0_1.length ≤ c0_1) (hr1 : Kd.C (Kd.int .i64) w A1 l1.length l1) (_hc1 : l1.length ≤ c1) (h : impl_IsChain.f a0_0 l0_1 l1 = some (r1, r2)) :
    Calls Try.prog 33 #[.agg #[.int .i64 a0_0, .slice A0_1 l0_1.length c0_1], .slice A1 l1.length c1] w fun e w' => e = .returned (.tuple #[.bool r1, .int .i64 r2]) ∧ Below w.heap.size w w' := by
  unfold impl_IsChain.f at h
  by_cases hl : l0_1.length ≤ 4611686018427387904 ∧ l1.length ≤ 4611686018427387904
  · rw [if_pos hl] at h
    have hd := Option.some.inj h
    obtain ⟨hl0, hl1⟩ := hl
    have := isChainX_c a0_0 A0_1 l0_1.length c0_1 l0_1 A1 l1.length c1 l1 w hr0_1 hr1 hl0 hl1 _hc0_1 _hc1
    rw [hd] at this
    exact this
  · rw [if_neg hl] at h; cases h

end Go.Proofs.Ytdkoioiiacljeaa.Ext
