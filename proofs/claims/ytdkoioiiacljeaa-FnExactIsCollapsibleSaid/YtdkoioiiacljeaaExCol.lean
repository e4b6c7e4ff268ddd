/- freePairs, less, slices.IndexFunc over pairs, in the form that the printed callers ask for. -/
import Derived.Test.YtdkoioiiacljeaaImT
import Derived.Test.YtdkoioiiacljeaaImC
import Derived.Test.YtdkoioiiacljeaaFnC
import Derived.Test.YtdkoioiiacljeaaExNum
namespace Go.Proofs.Ytdkoioiiacljeaa.Ext
set_option linter.unusedVariables false
set_option linter.unusedSimpArgs false
open Go.RowKit Go.Proofs.Ytdkoioiiacljeaa.Im Go.Proofs.Ytdkoioiiacljeaa.Kp Go.Proofs.YtdkoioiiacljeaaW.PrintWords Go.Proofs.YtdkoioiiacljeaaW.PrintLast Go.Proofs.YtdkoioiiacljeaaW.PrintMore

def impl_Complex_freePairs.f (a0_0 : Int) (l0_1 : List Int) : Option (List S70) := if isC a0_0 l0_1 = true then some (freeL l0_1) else none
theorem impl_Complex_freePairs.calls (a0_0 : Int) (A0_1 : Option Addr) (c0_1 : Nat) (l0_1 : List Int) (r : List S70) (w : World) (hr0_1 : Kd.C (Kd.int .i64) w A0_1 l0_1.length l0_1) (_hc0_1 : l0_1.length ≤ c0_1) (h : impl_Complex_freePairs.f a0_0 l0_1 = some r) :
    Calls Try.prog 75 #[.agg #[.int .i64 a0_0, .slice A0_1 l0_1.length c0_1]] w fun e w' => ∃ v0_ : Value, e = .returned (v0_) ∧ Kd.R k70 70 w' w.heap.size (fun _ => True) v0_ r ∧ Below w.heap.size w w' := by
  unfold impl_Complex_freePairs.f at h
  by_cases hl : isC a0_0 l0_1 = true
  · rw [if_pos hl] at h
    have hd := Option.some.inj h
    rw [← hd]
    exact freePairs_c a0_0 A0_1 c0_1 l0_1 w hr0_1 _hc0_1 hl
  · rw [if_neg hl] at h; cases h

def impl_Complex_less.f (a0_0 : Int) (l0_1 : List Int) (l1 : List Int) : Option (Int × List Int) := if isC a0_0 l0_1 = true then some ((a0_0, partL a0_0 l0_1 (offP l1))) else none
theorem impl_Complex_less.calls (a0_0 : Int) (A0_1 : Option Addr) (c0_1 : Nat) (l0_1 : List Int) (A1 : Option Addr) (c1 : Nat) (l1 : List Int) (r1 : Int) (r2 : List Int) (w : World) (hr0_1 : Kd.C (Kd.int .i64) w A0_1 l0_1.length l0_1) (_hc0_1 : l0_1.length ≤ c0_1) (hr1 : Kd.C (Kd.int .i64) w A1 l1.length l1) (_hc1 : l1.length ≤ c1) (h : impl_Complex_less.f a0_0 l0_1 l1 = some (r1, r2)) :
    Calls Try.prog 82 #[.agg #[.int .i64 a0_0, .slice A0_1 l0_1.length c0_1], .slice A1 l1.length c1] w fun e w' => ∃ v1_ : Value, e = .returned (.agg #[.int .i64 r1, v1_]) ∧ Kd.R (Kd.int .i64) 2 w' w.heap.size (fun _ => True) v1_ r2 ∧ Below w.heap.size w w' := by
  unfold impl_Complex_less.f at h
  by_cases hl : isC a0_0 l0_1 = true
  · rw [if_pos hl] at h
    have hd := Option.some.inj h
    obtain ⟨rfl, rfl⟩ := Prod.mk.inj hd
    exact less_cx a0_0 A0_1 A1 l0_1.length l1.length c0_1 c1 l0_1 l1 w hr0_1 (by have := isC_small hl; omega) hl hr1
  · rw [if_neg hl] at h; cases h

def impl_Pair.f (l0 : List S70) (a1 : Pred) : Option (Int) := if l0.length ≤ 1099511627776 ∧ a1.sort = 2 then some (firstP a1.pP l0) else none
theorem impl_Pair.calls (A0 : Option Addr) (c0 : Nat) (l0 : List S70) (F1 : Value) (a1 : Pred) (r : Int) (w : World) (hr0 : Kd.C k70 w A0 l0.length l0) (_hc0 : l0.length ≤ c0) (hq1 : FnOk F1 a1 w) (h : impl_Pair.f l0 a1 = some r) :
    Calls Try.prog 134 #[.slice A0 l0.length c0, F1] w fun e w' => e = .returned (.int .i64 r) ∧ Below w.heap.size w w' := by
  unfold impl_Pair.f at h
  by_cases hl : l0.length ≤ 1099511627776 ∧ a1.sort = 2
  · rw [if_pos hl] at h
    have hd := Option.some.inj h
    rw [← hd]
    exact indexPair_c A0 c0 l0 F1 a1.pP w hr0 (hq1.2.2 hl.2) hl.1
  · rw [if_neg hl] at h; cases h

end Go.Proofs.Ytdkoioiiacljeaa.Ext
