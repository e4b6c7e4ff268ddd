/- The functions without captured variables that are handed on as values. -/
import Derived.Test.YtdkoioiiacljeaaFnA
import Derived.Test.YtdkoioiiacljeaaImI
namespace Go.Proofs.Ytdkoioiiacljeaa.Ext
set_option linter.unusedVariables false
set_option linter.unusedSimpArgs false
open Go.RowKit Go.Proofs.Ytdkoioiiacljeaa.Im Go.Proofs.Ytdkoioiiacljeaa.Kp Go.Proofs.YtdkoioiiacljeaaW.PrintWords Go.Proofs.YtdkoioiiacljeaaW.PrintLast Go.Proofs.YtdkoioiiacljeaaW.PrintMore

def fnp (g : FuncId) : Pred :=
  if g = 55 then Pred.nul true else
  if g = 115 then Pred.pr (fun _ => true) else
  Pred.nul false
theorem fnp_ok_55 (w : World) : FnOk (.func (.func 55) #[] #[]) (fnp 55) w := FnOk.nul (u := true) (always_f w)
theorem fnp_ok_115 (w : World) : FnOk (.func (.func 115) #[] #[]) (fnp 115) w := by
  refine FnOk.pr (p := fun _ => true) ⟨_, #[], #[], rfl, enters_of Try.func115 (by kernel_rfl) rfl, fun W x hW => ?_⟩
  show Calls Try.prog 115 #[.agg #[.int .i64 x.f0, .int .i64 x.f1]] W fun e w' => e = .returned (.bool true) ∧ Below W.heap.size W w'
  go_enter Try.func115, Try.ntmps115
  go_wp2
  go_ret
  exact ⟨rfl, below_alloc (Below.refl _ _) _⟩

end Go.Proofs.Ytdkoioiiacljeaa.Ext
