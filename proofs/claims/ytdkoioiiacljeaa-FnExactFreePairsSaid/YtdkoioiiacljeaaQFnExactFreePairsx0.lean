-- made by myprint.py out of the translation: a program's text, checked by Lean
import Derived.Test.YtdkoioiiacljeaaQSx0
import Derived.Test.YtdkoioiiacljeaaExFreePairs
namespace Go.Proofs.Ytdkoioiiacljeaa.QFnExactFreePairs
open Go.Proofs.Ytdkoioiiacljeaa.Kp Go.Proofs.Ytdkoioiiacljeaa.Ext Go.Proofs.Ytdkoioiiacljeaa.QS Go.RowKit Go.Proofs.YtdkoioiiacljeaaW.PrintWords Go.Proofs.YtdkoioiiacljeaaW.PrintLast Go.Proofs.YtdkoioiiacljeaaW.PrintMore
attribute [local go_sem] max2_int min2_int max_two min_two max_three min_three max_four min_four   -- for this text's walks alone
set_option linter.unusedVariables false
set_option linter.unusedSimpArgs false

theorem info2 : (Try.prog.info? 2).map (fun i => (i.zero, i.size, i.bytes)) = some (some (.int .i64 0), 1, 8) := by kernel_rfl
theorem info70 : (Try.prog.info? 70).map (fun i => (i.zero, i.size, i.bytes)) = some (some (.agg #[(.int .i64 0), (.int .i64 0)]), 2, 16) := by kernel_rfl
end Go.Proofs.Ytdkoioiiacljeaa.QFnExactFreePairs
