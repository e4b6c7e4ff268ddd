-- made by myprint.py out of the translation: a program's text, checked by Lean
import Derived.Test.YtdkoioiiacljeaaProg
import Derived.Below
import Derived.Deep.Draws
import Derived.Deep.AppendLies
import Derived.Maps.AppendAt
import Derived.OwnWalk
import Derived.Laws.BytesArg
import Derived.Laws.MakeOwn
import Derived.Laws.OwnMore
import Derived.Deep.OwnRows
import Derived.Tactics
import Derived.Lib.ConvBytes
import Derived.Laws.Slices
import Derived.WalkKit
import Derived.KernelRfl
import Derived.RowKit3
import Derived.Deep.LoopGhost
import Derived.Deep.QuietTactic
import Derived.BigQuiet
import Derived.WideLaws
import Derived.Deep.DeepCutAuto
import Derived.Deep.CutBlock
import Derived.Deep.RegionHeld3
import Derived.Laws.Rows
import Derived.Lib.AppendStr
import Derived.ArgAppend
import Derived.Laws.IdiomCopy
import Derived.OrdersHeld
import Derived.Laws.BitsLemmas
import Derived.RowKit
import Derived.Test.YtdkoioiiacljeaaKp
import Derived.Test.YtdkoioiiacljeaaExNone
import Derived.Test.YtdkoioiiacljeaaWWords
import Derived.Test.YtdkoioiiacljeaaWLast
import Derived.Test.YtdkoioiiacljeaaWTab
import Derived.Test.YtdkoioiiacljeaaWFour
import Derived.Test.YtdkoioiiacljeaaWQPut
import Derived.Test.YtdkoioiiacljeaaWApart
import Derived.Test.YtdkoioiiacljeaaWArr
import Derived.Test.YtdkoioiiacljeaaWZeros
import Derived.Test.YtdkoioiiacljeaaWFoot
import Derived.Test.YtdkoioiiacljeaaWKept
import Derived.Test.YtdkoioiiacljeaaWShare
import Derived.Test.YtdkoioiiacljeaaWN
import Derived.Test.YtdkoioiiacljeaaWFootNe
import Derived.Test.YtdkoioiiacljeaaWAt
import Derived.Test.YtdkoioiiacljeaaWEqStruct
import Derived.Test.YtdkoioiiacljeaaWRepsOne
import Derived.Test.YtdkoioiiacljeaaWInv
import Derived.Test.YtdkoioiiacljeaaWInvWords
import Derived.Test.YtdkoioiiacljeaaWGuard
import Derived.Test.YtdkoioiiacljeaaWNEv
import Derived.Test.YtdkoioiiacljeaaWMore
namespace Go.Proofs.Ytdkoioiiacljeaa.QS
open Go.Proofs.Ytdkoioiiacljeaa.Kp Go.Proofs.Ytdkoioiiacljeaa.Ext Go.RowKit Go.Proofs.YtdkoioiiacljeaaW.PrintWords Go.Proofs.YtdkoioiiacljeaaW.PrintLast Go.Proofs.YtdkoioiiacljeaaW.PrintMore
attribute [local go_sem] max2_int min2_int max_two min_two max_three min_three max_four min_four   -- for this text's walks alone
set_option linter.unusedVariables false
set_option linter.unusedSimpArgs false



def errW : Option Int → Value
  | none => .nilIface
  | some c => .iface 0 (.int .i64 c)
theorem errW_none : errW none = .nilIface := rfl
theorem errW_some (c : Int) : errW (some c) = .iface 0 (.int .i64 c) := rfl

theorem info2 : (Try.prog.info? 2).map (fun i => (i.zero, i.size, i.bytes)) = some (some (.int .i64 0), 1, 8) := by kernel_rfl
theorem info70 : (Try.prog.info? 70).map (fun i => (i.zero, i.size, i.bytes)) = some (some (.agg #[(.int .i64 0), (.int .i64 0)]), 2, 16) := by kernel_rfl
-- the values' own types
/-! #### struct type 70 -/

end Go.Proofs.Ytdkoioiiacljeaa.QS
