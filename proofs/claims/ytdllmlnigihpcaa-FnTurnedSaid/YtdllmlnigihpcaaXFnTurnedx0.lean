/- What the functions of a law compute, and that their calls compute it: written by a program of this session (xprint.py), which turns the kit print at a few places. -/
import Derived.Test.YtdllmlnigihpcaaProg
import Derived.Test.YtdllmlnigihpcaaWf
import Derived.Below
import Derived.Deep.Draws
import Derived.Deep.AppendLies
import Derived.Maps.AppendAt
import Derived.OwnWalk
import Derived.Laws.BytesArg
import Derived.Laws.MakeOwn
import Derived.Laws.OwnMore
import Derived.Deep.OwnRows
import Derived.Tactics
import Derived.Lib.ConvBytes
import Derived.Laws.Slices
import Derived.WalkKit
import Derived.KernelRfl
import Derived.RowKit3
import Derived.Deep.LoopGhost
import Derived.Deep.QuietTactic
import Derived.BigQuiet
import Derived.WideLaws
import Derived.Deep.DeepCutAuto
import Derived.Deep.CutBlock
import Derived.Deep.RegionHeld3
import Derived.Laws.Rows
import Derived.Lib.AppendStr
import Derived.ArgAppend
import Derived.Laws.IdiomCopy
import Derived.OrdersHeld
import Derived.Laws.BitsLemmas
import Derived.RowKit
import Derived.Test.YtdllmlnigihpcaaXW
import Derived.Test.YtdllmlnigihpcaaWWords
import Derived.Test.YtdllmlnigihpcaaWLast
import Derived.Test.YtdllmlnigihpcaaWTab
import Derived.Test.YtdllmlnigihpcaaWFour
import Derived.Test.YtdllmlnigihpcaaWQPut
import Derived.Test.YtdllmlnigihpcaaWApart
import Derived.Test.YtdllmlnigihpcaaWArr
import Derived.Test.YtdllmlnigihpcaaWZeros
import Derived.Test.YtdllmlnigihpcaaWFoot
import Derived.Test.YtdllmlnigihpcaaWKept
import Derived.Test.YtdllmlnigihpcaaWShare
import Derived.Test.YtdllmlnigihpcaaWN
import Derived.Test.YtdllmlnigihpcaaWFootNe
import Derived.Test.YtdllmlnigihpcaaWAt
import Derived.Test.YtdllmlnigihpcaaWEqStruct
import Derived.Test.YtdllmlnigihpcaaWRepsOne
import Derived.Test.YtdllmlnigihpcaaWInv
import Derived.Test.YtdllmlnigihpcaaWInvWords
import Derived.Test.YtdllmlnigihpcaaWGuard
import Derived.Test.YtdllmlnigihpcaaWNEv
import Derived.Test.YtdllmlnigihpcaaWMore
namespace Go.Proofs.Ytdllmlnigihpcaa.XFnTurned
open Go.RowKit Go.Proofs.YtdllmlnigihpcaaW.PrintWords Go.Proofs.YtdllmlnigihpcaaW.PrintLast Go.Proofs.YtdllmlnigihpcaaW.PrintMore
attribute [local go_sem] max2_int min2_int max_two min_two max_three min_three max_four min_four   -- for this text's walks alone
set_option linter.unusedVariables false
set_option linter.unusedSimpArgs false



def errW : Option Int → Value
  | none => .nilIface
  | some c => .iface 0 (.int .i64 c)
theorem errW_none : errW none = .nilIface := rfl
theorem errW_some (c : Int) : errW (some c) = .iface 0 (.int .i64 c) := rfl

theorem info3 : (Try.prog.info? 3).map (fun i => (i.zero, i.size, i.bytes)) = some (some (.int .i64 0), 1, 8) := by kernel_rfl
theorem info5 : (Try.prog.info? 5).map (fun i => (i.zero, i.size, i.bytes)) = some (some (.int .u8 0), 1, 1) := by kernel_rfl
-- the values' own types

end Go.Proofs.Ytdllmlnigihpcaa.XFnTurned
