/- What the functions of a law compute, and that their calls compute it: written by a program of this session (xprint.py), which turns the kit print at a few places. -/
import Derived.Test.YtfagleffamhimaaDoorProg
import Derived.Test.YtfagleffamhimaaDoorWf
import Derived.Below
import Derived.Deep.Draws
import Derived.Deep.AppendLies
import Derived.Maps.AppendAt
import Derived.OwnWalk
import Derived.Laws.BytesArg
import Derived.Laws.MakeOwn
import Derived.Laws.OwnMore
import Derived.Deep.OwnRows
import Derived.Tactics
import Derived.Lib.ConvBytes
import Derived.Laws.Slices
import Derived.WalkKit
import Derived.KernelRfl
import Derived.RowKit3
import Derived.Deep.LoopGhost
import Derived.Deep.QuietTactic
import Derived.BigQuiet
import Derived.WideLaws
import Derived.Deep.DeepCutAuto
import Derived.Deep.CutBlock
import Derived.Deep.RegionHeld3
import Derived.Laws.Rows
import Derived.Lib.AppendStr
import Derived.ArgAppend
import Derived.Laws.IdiomCopy
import Derived.OrdersHeld
import Derived.Laws.BitsLemmas
import Derived.RowKit
import Derived.Test.YtfagleffamhimaaDoorXW
import Derived.Test.YtfagleffamhimaaDoorShelf
import Derived.Lib.AppendIntMem
import Derived.Sort.Grow
import Derived.Test.YtfagleffamhimaaDoorWWords
import Derived.Test.YtfagleffamhimaaDoorWLast
import Derived.Test.YtfagleffamhimaaDoorWTab
import Derived.Test.YtfagleffamhimaaDoorWFour
import Derived.Test.YtfagleffamhimaaDoorWQPut
import Derived.Test.YtfagleffamhimaaDoorWApart
import Derived.Test.YtfagleffamhimaaDoorWArr
import Derived.Test.YtfagleffamhimaaDoorWZeros
import Derived.Test.YtfagleffamhimaaDoorWFoot
import Derived.Test.YtfagleffamhimaaDoorWKept
import Derived.Test.YtfagleffamhimaaDoorWShare
import Derived.Test.YtfagleffamhimaaDoorWN
import Derived.Test.YtfagleffamhimaaDoorWFootNe
import Derived.Test.YtfagleffamhimaaDoorWAt
import Derived.Test.YtfagleffamhimaaDoorWEqStruct
import Derived.Test.YtfagleffamhimaaDoorWRepsOne
import Derived.Test.YtfagleffamhimaaDoorWInv
import Derived.Test.YtfagleffamhimaaDoorWInvWords
import Derived.Test.YtfagleffamhimaaDoorWGuard
import Derived.Test.YtfagleffamhimaaDoorWNEv
import Derived.Test.YtfagleffamhimaaDoorWMore
namespace Go.Proofs.YtfagleffamhimaaDoor.XFnExactDecimal
open Go.RowKit Go.Proofs.YtfagleffamhimaaDoorW.PrintWords Go.Proofs.YtfagleffamhimaaDoorW.PrintLast Go.Proofs.YtfagleffamhimaaDoorW.PrintMore
attribute [local go_sem] max2_int min2_int max_two min_two max_three min_three max_four min_four   -- for this text's walks alone
set_option linter.unusedVariables false
set_option linter.unusedSimpArgs false



def errW : Option Int → Value
  | none => .nilIface
  | some c => .iface 0 (.int .i64 c)
theorem errW_none : errW none = .nilIface := rfl
theorem errW_some (c : Int) : errW (some c) = .iface 0 (.int .i64 c) := rfl

theorem info5 : (Tryd.prog.info? 5).map (fun i => (i.zero, i.size, i.bytes)) = some (some (.int .u8 0), 1, 1) := by kernel_rfl
-- the values' own types

end Go.Proofs.YtfagleffamhimaaDoor.XFnExactDecimal
