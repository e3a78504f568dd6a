/- What the functions of a law compute, and that their calls compute it: written by a program of this session (xprint.py), which turns the kit print at a few places. -/
import Derived.Test.YtfagleffamhimaaProg
import Derived.Test.YtfagleffamhimaaWf
import Derived.Below
import Derived.Deep.Draws
import Derived.Deep.AppendLies
import Derived.Maps.AppendAt
import Derived.OwnWalk
import Derived.Laws.BytesArg
import Derived.Laws.MakeOwn
import Derived.Laws.OwnMore
import Derived.Deep.OwnRows
import Derived.Tactics
import Derived.Lib.ConvBytes
import Derived.Laws.Slices
import Derived.WalkKit
import Derived.KernelRfl
import Derived.RowKit3
import Derived.Deep.LoopGhost
import Derived.Deep.QuietTactic
import Derived.BigQuiet
import Derived.WideLaws
import Derived.Deep.DeepCutAuto
import Derived.Deep.CutBlock
import Derived.Deep.RegionHeld3
import Derived.Laws.Rows
import Derived.Lib.AppendStr
import Derived.ArgAppend
import Derived.Laws.IdiomCopy
import Derived.OrdersHeld
import Derived.Laws.BitsLemmas
import Derived.RowKit
import Derived.Test.YtfagleffamhimaaXW
import Derived.Lib.Bytealg
import Derived.Test.YtfagleffamhimaaWWords
import Derived.Test.YtfagleffamhimaaWLast
import Derived.Test.YtfagleffamhimaaWTab
import Derived.Test.YtfagleffamhimaaWFour
import Derived.Test.YtfagleffamhimaaWQPut
import Derived.Test.YtfagleffamhimaaWApart
import Derived.Test.YtfagleffamhimaaWArr
import Derived.Test.YtfagleffamhimaaWZeros
import Derived.Test.YtfagleffamhimaaWFoot
import Derived.Test.YtfagleffamhimaaWKept
import Derived.Test.YtfagleffamhimaaWShare
import Derived.Test.YtfagleffamhimaaWN
import Derived.Test.YtfagleffamhimaaWFootNe
import Derived.Test.YtfagleffamhimaaWAt
import Derived.Test.YtfagleffamhimaaWEqStruct
import Derived.Test.YtfagleffamhimaaWRepsOne
import Derived.Test.YtfagleffamhimaaWInv
import Derived.Test.YtfagleffamhimaaWInvWords
import Derived.Test.YtfagleffamhimaaWGuard
import Derived.Test.YtfagleffamhimaaWNEv
import Derived.Test.YtfagleffamhimaaWMore
namespace Go.Proofs.Ytfagleffamhimaa.XFnExactUnhex
open Go.RowKit Go.Proofs.YtfagleffamhimaaW.PrintWords Go.Proofs.YtfagleffamhimaaW.PrintLast Go.Proofs.YtfagleffamhimaaW.PrintMore
attribute [local go_sem] max2_int min2_int max_two min_two max_three min_three max_four min_four   -- for this text's walks alone
set_option linter.unusedVariables false
set_option linter.unusedSimpArgs false



def errW : Option Int → Value
  | none => .nilIface
  | some c => .iface 0 (.int .i64 c)
theorem errW_none : errW none = .nilIface := rfl
theorem errW_some (c : Int) : errW (some c) = .iface 0 (.int .i64 c) := rfl

theorem info5 : (Try.prog.info? 5).map (fun i => (i.zero, i.size, i.bytes)) = some (some (.int .u8 0), 1, 1) := by kernel_rfl
-- the values' own types

end Go.Proofs.Ytfagleffamhimaa.XFnExactUnhex
