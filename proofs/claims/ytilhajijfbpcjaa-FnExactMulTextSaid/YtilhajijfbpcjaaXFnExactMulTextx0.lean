/- What the functions of a law compute, and that their calls compute it: written by a program of this session (xprint.py), which turns the kit print at a few places. -/
import Derived.Test.YtilhajijfbpcjaaProg
import Derived.Test.YtilhajijfbpcjaaWf
import Derived.Below
import Derived.Deep.Draws
import Derived.Deep.AppendLies
import Derived.Maps.AppendAt
import Derived.OwnWalk
import Derived.Laws.BytesArg
import Derived.Laws.MakeOwn
import Derived.Laws.OwnMore
import Derived.Deep.OwnRows
import Derived.Tactics
import Derived.Lib.ConvBytes
import Derived.Laws.Slices
import Derived.WalkKit
import Derived.KernelRfl
import Derived.RowKit3
import Derived.Deep.LoopGhost
import Derived.Deep.QuietTactic
import Derived.BigQuiet
import Derived.WideLaws
import Derived.Deep.DeepCutAuto
import Derived.Deep.CutBlock
import Derived.Deep.RegionHeld3
import Derived.Laws.Rows
import Derived.Lib.AppendStr
import Derived.ArgAppend
import Derived.Laws.IdiomCopy
import Derived.OrdersHeld
import Derived.Laws.BitsLemmas
import Derived.RowKit
import Derived.Test.YtilhajijfbpcjaaXW
import Derived.Test.YtilhajijfbpcjaaWWords
import Derived.Test.YtilhajijfbpcjaaWLast
import Derived.Test.YtilhajijfbpcjaaWTab
import Derived.Test.YtilhajijfbpcjaaWFour
import Derived.Test.YtilhajijfbpcjaaWQPut
import Derived.Test.YtilhajijfbpcjaaWApart
import Derived.Test.YtilhajijfbpcjaaWArr
import Derived.Test.YtilhajijfbpcjaaWZeros
import Derived.Test.YtilhajijfbpcjaaWFoot
import Derived.Test.YtilhajijfbpcjaaWKept
import Derived.Test.YtilhajijfbpcjaaWShare
import Derived.Test.YtilhajijfbpcjaaWN
import Derived.Test.YtilhajijfbpcjaaWFootNe
import Derived.Test.YtilhajijfbpcjaaWAt
import Derived.Test.YtilhajijfbpcjaaWEqStruct
import Derived.Test.YtilhajijfbpcjaaWRepsOne
import Derived.Test.YtilhajijfbpcjaaWInv
import Derived.Test.YtilhajijfbpcjaaWInvWords
import Derived.Test.YtilhajijfbpcjaaWGuard
import Derived.Test.YtilhajijfbpcjaaWNEv
import Derived.Test.YtilhajijfbpcjaaWMore
namespace Go.Proofs.Ytilhajijfbpcjaa.XFnExactMulText
open Go.RowKit Go.Proofs.YtilhajijfbpcjaaW.PrintWords Go.Proofs.YtilhajijfbpcjaaW.PrintLast Go.Proofs.YtilhajijfbpcjaaW.PrintMore
attribute [local go_sem] max2_int min2_int max_two min_two max_three min_three max_four min_four   -- for this text's walks alone
set_option linter.unusedVariables false
set_option linter.unusedSimpArgs false



def errW : Option Int → Value
  | none => .nilIface
  | some c => .iface 0 (.int .i64 c)
theorem errW_none : errW none = .nilIface := rfl
theorem errW_some (c : Int) : errW (some c) = .iface 0 (.int .i64 c) := rfl

theorem info5 : (Try.prog.info? 5).map (fun i => (i.zero, i.size, i.bytes)) = some (some (.int .u8 0), 1, 1) := by kernel_rfl
-- the values' own types

end Go.Proofs.Ytilhajijfbpcjaa.XFnExactMulText
