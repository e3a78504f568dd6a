/- Cut down by a program of this session (trim.py) from what the print wrote: what this claim does not use is left out. -/
import Derived.Test.YtcpcphdhaboekaaUMore
set_option linter.unusedVariables false
namespace Go.Proofs.Ytcpcphdhaboekaa.Wide
open Go.RowKit
def WfStr (s : ByteArray) : Prop := s.size ≤ maxLen
def WfBool (_ : Bool) : Prop := True
def WfList {α : Type} (W : α → Prop) (l : List α) : Prop := l.length ≤ maxLen ∧ ∀ y ∈ l, W y
end Go.Proofs.Ytcpcphdhaboekaa.Wide
