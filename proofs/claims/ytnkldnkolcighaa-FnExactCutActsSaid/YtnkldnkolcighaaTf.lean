/- Cut down by a program of this session (trim.py) from what the print wrote: what this claim does not use is left out. -/
import Derived.Test.YtnkldnkolcighaaTMore
set_option linter.unusedVariables false
namespace Go.Proofs.Ytnkldnkolcighaa.Wide
open Go.RowKit
def WfInt (k : IntKind) (n : Int) : Prop := (Lit.int k n).wf = true
def WfStr (s : ByteArray) : Prop := s.size ≤ maxLen
def WfList {α : Type} (W : α → Prop) (l : List α) : Prop := l.length ≤ maxLen ∧ ∀ y ∈ l, W y
end Go.Proofs.Ytnkldnkolcighaa.Wide
