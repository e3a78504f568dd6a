/- What holds of whatever reads as data: whole numbers within their kind, texts and lists within the greatest length. -/
import Derived.Test.YtdllmlnigihpcaaWMore
set_option linter.unusedVariables false
namespace Go.Proofs.Ytdllmlnigihpcaa.Wide
open Go.RowKit
def WfInt (k : IntKind) (n : Int) : Prop := (Lit.int k n).wf = true
def WfStr (s : ByteArray) : Prop := s.size ≤ maxLen
def WfBool (_ : Bool) : Prop := True
def WfList {α : Type} (W : α → Prop) (l : List α) : Prop := l.length ≤ maxLen ∧ ∀ y ∈ l, W y
end Go.Proofs.Ytdllmlnigihpcaa.Wide
