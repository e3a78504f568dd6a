/- Cut down by a program of this session (trim.py) from what the print wrote: what this claim does not use is left out. -/
import Derived.Test.YtnkldnkolcighaaQInv
import Derived.Test.YtnkldnkolcighaaQFootNe
namespace Go.Proofs.YtnkldnkolcighaaQ.PrintWords
open Go.RowKit
end Go.Proofs.YtnkldnkolcighaaQ.PrintWords
namespace Go.Proofs.YtnkldnkolcighaaQ.PrintLast
section
variable {ops : Array Oper} {a : Act} {o og : Oper} {g : Nat} {t : Tmp} {u : Bool}
end
end Go.Proofs.YtnkldnkolcighaaQ.PrintLast
