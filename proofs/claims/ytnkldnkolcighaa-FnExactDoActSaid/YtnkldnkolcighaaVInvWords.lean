/- Cut down by a program of this session (trim.py) from what the print wrote: what this claim does not use is left out. -/
import Derived.Test.YtnkldnkolcighaaVInv
import Derived.Test.YtnkldnkolcighaaVFootNe
namespace Go.Proofs.YtnkldnkolcighaaV.PrintWords
open Go.RowKit
end Go.Proofs.YtnkldnkolcighaaV.PrintWords
namespace Go.Proofs.YtnkldnkolcighaaV.PrintLast
section
variable {ops : Array Oper} {a : Act} {o og : Oper} {g : Nat} {t : Tmp} {u : Bool}
end
end Go.Proofs.YtnkldnkolcighaaV.PrintLast
