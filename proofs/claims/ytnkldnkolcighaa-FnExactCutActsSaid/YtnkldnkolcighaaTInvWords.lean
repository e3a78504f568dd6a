/- Cut down by a program of this session (trim.py) from what the print wrote: what this claim does not use is left out. -/
import Derived.Test.YtnkldnkolcighaaTInv
import Derived.Test.YtnkldnkolcighaaTFootNe
namespace Go.Proofs.YtnkldnkolcighaaT.PrintWords
open Go.RowKit
end Go.Proofs.YtnkldnkolcighaaT.PrintWords
namespace Go.Proofs.YtnkldnkolcighaaT.PrintLast
section
variable {ops : Array Oper} {a : Act} {o og : Oper} {g : Nat} {t : Tmp} {u : Bool}
end
end Go.Proofs.YtnkldnkolcighaaT.PrintLast
