/- Cut down by a program of this session (trim.py) from what the print wrote: what this claim does not use is left out. -/
import Derived.Test.YtnkldnkolcighaaUInv
import Derived.Test.YtnkldnkolcighaaUFootNe
namespace Go.Proofs.YtnkldnkolcighaaU.PrintWords
open Go.RowKit
end Go.Proofs.YtnkldnkolcighaaU.PrintWords
namespace Go.Proofs.YtnkldnkolcighaaU.PrintLast
section
variable {ops : Array Oper} {a : Act} {o og : Oper} {g : Nat} {t : Tmp} {u : Bool}
end
end Go.Proofs.YtnkldnkolcighaaU.PrintLast
