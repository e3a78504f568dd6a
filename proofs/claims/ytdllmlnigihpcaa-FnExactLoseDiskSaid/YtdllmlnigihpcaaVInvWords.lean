/- Cut down by a program of this session (trim.py) from what the print wrote: what this claim does not use is left out. -/
import Derived.Test.YtdllmlnigihpcaaVInv
import Derived.Test.YtdllmlnigihpcaaVFootNe
namespace Go.Proofs.YtdllmlnigihpcaaV.PrintWords
open Go.RowKit
end Go.Proofs.YtdllmlnigihpcaaV.PrintWords
namespace Go.Proofs.YtdllmlnigihpcaaV.PrintLast
section
variable {ops : Array Oper} {a : Act} {o og : Oper} {g : Nat} {t : Tmp} {u : Bool}
end
end Go.Proofs.YtdllmlnigihpcaaV.PrintLast
