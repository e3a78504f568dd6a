/- Cut down by a program of this session (trim.py) from what the print wrote: what this claim does not use is left out. -/
import Derived.Test.YtcpcphdhaboekaaVInv
import Derived.Test.YtcpcphdhaboekaaVFootNe
namespace Go.Proofs.YtcpcphdhaboekaaV.PrintWords
open Go.RowKit
end Go.Proofs.YtcpcphdhaboekaaV.PrintWords
namespace Go.Proofs.YtcpcphdhaboekaaV.PrintLast
section
variable {ops : Array Oper} {a : Act} {o og : Oper} {g : Nat} {t : Tmp} {u : Bool}
end
end Go.Proofs.YtcpcphdhaboekaaV.PrintLast
