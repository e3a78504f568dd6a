/- Cut down by a program of this session (trim.py) from what the print wrote: what this claim does not use is left out. -/
import Derived.Test.YtcpcphdhaboekaaTInv
import Derived.Test.YtcpcphdhaboekaaTFootNe
namespace Go.Proofs.YtcpcphdhaboekaaT.PrintWords
open Go.RowKit
end Go.Proofs.YtcpcphdhaboekaaT.PrintWords
namespace Go.Proofs.YtcpcphdhaboekaaT.PrintLast
section
variable {ops : Array Oper} {a : Act} {o og : Oper} {g : Nat} {t : Tmp} {u : Bool}
end
end Go.Proofs.YtcpcphdhaboekaaT.PrintLast
