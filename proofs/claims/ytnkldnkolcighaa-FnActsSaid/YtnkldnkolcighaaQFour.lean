/- Cut down by a program of this session (trim.py) from what the print wrote: what this claim does not use is left out. -/
import Derived.Test.YtnkldnkolcighaaQTab
namespace Go.Proofs.YtnkldnkolcighaaQ.PrintLast
section
variable {P : Program} {ops : Array Oper} {Q : Exit → Act → World → Prop} {md : Region.Mode} {S : World → Prop} {ds : List Nat} {T : Bool × List (List Nat × List Nat)}
end
end Go.Proofs.YtnkldnkolcighaaQ.PrintLast
