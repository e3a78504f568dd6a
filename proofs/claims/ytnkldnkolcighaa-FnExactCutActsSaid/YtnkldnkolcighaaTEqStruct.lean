/- Cut down by a program of this session (trim.py) from what the print wrote: what this claim does not use is left out. -/
import Derived.Test.YtnkldnkolcighaaTWords
import Derived.Laws.StructEq
namespace Go.Proofs.YtnkldnkolcighaaT.PrintWords
open Go.RowKit
section
variable {P : Program} {d : Nat} {xs ys : Array Value} {f : Field} {fs : List Field} {a b : Value} {r s : Bool} {w : World}
end
end Go.Proofs.YtnkldnkolcighaaT.PrintWords
