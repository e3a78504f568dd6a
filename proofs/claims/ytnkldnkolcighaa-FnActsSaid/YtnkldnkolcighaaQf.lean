/- Cut down by a program of this session (trim.py) from what the print wrote: what this claim does not use is left out. -/
import Derived.Test.YtnkldnkolcighaaQMore
set_option linter.unusedVariables false
namespace Go.Proofs.Ytnkldnkolcighaa.Wide
open Go.RowKit
end Go.Proofs.Ytnkldnkolcighaa.Wide
