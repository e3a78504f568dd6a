/- The program's constants are the document's. -/
import Derived.Test.YtclgljghmkgofaaPFnExactConstantsx1
set_option linter.unusedVariables false
set_option linter.unusedSimpArgs false
namespace Go.Proofs.Ytclgljghmkgofaa.Pure
open Go.RowKit Go.Proofs.Ytclgljghmkgofaa.PFnExactConstants Go.Proofs.YtclgljghmkgofaaW.PrintWords Go.Proofs.YtclgljghmkgofaaW.PrintLast

theorem FnExactConstants : laws_FnExactConstants.Pure := rfl


end Go.Proofs.Ytclgljghmkgofaa.Pure
