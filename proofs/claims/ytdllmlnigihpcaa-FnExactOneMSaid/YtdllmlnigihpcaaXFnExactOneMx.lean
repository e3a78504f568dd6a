/- What the functions of a law compute, and that their calls compute it: written by a program of this session (xprint.py), which turns the kit print at a few places. -/
import Derived.Test.YtdllmlnigihpcaaXFnExactOneMx0
import Derived.Test.YtdllmlnigihpcaaXFnExactOneMx1
import Derived.Test.YtdllmlnigihpcaaXFnExactOneMx2
namespace Go.Proofs.Ytdllmlnigihpcaa.XFnExactOneM
open Go.RowKit Go.Proofs.YtdllmlnigihpcaaW.PrintWords Go.Proofs.YtdllmlnigihpcaaW.PrintLast Go.Proofs.YtdllmlnigihpcaaW.PrintMore
attribute [local go_sem] max2_int min2_int max_two min_two max_three min_three max_four min_four   -- for this text's walks alone
set_option linter.unusedVariables false
set_option linter.unusedSimpArgs false

end Go.Proofs.Ytdllmlnigihpcaa.XFnExactOneM
