-- Written by a program of this session out of the seat's translation; Lean checks it.
import Derived.Test.YtgaeccdkaheemaaPAllx0
import Derived.Test.YtgaeccdkaheemaaPAllx1
import Derived.Test.YtgaeccdkaheemaaPAllx2
namespace Go.Proofs.Ytgaeccdkaheemaa.PAll
open Go.RowKit Go.Proofs.YtgaeccdkaheemaaW.PrintWords Go.Proofs.YtgaeccdkaheemaaW.PrintLast Go.Proofs.YtgaeccdkaheemaaW.PrintMore
attribute [local go_sem] max2_int min2_int max_two min_two max_three min_three max_four min_four   -- for this text's walks alone
set_option linter.unusedVariables false
set_option linter.unusedSimpArgs false

end Go.Proofs.Ytgaeccdkaheemaa.PAll
