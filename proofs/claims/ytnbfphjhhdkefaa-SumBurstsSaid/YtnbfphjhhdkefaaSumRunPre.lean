-- Written by a program of this session out of the seat's translation; Lean checks it.
import Derived.Test.YtnbfphjhhdkefaaPAllx0
import Derived.Test.YtnbfphjhhdkefaaPAllx1
namespace Go.Proofs.Ytnbfphjhhdkefaa.PAll
open Go.RowKit Go.Proofs.YtnbfphjhhdkefaaW.PrintWords Go.Proofs.YtnbfphjhhdkefaaW.PrintLast Go.Proofs.YtnbfphjhhdkefaaW.PrintMore
attribute [local go_sem] max2_int min2_int max_two min_two max_three min_three max_four min_four   -- for this text's walks alone
set_option linter.unusedVariables false
set_option linter.unusedSimpArgs false

end Go.Proofs.Ytnbfphjhhdkefaa.PAll
