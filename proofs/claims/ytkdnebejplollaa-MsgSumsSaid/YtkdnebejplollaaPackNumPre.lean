-- Written by a program of this session out of the seat's translation; Lean checks it.
import Derived.Test.YtkdnebejplollaaPAllx0
import Derived.Test.YtkdnebejplollaaPAllx1
import Derived.Test.YtkdnebejplollaaPAllx2
import Derived.Test.YtkdnebejplollaaPAllx3
import Derived.Test.YtkdnebejplollaaPAllx4
import Derived.Test.YtkdnebejplollaaPAllx5
import Derived.Test.YtkdnebejplollaaPAllx6
import Derived.Test.YtkdnebejplollaaPAllx7
namespace Go.Proofs.Ytkdnebejplollaa.PAll
open Go.RowKit Go.Proofs.YtkdnebejplollaaW.PrintWords Go.Proofs.YtkdnebejplollaaW.PrintLast Go.Proofs.YtkdnebejplollaaW.PrintMore
attribute [local go_sem] max2_int min2_int max_two min_two max_three min_three max_four min_four   -- for this text's walks alone
set_option linter.unusedVariables false
set_option linter.unusedSimpArgs false

end Go.Proofs.Ytkdnebejplollaa.PAll
