/- By a program of this session (wip/tool/pp.py): plain Lean functions of the Go functions that this family of laws uses, the walks that the Go code comes to their answers, and the row of the law. No condition beside those that the row itself gives. -/
import Derived.Test.YtdbfclfglpbpmaaPF25Fx0
import Derived.Test.YtdbfclfglpbpmaaPF25Fx1
import Derived.Test.YtdbfclfglpbpmaaPF25Fx2
import Derived.Test.YtdbfclfglpbpmaaPF25Fx3
import Derived.Test.YtdbfclfglpbpmaaPF25Fx4
import Derived.Test.YtdbfclfglpbpmaaPF25Fx5
import Derived.Test.YtdbfclfglpbpmaaPF25Fx6
import Derived.Test.YtdbfclfglpbpmaaPF25Fx7
import Derived.Test.YtdbfclfglpbpmaaPF25Fx8
namespace Go.Proofs.Ytdbfclfglpbpmaa.PF25F
open Go.RowKit Go.Proofs.YtdbfclfglpbpmaaW.Hand Go.Proofs.YtdbfclfglpbpmaaW.PrintWords Go.Proofs.YtdbfclfglpbpmaaW.PrintLast Go.Proofs.YtdbfclfglpbpmaaW.PrintMore
attribute [local go_sem] max2_int min2_int max_two min_two max_three min_three max_four min_four   -- for this text's walks alone
set_option linter.unusedVariables false
set_option linter.unusedSimpArgs false

end Go.Proofs.Ytdbfclfglpbpmaa.PF25F
