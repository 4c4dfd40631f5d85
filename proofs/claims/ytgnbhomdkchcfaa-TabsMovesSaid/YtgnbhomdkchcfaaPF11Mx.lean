/- By a program of this session (wip/tool/pp.py): plain Lean functions of the Go functions that this family of laws uses, the walks that the Go code comes to their answers, and the row of the law. No condition beside those that the row itself gives. -/
import Derived.Test.YtgnbhomdkchcfaaPF11Mx0
import Derived.Test.YtgnbhomdkchcfaaPF11Mx1
import Derived.Test.YtgnbhomdkchcfaaPF11Mx2
import Derived.Test.YtgnbhomdkchcfaaPF11Mx3
import Derived.Test.YtgnbhomdkchcfaaPF11Mx4
import Derived.Test.YtgnbhomdkchcfaaPF11Mx5
import Derived.Test.YtgnbhomdkchcfaaPF11Mx6
namespace Go.Proofs.Ytgnbhomdkchcfaa.PF11M
open Go.RowKit Go.Proofs.YtgnbhomdkchcfaaW.Hand Go.Proofs.YtgnbhomdkchcfaaW.PrintWords Go.Proofs.YtgnbhomdkchcfaaW.PrintLast Go.Proofs.YtgnbhomdkchcfaaW.PrintMore
attribute [local go_sem] max2_int min2_int max_two min_two max_three min_three max_four min_four   -- for this text's walks alone
set_option linter.unusedVariables false
set_option linter.unusedSimpArgs false

end Go.Proofs.Ytgnbhomdkchcfaa.PF11M
