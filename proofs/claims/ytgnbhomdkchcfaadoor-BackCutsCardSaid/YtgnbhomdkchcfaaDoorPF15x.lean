/- By a program of this session (wip/tool/pp.py): plain Lean functions of the Go functions that this family of laws uses, the walks that the Go code comes to their answers, and the row of the law. No condition beside those that the row itself gives. -/
import Derived.Test.YtgnbhomdkchcfaaDoorPF15x0
import Derived.Test.YtgnbhomdkchcfaaDoorPF15x1
import Derived.Test.YtgnbhomdkchcfaaDoorPF15x2
import Derived.Test.YtgnbhomdkchcfaaDoorPF15x3
import Derived.Test.YtgnbhomdkchcfaaDoorPF15x4
import Derived.Test.YtgnbhomdkchcfaaDoorPF15x5
namespace Go.Proofs.YtgnbhomdkchcfaaDoor.PF15
open Go.RowKit Go.Proofs.YtgnbhomdkchcfaaDoorW.Hand Go.Proofs.YtgnbhomdkchcfaaDoorW.PrintWords Go.Proofs.YtgnbhomdkchcfaaDoorW.PrintLast Go.Proofs.YtgnbhomdkchcfaaDoorW.PrintMore
attribute [local go_sem] max2_int min2_int max_two min_two max_three min_three max_four min_four   -- for this text's walks alone
set_option linter.unusedVariables false
set_option linter.unusedSimpArgs false

end Go.Proofs.YtgnbhomdkchcfaaDoor.PF15
