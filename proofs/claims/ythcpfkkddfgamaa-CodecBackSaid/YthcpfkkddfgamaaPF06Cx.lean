/- By a program of this session (wip/tool/pp.py): plain Lean functions of the Go functions that this family of laws uses, the walks that the Go code comes to their answers, and the row of the law. No condition beside those that the row itself gives. -/
import Derived.Test.YthcpfkkddfgamaaPF06Cx0
import Derived.Test.YthcpfkkddfgamaaPF06Cx1
import Derived.Test.YthcpfkkddfgamaaPF06Cx2
import Derived.Test.YthcpfkkddfgamaaPF06Cx3
namespace Go.Proofs.Ythcpfkkddfgamaa.PF06C
open Go.RowKit Go.Proofs.YthcpfkkddfgamaaW.Hand Go.Proofs.YthcpfkkddfgamaaW.PrintWords Go.Proofs.YthcpfkkddfgamaaW.PrintLast Go.Proofs.YthcpfkkddfgamaaW.PrintMore
attribute [local go_sem] max2_int min2_int max_two min_two max_three min_three max_four min_four   -- for this text's walks alone
set_option linter.unusedVariables false
set_option linter.unusedSimpArgs false

end Go.Proofs.Ythcpfkkddfgamaa.PF06C
