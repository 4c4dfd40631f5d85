/- By a program of this session (wip/tool/pp.py): plain Lean functions of the Go functions that this family of laws uses, the walks that the Go code comes to their answers, and the row of the law. No condition beside those that the row itself gives. -/
import Derived.Test.YtkckojgjkmcokaaDoorPF09Tx0
import Derived.Test.YtkckojgjkmcokaaDoorPF09Tx1
namespace Go.Proofs.YtkckojgjkmcokaaDoor.PF09T
open Go.RowKit Go.Proofs.YtkckojgjkmcokaaDoorW.Hand Go.Proofs.YtkckojgjkmcokaaDoorW.PrintWords Go.Proofs.YtkckojgjkmcokaaDoorW.PrintLast Go.Proofs.YtkckojgjkmcokaaDoorW.PrintMore
attribute [local go_sem] max2_int min2_int max_two min_two max_three min_three max_four min_four   -- for this text's walks alone
set_option linter.unusedVariables false
set_option linter.unusedSimpArgs false

theorem eqA35 (d : Nat) (w : World) (x0 y0 : Int) (x1 y1 : Int) (x2 y2 : Int) (x3 y3 : Int) (x4 y4 : Int) :
    (Op.equalIn (d + 4) 35 (.agg #[.int .i64 x0, .int .i32 x1, .int .i64 x2, .int .i64 x3, .int .i64 x4]) (.agg #[.int .i64 y0, .int .i32 y1, .int .i64 y2, .int .i64 y3, .int .i64 y4])).run Tryd.prog w = .ok (x0 == y0 && ((x1 == y1 && ((x2 == y2 && (x3 == y3 && (x4 == y4))))))) w := by
  refine eqA_of Tryd.underlying35 (by kernel_rfl) ?_
  refine eqf_cons (by rfl) (by go_simp; rfl) (by go_simp; rfl) (by go_simp) ?_
  exact eqf_last (by rfl) (by go_simp) (by go_simp) (eqA27 (d + 0) w _ _ _ _ _ _ _ _)
end Go.Proofs.YtkckojgjkmcokaaDoor.PF09T
