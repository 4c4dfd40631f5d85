/- By a program of this session (wip/tool/pp.py): plain Lean functions of the Go functions that this family of laws uses, the walks that the Go code comes to their answers, and the row of the law. No condition beside those that the row itself gives. -/
import Derived.Test.YtkckojgjkmcokaaProg
import Derived.Below
import Derived.Deep.Draws
import Derived.Deep.AppendLies
import Derived.Maps.AppendAt
import Derived.OwnWalk
import Derived.Laws.BytesArg
import Derived.Laws.MakeOwn
import Derived.Laws.OwnMore
import Derived.Deep.OwnRows
import Derived.Tactics
import Derived.Lib.ConvBytes
import Derived.Laws.Slices
import Derived.WalkKit
import Derived.KernelRfl
import Derived.RowKit3
import Derived.Deep.LoopGhost
import Derived.Deep.QuietTactic
import Derived.BigQuiet
import Derived.WideLaws
import Derived.Deep.DeepCutAuto
import Derived.Deep.CutBlock
import Derived.Deep.RegionHeld3
import Derived.Laws.Rows
import Derived.Lib.AppendStr
import Derived.ArgAppend
import Derived.Laws.IdiomCopy
import Derived.OrdersHeld
import Derived.Laws.BitsLemmas
import Derived.RowKit
import Derived.Test.YtkckojgjkmcokaaHand
import Derived.Test.YtkckojgjkmcokaaWWords
import Derived.Test.YtkckojgjkmcokaaWLast
import Derived.Test.YtkckojgjkmcokaaWTab
import Derived.Test.YtkckojgjkmcokaaWFour
import Derived.Test.YtkckojgjkmcokaaWQPut
import Derived.Test.YtkckojgjkmcokaaWApart
import Derived.Test.YtkckojgjkmcokaaWArr
import Derived.Test.YtkckojgjkmcokaaWZeros
import Derived.Test.YtkckojgjkmcokaaWFoot
import Derived.Test.YtkckojgjkmcokaaWKept
import Derived.Test.YtkckojgjkmcokaaWShare
import Derived.Test.YtkckojgjkmcokaaWN
import Derived.Test.YtkckojgjkmcokaaWFootNe
import Derived.Test.YtkckojgjkmcokaaWAt
import Derived.Test.YtkckojgjkmcokaaWEqStruct
import Derived.Test.YtkckojgjkmcokaaWRepsOne
import Derived.Test.YtkckojgjkmcokaaWInv
import Derived.Test.YtkckojgjkmcokaaWInvWords
import Derived.Test.YtkckojgjkmcokaaWGuard
import Derived.Test.YtkckojgjkmcokaaWNEv
import Derived.Test.YtkckojgjkmcokaaWMore
namespace Go.Proofs.Ytkckojgjkmcokaa.PF08T
open Go.RowKit Go.Proofs.YtkckojgjkmcokaaW.Hand Go.Proofs.YtkckojgjkmcokaaW.PrintWords Go.Proofs.YtkckojgjkmcokaaW.PrintLast Go.Proofs.YtkckojgjkmcokaaW.PrintMore
attribute [local go_sem] max2_int min2_int max_two min_two max_three min_three max_four min_four   -- for this text's walks alone
set_option linter.unusedVariables false
set_option linter.unusedSimpArgs false



def errW : Option Int → Value
  | none => .nilIface
  | some c => .iface 0 (.int .i64 c)
theorem errW_none : errW none = .nilIface := rfl
theorem errW_some (c : Int) : errW (some c) = .iface 0 (.int .i64 c) := rfl
def ptrW (b : Bool) (g : Nat) : Value := if b = true then .pointer (some ⟨g, 0, none⟩) else .pointer none
theorem ptrW_true (g : Nat) : ptrW true g = .pointer (some ⟨g, 0, none⟩) := rfl
theorem ptrW_false (g : Nat) : ptrW false g = .pointer none := rfl

theorem info3 : (Try.prog.info? 3).map (fun i => (i.zero, i.size, i.bytes)) = some (some (.int .i64 0), 1, 8) := by kernel_rfl
theorem info5 : (Try.prog.info? 5).map (fun i => (i.zero, i.size, i.bytes)) = some (some (.int .u8 0), 1, 1) := by kernel_rfl
theorem info21 : (Try.prog.info? 21).map (fun i => (i.zero, i.size, i.bytes)) = some (some (.int .i32 0), 1, 4) := by kernel_rfl
-- the values' own types

end Go.Proofs.Ytkckojgjkmcokaa.PF08T
