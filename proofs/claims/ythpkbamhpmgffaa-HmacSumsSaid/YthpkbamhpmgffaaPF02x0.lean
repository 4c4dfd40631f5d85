/- By a program of this session (wip/tool/pp.py): plain Lean functions of the Go functions that this family of laws uses, the walks that the Go code comes to their answers, and the row of the law. No condition beside those that the row itself gives. -/
import Derived.Test.YthpkbamhpmgffaaProg
import Derived.Below
import Derived.Deep.Draws
import Derived.Deep.AppendLies
import Derived.Maps.AppendAt
import Derived.OwnWalk
import Derived.Laws.BytesArg
import Derived.Laws.MakeOwn
import Derived.Laws.OwnMore
import Derived.Deep.OwnRows
import Derived.Tactics
import Derived.Lib.ConvBytes
import Derived.Laws.Slices
import Derived.WalkKit
import Derived.KernelRfl
import Derived.RowKit3
import Derived.Deep.LoopGhost
import Derived.Deep.QuietTactic
import Derived.BigQuiet
import Derived.WideLaws
import Derived.Deep.DeepCutAuto
import Derived.Deep.CutBlock
import Derived.Deep.RegionHeld3
import Derived.Laws.Rows
import Derived.Lib.AppendStr
import Derived.ArgAppend
import Derived.Laws.IdiomCopy
import Derived.OrdersHeld
import Derived.Laws.BitsLemmas
import Derived.RowKit
import Derived.Test.YthpkbamhpmgffaaHand
import Derived.Test.YthpkbamhpmgffaaWWords
import Derived.Test.YthpkbamhpmgffaaWLast
import Derived.Test.YthpkbamhpmgffaaWTab
import Derived.Test.YthpkbamhpmgffaaWFour
import Derived.Test.YthpkbamhpmgffaaWQPut
import Derived.Test.YthpkbamhpmgffaaWApart
import Derived.Test.YthpkbamhpmgffaaWArr
import Derived.Test.YthpkbamhpmgffaaWZeros
import Derived.Test.YthpkbamhpmgffaaWFoot
import Derived.Test.YthpkbamhpmgffaaWKept
import Derived.Test.YthpkbamhpmgffaaWShare
import Derived.Test.YthpkbamhpmgffaaWN
import Derived.Test.YthpkbamhpmgffaaWFootNe
import Derived.Test.YthpkbamhpmgffaaWAt
import Derived.Test.YthpkbamhpmgffaaWEqStruct
import Derived.Test.YthpkbamhpmgffaaWRepsOne
import Derived.Test.YthpkbamhpmgffaaWInv
import Derived.Test.YthpkbamhpmgffaaWInvWords
import Derived.Test.YthpkbamhpmgffaaWGuard
import Derived.Test.YthpkbamhpmgffaaWNEv
import Derived.Test.YthpkbamhpmgffaaWMore
namespace Go.Proofs.Ythpkbamhpmgffaa.PF02
open Go.RowKit Go.Proofs.YthpkbamhpmgffaaW.Hand Go.Proofs.YthpkbamhpmgffaaW.PrintWords Go.Proofs.YthpkbamhpmgffaaW.PrintLast Go.Proofs.YthpkbamhpmgffaaW.PrintMore
attribute [local go_sem] max2_int min2_int max_two min_two max_three min_three max_four min_four   -- for this text's walks alone
set_option linter.unusedVariables false
set_option linter.unusedSimpArgs false



def errW : Option Int → Value
 | none => .nilIface
 | some c => .iface 0 (.int .i64 c)
theorem errW_none : errW none = .nilIface := rfl
theorem errW_some (c : Int) : errW (some c) = .iface 0 (.int .i64 c) := rfl
def ptrW (b : Bool) (g : Nat) : Value := if b = true then .pointer (some ⟨g, 0, none⟩) else .pointer none
theorem ptrW_true (g : Nat) : ptrW true g = .pointer (some ⟨g, 0, none⟩) := rfl
theorem ptrW_false (g : Nat) : ptrW false g = .pointer none := rfl

theorem info5 : (Try.prog.info? 5).map (fun i => (i.zero, i.size, i.bytes)) = some (some (.int .u8 0), 1, 1) := by kernel_rfl
theorem info22 : (Try.prog.info? 22).map (fun i => (i.zero, i.size, i.bytes)) = some (some (.int .u32 0), 1, 4) := by kernel_rfl
-- the values' own types

end Go.Proofs.Ythpkbamhpmgffaa.PF02
