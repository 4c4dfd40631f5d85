/- By a program of this session (wip/tool/pp.py): plain Lean functions of the Go functions that this family of laws uses, the walks that the Go code comes to their answers, and the row of the law. No condition beside those that the row itself gives. -/
import Derived.Test.YtaiiegbhbadciaaProg
import Derived.Below
import Derived.Deep.Draws
import Derived.Deep.AppendLies
import Derived.Maps.AppendAt
import Derived.OwnWalk
import Derived.Laws.BytesArg
import Derived.Laws.MakeOwn
import Derived.Laws.OwnMore
import Derived.Deep.OwnRows
import Derived.Tactics
import Derived.Lib.ConvBytes
import Derived.Laws.Slices
import Derived.WalkKit
import Derived.KernelRfl
import Derived.RowKit3
import Derived.Deep.LoopGhost
import Derived.Deep.QuietTactic
import Derived.BigQuiet
import Derived.WideLaws
import Derived.Deep.DeepCutAuto
import Derived.Deep.CutBlock
import Derived.Deep.RegionHeld3
import Derived.Laws.Rows
import Derived.Lib.AppendStr
import Derived.ArgAppend
import Derived.Laws.IdiomCopy
import Derived.OrdersHeld
import Derived.Laws.BitsLemmas
import Derived.RowKit
import Derived.Test.YtaiiegbhbadciaaHand
import Derived.Test.YtaiiegbhbadciaaWWords
import Derived.Test.YtaiiegbhbadciaaWLast
import Derived.Test.YtaiiegbhbadciaaWTab
import Derived.Test.YtaiiegbhbadciaaWFour
import Derived.Test.YtaiiegbhbadciaaWQPut
import Derived.Test.YtaiiegbhbadciaaWApart
import Derived.Test.YtaiiegbhbadciaaWArr
import Derived.Test.YtaiiegbhbadciaaWZeros
import Derived.Test.YtaiiegbhbadciaaWFoot
import Derived.Test.YtaiiegbhbadciaaWKept
import Derived.Test.YtaiiegbhbadciaaWShare
import Derived.Test.YtaiiegbhbadciaaWN
import Derived.Test.YtaiiegbhbadciaaWFootNe
import Derived.Test.YtaiiegbhbadciaaWAt
import Derived.Test.YtaiiegbhbadciaaWEqStruct
import Derived.Test.YtaiiegbhbadciaaWRepsOne
import Derived.Test.YtaiiegbhbadciaaWInv
import Derived.Test.YtaiiegbhbadciaaWInvWords
import Derived.Test.YtaiiegbhbadciaaWGuard
import Derived.Test.YtaiiegbhbadciaaWNEv
import Derived.Test.YtaiiegbhbadciaaWMore
namespace Go.Proofs.Ytaiiegbhbadciaa.PF07J
open Go.RowKit Go.Proofs.YtaiiegbhbadciaaW.Hand Go.Proofs.YtaiiegbhbadciaaW.PrintWords Go.Proofs.YtaiiegbhbadciaaW.PrintLast Go.Proofs.YtaiiegbhbadciaaW.PrintMore
attribute [local go_sem] max2_int min2_int max_two min_two max_three min_three max_four min_four   -- for this text's walks alone
set_option linter.unusedVariables false
set_option linter.unusedSimpArgs false



def errW : Option Int → Value
  | none => .nilIface
  | some c => .iface 0 (.int .i64 c)
theorem errW_none : errW none = .nilIface := rfl
theorem errW_some (c : Int) : errW (some c) = .iface 0 (.int .i64 c) := rfl
def ptrW (b : Bool) (g : Nat) : Value := if b = true then .pointer (some ⟨g, 0, none⟩) else .pointer none
theorem ptrW_true (g : Nat) : ptrW true g = .pointer (some ⟨g, 0, none⟩) := rfl
theorem ptrW_false (g : Nat) : ptrW false g = .pointer none := rfl

theorem info5 : (Try.prog.info? 5).map (fun i => (i.zero, i.size, i.bytes)) = some (some (.int .u8 0), 1, 1) := by kernel_rfl
-- the values' own types

end Go.Proofs.Ytaiiegbhbadciaa.PF07J
