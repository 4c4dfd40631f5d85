/- By a program of this session (wip/tool/pp.py): plain Lean functions of the Go functions that this family of laws uses, the walks that the Go code comes to their answers, and the row of the law. No condition beside those that the row itself gives. -/
import Derived.Test.YthcpfkkddfgamaaProg
import Derived.Below
import Derived.Deep.Draws
import Derived.Deep.AppendLies
import Derived.Maps.AppendAt
import Derived.OwnWalk
import Derived.Laws.BytesArg
import Derived.Laws.MakeOwn
import Derived.Laws.OwnMore
import Derived.Deep.OwnRows
import Derived.Tactics
import Derived.Lib.ConvBytes
import Derived.Laws.Slices
import Derived.WalkKit
import Derived.KernelRfl
import Derived.RowKit3
import Derived.Deep.LoopGhost
import Derived.Deep.QuietTactic
import Derived.BigQuiet
import Derived.WideLaws
import Derived.Deep.DeepCutAuto
import Derived.Deep.CutBlock
import Derived.Deep.RegionHeld3
import Derived.Laws.Rows
import Derived.Lib.AppendStr
import Derived.ArgAppend
import Derived.Laws.IdiomCopy
import Derived.OrdersHeld
import Derived.Laws.BitsLemmas
import Derived.RowKit
import Derived.Test.YthcpfkkddfgamaaHand
import Derived.Test.YthcpfkkddfgamaaWWords
import Derived.Test.YthcpfkkddfgamaaWLast
import Derived.Test.YthcpfkkddfgamaaWTab
import Derived.Test.YthcpfkkddfgamaaWFour
import Derived.Test.YthcpfkkddfgamaaWQPut
import Derived.Test.YthcpfkkddfgamaaWApart
import Derived.Test.YthcpfkkddfgamaaWArr
import Derived.Test.YthcpfkkddfgamaaWZeros
import Derived.Test.YthcpfkkddfgamaaWFoot
import Derived.Test.YthcpfkkddfgamaaWKept
import Derived.Test.YthcpfkkddfgamaaWShare
import Derived.Test.YthcpfkkddfgamaaWN
import Derived.Test.YthcpfkkddfgamaaWFootNe
import Derived.Test.YthcpfkkddfgamaaWAt
import Derived.Test.YthcpfkkddfgamaaWEqStruct
import Derived.Test.YthcpfkkddfgamaaWRepsOne
import Derived.Test.YthcpfkkddfgamaaWInv
import Derived.Test.YthcpfkkddfgamaaWInvWords
import Derived.Test.YthcpfkkddfgamaaWGuard
import Derived.Test.YthcpfkkddfgamaaWNEv
import Derived.Test.YthcpfkkddfgamaaWMore
namespace Go.Proofs.Ythcpfkkddfgamaa.PF06C
open Go.RowKit Go.Proofs.YthcpfkkddfgamaaW.Hand Go.Proofs.YthcpfkkddfgamaaW.PrintWords Go.Proofs.YthcpfkkddfgamaaW.PrintLast Go.Proofs.YthcpfkkddfgamaaW.PrintMore
attribute [local go_sem] max2_int min2_int max_two min_two max_three min_three max_four min_four   -- for this text's walks alone
set_option linter.unusedVariables false
set_option linter.unusedSimpArgs false



def errW : Option Int → Value
  | none => .nilIface
  | some c => .iface 0 (.int .i64 c)
theorem errW_none : errW none = .nilIface := rfl
theorem errW_some (c : Int) : errW (some c) = .iface 0 (.int .i64 c) := rfl
def ptrW (b : Bool) (g : Nat) : Value := if b = true then .pointer (some ⟨g, 0, none⟩) else .pointer none
theorem ptrW_true (g : Nat) : ptrW true g = .pointer (some ⟨g, 0, none⟩) := rfl
theorem ptrW_false (g : Nat) : ptrW false g = .pointer none := rfl

theorem info5 : (Try.prog.info? 5).map (fun i => (i.zero, i.size, i.bytes)) = some (some (.int .u8 0), 1, 1) := by kernel_rfl
-- the values' own types

end Go.Proofs.Ythcpfkkddfgamaa.PF06C
