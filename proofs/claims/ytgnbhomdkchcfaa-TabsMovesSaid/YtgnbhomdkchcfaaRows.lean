/-
  No cell of these rows narrows 'for every input' (looked for: loops, veiled, ifaces, maps, wideKeys, modest, calm, conditions, laid).
  DERIVED. THE GIVEN ROWS OF THIS SEAT. 5 by the template 'for every input the law returns true; each argument reads behind the call as it read before'; 0 by the template 'total and deterministic' (their statements: YtgnbhomdkchcfaaTotals.lean).
  GIVEN WITH THE SEED: the statements are not yours to turn. If you find one false, say at which input.
  Laid BY PROGRAM, IN A SANDBOX (cutbox-rows.mjs): the forced cells as the released guide's own fill.sh prints them over the translation 9d6f4ef0a0038d0e… (all of the seat's roots in one cut). By AI agents, Wed Nov 11 2026. No macro, syntax, notation, axiom, sorry.
-/
import Derived.Test.YtgnbhomdkchcfaaChecked
import GoSem.Claim
import GoSem.ClaimJoined
import GoSem.ClaimMapViews
import Derived.JoinedTies
import Derived.KernelRfl
namespace Go.Proofs.Ytgnbhomdkchcfaa
/- THE CELL 'sum', in the pinned program and in every row, IS THE sha256 OF THE DUMP (.gsa) THAT YtgnbhomdkchcfaaProg.lean LOADS. Nothing in Lean hashes anything: it is a label: what it is worth is what the hold of that sum in a sandbox is worth. -/
noncomputable def Try.pinned : Pinned := { name := "ytgnbhomdkchcfaa", sum := "9d6f4ef0a0038d0e67fd4ae6b140d88c785ff67d4e37892f97a87d6e91b33533", checked := Try.checked }
namespace Rows
def none {H : Type} : Left H := { results := [], args := [] }

/-- 'batonlaw11.TabsRises': WHATEVER THE INPUT: true; the input reads as it did. -/
def tabsRisesSpec : ChangeSpec := { name := "tabsRises", fn := fun _ => fun
  | [d1, d2, d3] => { results := [.lit (.bool true)], args := [d1, d2, d3] }
  | _ => none }
def tabsRisesRow : OpenClaim := { program := "ytgnbhomdkchcfaa", sum := "9d6f4ef0a0038d0e67fd4ae6b140d88c785ff67d4e37892f97a87d6e91b33533", func := "baton/batonlaw11.TabsRises", spec := "tabsRises", inPlace := ["slices.overlaps[int]"], unfollowed := true, recurses := true, apart := false }
def TabsRisesSaid : Prop := tabsRisesRow.holds Try.pinned (OpenSpec.ofChange tabsRisesSpec)

/-- ITS FALSE NEIGHBOUR: 'it returns false'. Refute it at one input. -/
def tabsRisesWrong : ChangeSpec := { name := "tabsRises", fn := fun _ => fun
  | [d1, d2, d3] => { results := [.lit (.bool false)], args := [d1, d2, d3] }
  | _ => none }
def TabsRisesWrongFalsely : Prop := tabsRisesRow.holds Try.pinned (OpenSpec.ofChange tabsRisesWrong)

/-- 'batonlaw11.TabsPlays': WHATEVER THE INPUT: true; the input reads as it did. -/
def tabsPlaysSpec : ChangeSpec := { name := "tabsPlays", fn := fun _ => fun
  | [d1, d2] => { results := [.lit (.bool true)], args := [d1, d2] }
  | _ => none }
def tabsPlaysRow : OpenClaim := { program := "ytgnbhomdkchcfaa", sum := "9d6f4ef0a0038d0e67fd4ae6b140d88c785ff67d4e37892f97a87d6e91b33533", func := "baton/batonlaw11.TabsPlays", spec := "tabsPlays", inPlace := ["slices.overlaps[int]"], unfollowed := true, recurses := true, apart := false }
def TabsPlaysSaid : Prop := tabsPlaysRow.holds Try.pinned (OpenSpec.ofChange tabsPlaysSpec)

/-- ITS FALSE NEIGHBOUR: 'it returns false'. Refute it at one input. -/
def tabsPlaysWrong : ChangeSpec := { name := "tabsPlays", fn := fun _ => fun
  | [d1, d2] => { results := [.lit (.bool false)], args := [d1, d2] }
  | _ => none }
def TabsPlaysWrongFalsely : Prop := tabsPlaysRow.holds Try.pinned (OpenSpec.ofChange tabsPlaysWrong)

/-- 'batonlaw11.TabsMoves': WHATEVER THE INPUT: true; the input reads as it did. -/
def tabsMovesSpec : ChangeSpec := { name := "tabsMoves", fn := fun _ => fun
  | [d1, d2, d3] => { results := [.lit (.bool true)], args := [d1, d2, d3] }
  | _ => none }
def tabsMovesRow : OpenClaim := { program := "ytgnbhomdkchcfaa", sum := "9d6f4ef0a0038d0e67fd4ae6b140d88c785ff67d4e37892f97a87d6e91b33533", func := "baton/batonlaw11.TabsMoves", spec := "tabsMoves", inPlace := ["slices.overlaps[int]"], unfollowed := true, recurses := true, apart := false }
def TabsMovesSaid : Prop := tabsMovesRow.holds Try.pinned (OpenSpec.ofChange tabsMovesSpec)

/-- ITS FALSE NEIGHBOUR: 'it returns false'. Refute it at one input. -/
def tabsMovesWrong : ChangeSpec := { name := "tabsMoves", fn := fun _ => fun
  | [d1, d2, d3] => { results := [.lit (.bool false)], args := [d1, d2, d3] }
  | _ => none }
def TabsMovesWrongFalsely : Prop := tabsMovesRow.holds Try.pinned (OpenSpec.ofChange tabsMovesWrong)

/-- 'batonlaw13.SeqsBack': WHATEVER THE INPUT: true; the input reads as it did. -/
def seqsBackSpec : ChangeSpec := { name := "seqsBack", fn := fun _ => fun
  | [d] => { results := [.lit (.bool true)], args := [d] }
  | _ => none }
def seqsBackRow : OpenClaim := { program := "ytgnbhomdkchcfaa", sum := "9d6f4ef0a0038d0e67fd4ae6b140d88c785ff67d4e37892f97a87d6e91b33533", func := "baton/batonlaw13.SeqsBack", spec := "seqsBack", recurses := true, apart := false }
def SeqsBackSaid : Prop := seqsBackRow.holds Try.pinned (OpenSpec.ofChange seqsBackSpec)

/-- ITS FALSE NEIGHBOUR: 'it returns false'. Refute it at one input. -/
def seqsBackWrong : ChangeSpec := { name := "seqsBack", fn := fun _ => fun
  | [d] => { results := [.lit (.bool false)], args := [d] }
  | _ => none }
def SeqsBackWrongFalsely : Prop := seqsBackRow.holds Try.pinned (OpenSpec.ofChange seqsBackWrong)

/-- 'batonlaw13.SeqsRows': WHATEVER THE INPUT: true; the input reads as it did. -/
def seqsRowsSpec : ChangeSpec := { name := "seqsRows", fn := fun _ => fun
  | [d1, d2] => { results := [.lit (.bool true)], args := [d1, d2] }
  | _ => none }
def seqsRowsRow : OpenClaim := { program := "ytgnbhomdkchcfaa", sum := "9d6f4ef0a0038d0e67fd4ae6b140d88c785ff67d4e37892f97a87d6e91b33533", func := "baton/batonlaw13.SeqsRows", spec := "seqsRows", recurses := true, apart := false }
def SeqsRowsSaid : Prop := seqsRowsRow.holds Try.pinned (OpenSpec.ofChange seqsRowsSpec)

/-- ITS FALSE NEIGHBOUR: 'it returns false'. Refute it at one input. -/
def seqsRowsWrong : ChangeSpec := { name := "seqsRows", fn := fun _ => fun
  | [d1, d2] => { results := [.lit (.bool false)], args := [d1, d2] }
  | _ => none }
def SeqsRowsWrongFalsely : Prop := seqsRowsRow.holds Try.pinned (OpenSpec.ofChange seqsRowsWrong)

/- THE SECOND FORM. 'bulk': how many values and letters a reading holds, each counted each time it is reached (what is shared counts as often as it is met; a slice's spare places count too). A statement '..UptoSaid' is the law's where the arguments, and the package variables that the reading takes, are together of bulk at most 1048576: NARROWER than '..Said'. Prove '..Said' where nothing that the law and all that it calls make is longer than what came in: it says more and counts as full. Else prove '..UptoSaid'. A law counts once. -/
mutual
def uptoBulk {H : Type} : DataW H → Nat
  | .lit (.string bytes) => bytes.length + 1
  | .lit _ => 1
  | .nil => 1
  | .ptr d => uptoBulk d + 1
  | .slice elems spare => uptoBulkAll elems + uptoBulkAll spare + 1
  | .agg parts => uptoBulkAll parts + 1
  | .iface _ d => uptoBulk d + 1
  | .map entries => uptoBulkEntries entries + 1
  | .held _ => 1
def uptoBulkAll {H : Type} : List (DataW H) → Nat
  | [] => 0
  | d :: r => uptoBulk d + uptoBulkAll r
def uptoBulkEntries {H : Type} : List (Lit × DataW H) → Nat
  | [] => 0
  | x :: r => uptoBulkEntry x + uptoBulkEntries r
def uptoBulkEntry {H : Type} : Lit × DataW H → Nat
  | (.string bytes, d) => bytes.length + uptoBulk d + 1
  | (_, d) => uptoBulk d + 1
 end
def uptoSmall : (H : Type) → List (DataW H) → Bool := fun _ ds => decide (uptoBulkAll ds ≤ 1048576)
def OpenSpec.upto (s : _root_.Go.ChangeSpec) : _root_.Go.OpenSpec := { _root_.Go.OpenSpec.ofChange s with cond := some uptoSmall }

/-- 'batonlaw11.TabsRises', WHERE WHAT IT READS IS OF BULK AT MOST 1048576: true; the input reads as it did. -/
def tabsRisesUptoRow : OpenClaim := { program := "ytgnbhomdkchcfaa", sum := "9d6f4ef0a0038d0e67fd4ae6b140d88c785ff67d4e37892f97a87d6e91b33533", func := "baton/batonlaw11.TabsRises", spec := "tabsRises", inPlace := ["slices.overlaps[int]"], unfollowed := true, recurses := true, apart := false, narrowed := true }
def TabsRisesUptoSaid : Prop := tabsRisesUptoRow.holds Try.pinned (OpenSpec.upto tabsRisesSpec)

/-- 'batonlaw11.TabsPlays', WHERE WHAT IT READS IS OF BULK AT MOST 1048576: true; the input reads as it did. -/
def tabsPlaysUptoRow : OpenClaim := { program := "ytgnbhomdkchcfaa", sum := "9d6f4ef0a0038d0e67fd4ae6b140d88c785ff67d4e37892f97a87d6e91b33533", func := "baton/batonlaw11.TabsPlays", spec := "tabsPlays", inPlace := ["slices.overlaps[int]"], unfollowed := true, recurses := true, apart := false, narrowed := true }
def TabsPlaysUptoSaid : Prop := tabsPlaysUptoRow.holds Try.pinned (OpenSpec.upto tabsPlaysSpec)

/-- 'batonlaw11.TabsMoves', WHERE WHAT IT READS IS OF BULK AT MOST 1048576: true; the input reads as it did. -/
def tabsMovesUptoRow : OpenClaim := { program := "ytgnbhomdkchcfaa", sum := "9d6f4ef0a0038d0e67fd4ae6b140d88c785ff67d4e37892f97a87d6e91b33533", func := "baton/batonlaw11.TabsMoves", spec := "tabsMoves", inPlace := ["slices.overlaps[int]"], unfollowed := true, recurses := true, apart := false, narrowed := true }
def TabsMovesUptoSaid : Prop := tabsMovesUptoRow.holds Try.pinned (OpenSpec.upto tabsMovesSpec)

/-- 'batonlaw13.SeqsBack', WHERE WHAT IT READS IS OF BULK AT MOST 1048576: true; the input reads as it did. -/
def seqsBackUptoRow : OpenClaim := { program := "ytgnbhomdkchcfaa", sum := "9d6f4ef0a0038d0e67fd4ae6b140d88c785ff67d4e37892f97a87d6e91b33533", func := "baton/batonlaw13.SeqsBack", spec := "seqsBack", recurses := true, apart := false, narrowed := true }
def SeqsBackUptoSaid : Prop := seqsBackUptoRow.holds Try.pinned (OpenSpec.upto seqsBackSpec)

/-- 'batonlaw13.SeqsRows', WHERE WHAT IT READS IS OF BULK AT MOST 1048576: true; the input reads as it did. -/
def seqsRowsUptoRow : OpenClaim := { program := "ytgnbhomdkchcfaa", sum := "9d6f4ef0a0038d0e67fd4ae6b140d88c785ff67d4e37892f97a87d6e91b33533", func := "baton/batonlaw13.SeqsRows", spec := "seqsRows", recurses := true, apart := false, narrowed := true }
def SeqsRowsUptoSaid : Prop := seqsRowsUptoRow.holds Try.pinned (OpenSpec.upto seqsRowsSpec)

end Rows
end Go.Proofs.Ytgnbhomdkchcfaa
