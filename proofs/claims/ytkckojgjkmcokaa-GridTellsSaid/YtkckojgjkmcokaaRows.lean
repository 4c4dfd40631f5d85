/-
  No cell of these rows narrows 'for every input' (looked for: loops, veiled, ifaces, maps, wideKeys, modest, calm, conditions, laid).
  DERIVED. THE GIVEN ROWS OF THIS SEAT. 10 by the template 'for every input the law returns true; each argument reads behind the call as it read before'; 0 by the template 'total and deterministic' (their statements: YtkckojgjkmcokaaTotals.lean).
  GIVEN WITH THE SEED: the statements are not yours to turn. If you find one false, say at which input.
  Laid BY PROGRAM, IN A SANDBOX (cutbox-rows.mjs): the forced cells as the released guide's own fill.sh prints them over the translation 9736c3c4195e8df3… (all of the seat's roots in one cut). By AI agents, Wed Nov 11 2026. No macro, syntax, notation, axiom, sorry.
-/
import Derived.Test.YtkckojgjkmcokaaChecked
import GoSem.Claim
import GoSem.ClaimJoined
import GoSem.ClaimMapViews
import Derived.JoinedTies
import Derived.KernelRfl
namespace Go.Proofs.Ytkckojgjkmcokaa
/- THE CELL 'sum', in the pinned program and in every row, IS THE sha256 OF THE DUMP (.gsa) THAT YtkckojgjkmcokaaProg.lean LOADS. Nothing in Lean hashes anything: it is a label: what it is worth is what the hold of that sum in a sandbox is worth. -/
noncomputable def Try.pinned : Pinned := { name := "ytkckojgjkmcokaa", sum := "9736c3c4195e8df31bef7fecc9e8d6660ecda09a5a1e4f7b269a3c18efc42ee9", checked := Try.checked }
namespace Rows
def none {H : Type} : Left H := { results := [], args := [] }

/-- 'batonlaw08.RunesPuts': WHATEVER THE INPUT: true; the input reads as it did. -/
def runesPutsSpec : ChangeSpec := { name := "runesPuts", fn := fun _ => fun
  | [d] => { results := [.lit (.bool true)], args := [d] }
  | _ => none }
def runesPutsRow : OpenClaim := { program := "ytkckojgjkmcokaa", sum := "9736c3c4195e8df31bef7fecc9e8d6660ecda09a5a1e4f7b269a3c18efc42ee9", func := "baton/batonlaw08.RunesPuts", spec := "runesPuts", recurses := true, apart := false }
def RunesPutsSaid : Prop := runesPutsRow.holds Try.pinned (OpenSpec.ofChange runesPutsSpec)

/-- ITS FALSE NEIGHBOUR: 'it returns false'. Refute it at one input. -/
def runesPutsWrong : ChangeSpec := { name := "runesPuts", fn := fun _ => fun
  | [d] => { results := [.lit (.bool false)], args := [d] }
  | _ => none }
def RunesPutsWrongFalsely : Prop := runesPutsRow.holds Try.pinned (OpenSpec.ofChange runesPutsWrong)

/-- 'batonlaw08.RunesBytes': WHATEVER THE INPUT: true; the input reads as it did. -/
def runesBytesSpec : ChangeSpec := { name := "runesBytes", fn := fun _ => fun
  | [d] => { results := [.lit (.bool true)], args := [d] }
  | _ => none }
def runesBytesRow : OpenClaim := { program := "ytkckojgjkmcokaa", sum := "9736c3c4195e8df31bef7fecc9e8d6660ecda09a5a1e4f7b269a3c18efc42ee9", func := "baton/batonlaw08.RunesBytes", spec := "runesBytes", apart := false }
def RunesBytesSaid : Prop := runesBytesRow.holds Try.pinned (OpenSpec.ofChange runesBytesSpec)

/-- ITS FALSE NEIGHBOUR: 'it returns false'. Refute it at one input. -/
def runesBytesWrong : ChangeSpec := { name := "runesBytes", fn := fun _ => fun
  | [d] => { results := [.lit (.bool false)], args := [d] }
  | _ => none }
def RunesBytesWrongFalsely : Prop := runesBytesRow.holds Try.pinned (OpenSpec.ofChange runesBytesWrong)

/-- 'batonlaw08.RunesTexts': WHATEVER THE INPUT: true; the input reads as it did. -/
def runesTextsSpec : ChangeSpec := { name := "runesTexts", fn := fun _ => fun
  | [d] => { results := [.lit (.bool true)], args := [d] }
  | _ => none }
def runesTextsRow : OpenClaim := { program := "ytkckojgjkmcokaa", sum := "9736c3c4195e8df31bef7fecc9e8d6660ecda09a5a1e4f7b269a3c18efc42ee9", func := "baton/batonlaw08.RunesTexts", spec := "runesTexts", recurses := true, apart := false }
def RunesTextsSaid : Prop := runesTextsRow.holds Try.pinned (OpenSpec.ofChange runesTextsSpec)

/-- ITS FALSE NEIGHBOUR: 'it returns false'. Refute it at one input. -/
def runesTextsWrong : ChangeSpec := { name := "runesTexts", fn := fun _ => fun
  | [d] => { results := [.lit (.bool false)], args := [d] }
  | _ => none }
def RunesTextsWrongFalsely : Prop := runesTextsRow.holds Try.pinned (OpenSpec.ofChange runesTextsWrong)

/-- 'batonlaw08.RunesPieces': WHATEVER THE INPUT: true; the input reads as it did. -/
def runesPiecesSpec : ChangeSpec := { name := "runesPieces", fn := fun _ => fun
  | [d1, d2] => { results := [.lit (.bool true)], args := [d1, d2] }
  | _ => none }
def runesPiecesRow : OpenClaim := { program := "ytkckojgjkmcokaa", sum := "9736c3c4195e8df31bef7fecc9e8d6660ecda09a5a1e4f7b269a3c18efc42ee9", func := "baton/batonlaw08.RunesPieces", spec := "runesPieces", apart := false }
def RunesPiecesSaid : Prop := runesPiecesRow.holds Try.pinned (OpenSpec.ofChange runesPiecesSpec)

/-- ITS FALSE NEIGHBOUR: 'it returns false'. Refute it at one input. -/
def runesPiecesWrong : ChangeSpec := { name := "runesPieces", fn := fun _ => fun
  | [d1, d2] => { results := [.lit (.bool false)], args := [d1, d2] }
  | _ => none }
def RunesPiecesWrongFalsely : Prop := runesPiecesRow.holds Try.pinned (OpenSpec.ofChange runesPiecesWrong)

/-- 'batonlaw09.CellRuns': WHATEVER THE INPUT: true; the input reads as it did. -/
def cellRunsSpec : ChangeSpec := { name := "cellRuns", fn := fun _ => fun
  | [d1, d2] => { results := [.lit (.bool true)], args := [d1, d2] }
  | _ => none }
def cellRunsRow : OpenClaim := { program := "ytkckojgjkmcokaa", sum := "9736c3c4195e8df31bef7fecc9e8d6660ecda09a5a1e4f7b269a3c18efc42ee9", func := "baton/batonlaw09.CellRuns", spec := "cellRuns", apart := false }
def CellRunsSaid : Prop := cellRunsRow.holds Try.pinned (OpenSpec.ofChange cellRunsSpec)

/-- ITS FALSE NEIGHBOUR: 'it returns false'. Refute it at one input. -/
def cellRunsWrong : ChangeSpec := { name := "cellRuns", fn := fun _ => fun
  | [d1, d2] => { results := [.lit (.bool false)], args := [d1, d2] }
  | _ => none }
def CellRunsWrongFalsely : Prop := cellRunsRow.holds Try.pinned (OpenSpec.ofChange cellRunsWrong)

/-- 'batonlaw09.CellRight': WHATEVER THE INPUT: true; the input reads as it did. -/
def cellRightSpec : ChangeSpec := { name := "cellRight", fn := fun _ => fun
  | [d] => { results := [.lit (.bool true)], args := [d] }
  | _ => none }
def cellRightRow : OpenClaim := { program := "ytkckojgjkmcokaa", sum := "9736c3c4195e8df31bef7fecc9e8d6660ecda09a5a1e4f7b269a3c18efc42ee9", func := "baton/batonlaw09.CellRight", spec := "cellRight", apart := false }
def CellRightSaid : Prop := cellRightRow.holds Try.pinned (OpenSpec.ofChange cellRightSpec)

/-- ITS FALSE NEIGHBOUR: 'it returns false'. Refute it at one input. -/
def cellRightWrong : ChangeSpec := { name := "cellRight", fn := fun _ => fun
  | [d] => { results := [.lit (.bool false)], args := [d] }
  | _ => none }
def CellRightWrongFalsely : Prop := cellRightRow.holds Try.pinned (OpenSpec.ofChange cellRightWrong)

/-- 'batonlaw09.CellBack': WHATEVER THE INPUT: true; the input reads as it did. -/
def cellBackSpec : ChangeSpec := { name := "cellBack", fn := fun _ => fun
  | [d1, d2] => { results := [.lit (.bool true)], args := [d1, d2] }
  | _ => none }
def cellBackRow : OpenClaim := { program := "ytkckojgjkmcokaa", sum := "9736c3c4195e8df31bef7fecc9e8d6660ecda09a5a1e4f7b269a3c18efc42ee9", func := "baton/batonlaw09.CellBack", spec := "cellBack", apart := false }
def CellBackSaid : Prop := cellBackRow.holds Try.pinned (OpenSpec.ofChange cellBackSpec)

/-- ITS FALSE NEIGHBOUR: 'it returns false'. Refute it at one input. -/
def cellBackWrong : ChangeSpec := { name := "cellBack", fn := fun _ => fun
  | [d1, d2] => { results := [.lit (.bool false)], args := [d1, d2] }
  | _ => none }
def CellBackWrongFalsely : Prop := cellBackRow.holds Try.pinned (OpenSpec.ofChange cellBackWrong)

/-- 'batonlaw10.GridApart': WHATEVER THE INPUT: true; the input reads as it did. -/
def gridApartSpec : ChangeSpec := { name := "gridApart", fn := fun _ => fun
  | [d1, d2] => { results := [.lit (.bool true)], args := [d1, d2] }
  | _ => none }
def gridApartRow : OpenClaim := { program := "ytkckojgjkmcokaa", sum := "9736c3c4195e8df31bef7fecc9e8d6660ecda09a5a1e4f7b269a3c18efc42ee9", func := "baton/batonlaw10.GridApart", spec := "gridApart", apart := false }
def GridApartSaid : Prop := gridApartRow.holds Try.pinned (OpenSpec.ofChange gridApartSpec)

/-- ITS FALSE NEIGHBOUR: 'it returns false'. Refute it at one input. -/
def gridApartWrong : ChangeSpec := { name := "gridApart", fn := fun _ => fun
  | [d1, d2] => { results := [.lit (.bool false)], args := [d1, d2] }
  | _ => none }
def GridApartWrongFalsely : Prop := gridApartRow.holds Try.pinned (OpenSpec.ofChange gridApartWrong)

/-- 'batonlaw10.GridTells': WHATEVER THE INPUT: true; the input reads as it did. -/
def gridTellsSpec : ChangeSpec := { name := "gridTells", fn := fun _ => fun
  | [d1, d2, d3] => { results := [.lit (.bool true)], args := [d1, d2, d3] }
  | _ => none }
def gridTellsRow : OpenClaim := { program := "ytkckojgjkmcokaa", sum := "9736c3c4195e8df31bef7fecc9e8d6660ecda09a5a1e4f7b269a3c18efc42ee9", func := "baton/batonlaw10.GridTells", spec := "gridTells", apart := false }
def GridTellsSaid : Prop := gridTellsRow.holds Try.pinned (OpenSpec.ofChange gridTellsSpec)

/-- ITS FALSE NEIGHBOUR: 'it returns false'. Refute it at one input. -/
def gridTellsWrong : ChangeSpec := { name := "gridTells", fn := fun _ => fun
  | [d1, d2, d3] => { results := [.lit (.bool false)], args := [d1, d2, d3] }
  | _ => none }
def GridTellsWrongFalsely : Prop := gridTellsRow.holds Try.pinned (OpenSpec.ofChange gridTellsWrong)

/-- 'batonlaw10.GridPlays': WHATEVER THE INPUT: true; the input reads as it did. -/
def gridPlaysSpec : ChangeSpec := { name := "gridPlays", fn := fun _ => fun
  | [d1, d2, d3] => { results := [.lit (.bool true)], args := [d1, d2, d3] }
  | _ => none }
def gridPlaysRow : OpenClaim := { program := "ytkckojgjkmcokaa", sum := "9736c3c4195e8df31bef7fecc9e8d6660ecda09a5a1e4f7b269a3c18efc42ee9", func := "baton/batonlaw10.GridPlays", spec := "gridPlays", apart := false }
def GridPlaysSaid : Prop := gridPlaysRow.holds Try.pinned (OpenSpec.ofChange gridPlaysSpec)

/-- ITS FALSE NEIGHBOUR: 'it returns false'. Refute it at one input. -/
def gridPlaysWrong : ChangeSpec := { name := "gridPlays", fn := fun _ => fun
  | [d1, d2, d3] => { results := [.lit (.bool false)], args := [d1, d2, d3] }
  | _ => none }
def GridPlaysWrongFalsely : Prop := gridPlaysRow.holds Try.pinned (OpenSpec.ofChange gridPlaysWrong)

/- THE SECOND FORM. 'bulk': how many values and letters a reading holds, each counted each time it is reached (what is shared counts as often as it is met; a slice's spare places count too). A statement '..UptoSaid' is the law's where the arguments, and the package variables that the reading takes, are together of bulk at most 1048576: NARROWER than '..Said'. Prove '..Said' where nothing that the law and all that it calls make is longer than what came in: it says more and counts as full. Else prove '..UptoSaid'. A law counts once. -/
mutual
def uptoBulk {H : Type} : DataW H → Nat
  | .lit (.string bytes) => bytes.length + 1
  | .lit _ => 1
  | .nil => 1
  | .ptr d => uptoBulk d + 1
  | .slice elems spare => uptoBulkAll elems + uptoBulkAll spare + 1
  | .agg parts => uptoBulkAll parts + 1
  | .iface _ d => uptoBulk d + 1
  | .map entries => uptoBulkEntries entries + 1
  | .held _ => 1
def uptoBulkAll {H : Type} : List (DataW H) → Nat
  | [] => 0
  | d :: r => uptoBulk d + uptoBulkAll r
def uptoBulkEntries {H : Type} : List (Lit × DataW H) → Nat
  | [] => 0
  | x :: r => uptoBulkEntry x + uptoBulkEntries r
def uptoBulkEntry {H : Type} : Lit × DataW H → Nat
  | (.string bytes, d) => bytes.length + uptoBulk d + 1
  | (_, d) => uptoBulk d + 1
 end
def uptoSmall : (H : Type) → List (DataW H) → Bool := fun _ ds => decide (uptoBulkAll ds ≤ 1048576)
def OpenSpec.upto (s : _root_.Go.ChangeSpec) : _root_.Go.OpenSpec := { _root_.Go.OpenSpec.ofChange s with cond := some uptoSmall }

/-- 'batonlaw08.RunesPuts', WHERE WHAT IT READS IS OF BULK AT MOST 1048576: true; the input reads as it did. -/
def runesPutsUptoRow : OpenClaim := { program := "ytkckojgjkmcokaa", sum := "9736c3c4195e8df31bef7fecc9e8d6660ecda09a5a1e4f7b269a3c18efc42ee9", func := "baton/batonlaw08.RunesPuts", spec := "runesPuts", recurses := true, apart := false, narrowed := true }
def RunesPutsUptoSaid : Prop := runesPutsUptoRow.holds Try.pinned (OpenSpec.upto runesPutsSpec)

/-- 'batonlaw08.RunesBytes', WHERE WHAT IT READS IS OF BULK AT MOST 1048576: true; the input reads as it did. -/
def runesBytesUptoRow : OpenClaim := { program := "ytkckojgjkmcokaa", sum := "9736c3c4195e8df31bef7fecc9e8d6660ecda09a5a1e4f7b269a3c18efc42ee9", func := "baton/batonlaw08.RunesBytes", spec := "runesBytes", apart := false, narrowed := true }
def RunesBytesUptoSaid : Prop := runesBytesUptoRow.holds Try.pinned (OpenSpec.upto runesBytesSpec)

/-- 'batonlaw08.RunesTexts', WHERE WHAT IT READS IS OF BULK AT MOST 1048576: true; the input reads as it did. -/
def runesTextsUptoRow : OpenClaim := { program := "ytkckojgjkmcokaa", sum := "9736c3c4195e8df31bef7fecc9e8d6660ecda09a5a1e4f7b269a3c18efc42ee9", func := "baton/batonlaw08.RunesTexts", spec := "runesTexts", recurses := true, apart := false, narrowed := true }
def RunesTextsUptoSaid : Prop := runesTextsUptoRow.holds Try.pinned (OpenSpec.upto runesTextsSpec)

/-- 'batonlaw08.RunesPieces', WHERE WHAT IT READS IS OF BULK AT MOST 1048576: true; the input reads as it did. -/
def runesPiecesUptoRow : OpenClaim := { program := "ytkckojgjkmcokaa", sum := "9736c3c4195e8df31bef7fecc9e8d6660ecda09a5a1e4f7b269a3c18efc42ee9", func := "baton/batonlaw08.RunesPieces", spec := "runesPieces", apart := false, narrowed := true }
def RunesPiecesUptoSaid : Prop := runesPiecesUptoRow.holds Try.pinned (OpenSpec.upto runesPiecesSpec)

/-- 'batonlaw09.CellRuns', WHERE WHAT IT READS IS OF BULK AT MOST 1048576: true; the input reads as it did. -/
def cellRunsUptoRow : OpenClaim := { program := "ytkckojgjkmcokaa", sum := "9736c3c4195e8df31bef7fecc9e8d6660ecda09a5a1e4f7b269a3c18efc42ee9", func := "baton/batonlaw09.CellRuns", spec := "cellRuns", apart := false, narrowed := true }
def CellRunsUptoSaid : Prop := cellRunsUptoRow.holds Try.pinned (OpenSpec.upto cellRunsSpec)

/-- 'batonlaw09.CellRight', WHERE WHAT IT READS IS OF BULK AT MOST 1048576: true; the input reads as it did. -/
def cellRightUptoRow : OpenClaim := { program := "ytkckojgjkmcokaa", sum := "9736c3c4195e8df31bef7fecc9e8d6660ecda09a5a1e4f7b269a3c18efc42ee9", func := "baton/batonlaw09.CellRight", spec := "cellRight", apart := false, narrowed := true }
def CellRightUptoSaid : Prop := cellRightUptoRow.holds Try.pinned (OpenSpec.upto cellRightSpec)

/-- 'batonlaw09.CellBack', WHERE WHAT IT READS IS OF BULK AT MOST 1048576: true; the input reads as it did. -/
def cellBackUptoRow : OpenClaim := { program := "ytkckojgjkmcokaa", sum := "9736c3c4195e8df31bef7fecc9e8d6660ecda09a5a1e4f7b269a3c18efc42ee9", func := "baton/batonlaw09.CellBack", spec := "cellBack", apart := false, narrowed := true }
def CellBackUptoSaid : Prop := cellBackUptoRow.holds Try.pinned (OpenSpec.upto cellBackSpec)

/-- 'batonlaw10.GridApart', WHERE WHAT IT READS IS OF BULK AT MOST 1048576: true; the input reads as it did. -/
def gridApartUptoRow : OpenClaim := { program := "ytkckojgjkmcokaa", sum := "9736c3c4195e8df31bef7fecc9e8d6660ecda09a5a1e4f7b269a3c18efc42ee9", func := "baton/batonlaw10.GridApart", spec := "gridApart", apart := false, narrowed := true }
def GridApartUptoSaid : Prop := gridApartUptoRow.holds Try.pinned (OpenSpec.upto gridApartSpec)

/-- 'batonlaw10.GridTells', WHERE WHAT IT READS IS OF BULK AT MOST 1048576: true; the input reads as it did. -/
def gridTellsUptoRow : OpenClaim := { program := "ytkckojgjkmcokaa", sum := "9736c3c4195e8df31bef7fecc9e8d6660ecda09a5a1e4f7b269a3c18efc42ee9", func := "baton/batonlaw10.GridTells", spec := "gridTells", apart := false, narrowed := true }
def GridTellsUptoSaid : Prop := gridTellsUptoRow.holds Try.pinned (OpenSpec.upto gridTellsSpec)

/-- 'batonlaw10.GridPlays', WHERE WHAT IT READS IS OF BULK AT MOST 1048576: true; the input reads as it did. -/
def gridPlaysUptoRow : OpenClaim := { program := "ytkckojgjkmcokaa", sum := "9736c3c4195e8df31bef7fecc9e8d6660ecda09a5a1e4f7b269a3c18efc42ee9", func := "baton/batonlaw10.GridPlays", spec := "gridPlays", apart := false, narrowed := true }
def GridPlaysUptoSaid : Prop := gridPlaysUptoRow.holds Try.pinned (OpenSpec.upto gridPlaysSpec)

end Rows
end Go.Proofs.Ytkckojgjkmcokaa
