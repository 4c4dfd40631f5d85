/-
  No cell of these rows narrows 'for every input' (looked for: loops, veiled, ifaces, maps, wideKeys, modest, calm, conditions, laid).
  DERIVED. THE GIVEN ROWS OF THIS SEAT. 11 by the template 'for every input the law returns true; each argument reads behind the call as it read before'; 0 by the template 'total and deterministic' (their statements: YthcpfkkddfgamaaTotals.lean).
  GIVEN WITH THE SEED: the statements are not yours to turn. If you find one false, say at which input.
  Laid BY PROGRAM, IN A SANDBOX (cutbox-rows.mjs): the forced cells as the released guide's own fill.sh prints them over the translation c94aee8c16b39d9d… (all of the seat's roots in one cut). By AI agents, Wed Nov 11 2026. No macro, syntax, notation, axiom, sorry.
-/
import Derived.Test.YthcpfkkddfgamaaChecked
import GoSem.Claim
import GoSem.ClaimJoined
import GoSem.ClaimMapViews
import Derived.JoinedTies
import Derived.KernelRfl
namespace Go.Proofs.Ythcpfkkddfgamaa
/- THE CELL 'sum', in the pinned program and in every row, IS THE sha256 OF THE DUMP (.gsa) THAT YthcpfkkddfgamaaProg.lean LOADS. Nothing in Lean hashes anything: it is a label: what it is worth is what the hold of that sum in a sandbox is worth. -/
noncomputable def Try.pinned : Pinned := { name := "ythcpfkkddfgamaa", sum := "c94aee8c16b39d9da252bb4c17dc4c958a2c244bc2fd8544a2f114a8df233061", checked := Try.checked }
namespace Rows
def none {H : Type} : Left H := { results := [], args := [] }

/-- 'batonlaw04.LabelApart': WHATEVER THE INPUT: true; the input reads as it did. -/
def labelApartSpec : ChangeSpec := { name := "labelApart", fn := fun _ => fun
  | [d1, d2] => { results := [.lit (.bool true)], args := [d1, d2] }
  | _ => none }
def labelApartRow : OpenClaim := { program := "ythcpfkkddfgamaa", sum := "c94aee8c16b39d9da252bb4c17dc4c958a2c244bc2fd8544a2f114a8df233061", func := "baton/batonlaw04.LabelApart", spec := "labelApart", apart := false }
def LabelApartSaid : Prop := labelApartRow.holds Try.pinned (OpenSpec.ofChange labelApartSpec)

/-- ITS FALSE NEIGHBOUR: 'it returns false'. Refute it at one input. -/
def labelApartWrong : ChangeSpec := { name := "labelApart", fn := fun _ => fun
  | [d1, d2] => { results := [.lit (.bool false)], args := [d1, d2] }
  | _ => none }
def LabelApartWrongFalsely : Prop := labelApartRow.holds Try.pinned (OpenSpec.ofChange labelApartWrong)

/-- 'batonlaw04.LabelJoins': WHATEVER THE INPUT: true; the input reads as it did. -/
def labelJoinsSpec : ChangeSpec := { name := "labelJoins", fn := fun _ => fun
  | [d] => { results := [.lit (.bool true)], args := [d] }
  | _ => none }
def labelJoinsRow : OpenClaim := { program := "ythcpfkkddfgamaa", sum := "c94aee8c16b39d9da252bb4c17dc4c958a2c244bc2fd8544a2f114a8df233061", func := "baton/batonlaw04.LabelJoins", spec := "labelJoins", apart := false }
def LabelJoinsSaid : Prop := labelJoinsRow.holds Try.pinned (OpenSpec.ofChange labelJoinsSpec)

/-- ITS FALSE NEIGHBOUR: 'it returns false'. Refute it at one input. -/
def labelJoinsWrong : ChangeSpec := { name := "labelJoins", fn := fun _ => fun
  | [d] => { results := [.lit (.bool false)], args := [d] }
  | _ => none }
def LabelJoinsWrongFalsely : Prop := labelJoinsRow.holds Try.pinned (OpenSpec.ofChange labelJoinsWrong)

/-- 'batonlaw04.LabelSplits': WHATEVER THE INPUT: true; the input reads as it did. -/
def labelSplitsSpec : ChangeSpec := { name := "labelSplits", fn := fun _ => fun
  | [d] => { results := [.lit (.bool true)], args := [d] }
  | _ => none }
def labelSplitsRow : OpenClaim := { program := "ythcpfkkddfgamaa", sum := "c94aee8c16b39d9da252bb4c17dc4c958a2c244bc2fd8544a2f114a8df233061", func := "baton/batonlaw04.LabelSplits", spec := "labelSplits", apart := false }
def LabelSplitsSaid : Prop := labelSplitsRow.holds Try.pinned (OpenSpec.ofChange labelSplitsSpec)

/-- ITS FALSE NEIGHBOUR: 'it returns false'. Refute it at one input. -/
def labelSplitsWrong : ChangeSpec := { name := "labelSplits", fn := fun _ => fun
  | [d] => { results := [.lit (.bool false)], args := [d] }
  | _ => none }
def LabelSplitsWrongFalsely : Prop := labelSplitsRow.holds Try.pinned (OpenSpec.ofChange labelSplitsWrong)

/-- 'batonlaw39.BagPuts': WHATEVER THE INPUT: true; the input reads as it did. -/
def bagPutsSpec : ChangeSpec := { name := "bagPuts", fn := fun _ => fun
  | [d1, d2, d3] => { results := [.lit (.bool true)], args := [d1, d2, d3] }
  | _ => none }
def bagPutsRow : OpenClaim := { program := "ythcpfkkddfgamaa", sum := "c94aee8c16b39d9da252bb4c17dc4c958a2c244bc2fd8544a2f114a8df233061", func := "baton/batonlaw39.BagPuts", spec := "bagPuts", apart := false }
def BagPutsSaid : Prop := bagPutsRow.holds Try.pinned (OpenSpec.ofChange bagPutsSpec)

/-- ITS FALSE NEIGHBOUR: 'it returns false'. Refute it at one input. -/
def bagPutsWrong : ChangeSpec := { name := "bagPuts", fn := fun _ => fun
  | [d1, d2, d3] => { results := [.lit (.bool false)], args := [d1, d2, d3] }
  | _ => none }
def BagPutsWrongFalsely : Prop := bagPutsRow.holds Try.pinned (OpenSpec.ofChange bagPutsWrong)

/-- 'batonlaw39.BagFinds': WHATEVER THE INPUT: true; the input reads as it did. -/
def bagFindsSpec : ChangeSpec := { name := "bagFinds", fn := fun _ => fun
  | [d1, d2, d3] => { results := [.lit (.bool true)], args := [d1, d2, d3] }
  | _ => none }
def bagFindsRow : OpenClaim := { program := "ythcpfkkddfgamaa", sum := "c94aee8c16b39d9da252bb4c17dc4c958a2c244bc2fd8544a2f114a8df233061", func := "baton/batonlaw39.BagFinds", spec := "bagFinds", unfollowed := true, recurses := true, apart := false }
def BagFindsSaid : Prop := bagFindsRow.holds Try.pinned (OpenSpec.ofChange bagFindsSpec)

/-- ITS FALSE NEIGHBOUR: 'it returns false'. Refute it at one input. -/
def bagFindsWrong : ChangeSpec := { name := "bagFinds", fn := fun _ => fun
  | [d1, d2, d3] => { results := [.lit (.bool false)], args := [d1, d2, d3] }
  | _ => none }
def BagFindsWrongFalsely : Prop := bagFindsRow.holds Try.pinned (OpenSpec.ofChange bagFindsWrong)

/-- 'batonlaw26.TicketUses': WHATEVER THE INPUT: true; the input reads as it did. -/
def ticketUsesSpec : ChangeSpec := { name := "ticketUses", fn := fun _ => fun
  | [d1, d2, d3] => { results := [.lit (.bool true)], args := [d1, d2, d3] }
  | _ => none }
def ticketUsesRow : OpenClaim := { program := "ythcpfkkddfgamaa", sum := "c94aee8c16b39d9da252bb4c17dc4c958a2c244bc2fd8544a2f114a8df233061", func := "baton/batonlaw26.TicketUses", spec := "ticketUses", unfollowed := true, recurses := true, apart := false }
def TicketUsesSaid : Prop := ticketUsesRow.holds Try.pinned (OpenSpec.ofChange ticketUsesSpec)

/-- ITS FALSE NEIGHBOUR: 'it returns false'. Refute it at one input. -/
def ticketUsesWrong : ChangeSpec := { name := "ticketUses", fn := fun _ => fun
  | [d1, d2, d3] => { results := [.lit (.bool false)], args := [d1, d2, d3] }
  | _ => none }
def TicketUsesWrongFalsely : Prop := ticketUsesRow.holds Try.pinned (OpenSpec.ofChange ticketUsesWrong)

/-- 'batonlaw26.TicketLives': WHATEVER THE INPUT: true; the input reads as it did. -/
def ticketLivesSpec : ChangeSpec := { name := "ticketLives", fn := fun _ => fun
  | [d1, d2, d3] => { results := [.lit (.bool true)], args := [d1, d2, d3] }
  | _ => none }
def ticketLivesRow : OpenClaim := { program := "ythcpfkkddfgamaa", sum := "c94aee8c16b39d9da252bb4c17dc4c958a2c244bc2fd8544a2f114a8df233061", func := "baton/batonlaw26.TicketLives", spec := "ticketLives", unfollowed := true, recurses := true, apart := false }
def TicketLivesSaid : Prop := ticketLivesRow.holds Try.pinned (OpenSpec.ofChange ticketLivesSpec)

/-- ITS FALSE NEIGHBOUR: 'it returns false'. Refute it at one input. -/
def ticketLivesWrong : ChangeSpec := { name := "ticketLives", fn := fun _ => fun
  | [d1, d2, d3] => { results := [.lit (.bool false)], args := [d1, d2, d3] }
  | _ => none }
def TicketLivesWrongFalsely : Prop := ticketLivesRow.holds Try.pinned (OpenSpec.ofChange ticketLivesWrong)

/-- 'batonlaw26.TicketIssues': WHATEVER THE INPUT: true; the input reads as it did. -/
def ticketIssuesSpec : ChangeSpec := { name := "ticketIssues", fn := fun _ => fun
  | [d1, d2, d3] => { results := [.lit (.bool true)], args := [d1, d2, d3] }
  | _ => none }
def ticketIssuesRow : OpenClaim := { program := "ythcpfkkddfgamaa", sum := "c94aee8c16b39d9da252bb4c17dc4c958a2c244bc2fd8544a2f114a8df233061", func := "baton/batonlaw26.TicketIssues", spec := "ticketIssues", unfollowed := true, recurses := true, apart := false }
def TicketIssuesSaid : Prop := ticketIssuesRow.holds Try.pinned (OpenSpec.ofChange ticketIssuesSpec)

/-- ITS FALSE NEIGHBOUR: 'it returns false'. Refute it at one input. -/
def ticketIssuesWrong : ChangeSpec := { name := "ticketIssues", fn := fun _ => fun
  | [d1, d2, d3] => { results := [.lit (.bool false)], args := [d1, d2, d3] }
  | _ => none }
def TicketIssuesWrongFalsely : Prop := ticketIssuesRow.holds Try.pinned (OpenSpec.ofChange ticketIssuesWrong)

/-- 'batonlaw06.CodecOne': WHATEVER THE INPUT: true; the input reads as it did. -/
def codecOneSpec : ChangeSpec := { name := "codecOne", fn := fun _ => fun
  | [d] => { results := [.lit (.bool true)], args := [d] }
  | _ => none }
def codecOneRow : OpenClaim := { program := "ythcpfkkddfgamaa", sum := "c94aee8c16b39d9da252bb4c17dc4c958a2c244bc2fd8544a2f114a8df233061", func := "baton/batonlaw06.CodecOne", spec := "codecOne", apart := false }
def CodecOneSaid : Prop := codecOneRow.holds Try.pinned (OpenSpec.ofChange codecOneSpec)

/-- ITS FALSE NEIGHBOUR: 'it returns false'. Refute it at one input. -/
def codecOneWrong : ChangeSpec := { name := "codecOne", fn := fun _ => fun
  | [d] => { results := [.lit (.bool false)], args := [d] }
  | _ => none }
def CodecOneWrongFalsely : Prop := codecOneRow.holds Try.pinned (OpenSpec.ofChange codecOneWrong)

/-- 'batonlaw06.CodecReads': WHATEVER THE INPUT: true; the input reads as it did. -/
def codecReadsSpec : ChangeSpec := { name := "codecReads", fn := fun _ => fun
  | [d1, d2, d3] => { results := [.lit (.bool true)], args := [d1, d2, d3] }
  | _ => none }
def codecReadsRow : OpenClaim := { program := "ythcpfkkddfgamaa", sum := "c94aee8c16b39d9da252bb4c17dc4c958a2c244bc2fd8544a2f114a8df233061", func := "baton/batonlaw06.CodecReads", spec := "codecReads", apart := false }
def CodecReadsSaid : Prop := codecReadsRow.holds Try.pinned (OpenSpec.ofChange codecReadsSpec)

/-- ITS FALSE NEIGHBOUR: 'it returns false'. Refute it at one input. -/
def codecReadsWrong : ChangeSpec := { name := "codecReads", fn := fun _ => fun
  | [d1, d2, d3] => { results := [.lit (.bool false)], args := [d1, d2, d3] }
  | _ => none }
def CodecReadsWrongFalsely : Prop := codecReadsRow.holds Try.pinned (OpenSpec.ofChange codecReadsWrong)

/-- 'batonlaw06.CodecBack': WHATEVER THE INPUT: true; the input reads as it did. -/
def codecBackSpec : ChangeSpec := { name := "codecBack", fn := fun _ => fun
  | [d1, d2] => { results := [.lit (.bool true)], args := [d1, d2] }
  | _ => none }
def codecBackRow : OpenClaim := { program := "ythcpfkkddfgamaa", sum := "c94aee8c16b39d9da252bb4c17dc4c958a2c244bc2fd8544a2f114a8df233061", func := "baton/batonlaw06.CodecBack", spec := "codecBack", apart := false }
def CodecBackSaid : Prop := codecBackRow.holds Try.pinned (OpenSpec.ofChange codecBackSpec)

/-- ITS FALSE NEIGHBOUR: 'it returns false'. Refute it at one input. -/
def codecBackWrong : ChangeSpec := { name := "codecBack", fn := fun _ => fun
  | [d1, d2] => { results := [.lit (.bool false)], args := [d1, d2] }
  | _ => none }
def CodecBackWrongFalsely : Prop := codecBackRow.holds Try.pinned (OpenSpec.ofChange codecBackWrong)

/- THE SECOND FORM. 'bulk': how many values and letters a reading holds, each counted each time it is reached (what is shared counts as often as it is met; a slice's spare places count too). A statement '..UptoSaid' is the law's where the arguments, and the package variables that the reading takes, are together of bulk at most 1048576: NARROWER than '..Said'. Prove '..Said' where nothing that the law and all that it calls make is longer than what came in: it says more and counts as full. Else prove '..UptoSaid'. A law counts once. -/
mutual
def uptoBulk {H : Type} : DataW H → Nat
  | .lit (.string bytes) => bytes.length + 1
  | .lit _ => 1
  | .nil => 1
  | .ptr d => uptoBulk d + 1
  | .slice elems spare => uptoBulkAll elems + uptoBulkAll spare + 1
  | .agg parts => uptoBulkAll parts + 1
  | .iface _ d => uptoBulk d + 1
  | .map entries => uptoBulkEntries entries + 1
  | .held _ => 1
def uptoBulkAll {H : Type} : List (DataW H) → Nat
  | [] => 0
  | d :: r => uptoBulk d + uptoBulkAll r
def uptoBulkEntries {H : Type} : List (Lit × DataW H) → Nat
  | [] => 0
  | x :: r => uptoBulkEntry x + uptoBulkEntries r
def uptoBulkEntry {H : Type} : Lit × DataW H → Nat
  | (.string bytes, d) => bytes.length + uptoBulk d + 1
  | (_, d) => uptoBulk d + 1
 end
def uptoSmall : (H : Type) → List (DataW H) → Bool := fun _ ds => decide (uptoBulkAll ds ≤ 1048576)
def OpenSpec.upto (s : _root_.Go.ChangeSpec) : _root_.Go.OpenSpec := { _root_.Go.OpenSpec.ofChange s with cond := some uptoSmall }

/-- 'batonlaw04.LabelApart', WHERE WHAT IT READS IS OF BULK AT MOST 1048576: true; the input reads as it did. -/
def labelApartUptoRow : OpenClaim := { program := "ythcpfkkddfgamaa", sum := "c94aee8c16b39d9da252bb4c17dc4c958a2c244bc2fd8544a2f114a8df233061", func := "baton/batonlaw04.LabelApart", spec := "labelApart", apart := false, narrowed := true }
def LabelApartUptoSaid : Prop := labelApartUptoRow.holds Try.pinned (OpenSpec.upto labelApartSpec)

/-- 'batonlaw04.LabelJoins', WHERE WHAT IT READS IS OF BULK AT MOST 1048576: true; the input reads as it did. -/
def labelJoinsUptoRow : OpenClaim := { program := "ythcpfkkddfgamaa", sum := "c94aee8c16b39d9da252bb4c17dc4c958a2c244bc2fd8544a2f114a8df233061", func := "baton/batonlaw04.LabelJoins", spec := "labelJoins", apart := false, narrowed := true }
def LabelJoinsUptoSaid : Prop := labelJoinsUptoRow.holds Try.pinned (OpenSpec.upto labelJoinsSpec)

/-- 'batonlaw04.LabelSplits', WHERE WHAT IT READS IS OF BULK AT MOST 1048576: true; the input reads as it did. -/
def labelSplitsUptoRow : OpenClaim := { program := "ythcpfkkddfgamaa", sum := "c94aee8c16b39d9da252bb4c17dc4c958a2c244bc2fd8544a2f114a8df233061", func := "baton/batonlaw04.LabelSplits", spec := "labelSplits", apart := false, narrowed := true }
def LabelSplitsUptoSaid : Prop := labelSplitsUptoRow.holds Try.pinned (OpenSpec.upto labelSplitsSpec)

/-- 'batonlaw39.BagPuts', WHERE WHAT IT READS IS OF BULK AT MOST 1048576: true; the input reads as it did. -/
def bagPutsUptoRow : OpenClaim := { program := "ythcpfkkddfgamaa", sum := "c94aee8c16b39d9da252bb4c17dc4c958a2c244bc2fd8544a2f114a8df233061", func := "baton/batonlaw39.BagPuts", spec := "bagPuts", apart := false, narrowed := true }
def BagPutsUptoSaid : Prop := bagPutsUptoRow.holds Try.pinned (OpenSpec.upto bagPutsSpec)

/-- 'batonlaw39.BagFinds', WHERE WHAT IT READS IS OF BULK AT MOST 1048576: true; the input reads as it did. -/
def bagFindsUptoRow : OpenClaim := { program := "ythcpfkkddfgamaa", sum := "c94aee8c16b39d9da252bb4c17dc4c958a2c244bc2fd8544a2f114a8df233061", func := "baton/batonlaw39.BagFinds", spec := "bagFinds", unfollowed := true, recurses := true, apart := false, narrowed := true }
def BagFindsUptoSaid : Prop := bagFindsUptoRow.holds Try.pinned (OpenSpec.upto bagFindsSpec)

/-- 'batonlaw26.TicketUses', WHERE WHAT IT READS IS OF BULK AT MOST 1048576: true; the input reads as it did. -/
def ticketUsesUptoRow : OpenClaim := { program := "ythcpfkkddfgamaa", sum := "c94aee8c16b39d9da252bb4c17dc4c958a2c244bc2fd8544a2f114a8df233061", func := "baton/batonlaw26.TicketUses", spec := "ticketUses", unfollowed := true, recurses := true, apart := false, narrowed := true }
def TicketUsesUptoSaid : Prop := ticketUsesUptoRow.holds Try.pinned (OpenSpec.upto ticketUsesSpec)

/-- 'batonlaw26.TicketLives', WHERE WHAT IT READS IS OF BULK AT MOST 1048576: true; the input reads as it did. -/
def ticketLivesUptoRow : OpenClaim := { program := "ythcpfkkddfgamaa", sum := "c94aee8c16b39d9da252bb4c17dc4c958a2c244bc2fd8544a2f114a8df233061", func := "baton/batonlaw26.TicketLives", spec := "ticketLives", unfollowed := true, recurses := true, apart := false, narrowed := true }
def TicketLivesUptoSaid : Prop := ticketLivesUptoRow.holds Try.pinned (OpenSpec.upto ticketLivesSpec)

/-- 'batonlaw26.TicketIssues', WHERE WHAT IT READS IS OF BULK AT MOST 1048576: true; the input reads as it did. -/
def ticketIssuesUptoRow : OpenClaim := { program := "ythcpfkkddfgamaa", sum := "c94aee8c16b39d9da252bb4c17dc4c958a2c244bc2fd8544a2f114a8df233061", func := "baton/batonlaw26.TicketIssues", spec := "ticketIssues", unfollowed := true, recurses := true, apart := false, narrowed := true }
def TicketIssuesUptoSaid : Prop := ticketIssuesUptoRow.holds Try.pinned (OpenSpec.upto ticketIssuesSpec)

/-- 'batonlaw06.CodecOne', WHERE WHAT IT READS IS OF BULK AT MOST 1048576: true; the input reads as it did. -/
def codecOneUptoRow : OpenClaim := { program := "ythcpfkkddfgamaa", sum := "c94aee8c16b39d9da252bb4c17dc4c958a2c244bc2fd8544a2f114a8df233061", func := "baton/batonlaw06.CodecOne", spec := "codecOne", apart := false, narrowed := true }
def CodecOneUptoSaid : Prop := codecOneUptoRow.holds Try.pinned (OpenSpec.upto codecOneSpec)

/-- 'batonlaw06.CodecReads', WHERE WHAT IT READS IS OF BULK AT MOST 1048576: true; the input reads as it did. -/
def codecReadsUptoRow : OpenClaim := { program := "ythcpfkkddfgamaa", sum := "c94aee8c16b39d9da252bb4c17dc4c958a2c244bc2fd8544a2f114a8df233061", func := "baton/batonlaw06.CodecReads", spec := "codecReads", apart := false, narrowed := true }
def CodecReadsUptoSaid : Prop := codecReadsUptoRow.holds Try.pinned (OpenSpec.upto codecReadsSpec)

/-- 'batonlaw06.CodecBack', WHERE WHAT IT READS IS OF BULK AT MOST 1048576: true; the input reads as it did. -/
def codecBackUptoRow : OpenClaim := { program := "ythcpfkkddfgamaa", sum := "c94aee8c16b39d9da252bb4c17dc4c958a2c244bc2fd8544a2f114a8df233061", func := "baton/batonlaw06.CodecBack", spec := "codecBack", apart := false, narrowed := true }
def CodecBackUptoSaid : Prop := codecBackUptoRow.holds Try.pinned (OpenSpec.upto codecBackSpec)

end Rows
end Go.Proofs.Ythcpfkkddfgamaa
