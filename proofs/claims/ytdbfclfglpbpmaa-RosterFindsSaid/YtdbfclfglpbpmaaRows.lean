/-
  No cell of these rows narrows 'for every input' (looked for: loops, veiled, ifaces, maps, wideKeys, modest, calm, conditions, laid).
  DERIVED. THE GIVEN ROWS OF THIS SEAT. 12 by the template 'for every input the law returns true; each argument reads behind the call as it read before'; 0 by the template 'total and deterministic' (their statements: YtdbfclfglpbpmaaTotals.lean).
  GIVEN WITH THE SEED: the statements are not yours to turn. If you find one false, say at which input.
  Laid BY PROGRAM, IN A SANDBOX (cutbox-rows.mjs): the forced cells as the released guide's own fill.sh prints them over the translation 6716153745cf66d6… (all of the seat's roots in one cut). By AI agents, Wed Nov 11 2026. No macro, syntax, notation, axiom, sorry.
-/
import Derived.Test.YtdbfclfglpbpmaaChecked
import GoSem.Claim
import GoSem.ClaimJoined
import GoSem.ClaimMapViews
import Derived.JoinedTies
import Derived.KernelRfl
namespace Go.Proofs.Ytdbfclfglpbpmaa
/- THE CELL 'sum', in the pinned program and in every row, IS THE sha256 OF THE DUMP (.gsa) THAT YtdbfclfglpbpmaaProg.lean LOADS. Nothing in Lean hashes anything: it is a label: what it is worth is what the hold of that sum in a sandbox is worth. -/
noncomputable def Try.pinned : Pinned := { name := "ytdbfclfglpbpmaa", sum := "6716153745cf66d6035c0424b665f8d5701e1ac235331406b3748f1084a3fdd9", checked := Try.checked }
namespace Rows
def none {H : Type} : Left H := { results := [], args := [] }

/-- 'batonlaw33.IntakePuts': WHATEVER THE INPUT: true; the input reads as it did. -/
def intakePutsSpec : ChangeSpec := { name := "intakePuts", fn := fun _ => fun
  | [d1, d2, d3] => { results := [.lit (.bool true)], args := [d1, d2, d3] }
  | _ => none }
def intakePutsRow : OpenClaim := { program := "ytdbfclfglpbpmaa", sum := "6716153745cf66d6035c0424b665f8d5701e1ac235331406b3748f1084a3fdd9", func := "baton/batonlaw33.IntakePuts", spec := "intakePuts", apart := false }
def IntakePutsSaid : Prop := intakePutsRow.holds Try.pinned (OpenSpec.ofChange intakePutsSpec)

/-- ITS FALSE NEIGHBOUR: 'it returns false'. Refute it at one input. -/
def intakePutsWrong : ChangeSpec := { name := "intakePuts", fn := fun _ => fun
  | [d1, d2, d3] => { results := [.lit (.bool false)], args := [d1, d2, d3] }
  | _ => none }
def IntakePutsWrongFalsely : Prop := intakePutsRow.holds Try.pinned (OpenSpec.ofChange intakePutsWrong)

/-- 'batonlaw33.IntakeTells': WHATEVER THE INPUT: true; the input reads as it did. -/
def intakeTellsSpec : ChangeSpec := { name := "intakeTells", fn := fun _ => fun
  | [d1, d2] => { results := [.lit (.bool true)], args := [d1, d2] }
  | _ => none }
def intakeTellsRow : OpenClaim := { program := "ytdbfclfglpbpmaa", sum := "6716153745cf66d6035c0424b665f8d5701e1ac235331406b3748f1084a3fdd9", func := "baton/batonlaw33.IntakeTells", spec := "intakeTells", apart := false }
def IntakeTellsSaid : Prop := intakeTellsRow.holds Try.pinned (OpenSpec.ofChange intakeTellsSpec)

/-- ITS FALSE NEIGHBOUR: 'it returns false'. Refute it at one input. -/
def intakeTellsWrong : ChangeSpec := { name := "intakeTells", fn := fun _ => fun
  | [d1, d2] => { results := [.lit (.bool false)], args := [d1, d2] }
  | _ => none }
def IntakeTellsWrongFalsely : Prop := intakeTellsRow.holds Try.pinned (OpenSpec.ofChange intakeTellsWrong)

/-- 'batonlaw31.OutboxOnce': WHATEVER THE INPUT: true; the input reads as it did. -/
def outboxOnceSpec : ChangeSpec := { name := "outboxOnce", fn := fun _ => fun
  | [d] => { results := [.lit (.bool true)], args := [d] }
  | _ => none }
def outboxOnceRow : OpenClaim := { program := "ytdbfclfglpbpmaa", sum := "6716153745cf66d6035c0424b665f8d5701e1ac235331406b3748f1084a3fdd9", func := "baton/batonlaw31.OutboxOnce", spec := "outboxOnce", apart := false }
def OutboxOnceSaid : Prop := outboxOnceRow.holds Try.pinned (OpenSpec.ofChange outboxOnceSpec)

/-- ITS FALSE NEIGHBOUR: 'it returns false'. Refute it at one input. -/
def outboxOnceWrong : ChangeSpec := { name := "outboxOnce", fn := fun _ => fun
  | [d] => { results := [.lit (.bool false)], args := [d] }
  | _ => none }
def OutboxOnceWrongFalsely : Prop := outboxOnceRow.holds Try.pinned (OpenSpec.ofChange outboxOnceWrong)

/-- 'batonlaw31.OutboxPuts': WHATEVER THE INPUT: true; the input reads as it did. -/
def outboxPutsSpec : ChangeSpec := { name := "outboxPuts", fn := fun _ => fun
  | [d1, d2] => { results := [.lit (.bool true)], args := [d1, d2] }
  | _ => none }
def outboxPutsRow : OpenClaim := { program := "ytdbfclfglpbpmaa", sum := "6716153745cf66d6035c0424b665f8d5701e1ac235331406b3748f1084a3fdd9", func := "baton/batonlaw31.OutboxPuts", spec := "outboxPuts", apart := false }
def OutboxPutsSaid : Prop := outboxPutsRow.holds Try.pinned (OpenSpec.ofChange outboxPutsSpec)

/-- ITS FALSE NEIGHBOUR: 'it returns false'. Refute it at one input. -/
def outboxPutsWrong : ChangeSpec := { name := "outboxPuts", fn := fun _ => fun
  | [d1, d2] => { results := [.lit (.bool false)], args := [d1, d2] }
  | _ => none }
def OutboxPutsWrongFalsely : Prop := outboxPutsRow.holds Try.pinned (OpenSpec.ofChange outboxPutsWrong)

/-- 'batonlaw31.OutboxAcks': WHATEVER THE INPUT: true; the input reads as it did. -/
def outboxAcksSpec : ChangeSpec := { name := "outboxAcks", fn := fun _ => fun
  | [d1, d2] => { results := [.lit (.bool true)], args := [d1, d2] }
  | _ => none }
def outboxAcksRow : OpenClaim := { program := "ytdbfclfglpbpmaa", sum := "6716153745cf66d6035c0424b665f8d5701e1ac235331406b3748f1084a3fdd9", func := "baton/batonlaw31.OutboxAcks", spec := "outboxAcks", apart := false }
def OutboxAcksSaid : Prop := outboxAcksRow.holds Try.pinned (OpenSpec.ofChange outboxAcksSpec)

/-- ITS FALSE NEIGHBOUR: 'it returns false'. Refute it at one input. -/
def outboxAcksWrong : ChangeSpec := { name := "outboxAcks", fn := fun _ => fun
  | [d1, d2] => { results := [.lit (.bool false)], args := [d1, d2] }
  | _ => none }
def OutboxAcksWrongFalsely : Prop := outboxAcksRow.holds Try.pinned (OpenSpec.ofChange outboxAcksWrong)

/-- 'batonlaw32.InboxOnce': WHATEVER THE INPUT: true; the input reads as it did. -/
def inboxOnceSpec : ChangeSpec := { name := "inboxOnce", fn := fun _ => fun
  | [d1, d2] => { results := [.lit (.bool true)], args := [d1, d2] }
  | _ => none }
def inboxOnceRow : OpenClaim := { program := "ytdbfclfglpbpmaa", sum := "6716153745cf66d6035c0424b665f8d5701e1ac235331406b3748f1084a3fdd9", func := "baton/batonlaw32.InboxOnce", spec := "inboxOnce", inPlace := ["slices.overlaps[baton/inbox.Held]"], unfollowed := true, recurses := true, apart := false }
def InboxOnceSaid : Prop := inboxOnceRow.holds Try.pinned (OpenSpec.ofChange inboxOnceSpec)

/-- ITS FALSE NEIGHBOUR: 'it returns false'. Refute it at one input. -/
def inboxOnceWrong : ChangeSpec := { name := "inboxOnce", fn := fun _ => fun
  | [d1, d2] => { results := [.lit (.bool false)], args := [d1, d2] }
  | _ => none }
def InboxOnceWrongFalsely : Prop := inboxOnceRow.holds Try.pinned (OpenSpec.ofChange inboxOnceWrong)

/-- 'batonlaw32.InboxTakes': WHATEVER THE INPUT: true; the input reads as it did. -/
def inboxTakesSpec : ChangeSpec := { name := "inboxTakes", fn := fun _ => fun
  | [d1, d2, d3] => { results := [.lit (.bool true)], args := [d1, d2, d3] }
  | _ => none }
def inboxTakesRow : OpenClaim := { program := "ytdbfclfglpbpmaa", sum := "6716153745cf66d6035c0424b665f8d5701e1ac235331406b3748f1084a3fdd9", func := "baton/batonlaw32.InboxTakes", spec := "inboxTakes", inPlace := ["slices.overlaps[baton/inbox.Held]"], unfollowed := true, recurses := true, apart := false }
def InboxTakesSaid : Prop := inboxTakesRow.holds Try.pinned (OpenSpec.ofChange inboxTakesSpec)

/-- ITS FALSE NEIGHBOUR: 'it returns false'. Refute it at one input. -/
def inboxTakesWrong : ChangeSpec := { name := "inboxTakes", fn := fun _ => fun
  | [d1, d2, d3] => { results := [.lit (.bool false)], args := [d1, d2, d3] }
  | _ => none }
def InboxTakesWrongFalsely : Prop := inboxTakesRow.holds Try.pinned (OpenSpec.ofChange inboxTakesWrong)

/-- 'batonlaw21.DiskKeeps': WHATEVER THE INPUT: true; the input reads as it did. -/
def diskKeepsSpec : ChangeSpec := { name := "diskKeeps", fn := fun _ => fun
  | [d1, d2, d3] => { results := [.lit (.bool true)], args := [d1, d2, d3] }
  | _ => none }
def diskKeepsRow : OpenClaim := { program := "ytdbfclfglpbpmaa", sum := "6716153745cf66d6035c0424b665f8d5701e1ac235331406b3748f1084a3fdd9", func := "baton/batonlaw21.DiskKeeps", spec := "diskKeeps", apart := false }
def DiskKeepsSaid : Prop := diskKeepsRow.holds Try.pinned (OpenSpec.ofChange diskKeepsSpec)

/-- ITS FALSE NEIGHBOUR: 'it returns false'. Refute it at one input. -/
def diskKeepsWrong : ChangeSpec := { name := "diskKeeps", fn := fun _ => fun
  | [d1, d2, d3] => { results := [.lit (.bool false)], args := [d1, d2, d3] }
  | _ => none }
def DiskKeepsWrongFalsely : Prop := diskKeepsRow.holds Try.pinned (OpenSpec.ofChange diskKeepsWrong)

/-- 'batonlaw21.DiskPlays': WHATEVER THE INPUT: true; the input reads as it did. -/
def diskPlaysSpec : ChangeSpec := { name := "diskPlays", fn := fun _ => fun
  | [d1, d2, d3] => { results := [.lit (.bool true)], args := [d1, d2, d3] }
  | _ => none }
def diskPlaysRow : OpenClaim := { program := "ytdbfclfglpbpmaa", sum := "6716153745cf66d6035c0424b665f8d5701e1ac235331406b3748f1084a3fdd9", func := "baton/batonlaw21.DiskPlays", spec := "diskPlays", apart := false }
def DiskPlaysSaid : Prop := diskPlaysRow.holds Try.pinned (OpenSpec.ofChange diskPlaysSpec)

/-- ITS FALSE NEIGHBOUR: 'it returns false'. Refute it at one input. -/
def diskPlaysWrong : ChangeSpec := { name := "diskPlays", fn := fun _ => fun
  | [d1, d2, d3] => { results := [.lit (.bool false)], args := [d1, d2, d3] }
  | _ => none }
def DiskPlaysWrongFalsely : Prop := diskPlaysRow.holds Try.pinned (OpenSpec.ofChange diskPlaysWrong)

/-- 'batonlaw25.RosterOnce': WHATEVER THE INPUT: true; the input reads as it did. -/
def rosterOnceSpec : ChangeSpec := { name := "rosterOnce", fn := fun _ => fun
  | [d] => { results := [.lit (.bool true)], args := [d] }
  | _ => none }
def rosterOnceRow : OpenClaim := { program := "ytdbfclfglpbpmaa", sum := "6716153745cf66d6035c0424b665f8d5701e1ac235331406b3748f1084a3fdd9", func := "baton/batonlaw25.RosterOnce", spec := "rosterOnce", inPlace := ["slices.overlaps[baton/roster.Device]"], unfollowed := true, recurses := true, apart := false }
def RosterOnceSaid : Prop := rosterOnceRow.holds Try.pinned (OpenSpec.ofChange rosterOnceSpec)

/-- ITS FALSE NEIGHBOUR: 'it returns false'. Refute it at one input. -/
def rosterOnceWrong : ChangeSpec := { name := "rosterOnce", fn := fun _ => fun
  | [d] => { results := [.lit (.bool false)], args := [d] }
  | _ => none }
def RosterOnceWrongFalsely : Prop := rosterOnceRow.holds Try.pinned (OpenSpec.ofChange rosterOnceWrong)

/-- 'batonlaw25.RosterChanges': WHATEVER THE INPUT: true; the input reads as it did. -/
def rosterChangesSpec : ChangeSpec := { name := "rosterChanges", fn := fun _ => fun
  | [d1, d2, d3] => { results := [.lit (.bool true)], args := [d1, d2, d3] }
  | _ => none }
def rosterChangesRow : OpenClaim := { program := "ytdbfclfglpbpmaa", sum := "6716153745cf66d6035c0424b665f8d5701e1ac235331406b3748f1084a3fdd9", func := "baton/batonlaw25.RosterChanges", spec := "rosterChanges", inPlace := ["slices.overlaps[baton/roster.Device]"], unfollowed := true, recurses := true, apart := false }
def RosterChangesSaid : Prop := rosterChangesRow.holds Try.pinned (OpenSpec.ofChange rosterChangesSpec)

/-- ITS FALSE NEIGHBOUR: 'it returns false'. Refute it at one input. -/
def rosterChangesWrong : ChangeSpec := { name := "rosterChanges", fn := fun _ => fun
  | [d1, d2, d3] => { results := [.lit (.bool false)], args := [d1, d2, d3] }
  | _ => none }
def RosterChangesWrongFalsely : Prop := rosterChangesRow.holds Try.pinned (OpenSpec.ofChange rosterChangesWrong)

/-- 'batonlaw25.RosterFinds': WHATEVER THE INPUT: true; the input reads as it did. -/
def rosterFindsSpec : ChangeSpec := { name := "rosterFinds", fn := fun _ => fun
  | [d1, d2, d3] => { results := [.lit (.bool true)], args := [d1, d2, d3] }
  | _ => none }
def rosterFindsRow : OpenClaim := { program := "ytdbfclfglpbpmaa", sum := "6716153745cf66d6035c0424b665f8d5701e1ac235331406b3748f1084a3fdd9", func := "baton/batonlaw25.RosterFinds", spec := "rosterFinds", inPlace := ["slices.overlaps[baton/roster.Device]"], unfollowed := true, recurses := true, apart := false }
def RosterFindsSaid : Prop := rosterFindsRow.holds Try.pinned (OpenSpec.ofChange rosterFindsSpec)

/-- ITS FALSE NEIGHBOUR: 'it returns false'. Refute it at one input. -/
def rosterFindsWrong : ChangeSpec := { name := "rosterFinds", fn := fun _ => fun
  | [d1, d2, d3] => { results := [.lit (.bool false)], args := [d1, d2, d3] }
  | _ => none }
def RosterFindsWrongFalsely : Prop := rosterFindsRow.holds Try.pinned (OpenSpec.ofChange rosterFindsWrong)

/- THE SECOND FORM. 'bulk': how many values and letters a reading holds, each counted each time it is reached (what is shared counts as often as it is met; a slice's spare places count too). A statement '..UptoSaid' is the law's where the arguments, and the package variables that the reading takes, are together of bulk at most 1048576: NARROWER than '..Said'. Prove '..Said' where nothing that the law and all that it calls make is longer than what came in: it says more and counts as full. Else prove '..UptoSaid'. A law counts once. -/
mutual
def uptoBulk {H : Type} : DataW H → Nat
  | .lit (.string bytes) => bytes.length + 1
  | .lit _ => 1
  | .nil => 1
  | .ptr d => uptoBulk d + 1
  | .slice elems spare => uptoBulkAll elems + uptoBulkAll spare + 1
  | .agg parts => uptoBulkAll parts + 1
  | .iface _ d => uptoBulk d + 1
  | .map entries => uptoBulkEntries entries + 1
  | .held _ => 1
def uptoBulkAll {H : Type} : List (DataW H) → Nat
  | [] => 0
  | d :: r => uptoBulk d + uptoBulkAll r
def uptoBulkEntries {H : Type} : List (Lit × DataW H) → Nat
  | [] => 0
  | x :: r => uptoBulkEntry x + uptoBulkEntries r
def uptoBulkEntry {H : Type} : Lit × DataW H → Nat
  | (.string bytes, d) => bytes.length + uptoBulk d + 1
  | (_, d) => uptoBulk d + 1
 end
def uptoSmall : (H : Type) → List (DataW H) → Bool := fun _ ds => decide (uptoBulkAll ds ≤ 1048576)
def OpenSpec.upto (s : _root_.Go.ChangeSpec) : _root_.Go.OpenSpec := { _root_.Go.OpenSpec.ofChange s with cond := some uptoSmall }

/-- 'batonlaw33.IntakePuts', WHERE WHAT IT READS IS OF BULK AT MOST 1048576: true; the input reads as it did. -/
def intakePutsUptoRow : OpenClaim := { program := "ytdbfclfglpbpmaa", sum := "6716153745cf66d6035c0424b665f8d5701e1ac235331406b3748f1084a3fdd9", func := "baton/batonlaw33.IntakePuts", spec := "intakePuts", apart := false, narrowed := true }
def IntakePutsUptoSaid : Prop := intakePutsUptoRow.holds Try.pinned (OpenSpec.upto intakePutsSpec)

/-- 'batonlaw33.IntakeTells', WHERE WHAT IT READS IS OF BULK AT MOST 1048576: true; the input reads as it did. -/
def intakeTellsUptoRow : OpenClaim := { program := "ytdbfclfglpbpmaa", sum := "6716153745cf66d6035c0424b665f8d5701e1ac235331406b3748f1084a3fdd9", func := "baton/batonlaw33.IntakeTells", spec := "intakeTells", apart := false, narrowed := true }
def IntakeTellsUptoSaid : Prop := intakeTellsUptoRow.holds Try.pinned (OpenSpec.upto intakeTellsSpec)

/-- 'batonlaw31.OutboxOnce', WHERE WHAT IT READS IS OF BULK AT MOST 1048576: true; the input reads as it did. -/
def outboxOnceUptoRow : OpenClaim := { program := "ytdbfclfglpbpmaa", sum := "6716153745cf66d6035c0424b665f8d5701e1ac235331406b3748f1084a3fdd9", func := "baton/batonlaw31.OutboxOnce", spec := "outboxOnce", apart := false, narrowed := true }
def OutboxOnceUptoSaid : Prop := outboxOnceUptoRow.holds Try.pinned (OpenSpec.upto outboxOnceSpec)

/-- 'batonlaw31.OutboxPuts', WHERE WHAT IT READS IS OF BULK AT MOST 1048576: true; the input reads as it did. -/
def outboxPutsUptoRow : OpenClaim := { program := "ytdbfclfglpbpmaa", sum := "6716153745cf66d6035c0424b665f8d5701e1ac235331406b3748f1084a3fdd9", func := "baton/batonlaw31.OutboxPuts", spec := "outboxPuts", apart := false, narrowed := true }
def OutboxPutsUptoSaid : Prop := outboxPutsUptoRow.holds Try.pinned (OpenSpec.upto outboxPutsSpec)

/-- 'batonlaw31.OutboxAcks', WHERE WHAT IT READS IS OF BULK AT MOST 1048576: true; the input reads as it did. -/
def outboxAcksUptoRow : OpenClaim := { program := "ytdbfclfglpbpmaa", sum := "6716153745cf66d6035c0424b665f8d5701e1ac235331406b3748f1084a3fdd9", func := "baton/batonlaw31.OutboxAcks", spec := "outboxAcks", apart := false, narrowed := true }
def OutboxAcksUptoSaid : Prop := outboxAcksUptoRow.holds Try.pinned (OpenSpec.upto outboxAcksSpec)

/-- 'batonlaw32.InboxOnce', WHERE WHAT IT READS IS OF BULK AT MOST 1048576: true; the input reads as it did. -/
def inboxOnceUptoRow : OpenClaim := { program := "ytdbfclfglpbpmaa", sum := "6716153745cf66d6035c0424b665f8d5701e1ac235331406b3748f1084a3fdd9", func := "baton/batonlaw32.InboxOnce", spec := "inboxOnce", inPlace := ["slices.overlaps[baton/inbox.Held]"], unfollowed := true, recurses := true, apart := false, narrowed := true }
def InboxOnceUptoSaid : Prop := inboxOnceUptoRow.holds Try.pinned (OpenSpec.upto inboxOnceSpec)

/-- 'batonlaw32.InboxTakes', WHERE WHAT IT READS IS OF BULK AT MOST 1048576: true; the input reads as it did. -/
def inboxTakesUptoRow : OpenClaim := { program := "ytdbfclfglpbpmaa", sum := "6716153745cf66d6035c0424b665f8d5701e1ac235331406b3748f1084a3fdd9", func := "baton/batonlaw32.InboxTakes", spec := "inboxTakes", inPlace := ["slices.overlaps[baton/inbox.Held]"], unfollowed := true, recurses := true, apart := false, narrowed := true }
def InboxTakesUptoSaid : Prop := inboxTakesUptoRow.holds Try.pinned (OpenSpec.upto inboxTakesSpec)

/-- 'batonlaw21.DiskKeeps', WHERE WHAT IT READS IS OF BULK AT MOST 1048576: true; the input reads as it did. -/
def diskKeepsUptoRow : OpenClaim := { program := "ytdbfclfglpbpmaa", sum := "6716153745cf66d6035c0424b665f8d5701e1ac235331406b3748f1084a3fdd9", func := "baton/batonlaw21.DiskKeeps", spec := "diskKeeps", apart := false, narrowed := true }
def DiskKeepsUptoSaid : Prop := diskKeepsUptoRow.holds Try.pinned (OpenSpec.upto diskKeepsSpec)

/-- 'batonlaw21.DiskPlays', WHERE WHAT IT READS IS OF BULK AT MOST 1048576: true; the input reads as it did. -/
def diskPlaysUptoRow : OpenClaim := { program := "ytdbfclfglpbpmaa", sum := "6716153745cf66d6035c0424b665f8d5701e1ac235331406b3748f1084a3fdd9", func := "baton/batonlaw21.DiskPlays", spec := "diskPlays", apart := false, narrowed := true }
def DiskPlaysUptoSaid : Prop := diskPlaysUptoRow.holds Try.pinned (OpenSpec.upto diskPlaysSpec)

/-- 'batonlaw25.RosterOnce', WHERE WHAT IT READS IS OF BULK AT MOST 1048576: true; the input reads as it did. -/
def rosterOnceUptoRow : OpenClaim := { program := "ytdbfclfglpbpmaa", sum := "6716153745cf66d6035c0424b665f8d5701e1ac235331406b3748f1084a3fdd9", func := "baton/batonlaw25.RosterOnce", spec := "rosterOnce", inPlace := ["slices.overlaps[baton/roster.Device]"], unfollowed := true, recurses := true, apart := false, narrowed := true }
def RosterOnceUptoSaid : Prop := rosterOnceUptoRow.holds Try.pinned (OpenSpec.upto rosterOnceSpec)

/-- 'batonlaw25.RosterChanges', WHERE WHAT IT READS IS OF BULK AT MOST 1048576: true; the input reads as it did. -/
def rosterChangesUptoRow : OpenClaim := { program := "ytdbfclfglpbpmaa", sum := "6716153745cf66d6035c0424b665f8d5701e1ac235331406b3748f1084a3fdd9", func := "baton/batonlaw25.RosterChanges", spec := "rosterChanges", inPlace := ["slices.overlaps[baton/roster.Device]"], unfollowed := true, recurses := true, apart := false, narrowed := true }
def RosterChangesUptoSaid : Prop := rosterChangesUptoRow.holds Try.pinned (OpenSpec.upto rosterChangesSpec)

/-- 'batonlaw25.RosterFinds', WHERE WHAT IT READS IS OF BULK AT MOST 1048576: true; the input reads as it did. -/
def rosterFindsUptoRow : OpenClaim := { program := "ytdbfclfglpbpmaa", sum := "6716153745cf66d6035c0424b665f8d5701e1ac235331406b3748f1084a3fdd9", func := "baton/batonlaw25.RosterFinds", spec := "rosterFinds", inPlace := ["slices.overlaps[baton/roster.Device]"], unfollowed := true, recurses := true, apart := false, narrowed := true }
def RosterFindsUptoSaid : Prop := rosterFindsUptoRow.holds Try.pinned (OpenSpec.upto rosterFindsSpec)

end Rows
end Go.Proofs.Ytdbfclfglpbpmaa
