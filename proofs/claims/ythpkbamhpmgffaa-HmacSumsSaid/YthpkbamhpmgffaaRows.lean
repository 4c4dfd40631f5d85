/-
  No cell of these rows narrows 'for every input' (looked for: loops, veiled, ifaces, maps, wideKeys, modest, calm, conditions, laid).
  DERIVED. THE GIVEN ROWS OF THIS SEAT. 10 by the template 'for every input the law returns true; each argument reads behind the call as it read before'; 0 by the template 'total and deterministic' (their statements: YthpkbamhpmgffaaTotals.lean).
  GIVEN WITH THE SEED: the statements are not yours to turn. If you find one false, say at which input.
  Laid BY PROGRAM, IN A SANDBOX (cutbox-rows.mjs): the forced cells as the released guide's own fill.sh prints them over the translation 5ce3d3eca37962ea… (all of the seat's roots in one cut). By AI agents, Wed Nov 11 2026. No macro, syntax, notation, axiom, sorry.
-/
import Derived.Test.YthpkbamhpmgffaaChecked
import GoSem.Claim
import GoSem.ClaimJoined
import GoSem.ClaimMapViews
import Derived.JoinedTies
import Derived.KernelRfl
namespace Go.Proofs.Ythpkbamhpmgffaa
/- THE CELL 'sum', in the pinned program and in every row, IS THE sha256 OF THE DUMP (.gsa) THAT YthpkbamhpmgffaaProg.lean LOADS. Nothing in Lean hashes anything: it is a label: what it is worth is what the hold of that sum in a sandbox is worth. -/
noncomputable def Try.pinned : Pinned := { name := "ythpkbamhpmgffaa", sum := "5ce3d3eca37962ea382f73041fba2cc874d029b0df411a022cb1907a92be240f", checked := Try.checked }
namespace Rows
def none {H : Type} : Left H := { results := [], args := [] }

/-- 'batonlaw02.ShaRounds': WHATEVER THE INPUT: true; the input reads as it did. -/
def shaRoundsSpec : ChangeSpec := { name := "shaRounds", fn := fun _ => fun
  | [d1, d2] => { results := [.lit (.bool true)], args := [d1, d2] }
  | _ => none }
def shaRoundsRow : OpenClaim := { program := "ythpkbamhpmgffaa", sum := "5ce3d3eca37962ea382f73041fba2cc874d029b0df411a022cb1907a92be240f", func := "baton/batonlaw02.ShaRounds", spec := "shaRounds", apart := false }
def ShaRoundsSaid : Prop := shaRoundsRow.holds Try.pinned (OpenSpec.ofChange shaRoundsSpec)

/-- ITS FALSE NEIGHBOUR: 'it returns false'. Refute it at one input. -/
def shaRoundsWrong : ChangeSpec := { name := "shaRounds", fn := fun _ => fun
  | [d1, d2] => { results := [.lit (.bool false)], args := [d1, d2] }
  | _ => none }
def ShaRoundsWrongFalsely : Prop := shaRoundsRow.holds Try.pinned (OpenSpec.ofChange shaRoundsWrong)

/-- 'batonlaw02.ShaPads': WHATEVER THE INPUT: true; the input reads as it did. -/
def shaPadsSpec : ChangeSpec := { name := "shaPads", fn := fun _ => fun
  | [d] => { results := [.lit (.bool true)], args := [d] }
  | _ => none }
def shaPadsRow : OpenClaim := { program := "ythpkbamhpmgffaa", sum := "5ce3d3eca37962ea382f73041fba2cc874d029b0df411a022cb1907a92be240f", func := "baton/batonlaw02.ShaPads", spec := "shaPads", apart := false }
def ShaPadsSaid : Prop := shaPadsRow.holds Try.pinned (OpenSpec.ofChange shaPadsSpec)

/-- ITS FALSE NEIGHBOUR: 'it returns false'. Refute it at one input. -/
def shaPadsWrong : ChangeSpec := { name := "shaPads", fn := fun _ => fun
  | [d] => { results := [.lit (.bool false)], args := [d] }
  | _ => none }
def ShaPadsWrongFalsely : Prop := shaPadsRow.holds Try.pinned (OpenSpec.ofChange shaPadsWrong)

/-- 'batonlaw02.ShaSums': WHATEVER THE INPUT: true; the input reads as it did. -/
def shaSumsSpec : ChangeSpec := { name := "shaSums", fn := fun _ => fun
  | [d] => { results := [.lit (.bool true)], args := [d] }
  | _ => none }
def shaSumsRow : OpenClaim := { program := "ythpkbamhpmgffaa", sum := "5ce3d3eca37962ea382f73041fba2cc874d029b0df411a022cb1907a92be240f", func := "baton/batonlaw02.ShaSums", spec := "shaSums", apart := false }
def ShaSumsSaid : Prop := shaSumsRow.holds Try.pinned (OpenSpec.ofChange shaSumsSpec)

/-- ITS FALSE NEIGHBOUR: 'it returns false'. Refute it at one input. -/
def shaSumsWrong : ChangeSpec := { name := "shaSums", fn := fun _ => fun
  | [d] => { results := [.lit (.bool false)], args := [d] }
  | _ => none }
def ShaSumsWrongFalsely : Prop := shaSumsRow.holds Try.pinned (OpenSpec.ofChange shaSumsWrong)

/-- 'batonlaw02.ShaPieces': WHATEVER THE INPUT: true; the input reads as it did. -/
def shaPiecesSpec : ChangeSpec := { name := "shaPieces", fn := fun _ => fun
  | [d] => { results := [.lit (.bool true)], args := [d] }
  | _ => none }
def shaPiecesRow : OpenClaim := { program := "ythpkbamhpmgffaa", sum := "5ce3d3eca37962ea382f73041fba2cc874d029b0df411a022cb1907a92be240f", func := "baton/batonlaw02.ShaPieces", spec := "shaPieces", apart := false }
def ShaPiecesSaid : Prop := shaPiecesRow.holds Try.pinned (OpenSpec.ofChange shaPiecesSpec)

/-- ITS FALSE NEIGHBOUR: 'it returns false'. Refute it at one input. -/
def shaPiecesWrong : ChangeSpec := { name := "shaPieces", fn := fun _ => fun
  | [d] => { results := [.lit (.bool false)], args := [d] }
  | _ => none }
def ShaPiecesWrongFalsely : Prop := shaPiecesRow.holds Try.pinned (OpenSpec.ofChange shaPiecesWrong)

/-- 'batonlaw03.HmacSums': WHATEVER THE INPUT: true; the input reads as it did. -/
def hmacSumsSpec : ChangeSpec := { name := "hmacSums", fn := fun _ => fun
  | [d1, d2, d3] => { results := [.lit (.bool true)], args := [d1, d2, d3] }
  | _ => none }
def hmacSumsRow : OpenClaim := { program := "ythpkbamhpmgffaa", sum := "5ce3d3eca37962ea382f73041fba2cc874d029b0df411a022cb1907a92be240f", func := "baton/batonlaw03.HmacSums", spec := "hmacSums", apart := false }
def HmacSumsSaid : Prop := hmacSumsRow.holds Try.pinned (OpenSpec.ofChange hmacSumsSpec)

/-- ITS FALSE NEIGHBOUR: 'it returns false'. Refute it at one input. -/
def hmacSumsWrong : ChangeSpec := { name := "hmacSums", fn := fun _ => fun
  | [d1, d2, d3] => { results := [.lit (.bool false)], args := [d1, d2, d3] }
  | _ => none }
def HmacSumsWrongFalsely : Prop := hmacSumsRow.holds Try.pinned (OpenSpec.ofChange hmacSumsWrong)

/-- 'batonlaw03.HmacOwn': WHATEVER THE INPUT: true; the input reads as it did. -/
def hmacOwnSpec : ChangeSpec := { name := "hmacOwn", fn := fun _ => fun
  | [d] => { results := [.lit (.bool true)], args := [d] }
  | _ => none }
def hmacOwnRow : OpenClaim := { program := "ythpkbamhpmgffaa", sum := "5ce3d3eca37962ea382f73041fba2cc874d029b0df411a022cb1907a92be240f", func := "baton/batonlaw03.HmacOwn", spec := "hmacOwn", apart := false }
def HmacOwnSaid : Prop := hmacOwnRow.holds Try.pinned (OpenSpec.ofChange hmacOwnSpec)

/-- ITS FALSE NEIGHBOUR: 'it returns false'. Refute it at one input. -/
def hmacOwnWrong : ChangeSpec := { name := "hmacOwn", fn := fun _ => fun
  | [d] => { results := [.lit (.bool false)], args := [d] }
  | _ => none }
def HmacOwnWrongFalsely : Prop := hmacOwnRow.holds Try.pinned (OpenSpec.ofChange hmacOwnWrong)

/-- 'batonlaw03.HmacChecks': WHATEVER THE INPUT: true; the input reads as it did. -/
def hmacChecksSpec : ChangeSpec := { name := "hmacChecks", fn := fun _ => fun
  | [d1, d2, d3] => { results := [.lit (.bool true)], args := [d1, d2, d3] }
  | _ => none }
def hmacChecksRow : OpenClaim := { program := "ythpkbamhpmgffaa", sum := "5ce3d3eca37962ea382f73041fba2cc874d029b0df411a022cb1907a92be240f", func := "baton/batonlaw03.HmacChecks", spec := "hmacChecks", apart := false }
def HmacChecksSaid : Prop := hmacChecksRow.holds Try.pinned (OpenSpec.ofChange hmacChecksSpec)

/-- ITS FALSE NEIGHBOUR: 'it returns false'. Refute it at one input. -/
def hmacChecksWrong : ChangeSpec := { name := "hmacChecks", fn := fun _ => fun
  | [d1, d2, d3] => { results := [.lit (.bool false)], args := [d1, d2, d3] }
  | _ => none }
def HmacChecksWrongFalsely : Prop := hmacChecksRow.holds Try.pinned (OpenSpec.ofChange hmacChecksWrong)

/-- 'batonlaw05.KeysKnown': WHATEVER THE INPUT: true; the input reads as it did. -/
def keysKnownSpec : ChangeSpec := { name := "keysKnown", fn := fun _ => fun
  | [d1, d2, d3] => { results := [.lit (.bool true)], args := [d1, d2, d3] }
  | _ => none }
def keysKnownRow : OpenClaim := { program := "ythpkbamhpmgffaa", sum := "5ce3d3eca37962ea382f73041fba2cc874d029b0df411a022cb1907a92be240f", func := "baton/batonlaw05.KeysKnown", spec := "keysKnown", apart := false }
def KeysKnownSaid : Prop := keysKnownRow.holds Try.pinned (OpenSpec.ofChange keysKnownSpec)

/-- ITS FALSE NEIGHBOUR: 'it returns false'. Refute it at one input. -/
def keysKnownWrong : ChangeSpec := { name := "keysKnown", fn := fun _ => fun
  | [d1, d2, d3] => { results := [.lit (.bool false)], args := [d1, d2, d3] }
  | _ => none }
def KeysKnownWrongFalsely : Prop := keysKnownRow.holds Try.pinned (OpenSpec.ofChange keysKnownWrong)

/-- 'batonlaw05.KeysApart': WHATEVER THE INPUT: true; the input reads as it did. -/
def keysApartSpec : ChangeSpec := { name := "keysApart", fn := fun _ => fun
  | [d1, d2, d3] => { results := [.lit (.bool true)], args := [d1, d2, d3] }
  | _ => none }
def keysApartRow : OpenClaim := { program := "ythpkbamhpmgffaa", sum := "5ce3d3eca37962ea382f73041fba2cc874d029b0df411a022cb1907a92be240f", func := "baton/batonlaw05.KeysApart", spec := "keysApart", apart := false }
def KeysApartSaid : Prop := keysApartRow.holds Try.pinned (OpenSpec.ofChange keysApartSpec)

/-- ITS FALSE NEIGHBOUR: 'it returns false'. Refute it at one input. -/
def keysApartWrong : ChangeSpec := { name := "keysApart", fn := fun _ => fun
  | [d1, d2, d3] => { results := [.lit (.bool false)], args := [d1, d2, d3] }
  | _ => none }
def KeysApartWrongFalsely : Prop := keysApartRow.holds Try.pinned (OpenSpec.ofChange keysApartWrong)

/-- 'batonlaw05.KeysDerive': WHATEVER THE INPUT: true; the input reads as it did. -/
def keysDeriveSpec : ChangeSpec := { name := "keysDerive", fn := fun _ => fun
  | [d1, d2, d3] => { results := [.lit (.bool true)], args := [d1, d2, d3] }
  | _ => none }
def keysDeriveRow : OpenClaim := { program := "ythpkbamhpmgffaa", sum := "5ce3d3eca37962ea382f73041fba2cc874d029b0df411a022cb1907a92be240f", func := "baton/batonlaw05.KeysDerive", spec := "keysDerive", apart := false }
def KeysDeriveSaid : Prop := keysDeriveRow.holds Try.pinned (OpenSpec.ofChange keysDeriveSpec)

/-- ITS FALSE NEIGHBOUR: 'it returns false'. Refute it at one input. -/
def keysDeriveWrong : ChangeSpec := { name := "keysDerive", fn := fun _ => fun
  | [d1, d2, d3] => { results := [.lit (.bool false)], args := [d1, d2, d3] }
  | _ => none }
def KeysDeriveWrongFalsely : Prop := keysDeriveRow.holds Try.pinned (OpenSpec.ofChange keysDeriveWrong)

/- THE SECOND FORM. 'bulk': how many values and letters a reading holds, each counted each time it is reached (what is shared counts as often as it is met; a slice's spare places count too). A statement '..UptoSaid' is the law's where the arguments, and the package variables that the reading takes, are together of bulk at most 1048576: NARROWER than '..Said'. Prove '..Said' where nothing that the law and all that it calls make is longer than what came in: it says more and counts as full. Else prove '..UptoSaid'. A law counts once. -/
mutual
def uptoBulk {H : Type} : DataW H → Nat
  | .lit (.string bytes) => bytes.length + 1
  | .lit _ => 1
  | .nil => 1
  | .ptr d => uptoBulk d + 1
  | .slice elems spare => uptoBulkAll elems + uptoBulkAll spare + 1
  | .agg parts => uptoBulkAll parts + 1
  | .iface _ d => uptoBulk d + 1
  | .map entries => uptoBulkEntries entries + 1
  | .held _ => 1
def uptoBulkAll {H : Type} : List (DataW H) → Nat
  | [] => 0
  | d :: r => uptoBulk d + uptoBulkAll r
def uptoBulkEntries {H : Type} : List (Lit × DataW H) → Nat
  | [] => 0
  | x :: r => uptoBulkEntry x + uptoBulkEntries r
def uptoBulkEntry {H : Type} : Lit × DataW H → Nat
  | (.string bytes, d) => bytes.length + uptoBulk d + 1
  | (_, d) => uptoBulk d + 1
 end
def uptoSmall : (H : Type) → List (DataW H) → Bool := fun _ ds => decide (uptoBulkAll ds ≤ 1048576)
def OpenSpec.upto (s : _root_.Go.ChangeSpec) : _root_.Go.OpenSpec := { _root_.Go.OpenSpec.ofChange s with cond := some uptoSmall }

/-- 'batonlaw02.ShaRounds', WHERE WHAT IT READS IS OF BULK AT MOST 1048576: true; the input reads as it did. -/
def shaRoundsUptoRow : OpenClaim := { program := "ythpkbamhpmgffaa", sum := "5ce3d3eca37962ea382f73041fba2cc874d029b0df411a022cb1907a92be240f", func := "baton/batonlaw02.ShaRounds", spec := "shaRounds", apart := false, narrowed := true }
def ShaRoundsUptoSaid : Prop := shaRoundsUptoRow.holds Try.pinned (OpenSpec.upto shaRoundsSpec)

/-- 'batonlaw02.ShaPads', WHERE WHAT IT READS IS OF BULK AT MOST 1048576: true; the input reads as it did. -/
def shaPadsUptoRow : OpenClaim := { program := "ythpkbamhpmgffaa", sum := "5ce3d3eca37962ea382f73041fba2cc874d029b0df411a022cb1907a92be240f", func := "baton/batonlaw02.ShaPads", spec := "shaPads", apart := false, narrowed := true }
def ShaPadsUptoSaid : Prop := shaPadsUptoRow.holds Try.pinned (OpenSpec.upto shaPadsSpec)

/-- 'batonlaw02.ShaSums', WHERE WHAT IT READS IS OF BULK AT MOST 1048576: true; the input reads as it did. -/
def shaSumsUptoRow : OpenClaim := { program := "ythpkbamhpmgffaa", sum := "5ce3d3eca37962ea382f73041fba2cc874d029b0df411a022cb1907a92be240f", func := "baton/batonlaw02.ShaSums", spec := "shaSums", apart := false, narrowed := true }
def ShaSumsUptoSaid : Prop := shaSumsUptoRow.holds Try.pinned (OpenSpec.upto shaSumsSpec)

/-- 'batonlaw02.ShaPieces', WHERE WHAT IT READS IS OF BULK AT MOST 1048576: true; the input reads as it did. -/
def shaPiecesUptoRow : OpenClaim := { program := "ythpkbamhpmgffaa", sum := "5ce3d3eca37962ea382f73041fba2cc874d029b0df411a022cb1907a92be240f", func := "baton/batonlaw02.ShaPieces", spec := "shaPieces", apart := false, narrowed := true }
def ShaPiecesUptoSaid : Prop := shaPiecesUptoRow.holds Try.pinned (OpenSpec.upto shaPiecesSpec)

/-- 'batonlaw03.HmacSums', WHERE WHAT IT READS IS OF BULK AT MOST 1048576: true; the input reads as it did. -/
def hmacSumsUptoRow : OpenClaim := { program := "ythpkbamhpmgffaa", sum := "5ce3d3eca37962ea382f73041fba2cc874d029b0df411a022cb1907a92be240f", func := "baton/batonlaw03.HmacSums", spec := "hmacSums", apart := false, narrowed := true }
def HmacSumsUptoSaid : Prop := hmacSumsUptoRow.holds Try.pinned (OpenSpec.upto hmacSumsSpec)

/-- 'batonlaw03.HmacOwn', WHERE WHAT IT READS IS OF BULK AT MOST 1048576: true; the input reads as it did. -/
def hmacOwnUptoRow : OpenClaim := { program := "ythpkbamhpmgffaa", sum := "5ce3d3eca37962ea382f73041fba2cc874d029b0df411a022cb1907a92be240f", func := "baton/batonlaw03.HmacOwn", spec := "hmacOwn", apart := false, narrowed := true }
def HmacOwnUptoSaid : Prop := hmacOwnUptoRow.holds Try.pinned (OpenSpec.upto hmacOwnSpec)

/-- 'batonlaw03.HmacChecks', WHERE WHAT IT READS IS OF BULK AT MOST 1048576: true; the input reads as it did. -/
def hmacChecksUptoRow : OpenClaim := { program := "ythpkbamhpmgffaa", sum := "5ce3d3eca37962ea382f73041fba2cc874d029b0df411a022cb1907a92be240f", func := "baton/batonlaw03.HmacChecks", spec := "hmacChecks", apart := false, narrowed := true }
def HmacChecksUptoSaid : Prop := hmacChecksUptoRow.holds Try.pinned (OpenSpec.upto hmacChecksSpec)

/-- 'batonlaw05.KeysKnown', WHERE WHAT IT READS IS OF BULK AT MOST 1048576: true; the input reads as it did. -/
def keysKnownUptoRow : OpenClaim := { program := "ythpkbamhpmgffaa", sum := "5ce3d3eca37962ea382f73041fba2cc874d029b0df411a022cb1907a92be240f", func := "baton/batonlaw05.KeysKnown", spec := "keysKnown", apart := false, narrowed := true }
def KeysKnownUptoSaid : Prop := keysKnownUptoRow.holds Try.pinned (OpenSpec.upto keysKnownSpec)

/-- 'batonlaw05.KeysApart', WHERE WHAT IT READS IS OF BULK AT MOST 1048576: true; the input reads as it did. -/
def keysApartUptoRow : OpenClaim := { program := "ythpkbamhpmgffaa", sum := "5ce3d3eca37962ea382f73041fba2cc874d029b0df411a022cb1907a92be240f", func := "baton/batonlaw05.KeysApart", spec := "keysApart", apart := false, narrowed := true }
def KeysApartUptoSaid : Prop := keysApartUptoRow.holds Try.pinned (OpenSpec.upto keysApartSpec)

/-- 'batonlaw05.KeysDerive', WHERE WHAT IT READS IS OF BULK AT MOST 1048576: true; the input reads as it did. -/
def keysDeriveUptoRow : OpenClaim := { program := "ythpkbamhpmgffaa", sum := "5ce3d3eca37962ea382f73041fba2cc874d029b0df411a022cb1907a92be240f", func := "baton/batonlaw05.KeysDerive", spec := "keysDerive", apart := false, narrowed := true }
def KeysDeriveUptoSaid : Prop := keysDeriveUptoRow.holds Try.pinned (OpenSpec.upto keysDeriveSpec)

end Rows
end Go.Proofs.Ythpkbamhpmgffaa
