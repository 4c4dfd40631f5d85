/-
  DERIVED. GIVEN WITH THE SEED: THE CARDS: each row of YtgnbhomdkchcfaaDoorRows.lean that lists a variable, with what it lists TIED to the program's text (the seventh form; the later family's looks); each row that meets fmt, with fmt's text TOLD by the authors' own Lean function (tested against real Go, not proved from fmt's source: count such statements apart). THE CARD IS WHAT COUNTS. Prove the row's statement (the work); the ties are given (YtgnbhomdkchcfaaDoorTie.lean); close each card by the builder's one call (the guide's Derived/Test/ToyasCard.lean, 'card_holds'). Laid BY PROGRAM, IN A SANDBOX (cutbox-door.mjs). By AI agents, Wed Nov 11 2026. No macro, syntax, notation, axiom, sorry.
-/
import Derived.Test.YtgnbhomdkchcfaaDoorRows
import GoSem.ClaimSeven
namespace Go.Proofs.YtgnbhomdkchcfaaDoor
namespace Rows

/-- THE TIED CARD OF 'batonlaw15.BackCuts'. -/
def backCutsCard : Claim7 := { stood := { row := backCutsRow, standIns := [], harness := (true, "051e1bd1d26813690f1d9a468b6da7482dd042665e68f940b1f3bd32902ef2f6"), looks := false }, kinds := [], alts := [], laidByText := true, laidKinds := [.data, .pinned], laidTests := true, laidLooks := .later }
def BackCutsCardSaid : Prop := Claim7.holds Tryd.pinned (.plain (OpenSpec.ofChange backCutsSpec)) backCutsCard

/-- THE TIED CARD OF 'batonlaw15.BackPlays'. -/
def backPlaysCard : Claim7 := { stood := { row := backPlaysRow, standIns := [], harness := (true, "051e1bd1d26813690f1d9a468b6da7482dd042665e68f940b1f3bd32902ef2f6"), looks := false }, kinds := [], alts := [], laidByText := true, laidKinds := [.data, .pinned], laidTests := true, laidLooks := .later }
def BackPlaysCardSaid : Prop := Claim7.holds Tryd.pinned (.plain (OpenSpec.ofChange backPlaysSpec)) backPlaysCard

/-- THE SECOND FORM's CARD OF 'batonlaw15.BackCuts'. -/
def backCutsUptoCard : Claim7 := { stood := { row := backCutsUptoRow, standIns := [], harness := (true, "051e1bd1d26813690f1d9a468b6da7482dd042665e68f940b1f3bd32902ef2f6"), looks := false }, kinds := [], alts := [], laidByText := true, laidKinds := [.data, .pinned], laidTests := true, laidLooks := .later }
def BackCutsUptoCardSaid : Prop := Claim7.holds Tryd.pinned (.plain (OpenSpec.upto backCutsSpec)) backCutsUptoCard

/-- THE SECOND FORM's CARD OF 'batonlaw15.BackPlays'. -/
def backPlaysUptoCard : Claim7 := { stood := { row := backPlaysUptoRow, standIns := [], harness := (true, "051e1bd1d26813690f1d9a468b6da7482dd042665e68f940b1f3bd32902ef2f6"), looks := false }, kinds := [], alts := [], laidByText := true, laidKinds := [.data, .pinned], laidTests := true, laidLooks := .later }
def BackPlaysUptoCardSaid : Prop := Claim7.holds Tryd.pinned (.plain (OpenSpec.upto backPlaysSpec)) backPlaysUptoCard
end Rows
end Go.Proofs.YtgnbhomdkchcfaaDoor
