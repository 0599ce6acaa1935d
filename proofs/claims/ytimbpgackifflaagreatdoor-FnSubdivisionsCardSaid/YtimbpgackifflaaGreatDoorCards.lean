/-
  DERIVED. GIVEN WITH THE SEED: THE CARDS: each row of YtimbpgackifflaaGreatDoorRows.lean that lists a variable, with what it lists TIED to the program's text (the seventh form; the later family's looks); each row that meets fmt, with fmt's text TOLD by the authors' own Lean function (tested against real Go, not proved from fmt's source: count such statements apart). THE CARD IS WHAT COUNTS. Prove the row's statement (the work); the ties are given (YtimbpgackifflaaGreatDoorTie.lean); close each card by the builder's one call (the guide's Derived/Test/ToyasCard.lean, 'card_holds'). Laid BY PROGRAM, IN A SANDBOX (cutbox-door.mjs). By AI agents, Wed Nov 11 2026. No macro, syntax, notation, axiom, sorry.
-/
import Derived.Test.YtimbpgackifflaaGreatDoorRows
import GoSem.ClaimSeven
namespace Go.Proofs.YtimbpgackifflaaGreatDoor
namespace Rows

/-- THE TIED CARD OF 'laws.FnSubdivisions'. -/
def fnSubdivisionsCard : Claim7 := { stood := { row := fnSubdivisionsRow, standIns := [], harness := (true, "d82be0ae185f2ec6a04678d89543e8e16d672bc45df4fcac05a82d4b50e8e1f5"), looks := false }, kinds := [], alts := [], laidByText := true, laidKinds := [.data, .data, .data], laidTests := true, laidLooks := .later }
def FnSubdivisionsCardSaid : Prop := Claim7.holds Tryz.pinned (.plain (OpenSpec.ofChange fnSubdivisionsSpec)) fnSubdivisionsCard

/-- THE SECOND FORM's CARD OF 'laws.FnSubdivisions'. -/
def fnSubdivisionsUptoCard : Claim7 := { stood := { row := fnSubdivisionsUptoRow, standIns := [], harness := (true, "d82be0ae185f2ec6a04678d89543e8e16d672bc45df4fcac05a82d4b50e8e1f5"), looks := false }, kinds := [], alts := [], laidByText := true, laidKinds := [.data, .data, .data], laidTests := true, laidLooks := .later }
def FnSubdivisionsUptoCardSaid : Prop := Claim7.holds Tryz.pinned (.plain (OpenSpec.upto fnSubdivisionsSpec)) fnSubdivisionsUptoCard
end Rows
end Go.Proofs.YtimbpgackifflaaGreatDoor
