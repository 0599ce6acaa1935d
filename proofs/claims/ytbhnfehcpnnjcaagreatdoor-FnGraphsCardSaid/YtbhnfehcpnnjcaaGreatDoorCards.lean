/-
  DERIVED. GIVEN WITH THE SEED: THE CARDS: each row of YtbhnfehcpnnjcaaGreatDoorRows.lean that lists a variable, with what it lists TIED to the program's text (the seventh form; the later family's looks); each row that meets fmt, with fmt's text TOLD by the authors' own Lean function (tested against real Go, not proved from fmt's source: count such statements apart). THE CARD IS WHAT COUNTS. Prove the row's statement (the work); the ties are given (YtbhnfehcpnnjcaaGreatDoorTie.lean); close each card by the builder's one call (the guide's Derived/Test/ToyasCard.lean, 'card_holds'). Laid BY PROGRAM, IN A SANDBOX (cutbox-door.mjs). By AI agents, Wed Nov 11 2026. No macro, syntax, notation, axiom, sorry.
-/
import Derived.Test.YtbhnfehcpnnjcaaGreatDoorRows
import GoSem.ClaimSeven
namespace Go.Proofs.YtbhnfehcpnnjcaaGreatDoor
namespace Rows

/-- THE TIED CARD OF 'laws.FnGraphs'. -/
def fnGraphsCard : Claim7 := { stood := { row := fnGraphsRow, standIns := [], harness := (true, "ade151dd86c37c80a34d474b51a6682f5a86806338b0319d2b122c61c20ab0e6"), looks := false }, kinds := [], alts := [], laidByText := true, laidKinds := [.data, .data, .data], laidTests := true, laidLooks := .later }
def FnGraphsCardSaid : Prop := Claim7.holds Tryz.pinned (.plain (OpenSpec.ofChange fnGraphsSpec)) fnGraphsCard

/-- THE SECOND FORM's CARD OF 'laws.FnGraphs'. -/
def fnGraphsUptoCard : Claim7 := { stood := { row := fnGraphsUptoRow, standIns := [], harness := (true, "ade151dd86c37c80a34d474b51a6682f5a86806338b0319d2b122c61c20ab0e6"), looks := false }, kinds := [], alts := [], laidByText := true, laidKinds := [.data, .data, .data], laidTests := true, laidLooks := .later }
def FnGraphsUptoCardSaid : Prop := Claim7.holds Tryz.pinned (.plain (OpenSpec.upto fnGraphsSpec)) fnGraphsUptoCard
end Rows
end Go.Proofs.YtbhnfehcpnnjcaaGreatDoor
