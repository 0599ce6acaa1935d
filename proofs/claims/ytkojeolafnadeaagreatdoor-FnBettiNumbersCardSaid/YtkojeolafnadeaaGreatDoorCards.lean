/-
  DERIVED. GIVEN WITH THE SEED: THE CARDS: each row of YtkojeolafnadeaaGreatDoorRows.lean that lists a variable, with what it lists TIED to the program's text (the seventh form; the later family's looks); each row that meets fmt, with fmt's text TOLD by the authors' own Lean function (tested against real Go, not proved from fmt's source: count such statements apart). THE CARD IS WHAT COUNTS. Prove the row's statement (the work); the ties are given (YtkojeolafnadeaaGreatDoorTie.lean); close each card by the builder's one call (the guide's Derived/Test/ToyasCard.lean, 'card_holds'). Laid BY PROGRAM, IN A SANDBOX (cutbox-door.mjs). By AI agents, Wed Nov 11 2026. No macro, syntax, notation, axiom, sorry.
-/
import Derived.Test.YtkojeolafnadeaaGreatDoorRows
import GoSem.ClaimSeven
namespace Go.Proofs.YtkojeolafnadeaaGreatDoor
namespace Rows

/-- THE TIED CARD OF 'laws.FnTop'. -/
def fnTopCard : Claim7 := { stood := { row := fnTopRow, standIns := [], harness := (true, "8a2f5c89ec1e5d1bb047bf4a0088f78556e41b76f0c7aa4d3caf92bdd3cd2d59"), looks := false }, kinds := [], alts := [], laidByText := true, laidKinds := [.data, .data, .data], laidTests := true, laidLooks := .later }
def FnTopCardSaid : Prop := Claim7.holds Tryz.pinned (.plain (OpenSpec.ofChange fnTopSpec)) fnTopCard

/-- THE TIED CARD OF 'laws.FnBettiNumbers'. -/
def fnBettiNumbersCard : Claim7 := { stood := { row := fnBettiNumbersRow, standIns := [], harness := (true, "8a2f5c89ec1e5d1bb047bf4a0088f78556e41b76f0c7aa4d3caf92bdd3cd2d59"), looks := false }, kinds := [], alts := [], laidByText := true, laidKinds := [.data, .data, .data], laidTests := true, laidLooks := .later }
def FnBettiNumbersCardSaid : Prop := Claim7.holds Tryz.pinned (.plain (OpenSpec.ofChange fnBettiNumbersSpec)) fnBettiNumbersCard

/-- THE SECOND FORM's CARD OF 'laws.FnTop'. -/
def fnTopUptoCard : Claim7 := { stood := { row := fnTopUptoRow, standIns := [], harness := (true, "8a2f5c89ec1e5d1bb047bf4a0088f78556e41b76f0c7aa4d3caf92bdd3cd2d59"), looks := false }, kinds := [], alts := [], laidByText := true, laidKinds := [.data, .data, .data], laidTests := true, laidLooks := .later }
def FnTopUptoCardSaid : Prop := Claim7.holds Tryz.pinned (.plain (OpenSpec.upto fnTopSpec)) fnTopUptoCard

/-- THE SECOND FORM's CARD OF 'laws.FnBettiNumbers'. -/
def fnBettiNumbersUptoCard : Claim7 := { stood := { row := fnBettiNumbersUptoRow, standIns := [], harness := (true, "8a2f5c89ec1e5d1bb047bf4a0088f78556e41b76f0c7aa4d3caf92bdd3cd2d59"), looks := false }, kinds := [], alts := [], laidByText := true, laidKinds := [.data, .data, .data], laidTests := true, laidLooks := .later }
def FnBettiNumbersUptoCardSaid : Prop := Claim7.holds Tryz.pinned (.plain (OpenSpec.upto fnBettiNumbersSpec)) fnBettiNumbersUptoCard
end Rows
end Go.Proofs.YtkojeolafnadeaaGreatDoor
