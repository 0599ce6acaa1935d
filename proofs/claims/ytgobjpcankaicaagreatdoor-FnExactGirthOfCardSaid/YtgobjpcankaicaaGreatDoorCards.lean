/-
  DERIVED. GIVEN WITH THE SEED: THE CARDS: each row of YtgobjpcankaicaaGreatDoorRows.lean that lists a variable, with what it lists TIED to the program's text (the seventh form; the later family's looks); each row that meets fmt, with fmt's text TOLD by the authors' own Lean function (tested against real Go, not proved from fmt's source: count such statements apart). THE CARD IS WHAT COUNTS. Prove the row's statement (the work); the ties are given (YtgobjpcankaicaaGreatDoorTie.lean); close each card by the builder's one call (the guide's Derived/Test/ToyasCard.lean, 'card_holds'). Laid BY PROGRAM, IN A SANDBOX (cutbox-door.mjs). By AI agents, Wed Nov 11 2026. No macro, syntax, notation, axiom, sorry.
-/
import Derived.Test.YtgobjpcankaicaaGreatDoorRows
import GoSem.ClaimSeven
namespace Go.Proofs.YtgobjpcankaicaaGreatDoor
namespace Rows

/-- THE TIED CARD OF 'laws.FnExactGirthOf'. -/
def fnExactGirthOfCard : Claim7 := { stood := { row := fnExactGirthOfRow, standIns := [], harness := (true, "b401a0ca7e03971ebad0875cee5e077700112f0ba28510224c3cd2a7eed56e4c"), looks := false }, kinds := [], alts := [], laidByText := true, laidKinds := [.data, .data, .data], laidTests := true, laidLooks := .later }
def FnExactGirthOfCardSaid : Prop := Claim7.holds Tryz.pinned (.plain (OpenSpec.ofChange fnExactGirthOfSpec)) fnExactGirthOfCard

/-- THE SECOND FORM's CARD OF 'laws.FnExactGirthOf'. -/
def fnExactGirthOfUptoCard : Claim7 := { stood := { row := fnExactGirthOfUptoRow, standIns := [], harness := (true, "b401a0ca7e03971ebad0875cee5e077700112f0ba28510224c3cd2a7eed56e4c"), looks := false }, kinds := [], alts := [], laidByText := true, laidKinds := [.data, .data, .data], laidTests := true, laidLooks := .later }
def FnExactGirthOfUptoCardSaid : Prop := Claim7.holds Tryz.pinned (.plain (OpenSpec.upto fnExactGirthOfSpec)) fnExactGirthOfUptoCard
end Rows
end Go.Proofs.YtgobjpcankaicaaGreatDoor
