/-
  DERIVED. GIVEN WITH THE SEED: THE CARDS: each row of YtdedegbendjmbaaGreatDoorRows.lean that lists a variable, with what it lists TIED to the program's text (the seventh form; the later family's looks); each row that meets fmt, with fmt's text TOLD by the authors' own Lean function (tested against real Go, not proved from fmt's source: count such statements apart). THE CARD IS WHAT COUNTS. Prove the row's statement (the work); the ties are given (YtdedegbendjmbaaGreatDoorTie.lean); close each card by the builder's one call (the guide's Derived/Test/ToyasCard.lean, 'card_holds'). Laid BY PROGRAM, IN A SANDBOX (cutbox-door.mjs). By AI agents, Wed Nov 11 2026. No macro, syntax, notation, axiom, sorry.
-/
import Derived.Test.YtdedegbendjmbaaGreatDoorRows
import GoSem.ClaimSeven
namespace Go.Proofs.YtdedegbendjmbaaGreatDoor
namespace Rows

/-- THE TIED CARD OF 'laws.FnExactLinkOf'. -/
def fnExactLinkOfCard : Claim7 := { stood := { row := fnExactLinkOfRow, standIns := [], harness := (true, "0199d36a749aa786e9efe09d435beb9b0008244ca829299913cd333c5da1c243"), looks := false }, kinds := [], alts := [], laidByText := true, laidKinds := [.data, .data, .data], laidTests := true, laidLooks := .later }
def FnExactLinkOfCardSaid : Prop := Claim7.holds Tryz.pinned (.plain (OpenSpec.ofChange fnExactLinkOfSpec)) fnExactLinkOfCard

/-- THE TIED CARD OF 'laws.FnExactComplexBetti'. -/
def fnExactComplexBettiCard : Claim7 := { stood := { row := fnExactComplexBettiRow, standIns := [], harness := (true, "0199d36a749aa786e9efe09d435beb9b0008244ca829299913cd333c5da1c243"), looks := false }, kinds := [], alts := [], laidByText := true, laidKinds := [.data, .data, .data], laidTests := true, laidLooks := .later }
def FnExactComplexBettiCardSaid : Prop := Claim7.holds Tryz.pinned (.plain (OpenSpec.ofChange fnExactComplexBettiSpec)) fnExactComplexBettiCard

/-- THE TIED CARD OF 'laws.FnExactBoundaryOf'. -/
def fnExactBoundaryOfCard : Claim7 := { stood := { row := fnExactBoundaryOfRow, standIns := [], harness := (true, "0199d36a749aa786e9efe09d435beb9b0008244ca829299913cd333c5da1c243"), looks := false }, kinds := [], alts := [], laidByText := true, laidKinds := [.data, .data, .data], laidTests := true, laidLooks := .later }
def FnExactBoundaryOfCardSaid : Prop := Claim7.holds Tryz.pinned (.plain (OpenSpec.ofChange fnExactBoundaryOfSpec)) fnExactBoundaryOfCard

/-- THE TIED CARD OF 'laws.FnComplexes'. -/
def fnComplexesCard : Claim7 := { stood := { row := fnComplexesRow, standIns := [], harness := (true, "0199d36a749aa786e9efe09d435beb9b0008244ca829299913cd333c5da1c243"), looks := false }, kinds := [], alts := [], laidByText := true, laidKinds := [.data, .data, .data], laidTests := true, laidLooks := .later }
def FnComplexesCardSaid : Prop := Claim7.holds Tryz.pinned (.plain (OpenSpec.ofChange fnComplexesSpec)) fnComplexesCard

/-- THE TIED CARD OF 'laws.FnLinks'. -/
def fnLinksCard : Claim7 := { stood := { row := fnLinksRow, standIns := [], harness := (true, "0199d36a749aa786e9efe09d435beb9b0008244ca829299913cd333c5da1c243"), looks := false }, kinds := [], alts := [], laidByText := true, laidKinds := [.data, .data, .data], laidTests := true, laidLooks := .later }
def FnLinksCardSaid : Prop := Claim7.holds Tryz.pinned (.plain (OpenSpec.ofChange fnLinksSpec)) fnLinksCard

/-- THE TIED CARD OF 'laws.FnVectors'. -/
def fnVectorsCard : Claim7 := { stood := { row := fnVectorsRow, standIns := [], harness := (true, "0199d36a749aa786e9efe09d435beb9b0008244ca829299913cd333c5da1c243"), looks := false }, kinds := [], alts := [], laidByText := true, laidKinds := [.data, .data, .data], laidTests := true, laidLooks := .later }
def FnVectorsCardSaid : Prop := Claim7.holds Tryz.pinned (.plain (OpenSpec.ofChange fnVectorsSpec)) fnVectorsCard

/-- THE TIED CARD OF 'laws.FnComplexBetti'. -/
def fnComplexBettiCard : Claim7 := { stood := { row := fnComplexBettiRow, standIns := [], harness := (true, "0199d36a749aa786e9efe09d435beb9b0008244ca829299913cd333c5da1c243"), looks := false }, kinds := [], alts := [], laidByText := true, laidKinds := [.data, .data, .data], laidTests := true, laidLooks := .later }
def FnComplexBettiCardSaid : Prop := Claim7.holds Tryz.pinned (.plain (OpenSpec.ofChange fnComplexBettiSpec)) fnComplexBettiCard

/-- THE TIED CARD OF 'laws.FnEulerian'. -/
def fnEulerianCard : Claim7 := { stood := { row := fnEulerianRow, standIns := [], harness := (true, "0199d36a749aa786e9efe09d435beb9b0008244ca829299913cd333c5da1c243"), looks := false }, kinds := [], alts := [], laidByText := true, laidKinds := [.data, .data, .data], laidTests := true, laidLooks := .later }
def FnEulerianCardSaid : Prop := Claim7.holds Tryz.pinned (.plain (OpenSpec.ofChange fnEulerianSpec)) fnEulerianCard

/-- THE SECOND FORM's CARD OF 'laws.FnExactLinkOf'. -/
def fnExactLinkOfUptoCard : Claim7 := { stood := { row := fnExactLinkOfUptoRow, standIns := [], harness := (true, "0199d36a749aa786e9efe09d435beb9b0008244ca829299913cd333c5da1c243"), looks := false }, kinds := [], alts := [], laidByText := true, laidKinds := [.data, .data, .data], laidTests := true, laidLooks := .later }
def FnExactLinkOfUptoCardSaid : Prop := Claim7.holds Tryz.pinned (.plain (OpenSpec.upto fnExactLinkOfSpec)) fnExactLinkOfUptoCard

/-- THE SECOND FORM's CARD OF 'laws.FnExactComplexBetti'. -/
def fnExactComplexBettiUptoCard : Claim7 := { stood := { row := fnExactComplexBettiUptoRow, standIns := [], harness := (true, "0199d36a749aa786e9efe09d435beb9b0008244ca829299913cd333c5da1c243"), looks := false }, kinds := [], alts := [], laidByText := true, laidKinds := [.data, .data, .data], laidTests := true, laidLooks := .later }
def FnExactComplexBettiUptoCardSaid : Prop := Claim7.holds Tryz.pinned (.plain (OpenSpec.upto fnExactComplexBettiSpec)) fnExactComplexBettiUptoCard

/-- THE SECOND FORM's CARD OF 'laws.FnExactBoundaryOf'. -/
def fnExactBoundaryOfUptoCard : Claim7 := { stood := { row := fnExactBoundaryOfUptoRow, standIns := [], harness := (true, "0199d36a749aa786e9efe09d435beb9b0008244ca829299913cd333c5da1c243"), looks := false }, kinds := [], alts := [], laidByText := true, laidKinds := [.data, .data, .data], laidTests := true, laidLooks := .later }
def FnExactBoundaryOfUptoCardSaid : Prop := Claim7.holds Tryz.pinned (.plain (OpenSpec.upto fnExactBoundaryOfSpec)) fnExactBoundaryOfUptoCard

/-- THE SECOND FORM's CARD OF 'laws.FnComplexes'. -/
def fnComplexesUptoCard : Claim7 := { stood := { row := fnComplexesUptoRow, standIns := [], harness := (true, "0199d36a749aa786e9efe09d435beb9b0008244ca829299913cd333c5da1c243"), looks := false }, kinds := [], alts := [], laidByText := true, laidKinds := [.data, .data, .data], laidTests := true, laidLooks := .later }
def FnComplexesUptoCardSaid : Prop := Claim7.holds Tryz.pinned (.plain (OpenSpec.upto fnComplexesSpec)) fnComplexesUptoCard

/-- THE SECOND FORM's CARD OF 'laws.FnLinks'. -/
def fnLinksUptoCard : Claim7 := { stood := { row := fnLinksUptoRow, standIns := [], harness := (true, "0199d36a749aa786e9efe09d435beb9b0008244ca829299913cd333c5da1c243"), looks := false }, kinds := [], alts := [], laidByText := true, laidKinds := [.data, .data, .data], laidTests := true, laidLooks := .later }
def FnLinksUptoCardSaid : Prop := Claim7.holds Tryz.pinned (.plain (OpenSpec.upto fnLinksSpec)) fnLinksUptoCard

/-- THE SECOND FORM's CARD OF 'laws.FnVectors'. -/
def fnVectorsUptoCard : Claim7 := { stood := { row := fnVectorsUptoRow, standIns := [], harness := (true, "0199d36a749aa786e9efe09d435beb9b0008244ca829299913cd333c5da1c243"), looks := false }, kinds := [], alts := [], laidByText := true, laidKinds := [.data, .data, .data], laidTests := true, laidLooks := .later }
def FnVectorsUptoCardSaid : Prop := Claim7.holds Tryz.pinned (.plain (OpenSpec.upto fnVectorsSpec)) fnVectorsUptoCard

/-- THE SECOND FORM's CARD OF 'laws.FnComplexBetti'. -/
def fnComplexBettiUptoCard : Claim7 := { stood := { row := fnComplexBettiUptoRow, standIns := [], harness := (true, "0199d36a749aa786e9efe09d435beb9b0008244ca829299913cd333c5da1c243"), looks := false }, kinds := [], alts := [], laidByText := true, laidKinds := [.data, .data, .data], laidTests := true, laidLooks := .later }
def FnComplexBettiUptoCardSaid : Prop := Claim7.holds Tryz.pinned (.plain (OpenSpec.upto fnComplexBettiSpec)) fnComplexBettiUptoCard

/-- THE SECOND FORM's CARD OF 'laws.FnEulerian'. -/
def fnEulerianUptoCard : Claim7 := { stood := { row := fnEulerianUptoRow, standIns := [], harness := (true, "0199d36a749aa786e9efe09d435beb9b0008244ca829299913cd333c5da1c243"), looks := false }, kinds := [], alts := [], laidByText := true, laidKinds := [.data, .data, .data], laidTests := true, laidLooks := .later }
def FnEulerianUptoCardSaid : Prop := Claim7.holds Tryz.pinned (.plain (OpenSpec.upto fnEulerianSpec)) fnEulerianUptoCard
end Rows
end Go.Proofs.YtdedegbendjmbaaGreatDoor
