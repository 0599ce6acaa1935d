/-
  DERIVED. GIVEN WITH THE SEED: THE CARDS: each row of YtagdamiiececaaaGreatDoorRows.lean that lists a variable, with what it lists TIED to the program's text (the seventh form; the later family's looks); each row that meets fmt, with fmt's text TOLD by the authors' own Lean function (tested against real Go, not proved from fmt's source: count such statements apart). THE CARD IS WHAT COUNTS. Prove the row's statement (the work); the ties are given (YtagdamiiececaaaGreatDoorTie.lean); close each card by the builder's one call (the guide's Derived/Test/ToyasCard.lean, 'card_holds'). Laid BY PROGRAM, IN A SANDBOX (cutbox-door.mjs). By AI agents, Wed Nov 11 2026. No macro, syntax, notation, axiom, sorry.
-/
import Derived.Test.YtagdamiiececaaaGreatDoorRows
import GoSem.ClaimSeven
namespace Go.Proofs.YtagdamiiececaaaGreatDoor
namespace Rows

/-- THE TIED CARD OF 'laws.FnPolytopes'. -/
def fnPolytopesCard : Claim7 := { stood := { row := fnPolytopesRow, standIns := [], harness := (true, "695ff0f0e136f3b69c139e42955d4878e02d9f258ee3cfc2aae802103585d778"), looks := false }, kinds := [], alts := [], laidByText := true, laidKinds := [.data, .data, .data], laidTests := true, laidLooks := .later }
def FnPolytopesCardSaid : Prop := Claim7.holds Tryz.pinned (.plain (OpenSpec.ofChange fnPolytopesSpec)) fnPolytopesCard

/-- THE TIED CARD OF 'laws.FnExactPolytopalManiplexes'. -/
def fnExactPolytopalManiplexesCard : Claim7 := { stood := { row := fnExactPolytopalManiplexesRow, standIns := [], harness := (true, "695ff0f0e136f3b69c139e42955d4878e02d9f258ee3cfc2aae802103585d778"), looks := false }, kinds := [], alts := [], laidByText := true, laidKinds := [.data, .data, .data], laidTests := true, laidLooks := .later }
def FnExactPolytopalManiplexesCardSaid : Prop := Claim7.holds Tryz.pinned (.plain (OpenSpec.ofChange fnExactPolytopalManiplexesSpec)) fnExactPolytopalManiplexesCard

/-- THE TIED CARD OF 'laws.FnSimplices'. -/
def fnSimplicesCard : Claim7 := { stood := { row := fnSimplicesRow, standIns := [], harness := (true, "695ff0f0e136f3b69c139e42955d4878e02d9f258ee3cfc2aae802103585d778"), looks := false }, kinds := [], alts := [], laidByText := true, laidKinds := [.data, .data, .data], laidTests := true, laidLooks := .later }
def FnSimplicesCardSaid : Prop := Claim7.holds Tryz.pinned (.plain (OpenSpec.ofChange fnSimplicesSpec)) fnSimplicesCard

/-- THE TIED CARD OF 'laws.FnPlaces'. -/
def fnPlacesCard : Claim7 := { stood := { row := fnPlacesRow, standIns := [], harness := (true, "695ff0f0e136f3b69c139e42955d4878e02d9f258ee3cfc2aae802103585d778"), looks := false }, kinds := [], alts := [], laidByText := true, laidKinds := [.data, .data, .data], laidTests := true, laidLooks := .later }
def FnPlacesCardSaid : Prop := Claim7.holds Tryz.pinned (.plain (OpenSpec.ofChange fnPlacesSpec)) fnPlacesCard

/-- THE SECOND FORM's CARD OF 'laws.FnPolytopes'. -/
def fnPolytopesUptoCard : Claim7 := { stood := { row := fnPolytopesUptoRow, standIns := [], harness := (true, "695ff0f0e136f3b69c139e42955d4878e02d9f258ee3cfc2aae802103585d778"), looks := false }, kinds := [], alts := [], laidByText := true, laidKinds := [.data, .data, .data], laidTests := true, laidLooks := .later }
def FnPolytopesUptoCardSaid : Prop := Claim7.holds Tryz.pinned (.plain (OpenSpec.upto fnPolytopesSpec)) fnPolytopesUptoCard

/-- THE SECOND FORM's CARD OF 'laws.FnExactPolytopalManiplexes'. -/
def fnExactPolytopalManiplexesUptoCard : Claim7 := { stood := { row := fnExactPolytopalManiplexesUptoRow, standIns := [], harness := (true, "695ff0f0e136f3b69c139e42955d4878e02d9f258ee3cfc2aae802103585d778"), looks := false }, kinds := [], alts := [], laidByText := true, laidKinds := [.data, .data, .data], laidTests := true, laidLooks := .later }
def FnExactPolytopalManiplexesUptoCardSaid : Prop := Claim7.holds Tryz.pinned (.plain (OpenSpec.upto fnExactPolytopalManiplexesSpec)) fnExactPolytopalManiplexesUptoCard

/-- THE SECOND FORM's CARD OF 'laws.FnSimplices'. -/
def fnSimplicesUptoCard : Claim7 := { stood := { row := fnSimplicesUptoRow, standIns := [], harness := (true, "695ff0f0e136f3b69c139e42955d4878e02d9f258ee3cfc2aae802103585d778"), looks := false }, kinds := [], alts := [], laidByText := true, laidKinds := [.data, .data, .data], laidTests := true, laidLooks := .later }
def FnSimplicesUptoCardSaid : Prop := Claim7.holds Tryz.pinned (.plain (OpenSpec.upto fnSimplicesSpec)) fnSimplicesUptoCard

/-- THE SECOND FORM's CARD OF 'laws.FnPlaces'. -/
def fnPlacesUptoCard : Claim7 := { stood := { row := fnPlacesUptoRow, standIns := [], harness := (true, "695ff0f0e136f3b69c139e42955d4878e02d9f258ee3cfc2aae802103585d778"), looks := false }, kinds := [], alts := [], laidByText := true, laidKinds := [.data, .data, .data], laidTests := true, laidLooks := .later }
def FnPlacesUptoCardSaid : Prop := Claim7.holds Tryz.pinned (.plain (OpenSpec.upto fnPlacesSpec)) fnPlacesUptoCard
end Rows
end Go.Proofs.YtagdamiiececaaaGreatDoor
