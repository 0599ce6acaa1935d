/-
  DERIVED. GIVEN WITH THE SEED: THE CARDS: each row of YtiblelgfkakmiaaGreatDoorRows.lean that lists a variable, with what it lists TIED to the program's text (the seventh form; the later family's looks); each row that meets fmt, with fmt's text TOLD by the authors' own Lean function (tested against real Go, not proved from fmt's source: count such statements apart). THE CARD IS WHAT COUNTS. Prove the row's statement (the work); the ties are given (YtiblelgfkakmiaaGreatDoorTie.lean); close each card by the builder's one call (the guide's Derived/Test/ToyasCard.lean, 'card_holds'). Laid BY PROGRAM, IN A SANDBOX (cutbox-door.mjs). By AI agents, Wed Nov 11 2026. No macro, syntax, notation, axiom, sorry.
-/
import Derived.Test.YtiblelgfkakmiaaGreatDoorRows
import GoSem.ClaimSeven
namespace Go.Proofs.YtiblelgfkakmiaaGreatDoor
namespace Rows

/-- THE TIED CARD OF 'laws.FnComplexBetti'. -/
def fnComplexBettiCard : Claim7 := { stood := { row := fnComplexBettiRow, standIns := [], harness := (true, "db171a8e1888fcd04765f623c9c1526d072fad8c254f73753353fd6936504370"), looks := false }, kinds := [], alts := [], laidByText := true, laidKinds := [.data, .data, .data], laidTests := true, laidLooks := .later }
def FnComplexBettiCardSaid : Prop := Claim7.holds Tryz.pinned (.plain (OpenSpec.ofChange fnComplexBettiSpec)) fnComplexBettiCard

/-- THE TIED CARD OF 'laws.FnEulerian'. -/
def fnEulerianCard : Claim7 := { stood := { row := fnEulerianRow, standIns := [], harness := (true, "db171a8e1888fcd04765f623c9c1526d072fad8c254f73753353fd6936504370"), looks := false }, kinds := [], alts := [], laidByText := true, laidKinds := [.data, .data, .data], laidTests := true, laidLooks := .later }
def FnEulerianCardSaid : Prop := Claim7.holds Tryz.pinned (.plain (OpenSpec.ofChange fnEulerianSpec)) fnEulerianCard

/-- THE SECOND FORM's CARD OF 'laws.FnComplexBetti'. -/
def fnComplexBettiUptoCard : Claim7 := { stood := { row := fnComplexBettiUptoRow, standIns := [], harness := (true, "db171a8e1888fcd04765f623c9c1526d072fad8c254f73753353fd6936504370"), looks := false }, kinds := [], alts := [], laidByText := true, laidKinds := [.data, .data, .data], laidTests := true, laidLooks := .later }
def FnComplexBettiUptoCardSaid : Prop := Claim7.holds Tryz.pinned (.plain (OpenSpec.upto fnComplexBettiSpec)) fnComplexBettiUptoCard

/-- THE SECOND FORM's CARD OF 'laws.FnEulerian'. -/
def fnEulerianUptoCard : Claim7 := { stood := { row := fnEulerianUptoRow, standIns := [], harness := (true, "db171a8e1888fcd04765f623c9c1526d072fad8c254f73753353fd6936504370"), looks := false }, kinds := [], alts := [], laidByText := true, laidKinds := [.data, .data, .data], laidTests := true, laidLooks := .later }
def FnEulerianUptoCardSaid : Prop := Claim7.holds Tryz.pinned (.plain (OpenSpec.upto fnEulerianSpec)) fnEulerianUptoCard
end Rows
end Go.Proofs.YtiblelgfkakmiaaGreatDoor
