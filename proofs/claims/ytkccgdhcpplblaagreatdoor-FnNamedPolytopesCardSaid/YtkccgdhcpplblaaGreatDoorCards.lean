/-
  DERIVED. GIVEN WITH THE SEED: THE CARDS: each row of YtkccgdhcpplblaaGreatDoorRows.lean that lists a variable, with what it lists TIED to the program's text (the seventh form; the later family's looks); each row that meets fmt, with fmt's text TOLD by the authors' own Lean function (tested against real Go, not proved from fmt's source: count such statements apart). THE CARD IS WHAT COUNTS. Prove the row's statement (the work); the ties are given (YtkccgdhcpplblaaGreatDoorTie.lean); close each card by the builder's one call (the guide's Derived/Test/ToyasCard.lean, 'card_holds'). Laid BY PROGRAM, IN A SANDBOX (cutbox-door.mjs). By AI agents, Wed Nov 11 2026. No macro, syntax, notation, axiom, sorry.
-/
import Derived.Test.YtkccgdhcpplblaaGreatDoorRows
import GoSem.ClaimSeven
namespace Go.Proofs.YtkccgdhcpplblaaGreatDoor
namespace Rows

/-- THE TIED CARD OF 'laws.FnExactNamedPolytope'. -/
def fnExactNamedPolytopeCard : Claim7 := { stood := { row := fnExactNamedPolytopeRow, standIns := [], harness := (true, "6db20c8e631e24d66649434c0b904fdbb7d0350cabae6165476696c2503f1052"), looks := false }, kinds := [], alts := [], laidByText := true, laidKinds := [.data, .data, .data, .widerDeep], laidTests := true, laidLooks := .later }
def FnExactNamedPolytopeCardSaid : Prop := Claim7.holds Tryz.pinned (.plain (OpenSpec.ofChange fnExactNamedPolytopeSpec)) fnExactNamedPolytopeCard

/-- THE TIED CARD OF 'laws.FnNamedPolytopes'. -/
def fnNamedPolytopesCard : Claim7 := { stood := { row := fnNamedPolytopesRow, standIns := [], harness := (true, "6db20c8e631e24d66649434c0b904fdbb7d0350cabae6165476696c2503f1052"), looks := false }, kinds := [], alts := [], laidByText := true, laidKinds := [.data, .data, .data, .widerDeep], laidTests := true, laidLooks := .later }
def FnNamedPolytopesCardSaid : Prop := Claim7.holds Tryz.pinned (.plain (OpenSpec.ofChange fnNamedPolytopesSpec)) fnNamedPolytopesCard

/-- THE TIED CARD OF 'laws.FnTop'. -/
def fnTopCard : Claim7 := { stood := { row := fnTopRow, standIns := [], harness := (true, "6db20c8e631e24d66649434c0b904fdbb7d0350cabae6165476696c2503f1052"), looks := false }, kinds := [], alts := [], laidByText := true, laidKinds := [.data, .data, .data], laidTests := true, laidLooks := .later }
def FnTopCardSaid : Prop := Claim7.holds Tryz.pinned (.plain (OpenSpec.ofChange fnTopSpec)) fnTopCard

/-- THE TIED CARD OF 'laws.FnBettiNumbers'. -/
def fnBettiNumbersCard : Claim7 := { stood := { row := fnBettiNumbersRow, standIns := [], harness := (true, "6db20c8e631e24d66649434c0b904fdbb7d0350cabae6165476696c2503f1052"), looks := false }, kinds := [], alts := [], laidByText := true, laidKinds := [.data, .data, .data], laidTests := true, laidLooks := .later }
def FnBettiNumbersCardSaid : Prop := Claim7.holds Tryz.pinned (.plain (OpenSpec.ofChange fnBettiNumbersSpec)) fnBettiNumbersCard

/-- THE SECOND FORM's CARD OF 'laws.FnExactNamedPolytope'. -/
def fnExactNamedPolytopeUptoCard : Claim7 := { stood := { row := fnExactNamedPolytopeUptoRow, standIns := [], harness := (true, "6db20c8e631e24d66649434c0b904fdbb7d0350cabae6165476696c2503f1052"), looks := false }, kinds := [], alts := [], laidByText := true, laidKinds := [.data, .data, .data, .widerDeep], laidTests := true, laidLooks := .later }
def FnExactNamedPolytopeUptoCardSaid : Prop := Claim7.holds Tryz.pinned (.plain (OpenSpec.upto fnExactNamedPolytopeSpec)) fnExactNamedPolytopeUptoCard

/-- THE SECOND FORM's CARD OF 'laws.FnNamedPolytopes'. -/
def fnNamedPolytopesUptoCard : Claim7 := { stood := { row := fnNamedPolytopesUptoRow, standIns := [], harness := (true, "6db20c8e631e24d66649434c0b904fdbb7d0350cabae6165476696c2503f1052"), looks := false }, kinds := [], alts := [], laidByText := true, laidKinds := [.data, .data, .data, .widerDeep], laidTests := true, laidLooks := .later }
def FnNamedPolytopesUptoCardSaid : Prop := Claim7.holds Tryz.pinned (.plain (OpenSpec.upto fnNamedPolytopesSpec)) fnNamedPolytopesUptoCard

/-- THE SECOND FORM's CARD OF 'laws.FnTop'. -/
def fnTopUptoCard : Claim7 := { stood := { row := fnTopUptoRow, standIns := [], harness := (true, "6db20c8e631e24d66649434c0b904fdbb7d0350cabae6165476696c2503f1052"), looks := false }, kinds := [], alts := [], laidByText := true, laidKinds := [.data, .data, .data], laidTests := true, laidLooks := .later }
def FnTopUptoCardSaid : Prop := Claim7.holds Tryz.pinned (.plain (OpenSpec.upto fnTopSpec)) fnTopUptoCard

/-- THE SECOND FORM's CARD OF 'laws.FnBettiNumbers'. -/
def fnBettiNumbersUptoCard : Claim7 := { stood := { row := fnBettiNumbersUptoRow, standIns := [], harness := (true, "6db20c8e631e24d66649434c0b904fdbb7d0350cabae6165476696c2503f1052"), looks := false }, kinds := [], alts := [], laidByText := true, laidKinds := [.data, .data, .data], laidTests := true, laidLooks := .later }
def FnBettiNumbersUptoCardSaid : Prop := Claim7.holds Tryz.pinned (.plain (OpenSpec.upto fnBettiNumbersSpec)) fnBettiNumbersUptoCard
end Rows
end Go.Proofs.YtkccgdhcpplblaaGreatDoor
