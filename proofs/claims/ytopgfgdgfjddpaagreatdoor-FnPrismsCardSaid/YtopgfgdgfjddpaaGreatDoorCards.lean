/-
  DERIVED. GIVEN WITH THE SEED: THE CARDS: each row of YtopgfgdgfjddpaaGreatDoorRows.lean that lists a variable, with what it lists TIED to the program's text (the seventh form; the later family's looks); each row that meets fmt, with fmt's text TOLD by the authors' own Lean function (tested against real Go, not proved from fmt's source: count such statements apart). THE CARD IS WHAT COUNTS. Prove the row's statement (the work); the ties are given (YtopgfgdgfjddpaaGreatDoorTie.lean); close each card by the builder's one call (the guide's Derived/Test/ToyasCard.lean, 'card_holds'). Laid BY PROGRAM, IN A SANDBOX (cutbox-door.mjs). By AI agents, Wed Nov 11 2026. No macro, syntax, notation, axiom, sorry.
-/
import Derived.Test.YtopgfgdgfjddpaaGreatDoorRows
import GoSem.ClaimSeven
namespace Go.Proofs.YtopgfgdgfjddpaaGreatDoor
namespace Rows

/-- THE TIED CARD OF 'laws.FnExactCrossOf'. -/
def fnExactCrossOfCard : Claim7 := { stood := { row := fnExactCrossOfRow, standIns := [], harness := (true, "473dc7890431d33d033d1c90a124aba5a91054791f7b215955d63ad2420e511d"), looks := false }, kinds := [], alts := [], laidByText := true, laidKinds := [.data, .data, .data], laidTests := true, laidLooks := .later }
def FnExactCrossOfCardSaid : Prop := Claim7.holds Tryz.pinned (.plain (OpenSpec.ofChange fnExactCrossOfSpec)) fnExactCrossOfCard

/-- THE TIED CARD OF 'laws.FnExactCubeOf'. -/
def fnExactCubeOfCard : Claim7 := { stood := { row := fnExactCubeOfRow, standIns := [], harness := (true, "473dc7890431d33d033d1c90a124aba5a91054791f7b215955d63ad2420e511d"), looks := false }, kinds := [], alts := [], laidByText := true, laidKinds := [.data, .data, .data], laidTests := true, laidLooks := .later }
def FnExactCubeOfCardSaid : Prop := Claim7.holds Tryz.pinned (.plain (OpenSpec.ofChange fnExactCubeOfSpec)) fnExactCubeOfCard

/-- THE TIED CARD OF 'laws.FnPolytopes'. -/
def fnPolytopesCard : Claim7 := { stood := { row := fnPolytopesRow, standIns := [], harness := (true, "473dc7890431d33d033d1c90a124aba5a91054791f7b215955d63ad2420e511d"), looks := false }, kinds := [], alts := [], laidByText := true, laidKinds := [.data, .data, .data], laidTests := true, laidLooks := .later }
def FnPolytopesCardSaid : Prop := Claim7.holds Tryz.pinned (.plain (OpenSpec.ofChange fnPolytopesSpec)) fnPolytopesCard

/-- THE TIED CARD OF 'laws.FnPosetFlags'. -/
def fnPosetFlagsCard : Claim7 := { stood := { row := fnPosetFlagsRow, standIns := [], harness := (true, "473dc7890431d33d033d1c90a124aba5a91054791f7b215955d63ad2420e511d"), looks := false }, kinds := [], alts := [], laidByText := true, laidKinds := [.data, .data, .data], laidTests := true, laidLooks := .later }
def FnPosetFlagsCardSaid : Prop := Claim7.holds Tryz.pinned (.plain (OpenSpec.ofChange fnPosetFlagsSpec)) fnPosetFlagsCard

/-- THE TIED CARD OF 'laws.FnExactProductPoset'. -/
def fnExactProductPosetCard : Claim7 := { stood := { row := fnExactProductPosetRow, standIns := [], harness := (true, "473dc7890431d33d033d1c90a124aba5a91054791f7b215955d63ad2420e511d"), looks := false }, kinds := [], alts := [], laidByText := true, laidKinds := [.data, .data, .data], laidTests := true, laidLooks := .later }
def FnExactProductPosetCardSaid : Prop := Claim7.holds Tryz.pinned (.plain (OpenSpec.ofChange fnExactProductPosetSpec)) fnExactProductPosetCard

/-- THE TIED CARD OF 'laws.FnExactPyramidOver'. -/
def fnExactPyramidOverCard : Claim7 := { stood := { row := fnExactPyramidOverRow, standIns := [], harness := (true, "473dc7890431d33d033d1c90a124aba5a91054791f7b215955d63ad2420e511d"), looks := false }, kinds := [], alts := [], laidByText := true, laidKinds := [.data, .data, .data], laidTests := true, laidLooks := .later }
def FnExactPyramidOverCardSaid : Prop := Claim7.holds Tryz.pinned (.plain (OpenSpec.ofChange fnExactPyramidOverSpec)) fnExactPyramidOverCard

/-- THE TIED CARD OF 'laws.FnExactProductOf'. -/
def fnExactProductOfCard : Claim7 := { stood := { row := fnExactProductOfRow, standIns := [], harness := (true, "473dc7890431d33d033d1c90a124aba5a91054791f7b215955d63ad2420e511d"), looks := false }, kinds := [], alts := [], laidByText := true, laidKinds := [.data, .data, .data], laidTests := true, laidLooks := .later }
def FnExactProductOfCardSaid : Prop := Claim7.holds Tryz.pinned (.plain (OpenSpec.ofChange fnExactProductOfSpec)) fnExactProductOfCard

/-- THE TIED CARD OF 'laws.FnExactBipyramidOver'. -/
def fnExactBipyramidOverCard : Claim7 := { stood := { row := fnExactBipyramidOverRow, standIns := [], harness := (true, "473dc7890431d33d033d1c90a124aba5a91054791f7b215955d63ad2420e511d"), looks := false }, kinds := [], alts := [], laidByText := true, laidKinds := [.data, .data, .data], laidTests := true, laidLooks := .later }
def FnExactBipyramidOverCardSaid : Prop := Claim7.holds Tryz.pinned (.plain (OpenSpec.ofChange fnExactBipyramidOverSpec)) fnExactBipyramidOverCard

/-- THE TIED CARD OF 'laws.FnExactPrismOver'. -/
def fnExactPrismOverCard : Claim7 := { stood := { row := fnExactPrismOverRow, standIns := [], harness := (true, "473dc7890431d33d033d1c90a124aba5a91054791f7b215955d63ad2420e511d"), looks := false }, kinds := [], alts := [], laidByText := true, laidKinds := [.data, .data, .data], laidTests := true, laidLooks := .later }
def FnExactPrismOverCardSaid : Prop := Claim7.holds Tryz.pinned (.plain (OpenSpec.ofChange fnExactPrismOverSpec)) fnExactPrismOverCard

/-- THE TIED CARD OF 'laws.FnProducts'. -/
def fnProductsCard : Claim7 := { stood := { row := fnProductsRow, standIns := [], harness := (true, "473dc7890431d33d033d1c90a124aba5a91054791f7b215955d63ad2420e511d"), looks := false }, kinds := [], alts := [], laidByText := true, laidKinds := [.data, .data, .data], laidTests := true, laidLooks := .later }
def FnProductsCardSaid : Prop := Claim7.holds Tryz.pinned (.plain (OpenSpec.ofChange fnProductsSpec)) fnProductsCard

/-- THE TIED CARD OF 'laws.FnPrisms'. -/
def fnPrismsCard : Claim7 := { stood := { row := fnPrismsRow, standIns := [], harness := (true, "473dc7890431d33d033d1c90a124aba5a91054791f7b215955d63ad2420e511d"), looks := false }, kinds := [], alts := [], laidByText := true, laidKinds := [.data, .data, .data], laidTests := true, laidLooks := .later }
def FnPrismsCardSaid : Prop := Claim7.holds Tryz.pinned (.plain (OpenSpec.ofChange fnPrismsSpec)) fnPrismsCard

/-- THE TIED CARD OF 'laws.FnExactPolytopalManiplexes'. -/
def fnExactPolytopalManiplexesCard : Claim7 := { stood := { row := fnExactPolytopalManiplexesRow, standIns := [], harness := (true, "473dc7890431d33d033d1c90a124aba5a91054791f7b215955d63ad2420e511d"), looks := false }, kinds := [], alts := [], laidByText := true, laidKinds := [.data, .data, .data], laidTests := true, laidLooks := .later }
def FnExactPolytopalManiplexesCardSaid : Prop := Claim7.holds Tryz.pinned (.plain (OpenSpec.ofChange fnExactPolytopalManiplexesSpec)) fnExactPolytopalManiplexesCard

/-- THE SECOND FORM's CARD OF 'laws.FnExactCrossOf'. -/
def fnExactCrossOfUptoCard : Claim7 := { stood := { row := fnExactCrossOfUptoRow, standIns := [], harness := (true, "473dc7890431d33d033d1c90a124aba5a91054791f7b215955d63ad2420e511d"), looks := false }, kinds := [], alts := [], laidByText := true, laidKinds := [.data, .data, .data], laidTests := true, laidLooks := .later }
def FnExactCrossOfUptoCardSaid : Prop := Claim7.holds Tryz.pinned (.plain (OpenSpec.upto fnExactCrossOfSpec)) fnExactCrossOfUptoCard

/-- THE SECOND FORM's CARD OF 'laws.FnExactCubeOf'. -/
def fnExactCubeOfUptoCard : Claim7 := { stood := { row := fnExactCubeOfUptoRow, standIns := [], harness := (true, "473dc7890431d33d033d1c90a124aba5a91054791f7b215955d63ad2420e511d"), looks := false }, kinds := [], alts := [], laidByText := true, laidKinds := [.data, .data, .data], laidTests := true, laidLooks := .later }
def FnExactCubeOfUptoCardSaid : Prop := Claim7.holds Tryz.pinned (.plain (OpenSpec.upto fnExactCubeOfSpec)) fnExactCubeOfUptoCard

/-- THE SECOND FORM's CARD OF 'laws.FnPolytopes'. -/
def fnPolytopesUptoCard : Claim7 := { stood := { row := fnPolytopesUptoRow, standIns := [], harness := (true, "473dc7890431d33d033d1c90a124aba5a91054791f7b215955d63ad2420e511d"), looks := false }, kinds := [], alts := [], laidByText := true, laidKinds := [.data, .data, .data], laidTests := true, laidLooks := .later }
def FnPolytopesUptoCardSaid : Prop := Claim7.holds Tryz.pinned (.plain (OpenSpec.upto fnPolytopesSpec)) fnPolytopesUptoCard

/-- THE SECOND FORM's CARD OF 'laws.FnPosetFlags'. -/
def fnPosetFlagsUptoCard : Claim7 := { stood := { row := fnPosetFlagsUptoRow, standIns := [], harness := (true, "473dc7890431d33d033d1c90a124aba5a91054791f7b215955d63ad2420e511d"), looks := false }, kinds := [], alts := [], laidByText := true, laidKinds := [.data, .data, .data], laidTests := true, laidLooks := .later }
def FnPosetFlagsUptoCardSaid : Prop := Claim7.holds Tryz.pinned (.plain (OpenSpec.upto fnPosetFlagsSpec)) fnPosetFlagsUptoCard

/-- THE SECOND FORM's CARD OF 'laws.FnExactProductPoset'. -/
def fnExactProductPosetUptoCard : Claim7 := { stood := { row := fnExactProductPosetUptoRow, standIns := [], harness := (true, "473dc7890431d33d033d1c90a124aba5a91054791f7b215955d63ad2420e511d"), looks := false }, kinds := [], alts := [], laidByText := true, laidKinds := [.data, .data, .data], laidTests := true, laidLooks := .later }
def FnExactProductPosetUptoCardSaid : Prop := Claim7.holds Tryz.pinned (.plain (OpenSpec.upto fnExactProductPosetSpec)) fnExactProductPosetUptoCard

/-- THE SECOND FORM's CARD OF 'laws.FnExactPyramidOver'. -/
def fnExactPyramidOverUptoCard : Claim7 := { stood := { row := fnExactPyramidOverUptoRow, standIns := [], harness := (true, "473dc7890431d33d033d1c90a124aba5a91054791f7b215955d63ad2420e511d"), looks := false }, kinds := [], alts := [], laidByText := true, laidKinds := [.data, .data, .data], laidTests := true, laidLooks := .later }
def FnExactPyramidOverUptoCardSaid : Prop := Claim7.holds Tryz.pinned (.plain (OpenSpec.upto fnExactPyramidOverSpec)) fnExactPyramidOverUptoCard

/-- THE SECOND FORM's CARD OF 'laws.FnExactProductOf'. -/
def fnExactProductOfUptoCard : Claim7 := { stood := { row := fnExactProductOfUptoRow, standIns := [], harness := (true, "473dc7890431d33d033d1c90a124aba5a91054791f7b215955d63ad2420e511d"), looks := false }, kinds := [], alts := [], laidByText := true, laidKinds := [.data, .data, .data], laidTests := true, laidLooks := .later }
def FnExactProductOfUptoCardSaid : Prop := Claim7.holds Tryz.pinned (.plain (OpenSpec.upto fnExactProductOfSpec)) fnExactProductOfUptoCard

/-- THE SECOND FORM's CARD OF 'laws.FnExactBipyramidOver'. -/
def fnExactBipyramidOverUptoCard : Claim7 := { stood := { row := fnExactBipyramidOverUptoRow, standIns := [], harness := (true, "473dc7890431d33d033d1c90a124aba5a91054791f7b215955d63ad2420e511d"), looks := false }, kinds := [], alts := [], laidByText := true, laidKinds := [.data, .data, .data], laidTests := true, laidLooks := .later }
def FnExactBipyramidOverUptoCardSaid : Prop := Claim7.holds Tryz.pinned (.plain (OpenSpec.upto fnExactBipyramidOverSpec)) fnExactBipyramidOverUptoCard

/-- THE SECOND FORM's CARD OF 'laws.FnExactPrismOver'. -/
def fnExactPrismOverUptoCard : Claim7 := { stood := { row := fnExactPrismOverUptoRow, standIns := [], harness := (true, "473dc7890431d33d033d1c90a124aba5a91054791f7b215955d63ad2420e511d"), looks := false }, kinds := [], alts := [], laidByText := true, laidKinds := [.data, .data, .data], laidTests := true, laidLooks := .later }
def FnExactPrismOverUptoCardSaid : Prop := Claim7.holds Tryz.pinned (.plain (OpenSpec.upto fnExactPrismOverSpec)) fnExactPrismOverUptoCard

/-- THE SECOND FORM's CARD OF 'laws.FnProducts'. -/
def fnProductsUptoCard : Claim7 := { stood := { row := fnProductsUptoRow, standIns := [], harness := (true, "473dc7890431d33d033d1c90a124aba5a91054791f7b215955d63ad2420e511d"), looks := false }, kinds := [], alts := [], laidByText := true, laidKinds := [.data, .data, .data], laidTests := true, laidLooks := .later }
def FnProductsUptoCardSaid : Prop := Claim7.holds Tryz.pinned (.plain (OpenSpec.upto fnProductsSpec)) fnProductsUptoCard

/-- THE SECOND FORM's CARD OF 'laws.FnPrisms'. -/
def fnPrismsUptoCard : Claim7 := { stood := { row := fnPrismsUptoRow, standIns := [], harness := (true, "473dc7890431d33d033d1c90a124aba5a91054791f7b215955d63ad2420e511d"), looks := false }, kinds := [], alts := [], laidByText := true, laidKinds := [.data, .data, .data], laidTests := true, laidLooks := .later }
def FnPrismsUptoCardSaid : Prop := Claim7.holds Tryz.pinned (.plain (OpenSpec.upto fnPrismsSpec)) fnPrismsUptoCard

/-- THE SECOND FORM's CARD OF 'laws.FnExactPolytopalManiplexes'. -/
def fnExactPolytopalManiplexesUptoCard : Claim7 := { stood := { row := fnExactPolytopalManiplexesUptoRow, standIns := [], harness := (true, "473dc7890431d33d033d1c90a124aba5a91054791f7b215955d63ad2420e511d"), looks := false }, kinds := [], alts := [], laidByText := true, laidKinds := [.data, .data, .data], laidTests := true, laidLooks := .later }
def FnExactPolytopalManiplexesUptoCardSaid : Prop := Claim7.holds Tryz.pinned (.plain (OpenSpec.upto fnExactPolytopalManiplexesSpec)) fnExactPolytopalManiplexesUptoCard
end Rows
end Go.Proofs.YtopgfgdgfjddpaaGreatDoor
