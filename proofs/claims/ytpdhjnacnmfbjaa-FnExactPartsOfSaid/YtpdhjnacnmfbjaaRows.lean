/-
  No cell of these rows narrows 'for every input' (looked for: loops, veiled, ifaces, maps, wideKeys, modest, calm, conditions, laid).
  DERIVED. THE GIVEN ROWS OF THIS SEAT. 12 by the template 'for every input the law returns true; each argument reads behind the call as it read before'; 0 by the template 'total and deterministic' (their statements: YtpdhjnacnmfbjaaTotals.lean).
  GIVEN WITH THE SEED: the statements are not yours to turn. If you find one false, say at which input.
  Laid BY PROGRAM, IN A SANDBOX (cutbox-rows.mjs): the forced cells as the released guide's own fill.sh prints them over the translation 949aad42759e0cd8… (all of the seat's roots in one cut). By AI agents, Wed Nov 11 2026. No macro, syntax, notation, axiom, sorry.
-/
import Derived.Test.YtpdhjnacnmfbjaaChecked
import GoSem.Claim
import GoSem.ClaimJoined
import GoSem.ClaimMapViews
import Derived.JoinedTies
import Derived.KernelRfl
namespace Go.Proofs.Ytpdhjnacnmfbjaa
/- THE CELL 'sum', in the pinned program and in every row, IS THE sha256 OF THE DUMP (.gsa) THAT YtpdhjnacnmfbjaaProg.lean LOADS. Nothing in Lean hashes anything: it is a label: what it is worth is what the hold of that sum in a sandbox is worth. -/
noncomputable def Try.pinned : Pinned := { name := "ytpdhjnacnmfbjaa", sum := "949aad42759e0cd8f15314d661c828a0130d8c65712b4415396e2165c164d090", checked := Try.checked }
namespace Rows
def none {H : Type} : Left H := { results := [], args := [] }

/-- 'laws.FnExactCountRooted': WHATEVER THE INPUT: true; the input reads as it did. -/
def fnExactCountRootedSpec : ChangeSpec := { name := "fnExactCountRooted", fn := fun _ => fun
  | [d1, d2] => { results := [.lit (.bool true)], args := [d1, d2] }
  | _ => none }
def fnExactCountRootedRow : OpenClaim := { program := "ytpdhjnacnmfbjaa", sum := "949aad42759e0cd8f15314d661c828a0130d8c65712b4415396e2165c164d090", func := "loop.example/g01108/laws.FnExactCountRooted", spec := "fnExactCountRooted", recurses := true, apart := false }
def FnExactCountRootedSaid : Prop := fnExactCountRootedRow.holds Try.pinned (OpenSpec.ofChange fnExactCountRootedSpec)

/-- ITS FALSE NEIGHBOUR: 'it returns false'. Refute it at one input. -/
def fnExactCountRootedWrong : ChangeSpec := { name := "fnExactCountRooted", fn := fun _ => fun
  | [d1, d2] => { results := [.lit (.bool false)], args := [d1, d2] }
  | _ => none }
def FnExactCountRootedWrongFalsely : Prop := fnExactCountRootedRow.holds Try.pinned (OpenSpec.ofChange fnExactCountRootedWrong)

/-- 'laws.FnExactIsDesk': WHATEVER THE INPUT: true; the input reads as it did. -/
def fnExactIsDeskSpec : ChangeSpec := { name := "fnExactIsDesk", fn := fun _ => fun
  | [d] => { results := [.lit (.bool true)], args := [d] }
  | _ => none }
def fnExactIsDeskRow : OpenClaim := { program := "ytpdhjnacnmfbjaa", sum := "949aad42759e0cd8f15314d661c828a0130d8c65712b4415396e2165c164d090", func := "loop.example/g01108/laws.FnExactIsDesk", spec := "fnExactIsDesk", apart := false }
def FnExactIsDeskSaid : Prop := fnExactIsDeskRow.holds Try.pinned (OpenSpec.ofChange fnExactIsDeskSpec)

/-- ITS FALSE NEIGHBOUR: 'it returns false'. Refute it at one input. -/
def fnExactIsDeskWrong : ChangeSpec := { name := "fnExactIsDesk", fn := fun _ => fun
  | [d] => { results := [.lit (.bool false)], args := [d] }
  | _ => none }
def FnExactIsDeskWrongFalsely : Prop := fnExactIsDeskRow.holds Try.pinned (OpenSpec.ofChange fnExactIsDeskWrong)

/-- 'laws.FnExactPetrieCycles': WHATEVER THE INPUT: true; the input reads as it did. -/
def fnExactPetrieCyclesSpec : ChangeSpec := { name := "fnExactPetrieCycles", fn := fun _ => fun
  | [d] => { results := [.lit (.bool true)], args := [d] }
  | _ => none }
def fnExactPetrieCyclesRow : OpenClaim := { program := "ytpdhjnacnmfbjaa", sum := "949aad42759e0cd8f15314d661c828a0130d8c65712b4415396e2165c164d090", func := "loop.example/g01108/laws.FnExactPetrieCycles", spec := "fnExactPetrieCycles", recurses := true, apart := false }
def FnExactPetrieCyclesSaid : Prop := fnExactPetrieCyclesRow.holds Try.pinned (OpenSpec.ofChange fnExactPetrieCyclesSpec)

/-- ITS FALSE NEIGHBOUR: 'it returns false'. Refute it at one input. -/
def fnExactPetrieCyclesWrong : ChangeSpec := { name := "fnExactPetrieCycles", fn := fun _ => fun
  | [d] => { results := [.lit (.bool false)], args := [d] }
  | _ => none }
def FnExactPetrieCyclesWrongFalsely : Prop := fnExactPetrieCyclesRow.holds Try.pinned (OpenSpec.ofChange fnExactPetrieCyclesWrong)

/-- 'laws.FnExactLengthsOfWord': WHATEVER THE INPUT: true; the input reads as it did. -/
def fnExactLengthsOfWordSpec : ChangeSpec := { name := "fnExactLengthsOfWord", fn := fun _ => fun
  | [d1, d2] => { results := [.lit (.bool true)], args := [d1, d2] }
  | _ => none }
def fnExactLengthsOfWordRow : OpenClaim := { program := "ytpdhjnacnmfbjaa", sum := "949aad42759e0cd8f15314d661c828a0130d8c65712b4415396e2165c164d090", func := "loop.example/g01108/laws.FnExactLengthsOfWord", spec := "fnExactLengthsOfWord", unfollowed := true, recurses := true, apart := false }
def FnExactLengthsOfWordSaid : Prop := fnExactLengthsOfWordRow.holds Try.pinned (OpenSpec.ofChange fnExactLengthsOfWordSpec)

/-- ITS FALSE NEIGHBOUR: 'it returns false'. Refute it at one input. -/
def fnExactLengthsOfWordWrong : ChangeSpec := { name := "fnExactLengthsOfWord", fn := fun _ => fun
  | [d1, d2] => { results := [.lit (.bool false)], args := [d1, d2] }
  | _ => none }
def FnExactLengthsOfWordWrongFalsely : Prop := fnExactLengthsOfWordRow.holds Try.pinned (OpenSpec.ofChange fnExactLengthsOfWordWrong)

/-- 'laws.FnExactHoleLengths': WHATEVER THE INPUT: true; the input reads as it did. -/
def fnExactHoleLengthsSpec : ChangeSpec := { name := "fnExactHoleLengths", fn := fun _ => fun
  | [d1, d2] => { results := [.lit (.bool true)], args := [d1, d2] }
  | _ => none }
def fnExactHoleLengthsRow : OpenClaim := { program := "ytpdhjnacnmfbjaa", sum := "949aad42759e0cd8f15314d661c828a0130d8c65712b4415396e2165c164d090", func := "loop.example/g01108/laws.FnExactHoleLengths", spec := "fnExactHoleLengths", recurses := true, apart := false }
def FnExactHoleLengthsSaid : Prop := fnExactHoleLengthsRow.holds Try.pinned (OpenSpec.ofChange fnExactHoleLengthsSpec)

/-- ITS FALSE NEIGHBOUR: 'it returns false'. Refute it at one input. -/
def fnExactHoleLengthsWrong : ChangeSpec := { name := "fnExactHoleLengths", fn := fun _ => fun
  | [d1, d2] => { results := [.lit (.bool false)], args := [d1, d2] }
  | _ => none }
def FnExactHoleLengthsWrongFalsely : Prop := fnExactHoleLengthsRow.holds Try.pinned (OpenSpec.ofChange fnExactHoleLengthsWrong)

/-- 'laws.FnExactZigzagLengths': WHATEVER THE INPUT: true; the input reads as it did. -/
def fnExactZigzagLengthsSpec : ChangeSpec := { name := "fnExactZigzagLengths", fn := fun _ => fun
  | [d1, d2] => { results := [.lit (.bool true)], args := [d1, d2] }
  | _ => none }
def fnExactZigzagLengthsRow : OpenClaim := { program := "ytpdhjnacnmfbjaa", sum := "949aad42759e0cd8f15314d661c828a0130d8c65712b4415396e2165c164d090", func := "loop.example/g01108/laws.FnExactZigzagLengths", spec := "fnExactZigzagLengths", recurses := true, apart := false }
def FnExactZigzagLengthsSaid : Prop := fnExactZigzagLengthsRow.holds Try.pinned (OpenSpec.ofChange fnExactZigzagLengthsSpec)

/-- ITS FALSE NEIGHBOUR: 'it returns false'. Refute it at one input. -/
def fnExactZigzagLengthsWrong : ChangeSpec := { name := "fnExactZigzagLengths", fn := fun _ => fun
  | [d1, d2] => { results := [.lit (.bool false)], args := [d1, d2] }
  | _ => none }
def FnExactZigzagLengthsWrongFalsely : Prop := fnExactZigzagLengthsRow.holds Try.pinned (OpenSpec.ofChange fnExactZigzagLengthsWrong)

/-- 'laws.FnExactEndsOfEdges': WHATEVER THE INPUT: true; the input reads as it did. -/
def fnExactEndsOfEdgesSpec : ChangeSpec := { name := "fnExactEndsOfEdges", fn := fun _ => fun
  | [d] => { results := [.lit (.bool true)], args := [d] }
  | _ => none }
def fnExactEndsOfEdgesRow : OpenClaim := { program := "ytpdhjnacnmfbjaa", sum := "949aad42759e0cd8f15314d661c828a0130d8c65712b4415396e2165c164d090", func := "loop.example/g01108/laws.FnExactEndsOfEdges", spec := "fnExactEndsOfEdges", recurses := true, apart := false }
def FnExactEndsOfEdgesSaid : Prop := fnExactEndsOfEdgesRow.holds Try.pinned (OpenSpec.ofChange fnExactEndsOfEdgesSpec)

/-- ITS FALSE NEIGHBOUR: 'it returns false'. Refute it at one input. -/
def fnExactEndsOfEdgesWrong : ChangeSpec := { name := "fnExactEndsOfEdges", fn := fun _ => fun
  | [d] => { results := [.lit (.bool false)], args := [d] }
  | _ => none }
def FnExactEndsOfEdgesWrongFalsely : Prop := fnExactEndsOfEdgesRow.holds Try.pinned (OpenSpec.ofChange fnExactEndsOfEdgesWrong)

/-- 'laws.FnExactNeighboursOf': WHATEVER THE INPUT: true; the input reads as it did. -/
def fnExactNeighboursOfSpec : ChangeSpec := { name := "fnExactNeighboursOf", fn := fun _ => fun
  | [d] => { results := [.lit (.bool true)], args := [d] }
  | _ => none }
def fnExactNeighboursOfRow : OpenClaim := { program := "ytpdhjnacnmfbjaa", sum := "949aad42759e0cd8f15314d661c828a0130d8c65712b4415396e2165c164d090", func := "loop.example/g01108/laws.FnExactNeighboursOf", spec := "fnExactNeighboursOf", recurses := true, apart := false }
def FnExactNeighboursOfSaid : Prop := fnExactNeighboursOfRow.holds Try.pinned (OpenSpec.ofChange fnExactNeighboursOfSpec)

/-- ITS FALSE NEIGHBOUR: 'it returns false'. Refute it at one input. -/
def fnExactNeighboursOfWrong : ChangeSpec := { name := "fnExactNeighboursOf", fn := fun _ => fun
  | [d] => { results := [.lit (.bool false)], args := [d] }
  | _ => none }
def FnExactNeighboursOfWrongFalsely : Prop := fnExactNeighboursOfRow.holds Try.pinned (OpenSpec.ofChange fnExactNeighboursOfWrong)

/-- 'laws.FnExactGraphDiameter': WHATEVER THE INPUT: true; the input reads as it did. -/
def fnExactGraphDiameterSpec : ChangeSpec := { name := "fnExactGraphDiameter", fn := fun _ => fun
  | [d] => { results := [.lit (.bool true)], args := [d] }
  | _ => none }
def fnExactGraphDiameterRow : OpenClaim := { program := "ytpdhjnacnmfbjaa", sum := "949aad42759e0cd8f15314d661c828a0130d8c65712b4415396e2165c164d090", func := "loop.example/g01108/laws.FnExactGraphDiameter", spec := "fnExactGraphDiameter", unfollowed := true, recurses := true, apart := false }
def FnExactGraphDiameterSaid : Prop := fnExactGraphDiameterRow.holds Try.pinned (OpenSpec.ofChange fnExactGraphDiameterSpec)

/-- ITS FALSE NEIGHBOUR: 'it returns false'. Refute it at one input. -/
def fnExactGraphDiameterWrong : ChangeSpec := { name := "fnExactGraphDiameter", fn := fun _ => fun
  | [d] => { results := [.lit (.bool false)], args := [d] }
  | _ => none }
def FnExactGraphDiameterWrongFalsely : Prop := fnExactGraphDiameterRow.holds Try.pinned (OpenSpec.ofChange fnExactGraphDiameterWrong)

/-- 'laws.FnExactVertexDistances': WHATEVER THE INPUT: true; the input reads as it did. -/
def fnExactVertexDistancesSpec : ChangeSpec := { name := "fnExactVertexDistances", fn := fun _ => fun
  | [d1, d2] => { results := [.lit (.bool true)], args := [d1, d2] }
  | _ => none }
def fnExactVertexDistancesRow : OpenClaim := { program := "ytpdhjnacnmfbjaa", sum := "949aad42759e0cd8f15314d661c828a0130d8c65712b4415396e2165c164d090", func := "loop.example/g01108/laws.FnExactVertexDistances", spec := "fnExactVertexDistances", unfollowed := true, recurses := true, apart := false }
def FnExactVertexDistancesSaid : Prop := fnExactVertexDistancesRow.holds Try.pinned (OpenSpec.ofChange fnExactVertexDistancesSpec)

/-- ITS FALSE NEIGHBOUR: 'it returns false'. Refute it at one input. -/
def fnExactVertexDistancesWrong : ChangeSpec := { name := "fnExactVertexDistances", fn := fun _ => fun
  | [d1, d2] => { results := [.lit (.bool false)], args := [d1, d2] }
  | _ => none }
def FnExactVertexDistancesWrongFalsely : Prop := fnExactVertexDistancesRow.holds Try.pinned (OpenSpec.ofChange fnExactVertexDistancesWrong)

/-- 'laws.FnExactPartsOf': WHATEVER THE INPUT: true; the input reads as it did. -/
def fnExactPartsOfSpec : ChangeSpec := { name := "fnExactPartsOf", fn := fun _ => fun
  | [d] => { results := [.lit (.bool true)], args := [d] }
  | _ => none }
def fnExactPartsOfRow : OpenClaim := { program := "ytpdhjnacnmfbjaa", sum := "949aad42759e0cd8f15314d661c828a0130d8c65712b4415396e2165c164d090", func := "loop.example/g01108/laws.FnExactPartsOf", spec := "fnExactPartsOf", unfollowed := true, recurses := true, apart := false }
def FnExactPartsOfSaid : Prop := fnExactPartsOfRow.holds Try.pinned (OpenSpec.ofChange fnExactPartsOfSpec)

/-- ITS FALSE NEIGHBOUR: 'it returns false'. Refute it at one input. -/
def fnExactPartsOfWrong : ChangeSpec := { name := "fnExactPartsOf", fn := fun _ => fun
  | [d] => { results := [.lit (.bool false)], args := [d] }
  | _ => none }
def FnExactPartsOfWrongFalsely : Prop := fnExactPartsOfRow.holds Try.pinned (OpenSpec.ofChange fnExactPartsOfWrong)

/-- 'laws.FnExactCutVertices': WHATEVER THE INPUT: true; the input reads as it did. -/
def fnExactCutVerticesSpec : ChangeSpec := { name := "fnExactCutVertices", fn := fun _ => fun
  | [d] => { results := [.lit (.bool true)], args := [d] }
  | _ => none }
def fnExactCutVerticesRow : OpenClaim := { program := "ytpdhjnacnmfbjaa", sum := "949aad42759e0cd8f15314d661c828a0130d8c65712b4415396e2165c164d090", func := "loop.example/g01108/laws.FnExactCutVertices", spec := "fnExactCutVertices", unfollowed := true, recurses := true, apart := false }
def FnExactCutVerticesSaid : Prop := fnExactCutVerticesRow.holds Try.pinned (OpenSpec.ofChange fnExactCutVerticesSpec)

/-- ITS FALSE NEIGHBOUR: 'it returns false'. Refute it at one input. -/
def fnExactCutVerticesWrong : ChangeSpec := { name := "fnExactCutVertices", fn := fun _ => fun
  | [d] => { results := [.lit (.bool false)], args := [d] }
  | _ => none }
def FnExactCutVerticesWrongFalsely : Prop := fnExactCutVerticesRow.holds Try.pinned (OpenSpec.ofChange fnExactCutVerticesWrong)

/- THE SECOND FORM. 'bulk': how many values and letters a reading holds, each counted each time it is reached (what is shared counts as often as it is met; a slice's spare places count too). A statement '..UptoSaid' is the law's where the arguments, and the package variables that the reading takes, are together of bulk at most 1048576: NARROWER than '..Said'. Prove '..Said' where nothing that the law and all that it calls make is longer than what came in: it says more and counts as full. Else prove '..UptoSaid'. A law counts once. -/
mutual
def uptoBulk {H : Type} : DataW H → Nat
  | .lit (.string bytes) => bytes.length + 1
  | .lit _ => 1
  | .nil => 1
  | .ptr d => uptoBulk d + 1
  | .slice elems spare => uptoBulkAll elems + uptoBulkAll spare + 1
  | .agg parts => uptoBulkAll parts + 1
  | .iface _ d => uptoBulk d + 1
  | .map entries => uptoBulkEntries entries + 1
  | .held _ => 1
def uptoBulkAll {H : Type} : List (DataW H) → Nat
  | [] => 0
  | d :: r => uptoBulk d + uptoBulkAll r
def uptoBulkEntries {H : Type} : List (Lit × DataW H) → Nat
  | [] => 0
  | x :: r => uptoBulkEntry x + uptoBulkEntries r
def uptoBulkEntry {H : Type} : Lit × DataW H → Nat
  | (.string bytes, d) => bytes.length + uptoBulk d + 1
  | (_, d) => uptoBulk d + 1
 end
def uptoSmall : (H : Type) → List (DataW H) → Bool := fun _ ds => decide (uptoBulkAll ds ≤ 1048576)
def OpenSpec.upto (s : _root_.Go.ChangeSpec) : _root_.Go.OpenSpec := { _root_.Go.OpenSpec.ofChange s with cond := some uptoSmall }

/-- 'laws.FnExactCountRooted', WHERE WHAT IT READS IS OF BULK AT MOST 1048576: true; the input reads as it did. -/
def fnExactCountRootedUptoRow : OpenClaim := { program := "ytpdhjnacnmfbjaa", sum := "949aad42759e0cd8f15314d661c828a0130d8c65712b4415396e2165c164d090", func := "loop.example/g01108/laws.FnExactCountRooted", spec := "fnExactCountRooted", recurses := true, apart := false, narrowed := true }
def FnExactCountRootedUptoSaid : Prop := fnExactCountRootedUptoRow.holds Try.pinned (OpenSpec.upto fnExactCountRootedSpec)

/-- 'laws.FnExactIsDesk', WHERE WHAT IT READS IS OF BULK AT MOST 1048576: true; the input reads as it did. -/
def fnExactIsDeskUptoRow : OpenClaim := { program := "ytpdhjnacnmfbjaa", sum := "949aad42759e0cd8f15314d661c828a0130d8c65712b4415396e2165c164d090", func := "loop.example/g01108/laws.FnExactIsDesk", spec := "fnExactIsDesk", apart := false, narrowed := true }
def FnExactIsDeskUptoSaid : Prop := fnExactIsDeskUptoRow.holds Try.pinned (OpenSpec.upto fnExactIsDeskSpec)

/-- 'laws.FnExactPetrieCycles', WHERE WHAT IT READS IS OF BULK AT MOST 1048576: true; the input reads as it did. -/
def fnExactPetrieCyclesUptoRow : OpenClaim := { program := "ytpdhjnacnmfbjaa", sum := "949aad42759e0cd8f15314d661c828a0130d8c65712b4415396e2165c164d090", func := "loop.example/g01108/laws.FnExactPetrieCycles", spec := "fnExactPetrieCycles", recurses := true, apart := false, narrowed := true }
def FnExactPetrieCyclesUptoSaid : Prop := fnExactPetrieCyclesUptoRow.holds Try.pinned (OpenSpec.upto fnExactPetrieCyclesSpec)

/-- 'laws.FnExactLengthsOfWord', WHERE WHAT IT READS IS OF BULK AT MOST 1048576: true; the input reads as it did. -/
def fnExactLengthsOfWordUptoRow : OpenClaim := { program := "ytpdhjnacnmfbjaa", sum := "949aad42759e0cd8f15314d661c828a0130d8c65712b4415396e2165c164d090", func := "loop.example/g01108/laws.FnExactLengthsOfWord", spec := "fnExactLengthsOfWord", unfollowed := true, recurses := true, apart := false, narrowed := true }
def FnExactLengthsOfWordUptoSaid : Prop := fnExactLengthsOfWordUptoRow.holds Try.pinned (OpenSpec.upto fnExactLengthsOfWordSpec)

/-- 'laws.FnExactHoleLengths', WHERE WHAT IT READS IS OF BULK AT MOST 1048576: true; the input reads as it did. -/
def fnExactHoleLengthsUptoRow : OpenClaim := { program := "ytpdhjnacnmfbjaa", sum := "949aad42759e0cd8f15314d661c828a0130d8c65712b4415396e2165c164d090", func := "loop.example/g01108/laws.FnExactHoleLengths", spec := "fnExactHoleLengths", recurses := true, apart := false, narrowed := true }
def FnExactHoleLengthsUptoSaid : Prop := fnExactHoleLengthsUptoRow.holds Try.pinned (OpenSpec.upto fnExactHoleLengthsSpec)

/-- 'laws.FnExactZigzagLengths', WHERE WHAT IT READS IS OF BULK AT MOST 1048576: true; the input reads as it did. -/
def fnExactZigzagLengthsUptoRow : OpenClaim := { program := "ytpdhjnacnmfbjaa", sum := "949aad42759e0cd8f15314d661c828a0130d8c65712b4415396e2165c164d090", func := "loop.example/g01108/laws.FnExactZigzagLengths", spec := "fnExactZigzagLengths", recurses := true, apart := false, narrowed := true }
def FnExactZigzagLengthsUptoSaid : Prop := fnExactZigzagLengthsUptoRow.holds Try.pinned (OpenSpec.upto fnExactZigzagLengthsSpec)

/-- 'laws.FnExactEndsOfEdges', WHERE WHAT IT READS IS OF BULK AT MOST 1048576: true; the input reads as it did. -/
def fnExactEndsOfEdgesUptoRow : OpenClaim := { program := "ytpdhjnacnmfbjaa", sum := "949aad42759e0cd8f15314d661c828a0130d8c65712b4415396e2165c164d090", func := "loop.example/g01108/laws.FnExactEndsOfEdges", spec := "fnExactEndsOfEdges", recurses := true, apart := false, narrowed := true }
def FnExactEndsOfEdgesUptoSaid : Prop := fnExactEndsOfEdgesUptoRow.holds Try.pinned (OpenSpec.upto fnExactEndsOfEdgesSpec)

/-- 'laws.FnExactNeighboursOf', WHERE WHAT IT READS IS OF BULK AT MOST 1048576: true; the input reads as it did. -/
def fnExactNeighboursOfUptoRow : OpenClaim := { program := "ytpdhjnacnmfbjaa", sum := "949aad42759e0cd8f15314d661c828a0130d8c65712b4415396e2165c164d090", func := "loop.example/g01108/laws.FnExactNeighboursOf", spec := "fnExactNeighboursOf", recurses := true, apart := false, narrowed := true }
def FnExactNeighboursOfUptoSaid : Prop := fnExactNeighboursOfUptoRow.holds Try.pinned (OpenSpec.upto fnExactNeighboursOfSpec)

/-- 'laws.FnExactGraphDiameter', WHERE WHAT IT READS IS OF BULK AT MOST 1048576: true; the input reads as it did. -/
def fnExactGraphDiameterUptoRow : OpenClaim := { program := "ytpdhjnacnmfbjaa", sum := "949aad42759e0cd8f15314d661c828a0130d8c65712b4415396e2165c164d090", func := "loop.example/g01108/laws.FnExactGraphDiameter", spec := "fnExactGraphDiameter", unfollowed := true, recurses := true, apart := false, narrowed := true }
def FnExactGraphDiameterUptoSaid : Prop := fnExactGraphDiameterUptoRow.holds Try.pinned (OpenSpec.upto fnExactGraphDiameterSpec)

/-- 'laws.FnExactVertexDistances', WHERE WHAT IT READS IS OF BULK AT MOST 1048576: true; the input reads as it did. -/
def fnExactVertexDistancesUptoRow : OpenClaim := { program := "ytpdhjnacnmfbjaa", sum := "949aad42759e0cd8f15314d661c828a0130d8c65712b4415396e2165c164d090", func := "loop.example/g01108/laws.FnExactVertexDistances", spec := "fnExactVertexDistances", unfollowed := true, recurses := true, apart := false, narrowed := true }
def FnExactVertexDistancesUptoSaid : Prop := fnExactVertexDistancesUptoRow.holds Try.pinned (OpenSpec.upto fnExactVertexDistancesSpec)

/-- 'laws.FnExactPartsOf', WHERE WHAT IT READS IS OF BULK AT MOST 1048576: true; the input reads as it did. -/
def fnExactPartsOfUptoRow : OpenClaim := { program := "ytpdhjnacnmfbjaa", sum := "949aad42759e0cd8f15314d661c828a0130d8c65712b4415396e2165c164d090", func := "loop.example/g01108/laws.FnExactPartsOf", spec := "fnExactPartsOf", unfollowed := true, recurses := true, apart := false, narrowed := true }
def FnExactPartsOfUptoSaid : Prop := fnExactPartsOfUptoRow.holds Try.pinned (OpenSpec.upto fnExactPartsOfSpec)

/-- 'laws.FnExactCutVertices', WHERE WHAT IT READS IS OF BULK AT MOST 1048576: true; the input reads as it did. -/
def fnExactCutVerticesUptoRow : OpenClaim := { program := "ytpdhjnacnmfbjaa", sum := "949aad42759e0cd8f15314d661c828a0130d8c65712b4415396e2165c164d090", func := "loop.example/g01108/laws.FnExactCutVertices", spec := "fnExactCutVertices", unfollowed := true, recurses := true, apart := false, narrowed := true }
def FnExactCutVerticesUptoSaid : Prop := fnExactCutVerticesUptoRow.holds Try.pinned (OpenSpec.upto fnExactCutVerticesSpec)

end Rows
end Go.Proofs.Ytpdhjnacnmfbjaa
