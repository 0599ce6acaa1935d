/-
  No cell of these rows narrows 'for every input' (looked for: loops, veiled, ifaces, maps, wideKeys, modest, calm, conditions, laid).
  DERIVED. THE GIVEN ROWS OF THIS SEAT. 11 by the template 'for every input the law returns true; each argument reads behind the call as it read before'; 0 by the template 'total and deterministic' (their statements: YtgobjpcankaicaaTotals.lean).
  GIVEN WITH THE SEED: the statements are not yours to turn. If you find one false, say at which input.
  Laid BY PROGRAM, IN A SANDBOX (cutbox-rows.mjs): the forced cells as the released guide's own fill.sh prints them over the translation 0eaed351e199a7a0… (all of the seat's roots in one cut). By AI agents, Wed Nov 11 2026. No macro, syntax, notation, axiom, sorry.
-/
import Derived.Test.YtgobjpcankaicaaChecked
import GoSem.Claim
import GoSem.ClaimJoined
import GoSem.ClaimMapViews
import Derived.JoinedTies
import Derived.KernelRfl
namespace Go.Proofs.Ytgobjpcankaicaa
/- THE CELL 'sum', in the pinned program and in every row, IS THE sha256 OF THE DUMP (.gsa) THAT YtgobjpcankaicaaProg.lean LOADS. Nothing in Lean hashes anything: it is a label: what it is worth is what the hold of that sum in a sandbox is worth. -/
noncomputable def Try.pinned : Pinned := { name := "ytgobjpcankaicaa", sum := "0eaed351e199a7a0211c1eec28225a57abf5a11436a3a18bf52b65538339b660", checked := Try.checked }
namespace Rows
def none {H : Type} : Left H := { results := [], args := [] }

/-- 'laws.FnExactNewDesk': WHATEVER THE INPUT: true; the input reads as it did. -/
def fnExactNewDeskSpec : ChangeSpec := { name := "fnExactNewDesk", fn := fun _ => fun
  | [] => { results := [.lit (.bool true)], args := [] }
  | _ => none }
def fnExactNewDeskRow : OpenClaim := { program := "ytgobjpcankaicaa", sum := "0eaed351e199a7a0211c1eec28225a57abf5a11436a3a18bf52b65538339b660", func := "loop.example/g01108/laws.FnExactNewDesk", spec := "fnExactNewDesk", unfollowed := true, recurses := true, apart := false }
def FnExactNewDeskSaid : Prop := fnExactNewDeskRow.holds Try.pinned (OpenSpec.ofChange fnExactNewDeskSpec)

/-- ITS FALSE NEIGHBOUR: 'it returns false'. Refute it at one input. -/
def fnExactNewDeskWrong : ChangeSpec := { name := "fnExactNewDesk", fn := fun _ => fun
  | [] => { results := [.lit (.bool false)], args := [] }
  | _ => none }
def FnExactNewDeskWrongFalsely : Prop := fnExactNewDeskRow.holds Try.pinned (OpenSpec.ofChange fnExactNewDeskWrong)

/-- 'laws.FnExactHamiltonianCycle': WHATEVER THE INPUT: true; the input reads as it did. -/
def fnExactHamiltonianCycleSpec : ChangeSpec := { name := "fnExactHamiltonianCycle", fn := fun _ => fun
  | [d] => { results := [.lit (.bool true)], args := [d] }
  | _ => none }
def fnExactHamiltonianCycleRow : OpenClaim := { program := "ytgobjpcankaicaa", sum := "0eaed351e199a7a0211c1eec28225a57abf5a11436a3a18bf52b65538339b660", func := "loop.example/g01108/laws.FnExactHamiltonianCycle", spec := "fnExactHamiltonianCycle", unfollowed := true, recurses := true, apart := false }
def FnExactHamiltonianCycleSaid : Prop := fnExactHamiltonianCycleRow.holds Try.pinned (OpenSpec.ofChange fnExactHamiltonianCycleSpec)

/-- ITS FALSE NEIGHBOUR: 'it returns false'. Refute it at one input. -/
def fnExactHamiltonianCycleWrong : ChangeSpec := { name := "fnExactHamiltonianCycle", fn := fun _ => fun
  | [d] => { results := [.lit (.bool false)], args := [d] }
  | _ => none }
def FnExactHamiltonianCycleWrongFalsely : Prop := fnExactHamiltonianCycleRow.holds Try.pinned (OpenSpec.ofChange fnExactHamiltonianCycleWrong)

/-- 'laws.FnExactShortestPath': WHATEVER THE INPUT: true; the input reads as it did. -/
def fnExactShortestPathSpec : ChangeSpec := { name := "fnExactShortestPath", fn := fun _ => fun
  | [d1, d2, d3] => { results := [.lit (.bool true)], args := [d1, d2, d3] }
  | _ => none }
def fnExactShortestPathRow : OpenClaim := { program := "ytgobjpcankaicaa", sum := "0eaed351e199a7a0211c1eec28225a57abf5a11436a3a18bf52b65538339b660", func := "loop.example/g01108/laws.FnExactShortestPath", spec := "fnExactShortestPath", unfollowed := true, recurses := true, apart := false }
def FnExactShortestPathSaid : Prop := fnExactShortestPathRow.holds Try.pinned (OpenSpec.ofChange fnExactShortestPathSpec)

/-- ITS FALSE NEIGHBOUR: 'it returns false'. Refute it at one input. -/
def fnExactShortestPathWrong : ChangeSpec := { name := "fnExactShortestPath", fn := fun _ => fun
  | [d1, d2, d3] => { results := [.lit (.bool false)], args := [d1, d2, d3] }
  | _ => none }
def FnExactShortestPathWrongFalsely : Prop := fnExactShortestPathRow.holds Try.pinned (OpenSpec.ofChange fnExactShortestPathWrong)

/-- 'laws.FnExactCountManiplexes': WHATEVER THE INPUT: true; the input reads as it did. -/
def fnExactCountManiplexesSpec : ChangeSpec := { name := "fnExactCountManiplexes", fn := fun _ => fun
  | [d1, d2] => { results := [.lit (.bool true)], args := [d1, d2] }
  | _ => none }
def fnExactCountManiplexesRow : OpenClaim := { program := "ytgobjpcankaicaa", sum := "0eaed351e199a7a0211c1eec28225a57abf5a11436a3a18bf52b65538339b660", func := "loop.example/g01108/laws.FnExactCountManiplexes", spec := "fnExactCountManiplexes", unfollowed := true, recurses := true, apart := false }
def FnExactCountManiplexesSaid : Prop := fnExactCountManiplexesRow.holds Try.pinned (OpenSpec.ofChange fnExactCountManiplexesSpec)

/-- ITS FALSE NEIGHBOUR: 'it returns false'. Refute it at one input. -/
def fnExactCountManiplexesWrong : ChangeSpec := { name := "fnExactCountManiplexes", fn := fun _ => fun
  | [d1, d2] => { results := [.lit (.bool false)], args := [d1, d2] }
  | _ => none }
def FnExactCountManiplexesWrongFalsely : Prop := fnExactCountManiplexesRow.holds Try.pinned (OpenSpec.ofChange fnExactCountManiplexesWrong)

/-- 'laws.FnExactOrbitCounts': WHATEVER THE INPUT: true; the input reads as it did. -/
def fnExactOrbitCountsSpec : ChangeSpec := { name := "fnExactOrbitCounts", fn := fun _ => fun
  | [d1, d2] => { results := [.lit (.bool true)], args := [d1, d2] }
  | _ => none }
def fnExactOrbitCountsRow : OpenClaim := { program := "ytgobjpcankaicaa", sum := "0eaed351e199a7a0211c1eec28225a57abf5a11436a3a18bf52b65538339b660", func := "loop.example/g01108/laws.FnExactOrbitCounts", spec := "fnExactOrbitCounts", unfollowed := true, recurses := true, apart := false }
def FnExactOrbitCountsSaid : Prop := fnExactOrbitCountsRow.holds Try.pinned (OpenSpec.ofChange fnExactOrbitCountsSpec)

/-- ITS FALSE NEIGHBOUR: 'it returns false'. Refute it at one input. -/
def fnExactOrbitCountsWrong : ChangeSpec := { name := "fnExactOrbitCounts", fn := fun _ => fun
  | [d1, d2] => { results := [.lit (.bool false)], args := [d1, d2] }
  | _ => none }
def FnExactOrbitCountsWrongFalsely : Prop := fnExactOrbitCountsRow.holds Try.pinned (OpenSpec.ofChange fnExactOrbitCountsWrong)

/-- 'laws.FnExactManiplexAt': WHATEVER THE INPUT: true; the input reads as it did. -/
def fnExactManiplexAtSpec : ChangeSpec := { name := "fnExactManiplexAt", fn := fun _ => fun
  | [d1, d2, d3] => { results := [.lit (.bool true)], args := [d1, d2, d3] }
  | _ => none }
def fnExactManiplexAtRow : OpenClaim := { program := "ytgobjpcankaicaa", sum := "0eaed351e199a7a0211c1eec28225a57abf5a11436a3a18bf52b65538339b660", func := "loop.example/g01108/laws.FnExactManiplexAt", spec := "fnExactManiplexAt", unfollowed := true, recurses := true, apart := false }
def FnExactManiplexAtSaid : Prop := fnExactManiplexAtRow.holds Try.pinned (OpenSpec.ofChange fnExactManiplexAtSpec)

/-- ITS FALSE NEIGHBOUR: 'it returns false'. Refute it at one input. -/
def fnExactManiplexAtWrong : ChangeSpec := { name := "fnExactManiplexAt", fn := fun _ => fun
  | [d1, d2, d3] => { results := [.lit (.bool false)], args := [d1, d2, d3] }
  | _ => none }
def FnExactManiplexAtWrongFalsely : Prop := fnExactManiplexAtRow.holds Try.pinned (OpenSpec.ofChange fnExactManiplexAtWrong)

/-- 'laws.FnExactAllManiplexes': WHATEVER THE INPUT: true; the input reads as it did. -/
def fnExactAllManiplexesSpec : ChangeSpec := { name := "fnExactAllManiplexes", fn := fun _ => fun
  | [d1, d2] => { results := [.lit (.bool true)], args := [d1, d2] }
  | _ => none }
def fnExactAllManiplexesRow : OpenClaim := { program := "ytgobjpcankaicaa", sum := "0eaed351e199a7a0211c1eec28225a57abf5a11436a3a18bf52b65538339b660", func := "loop.example/g01108/laws.FnExactAllManiplexes", spec := "fnExactAllManiplexes", unfollowed := true, recurses := true, apart := false }
def FnExactAllManiplexesSaid : Prop := fnExactAllManiplexesRow.holds Try.pinned (OpenSpec.ofChange fnExactAllManiplexesSpec)

/-- ITS FALSE NEIGHBOUR: 'it returns false'. Refute it at one input. -/
def fnExactAllManiplexesWrong : ChangeSpec := { name := "fnExactAllManiplexes", fn := fun _ => fun
  | [d1, d2] => { results := [.lit (.bool false)], args := [d1, d2] }
  | _ => none }
def FnExactAllManiplexesWrongFalsely : Prop := fnExactAllManiplexesRow.holds Try.pinned (OpenSpec.ofChange fnExactAllManiplexesWrong)

/-- 'laws.FnExactRegularManiplexes': WHATEVER THE INPUT: true; the input reads as it did. -/
def fnExactRegularManiplexesSpec : ChangeSpec := { name := "fnExactRegularManiplexes", fn := fun _ => fun
  | [d1, d2] => { results := [.lit (.bool true)], args := [d1, d2] }
  | _ => none }
def fnExactRegularManiplexesRow : OpenClaim := { program := "ytgobjpcankaicaa", sum := "0eaed351e199a7a0211c1eec28225a57abf5a11436a3a18bf52b65538339b660", func := "loop.example/g01108/laws.FnExactRegularManiplexes", spec := "fnExactRegularManiplexes", unfollowed := true, recurses := true, apart := false }
def FnExactRegularManiplexesSaid : Prop := fnExactRegularManiplexesRow.holds Try.pinned (OpenSpec.ofChange fnExactRegularManiplexesSpec)

/-- ITS FALSE NEIGHBOUR: 'it returns false'. Refute it at one input. -/
def fnExactRegularManiplexesWrong : ChangeSpec := { name := "fnExactRegularManiplexes", fn := fun _ => fun
  | [d1, d2] => { results := [.lit (.bool false)], args := [d1, d2] }
  | _ => none }
def FnExactRegularManiplexesWrongFalsely : Prop := fnExactRegularManiplexesRow.holds Try.pinned (OpenSpec.ofChange fnExactRegularManiplexesWrong)

/-- 'laws.FnExactPlaceOf': WHATEVER THE INPUT: true; the input reads as it did. -/
def fnExactPlaceOfSpec : ChangeSpec := { name := "fnExactPlaceOf", fn := fun _ => fun
  | [d] => { results := [.lit (.bool true)], args := [d] }
  | _ => none }
def fnExactPlaceOfRow : OpenClaim := { program := "ytgobjpcankaicaa", sum := "0eaed351e199a7a0211c1eec28225a57abf5a11436a3a18bf52b65538339b660", func := "loop.example/g01108/laws.FnExactPlaceOf", spec := "fnExactPlaceOf", unfollowed := true, recurses := true, apart := false }
def FnExactPlaceOfSaid : Prop := fnExactPlaceOfRow.holds Try.pinned (OpenSpec.ofChange fnExactPlaceOfSpec)

/-- ITS FALSE NEIGHBOUR: 'it returns false'. Refute it at one input. -/
def fnExactPlaceOfWrong : ChangeSpec := { name := "fnExactPlaceOf", fn := fun _ => fun
  | [d] => { results := [.lit (.bool false)], args := [d] }
  | _ => none }
def FnExactPlaceOfWrongFalsely : Prop := fnExactPlaceOfRow.holds Try.pinned (OpenSpec.ofChange fnExactPlaceOfWrong)

/-- 'laws.FnExactCensusOf': WHATEVER THE INPUT: true; the input reads as it did. -/
def fnExactCensusOfSpec : ChangeSpec := { name := "fnExactCensusOf", fn := fun _ => fun
  | [d1, d2] => { results := [.lit (.bool true)], args := [d1, d2] }
  | _ => none }
def fnExactCensusOfRow : OpenClaim := { program := "ytgobjpcankaicaa", sum := "0eaed351e199a7a0211c1eec28225a57abf5a11436a3a18bf52b65538339b660", func := "loop.example/g01108/laws.FnExactCensusOf", spec := "fnExactCensusOf", unfollowed := true, recurses := true, apart := false }
def FnExactCensusOfSaid : Prop := fnExactCensusOfRow.holds Try.pinned (OpenSpec.ofChange fnExactCensusOfSpec)

/-- ITS FALSE NEIGHBOUR: 'it returns false'. Refute it at one input. -/
def fnExactCensusOfWrong : ChangeSpec := { name := "fnExactCensusOf", fn := fun _ => fun
  | [d1, d2] => { results := [.lit (.bool false)], args := [d1, d2] }
  | _ => none }
def FnExactCensusOfWrongFalsely : Prop := fnExactCensusOfRow.holds Try.pinned (OpenSpec.ofChange fnExactCensusOfWrong)

/-- 'laws.FnExactNextManiplex': WHATEVER THE INPUT: true; the input reads as it did. -/
def fnExactNextManiplexSpec : ChangeSpec := { name := "fnExactNextManiplex", fn := fun _ => fun
  | [d] => { results := [.lit (.bool true)], args := [d] }
  | _ => none }
def fnExactNextManiplexRow : OpenClaim := { program := "ytgobjpcankaicaa", sum := "0eaed351e199a7a0211c1eec28225a57abf5a11436a3a18bf52b65538339b660", func := "loop.example/g01108/laws.FnExactNextManiplex", spec := "fnExactNextManiplex", unfollowed := true, recurses := true, apart := false }
def FnExactNextManiplexSaid : Prop := fnExactNextManiplexRow.holds Try.pinned (OpenSpec.ofChange fnExactNextManiplexSpec)

/-- ITS FALSE NEIGHBOUR: 'it returns false'. Refute it at one input. -/
def fnExactNextManiplexWrong : ChangeSpec := { name := "fnExactNextManiplex", fn := fun _ => fun
  | [d] => { results := [.lit (.bool false)], args := [d] }
  | _ => none }
def FnExactNextManiplexWrongFalsely : Prop := fnExactNextManiplexRow.holds Try.pinned (OpenSpec.ofChange fnExactNextManiplexWrong)

/- THE SECOND FORM. 'bulk': how many values and letters a reading holds, each counted each time it is reached (what is shared counts as often as it is met; a slice's spare places count too). A statement '..UptoSaid' is the law's where the arguments, and the package variables that the reading takes, are together of bulk at most 1048576: NARROWER than '..Said'. Prove '..Said' where nothing that the law and all that it calls make is longer than what came in: it says more and counts as full. Else prove '..UptoSaid'. A law counts once. -/
mutual
def uptoBulk {H : Type} : DataW H → Nat
  | .lit (.string bytes) => bytes.length + 1
  | .lit _ => 1
  | .nil => 1
  | .ptr d => uptoBulk d + 1
  | .slice elems spare => uptoBulkAll elems + uptoBulkAll spare + 1
  | .agg parts => uptoBulkAll parts + 1
  | .iface _ d => uptoBulk d + 1
  | .map entries => uptoBulkEntries entries + 1
  | .held _ => 1
def uptoBulkAll {H : Type} : List (DataW H) → Nat
  | [] => 0
  | d :: r => uptoBulk d + uptoBulkAll r
def uptoBulkEntries {H : Type} : List (Lit × DataW H) → Nat
  | [] => 0
  | x :: r => uptoBulkEntry x + uptoBulkEntries r
def uptoBulkEntry {H : Type} : Lit × DataW H → Nat
  | (.string bytes, d) => bytes.length + uptoBulk d + 1
  | (_, d) => uptoBulk d + 1
 end
def uptoSmall : (H : Type) → List (DataW H) → Bool := fun _ ds => decide (uptoBulkAll ds ≤ 1048576)
def OpenSpec.upto (s : _root_.Go.ChangeSpec) : _root_.Go.OpenSpec := { _root_.Go.OpenSpec.ofChange s with cond := some uptoSmall }

/-- 'laws.FnExactNewDesk', WHERE WHAT IT READS IS OF BULK AT MOST 1048576: true; the input reads as it did. -/
def fnExactNewDeskUptoRow : OpenClaim := { program := "ytgobjpcankaicaa", sum := "0eaed351e199a7a0211c1eec28225a57abf5a11436a3a18bf52b65538339b660", func := "loop.example/g01108/laws.FnExactNewDesk", spec := "fnExactNewDesk", unfollowed := true, recurses := true, apart := false, narrowed := true }
def FnExactNewDeskUptoSaid : Prop := fnExactNewDeskUptoRow.holds Try.pinned (OpenSpec.upto fnExactNewDeskSpec)

/-- 'laws.FnExactHamiltonianCycle', WHERE WHAT IT READS IS OF BULK AT MOST 1048576: true; the input reads as it did. -/
def fnExactHamiltonianCycleUptoRow : OpenClaim := { program := "ytgobjpcankaicaa", sum := "0eaed351e199a7a0211c1eec28225a57abf5a11436a3a18bf52b65538339b660", func := "loop.example/g01108/laws.FnExactHamiltonianCycle", spec := "fnExactHamiltonianCycle", unfollowed := true, recurses := true, apart := false, narrowed := true }
def FnExactHamiltonianCycleUptoSaid : Prop := fnExactHamiltonianCycleUptoRow.holds Try.pinned (OpenSpec.upto fnExactHamiltonianCycleSpec)

/-- 'laws.FnExactShortestPath', WHERE WHAT IT READS IS OF BULK AT MOST 1048576: true; the input reads as it did. -/
def fnExactShortestPathUptoRow : OpenClaim := { program := "ytgobjpcankaicaa", sum := "0eaed351e199a7a0211c1eec28225a57abf5a11436a3a18bf52b65538339b660", func := "loop.example/g01108/laws.FnExactShortestPath", spec := "fnExactShortestPath", unfollowed := true, recurses := true, apart := false, narrowed := true }
def FnExactShortestPathUptoSaid : Prop := fnExactShortestPathUptoRow.holds Try.pinned (OpenSpec.upto fnExactShortestPathSpec)

/-- 'laws.FnExactCountManiplexes', WHERE WHAT IT READS IS OF BULK AT MOST 1048576: true; the input reads as it did. -/
def fnExactCountManiplexesUptoRow : OpenClaim := { program := "ytgobjpcankaicaa", sum := "0eaed351e199a7a0211c1eec28225a57abf5a11436a3a18bf52b65538339b660", func := "loop.example/g01108/laws.FnExactCountManiplexes", spec := "fnExactCountManiplexes", unfollowed := true, recurses := true, apart := false, narrowed := true }
def FnExactCountManiplexesUptoSaid : Prop := fnExactCountManiplexesUptoRow.holds Try.pinned (OpenSpec.upto fnExactCountManiplexesSpec)

/-- 'laws.FnExactOrbitCounts', WHERE WHAT IT READS IS OF BULK AT MOST 1048576: true; the input reads as it did. -/
def fnExactOrbitCountsUptoRow : OpenClaim := { program := "ytgobjpcankaicaa", sum := "0eaed351e199a7a0211c1eec28225a57abf5a11436a3a18bf52b65538339b660", func := "loop.example/g01108/laws.FnExactOrbitCounts", spec := "fnExactOrbitCounts", unfollowed := true, recurses := true, apart := false, narrowed := true }
def FnExactOrbitCountsUptoSaid : Prop := fnExactOrbitCountsUptoRow.holds Try.pinned (OpenSpec.upto fnExactOrbitCountsSpec)

/-- 'laws.FnExactManiplexAt', WHERE WHAT IT READS IS OF BULK AT MOST 1048576: true; the input reads as it did. -/
def fnExactManiplexAtUptoRow : OpenClaim := { program := "ytgobjpcankaicaa", sum := "0eaed351e199a7a0211c1eec28225a57abf5a11436a3a18bf52b65538339b660", func := "loop.example/g01108/laws.FnExactManiplexAt", spec := "fnExactManiplexAt", unfollowed := true, recurses := true, apart := false, narrowed := true }
def FnExactManiplexAtUptoSaid : Prop := fnExactManiplexAtUptoRow.holds Try.pinned (OpenSpec.upto fnExactManiplexAtSpec)

/-- 'laws.FnExactAllManiplexes', WHERE WHAT IT READS IS OF BULK AT MOST 1048576: true; the input reads as it did. -/
def fnExactAllManiplexesUptoRow : OpenClaim := { program := "ytgobjpcankaicaa", sum := "0eaed351e199a7a0211c1eec28225a57abf5a11436a3a18bf52b65538339b660", func := "loop.example/g01108/laws.FnExactAllManiplexes", spec := "fnExactAllManiplexes", unfollowed := true, recurses := true, apart := false, narrowed := true }
def FnExactAllManiplexesUptoSaid : Prop := fnExactAllManiplexesUptoRow.holds Try.pinned (OpenSpec.upto fnExactAllManiplexesSpec)

/-- 'laws.FnExactRegularManiplexes', WHERE WHAT IT READS IS OF BULK AT MOST 1048576: true; the input reads as it did. -/
def fnExactRegularManiplexesUptoRow : OpenClaim := { program := "ytgobjpcankaicaa", sum := "0eaed351e199a7a0211c1eec28225a57abf5a11436a3a18bf52b65538339b660", func := "loop.example/g01108/laws.FnExactRegularManiplexes", spec := "fnExactRegularManiplexes", unfollowed := true, recurses := true, apart := false, narrowed := true }
def FnExactRegularManiplexesUptoSaid : Prop := fnExactRegularManiplexesUptoRow.holds Try.pinned (OpenSpec.upto fnExactRegularManiplexesSpec)

/-- 'laws.FnExactPlaceOf', WHERE WHAT IT READS IS OF BULK AT MOST 1048576: true; the input reads as it did. -/
def fnExactPlaceOfUptoRow : OpenClaim := { program := "ytgobjpcankaicaa", sum := "0eaed351e199a7a0211c1eec28225a57abf5a11436a3a18bf52b65538339b660", func := "loop.example/g01108/laws.FnExactPlaceOf", spec := "fnExactPlaceOf", unfollowed := true, recurses := true, apart := false, narrowed := true }
def FnExactPlaceOfUptoSaid : Prop := fnExactPlaceOfUptoRow.holds Try.pinned (OpenSpec.upto fnExactPlaceOfSpec)

/-- 'laws.FnExactCensusOf', WHERE WHAT IT READS IS OF BULK AT MOST 1048576: true; the input reads as it did. -/
def fnExactCensusOfUptoRow : OpenClaim := { program := "ytgobjpcankaicaa", sum := "0eaed351e199a7a0211c1eec28225a57abf5a11436a3a18bf52b65538339b660", func := "loop.example/g01108/laws.FnExactCensusOf", spec := "fnExactCensusOf", unfollowed := true, recurses := true, apart := false, narrowed := true }
def FnExactCensusOfUptoSaid : Prop := fnExactCensusOfUptoRow.holds Try.pinned (OpenSpec.upto fnExactCensusOfSpec)

/-- 'laws.FnExactNextManiplex', WHERE WHAT IT READS IS OF BULK AT MOST 1048576: true; the input reads as it did. -/
def fnExactNextManiplexUptoRow : OpenClaim := { program := "ytgobjpcankaicaa", sum := "0eaed351e199a7a0211c1eec28225a57abf5a11436a3a18bf52b65538339b660", func := "loop.example/g01108/laws.FnExactNextManiplex", spec := "fnExactNextManiplex", unfollowed := true, recurses := true, apart := false, narrowed := true }
def FnExactNextManiplexUptoSaid : Prop := fnExactNextManiplexUptoRow.holds Try.pinned (OpenSpec.upto fnExactNextManiplexSpec)

end Rows
end Go.Proofs.Ytgobjpcankaicaa
