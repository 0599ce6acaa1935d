/-
  No cell of these rows narrows 'for every input' (looked for: loops, veiled, ifaces, maps, wideKeys, modest, calm, conditions, laid).
  DERIVED. THE GIVEN ROWS OF THIS SEAT. 3 by the template 'for every input the law returns true; each argument reads behind the call as it read before'; 0 by the template 'total and deterministic' (their statements: YtjpkmpihmilgoaaGreatTotals.lean).
  GIVEN WITH THE SEED: the statements are not yours to turn. If you find one false, say at which input.
  Laid BY PROGRAM, IN A SANDBOX (cutbox-rows.mjs): the forced cells as the released guide's own fill.sh prints them over the translation 0429cf1fec1ec0a8… (all of the seat's roots in one cut). By AI agents, Wed Nov 11 2026. No macro, syntax, notation, axiom, sorry.
-/
import Derived.Test.YtjpkmpihmilgoaaGreatChecked
import GoSem.Claim
import GoSem.ClaimJoined
import GoSem.ClaimMapViews
import Derived.JoinedTies
import Derived.KernelRfl
namespace Go.Proofs.YtjpkmpihmilgoaaGreat
/- THE CELL 'sum', in the pinned program and in every row, IS THE sha256 OF THE DUMP (.gsa) THAT YtjpkmpihmilgoaaGreatProg.lean LOADS. Nothing in Lean hashes anything: it is a label: what it is worth is what the hold of that sum in a sandbox is worth. -/
noncomputable def Tryz.pinned : Pinned := { name := "ytjpkmpihmilgoaagreat", sum := "0429cf1fec1ec0a830c2c8cfafd47cb30df4f93adaa7bec09cecf20775049a71", checked := Tryz.checked }
namespace Rows
def none {H : Type} : Left H := { results := [], args := [] }

/-- 'laws.FnLists': WHATEVER THE INPUT: true; the input reads as it did. -/
def fnListsSpec : ChangeSpec := { name := "fnLists", fn := fun _ => fun
  | [d] => { results := [.lit (.bool true)], args := [d] }
  | _ => none }
def fnListsRow : OpenClaim := { program := "ytjpkmpihmilgoaagreat", sum := "0429cf1fec1ec0a830c2c8cfafd47cb30df4f93adaa7bec09cecf20775049a71", func := "loop.example/g01108/laws.FnLists", spec := "fnLists", unfollowed := true, recurses := true, apart := false }
def FnListsSaid : Prop := fnListsRow.holds Tryz.pinned (OpenSpec.ofChange fnListsSpec)

/-- ITS FALSE NEIGHBOUR: 'it returns false'. Refute it at one input. -/
def fnListsWrong : ChangeSpec := { name := "fnLists", fn := fun _ => fun
  | [d] => { results := [.lit (.bool false)], args := [d] }
  | _ => none }
def FnListsWrongFalsely : Prop := fnListsRow.holds Tryz.pinned (OpenSpec.ofChange fnListsWrong)

/-- 'laws.FnWordLengths': WHATEVER THE INPUT: true; the input reads as it did. -/
def fnWordLengthsSpec : ChangeSpec := { name := "fnWordLengths", fn := fun _ => fun
  | [d] => { results := [.lit (.bool true)], args := [d] }
  | _ => none }
def fnWordLengthsRow : OpenClaim := { program := "ytjpkmpihmilgoaagreat", sum := "0429cf1fec1ec0a830c2c8cfafd47cb30df4f93adaa7bec09cecf20775049a71", func := "loop.example/g01108/laws.FnWordLengths", spec := "fnWordLengths", unfollowed := true, recurses := true, apart := false }
def FnWordLengthsSaid : Prop := fnWordLengthsRow.holds Tryz.pinned (OpenSpec.ofChange fnWordLengthsSpec)

/-- ITS FALSE NEIGHBOUR: 'it returns false'. Refute it at one input. -/
def fnWordLengthsWrong : ChangeSpec := { name := "fnWordLengths", fn := fun _ => fun
  | [d] => { results := [.lit (.bool false)], args := [d] }
  | _ => none }
def FnWordLengthsWrongFalsely : Prop := fnWordLengthsRow.holds Tryz.pinned (OpenSpec.ofChange fnWordLengthsWrong)

/-- 'laws.FnDistances': WHATEVER THE INPUT: true; the input reads as it did. -/
def fnDistancesSpec : ChangeSpec := { name := "fnDistances", fn := fun _ => fun
  | [d] => { results := [.lit (.bool true)], args := [d] }
  | _ => none }
def fnDistancesRow : OpenClaim := { program := "ytjpkmpihmilgoaagreat", sum := "0429cf1fec1ec0a830c2c8cfafd47cb30df4f93adaa7bec09cecf20775049a71", func := "loop.example/g01108/laws.FnDistances", spec := "fnDistances", unfollowed := true, recurses := true, apart := false }
def FnDistancesSaid : Prop := fnDistancesRow.holds Tryz.pinned (OpenSpec.ofChange fnDistancesSpec)

/-- ITS FALSE NEIGHBOUR: 'it returns false'. Refute it at one input. -/
def fnDistancesWrong : ChangeSpec := { name := "fnDistances", fn := fun _ => fun
  | [d] => { results := [.lit (.bool false)], args := [d] }
  | _ => none }
def FnDistancesWrongFalsely : Prop := fnDistancesRow.holds Tryz.pinned (OpenSpec.ofChange fnDistancesWrong)

/- THE SECOND FORM. 'bulk': how many values and letters a reading holds, each counted each time it is reached (what is shared counts as often as it is met; a slice's spare places count too). A statement '..UptoSaid' is the law's where the arguments, and the package variables that the reading takes, are together of bulk at most 1048576: NARROWER than '..Said'. Prove '..Said' where nothing that the law and all that it calls make is longer than what came in: it says more and counts as full. Else prove '..UptoSaid'. A law counts once. -/
mutual
def uptoBulk {H : Type} : DataW H → Nat
  | .lit (.string bytes) => bytes.length + 1
  | .lit _ => 1
  | .nil => 1
  | .ptr d => uptoBulk d + 1
  | .slice elems spare => uptoBulkAll elems + uptoBulkAll spare + 1
  | .agg parts => uptoBulkAll parts + 1
  | .iface _ d => uptoBulk d + 1
  | .map entries => uptoBulkEntries entries + 1
  | .held _ => 1
def uptoBulkAll {H : Type} : List (DataW H) → Nat
  | [] => 0
  | d :: r => uptoBulk d + uptoBulkAll r
def uptoBulkEntries {H : Type} : List (Lit × DataW H) → Nat
  | [] => 0
  | x :: r => uptoBulkEntry x + uptoBulkEntries r
def uptoBulkEntry {H : Type} : Lit × DataW H → Nat
  | (.string bytes, d) => bytes.length + uptoBulk d + 1
  | (_, d) => uptoBulk d + 1
 end
def uptoSmall : (H : Type) → List (DataW H) → Bool := fun _ ds => decide (uptoBulkAll ds ≤ 1048576)
def OpenSpec.upto (s : _root_.Go.ChangeSpec) : _root_.Go.OpenSpec := { _root_.Go.OpenSpec.ofChange s with cond := some uptoSmall }

/-- 'laws.FnLists', WHERE WHAT IT READS IS OF BULK AT MOST 1048576: true; the input reads as it did. -/
def fnListsUptoRow : OpenClaim := { program := "ytjpkmpihmilgoaagreat", sum := "0429cf1fec1ec0a830c2c8cfafd47cb30df4f93adaa7bec09cecf20775049a71", func := "loop.example/g01108/laws.FnLists", spec := "fnLists", unfollowed := true, recurses := true, apart := false, narrowed := true }
def FnListsUptoSaid : Prop := fnListsUptoRow.holds Tryz.pinned (OpenSpec.upto fnListsSpec)

/-- 'laws.FnWordLengths', WHERE WHAT IT READS IS OF BULK AT MOST 1048576: true; the input reads as it did. -/
def fnWordLengthsUptoRow : OpenClaim := { program := "ytjpkmpihmilgoaagreat", sum := "0429cf1fec1ec0a830c2c8cfafd47cb30df4f93adaa7bec09cecf20775049a71", func := "loop.example/g01108/laws.FnWordLengths", spec := "fnWordLengths", unfollowed := true, recurses := true, apart := false, narrowed := true }
def FnWordLengthsUptoSaid : Prop := fnWordLengthsUptoRow.holds Tryz.pinned (OpenSpec.upto fnWordLengthsSpec)

/-- 'laws.FnDistances', WHERE WHAT IT READS IS OF BULK AT MOST 1048576: true; the input reads as it did. -/
def fnDistancesUptoRow : OpenClaim := { program := "ytjpkmpihmilgoaagreat", sum := "0429cf1fec1ec0a830c2c8cfafd47cb30df4f93adaa7bec09cecf20775049a71", func := "loop.example/g01108/laws.FnDistances", spec := "fnDistances", unfollowed := true, recurses := true, apart := false, narrowed := true }
def FnDistancesUptoSaid : Prop := fnDistancesUptoRow.holds Tryz.pinned (OpenSpec.upto fnDistancesSpec)

end Rows
end Go.Proofs.YtjpkmpihmilgoaaGreat
