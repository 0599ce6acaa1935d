/-
  The texts Srb, F4, Srl, G1, G2, G3, Gct, G4, G5, F1, F2, Uti, D4, D5, D8, D9, C9, C11, E1, E2, E3, Dst, Gpl, F3, L02, Lst, F5, Del, Hm, E5, H1, Dfi, E8, Gir, Map in one. Conditions: as each part states them.
-/
import Derived.Test.YtiblelgfkakmiaaGreatDoorLayc
import Derived.Shelf.SlSortCmp.NoneTotal
import Derived.Test.YtiblelgfkakmiaaGreatDoorZb
import Derived.Test.YtiblelgfkakmiaaGreatDoorZc
import Derived.KernelRfl
import Derived.Shelf.SortM.SortNone
import Derived.Test.YtiblelgfkakmiaaGreatDoorZa
import Derived.MapKept
import Derived.Carry
/-
  The library's sort by a function: its world in one's own words. Conditions: as each states them.
-/
namespace Go.Proofs.YtiblelgfkakmiaaGreatDoor.Vc
open Go.RowKit Go.Sort

/-- the place at a number -/
def sv (ss : List SlV) (j : Nat) : SlV := ss.getD j slNil
def encA (ss : List SlV) (n : Nat) (j : Fin n) : List Value := [(sv ss j).v]
end Go.Proofs.YtiblelgfkakmiaaGreatDoor.Vc
/-
  The walks of comparisons on both sides. Conditions: as each states them.
-/
namespace Go.Proofs.YtiblelgfkakmiaaGreatDoor.Vc
open Go.RowKit

/-! the program's side -/
/-! the reference's side -/
end Go.Proofs.YtiblelgfkakmiaaGreatDoor.Vc
/-
  The library's sort of lists by their order. Conditions: that the lists can be read while the row is turned about.
-/
namespace Go.Proofs.YtiblelgfkakmiaaGreatDoor.Vc
open Go.RowKit Go.Sort

/-- the place at a number, as a cell -/
def encB (ss : List SlV) (n : Nat) (j : Fin n) : Value := (sv ss j).v
end Go.Proofs.YtiblelgfkakmiaaGreatDoor.Vc
/-
  The walks of copies and of the reference's tests of partial moves. Conditions: as each states them.
-/
namespace Go.Proofs.YtiblelgfkakmiaaGreatDoor.Vc
open Go.RowKit

/-- partial moves whose numbers are flags, or below 0 -/
def Rng (n F : Nat) (M : List (List Int)) : Prop := ∀ (i : Nat) (f : Int), i < n → 0 ≤ f → f < F → cell M i f < F
end Go.Proofs.YtiblelgfkakmiaaGreatDoor.Vc
/-
  The walk of the reference's search for rooted forms. Conditions: as each states them.
-/
namespace Go.Proofs.YtiblelgfkakmiaaGreatDoor.Vc
open Go.RowKit

/-- what the loop over g has found -/
def body (n F : Nat) (ok : List (List Int) → Nat → Nat → Bool) (fin : List (List Int) → Bool) (k at_ met : Nat) (M : List (List Int)) (g : Nat) : List (List (List Int)) :=
  if 0 ≤ cell M (at_ % n) (g : Nat) then [] else if ok (put M (at_ % n) (at_ / n) g) (at_ % n) (at_ / n) = true then grow n F ok fin k (at_ + 1) (max met (g + 1)) (put M (at_ % n) (at_ / n) g) else []
end Go.Proofs.YtiblelgfkakmiaaGreatDoor.Vc
/-
  The walk of the reference's search for rooted forms. Conditions: as each states them.
-/
namespace Go.Proofs.YtiblelgfkakmiaaGreatDoor.Vc
open Go.RowKit

end Go.Proofs.YtiblelgfkakmiaaGreatDoor.Vc
/-
  Plain mathematics: how many rooted forms there can be. Conditions: as each states them. No program in sight.
-/
namespace Go.Proofs.YtiblelgfkakmiaaGreatDoor.Vc

def dft : Nat → Nat
  | 0 => 1
  | 1 => 0
  | u + 2 => (u + 1) * dft u
def prod : List Nat → Nat
  | [] => 1
  | x :: l => x * prod l
def phi (M : List (List Int)) : Nat := prod (M.map fun p => dft (unl p))
section
variable {n F : Nat} {M : List (List Int)} {met at_ : Nat}
/-- two moves that should commute meet at flag 0 -/
def bad0 (n : Nat) (M : List (List Int)) : Bool := (List.range n).any fun i => (List.range n).any fun k => decide (i + 2 ≤ k ∧ 0 ≤ cell M i 0 ∧ cell M i 0 = cell M k 0)
/-- a bound that looks at j places first -/
def wt (n F : Nat) : Nat → Nat → Nat → List (List Int) → Nat
  | 0, _, _, M => if bad0 n M = true then 0 else phi M
  | j + 1, at_, met, M =>
    if at_ = met * n then 1
    else if 0 ≤ cell M (at_ % n) (at_ / n : Nat) then wt n F j (at_ + 1) met M
    else ((List.range' (at_ / n + 1) (min met (F - 1) - at_ / n)).map fun g => if 0 ≤ cell M (at_ % n) (g : Nat) then 0 else wt n F j (at_ + 1) (max met (g + 1)) (put M (at_ % n) (at_ / n) g)).sum

end

end Go.Proofs.YtiblelgfkakmiaaGreatDoor.Vc
/-
  The walks of the reference's list of rooted forms and of its count. Conditions: as each states them.
-/
namespace Go.Proofs.YtiblelgfkakmiaaGreatDoor.Vc
open Go.RowKit

def Small (rank flags : Int) : Prop := (1 ≤ rank ∧ rank ≤ 4) ∧ (2 ≤ flags ∧ flags ≤ 12)
instance (rank flags : Int) : Decidable (Small rank flags) := by unfold Small; exact inferInstance
/-- the answer: how many, and the code -/
def cnt1 (rank flags : Int) : Int := if Small rank flags then ((forms rank.toNat flags.toNat (flags.toNat * rank.toNat + 1) 0 1 (blank rank.toNat flags.toNat)).length : Int) else 0
def cnt2 (rank flags : Int) : Int := if Small rank flags then 0 else 2
end Go.Proofs.YtiblelgfkakmiaaGreatDoor.Vc
/-
  The walks of the program's copies and of its test of a move. Conditions: as each states them.
-/
namespace Go.Proofs.YtiblelgfkakmiaaGreatDoor.Vc
open Go.RowKit

end Go.Proofs.YtiblelgfkakmiaaGreatDoor.Vc
/-
  The walks of the reference's forms. Conditions: as each states them.
-/
namespace Go.Proofs.YtiblelgfkakmiaaGreatDoor.Vc
open Go.RowKit

section
variable {P : Program} {N : Nat} {ops : Array Oper} {K : Env → World → Prop} {rest : List Oper} {e : Env} {w : World} {d : Nat} {ty : TypeId} {pos : String} {af : Array Edge}
end

end Go.Proofs.YtiblelgfkakmiaaGreatDoor.Vc
/-
  The walks of forms on both sides. Conditions: as each states them.
-/
namespace Go.Proofs.YtiblelgfkakmiaaGreatDoor.Vc
open Go.RowKit

end Go.Proofs.YtiblelgfkakmiaaGreatDoor.Vc
/-
  Small rules and lemmas that several walks share. Conditions: as each states them.
-/
namespace Go.Proofs.YtiblelgfkakmiaaGreatDoor.Vc
open Go.RowKit
section
variable {P : Program} {N : Nat} {ops : Array Oper} {K : Env → World → Prop} {rest : List Oper} {e : Env} {w : World} {d : Nat} {ty : TypeId} {pos : String} {af : Array Edge}
end

end Go.Proofs.YtiblelgfkakmiaaGreatDoor.Vc
/-
  The ends of edges on both sides. Conditions: as each states them.
-/
namespace Go.Proofs.YtiblelgfkakmiaaGreatDoor.Vc
open Go.RowKit

/-- what is put for f flags, with twins: for each edge the vertices, as they come -/
def bag (Vl El : List Int) (m : Nat) : Nat → List (List Int)
  | 0 => List.replicate m []
  | f + 1 => (bag Vl El m f).set (gi El f).toNat (gl (bag Vl El m f) (gi El f) ++ [gi Vl f])
/-- the same as ascending lists without twins -/
def ends (Vl El : List Int) (m f : Nat) : List (List Int) := (bag Vl El m f).map cs
def edgesN (xss : List (List Int)) : Nat := (facesN xss 1).toNat
def endsL (xss : List (List Int)) : List (List Int) := ends (facesL xss 0) (facesL xss 1) (edgesN xss) (gl xss 0).length
end Go.Proofs.YtiblelgfkakmiaaGreatDoor.Vc
/-
  The ends of edges on the program's side, and the answers on both. Conditions: as each states them.
-/
namespace Go.Proofs.YtiblelgfkakmiaaGreatDoor.Vc
open Go.RowKit

/-- the answer: a list of lists in memory of its own, and a code -/
def AnsSS (L : List (List Int)) (K : Int) (w : World) (v : Value) (w' : World) : Prop := ∃ A' c' rs', v = .tuple #[.slice A' L.length c', .int .i64 K] ∧ rs'.length = L.length ∧ St w w' (mat 28 2 A' L.length c' rs' L ++ [])
def eoeL (xss : List (List Int)) : List (List Int) := if Grph xss then endsL xss else []

/-- some rows turned, the others not yet -/
def mixL (B : List (List Int)) (e : Nat) : List (List Int) := (B.take e).map cs ++ B.drop e
end Go.Proofs.YtiblelgfkakmiaaGreatDoor.Vc
/-
  Neighbours: what they are, and the reference's walk. Conditions: as each states them.
-/
namespace Go.Proofs.YtiblelgfkakmiaaGreatDoor.Vc
open Go.RowKit

/-! lists filled by pairs: a place, and what is put there -/
def bagP (m : Nat) (ps : List (Int × Int)) : List (List Int) := ps.foldl (fun B p => B.set p.1.toNat (gl B p.1 ++ [p.2])) (List.replicate m [])
def endsP (m : Nat) (ps : List (Int × Int)) : List (List Int) := (bagP m ps).map cs
/-! the vertices at an edge's ends -/
def vertsN (xss : List (List Int)) : Nat := (facesN xss 0).toNat
/-- the pairs that the first e edges give -/
def arcs (En : List (List Int)) : Nat → List (Int × Int)
  | 0 => []
  | e + 1 => if (gl En e).length = 2 then (arcs En e ++ [(gi (gl En e) 0, gi (gl En e) 1)]) ++ [(gi (gl En e) 1, gi (gl En e) 0)] else arcs En e
def nbL (xss : List (List Int)) : List (List Int) := endsP (vertsN xss) (arcs (endsL xss) (edgesN xss))
end Go.Proofs.YtiblelgfkakmiaaGreatDoor.Vc
/-
  Neighbours on the program's side, and the answers on both. Conditions: as each states them.
-/
namespace Go.Proofs.YtiblelgfkakmiaaGreatDoor.Vc
open Go.RowKit

def nboL (xss : List (List Int)) : List (List Int) := if Grph xss then nbL xss else []
end Go.Proofs.YtiblelgfkakmiaaGreatDoor.Vc
/-
  The walks of the lengths of holes and zigzags on both sides. Conditions: as each states them.
-/
namespace Go.Proofs.YtiblelgfkakmiaaGreatDoor.Vc
open Go.RowKit

def holeL (xss : List (List Int)) (j : Int) : List Int := if holeK xss j = 0 then wordL xss (holeW (j - 1).toNat) else []
def zigL (xss : List (List Int)) (j : Int) : List Int := if holeK xss j = 0 then wordL xss (zigW j.toNat) else []

end Go.Proofs.YtiblelgfkakmiaaGreatDoor.Vc
/-
  The walks of the lengths of a word on both sides. Conditions: as each states them.
-/
namespace Go.Proofs.YtiblelgfkakmiaaGreatDoor.Vc
open Go.RowKit
section
variable {P : Program} {N : Nat} {ops : Array Oper} {K : Env → World → Prop} {rest : List Oper} {e : Env} {w : World} {d : Nat} {ty : TypeId} {pos : String} {af : Array Edge}
end

def allIn (lo hi : Int) (xs : List Int) : Prop := ∀ x ∈ xs, lo ≤ x ∧ x ≤ hi
instance (lo hi : Int) (xs : List Int) : Decidable (allIn lo hi xs) := by unfold allIn; exact inferInstance

/-- a word of n moves -/
def IsW (n : Nat) (ws : List Int) : Prop := allIn 0 ((n : Int) - 1) ws ∧ ws.length ≤ 64
instance (n : Nat) (ws : List Int) : Decidable (IsW n ws) := by unfold IsW; exact inferInstance

def lowK (xss : List (List Int)) (ws : List Int) : Int := if ¬ Grph xss then 1 else if ¬ IsW xss.length ws then 2 else 0
def lowL (xss : List (List Int)) (ws : List Int) : List Int := if Grph xss ∧ IsW xss.length ws then wordL xss ws else []

end Go.Proofs.YtiblelgfkakmiaaGreatDoor.Vc
/-
  Distances in a graph: the search, and the walks of it on both sides. Conditions: as each states them.
-/
namespace Go.Proofs.YtiblelgfkakmiaaGreatDoor.Vc
open Go.RowKit

/-- one neighbour met: the distances, and the queue -/
def stepB (wo u : Int) (st : List Int × List Int) (x : Int) : List Int × List Int := if gi st.1 x < 0 ∧ x ≠ wo then (st.1.set x.toNat (gi st.1 u + 1), st.2 ++ [x]) else st
def rowB (wo u : Int) (r : List Int) (st : List Int × List Int) : List Int × List Int := r.foldl (stepB wo u) st
def bfsD (next : List (List Int)) (wo : Int) : Nat → Nat → List Int × List Int → List Int × List Int
  | 0, _, st => st
  | f + 1, i, st => if i < st.2.length then bfsD next wo f (i + 1) (rowB wo (gi st.2 (i : Int)) (gl next (gi st.2 (i : Int))) st) else st
def initB (n : Nat) (v : Int) : List Int × List Int := ((List.replicate n (-1)).set v.toNat 0, [v])
def distP (next : List (List Int)) (wo v : Int) : List Int × List Int := bfsD next wo (next.length + 1) 0 (initB next.length v)

structure BF (n : Nat) (st : List Int × List Int) : Prop where
  len : st.1.length = n
  rng : ∀ x ∈ st.2, 0 ≤ x ∧ x < n
  cnt : st.2.length + unl st.1 = n
  val : ∀ x ∈ st.1, -1 ≤ x ∧ x < st.2.length
  pos : ∀ x ∈ st.2, 0 ≤ gi st.1 x
/-- a graph's lists -/
structure Gr (n : Nat) (next : List (List Int)) : Prop where
  len : next.length = n
  small : n ≤ 400
  row : ∀ u : Int, 0 ≤ u → (∀ x ∈ gl next u, 0 ≤ x ∧ x < n) ∧ (gl next u).length ≤ 1000

end Go.Proofs.YtiblelgfkakmiaaGreatDoor.Vc
/-
  Distances and what is reached: the program's walks. Conditions: as each states them.
-/
namespace Go.Proofs.YtiblelgfkakmiaaGreatDoor.Vc
open Go.RowKit

end Go.Proofs.YtiblelgfkakmiaaGreatDoor.Vc
/-
  The graph of a maniplex with its code, and distances from a vertex on both sides. Conditions: as each states them.
-/
namespace Go.Proofs.YtiblelgfkakmiaaGreatDoor.Vc
open Go.RowKit

def goK (xss : List (List Int)) (vs : List Int) : Int := if ¬ Grph xss then 1 else if ¬ allIn 0 ((vertsN xss : Int) - 1) vs then 2 else 0
def goL (xss : List (List Int)) (vs : List Int) : List (List Int) := if Grph xss ∧ allIn 0 ((vertsN xss : Int) - 1) vs then nbL xss else []
def vdL (xss : List (List Int)) (v : Int) : List Int := if goK xss [v] = 0 then (distP (nbL xss) (-1) v).1 else []
end Go.Proofs.YtiblelgfkakmiaaGreatDoor.Vc
/-
  Plain mathematics of the graph of a maniplex: its vertices hang together, neighbours are neighbours of each other, and what a search by distances finds. Conditions: as each states them. No program in sight.
-/
namespace Go.Proofs.YtiblelgfkakmiaaGreatDoor.Vc

/-! labels and orbits -/
/-! the ends of an edge -/
/-! what the search by distances finds -/
structure BQ (n : Nat) (next : List (List Int)) (v : Int) (i : Nat) (st : List Int × List Int) : Prop where
  bf : BF n st
  at0 : gi st.1 v = 0
  vin : v ∈ st.2
  all : ∀ x : Int, 0 ≤ x → x < n → 0 ≤ gi st.1 x → x ∈ st.2
  mono : ∀ a b : Nat, a ≤ b → b < st.2.length → gi st.1 (gi st.2 a) ≤ gi st.1 (gi st.2 b)
  gap : i < st.2.length → ∀ b : Nat, b < st.2.length → gi st.1 (gi st.2 b) ≤ gi st.1 (gi st.2 i) + 1
  don : ∀ a : Nat, a < i → a < st.2.length → ∀ x ∈ gl next (gi st.2 a), 0 ≤ gi st.1 x ∧ gi st.1 x ≤ gi st.1 (gi st.2 a) + 1
  par : ∀ x ∈ st.2, x ≠ v → ∃ y ∈ st.2, x ∈ gl next y ∧ gi st.1 x = gi st.1 y + 1

/-- distances: 0 at the start; defined at the neighbours of what is met, and at most one more; and each other one has a neighbour one nearer -/
structure DF (n : Nat) (next : List (List Int)) (v : Int) (far : List Int) : Prop where
  len : far.length = n
  at0 : gi far v = 0
  nxt : ∀ y : Int, 0 ≤ y → y < n → 0 ≤ gi far y → ∀ x ∈ gl next y, 0 ≤ gi far x ∧ gi far x ≤ gi far y + 1
  par : ∀ x : Int, 0 ≤ x → x < n → 0 ≤ gi far x → x ≠ v → ∃ y : Int, (0 ≤ y ∧ y < n) ∧ x ∈ gl next y ∧ 0 ≤ gi far y ∧ gi far x = gi far y + 1
  top : ∀ x : Int, 0 ≤ x → x < n → gi far x < n
end Go.Proofs.YtiblelgfkakmiaaGreatDoor.Vc
/-
  Plain mathematics of ways in a graph: distances are the same both ways. Conditions: as each states them. No program in sight.
-/
namespace Go.Proofs.YtiblelgfkakmiaaGreatDoor.Vc

/-! ways in a graph -/
inductive PathK (next : List (List Int)) : Nat → Int → Int → Prop
  | nil (a : Int) : PathK next 0 a a
  | snoc {k : Nat} {a b c : Int} : PathK next k a b → c ∈ gl next b → PathK next (k + 1) a c
/-- neighbours are neighbours of each other -/
def SymG (n : Nat) (next : List (List Int)) : Prop := ∀ u x : Int, 0 ≤ u → u < n → x ∈ gl next u → u ∈ gl next x
/-! the two ends of an edge -/
end Go.Proofs.YtiblelgfkakmiaaGreatDoor.Vc
/-
  The walks of the program's forms, and of comparisons on both sides. Conditions: as each states them.
-/
namespace Go.Proofs.YtiblelgfkakmiaaGreatDoor.Vc
open Go.RowKit

end Go.Proofs.YtiblelgfkakmiaaGreatDoor.Vc
/-
  The walk of the law FnExactIsDesk: it returns true. Conditions: as it states them.
-/
namespace Go.Proofs.YtiblelgfkakmiaaGreatDoor.Vc
open Go.RowKit

end Go.Proofs.YtiblelgfkakmiaaGreatDoor.Vc
/-
  Plain mathematics of the list of maniplexes: forms put in ascending order one by one, and that there is one such order. Conditions: as each states them. No program in sight.
-/
namespace Go.Proofs.YtiblelgfkakmiaaGreatDoor.Vc

abbrev Mx := List (List Int)
/-- not behind -/
def leM (a b : Mx) : Prop := ¬ lexCC b a < 0
/-- how many at the front are less -/
def atM (x : Mx) : List Mx → Nat
  | [] => 0
  | y :: l => if lexCC y x < 0 then atM x l + 1 else 0
/-- x put behind these -/
def insM (x : Mx) (l : List Mx) : List Mx := l.take (atM x l) ++ x :: l.drop (atM x l)
def ordM (l : List Mx) : List Mx := l.foldl (fun o x => insM x o) []
/-! the list of a rank and a number of flags -/
def formsL (n F : Nat) : List Mx := forms n F (F * n + 1) 0 1 (blank n F)
def Own1 (N : Nat) (xss : Mx) : Prop := ∀ f, f < N → ¬ lexCC (formL N xss (f : Nat)) xss < 0
instance (N : Nat) (xss : Mx) : Decidable (Own1 N xss) := by unfold Own1; exact inferInstance
def ownL (n F : Nat) : List Mx := (formsL n F).filter fun L => decide (Own1 F L)
def listL (n F : Nat) : List Mx := ordM (ownL n F)
end Go.Proofs.YtiblelgfkakmiaaGreatDoor.Vc
/-
  The walks of the program's least form, and of the reference's numbers of orbits. Conditions: as each states them.
-/
namespace Go.Proofs.YtiblelgfkakmiaaGreatDoor.Vc
open Go.RowKit
section
variable {P : Program} {N : Nat} {ops : Array Oper} {K : Env → World → Prop} {rest : List Oper} {e : Env} {w : World} {d : Nat} {ty : TypeId} {pos : String} {af : Array Edge}
end

/-! the numbers of orbits -/
def fset (N : Nat) (xss : List (List Int)) : Nat → List (List (List Int))
  | 0 => []
  | k + 1 => if formL N xss k ∈ fset N xss k then fset N xss k else fset N xss k ++ [formL N xss k]
def orbN (N : Nat) (xss : List (List Int)) : Nat := if Own1 N xss then (fset N xss N).length else 0

end Go.Proofs.YtiblelgfkakmiaaGreatDoor.Vc
/-
  The library's IndexFunc and DeleteFunc over a row of structs of one slice, walked for any predicate; the rule of 'clear'. Conditions: the predicate's contract.
-/
namespace Go.Proofs.YtiblelgfkakmiaaGreatDoor.Vc
open Go.RowKit
section
variable {P : Program} {N : Nat} {ops : Array Oper} {K : Env → World → Prop} {rest : List Oper} {e : Env} {w0 w : World} {ks : List Ck} {d : Nat} {ty : TypeId} {pos : String} {af : Array Edge}
end

def keptI (pd : Nat → Bool) (j : Nat) : List Nat := (List.range j).filter fun x => !pd x
end Go.Proofs.YtiblelgfkakmiaaGreatDoor.Vc
/-
  The search for a Hamiltonian cycle, without a program: that of the reference and that of the program find the same, where there are more than two vertices. Conditions: as each states them.
-/
namespace Go.Proofs.YtiblelgfkakmiaaGreatDoor.Vc
open Go.RowKit
/-- the first of a row's elements, that is not in a list, from which a search finds something -/
def hamF (h : List Int → List Int) (list : List Int) : List Int → List Int
  | [] => []
  | v :: r => if v ∉ list ∧ h (list ++ [v]) ≠ [] then h (list ++ [v]) else hamF h list r
def lastI (l : List Int) : Int := gi l ((l.length : Int) - 1)
def ham (mn : Nat) (next : List (List Int)) : Nat → List Int → List Int
  | 0, _ => []
  | f + 1, l => if l.length = next.length then (if mn < l.length ∧ gi l 0 ∈ gl next (lastI l) then l else []) else hamF (ham mn next f) l (gl next (lastI l))
end Go.Proofs.YtiblelgfkakmiaaGreatDoor.Vc
/-
  The diameter of the graph on both sides, and the walk of the law FnExactGraphDiameter. Conditions: as each states them.
-/
namespace Go.Proofs.YtiblelgfkakmiaaGreatDoor.Vc
open Go.RowKit

def mx (a : Int) (l : List Int) : Int := l.foldl max a
/-- the greatest distance from the first vertices -/
def dmP (next : List (List Int)) : Nat → Int
  | 0 => 0
  | v + 1 => mx (dmP next v) (distP next (-1) v).1
def gdD (xss : List (List Int)) : Int := if Grph xss then dmP (nbL xss) (vertsN xss) else 0

end Go.Proofs.YtiblelgfkakmiaaGreatDoor.Vc
/-
  The walks of the search for a Hamiltonian cycle on both sides. Conditions: as each states them.
-/
namespace Go.Proofs.YtiblelgfkakmiaaGreatDoor.Vc
open Go.RowKit

/-- a list in memory of one's own, nil if it is empty -/
def HamO (w : World) (L : List Int) (v : Value) (w' : World) : Prop :=
  (v = .slice none 0 0 ∧ L = [] ∧ St w w' []) ∨ (∃ A c, v = .slice A L.length c ∧ L ≠ [] ∧ St w w' [CkI 2 A L.length c L])
/-- .. or the list that came -/
def HamR (w : World) (Al : Option Addr) (cl : Nat) (list L : List Int) (v : Value) (w' : World) : Prop :=
  HamO w L v w' ∨ (v = .slice Al list.length cl ∧ L = list ∧ list ≠ [] ∧ St w w' [])
/-- a path: its places lie among N -/
def PathI (N : Nat) (l : List Int) : Prop := 0 < l.length ∧ l.length ≤ N ∧ ∀ x ∈ l, 0 ≤ x ∧ x < (N : Int)
def hmC (xss : List (List Int)) : List Int := ham 2 (nbL xss) (vertsN xss) [0]
def hmK (xss : List (List Int)) : Int := if ¬ Grph xss then 1 else if 12 < vertsN xss then 3 else if hmC xss = [] then 4 else 0
def hmL (xss : List (List Int)) : List Int := if Grph xss ∧ ¬ 12 < vertsN xss then hmC xss else []
end Go.Proofs.YtiblelgfkakmiaaGreatDoor.Vc
/-
  The library's IndexFunc and DeleteFunc at int64, by any predicate with a contract; a list less another one. Conditions: as each states them.
-/
namespace Go.Proofs.YtiblelgfkakmiaaGreatDoor.Vc
open Go.RowKit

/-- a list less another one -/
def lessL (a b : List Int) : List Int := a.filter fun x => !decide (x ∈ b)
end Go.Proofs.YtiblelgfkakmiaaGreatDoor.Vc
/-
  The parts of the graph on both sides. Conditions: as each states them.
-/
namespace Go.Proofs.YtiblelgfkakmiaaGreatDoor.Vc
open Go.RowKit
section
variable {P : Program} {N : Nat} {ops : Array Oper} {K : Env → World → Prop} {rest : List Oper} {e : Env} {w : World} {d : Nat} {ty xt yt : TypeId} {pos : String} {af : Array Edge} {x y : Operand} {i j : Int}
end

def p2L (l : List Int) : List Int := l.map fun x => Int.tmod x 2
def mixP (l : List Int) (v : Nat) : List Int := p2L (l.take v) ++ l.drop v
def partsP (xss : List (List Int)) : List Int := p2L (distP (nbL xss) (-1) 0).1
def Bd (En : List (List Int)) (parts : List Int) (e : Nat) : Prop := (gl En (e : Int)).length = 1 ∨ gi parts (gi (gl En (e : Int)) 0) = gi parts (gi (gl En (e : Int)) 1)
instance (En : List (List Int)) (parts : List Int) (e : Nat) : Decidable (Bd En parts e) := by unfold Bd; exact inferInstance
def ptBad (xss : List (List Int)) : Prop := ∃ e, e < edgesN xss ∧ Bd (endsL xss) (partsP xss) e
instance (xss : List (List Int)) : Decidable (ptBad xss) := by unfold ptBad; exact inferInstance
def ptK (xss : List (List Int)) : Int := if ¬ Grph xss then 1 else if ptBad xss then 4 else 0
def ptL (xss : List (List Int)) : List Int := if Grph xss ∧ ¬ ptBad xss then partsP xss else []
end Go.Proofs.YtiblelgfkakmiaaGreatDoor.Vc
/-
  Plain mathematics of the girth: distances are the same both ways; the shortest ways round, by edges and by neighbours. Conditions: as each states them. No program in sight.
-/
namespace Go.Proofs.YtiblelgfkakmiaaGreatDoor.Vc

/-! a graph without an edge -/
def restL (next : List (List Int)) (u v : Int) : List (List Int) := (next.set u.toNat (lessL (gl next u) [v])).set v.toNat (lessL (gl next v) [u])
/-- the way round -/
def wayL (next : List (List Int)) (u v : Int) : Int := gi (distP (restL next u v) (-1) u).1 v
/-! the least -/
def gstep (g w : Int) : Int := if 0 < w ∧ (g = 0 ∨ w + 1 < g) then w + 1 else g
def mnG (l : List Int) : Int := l.foldl gstep 0
/-! both sides' ways -/
def implW (n : Nat) (next : List (List Int)) : List Int := (List.range n).flatMap fun v : Nat => (gl next (v : Int)).map (wayL next (v : Int))
def specW (En next : List (List Int)) : List Int := En.map fun l => wayL next (gi l 0) (gi l 1)
/-! the answer -/
def Loop1 (xss : List (List Int)) : Prop := ∃ e, e < edgesN xss ∧ (gl (endsL xss) (e : Int)).length = 1
open Classical in
noncomputable def girN (xss : List (List Int)) : Int := if Loop1 xss then 1 else if ¬ (endsL xss).Nodup then 2 else mnG (specW (endsL xss) (nbL xss))
open Classical in
noncomputable def girV (xss : List (List Int)) : Int := if Grph xss then girN xss else 0
open Classical in
noncomputable def girK (xss : List (List Int)) : Int := if ¬ Grph xss then 1 else if girN xss = 0 then 4 else 0
end Go.Proofs.YtiblelgfkakmiaaGreatDoor.Vc
/-
  Maps of one's own: made, looked up, written. Conditions: as each rule names them.
-/
namespace Go.Proofs.YtiblelgfkakmiaaGreatDoor.Vc
open Go.RowKit Go.MapKept

/-- a kind of keys -/
structure KeyT {κ : Type} (d : TypeDesc) (kv : κ → Value) : Prop where
  isKey : ∀ a, IsKey d (kv a)
  inj : ∀ a b, kv a = kv b → a = b
section
variable {κ ν : Type} [DecidableEq κ]
def getA : List (κ × ν) → κ → Option ν
  | [], _ => none
  | (y, v) :: r, x => if y = x then some v else getA r x
def putA : List (κ × ν) → κ → ν → List (κ × ν)
  | [], x, v => [(x, v)]
  | (y, u) :: r, x, v => if y = x then (x, v) :: r else (y, u) :: putA r x v
def fndA : List (κ × ν) → κ → Option (Nat × ν)
  | [], _ => none
  | (y, v) :: r, x => if y = x then some (0, v) else (fndA r x).map fun p => (p.1 + 1, p.2)
/-- the pairs as the map's entries -/
def prV (kv : κ → Value) (vv : ν → Value) (L : List (κ × ν)) : List (Value × Value) := L.map fun p => (kv p.1, vv p.2)
end

/-- a map of one's own, as a row -/
def CkM (t : TypeId) (g : Nat) (kvs : List (Value × Value)) : Ck := ⟨some ⟨g, 0, none⟩, 0, 0, t, .tuple #[] :: flatM kvs⟩
/-- a map that can be read -/
def RdM (w : World) (g : Nat) (kvs : List (Value × Value)) : Prop := ∃ es cl, w.heap[g]? = some (.map es cl) ∧ es.toList.map (fun e => (e.key, e.val)) = kvs
section
variable {w0 w w' : World} {ks : List Ck} {t : TypeId} {g : Nat} {kvs : List (Value × Value)}
end

section
variable {P : Program} {N : Nat} {ops : Array Oper} {K : Env → World → Prop} {rest : List Oper} {e : Env} {w0 w w' : World} {ks : List Ck} {d : Nat} {ty : TypeId} {pos : String} {af : Array Edge}
variable {κ ν : Type} [DecidableEq κ] {kd : TypeDesc} {kv : κ → Value} {vv : ν → Value}
def updOf : Op → Option (TypeId × Operand × Operand × Operand)
  | .mapUpdate t m k x => some (t, m, k, x)
  | .insert t m k x => some (t, m, k, x)
  | _ => none
end
end Go.Proofs.YtiblelgfkakmiaaGreatDoor.Vc
