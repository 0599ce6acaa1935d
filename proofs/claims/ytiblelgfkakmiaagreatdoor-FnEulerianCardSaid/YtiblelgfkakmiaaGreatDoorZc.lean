/-
  The texts Cyc, Srt, C1, C2, C3, C4, C5, D2, Co1, Co2, Co5, Co3, Co4, Co7, Co6, D1, C6, C7, Rpl, C8, D3, Co8 in one. Conditions: as each part states them.
-/
import Derived.Test.YtiblelgfkakmiaaGreatDoorZa
import Derived.Test.YtiblelgfkakmiaaGreatDoorLay
import Derived.Shelf.SortM.Plain
import Derived.Test.YtiblelgfkakmiaaGreatDoorInst
import Derived.Test.YtiblelgfkakmiaaGreatDoorZb
import Derived.Test.YtiblelgfkakmiaaGreatDoorLayb
import Derived.Shelf.SlicesE.Compact
import Derived.Shelf.SlicesE.Delete
/-
  The cycles of a list of numbers, by their least points, and lists in ascending order: a plain law, with no program in sight. Conditions: as each states them.
-/
namespace Go.Proofs.YtiblelgfkakmiaaGreatDoor.Vc
open Go.RowKit

/-- from x on, till a point comes that was seen -/
def goC (p : List Int) : Nat → Nat → List Bool → List Int × List Bool
  | 0, _, s => ([], s)
  | k + 1, x, s => if gb s (x : Int) = true then ([], s) else ((x : Int) :: (goC p k (gi p x).toNat (s.set x true)).1, (goC p k (gi p x).toNat (s.set x true)).2)

/-- all cycles from some points on -/
def cycs (p : List Int) : List Nat → List Bool → List (List Int)
  | [], _ => []
  | i :: is, s => (if (goC p (s.count false) i s).1 = [] then [] else [(goC p (s.count false) i s).1]) ++ cycs p is (goC p (s.count false) i s).2
/-- the cycles of n points -/
def cyAll (p : List Int) (n : Nat) : List (List Int) := cycs p (List.range n) (List.replicate n false)
def lenAll (p : List Int) (n : Nat) : List Int := (cyAll p n).map fun c => (c.length : Int)
/-! ascending lists -/
def Asc (l : List Int) : Prop := l.Pairwise (· ≤ ·)
def srt (l : List Int) : List Int := l.mergeSort fun x y => decide (x ≤ y)
end Go.Proofs.YtiblelgfkakmiaaGreatDoor.Vc
/-
  The library's sort of a list of one's own. Conditions: the list has an element.
-/
namespace Go.Proofs.YtiblelgfkakmiaaGreatDoor.Vc
open Go.RowKit Go.Sort

end Go.Proofs.YtiblelgfkakmiaaGreatDoor.Vc
/-
  The walks of the reference's runs of a word over flags, and of the lengths of a word. Conditions: as each states them.
-/
namespace Go.Proofs.YtiblelgfkakmiaaGreatDoor.Vc
open Go.RowKit

/-- where a word leads from x -/
def runW (xss : List (List Int)) (x : Int) (ws : List Int) : Int := ws.foldl (fun x i => gi (gl xss i) x) x
/-- what a word does -/
def doesL (xss : List (List Int)) (F : Nat) (ws : List Int) : List Int := (List.range F).map fun x : Nat => runW xss (x : Int) ws
/-- a maniplex with edges -/
def Grph (xss : List (List Int)) : Prop := Mani xss ∧ 2 ≤ xss.length
instance (xss : List (List Int)) : Decidable (Grph xss) := by unfold Grph; exact inferInstance

end Go.Proofs.YtiblelgfkakmiaaGreatDoor.Vc
/-
  The walk of the reference's lengths of a word. Conditions: as it states them.
-/
namespace Go.Proofs.YtiblelgfkakmiaaGreatDoor.Vc
open Go.RowKit

end Go.Proofs.YtiblelgfkakmiaaGreatDoor.Vc
/-
  The walks of the program's permutations that words do, and of their cycles. Conditions: as each states them.
-/
namespace Go.Proofs.YtiblelgfkakmiaaGreatDoor.Vc
open Go.RowKit

def idL (n : Nat) : List Int := (List.range n).map fun x : Nat => (x : Int)
def thenL (p q : List Int) : List Int := p.map fun x => gi q x
end Go.Proofs.YtiblelgfkakmiaaGreatDoor.Vc
/-
  The walks of the program's lengths of a word. Conditions: as each states them.
-/
namespace Go.Proofs.YtiblelgfkakmiaaGreatDoor.Vc
open Go.RowKit

end Go.Proofs.YtiblelgfkakmiaaGreatDoor.Vc
/-
  The walks of the lengths of cycles, and of the Petrie word's lengths on both sides. Conditions: as each states them.
-/
namespace Go.Proofs.YtiblelgfkakmiaaGreatDoor.Vc
open Go.RowKit

/-- the lengths of a word of a maniplex -/
def wordL (xss : List (List Int)) (ws : List Int) : List Int := srt (lenAll (doesL xss (gl xss 0).length ws) (gl xss 0).length)
/-- the answer: a list of numbers in memory of its own, and a code -/
def AnsR (L : List Int) (K : Int) (w : World) (v : Value) (w' : World) : Prop := ∃ A' c', v = .tuple #[.slice A' L.length c', .int .i64 K] ∧ St w w' [CkI 2 A' L.length c' L]
def petrieL (xss : List (List Int)) : List Int := if Grph xss then wordL xss (idL xss.length) else []
def petrieK (xss : List (List Int)) : Int := if Grph xss then 0 else 1

end Go.Proofs.YtiblelgfkakmiaaGreatDoor.Vc
/-
  The library's Compact of an ascending list of one's own, and its Delete in a list of lists of one's own; sets as ascending lists. Conditions: as each states them.
-/
namespace Go.Proofs.YtiblelgfkakmiaaGreatDoor.Vc
open Go.RowKit Go.Sort

/-! what the library leaves in a row of one's own -/
/-! ascending lists without twins -/
def SA (l : List Int) : Prop := l.Pairwise (· < ·)
def cmpL (xs : List Int) : List Int := Lib.compactUpTo xs.toArray xs.toArray.size
/-- the elements of a list as an ascending list without twins -/
def cs (l : List Int) : List Int := cmpL (srt l)
instance : Inhabited SlV := ⟨slNil⟩
end Go.Proofs.YtiblelgfkakmiaaGreatDoor.Vc
/-
  Plain mathematics of complexes: parts of lists, greatest lists, and that there is one order of them. Conditions: as each states them. No program in sight.
-/
namespace Go.Proofs.YtiblelgfkakmiaaGreatDoor.Vc

/-! the order of lists -/
def LT (a b : List Int) : Prop := lexC a b < 0
instance (a b : List Int) : Decidable (LT a b) := by unfold LT; infer_instance
/-- ascending lists of lists -/
def SL (l : List (List Int)) : Prop := l.Pairwise LT
/-! parts -/
def Ins (a b : List Int) : Prop := ∀ x ∈ a, x ∈ b
instance (a b : List Int) : Decidable (Ins a b) := by unfold Ins; infer_instance
/-- all parts with so many elements -/
def ptsP : List Int → Nat → List (List Int)
  | _, 0 => [[]]
  | [], _ + 1 => []
  | x :: r, k + 1 => (ptsP r k).map (x :: ·) ++ ptsP r (k + 1)
/-- all parts -/
def allP (z : List Int) : List (List Int) := (List.range (z.length + 1)).flatMap (ptsP z)
/-! greatest lists -/
/-- a list that is no part of another one -/
def MaxIn (ls : List (List Int)) (x : List Int) : Prop := x ∈ ls ∧ x ≠ [] ∧ ∀ y ∈ ls, Ins x y → y = x
instance (ls : List (List Int)) (x : List Int) : Decidable (MaxIn ls x) := by unfold MaxIn; infer_instance
/-- these are the greatest lists, in order -/
def FacOf (ls F : List (List Int)) : Prop := SL F ∧ ∀ x, x ∈ F ↔ MaxIn ls x
/-- the search for the greatest ones, among lists of which no one is longer than one before -/
def grtS (out : List (List Int)) (l : List Int) : List (List Int) := if l = [] ∨ l ∈ out.flatMap allP then out else out ++ [l]
def grtP (ls : List (List Int)) : List (List Int) := ls.foldl grtS []
structure GrtI (ls out : List (List Int)) : Prop where
  mem : ∀ z ∈ out, z ∈ ls ∧ z ≠ []
  all : ∀ l ∈ ls, l ≠ [] → ∃ z ∈ out, Ins l z
  anti : out.Pairwise fun a b => ¬ Ins b a
/-! one more list in order -/
def atL (x : List Int) : List (List Int) → Nat
  | [] => 0
  | y :: l => if LT y x then atL x l + 1 else 0
def putL (l : List (List Int)) (x : List Int) : List (List Int) := if x ∈ l then l else l.take (atL x l) ++ x :: l.drop (atL x l)
def putS (ls : List (List Int)) : List (List Int) := (ls.filter fun l => decide (l ≠ [])).foldl putL []
/-- the greatest lists in order -/
def facP (ls : List (List Int)) : List (List Int) := (putS ls).filter fun x => decide (∀ y ∈ putS ls, Ins x y → y = x)
/-! numbers anew -/
def Mono (f : Int → Int) (s : List Int) : Prop := ∀ x ∈ s, ∀ y ∈ s, x < y → f x < f y
end Go.Proofs.YtiblelgfkakmiaaGreatDoor.Vc
/-
  Plain mathematics of complexes: the complex of some lists, told in one way; and what a complex is. Conditions: as each states them. No program in sight.
-/
namespace Go.Proofs.YtiblelgfkakmiaaGreatDoor.Vc

/-- the place of a number -/
def ix (s : List Int) (x : Int) : Int := (s.idxOf x : Nat)
/-- the vertices of some lists -/
def cvP (ss : List (List Int)) : List Int := cs ss.flatten
def cxF (ss : List (List Int)) : List (List Int) := (facP ss).map (List.map (ix (cvP ss)))
def CxBad (ss : List (List Int)) : Prop := (∃ l ∈ ss, 6 < l.length) ∨ 60 < (cvP ss).length ∨ 400 < (facP ss).length
instance (ss : List (List Int)) : Decidable (CxBad ss) := by unfold CxBad; infer_instance
/-- the complex of some ascending lists -/
def cxV (ss : List (List Int)) : Int := if CxBad ss then 0 else ((cvP ss).length : Nat)
def cxL (ss : List (List Int)) : List (List Int) := if CxBad ss then [] else cxF ss
def cxK (ss : List (List Int)) : Int := if CxBad ss then 3 else 0
/-! what a complex is -/
structure Cplx (V : Int) (F : List (List Int)) : Prop where
  v : 0 ≤ V ∧ V ≤ 60
  f : F.length ≤ 400
  row : ∀ l ∈ F, (1 ≤ l.length ∧ l.length ≤ 6) ∧ SA l ∧ ∀ x ∈ l, 0 ≤ x ∧ x < V
  ord : SL F
  all : ∀ x : Int, 0 ≤ x → x < V → ∃ l ∈ F, x ∈ l
  top : ∀ l ∈ F, ∀ m ∈ F, Ins l m → m = l
end Go.Proofs.YtiblelgfkakmiaaGreatDoor.Vc
/-
  Plain mathematics of complexes: the complex of some lists is one, and a complex is that of its facets. Conditions: as each states them. No program in sight.
-/
namespace Go.Proofs.YtiblelgfkakmiaaGreatDoor.Vc

def rngI (n : Nat) : List Int := (List.range n).map fun k : Nat => (k : Int)
end Go.Proofs.YtiblelgfkakmiaaGreatDoor.Vc
/-
  Plain mathematics of a stable sort: exchanges, blocks turned round, sorted blocks joined. Conditions: as each states them. No program in sight.
-/
namespace Go.Proofs.YtiblelgfkakmiaaGreatDoor.Vc
open Go.RowKit

def gs (l : List SlV) (i : Nat) : SlV := l.getD i slNil
/-- a range in order -/
def SR (κ : SlV → Int) (l : List SlV) (a b : Nat) : Prop := ∀ i j, a ≤ i → i < j → j < b → κ (gs l i) ≤ κ (gs l j)
/-- turned about within a range -/
structure RP (l l' : List SlV) (a b : Nat) : Prop where
  perm : l'.Perm l
  out : ∀ i, i < a ∨ b ≤ i → gs l' i = gs l i
/-- two that are exchanged -/
def swp (l : List SlV) (i j : Nat) : List SlV := (l.set i (gs l j)).set j (gs l i)
/-! one put among others in order, by exchanges -/
structure InsI (κ : SlV → Int) (l : List SlV) (a i j : Nat) : Prop where
  low : a ≤ j
  high : j ≤ i
  rest : ∀ x y, a ≤ x → x < y → y ≤ i → x ≠ j → y ≠ j → κ (gs l x) ≤ κ (gs l y)
  own : ∀ y, j < y → y ≤ i → κ (gs l j) ≤ κ (gs l y)
/-! ranges exchanged -/
/-! two sorted ranges joined -/
/-- a block turned round: these come first -/
structure RotI (l l1 : List SlV) (s m e : Nat) : Prop where
  out : ∀ i, i < s ∨ e ≤ i → gs l1 i = gs l i
  left : ∀ i, s ≤ i → i < s + (e - m) → gs l1 i = gs l (i + (m - s))
  right : ∀ i, s + (e - m) ≤ i → i < e → gs l1 i = gs l (i - (e - m))
def lo0 (a m b : Nat) : Nat := if (a + b) / 2 < m then (a + b) / 2 + m - b else a
def hi0 (a m b : Nat) : Nat := if (a + b) / 2 < m then (a + b) / 2 else m
/-- the place at which the ranges are cut -/
structure CutI (κ : SlV → Int) (l : List SlV) (a m b s : Nat) : Prop where
  lo : lo0 a m b ≤ s
  hi : s ≤ hi0 a m b
  left : ∀ c, lo0 a m b ≤ c → c < s → κ (gs l c) ≤ κ (gs l ((a + b) / 2 + m - 1 - c))
  right : ∀ c, s ≤ c → c < hi0 a m b → κ (gs l ((a + b) / 2 + m - 1 - c)) < κ (gs l c)
/-! one moved along -/
structure MovU (l c : List SlV) (a k : Nat) : Prop where
  len : c.length = l.length
  out : ∀ x, x < a ∨ k < x → gs c x = gs l x
  mov : ∀ x, a ≤ x → x < k → gs c x = gs l (x + 1)
  own : gs c k = gs l a
structure MovD (l c : List SlV) (m k : Nat) : Prop where
  len : c.length = l.length
  out : ∀ x, x < k ∨ m < x → gs c x = gs l x
  mov : ∀ x, k < x → x ≤ m → gs c x = gs l (x - 1)
  own : gs c k = gs l m
/-! blocks -/
/-- the blocks of a size from a place on, to the end -/
def Blks (κ : SlV → Int) (l : List SlV) (n s lo hi : Nat) : Prop := ∀ k, lo ≤ k * s → k * s < hi → SR κ l (k * s) (min (k * s + s) n)
end Go.Proofs.YtiblelgfkakmiaaGreatDoor.Vc
/-
  The library's stable sort of rows by their lengths, walked: insertion, exchange of ranges, rotation. Conditions: as each states them.
-/
namespace Go.Proofs.YtiblelgfkakmiaaGreatDoor.Vc
open Go.RowKit

/-- the greater length first -/
def knS (s : SlV) : Int := -(s.n : Int)
end Go.Proofs.YtiblelgfkakmiaaGreatDoor.Vc
/-
  The library's stable sort of rows by their lengths, walked: two sorted ranges joined. Conditions: as each states them.
-/
namespace Go.Proofs.YtiblelgfkakmiaaGreatDoor.Vc
open Go.RowKit
section
variable {P : Program} {N : Nat} {ops : Array Oper} {K : Env → World → Prop} {rest : List Oper} {e : Env} {w : World} {d : Nat} {ty : TypeId} {pos : String} {af : Array Edge} {x y : Operand} {xt yt : TypeId} {i : Int}
end
end Go.Proofs.YtiblelgfkakmiaaGreatDoor.Vc
/-
  Plain mathematics: turnings told by numbers, and some rows of one's own taken out. Conditions: as each states them. No program in sight.
-/
namespace Go.Proofs.YtiblelgfkakmiaaGreatDoor.Vc
open Go.RowKit

def parA (z : List Int) (k : Nat) : List (List Int) := (List.range k).flatMap (ptsP z)
end Go.Proofs.YtiblelgfkakmiaaGreatDoor.Vc
/-
  Faces: their numbers and lists, and the reference's walks of them. Conditions: as each states them.
-/
namespace Go.Proofs.YtiblelgfkakmiaaGreatDoor.Vc
open Go.RowKit

/-! labels: each lies below the count, and each below the count occurs -/
/-- one more than the greatest -/
def grt (xs : List Int) : Int := xs.foldl (fun o x => if o ≤ x then x + 1 else o) 0
/-! faces -/
def facesL (xss : List (List Int)) (i : Nat) : List Int := (lab (gl xss 0).length (xss.eraseIdx i) (gl xss 0).length).1
def facesN (xss : List (List Int)) (i : Nat) : Int := (lab (gl xss 0).length (xss.eraseIdx i) (gl xss 0).length).2
end Go.Proofs.YtiblelgfkakmiaaGreatDoor.Vc
/-
  The walks of the laws' marks, which tell memory apart. Conditions: as each states them.
-/
namespace Go.Proofs.YtiblelgfkakmiaaGreatDoor.Vc
open Go.RowKit

/-- the marks from k on -/
def marks (k : Int) (n : Nat) : List Int := (List.range n).map fun j : Nat => k + (j : Int)
end Go.Proofs.YtiblelgfkakmiaaGreatDoor.Vc
/-
  The walk of the law FnExactPetrieCycles: it returns true. Conditions: as it states them.
-/
namespace Go.Proofs.YtiblelgfkakmiaaGreatDoor.Vc
open Go.RowKit

end Go.Proofs.YtiblelgfkakmiaaGreatDoor.Vc
/-
  The walk of slices.Repeat at a list of some numbers. Conditions: as it states them.
-/
namespace Go.Proofs.YtiblelgfkakmiaaGreatDoor.Vc
open Go.RowKit

/-- n copies of a list, one behind the other -/
def pow (xs : List Int) (n : Nat) : List Int := (List.replicate n xs).flatten
/-- what a part of the copies looks like -/
def part (T : List Int) (m : Nat) : List Int := T.take m ++ List.replicate (T.length - m) 0
end Go.Proofs.YtiblelgfkakmiaaGreatDoor.Vc
/-
  The walks of holes and zigzags on both sides. Conditions: as each states them.
-/
namespace Go.Proofs.YtiblelgfkakmiaaGreatDoor.Vc
open Go.RowKit

/-- the code of holes and zigzags -/
def holeK (xss : List (List Int)) (j : Int) : Int := if ¬ Grph xss then 1 else if ¬ (1 ≤ j ∧ j ≤ 16) then 2 else if ¬ xss.length = 3 then 5 else 0
def zigW (n : Nat) : List Int := [0] ++ pow [1, 2] n
def holeW (n : Nat) : List Int := zigW n ++ [1]
end Go.Proofs.YtiblelgfkakmiaaGreatDoor.Vc
/-
  Faces on the program's side; the ends of edges on the reference's. Conditions: as each states them.
-/
namespace Go.Proofs.YtiblelgfkakmiaaGreatDoor.Vc
open Go.RowKit

/-! rows put anew -/
end Go.Proofs.YtiblelgfkakmiaaGreatDoor.Vc
/-
  Parts of a list, walked; a row of rows copied. Conditions: as each states them.
-/
namespace Go.Proofs.YtiblelgfkakmiaaGreatDoor.Vc
open Go.RowKit

end Go.Proofs.YtiblelgfkakmiaaGreatDoor.Vc
