/-
  The texts B1, Law, B2, Orb, B3, Rep, Lab, B4, B5, B6, B7, Drn, Agg, Rc2, Src, Drp, Sr2, Sr3, Sr4, Two, Grw, Grv, Frm in one. Conditions: as each part states them.
-/
import Derived.Test.YtiblelgfkakmiaaGreatDoorZa
import Derived.Test.YtiblelgfkakmiaaGreatDoorInst
/-
  The walks of the smallest functions. Conditions: as each states them.
-/
namespace Go.Proofs.YtiblelgfkakmiaaGreatDoor.Vc
open Go.RowKit

def IsPerm (p : List Int) : Prop := p.length ≤ 400 ∧ (∀ x ∈ p, 0 ≤ x ∧ x < p.length) ∧ p.Nodup
instance (p : List Int) : Decidable (IsPerm p) := by unfold IsPerm; exact inferInstance

/-- the places that k elements have marked -/
def Seen (p : List Int) (k : Nat) (S : List Bool) : Prop :=
  S.length = p.length ∧ (∀ x ∈ p.take k, 0 ≤ x ∧ x < p.length) ∧ (p.take k).Nodup ∧ ∀ x : Int, 0 ≤ x → x < p.length → (gb S x = true ↔ x ∈ p.take k)

end Go.Proofs.YtiblelgfkakmiaaGreatDoor.Vc
/-
  The walks of the helpers of the laws: sizes, copies, comparisons. Conditions: as each states them.
-/
namespace Go.Proofs.YtiblelgfkakmiaaGreatDoor.Vc
open Go.RowKit

def szI (n : Nat) (left : Int) : Int := if left - n < 0 then -1 else left - n
def szGo : List Nat → Int → Int
  | [], l => l
  | n :: r, l => if szI n l < 0 then -1 else szGo r (szI n l)
def szSS (ns : List Nat) (left : Int) : Int := if left - ns.length < 0 then -1 else szGo ns (left - ns.length)
def lens (rs : List SlV) : List Nat := rs.map (·.n)
def fill {α : Type} (k : Nat) (xs : List α) (d : α) : List α := xs.take k ++ List.replicate (xs.length - k) d
/-- sizes that copies bear -/
def Fits (n : Nat) (rs : List SlV) : Prop := 24 * n ≤ 281474976710656 ∧ ∀ i, i < n → 8 * (rs.getD i slNil).n ≤ 281474976710656

end Go.Proofs.YtiblelgfkakmiaaGreatDoor.Vc
/-
  The walks of the small functions of the first two layers. Conditions: as each states them.
-/
namespace Go.Proofs.YtiblelgfkakmiaaGreatDoor.Vc
open Go.RowKit

def IsFree (p : List Int) : Prop := ∀ i : Nat, i < p.length → gi p i ≠ i ∧ gi p (gi p i) = i
instance (p : List Int) : Decidable (IsFree p) := by unfold IsFree; exact inferInstance
end Go.Proofs.YtiblelgfkakmiaaGreatDoor.Vc
/-
  Plain mathematics of orbits: what a search through moves finds, and in which order. Conditions: as each states them. No program in sight.
-/
namespace Go.Proofs.YtiblelgfkakmiaaGreatDoor.Vc

/-- rows of N places that lead to places -/
def Sys (N : Nat) (xss : List (List Int)) : Prop := ∀ p ∈ xss, p.length = N ∧ ∀ x : Int, 0 ≤ x → x < N → 0 ≤ gi p x ∧ gi p x < N

inductive Reach (xss : List (List Int)) (x : Int) : Int → Prop where
  | refl : Reach xss x x
  | step {y : Int} {p : List Int} : Reach xss x y → p ∈ xss → Reach xss x (gi p y)

def push1 (out : List Int) (y : Int) : List Int := if y ∈ out then out else out ++ [y]
def expand (xss : List (List Int)) (x : Int) (out : List Int) : List Int := xss.foldl (fun o p => push1 o (gi p x)) out
def bfs (xss : List (List Int)) : Nat → Nat → List Int → List Int
  | 0, _, out => out
  | f + 1, i, out => if i < out.length then bfs xss f (i + 1) (expand xss (gi out i) out) else out
def orbit (N : Nat) (xss : List (List Int)) (pt : Int) : List Int := bfs xss (N + 1) 0 [pt]

/-- what a search holds: what is found is found once, is reached, and lies in range -/
structure Good (N : Nat) (xss : List (List Int)) (pt : Int) (out : List Int) : Prop where
  nodup : out.Nodup
  range : ∀ x ∈ out, 0 ≤ x ∧ x < (N : Int)
  reach : ∀ x ∈ out, Reach xss pt x
end Go.Proofs.YtiblelgfkakmiaaGreatDoor.Vc
/-
  The walk of the search for an orbit. Conditions: as each states them.
-/
namespace Go.Proofs.YtiblelgfkakmiaaGreatDoor.Vc
open Go.RowKit

/-- what is marked is what is found -/
def Marked (M : Nat) (S : List Bool) (out : List Int) : Prop := S.length = M ∧ ∀ x : Int, 0 ≤ x → x < M → (gb S x = true ↔ x ∈ out)
end Go.Proofs.YtiblelgfkakmiaaGreatDoor.Vc
/-
  The walk of slices.Repeat, of small products. Conditions: as each states them.
-/
namespace Go.Proofs.YtiblelgfkakmiaaGreatDoor.Vc
open Go.RowKit

/-- n elements made of copies of one -/
def rep (a n : Nat) (x v : Int) : List Int := List.replicate a x ++ List.replicate (n - a) v
end Go.Proofs.YtiblelgfkakmiaaGreatDoor.Vc
/-
  Plain mathematics of orbits' labels: a scan that paints one orbit after another, and a search by a stack that paints the same. Conditions: as each states them. No program in sight.
-/
namespace Go.Proofs.YtiblelgfkakmiaaGreatDoor.Vc

def Inj (N : Nat) (xss : List (List Int)) : Prop := ∀ p ∈ xss, ∀ x y : Int, 0 ≤ x → x < N → 0 ≤ y → y < N → gi p x = gi p y → x = y

def paint (L : List Int) (c : Int) : List Int → List Int
  | [] => L
  | x :: xs => paint (L.set x.toNat c) c xs
/-- the scan -/
def lab (N : Nat) (xss : List (List Int)) : Nat → List Int × Int
  | 0 => (List.replicate N (-1), 0)
  | i + 1 => if 0 ≤ gi (lab N xss i).1 i then lab N xss i else (paint (lab N xss i).1 (lab N xss i).2 (orbit N xss i), (lab N xss i).2 + 1)
/-- a search by a stack, from an unpainted point -/
structure Dfs (N : Nat) (xss : List (List Int)) (i c : Int) (L0 L op : List Int) (bx : Int) (k : Nat) : Prop where
  len : L.length = N
  old : ∀ x : Int, 0 ≤ x → x < N → 0 ≤ gi L0 x → gi L x = gi L0 x
  new : ∀ x : Int, 0 ≤ x → x < N → gi L0 x < 0 → gi L x = gi L0 x ∨ (gi L x = c ∧ Reach xss i x)
  start : gi L i = c
  opn : ∀ x ∈ op, 0 ≤ x ∧ x < N ∧ gi L0 x < 0 ∧ gi L x = c
  clo : ∀ x : Int, 0 ≤ x → x < N → gi L0 x < 0 → gi L x = c → x ∉ op → ∀ p ∈ (if x = bx then xss.take k else xss), 0 ≤ gi L (gi p x)

section
variable {N : Nat} {xss : List (List Int)} {i c : Int} {L0 L op : List Int} {bx : Int} {k : Nat}
end

/-- how many are unpainted -/
def unl (L : List Int) : Nat := L.countP (fun x => decide (x < 0))
end Go.Proofs.YtiblelgfkakmiaaGreatDoor.Vc
/-
  The walk of the labels of orbits. Conditions: as each states them.
-/
namespace Go.Proofs.YtiblelgfkakmiaaGreatDoor.Vc
open Go.RowKit

end Go.Proofs.YtiblelgfkakmiaaGreatDoor.Vc
/-
  The walks that tell whether moves are a maniplex. Conditions: as each states them.
-/
namespace Go.Proofs.YtiblelgfkakmiaaGreatDoor.Vc
open Go.RowKit

def Comm (xss : List (List Int)) (i k f : Nat) : Prop := gi (gl xss k) (gi (gl xss i) f) = gi (gl xss i) (gi (gl xss k) f) ∧ gi (gl xss i) f ≠ gi (gl xss k) f
instance (xss : List (List Int)) (i k f : Nat) : Decidable (Comm xss i k f) := by unfold Comm; exact inferInstance
def Rows1 (xss : List (List Int)) : Prop := ∀ p ∈ xss, p.length = (gl xss 0).length ∧ IsPerm p ∧ IsFree p
instance (xss : List (List Int)) : Decidable (Rows1 xss) := by unfold Rows1; exact inferInstance
def Mani (xss : List (List Int)) : Prop :=
  (1 ≤ xss.length ∧ xss.length ≤ 5) ∧ (2 ≤ (gl xss 0).length ∧ (gl xss 0).length ≤ 400) ∧ Rows1 xss ∧ (∀ i, i < xss.length → ∀ k, k < xss.length → i + 2 ≤ k → ∀ f, f < (gl xss 0).length → Comm xss i k f) ∧ (orbit (gl xss 0).length xss 0).length = (gl xss 0).length
instance (xss : List (List Int)) : Decidable (Mani xss) := by unfold Mani; exact inferInstance

/-- rows told one after another -/
def Part (xss : List (List Int)) (k : Nat) : Prop := ∀ p ∈ xss.take k, p.length = (gl xss 0).length ∧ IsPerm p ∧ IsFree p
end Go.Proofs.YtiblelgfkakmiaaGreatDoor.Vc
/-
  The walk of isManiplex. Conditions: as each states them.
-/
namespace Go.Proofs.YtiblelgfkakmiaaGreatDoor.Vc
open Go.RowKit

end Go.Proofs.YtiblelgfkakmiaaGreatDoor.Vc
/-
  The walks of the desk's small functions. Conditions: as each states them.
-/
namespace Go.Proofs.YtiblelgfkakmiaaGreatDoor.Vc
open Go.RowKit
section
variable {P : Program} {N : Nat} {ops : Array Oper} {K : Env → World → Prop} {rest : List Oper} {e : Env} {w : World} {d : Nat} {ty : TypeId} {pos : String} {af : Array Edge} {x y : Operand} {xt yt : TypeId}
end

end Go.Proofs.YtiblelgfkakmiaaGreatDoor.Vc
/-
  A statement whose order Go leaves open, with any operations that turn memory: each world's property holds till the next of them. Conditions: as each rule names them.
-/
namespace Go.Proofs.YtiblelgfkakmiaaGreatDoor.Vc
open Go.RowKit

def dsl (l : List Oper) : List Nat := l.filterMap (·.dst)
def valOf (o : Oper) (e : Env) : Value := match o.dst with
  | some d => e d
  | none => undef
def isEx : Yd → Bool
  | .ex _ => true
  | .pr _ => false
def drawOkN (N : Nat) (l : List Oper) (ys : List Yd) (ms : List Nat) : Bool :=
  l.all (fun o => match o.dst with | some d => Nat.blt d N | none => true) && decide ((dsl l).Nodup) && (l.zipIdx.all fun p => (aft p.1).all fun ed => Nat.blt ed.on p.2) && Nat.beq l.length ys.length && (l.zip ys).all (fun p => p.1.dst.isSome || !isEx p.2) && decide ms.Nodup && ms.all (fun m => Nat.blt m l.length) && (ys.zipIdx.all fun p => !(isEx p.1) || !(ms.contains p.2))
def loOf (l : List Oper) (ms : List Nat) (k : Nat) : Nat := ms.countP fun m => ancOf l l.length k m
def hiOf (l : List Oper) (ms : List Nat) (k : Nat) : Nat := ms.countP fun m => !(ancOf l l.length m k) && !(Nat.beq m k)
def phOf (l : List Oper) (ms : List Nat) (k : Nat) : Nat := ms.countP fun m => Nat.beq m k || ancOf l l.length k m
/-- one that turns, in order with all that turn -/
def chainAt (l : List Oper) (ms : List Nat) (m : Nat) : Bool := ms.all fun m' => Nat.beq m' m || ancOf l l.length m m' || ancOf l l.length m' m
def Yd.at_ (c ph : Nat) : Yd → Value → World → Prop
  | .ex v, u, _ => u = v
  | .pr p, u, w => c = ph → p u w
def endFrN : List Oper → List Yd → (Nat → Value) → Nat → List (Nat × Value)
  | o :: l, y :: ys, u, i => match o.dst, y with
    | some d, .ex v => (d, v) :: endFrN l ys u (i + 1)
    | some d, .pr _ => (d, u i) :: endFrN l ys u (i + 1)
    | none, _ => endFrN l ys u (i + 1)
  | _, _, _, _ => []
def depFrN (l : List Oper) (ys : List Yd) : List Edge → List (Nat × Value)
  | [] => []
  | ed :: r => match ys[ed.on]?, (l[ed.on]?).bind (·.dst) with
    | some (.ex v), some d => (d, v) :: depFrN l ys r
    | _, _ => depFrN l ys r

section
variable {P : Program} {N : Nat} {e : Env} {w : World}
def AfterN (o : Oper) (y : Yd) (e1 : Env) (w1 : World) : Env → World → Prop := fun e2 w2 => Below w1.heap.size w1 w2 ∧ y.holds (valOf o e2) w2 ∧ ∀ j, o.dst ≠ some j → e2 j = e1 j
def AfterT (o : Oper) (y : Yd) (e1 : Env) : Env → World → Prop := fun e2 w2 => y.holds (valOf o e2) w2 ∧ ∀ j, o.dst ≠ some j → e2 j = e1 j
def StepN (P : Program) (N : Nat) (l : List Oper) (ys : List Yd) (ms : List Nat) (e : Env) (w : World) (i : Nat) (o : Oper) : Prop :=
  ∀ (e1 : Env) (w1 : World) (c : Nat), loOf l ms i ≤ c → c ≤ hiOf l ms i → (c = 0 → Below w.heap.size w w1) →
    (∀ (j : Nat) (y : Yd) (o' : Oper), ancOf l l.length i j = true → ys[j]? = some y → l[j]? = some o' → y.at_ c (phOf l ms j) (valOf o' e1) w1) →
    (∀ (j : Nat) (o' : Oper), l[j]? = some o' → ancOf l l.length j i = true → valOf o' e1 = valOf o' e) →
    (∀ (m : Nat) (y : Yd) (o' : Oper), memb ms m = true → chainAt l ms m = true → phOf l ms m = c → ys[m]? = some y → l[m]? = some o' → y.at_ c (phOf l ms m) (valOf o' e1) w1) →
    bif memb ms i then Ops P N l.toArray (AfterT o (ys.getD i (.pr fun _ _ => True)) (ext (mix e1 e (dsl l)) (depFrN l ys (aft o)))) [o] (ext (mix e1 e (dsl l)) (depFrN l ys (aft o))) w1
    else Ops P N l.toArray (AfterN o (ys.getD i (.pr fun _ _ => True)) (ext (mix e1 e (dsl l)) (depFrN l ys (aft o))) w1) [o] (ext (mix e1 e (dsl l)) (depFrN l ys (aft o))) w1
def StepsN (P : Program) (N : Nat) (l : List Oper) (ys : List Yd) (ms : List Nat) (e : Env) (w : World) : Nat → List Oper → Prop
  | _, [] => True
  | i, o :: r => StepN P N l ys ms e w i o ∧ StepsN P N l ys ms e w (i + 1) r
end
end Go.Proofs.YtiblelgfkakmiaaGreatDoor.Vc
/-
  Structs built, slices of structs, comparisons with nil, rows of a matrix turned. Conditions: as each rule names them.
-/
namespace Go.Proofs.YtiblelgfkakmiaaGreatDoor.Vc
open Go.RowKit
section
variable {P : Program} {N : Nat} {ops : Array Oper} {K : Env → World → Prop} {rest : List Oper} {e : Env} {w0 w w' : World} {ks : List Ck} {d : Nat} {ty : TypeId} {pos : String} {af : Array Edge}

end

/-! a row of a matrix of one's own -/
section
variable {P : Program} {N : Nat} {ops : Array Oper} {K : Env → World → Prop} {rest : List Oper} {e : Env} {w0 w w' : World} {ks pre : List Ck} {ty : TypeId} {pos : String} {af : Array Edge}
end

/-- whole matrices, each told by its slice, its rows' slices, and its numbers -/
structure MatV where
  top : SlV
  rs : List SlV
  xss : List (List Int)
def MatV.ok (m : MatV) : Prop := m.xss.length = m.top.n
def MatV.cks (t1 t2 : TypeId) (m : MatV) : List Ck := mat t1 t2 m.top.a m.top.n m.top.c m.rs m.xss
def matsCk (t1 t2 : TypeId) (ms : List MatV) : List Ck := ms.flatMap (MatV.cks t1 t2)
end Go.Proofs.YtiblelgfkakmiaaGreatDoor.Vc
/-
  A call with two results of which the first lies in memory; a struct of one slice built of nothing. Conditions: as each rule names them.
-/
namespace Go.Proofs.YtiblelgfkakmiaaGreatDoor.Vc
open Go.RowKit
section
variable {P : Program} {N : Nat} {ops : Array Oper} {K : Env → World → Prop} {rest : List Oper} {e : Env} {w0 w w' : World} {ks : List Ck} {d : Nat} {ty : TypeId} {pos : String} {af : Array Edge}
def retc2 (a n u : Nat) (R : Value → World → Prop) : Post
  | .normal, e, w => ∃ A f, e a = .pointer A ∧ Rd w A n f ∧ R (.tuple #[.agg ((List.range n).map f).toArray, e u]) w
  | .ret, e, w => ∃ A f, e a = .pointer A ∧ Rd w A n f ∧ R (.tuple #[.agg ((List.range n).map f).toArray, e u]) w
  | _, _, _ => False
end
end Go.Proofs.YtiblelgfkakmiaaGreatDoor.Vc
/-
  What the draws rest on: slices of bytes, numbers that wrap, a source of numbers. Conditions: as each states them.
-/
namespace Go.Proofs.YtiblelgfkakmiaaGreatDoor.Vc
open Go.RowKit

section
variable {P : Program} {N : Nat} {ops : Array Oper} {K : Env → World → Prop} {rest : List Oper} {e : Env} {w0 w w' : World} {ks : List Ck} {d : Nat} {ty : TypeId} {pos : String} {af : Array Edge}
/-! numbers that wrap -/
variable {x y : Operand} {xt yt : TypeId} {i j : Int}
/-! bytes -/
def RdY (w : World) (A : Option Addr) (n : Nat) (bs : List Int) : Prop := bs.length = n ∧ (∀ b ∈ bs, 0 ≤ b ∧ b ≤ 255) ∧ Rd w A n (fun j => .int .u8 (bs.getD j 0))
/-! literals of numbers -/
def idxI : Nat → List Int → List (Nat × Value)
  | _, [] => []
  | k, v :: r => (k, .int .i64 v) :: idxI (k + 1) r
end
end Go.Proofs.YtiblelgfkakmiaaGreatDoor.Vc
/-
  As the statement whose order Go leaves open, with properties of two operations' values together. Conditions: as each rule names them.
-/
namespace Go.Proofs.YtiblelgfkakmiaaGreatDoor.Vc
open Go.RowKit

inductive Ye where
  | ex (v : Value)
  | pr (p : Value → World → Prop)
  | p2 (j : Nat) (p : Value → Value → World → Prop)
  | al (q : Value → Prop) (p : Value → World → Prop)
/-- the operations' values -/
def vl (l : List Oper) (e : Env) (k : Nat) : Value := match l[k]? with
  | some o => valOf o e
  | none => undef
def Ye.holds (uu : Nat → Value) : Ye → Value → World → Prop
  | .ex v, u, _ => u = v
  | .pr p, u, w => p u w
  | .p2 j p, u, w => p (uu j) u w
  | .al q p, u, w => q u ∧ p u w
def Ye.lasts : Ye → Prop
  | .ex _ => True
  | .pr p => ∀ v w w', p v w → Below w.heap.size w w' → p v w'
  | .p2 _ p => ∀ a v w w', p a v w → Below w.heap.size w w' → p a v w'
  | .al _ p => ∀ v w w', p v w → Below w.heap.size w w' → p v w'
def isExP : Ye → Bool
  | .ex _ => true
  | .pr _ => false
  | .p2 .. => false
  | .al .. => false
def drawOkP (N : Nat) (l : List Oper) (ys : List Ye) (ms : List Nat) : Bool :=
  l.all (fun o => match o.dst with | some d => Nat.blt d N | none => true) && decide ((dsl l).Nodup) && (l.zipIdx.all fun p => (aft p.1).all fun ed => Nat.blt ed.on p.2) && Nat.beq l.length ys.length && (l.zip ys).all (fun p => p.1.dst.isSome || !isExP p.2) && decide ms.Nodup && ms.all (fun m => Nat.blt m l.length) && (ys.zipIdx.all fun p => !(isExP p.1) || !(ms.contains p.2)) && (ys.zipIdx.all fun p => match p.1 with | .p2 j _ => ancOf l l.length p.2 j && Nat.blt j l.length | _ => true)
def Ye.at_ (c ph : Nat) (uu : Nat → Value) : Ye → Value → World → Prop
  | .ex v, u, _ => u = v
  | .pr p, u, w => c = ph → p u w
  | .p2 j p, u, w => c = ph → p (uu j) u w
  | .al q p, u, w => q u ∧ (c = ph → p u w)
def endFrP : List Oper → List Ye → (Nat → Value) → Nat → List (Nat × Value)
  | o :: l, y :: ys, u, i => match o.dst, y with
    | some d, .ex v => (d, v) :: endFrP l ys u (i + 1)
    | some d, .pr _ => (d, u i) :: endFrP l ys u (i + 1)
    | some d, .p2 .. => (d, u i) :: endFrP l ys u (i + 1)
    | some d, .al .. => (d, u i) :: endFrP l ys u (i + 1)
    | none, _ => endFrP l ys u (i + 1)
  | _, _, _, _ => []
def depFrP (l : List Oper) (ys : List Ye) : List Edge → List (Nat × Value)
  | [] => []
  | ed :: r => match ys[ed.on]?, (l[ed.on]?).bind (·.dst) with
    | some (.ex v), some d => (d, v) :: depFrP l ys r
    | _, _ => depFrP l ys r

section
variable {P : Program} {N : Nat} {e : Env} {w : World}
def AfterP (o : Oper) (y : Ye) (uu : Nat → Value) (e1 : Env) (w1 : World) : Env → World → Prop := fun e2 w2 => Below w1.heap.size w1 w2 ∧ y.holds uu (valOf o e2) w2 ∧ ∀ j, o.dst ≠ some j → e2 j = e1 j
def AfterU (o : Oper) (y : Ye) (uu : Nat → Value) (e1 : Env) : Env → World → Prop := fun e2 w2 => y.holds uu (valOf o e2) w2 ∧ ∀ j, o.dst ≠ some j → e2 j = e1 j
def StepP (P : Program) (N : Nat) (l : List Oper) (ys : List Ye) (ms : List Nat) (e : Env) (w : World) (i : Nat) (o : Oper) : Prop :=
  ∀ (e1 : Env) (w1 : World) (c : Nat), loOf l ms i ≤ c → c ≤ hiOf l ms i → (c = 0 → Below w.heap.size w w1) →
    (∀ (j : Nat) (y : Ye) (o' : Oper), ancOf l l.length i j = true → ys[j]? = some y → l[j]? = some o' → y.at_ c (phOf l ms j) (vl l e1) (valOf o' e1) w1) →
    (∀ (j : Nat) (o' : Oper), l[j]? = some o' → ancOf l l.length j i = true → valOf o' e1 = valOf o' e) →
    (∀ (m : Nat) (y : Ye) (o' : Oper), memb ms m = true → chainAt l ms m = true → phOf l ms m = c → ys[m]? = some y → l[m]? = some o' → y.at_ c (phOf l ms m) (vl l e1) (valOf o' e1) w1) →
    bif memb ms i then Ops P N l.toArray (AfterU o (ys.getD i (.pr fun _ _ => True)) (vl l e1) (ext (mix e1 e (dsl l)) (depFrP l ys (aft o)))) [o] (ext (mix e1 e (dsl l)) (depFrP l ys (aft o))) w1
    else Ops P N l.toArray (AfterP o (ys.getD i (.pr fun _ _ => True)) (vl l e1) (ext (mix e1 e (dsl l)) (depFrP l ys (aft o))) w1) [o] (ext (mix e1 e (dsl l)) (depFrP l ys (aft o))) w1
def StepsP (P : Program) (N : Nat) (l : List Oper) (ys : List Ye) (ms : List Nat) (e : Env) (w : World) : Nat → List Oper → Prop
  | _, [] => True
  | i, o :: r => StepP P N l ys ms e w i o ∧ StepsP P N l ys ms e w (i + 1) r
end
end Go.Proofs.YtiblelgfkakmiaaGreatDoor.Vc
/-
  The sources of numbers that the draws and the laws' dice read, walked: each number lies in its range, and the source stays one. Conditions: as each states them.
-/
namespace Go.Proofs.YtiblelgfkakmiaaGreatDoor.Vc
open Go.RowKit

/-- a source in memory -/
def srcK (w0 : World) (As : Option Addr) (k : Ck) : Prop := ∃ (Ac : Option Addr) (nc cc : Nat) (a h : Int) (bs : List Int), k = Bx 104 3 As [.slice Ac nc cc, .int .i64 a, .int .u64 h] ∧ (0 ≤ a ∧ a ≤ nc) ∧ nc ≤ 1000000 ∧ RdY w0 Ac nc bs
/-- a source in memory -/
def dicK (w0 : World) (As : Option Addr) (k : Ck) : Prop := ∃ (Ac : Option Addr) (nc cc : Nat) (a h : Int) (bs : List Int), k = Bx 69 3 As [.slice Ac nc cc, .int .i64 a, .int .u64 h] ∧ (0 ≤ a ∧ a ≤ nc) ∧ nc ≤ 1000000 ∧ RdY w0 Ac nc bs
end Go.Proofs.YtiblelgfkakmiaaGreatDoor.Vc
/-
  The sources of numbers begun from a list of bytes, and picks. Conditions: as each states them.
-/
namespace Go.Proofs.YtiblelgfkakmiaaGreatDoor.Vc
open Go.RowKit

end Go.Proofs.YtiblelgfkakmiaaGreatDoor.Vc
/-
  Literals of slices; and the source's next number beside other memory. Conditions: as each states them.
-/
namespace Go.Proofs.YtiblelgfkakmiaaGreatDoor.Vc
open Go.RowKit

section
variable {P : Program} {N : Nat} {ops : Array Oper} {K : Env → World → Prop} {rest : List Oper} {e : Env} {w0 w w' : World} {ks : List Ck} {d : Nat} {ty : TypeId} {pos : String} {af : Array Edge}
def idxV : Nat → List Value → List (Nat × Value)
  | _, [] => []
  | k, v :: r => (k, v) :: idxV (k + 1) r
end

end Go.Proofs.YtiblelgfkakmiaaGreatDoor.Vc
/-
  Rows of structs of two cells, a slice and a number: the rules of the operations on them. Conditions: as each rule names them.
-/
namespace Go.Proofs.YtiblelgfkakmiaaGreatDoor.Vc
open Go.RowKit

structure CV where
  s : SlV
  v : Int
def flatC : List CV → List Value
  | [] => []
  | x :: r => x.s.v :: .int .i64 x.v :: flatC r
/-- a row of such structs of one's own: k of them, room for q -/
def CkC (t : TypeId) (A : Option Addr) (k q : Nat) (cs : List CV) : Ck := ⟨A, 2 * k, min (2 * q) maxLen, t, flatC cs⟩
/-- .. that can be read -/
def RdC (w : World) (A : Option Addr) (k : Nat) (cs : List CV) : Prop := cs.length = k ∧ Rd w A (2 * k) (fun j => (flatC cs).getD j undef)
/-- the address behind some -/
def cutC (A : Option Addr) (q l : Nat) : Option Addr := if q = l then A else ptrAt A (l * 2)
section
variable {w0 w : World} {ks : List Ck} {i : Nat} {t : TypeId} {A : Option Addr} {k q : Nat} {cs : List CV}
end
section
variable {P : Program} {N : Nat} {ops : Array Oper} {K : Env → World → Prop} {rest : List Oper} {e : Env} {w0 w w' : World} {ks : List Ck} {d : Nat} {ty : TypeId} {pos : String} {af : Array Edge}
end
end Go.Proofs.YtiblelgfkakmiaaGreatDoor.Vc
/-
  Plain mathematics of rooted forms: a tree of partial moves, and two ways of cutting it that keep the same leaves. Conditions: as each states them. No program in sight.
-/
namespace Go.Proofs.YtiblelgfkakmiaaGreatDoor.Vc

def cell (M : List (List Int)) (i : Nat) (f : Int) : Int := gi (gl M i) f
def setc (M : List (List Int)) (i f : Nat) (v : Int) : List (List Int) := M.set i ((gl M i).set f v)
def put (M : List (List Int)) (i f g : Nat) : List (List Int) := setc (setc M i f g) i g f
def Shp (n F : Nat) (M : List (List Int)) : Prop := M.length = n ∧ ∀ p ∈ M, p.length = F

section
variable {n F : Nat} {M : List (List Int)}
end

inductive Con (n : Nat) (M : List (List Int)) : Int → Prop where
  | zero : Con n M 0
  | step {y : Int} {i : Nat} : Con n M y → i < n → 0 ≤ y → 0 ≤ cell M i y → Con n M (cell M i y)

def Ext (n F : Nat) (M L : List (List Int)) : Prop := ∀ (i : Nat) (f : Int), i < n → 0 ≤ f → f < F → 0 ≤ cell M i f → cell L i f = cell M i f
structure Inv (n F : Nat) (M : List (List Int)) (met at_ : Nat) : Prop where
  shp : Shp n F M
  n0 : 0 < n
  met1 : 1 ≤ met
  metF : met ≤ F
  cells : ∀ (i : Nat) (f : Int), i < n → 0 ≤ f → f < F → cell M i f = -1 ∨ (0 ≤ cell M i f ∧ cell M i f < met ∧ f < met ∧ cell M i (cell M i f) = f ∧ cell M i f ≠ f)
  known : ∀ a : Nat, a < at_ → 0 ≤ cell M (a % n) (a / n : Nat)
  con : ∀ f : Nat, f < met → Con n M f
  le : at_ ≤ met * n

section
variable {n F : Nat} {M : List (List Int)} {met at_ : Nat}
/-- the tree: 'ok' cuts, 'fin' judges the whole -/
def grow (n F : Nat) (ok : List (List Int) → Nat → Nat → Bool) (fin : List (List Int) → Bool) : Nat → Nat → Nat → List (List Int) → List (List (List Int))
  | 0, _, _, _ => []
  | k + 1, at_, met, M =>
    if at_ = met * n then (if met = F ∧ fin M = true then [M] else [])
    else if 0 ≤ cell M (at_ % n) (at_ / n : Nat) then grow n F ok fin k (at_ + 1) met M
    else (List.range' (at_ / n + 1) (min met (F - 1) - at_ / n)).flatMap fun g =>
      if 0 ≤ cell M (at_ % n) (g : Nat) then [] else if ok (put M (at_ % n) (at_ / n) g) (at_ % n) (at_ / n) = true then grow n F ok fin k (at_ + 1) (max met (g + 1)) (put M (at_ % n) (at_ / n) g) else []

end

/-! what is asked of partial moves -/
def kn (M : List (List Int)) (i : Nat) (x : Int) : Int := if x < 0 then -1 else cell M i x
/-- at one flag, all pairs of moves that commute -/
def FitsP (M : List (List Int)) (i k : Nat) (f : Int) : Prop := (0 ≤ cell M i f → cell M i f ≠ cell M k f) ∧ (0 ≤ kn M k (cell M i f) → 0 ≤ kn M i (cell M k f) → kn M k (cell M i f) = kn M i (cell M k f))
instance (M : List (List Int)) (i k : Nat) (f : Int) : Decidable (FitsP M i k f) := by unfold FitsP; exact inferInstance
def FitsAll (M : List (List Int)) (f : Int) : Prop := ∀ i, i < M.length → ∀ k, k < M.length → i + 2 ≤ k → FitsP M i k f
instance (M : List (List Int)) (f : Int) : Decidable (FitsAll M f) := by unfold FitsAll; exact inferInstance
def okS (F : Nat) (M : List (List Int)) (_ _ : Nat) : Bool := decide (∀ e, e < F → FitsAll M (e : Nat))
/-- at one place, the moves that commute with one -/
def BadP (M : List (List Int)) (i k : Nat) (f g : Int) : Prop := cell M k f = g ∨ (0 ≤ cell M k f ∧ 0 ≤ cell M k g ∧ 0 ≤ cell M i (cell M k f) ∧ cell M i (cell M k f) ≠ cell M k g) ∨ (0 ≤ cell M k f ∧ 0 ≤ cell M k g ∧ 0 ≤ cell M i (cell M k g) ∧ cell M i (cell M k g) ≠ cell M k f)
instance (M : List (List Int)) (i k : Nat) (f g : Int) : Decidable (BadP M i k f g) := by unfold BadP; exact inferInstance
def okI (M : List (List Int)) (i f : Nat) : Bool := decide (∀ k, k < M.length → ¬ (-1 ≤ (k : Int) - i ∧ (k : Int) - i ≤ 1) → ¬ BadP M i k f (cell M i f))
end Go.Proofs.YtiblelgfkakmiaaGreatDoor.Vc
/-
  Plain mathematics of rooted forms: both ways of cutting the tree keep the maniplexes, in the same order. Conditions: as each states them. No program in sight.
-/
namespace Go.Proofs.YtiblelgfkakmiaaGreatDoor.Vc

section
variable {n F : Nat} {L M : List (List Int)}
/-- all rooted forms that go on from here, in order -/
def forms (n F : Nat) (k at_ met : Nat) (M : List (List Int)) : List (List (List Int)) := (grow n F (fun _ _ _ => true) (fun _ => true) k at_ met M).filter fun L => decide (Mani L)

/-- nothing known -/
def blank (n F : Nat) : List (List Int) := List.replicate n (List.replicate F (-1))
end
end Go.Proofs.YtiblelgfkakmiaaGreatDoor.Vc
/-
  Forms of maniplexes, their order, and rooted forms, without a program. Conditions: as each states them.
-/
namespace Go.Proofs.YtiblelgfkakmiaaGreatDoor.Vc
open Go.RowKit

/-! scattered writes -/
def scat (init : List Int) (ix v : Nat → Int) : Nat → List Int
  | 0 => init
  | k + 1 => (scat init ix v k).set (ix k).toNat (v k)
def seqI (m : Nat) : List Int := (List.range m).map fun (k : Nat) => (k : Int)
/-! the inverse, and a system renumbered -/
def backI (N : Nat) (o : List Int) : List Int := scat (List.replicate N 0) (fun k => gi o k) (fun k => (k : Int)) o.length
/-- each of the N places once -/
structure Prm (N : Nat) (o : List Int) : Prop where
  len : o.length = N
  nodup : o.Nodup
  range : ∀ x ∈ o, 0 ≤ x ∧ x < (N : Int)
section
variable {N : Nat} {o : List Int}
end
/-- a move in new numbers: read along the order of the flags -/
def rowF (o b mv : List Int) : List Int := o.map fun x => gi b (gi mv x)
/-- .. and written place by place -/
def renI (N : Nat) (p mv : List Int) : List Int := scat (List.replicate N 0) (fun f => gi p f) (fun f => gi p (gi mv f)) N
/-- the form of a system from a flag -/
def formL (N : Nat) (xss : List (List Int)) (f : Int) : List (List Int) := xss.map fun mv => rowF (orbit N xss f) (backI N (orbit N xss f)) mv
/-! lexicographic order -/
def cmpI (a b : Int) : Int := if a < b then -1 else if b < a then 1 else 0
def lexC : List Int → List Int → Int
  | [], [] => 0
  | [], _ :: _ => -1
  | _ :: _, [] => 1
  | a :: l, b :: r => if cmpI a b = 0 then lexC l r else cmpI a b
def lexCC : List (List Int) → List (List Int) → Int
  | [], [] => 0
  | [], _ :: _ => -1
  | _ :: _, [] => 1
  | a :: l, b :: r => if lexC a b = 0 then lexCC l r else lexC a b
/-! the least form -/
def leastTo (N : Nat) (xss : List (List Int)) : Nat → List (List Int)
  | 0 => formL N xss 0
  | k + 1 => if lexCC (formL N xss k) (leastTo N xss k) < 0 then formL N xss k else leastTo N xss k
def leastL (N : Nat) (xss : List (List Int)) : List (List Int) := leastTo N xss N
/-! rooted forms are their own forms from the flag 0 -/
section
variable {n F : Nat}
/-- how many flags are numbered ahead of a place -/
def mtL (L : List (List Int)) (n : Nat) : Nat → Nat
  | 0 => 1
  | a + 1 => max (mtL L n a) ((cell L (a % n) (a / n : Nat)).toNat + 1)
def RG (L : List (List Int)) (n a : Nat) : Prop := 0 ≤ cell L (a % n) (a / n : Nat) ∧ cell L (a % n) (a / n : Nat) ≤ mtL L n a ∧ a / n < mtL L n a
end
end Go.Proofs.YtiblelgfkakmiaaGreatDoor.Vc
