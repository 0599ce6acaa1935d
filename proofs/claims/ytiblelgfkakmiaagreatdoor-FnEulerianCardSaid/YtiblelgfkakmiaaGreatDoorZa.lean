/-
  The texts Vc, Ops, Mem, Mop, Draw, App, Drw, Cpy, Mat in one. Conditions: as each part states them.
-/
import Derived.WalkKit
import Derived.Deep.Quiet
import Derived.Deep.LoopGhost
import Derived.Below
import Derived.Sort.Grow
import Derived.Deep.OwnRows
import Derived.Laws.IdiomCopy
import Derived.Shelf.Bits.Mul64
/-
  A small calculus over the model's own weakest preconditions: the frame's slots as a function, one rule an operation. Conditions: none; plain theorems, nothing of a program in sight.
-/
namespace Go.Proofs.YtiblelgfkakmiaaGreatDoor.Vc
open Go.RowKit

abbrev Env := Nat → Value
def upd (e : Env) (d : Nat) (v : Value) : Env := fun i => bif Nat.beq i d then v else e i
def ev (e : Env) : Operand → Value
  | .tmp t => e t
  | .const v => v
  | .global g => .pointer (some ⟨g, 0, none⟩)
  | .func f => .func (.func f) #[] #[]

/-- the frame 'a' has N slots and holds 'e' -/
structure Rep (N : Nat) (a : Act) (e : Env) : Prop where
  defers : a.defers = []
  size : a.tmps.size = N
  get : ∀ i, a.tmps.getD i undef = e i

abbrev Post := Exit → Env → World → Prop
def low (N : Nat) (Q : Post) : Exit → Act → World → Prop := fun x a w => ∃ e, Rep N a e ∧ Q x e w
structure Cd (P : Program) (N : Nat) (c : Code) (Q : Post) (e : Env) (w : World) : Prop where
  mk' ::
  run : ∀ a, Rep N a e → c.wp P (low N Q) a w
/-- the operations 'l' of the region 'ops', then 'K' -/
structure Ops (P : Program) (N : Nat) (ops : Array Oper) (K : Env → World → Prop) (l : List Oper) (e : Env) (w : World) : Prop where
  mk' ::
  run : ∀ a, Rep N a e → wpList P ops (fun x a w => x = .normal ∧ ∃ e, Rep N a e ∧ K e w) l a w

section
variable {P : Program} {N : Nat} {Q : Post} {e : Env} {w : World}

def thenQ (K : Env → World → Prop) (Q : Post) : Post
  | .normal, e, w => K e w
  | x, e, w => Q x e w
def blockQ (id : Nat) (Q : Post) : Post
  | .exit id', e, w => if id' = id then Q .normal e w else Q (.exit id') e w
  | x, e, w => Q x e w

/-- the slots that a loop's relation names -/
def Mt (e : Env) : List (Nat × Value) → Prop
  | [] => True
  | (i, v) :: r => e i = v ∧ Mt e r
def ext (e : Env) : List (Nat × Value) → Env
  | [] => e
  | (i, v) :: r => upd (ext e r) i v
end
end Go.Proofs.YtiblelgfkakmiaaGreatDoor.Vc
/-
  One rule an operation, over the calculus of XVc. Conditions: as each rule names them.
-/
namespace Go.Proofs.YtiblelgfkakmiaaGreatDoor.Vc
open Go.RowKit

class Und (P : Program) (t : TypeId) (d : outParam TypeDesc) : Type where
  out : P.underlying t = some d
class Inf (P : Program) (t : TypeId) (z : outParam Value) (size bytes : outParam Nat) : Prop where
  out : (P.info? t).map (fun i => (i.zero, i.size, i.bytes)) = some (some z, size, bytes)
class Fnc (P : Program) (F : FuncId) : Prop where
  out : ∃ fn, P.funcs[F]? = some fn ∧ (fn.name == "runtime.NumGoroutine") = false ∧ fn.body.isNone = false

section
variable {P : Program} {N : Nat} {ops : Array Oper} {K : Env → World → Prop} {rest : List Oper} {e : Env} {w w' : World} {d : Nat} {ty : TypeId} {pos : String} {af : Array Edge}

/-! guards -/
/-! moves -/
def mvOf : Op → Option Operand
  | .move x => some x
  | .assign x => some x
  | _ => none
/-! integers -/
section
variable {x y : Operand} {xt yt : TypeId} {i j : Int}
end

/-! calls -/
def Ret (P : Program) (F : FuncId) (vs : List Value) (w : World) (R : Value → World → Prop) : Prop := Calls P F vs.toArray w fun x w' => ∃ v, x = .returned v ∧ R v w'
/-! ways out -/
/-! entering a function -/
def argEnv (vs : List Value) : Env := fun i => vs.getD i undef
def ret0 (R : Value → World → Prop) : Post
  | .normal, _, w => R (.tuple #[]) w
  | .ret, _, w => R (.tuple #[]) w
  | _, _, _ => False
def ret1 (t : Nat) (R : Value → World → Prop) : Post
  | .normal, e, w => R (e t) w
  | .ret, e, w => R (e t) w
  | _, _, _ => False
def ret2 (t u : Nat) (R : Value → World → Prop) : Post
  | .normal, e, w => R (.tuple #[e t, e u]) w
  | .ret, e, w => R (.tuple #[e t, e u]) w
  | _, _, _ => False
def ret3 (t u x : Nat) (R : Value → World → Prop) : Post
  | .normal, e, w => R (.tuple #[e t, e u, e x]) w
  | .ret, e, w => R (.tuple #[e t, e u, e x]) w
  | _, _, _ => False

end
end Go.Proofs.YtiblelgfkakmiaaGreatDoor.Vc
/-
  Memory that a call makes, as a list of rows of its own, each in a block of its own; what was there before reads as it did. Conditions: as each rule names them.
-/
namespace Go.Proofs.YtiblelgfkakmiaaGreatDoor.Vc
open Go.RowKit

/-- whether draws are counted: no contract of the library's that counts none is used in this seat -/
def Strict : Prop := False
/-- the kit's 'Below', and no draw is taken back -/
structure Below (B : Nat) (w w' : World) : Prop extends Go.RowKit.Below B w w' where
  drawn : Strict → w.drawn ≤ w'.drawn
/-- the kit's 'grownBy', and no draw is taken back -/
structure GrB (w w' : World) (row : Option Nat) : Prop where
  g : w.grownBy w' row
  drawn : w.drawn ≤ w'.drawn
/-- the address of the place k behind A -/
def ptrAt (A : Option Addr) (k : Nat) : Option Addr := A.map (·.add k)

/-- the slice at A with n elements reads as 'f' -/
def Rd (w : World) (A : Option Addr) (n : Nat) (f : Nat → Value) : Prop := ∀ k, k < n → ∃ p, ptrAt A k = some p ∧ w.cell? p = some (f k)

/-- a row of one's own: its slice (or its pointer), its elements' type, its cells -/
structure Ck where
  A : Option Addr
  n : Nat
  c : Nat
  e : TypeId
  vs : List Value

def Ck.blk (k : Ck) : Option Nat := k.A.map (·.block)

/-- the cells of a row that stands for a map: a mark, then keys and elements in turn -/
def flatM : List (Value × Value) → List Value
  | [] => []
  | p :: r => p.1 :: p.2 :: flatM r
def isM : List Value → Bool
  | .tuple _ :: _ => true
  | _ => false
def OwnC (B : Nat) (w : World) (k : Ck) : Prop :=
  k.vs.length = k.n ∧ k.n ≤ k.c ∧ k.c ≤ maxLen ∧
  ((k.A = none ∧ k.c = 0) ∨ ∃ g o cur, k.A = some ⟨g, o, none⟩ ∧ B ≤ g ∧ w.heap[g]? = some (.cells cur k.e (0, 0)) ∧ o + k.c ≤ cur.size ∧ ∀ j, j < k.n → cur[o + j]? = k.vs[j]?)
/-- a map of one's own -/
def OwnM (B : Nat) (w : World) (k : Ck) : Prop :=
  k.n = 0 ∧ k.c = 0 ∧ ∃ g es cl, k.A = some ⟨g, 0, none⟩ ∧ B ≤ g ∧ w.heap[g]? = some (.map es cl) ∧ k.vs = .tuple #[] :: flatM (es.toList.map fun e => (e.key, e.val))
def Own (B : Nat) (w : World) (k : Ck) : Prop := if isM k.vs = true then OwnM B w k else OwnC B w k
structure St (w0 w : World) (ks : List Ck) : Prop where
  below : Below w0.heap.size w0 w
  own : ∀ k ∈ ks, Own w0.heap.size w k
  apart : (ks.filterMap Ck.blk).Nodup

section
variable {w0 w w' : World} {ks : List Ck} {k : Ck} {B : Nat}

end
end Go.Proofs.YtiblelgfkakmiaaGreatDoor.Vc
/-
  The operations on memory: addresses, loads, stores, make, literals, cuts, append. Conditions: as each rule names them.
-/
namespace Go.Proofs.YtiblelgfkakmiaaGreatDoor.Vc
open Go.RowKit

/-! typed readings -/
structure SlV where
  a : Option Addr
  n : Nat
  c : Nat
def SlV.v (s : SlV) : Value := .slice s.a s.n s.c
def slNil : SlV := ⟨none, 0, 0⟩
def gi (xs : List Int) (i : Int) : Int := xs.getD i.toNat 0
def gb (xs : List Bool) (i : Int) : Bool := xs.getD i.toNat false
def rg (xs : List SlV) (i : Int) : SlV := xs.getD i.toNat slNil
def RdI (w : World) (A : Option Addr) (n : Nat) (xs : List Int) : Prop := xs.length = n ∧ Rd w A n (fun j => .int .i64 (xs.getD j 0))
def RdB (w : World) (A : Option Addr) (n : Nat) (xs : List Bool) : Prop := xs.length = n ∧ Rd w A n (fun j => .bool (xs.getD j false))
def RdR (w : World) (A : Option Addr) (n : Nat) (xs : List SlV) : Prop := xs.length = n ∧ Rd w A n (fun j => (xs.getD j slNil).v)
abbrev CkI (t : TypeId) (A : Option Addr) (n c : Nat) (xs : List Int) : Ck := ⟨A, n, c, t, xs.map (.int .i64)⟩
abbrev CkB (t : TypeId) (A : Option Addr) (n c : Nat) (xs : List Bool) : Ck := ⟨A, n, c, t, xs.map .bool⟩
abbrev CkR (t : TypeId) (A : Option Addr) (n c : Nat) (xs : List SlV) : Ck := ⟨A, n, c, t, xs.map SlV.v⟩

section
variable {w0 w w' : World} {ks : List Ck} {t : TypeId} {A : Option Addr} {n c : Nat}
end

section
variable {P : Program} {N : Nat} {ops : Array Oper} {K : Env → World → Prop} {rest : List Oper} {e : Env} {w0 w w' : World} {ks : List Ck} {d : Nat} {ty : TypeId} {pos : String} {af : Array Edge}

/-- not a struct, not an array -/
def plainTy : TypeDesc → Bool
  | .struct _ => false
  | .array _ _ => false
  | _ => true
/-! literals -/
/-! boxes, structs -/
def fieldOf : List Field → Nat → Option (TypeId × Nat)
  | f :: _, 0 => some (f.type, f.offset)
  | _ :: r, m + 1 => fieldOf r m
  | [], _ => none
/-- boxes told plainly -/
abbrev Bx (t : TypeId) (n : Nat) (A : Option Addr) (vs : List Value) : Ck := ⟨A, n, n, t, vs⟩
def setL (vs : List Value) (o : Nat) : List Value → List Value
  | [] => vs
  | c :: r => setL (vs.set o c) (o + 1) r
/-- a result that lies in memory -/
def retc (a n : Nat) (R : Value → World → Prop) : Post
  | .normal, e, w => ∃ A f, e a = .pointer A ∧ Rd w A n f ∧ R (.agg ((List.range n).map f).toArray) w
  | .ret, e, w => ∃ A f, e a = .pointer A ∧ Rd w A n f ∧ R (.agg ((List.range n).map f).toArray) w
  | _, _, _ => False
/-! cuts -/
def cutAt (A : Option Addr) (c l : Nat) : Option Addr := if c = l then A else ptrAt A l
/-! append -/
end
end Go.Proofs.YtiblelgfkakmiaaGreatDoor.Vc
/-
  A statement whose order Go leaves open: its operations make new memory at most; what each yields is told by a value or by a lasting property; whatever the order, all of it holds behind it. And: two ways that meet again. Conditions: as each rule names them.
-/
namespace Go.Proofs.YtiblelgfkakmiaaGreatDoor.Vc
open Go.RowKit

inductive Yd where
  | ex (v : Value)
  | pr (p : Value → World → Prop)
def Yd.holds : Yd → Value → World → Prop
  | .ex v, u, _ => u = v
  | .pr p, u, w => p u w
def Yd.lasts : Yd → Prop
  | .ex _ => True
  | .pr p => ∀ v w w', p v w → Below w.heap.size w w' → p v w'
def memb (ds : List Nat) (i : Nat) : Bool := match ds with
  | [] => false
  | d :: r => bif Nat.beq i d then true else memb r i
def mix (e1 e : Env) (ds : List Nat) : Env := fun i => bif memb ds i then e1 i else e i
/-- what an operation waits for, whatever the order -/
def aft (o : Oper) : List Edge := o.after.toList.filter (Region.binds .any)
def dstOf (o : Oper) : Nat := match o.dst with
  | some d => d
  | none => 0
/-- every operation has a slot of its own, and waits for earlier ones alone -/
def drawOk (N : Nat) (l : List Oper) : Bool :=
  l.all (fun o => match o.dst with | some d => Nat.blt d N | none => false) && decide ((l.map dstOf).Nodup) && (l.zipIdx.all fun p => (aft p.1).all fun ed => Nat.blt ed.on p.2)
def depFr (l : List Oper) (ys : List Yd) : List Edge → List (Nat × Value)
  | [] => []
  | ed :: r => match ys[ed.on]? with
    | some (.ex v) => (((l[ed.on]?).map dstOf).getD 0, v) :: depFr l ys r
    | _ => depFr l ys r
def endFr : List Oper → List Yd → (Nat → Value) → Nat → List (Nat × Value)
  | o :: l, .ex v :: ys, u, i => (dstOf o, v) :: endFr l ys u (i + 1)
  | o :: l, .pr _ :: ys, u, i => (dstOf o, u i) :: endFr l ys u (i + 1)
  | _, _, _, _ => []

/-- operation k waits for operation j, by itself or through others -/
def ancOf (l : List Oper) : Nat → Nat → Nat → Bool
  | 0, _, _ => false
  | f + 1, k, j => match l[k]? with
    | some o => (aft o).any fun ed => Nat.beq ed.on j || ancOf l f ed.on j
    | none => false
section
variable {P : Program} {N : Nat} {e : Env} {w : World}
def After (i : Nat) (e1 : Env) (w1 : World) (d : Nat) (y : Yd) : Env → World → Prop := fun e2 w2 => Below w1.heap.size w1 w2 ∧ y.holds (e2 d) w2 ∧ ∀ j, j ≠ d → e2 j = e1 j

def DrawSteps (P : Program) (N : Nat) (l : List Oper) (ys : List Yd) (e : Env) (w : World) : Nat → List Oper → Prop
  | _, [] => True
  | i, o :: r => (∀ e1 w1, Below w.heap.size w w1 → (∀ j, j < l.length → memb ((aft o).map (·.on)) j = true → ∀ (y : Yd) (o' : Oper), ys[j]? = some y → l[j]? = some o' → y.holds (e1 (dstOf o')) w1) → (∀ (j : Nat) (o' : Oper), l[j]? = some o' → ancOf l l.length j i = true → e1 (dstOf o') = e (dstOf o')) → 
      Ops P N l.toArray (After i (ext (mix e1 e (l.map dstOf)) (depFr l ys (aft o))) w1 (dstOf o) (ys.getD i (.pr fun _ _ => True))) [o] (ext (mix e1 e (l.map dstOf)) (depFr l ys (aft o))) w1) ∧ DrawSteps P N l ys e w (i + 1) r

end
end Go.Proofs.YtiblelgfkakmiaaGreatDoor.Vc
/-
  Typed forms of literals with one element, and of append. Conditions: as each rule names them.
-/
namespace Go.Proofs.YtiblelgfkakmiaaGreatDoor.Vc
open Go.RowKit
section
variable {P : Program} {N : Nat} {ops : Array Oper} {K : Env → World → Prop} {rest : List Oper} {e : Env} {w0 w w' : World} {ks : List Ck} {d : Nat} {ty : TypeId} {pos : String} {af : Array Edge}

end
end Go.Proofs.YtiblelgfkakmiaaGreatDoor.Vc
/-
  A statement whose order Go leaves open, with one operation that turns memory; what it waits for comes ahead of it, what waits for it comes behind. Conditions: as each rule names them.
-/
namespace Go.Proofs.YtiblelgfkakmiaaGreatDoor.Vc
open Go.RowKit

/-- what is told by a property alone is the turning operation, or waits for it -/
def prOk (l : List Oper) (m : Nat) (ys : List Yd) : Bool := ys.zipIdx.all fun p => match p.1 with
  | .ex _ => true
  | .pr _ => Nat.beq p.2 m || ancOf l l.length p.2 m
section
variable {P : Program} {N : Nat} {e : Env} {w : World}
/-- where the world may stand at operation i: ahead of the turning one, or behind it -/
def Phase (l : List Oper) (m i : Nat) (w w1 : World) (p : Value → World → Prop) : Prop :=
  (Below w.heap.size w w1 ∧ ancOf l l.length i m = false) ∨ ((∃ v, p v w1) ∧ ancOf l l.length m i = false)
def AfterM (e1 : Env) (d : Nat) (p : Value → World → Prop) : Env → World → Prop := fun e2 w2 => p (e2 d) w2 ∧ ∀ j, j ≠ d → e2 j = e1 j
def DrawStepsM (P : Program) (N : Nat) (l : List Oper) (ys : List Yd) (e : Env) (w : World) (m : Nat) (p : Value → World → Prop) : Nat → List Oper → Prop
  | _, [] => True
  | i, o :: r => (∀ e1 w1, Phase l m i w w1 p → (∀ j, j < l.length → memb ((aft o).map (·.on)) j = true → ∀ (y : Yd) (o' : Oper), ys[j]? = some y → l[j]? = some o' → y.holds (e1 (dstOf o')) w1) → (∀ (j : Nat) (o' : Oper), l[j]? = some o' → ancOf l l.length j i = true → e1 (dstOf o') = e (dstOf o')) → 
      bif Nat.beq i m then (Below w.heap.size w w1 → Ops P N l.toArray (AfterM (ext (mix e1 e (l.map dstOf)) (depFr l ys (aft o))) (dstOf o) p) [o] (ext (mix e1 e (l.map dstOf)) (depFr l ys (aft o))) w1)
      else Ops P N l.toArray (After i (ext (mix e1 e (l.map dstOf)) (depFr l ys (aft o))) w1 (dstOf o) (ys.getD i (.pr fun _ _ => True))) [o] (ext (mix e1 e (l.map dstOf)) (depFr l ys (aft o))) w1) ∧ DrawStepsM P N l ys e w m p (i + 1) r

end
end Go.Proofs.YtiblelgfkakmiaaGreatDoor.Vc
/-
  Copies, the least of two numbers, and unsigned arithmetic. Conditions: as each rule names them.
-/
namespace Go.Proofs.YtiblelgfkakmiaaGreatDoor.Vc
open Go.RowKit
section
variable {P : Program} {N : Nat} {ops : Array Oper} {K : Env → World → Prop} {rest : List Oper} {e : Env} {w0 w w' : World} {ks : List Ck} {d : Nat} {ty : TypeId} {pos : String} {af : Array Edge}

section
variable {x y : Operand} {xt yt : TypeId} {i j : Int}
end
end
end Go.Proofs.YtiblelgfkakmiaaGreatDoor.Vc
/-
  Slices of slices: read, and made anew. Conditions: as each rule names them.
-/
namespace Go.Proofs.YtiblelgfkakmiaaGreatDoor.Vc
open Go.RowKit

structure RowsI (w : World) (A : Option Addr) (n : Nat) (rs : List SlV) (xss : List (List Int)) : Prop where
  top : RdR w A n rs
  len : xss.length = n
  row : ∀ i, i < n → RdI w (rs.getD i slNil).a (rs.getD i slNil).n (xss.getD i [])
  cap : ∀ i, i < n → (rs.getD i slNil).n ≤ (rs.getD i slNil).c ∧ (rs.getD i slNil).c ≤ maxLen

def gl (xss : List (List Int)) (i : Int) : List Int := xss.getD i.toNat []
def rowsCk (t : TypeId) : List SlV → List (List Int) → List Ck
  | r :: rs, xs :: xss => CkI t r.a r.n r.c xs :: rowsCk t rs xss
  | _, _ => []
/-- a new slice of slices: the outer row, then each row -/
def mat (t1 t2 : TypeId) (A : Option Addr) (n c : Nat) (rs : List SlV) (xss : List (List Int)) : List Ck := CkR t1 A n c rs :: rowsCk t2 rs xss

end Go.Proofs.YtiblelgfkakmiaaGreatDoor.Vc
