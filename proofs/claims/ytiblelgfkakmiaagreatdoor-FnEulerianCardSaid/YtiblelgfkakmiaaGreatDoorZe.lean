/-
  The texts Key, Gi1, Co9, Co10, Co11, Co12, Co15, Co16, Co19, Co13, Co26, Co14, E9, Gi2, Co17, Co21, Co27, Co28, Co29, Co22, Co23, Co30, Co31, Cw1, Cw2, Dr0, Open, Opm, Opy, Cw3, Co18, Co20, Co24, Co25, Co32, Cw6, Cw7, Cpc, Rk1, Co33, Rk2, Rk3, Rk4, Rk5, Ptr, Co34, Drs, Co35, El1, El2, El4, El5, El6, E6, Rk7, Rk8, Rk9, Pm1, Pm2, Co36, Pm3, Pm4, El3, El7, Su1, El8, D6, Cx0, Cx1, Cx2, Cw8 in one. Conditions: as each part states them.
-/
import Derived.Test.YtiblelgfkakmiaaGreatDoorInst
import Derived.Test.YtiblelgfkakmiaaGreatDoorZd
import Derived.Test.YtiblelgfkakmiaaGreatDoorZb
import Derived.Lib.ItoaLen
import Derived.Test.YtiblelgfkakmiaaGreatDoorLayd
import Derived.Shelf.Strconv.AppendIntPublic10
import Derived.Test.YtiblelgfkakmiaaGreatDoorZc
import Derived.Test.YtiblelgfkakmiaaGreatDoorZa
import Derived.Deep.Matrix
import Derived.Carry
import Derived.Below
import Derived.ChangeSame
import Derived.ProofKit
import Derived.OpenShut
import Derived.Handed
import Derived.Lib.SmallJoins
import Derived.Lib.AppendZeros
/-
  The text of a list of numbers, which is alike for equal lists alone. Conditions: the library's table of powers of ten holds what the program's text lays there.
-/
namespace Go.Proofs.YtiblelgfkakmiaaGreatDoor.Vc
open Go.RowKit

/-! the text, plainly -/
def keyL (xs : List Int) : List UInt8 := xs.flatMap fun x => Lib.itoa x ++ [32]
def keyB (xs : List Int) : ByteArray := ⟨(keyL xs).toArray⟩
def valD (l : List UInt8) : Nat := l.foldl (fun a b => 10 * a + (b.toNat - 48)) 0
/-! the library's table -/
def Tab (w : World) : Prop := Lib.TabIs Tryz.prog w "internal/strconv.uint64pow10" .u64 Lib.pow10Tab
/-- a row of bytes of the call's own -/
def OwB (B : Nat) (w : World) (A : Option Addr) (m c : Nat) (l : List UInt8) : Prop := w.ownsRow B 5 1 (.slice A m c) m (Lib.byteCells l)
section
variable {N : Nat} {ops : Array Oper} {K : Env → World → Prop} {rest : List Oper} {e : Env} {w0 w w' : World} {ks : List Ck} {d : Nat} {ty : TypeId} {pos : String} {af : Array Edge}
end
end Go.Proofs.YtiblelgfkakmiaaGreatDoor.Vc
/-
  The girth on both sides. Conditions: the library's table of powers of ten holds what the program's text lays there.
-/
namespace Go.Proofs.YtiblelgfkakmiaaGreatDoor.Vc
open Go.RowKit

/-- rows that can be read, wherever they are named -/
structure RowsW (w : World) (n : Nat) (rs : List SlV) (xss : List (List Int)) : Prop where
  rl : rs.length = n
  len : xss.length = n
  row : ∀ i, i < n → RdI w (rs.getD i slNil).a (rs.getD i slNil).n (xss.getD i [])
  cap : ∀ i, i < n → (rs.getD i slNil).n ≤ (rs.getD i slNil).c ∧ (rs.getD i slNil).c ≤ maxLen
/-! what has been seen -/
def seenA (ls : List (List Int)) : List (ByteArray × Bool) := ls.foldl (fun L l => putA L (keyB l) true) []
instance (l : List (List Int)) : Decidable l.Nodup := by unfold List.Nodup; infer_instance
end Go.Proofs.YtiblelgfkakmiaaGreatDoor.Vc
/-
  The greatest ones of some lists, walked. Conditions: as each states them.
-/
namespace Go.Proofs.YtiblelgfkakmiaaGreatDoor.Vc
open Go.RowKit

end Go.Proofs.YtiblelgfkakmiaaGreatDoor.Vc
/-
  The complex of some lists, walked. Conditions: as each states them.
-/
namespace Go.Proofs.YtiblelgfkakmiaaGreatDoor.Vc
open Go.RowKit
section
variable {P : Program} {N : Nat} {ops : Array Oper} {K : Env → World → Prop} {rest : List Oper} {e : Env} {w0 w w' : World} {ks : List Ck} {d : Nat} {ty : TypeId} {pos : String} {af : Array Edge}
end

def AnsC (V : Int) (F : List (List Int)) (K : Int) (w : World) (v : Value) (w' : World) : Prop := ∃ A' c' rs', v = .tuple #[.agg #[.int .i64 V, .slice A' F.length c'], .int .i64 K] ∧ rs'.length = F.length ∧ St w w' (mat 28 2 A' F.length c' rs' F ++ [])
/-- some rows with new numbers, the others as they were -/
def mixR (f : Int → Int) (ss : List (List Int)) (k : Nat) : List (List Int) := (ss.take k).map (List.map f) ++ ss.drop k
def mixI (f : Int → Int) (l : List Int) (j : Nat) : List Int := (l.take j).map f ++ l.drop j
end Go.Proofs.YtiblelgfkakmiaaGreatDoor.Vc
/-
  The test of a complex, walked. Conditions: as each states them.
-/
namespace Go.Proofs.YtiblelgfkakmiaaGreatDoor.Vc
open Go.RowKit

end Go.Proofs.YtiblelgfkakmiaaGreatDoor.Vc
/-
  What the tests of complexes need: plain parts, and short walks. Conditions: as each states them.
-/
namespace Go.Proofs.YtiblelgfkakmiaaGreatDoor.Vc
open Go.RowKit

instance (l : List Int) : Decidable (SA l) := by unfold SA; exact inferInstance
instance (l : List (List Int)) : Decidable (SL l) := by unfold SL; exact inferInstance
instance (V : Int) (F : List (List Int)) : Decidable (Cplx V F) := decidable_of_iff ((0 ≤ V ∧ V ≤ 60) ∧ F.length ≤ 400 ∧ (∀ l ∈ F, (1 ≤ l.length ∧ l.length ≤ 6) ∧ SA l ∧ ∀ x ∈ l, 0 ≤ x ∧ x < V) ∧ SL F ∧ (∀ k, k < V.toNat → ∃ l ∈ F, (k : Int) ∈ l) ∧ ∀ l ∈ F, ∀ m ∈ F, Ins l m → m = l)
  ⟨fun ⟨a, b, c, d, e, f⟩ => ⟨a, b, c, d, fun x h0 h1 => by
    have := e x.toNat (by omega)
    rwa [Int.toNat_of_nonneg h0] at this, f⟩, fun h => ⟨h.v, h.f, h.row, h.ord, fun k hk => h.all k (by omega) (by omega), h.top⟩⟩

/-! marks at the elements of a list -/
def pnt (H : List Bool) (vs : List Int) : List Bool := vs.foldl (fun H v => H.set v.toNat true) H
/-! the first facets -/
structure PreC (V : Int) (F : List (List Int)) (k : Nat) : Prop where
  row : ∀ l ∈ F.take k, (1 ≤ l.length ∧ l.length ≤ 6) ∧ SA l ∧ ∀ x ∈ l, 0 ≤ x ∧ x < V
  ord : SL (F.take k)
def Rise (most : Int) (l : List Int) : Prop := SA l ∧ ∀ x ∈ l, 0 ≤ x ∧ x ≤ most
instance (most : Int) (l : List Int) : Decidable (Rise most l) := by unfold Rise; exact inferInstance
end Go.Proofs.YtiblelgfkakmiaaGreatDoor.Vc
/-
  A list put into ascending lists, walked. Conditions: as each states them.
-/
namespace Go.Proofs.YtiblelgfkakmiaaGreatDoor.Vc
open Go.RowKit

def putR (rs : List SlV) (xss : List (List Int)) (s : SlV) (x : List Int) : List SlV := if x ∈ xss then rs else rs.take (atL x xss) ++ s :: rs.drop (atL x xss)
end Go.Proofs.YtiblelgfkakmiaaGreatDoor.Vc
/-
  The reference's complex of some lists, walked. Conditions: as each states them.
-/
namespace Go.Proofs.YtiblelgfkakmiaaGreatDoor.Vc
open Go.RowKit
section
variable {P : Program} {N : Nat} {ops : Array Oper} {K : Env → World → Prop} {rest : List Oper} {e : Env} {w0 w w' : World} {ks : List Ck} {d : Nat} {ty : TypeId} {pos : String} {af : Array Edge}
end

def topT (x : List Int) (T : List (List Int)) : Prop := ∀ y ∈ T, Ins x y → y = x
instance (x : List Int) (T : List (List Int)) : Decidable (topT x T) := by unfold topT; exact inferInstance
def topB (S : List (List Int)) (x : List Int) : Bool := decide (∀ y ∈ S, Ins x y → y = x)
def faS (S : List (List Int)) (i : Nat) : List (List Int) := (S.take i).filter (topB S)
abbrev cxZ (Ab : Option Addr) : Ck := Bx 26 2 Ab [.int .i64 0, .slice none 0 0]

end Go.Proofs.YtiblelgfkakmiaaGreatDoor.Vc
/-
  Plain mathematics of complexes: faces with so many elements, and their numbers. Conditions: as each states them. No program in sight.
-/
namespace Go.Proofs.YtiblelgfkakmiaaGreatDoor.Vc

/-- parts of some lists, as they are met -/
def faL (F : List (List Int)) (k : Nat) : List (List Int) := if k = 0 then [[]] else F.flatMap fun f => ptsP f k
/-- the faces with k elements, in order -/
def fcs (F : List (List Int)) (k : Nat) : List (List Int) := (faL F k).foldl putL []
/-- the greatest number of elements -/
def dpt (F : List (List Int)) : Nat := F.foldl (fun d f => max d f.length) 0
/-- the numbers of faces -/
def fvP (F : List (List Int)) : List Int := (List.range (dpt F + 1)).map fun k => ((fcs F k).length : Int)
end Go.Proofs.YtiblelgfkakmiaaGreatDoor.Vc
/-
  The test of a complex on both sides, walked. Conditions: as each states them.
-/
namespace Go.Proofs.YtiblelgfkakmiaaGreatDoor.Vc
open Go.RowKit

def mk0 (m : Nat) : List Bool := List.replicate m false
abbrev cxB (Ab : Option Addr) (V : Int) (A : Option Addr) (n c : Nat) : Ck := Bx 26 2 Ab [.int .i64 V, .slice A n c]

end Go.Proofs.YtiblelgfkakmiaaGreatDoor.Vc
/-
  Parts of a list and faces with so many elements, walked in the reference. Conditions: as each states them.
-/
namespace Go.Proofs.YtiblelgfkakmiaaGreatDoor.Vc
open Go.RowKit

/-- an answer: lists in memory of their own -/
def AnsL (L : List (List Int)) (w : World) (v : Value) (w' : World) : Prop := ∃ A c rs, v = .slice A L.length c ∧ rs.length = L.length ∧ St w w' (mat 28 2 A L.length c rs L ++ [])
/-- lists with the parts of a list put in, each behind the same front -/
def prP (L : List (List Int)) (xs ch : List Int) (m a : Nat) : List (List Int) := ((ptsP (xs.drop a) m).map (ch ++ ·)).foldl putL L
/-- an answer: lists in memory of their own, beside other memory of one's own -/
def AnsP (L : List (List Int)) (w0 : World) (ks : List Ck) (w : World) (v : Value) (w' : World) : Prop := ∃ A c rs, v = .slice A L.length c ∧ rs.length = L.length ∧ Below w.heap.size w w' ∧ St w0 w' (mat 28 2 A L.length c rs L ++ ks)

end Go.Proofs.YtiblelgfkakmiaaGreatDoor.Vc
/-
  The program's test of a complex, walked. Conditions: the library's table of powers of ten holds what the program's text lays there.
-/
namespace Go.Proofs.YtiblelgfkakmiaaGreatDoor.Vc
open Go.RowKit

end Go.Proofs.YtiblelgfkakmiaaGreatDoor.Vc
/-
  The walk of the law FnExactPartsOf: it returns true. Conditions: as it states them.
-/
namespace Go.Proofs.YtiblelgfkakmiaaGreatDoor.Vc
open Go.RowKit

end Go.Proofs.YtiblelgfkakmiaaGreatDoor.Vc
/-
  GirthOf on both sides, and the walk of its law. Conditions: the library's table of powers of ten holds what the program's text lays there.
-/
namespace Go.Proofs.YtiblelgfkakmiaaGreatDoor.Vc
open Go.RowKit

def encS (g : Int) : Int := if g = 0 then -1 else g
end Go.Proofs.YtiblelgfkakmiaaGreatDoor.Vc
/-
  The link of a face on both sides, walked. Conditions: as each states them.
-/
namespace Go.Proofs.YtiblelgfkakmiaaGreatDoor.Vc
open Go.RowKit

def Fce (F : List (List Int)) (face : List Int) : Prop := SA face ∧ (face = [] ∨ ∃ f ∈ F, Ins face f)
instance (F : List (List Int)) (face : List Int) : Decidable (Fce F face) := by unfold Fce; exact inferInstance
def lnkL (F : List (List Int)) (face : List Int) : List (List Int) := (F.filter fun f => decide (Ins face f)).map fun f => lessL f face
def lkV (V : Int) (F : List (List Int)) (face : List Int) : Int := if Cplx V F ∧ Fce F face then cxV (lnkL F face) else 0
def lkL (V : Int) (F : List (List Int)) (face : List Int) : List (List Int) := if Cplx V F ∧ Fce F face then cxL (lnkL F face) else []
def lkK (V : Int) (F : List (List Int)) (face : List Int) : Int := if Cplx V F then (if Fce F face then cxK (lnkL F face) else 2) else 1
end Go.Proofs.YtiblelgfkakmiaaGreatDoor.Vc
/-
  Plain mathematics of complexes: faces of deletions, links and skeletons, counted. Conditions: as each states them. No program in sight.
-/
namespace Go.Proofs.YtiblelgfkakmiaaGreatDoor.Vc

/-- so many faces with k elements -/
def nf (F : List (List Int)) (k : Nat) : Nat := (fcs F k).length
/-- the element at a place, 0 outside (the law's at9) -/
def at0 (f : List Int) (k : Int) : Int := if 0 ≤ k ∧ k < f.length then gi f k else 0
/-! a vertex left out -/
def delL (F : List (List Int)) (v : Int) : List (List Int) := F.map fun f => lessL f [v]
/-! skeletons -/
def sklL (F : List (List Int)) (k : Nat) : List (List Int) := F.flatMap fun f => ptsP f (min k f.length)
end Go.Proofs.YtiblelgfkakmiaaGreatDoor.Vc
/-
  A vertex left out of a complex, walked on both sides. Conditions: as each states them.
-/
namespace Go.Proofs.YtiblelgfkakmiaaGreatDoor.Vc
open Go.RowKit

def dlV (V : Int) (F : List (List Int)) (v : Int) : Int := if Cplx V F ∧ 0 ≤ v ∧ v < V then cxV (delL F v) else 0
def dlL (V : Int) (F : List (List Int)) (v : Int) : List (List Int) := if Cplx V F ∧ 0 ≤ v ∧ v < V then cxL (delL F v) else []
def dlK (V : Int) (F : List (List Int)) (v : Int) : Int := if Cplx V F then (if 0 ≤ v ∧ v < V then cxK (delL F v) else 2) else 1
end Go.Proofs.YtiblelgfkakmiaaGreatDoor.Vc
/-
  Skeletons of complexes, walked on both sides. Conditions: as each states them.
-/
namespace Go.Proofs.YtiblelgfkakmiaaGreatDoor.Vc
open Go.RowKit

def skV (V : Int) (F : List (List Int)) (k : Int) : Int := if Cplx V F ∧ 0 ≤ k ∧ k ≤ 6 then cxV (sklL F k.toNat) else 0
def skL (V : Int) (F : List (List Int)) (k : Int) : List (List Int) := if Cplx V F ∧ 0 ≤ k ∧ k ≤ 6 then cxL (sklL F k.toNat) else []
def skK (V : Int) (F : List (List Int)) (k : Int) : Int := if Cplx V F then (if 0 ≤ k ∧ k ≤ 6 then cxK (sklL F k.toNat) else 2) else 1
/-- rows that are read below a base or are one's own -/
structure RowsS (w : World) (ks : List Ck) (n : Nat) (rs : List SlV) (xss : List (List Int)) : Prop where
  rl : rs.length = n
  len : xss.length = n
  at_ : ∀ j, j < n → (RdI w (rs.getD j slNil).a (rs.getD j slNil).n (xss.getD j []) ∧ (rs.getD j slNil).n ≤ (rs.getD j slNil).c ∧ (rs.getD j slNil).c ≤ maxLen) ∨ CkI 2 (rs.getD j slNil).a (rs.getD j slNil).n (rs.getD j slNil).c (xss.getD j []) ∈ ks
end Go.Proofs.YtiblelgfkakmiaaGreatDoor.Vc
/-
  The complex of any lists, walked on both sides. Conditions: as each states them.
-/
namespace Go.Proofs.YtiblelgfkakmiaaGreatDoor.Vc
open Go.RowKit

def NegL (ls : List (List Int)) : Prop := ∃ l ∈ ls, ∃ x ∈ l, x < 0
instance (ls : List (List Int)) : Decidable (NegL ls) := by unfold NegL; exact inferInstance
def coV (ls : List (List Int)) : Int := if NegL ls then 0 else cxV (ls.map cs)
def coL (ls : List (List Int)) : List (List Int) := if NegL ls then [] else cxL (ls.map cs)
def coK (ls : List (List Int)) : Int := if NegL ls then 1 else cxK (ls.map cs)
end Go.Proofs.YtiblelgfkakmiaaGreatDoor.Vc
/-
  Plain mathematics: polynomials told by their coefficients, and what becomes of numbers of faces. Conditions: as each states them. No program in sight.
-/
namespace Go.Proofs.YtiblelgfkakmiaaGreatDoor.Vc

def sumN : Nat → (Nat → Int) → Int
  | 0, _ => 0
  | n + 1, g => sumN n g + g n
def pX (p : Nat → Int) : Nat → Int
  | 0 => 0
  | n + 1 => p n
def pD (p : Nat → Int) : Nat → Int := fun n => p n - pX p n
def p1 : Nat → Int := fun n => if n = 0 then 1 else 0
def pDn : Nat → Nat → Int
  | 0 => p1
  | m + 1 => pD (pDn m)
def pW : List Int → Nat → Nat → Int
  | [], _ => fun _ => 0
  | a :: r, m => fun n => a * pDn m n + pX (pW r (m - 1)) n
def conv (p q : Nat → Int) (n : Nat) : Int := sumN (n + 1) fun i => p i * q (n - i)
/-! lists of coefficients -/
def addL : List Int → List Int → List Int
  | [], g => g
  | f, [] => f
  | a :: f, b :: g => (a + b) :: addL f g
def cvl : List Int → List Int → List Int
  | [], _ => []
  | a :: r, g => addL (g.map (a * ·)) (0 :: cvl r g)
/-- the h-vector of an f-vector -/
def hP (f : List Int) : List Int := (List.range f.length).map (pW f (f.length - 1))
end Go.Proofs.YtiblelgfkakmiaaGreatDoor.Vc
/-
  Plain mathematics of complexes: the join of two, and its numbers of faces. Conditions: as each states them. No program in sight.
-/
namespace Go.Proofs.YtiblelgfkakmiaaGreatDoor.Vc

def jnL (V : Int) (F G : List (List Int)) : List (List Int) := F.flatMap fun a => G.map fun b => a ++ b.map (V + ·)
/-- the lists whose complex is the join -/
def jnS (V : Int) (F G : List (List Int)) : List (List Int) := if F = [] ∨ G = [] then F ++ G else jnL V F G
/-- the faces of a join, pair by pair -/
def jnF (V : Int) (F G : List (List Int)) (k : Nat) : List (List Int) := (List.range (k + 1)).flatMap fun i => (fcs F i).flatMap fun y => (fcs G (k - i)).map fun z => y ++ z.map (V + ·)
end Go.Proofs.YtiblelgfkakmiaaGreatDoor.Vc
/-
  Joins of complexes, walked in the program. Conditions: as each states them.
-/
namespace Go.Proofs.YtiblelgfkakmiaaGreatDoor.Vc
open Go.RowKit

def JnBig (F G : List (List Int)) : Prop := F ≠ [] ∧ G ≠ [] ∧ 400 < F.length * G.length
instance (F G : List (List Int)) : Decidable (JnBig F G) := by unfold JnBig; exact inferInstance
def jnV (V : Int) (F G : List (List Int)) : Int := if JnBig F G then 0 else cxV (jnS V F G)
def jnLs (V : Int) (F G : List (List Int)) : List (List Int) := if JnBig F G then [] else cxL (jnS V F G)
def jnK (V : Int) (F G : List (List Int)) : Int := if JnBig F G then 3 else cxK (jnS V F G)
/-- lists of a join, as they are met -/
def jnG (V : Int) (F G : List (List Int)) (i k : Nat) : List (List Int) := jnL V (F.take i) G ++ (G.take k).map fun b => gl F (i : Int) ++ b.map (V + ·)
end Go.Proofs.YtiblelgfkakmiaaGreatDoor.Vc
/-
  Joins of complexes, walked in the reference; and joins on both sides. Conditions: as each states them.
-/
namespace Go.Proofs.YtiblelgfkakmiaaGreatDoor.Vc
open Go.RowKit

end Go.Proofs.YtiblelgfkakmiaaGreatDoor.Vc
/-
  A complex drawn, walked. Conditions: as each states them.
-/
namespace Go.Proofs.YtiblelgfkakmiaaGreatDoor.Vc
open Go.RowKit

/-- a drawn complex, in memory of its own -/
def AnsDr (w0 : World) (ks : List Ck) (ix : Nat) (As : Option Addr) (v : Value) (w' : World) : Prop :=
  ∃ (V : Int) (F : List (List Int)) (A : Option Addr) (c : Nat) (rs : List SlV) (k' : Ck), v = .agg #[.int .i64 V, .slice A F.length c] ∧ Cplx V F ∧ rs.length = F.length ∧ srcK w0 As k' ∧ St w0 w' (mat 28 2 A F.length c rs F ++ ks.set ix k')

end Go.Proofs.YtiblelgfkakmiaaGreatDoor.Vc
/-
  What mostly is a complex, drawn; and lists drawn, walked. Conditions: as each states them.
-/
namespace Go.Proofs.YtiblelgfkakmiaaGreatDoor.Vc
open Go.RowKit

/-- something drawn that mostly is a complex, in memory of its own -/
def AnsAny (w0 : World) (ks : List Ck) (ix : Nat) (As : Option Addr) (v : Value) (w' : World) : Prop :=
  ∃ (V : Int) (n : Nat) (F : List (List Int)) (A : Option Addr) (c : Nat) (rs : List SlV) (k' : Ck), v = .agg #[.int .i64 V, .slice A n c] ∧ (-10 ≤ V ∧ V ≤ 200) ∧ n ≤ 401 ∧ rs.length = n ∧ F.length = n ∧ srcK w0 As k' ∧ St w0 w' (mat 28 2 A n c rs F ++ ks.set ix k')

end Go.Proofs.YtiblelgfkakmiaaGreatDoor.Vc
/-
  Helpers of the laws: big, likeInts, same9. Conditions: as each states them.
-/
namespace Go.Proofs.YtiblelgfkakmiaaGreatDoor.Vc
open Go.RowKit

end Go.Proofs.YtiblelgfkakmiaaGreatDoor.Vc
/-
  A statement's frame: the arguments opened, and what a walk gives told in the statement's own words. Conditions: as each states them.
-/
namespace Go.Proofs.YtiblelgfkakmiaaGreatDoor.Vc
open Go.RowKit Go.ChangeShapes Go.WideShapes

section
variable {H : Type} {enc : TypeId × Value → H} {P : Program}
end
end Go.Proofs.YtiblelgfkakmiaaGreatDoor.Vc
/-
  Arguments opened: a struct of one matrix, a list of integers. Conditions: as each states them.
-/
namespace Go.Proofs.YtiblelgfkakmiaaGreatDoor.Vc
open Go.RowKit Go.ChangeShapes Go.WideShapes

section
variable {H : Type} {enc : TypeId × Value → H} {P : Program}
end
end Go.Proofs.YtiblelgfkakmiaaGreatDoor.Vc
/-
  An argument that is a list of bytes, opened. Conditions: as stated.
-/
namespace Go.Proofs.YtiblelgfkakmiaaGreatDoor.Vc
open Go.RowKit Go.ChangeShapes Go.WideShapes
section
variable {H : Type} {enc : TypeId × Value → H} {P : Program}
end
end Go.Proofs.YtiblelgfkakmiaaGreatDoor.Vc
/-
  Lists drawn; helpers of the laws of complexes, walked. Conditions: as each states them.
-/
namespace Go.Proofs.YtiblelgfkakmiaaGreatDoor.Vc
open Go.RowKit

end Go.Proofs.YtiblelgfkakmiaaGreatDoor.Vc
/-
  The library's CompactFunc on rows of lists by their equality, walked. Conditions: that the lists can be read while the row is turned about.
-/
namespace Go.Proofs.YtiblelgfkakmiaaGreatDoor.Vc
open Go.RowKit

def kepC (xs : Nat → List Int) (n : Nat) : List Nat := (List.range n).filter fun j => decide (j = 0 ∨ xs j ≠ xs (j - 1))
end Go.Proofs.YtiblelgfkakmiaaGreatDoor.Vc
/-
  The faces with so many elements of a complex, walked in the program. Conditions: as each states them.
-/
namespace Go.Proofs.YtiblelgfkakmiaaGreatDoor.Vc
open Go.RowKit

/-! those that are kept of an ascending row -/
/-- parts of the first lists -/
def faG (F : List (List Int)) (k i : Nat) : List (List Int) := if k = 0 then [[]] else (F.take i).flatMap fun f => ptsP f k
end Go.Proofs.YtiblelgfkakmiaaGreatDoor.Vc
/-
  Numbers of faces, vectors and characteristics of complexes, walked in the program. Conditions: as each states them.
-/
namespace Go.Proofs.YtiblelgfkakmiaaGreatDoor.Vc
open Go.RowKit

/-- the numbers of faces with fewer than so many elements -/
def fvG (F : List (List Int)) (k : Nat) : List Int := (List.range k).map fun j => ((fcs F j).length : Int)
end Go.Proofs.YtiblelgfkakmiaaGreatDoor.Vc
/-
  Characteristics and h-vectors of complexes, walked in the program. Conditions: as each states them.
-/
namespace Go.Proofs.YtiblelgfkakmiaaGreatDoor.Vc
open Go.RowKit

/-- the terms of an alternating sum -/
def altT (f : List Int) (i : Nat) : Int := if i % 2 = 0 then gi f (i : Int) else -gi f (i : Int)
def altS (f : List Int) : Int := sumN f.length (altT f)
/-- binomials as the program counts them -/
def chz (m : Nat) : Nat → Int
  | 0 => 1
  | i + 1 => chz m i * ((m : Int) - i) / ((i : Int) + 1)
/-! h-vectors, term by term -/
def hvE (f : List Int) (d k i p : Nat) : Int := pW (f.take k) d p + (if k ≤ p ∧ p - k < i then gi f (k : Int) * pDn (d - k) (p - k) else 0)
def hvL (f : List Int) (d k i : Nat) : List Int := (List.range (d + 1)).map (hvE f d k i)
def hvV (V : Int) (F : List (List Int)) : List Int := if Cplx V F then hP (fvP F) else []
def hvK (V : Int) (F : List (List Int)) : Int := if Cplx V F then 0 else 1
end Go.Proofs.YtiblelgfkakmiaaGreatDoor.Vc
/-
  Joins of complexes and vectors, walked on both sides. Conditions: as each states them.
-/
namespace Go.Proofs.YtiblelgfkakmiaaGreatDoor.Vc
open Go.RowKit

def jcV (V : Int) (F : List (List Int)) (W : Int) (G : List (List Int)) : Int := if Cplx V F ∧ Cplx W G then jnV V F G else 0
def jcL (V : Int) (F : List (List Int)) (W : Int) (G : List (List Int)) : List (List Int) := if Cplx V F ∧ Cplx W G then jnLs V F G else []
def jcK (V : Int) (F : List (List Int)) (W : Int) (G : List (List Int)) : Int := if Cplx V F ∧ Cplx W G then jnK V F G else 1
/-! the reference's polynomial -/
def plH (f : List Int) (k : Nat) : List Int := (List.range k).map fun i => pW (f.take k) (k - 1) (k - 1 - i)
def nxE (p : List Int) (i j : Nat) : Int := (if 1 ≤ j ∧ j ≤ i then gi p ((j - 1 : Nat) : Int) else 0) - (if j < i then gi p (j : Int) else 0)
def nxL (p : List Int) (i : Nat) : List Int := (List.range (p.length + 1)).map (nxE p i)
end Go.Proofs.YtiblelgfkakmiaaGreatDoor.Vc
/-
  Draws of two complexes; products of polynomials and sums, walked. Conditions: as each states them.
-/
namespace Go.Proofs.YtiblelgfkakmiaaGreatDoor.Vc
open Go.RowKit

section
variable {P : Program} {N : Nat} {ops : Array Oper} {K : Env → World → Prop} {rest : List Oper} {e : Env} {w0 w w' : World} {ks : List Ck} {d : Nat} {ty : TypeId} {pos : String} {af : Array Edge}
/-- two results that lie in memory -/
def retcc (a n u m : Nat) (R : Value → World → Prop) : Post
  | .normal, e, w => ∃ A f B g, e a = .pointer A ∧ Rd w A n f ∧ e u = .pointer B ∧ Rd w B m g ∧ R (.tuple #[.agg ((List.range n).map f).toArray, .agg ((List.range m).map g).toArray]) w
  | .ret, e, w => ∃ A f B g, e a = .pointer A ∧ Rd w A n f ∧ e u = .pointer B ∧ Rd w B m g ∧ R (.tuple #[.agg ((List.range n).map f).toArray, .agg ((List.range m).map g).toArray]) w
  | _, _, _ => False
end

/-! sums and products -/
/-- the terms of a product, as they are met -/
def pdG (a b : List Int) (p i : Nat) : Int := a.getD i 0 * (if i ≤ p then b.getD (p - i) 0 else 0)
def pdE (a b : List Int) (i k p : Nat) : Int := sumN i (pdG a b p) + (if i ≤ p ∧ p - i < k then gi a (i : Int) * gi b ((p - i : Nat) : Int) else 0)
def pdL (a b : List Int) (i k : Nat) : List Int := (List.range (a.length + b.length - 1)).map (pdE a b i k)
end Go.Proofs.YtiblelgfkakmiaaGreatDoor.Vc
/-
  The walk of the law FnVectors: it returns true. Conditions: the library's table of powers of ten holds what the program's text lays there.
-/
namespace Go.Proofs.YtiblelgfkakmiaaGreatDoor.Vc
open Go.RowKit

end Go.Proofs.YtiblelgfkakmiaaGreatDoor.Vc
/-
  The capacity of a slice, and zeros appended to nothing. Conditions: as each rule names them.
-/
namespace Go.Proofs.YtiblelgfkakmiaaGreatDoor.Vc
open Go.RowKit

section
variable {P : Program} {N : Nat} {ops : Array Oper} {K : Env → World → Prop} {rest : List Oper} {e : Env} {w0 w w' : World} {ks : List Ck} {d : Nat} {ty : TypeId} {pos : String} {af : Array Edge}
end

end Go.Proofs.YtiblelgfkakmiaaGreatDoor.Vc
/-
  Plain mathematics: spans over two elements, as numbers under xor; a span has one rank. Conditions: none.
-/
namespace Go.Proofs.YtiblelgfkakmiaaGreatDoor.Vc

def sums : List Nat → List Nat
  | [] => [0]
  | b :: B => sums B ++ (sums B).map (b ^^^ ·)
def Eqs (B C : List Nat) : Prop := ∀ v, v ∈ sums B ↔ v ∈ sums C
/-- a list of numbers has the rank r -/
def IsRk (L : List Nat) (r : Nat) : Prop := ∃ B, B.length = r ∧ (sums B).Nodup ∧ Eqs L B
/-- rows in steps: each has a bit that those behind it lack -/
def Stp : List Nat → Prop
  | [] => True
  | b :: B => (∃ p, b.testBit p = true ∧ ∀ x ∈ B, x.testBit p = false) ∧ Stp B
/-- the greatest bit -/
def Top (v t : Nat) : Prop := v.testBit t = true ∧ ∀ j, t < j → v.testBit j = false
end Go.Proofs.YtiblelgfkakmiaaGreatDoor.Vc
/-
  Plain mathematics of complexes: pure ones, and the faces with one element less than facets. Conditions: as each states them. No program in sight.
-/
namespace Go.Proofs.YtiblelgfkakmiaaGreatDoor.Vc

def Pure (F : List (List Int)) : Prop := ∀ f ∈ F, f.length = dpt F
instance (F : List (List Int)) : Decidable (Pure F) := by unfold Pure; exact inferInstance
/-! faces told with the facets that have them, in the order in which they are met -/
def rdS (R : List (List Int × List Int)) (q : List Int × Int) : List (List Int × List Int) :=
  if q.1 ∈ R.map (·.1) then R.map fun p => if p.1 = q.1 then (p.1, p.2 ++ [q.2]) else p else R ++ [(q.1, [q.2])]
def rdF (Q : List (List Int × Int)) : List (List Int × List Int) := Q.foldl rdS []
/-- the faces met, with the facets' numbers -/
def sqR (F : List (List Int)) (i : Nat) : List (List Int × Int) := (List.range i).flatMap fun k : Nat => (ptsP (gl F (k : Int)) ((gl F (k : Int)).length - 1)).map fun x => (x, (k : Int))
def sqJ (F : List (List Int)) (i j : Nat) : List (List Int × Int) := sqR F i ++ ((ptsP (gl F (i : Int)) ((gl F (i : Int)).length - 1)).take j).map fun x => (x, (i : Int))
def rdgs (F : List (List Int)) : List (List Int × List Int) := rdF (sqR F F.length)
/-- the numbers of the facets that have a list -/
def hasI (F : List (List Int)) (x : List Int) : List Int := ((List.range F.length).filter fun k : Nat => decide (Ins x (gl F (k : Int)))).map fun k : Nat => (k : Int)
/-- the lists whose complex is the boundary -/
def bdS (F : List (List Int)) : List (List Int) := (fcs F (dpt F - 1)).filter fun x => decide ((hasI F x).length % 2 = 1)
def bdR (F : List (List Int)) : List (List Int) := ((rdgs F).filter fun p => decide (p.2.length % 2 = 1)).map (·.1)
end Go.Proofs.YtiblelgfkakmiaaGreatDoor.Vc
/-
  Plain mathematics: lists of numbers as sets modulo two, boundaries of faces, their matrix. Conditions: none.
-/
namespace Go.Proofs.YtiblelgfkakmiaaGreatDoor.Vc

def mkb (l : List Int) : Nat := l.foldr (fun e a => 2 ^ e.toNat ^^^ a) 0
def odS (out : List Int) (e : Int) : List Int := if out.getLast? = some e then out.dropLast else out ++ [e]
def oddP (l : List Int) : List Int := l.foldl odS []
/-- a set of numbers: ascending, not negative -/
def OkX (x : List Int) : Prop := SA x ∧ ∀ e ∈ x, 0 ≤ e
/-- a step of the reduction -/
def stX (x y : List Int) : List Int := oddP (srt (x ++ y))
/-- the numbers of faces -/
def numF (G : List (List Int)) : List (ByteArray × Int) := (List.range G.length).map fun (i : Nat) => (keyB (gl G (i : Int)), (i : Int))
/-- a face's number -/
def nmb (G : List (List Int)) (x : List Int) : Int := (getA (numF G) (keyB x)).getD 0
/-- a boundary's numbers -/
def bdN (G : List (List Int)) (x : List Int) : List Int := (ptsP x (x.length - 1)).map (nmb G)
/-- the matrix' row of a face -/
def rwB (G : List (List Int)) (x : List Int) : List Int := G.map fun y => if Ins y x then 1 else 0
def rowM : List Int → Nat
  | [] => 0
  | a :: l => (if a = 1 then 1 else 0) + 2 * rowM l
end Go.Proofs.YtiblelgfkakmiaaGreatDoor.Vc
/-
  Lists modulo two and lists joined, walked. Conditions: as each states them.
-/
namespace Go.Proofs.YtiblelgfkakmiaaGreatDoor.Vc
open Go.RowKit

end Go.Proofs.YtiblelgfkakmiaaGreatDoor.Vc
/-
  A chain's boundary made small, walked. Conditions: as each states them.
-/
namespace Go.Proofs.YtiblelgfkakmiaaGreatDoor.Vc
open Go.RowKit

section
variable {P : Program} {N : Nat} {ops : Array Oper} {K : Env → World → Prop} {rest : List Oper} {e : Env} {w0 w w' : World} {ks : List Ck} {d : Nat} {ty : TypeId} {pos : String} {af : Array Edge}
end

abbrev KE := Int × (SlV × List Int)
def redV (u : SlV × List Int) : Value := .agg #[.slice none 0 0, .slice u.1.a u.1.n u.1.c]
/-- a kept set: its greatest number is its key -/
def KpE (b : Nat) (p : KE) : Prop := (OkX p.2.2 ∧ ∀ e ∈ p.2.2, e < b) ∧ p.2.2.getLast? = some p.1
def spK (M : List KE) : List Nat := M.map fun p => mkb p.2.2
def muX (x : List Int) : Nat := match x.getLast? with | some t => t.toNat + 1 | none => 0
abbrev bxR (A : Option Addr) (s : SlV) : Ck := Bx 111 2 A [.slice none 0 0, .slice s.a s.n s.c]
end Go.Proofs.YtiblelgfkakmiaaGreatDoor.Vc
/-
  The rank of faces' boundaries, walked in the program. Conditions: as each states them.
-/
namespace Go.Proofs.YtiblelgfkakmiaaGreatDoor.Vc
open Go.RowKit

section
variable {P : Program} {N : Nat} {ops : Array Oper} {K : Env → World → Prop} {rest : List Oper} {e : Env} {w0 w w' : World} {ks : List Ck} {d : Nat} {ty : TypeId} {pos : String} {af : Array Edge}
end

/-- the matrix of the faces with so many elements and those with one more -/
def matF (F : List (List Int)) (k : Nat) : List Nat := (fcs F (k + 1)).map fun x => rowM (rwB (fcs F k) x)
abbrev stK (g2 g1 : Nat) (M : List KE) (G : List (List Int)) (Y : List Ck) : List Ck := CkM 109 g2 (prV (Value.int .i64) redV M) :: CkM 95 g1 (prV Value.string (Value.int .i64) (numF G)) :: Y

end Go.Proofs.YtiblelgfkakmiaaGreatDoor.Vc
/-
  Rows of pointers, and pointers compared with none. Conditions: as each rule names them.
-/
namespace Go.Proofs.YtiblelgfkakmiaaGreatDoor.Vc
open Go.RowKit

section
variable {P : Program} {N : Nat} {ops : Array Oper} {K : Env → World → Prop} {rest : List Oper} {e : Env} {w0 w w' : World} {ks : List Ck} {d : Nat} {ty : TypeId} {pos : String} {af : Array Edge}
end

/-- a row of pointers -/
abbrev CkP (t : TypeId) (A : Option Addr) (n c : Nat) (ps : List (Option Addr)) : Ck := ⟨A, n, c, t, ps.map Value.pointer⟩
def RdP (w : World) (A : Option Addr) (n : Nat) (ps : List (Option Addr)) : Prop := ps.length = n ∧ Rd w A n fun j => .pointer (ps.getD j none)
section
variable {P : Program} {N : Nat} {ops : Array Oper} {K : Env → World → Prop} {rest : List Oper} {e : Env} {w0 w w' : World} {ks : List Ck} {d : Nat} {ty : TypeId} {pos : String} {af : Array Edge}
end
end Go.Proofs.YtiblelgfkakmiaaGreatDoor.Vc
/-
  The faces with one element less than facets, walked in the program. Conditions: as each states them.
-/
namespace Go.Proofs.YtiblelgfkakmiaaGreatDoor.Vc
open Go.RowKit

/-- a ridge in memory: its box, its face, its facets -/
structure RV where
  P : Option Addr
  s : SlV
  x : List Int
  B : Option Addr
  c : Nat
  ns : List Int
def RV.pr (r : RV) : List Int × List Int := (r.x, r.ns)
def RV.bx (r : RV) : Ck := Bx 57 2 r.P [.slice r.s.a r.s.n r.s.c, .slice r.B r.ns.length r.c]
def RV.fa (r : RV) : Ck := CkI 2 r.B r.ns.length r.c r.ns
def RV.ck (r : RV) : List Ck := [r.bx, r.fa]
def RV.row (r : RV) : Ck := CkI 2 r.s.a r.s.n r.s.c r.x
def mpR (rvs : List RV) : List (ByteArray × Option Addr) := rvs.map fun r => (keyB r.x, r.P)
abbrev cksR (A : Option Addr) (c g : Nat) (rvs : List RV) (X : List Ck) : List Ck := CkP 55 A rvs.length c (rvs.map (·.P)) :: CkM 86 g (prV Value.string Value.pointer (mpR rvs)) :: (rvs.flatMap RV.ck ++ X)
/-- ridges in memory -/
def AnsR4 (R : List (List Int × List Int)) (w : World) (v : Value) (w' : World) : Prop := ∃ (A : Option Addr) (c : Nat) (rvs : List RV) (X : List Ck), v = .slice A rvs.length c ∧ rvs.map RV.pr = R ∧ (∀ r ∈ rvs, r.row ∈ X) ∧ St w w' (CkP 55 A rvs.length c (rvs.map (·.P)) :: (rvs.flatMap RV.ck ++ X))

end Go.Proofs.YtiblelgfkakmiaaGreatDoor.Vc
/-
  A statement whose order Go leaves open, by a property of what is done so far. Conditions: as the rule names them.
-/
namespace Go.Proofs.YtiblelgfkakmiaaGreatDoor.Vc
open Go.RowKit

/-- the order of the text is one of the orders -/
def backB (l : List Oper) : Bool := l.zipIdx.all fun p => (aft p.1).all fun ed => Nat.blt ed.on p.2
section
variable {P : Program} {N : Nat} {e : Env} {w : World}
end
end Go.Proofs.YtiblelgfkakmiaaGreatDoor.Vc
/-
  Boundaries of complexes, walked on both sides. Conditions: as each states them.
-/
namespace Go.Proofs.YtiblelgfkakmiaaGreatDoor.Vc
open Go.RowKit

/-! pure complexes -/
/-! the reference's ridges -/
def cntI (F : List (List Int)) (x : List Int) (i : Nat) : Nat := ((List.range i).filter fun k : Nat => decide (Ins x (gl F (k : Int)))).length
/-- counts of the first ridges, the next one's begun -/
def cnE (F D : List (List Int)) (r i q : Nat) : Int := if q < r then ((cntI F (gl D (q : Int)) F.length : Nat) : Int) else if q = r then ((cntI F (gl D (q : Int)) i : Nat) : Int) else 0
def cnL (F D : List (List Int)) (r i : Nat) : List Int := (List.range D.length).map (cnE F D r i)
/-- ridges and their counts, in memory of their own -/
def AnsRC (D : List (List Int)) (L : List Int) (w : World) (v : Value) (w' : World) : Prop := ∃ A c rs B d, v = .tuple #[.slice A D.length c, .slice B D.length d] ∧ rs.length = D.length ∧ St w w' (CkI 2 B D.length d L :: (mat 28 2 A D.length c rs D ++ []))
end Go.Proofs.YtiblelgfkakmiaaGreatDoor.Vc
/-
  Eulerian complexes: the program's test, walked. Conditions: as each states them.
-/
namespace Go.Proofs.YtiblelgfkakmiaaGreatDoor.Vc
open Go.RowKit

def evP : List (List Int × Int) → List Int → Int
  | [], _ => 0
  | q :: r, x => (if q.1 = x then q.2 else 0) + evP r x
def sgE (n k : Nat) : Int := if ((n : Int) - (k : Int)) % 2 = 1 then 1 else -1
def qD (x : List Int) (n k j : Nat) : List (List Int × Int) := ((ptsP x k).take j).map fun p => (p, sgE n k)
def qC (x : List Int) (n k : Nat) : List (List Int × Int) := (List.range k).flatMap fun k' => qD x n k' (ptsP x k').length
def qB (F : List (List Int)) (n i : Nat) : List (List Int × Int) := ((fcs F n).take i).flatMap fun x => qC x n n
def qA (F : List (List Int)) (n : Nat) : List (List Int × Int) := (List.range n).flatMap fun n' => qB F n' (fcs F n').length
/-- the map's sums -/
def MpE (L : List (ByteArray × Int)) (Q : List (List Int × Int)) : Prop := ∀ x, (getA L (keyB x)).getD 0 = evP Q x
def elT (d k : Nat) : Int := 2 * (((d : Int) - (k : Int)) % 2)
/-- what the program tests -/
def EulI (F : List (List Int)) : Prop := Pure F ∧ ∀ k, k < dpt F → ∀ x ∈ fcs F k, evP (qA F (dpt F + 1)) x = elT (dpt F) k
instance (F : List (List Int)) : Decidable (EulI F) := by unfold EulI; exact inferInstance

abbrev cmE (g : Nat) (L : List (ByteArray × Int)) : Ck := CkM 95 g (prV Value.string (Value.int .i64) L)

end Go.Proofs.YtiblelgfkakmiaaGreatDoor.Vc
/-
  Eulerian complexes: both sides' functions, walked. Conditions: as each states them.
-/
namespace Go.Proofs.YtiblelgfkakmiaaGreatDoor.Vc
open Go.RowKit

def ieB (V : Int) (F : List (List Int)) : Bool := decide (Cplx V F ∧ EulI F)
/-- what the reference tests -/
def EulS (F : List (List Int)) : Prop := Pure F ∧ ∀ k, k < dpt F + 1 → ∀ x ∈ fcs F k, altS ((fvP (cxL (lnkL F x))).drop 1) = elT (dpt F) k
instance (F : List (List Int)) : Decidable (EulS F) := by unfold EulS; exact inferInstance
def seB (V : Int) (F : List (List Int)) : Bool := decide (Cplx V F ∧ EulS F)
end Go.Proofs.YtiblelgfkakmiaaGreatDoor.Vc
/-
  Plain mathematics: what both sides test of Eulerian complexes is one. Conditions: none.
-/
namespace Go.Proofs.YtiblelgfkakmiaaGreatDoor.Vc

def sgn (n : Nat) : Int := if n % 2 = 0 then 1 else -1
/-- the faces of a size above one -/
def upF (F : List (List Int)) (x : List Int) (n : Nat) : Nat := ((fcs F n).filter fun y => decide (Ins x y)).length
/-- the signed number of all faces above one -/
def eF (F : List (List Int)) (x : List Int) : Int := sumN (dpt F + 1) fun n => sgn n * (upF F x n : Int)
/-- an Eulerian complex -/
def Eul (F : List (List Int)) : Prop := Pure F ∧ ∀ k, k ≤ dpt F → ∀ x ∈ fcs F k, eF F x = sgn (dpt F)
end Go.Proofs.YtiblelgfkakmiaaGreatDoor.Vc
/-
  Plain mathematics: links of Eulerian complexes. Conditions: none.
-/
namespace Go.Proofs.YtiblelgfkakmiaaGreatDoor.Vc

end Go.Proofs.YtiblelgfkakmiaaGreatDoor.Vc
/-
  Plain mathematics: the h-vector of an Eulerian complex is the same from both ends. Conditions: none.
-/
namespace Go.Proofs.YtiblelgfkakmiaaGreatDoor.Vc

def sumL {α : Type} (g : α → Int) : List α → Int
  | [] => 0
  | a :: r => g a + sumL g r
/-- numbers of parts -/
def bnN : Nat → Nat → Nat
  | _, 0 => 1
  | 0, _ + 1 => 0
  | n + 1, k + 1 => bnN n k + bnN n (k + 1)
/-! no boundary -/
end Go.Proofs.YtiblelgfkakmiaaGreatDoor.Vc
/-
  Cut vertices on both sides. Conditions: as each states them.
-/
namespace Go.Proofs.YtiblelgfkakmiaaGreatDoor.Vc
open Go.RowKit

def sn (l : List Int) : List Bool := l.map fun y => decide (0 ≤ y)
/-! what is left out is never reached; a vertex besides is missed just where the list is short -/
def oth (v : Nat) : Int := if v = 0 then 1 else 0
def isCut (next : List (List Int)) (N v : Nat) : Prop := oth v < N ∧ ((distP next (v : Int) (oth v)).2.length : Int) < (N : Int) - 1
instance (next : List (List Int)) (N v : Nat) : Decidable (isCut next N v) := by unfold isCut; exact inferInstance
def cutL (next : List (List Int)) (N : Nat) : Nat → List Int
  | 0 => []
  | v + 1 => if isCut next N v then cutL next N v ++ [(v : Int)] else cutL next N v
def cvL (xss : List (List Int)) : List Int := if Grph xss then cutL (nbL xss) (vertsN xss) (vertsN xss) else []
def missB (far : List Int) (v : Nat) : Nat → Bool
  | 0 => false
  | u + 1 => if missB far v u = true then true else if ¬ (u : Int) = (v : Int) then decide (gi far (u : Int) < 0) else false
end Go.Proofs.YtiblelgfkakmiaaGreatDoor.Vc
/-
  Plain mathematics: the elimination over two elements. Conditions: none.
-/
namespace Go.Proofs.YtiblelgfkakmiaaGreatDoor.Vc

/-- a row added to another from a place on, up to another place -/
def adR (x y : List Int) (c k : Nat) : List Int := (List.range x.length).map fun j => if c ≤ j ∧ j < k then (gi x (j : Int) + gi y (j : Int)) % 2 else gi x (j : Int)
def Bin (m : Nat) (x : List Int) : Prop := x.length = m ∧ ∀ e ∈ x, e = 0 ∨ e = 1
/-- two rows exchanged -/
def sw2 {α : Type} (z : α) (M : List α) (r k : Nat) : List α := (M.set r (M.getD k z)).set k (M.getD r z)
/-- what holds between the columns -/
structure GI (M0 M : List (List Int)) (m rank c : Nat) : Prop where
  len : M.length = M0.length
  row : ∀ x ∈ M, Bin m x
  spn : Eqs (M0.map rowM) (M.map rowM)
  stp : ∀ i, i < rank → ∃ p, (rowM (gl M (i : Int))).testBit p = true ∧ ∀ j, i < j → j < M.length → (rowM (gl M (j : Int))).testBit p = false
  zer : ∀ j, rank ≤ j → j < M.length → ∀ p, p < c → (rowM (gl M (j : Int))).testBit p = false
  rle : rank ≤ M.length
end Go.Proofs.YtiblelgfkakmiaaGreatDoor.Vc
/-
  The reference's matrix of faces and its elimination, walked. Conditions: as each states them.
-/
namespace Go.Proofs.YtiblelgfkakmiaaGreatDoor.Vc
open Go.RowKit

/-- a row of the matrix, as far as it is told -/
def rwK (G : List (List Int)) (x : List Int) (k : Nat) : List Int := (List.range G.length).map fun (j : Nat) => if j < k ∧ Ins (gl G (j : Int)) x then 1 else 0
end Go.Proofs.YtiblelgfkakmiaaGreatDoor.Vc
/-
  The reference's elimination, walked. Conditions: as each states them.
-/
namespace Go.Proofs.YtiblelgfkakmiaaGreatDoor.Vc
open Go.RowKit

end Go.Proofs.YtiblelgfkakmiaaGreatDoor.Vc
/-
  Plain mathematics: pseudomanifolds, neighbours of facets. Conditions: none.
-/
namespace Go.Proofs.YtiblelgfkakmiaaGreatDoor.Vc

/-- a ridge's two facets made neighbours -/
def nxA (N : List (List Int)) (a b : Int) : List (List Int) := N.set a.toNat (gl N a ++ [b])
def nbS (N : List (List Int)) (p : List Int × List Int) : List (List Int) := nxA (nxA N (gi p.2 0) (gi p.2 1)) (gi p.2 1) (gi p.2 0)
def nbR (n : Nat) (R : List (List Int × List Int)) : List (List Int) := R.foldl nbS (List.replicate n [])
/-- what the neighbours are -/
structure NX (n : Nat) (R : List (List Int × List Int)) (N : List (List Int)) : Prop where
  len : N.length = n
  adj : ∀ u v : Nat, u < n → ((v : Int) ∈ gl N (u : Int) ↔ ∃ p ∈ R, p.2 = [(u : Int), (v : Int)] ∨ p.2 = [(v : Int), (u : Int)])
  rng : ∀ u : Nat, u < n → ∀ x ∈ gl N (u : Int), 0 ≤ x ∧ x < n
  cnt : ∀ u : Nat, u < n → (gl N (u : Int)).length ≤ (R.filter fun p => decide ((u : Int) ∈ p.2)).length
/-- lists' neighbours: all but one element in common -/
def AdF (F : List (List Int)) (i j : Nat) : Prop := (lessL (gl F (j : Int)) (gl F (i : Int))).length = 1
inductive RchF (F : List (List Int)) : Nat → Prop
  | zero : RchF F 0
  | step {i j : Nat} : RchF F i → i < F.length → j < F.length → AdF F i j → RchF F j
def TwoR (F : List (List Int)) : Prop := ∀ p ∈ rdgs F, p.2.length = 2
end Go.Proofs.YtiblelgfkakmiaaGreatDoor.Vc
/-
  Plain mathematics: the program's graph of facets joins those that the reference joins. Conditions: none.
-/
namespace Go.Proofs.YtiblelgfkakmiaaGreatDoor.Vc

end Go.Proofs.YtiblelgfkakmiaaGreatDoor.Vc
/-
  The boundary of a complex, walked on both sides. Conditions: as each states them.
-/
namespace Go.Proofs.YtiblelgfkakmiaaGreatDoor.Vc
open Go.RowKit

def bdV (V : Int) (F : List (List Int)) : Int := if Cplx V F ∧ Pure F then cxV (bdS F) else 0
def bdL (V : Int) (F : List (List Int)) : List (List Int) := if Cplx V F ∧ Pure F then cxL (bdS F) else []
def bdK (V : Int) (F : List (List Int)) : Int := if Cplx V F then (if Pure F then cxK (bdS F) else 5) else 1
def rvO (rvs : List RV) : List RV := rvs.filter fun r => decide (r.ns.length % 2 = 1)
/-- odd ridges of the first ones -/
def odG (F D : List (List Int)) (r : Nat) : List Nat := (List.range r).filter fun q : Nat => decide ((hasI F (gl D (q : Int))).length % 2 = 1)
end Go.Proofs.YtiblelgfkakmiaaGreatDoor.Vc
/-
  Pseudomanifolds: the program's test, walked. Conditions: as each states them.
-/
namespace Go.Proofs.YtiblelgfkakmiaaGreatDoor.Vc
open Go.RowKit

/-- what a pseudomanifold is -/
def PsM (F : List (List Int)) : Prop := F ≠ [] ∧ Pure F ∧ TwoR F ∧ ∀ k, k < F.length → RchF F k
end Go.Proofs.YtiblelgfkakmiaaGreatDoor.Vc
/-
  Pseudomanifolds on both sides. Conditions: as each states them.
-/
namespace Go.Proofs.YtiblelgfkakmiaaGreatDoor.Vc
open Go.RowKit

/-- who is met -/
def meQ (n : Nat) (Q : List Nat) : List Bool := (List.range n).map fun k => decide (k ∈ Q)
def inQ (Q : List Nat) : List Int := Q.map fun (k : Nat) => (k : Int)
/-- what holds of the queue -/
structure PsQ (F : List (List Int)) (i : Nat) (Q : List Nat) : Prop where
  nd : Q.Nodup
  lt : ∀ q ∈ Q, q < F.length
  rch : ∀ q ∈ Q, RchF F q
  zero : 0 ∈ Q
  cl : ∀ j, j < i → ∀ k, k < F.length → AdF F (Q.getD j 0) k → k ∈ Q
  le : i ≤ Q.length
end Go.Proofs.YtiblelgfkakmiaaGreatDoor.Vc
/-
  Eulerian complexes: the reference's test, walked. Conditions: as it states them.
-/
namespace Go.Proofs.YtiblelgfkakmiaaGreatDoor.Vc
open Go.RowKit

end Go.Proofs.YtiblelgfkakmiaaGreatDoor.Vc
/-
  Plain mathematics: links of faces of Eulerian complexes are Eulerian. Conditions: none.
-/
namespace Go.Proofs.YtiblelgfkakmiaaGreatDoor.Vc

end Go.Proofs.YtiblelgfkakmiaaGreatDoor.Vc
/-
  Suspensions, walked on both sides. Conditions: as each states them.
-/
namespace Go.Proofs.YtiblelgfkakmiaaGreatDoor.Vc
open Go.RowKit

def suV (V : Int) (F : List (List Int)) : Int := if Cplx V F then jnV V F [[0], [1]] else 0
def suL (V : Int) (F : List (List Int)) : List (List Int) := if Cplx V F then jnLs V F [[0], [1]] else []
def suK (V : Int) (F : List (List Int)) : Int := if Cplx V F then jnK V F [[0], [1]] else 1
end Go.Proofs.YtiblelgfkakmiaaGreatDoor.Vc
/-
  Plain mathematics: joins of Eulerian complexes are Eulerian, and so suspensions. Conditions: none.
-/
namespace Go.Proofs.YtiblelgfkakmiaaGreatDoor.Vc

end Go.Proofs.YtiblelgfkakmiaaGreatDoor.Vc
/-
  The laws' marks over lists of lists, told exactly. Conditions: as each states them.
-/
namespace Go.Proofs.YtiblelgfkakmiaaGreatDoor.Vc
open Go.RowKit

def tot (xss : List (List Int)) : Int := ((xss.map List.length).sum : Nat)
def mkSS (k : Int) : List (List Int) → List (List Int)
  | [] => []
  | x :: xs => marks k x.length :: mkSS (k + x.length) xs
def mixM (k : Int) (xs : List (List Int)) (i : Nat) : List (List Int) := mkSS k (xs.take i) ++ xs.drop i
end Go.Proofs.YtiblelgfkakmiaaGreatDoor.Vc
/-
  What laws do to complexes: measured, copied, compared, marked. Conditions: as each states them.
-/
namespace Go.Proofs.YtiblelgfkakmiaaGreatDoor.Vc
open Go.RowKit Go.ChangeShapes Go.WideShapes

section
variable {H : Type} {enc : TypeId × Value → H} {P : Program}
end

end Go.Proofs.YtiblelgfkakmiaaGreatDoor.Vc
/-
  The walk of the law FnExactLinkOf: it returns true. Conditions: the library's table of powers of ten holds what the program's text lays there.
-/
namespace Go.Proofs.YtiblelgfkakmiaaGreatDoor.Vc
open Go.RowKit

end Go.Proofs.YtiblelgfkakmiaaGreatDoor.Vc
/-
  The walk of the law FnExactBoundaryOf: it returns true. Conditions: the library's table of powers of ten holds what the program's text lays there.
-/
namespace Go.Proofs.YtiblelgfkakmiaaGreatDoor.Vc
open Go.RowKit

end Go.Proofs.YtiblelgfkakmiaaGreatDoor.Vc
/-
  The walk of the law FnEulerian (it returns true). Conditions: the library's table of powers of ten holds what the program's text lays there.
-/
namespace Go.Proofs.YtiblelgfkakmiaaGreatDoor.Vc
open Go.RowKit

/-- how far the last open statement is -/
def LkI (w17 : World) (As A3 : Option Addr) (V : Int) (A : Option Addr) (n c : Nat) (F : List (List Int)) (a : Option Addr) (ln cp : Nat) (f : List Int) (Ac : Option Addr) (nc cc : Nat) (S : Nat → Bool) (e : Env) (w : World) : Prop :=
  e 0 = .slice Ac nc cc ∧ e 3 = .pointer A3 ∧ e 18 = .int .i64 (suK V F) ∧ e 21 = .pointer As ∧ e 22 = .slice a ln cp ∧
  (S 0 = true → e 153 = .agg #[.int .i64 V, .slice A n c]) ∧ (S 1 = true → e 154 = .slice a ln cp) ∧ (S 2 = true → e 155 = .pointer As) ∧ (S 3 = true → e 156 = .slice a ln cp) ∧ (S 4 = true → e 157 = .int .i64 (ln : Int)) ∧ (S 5 = true → e 158 = .int .i64 ((ln : Int) + 1)) ∧
  ∃ (m : Nat) (A23 D : Option Addr) (d : Nat) (ts : List SlV) (k3 : Ck) (bsB bsL : List Ck), m ≤ ln ∧ (S 6 = true → e 159 = .int .i64 (m : Int)) ∧ (S 7 = true → e 160 = .slice a m cp) ∧
   (S 8 = false → bsL = []) ∧ (S 8 = true → bsL = mat 28 2 D (lkL V F (f.take m)).length d ts (lkL V F (f.take m)) ++ [] ∧ e 161 = .tuple #[.agg #[.int .i64 (lkV V F (f.take m)), .slice D (lkL V F (f.take m)).length d], .int .i64 (lkK V F (f.take m))]) ∧
   (S 9 = true → e 152 = .tuple #[.agg #[.int .i64 (lkV V F (f.take m)), .slice D (lkL V F (f.take m)).length d], .int .i64 (lkK V F (f.take m))]) ∧
   (S 10 = true → e 162 = .agg #[.int .i64 (lkV V F (f.take m)), .slice D (lkL V F (f.take m)).length d]) ∧ (S 11 = true → e 163 = .int .i64 (lkK V F (f.take m))) ∧
   (S 12 = false → bsB = []) ∧ (S 12 = true → e 23 = .pointer A23) ∧ (S 12 = true → S 13 = false → bsB = [cxZ A23]) ∧ (S 13 = true → bsB = [cxB A23 (lkV V F (f.take m)) D (lkL V F (f.take m)).length d]) ∧
   (S 14 = true → e 24 = .int .i64 (lkK V F (f.take m))) ∧ dicK w17 As k3 ∧ St w17 w (bsB ++ (bsL ++ [k3]))
end Go.Proofs.YtiblelgfkakmiaaGreatDoor.Vc
