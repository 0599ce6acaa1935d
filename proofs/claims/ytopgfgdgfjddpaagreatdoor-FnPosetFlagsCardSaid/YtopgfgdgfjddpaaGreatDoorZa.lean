/-
  The texts Vc, Ops, Go, Mem, Mop, Draw, App, Drw, Cpy, Mat in one. Conditions: as each part states them.
-/
import Derived.WalkKit
import Derived.Deep.Quiet
import Derived.Deep.LoopGhost
import Derived.Below
import Derived.Sort.Grow
import Derived.Deep.OwnRows
import Derived.Laws.IdiomCopy
import Derived.Shelf.Bits.Mul64
/-
 A small calculus over the model's own weakest preconditions: the frame's slots as a function, one rule an operation. Conditions: none; plain theorems, nothing of a program in sight.
-/
namespace Go.Proofs.YtopgfgdgfjddpaaGreatDoor.Vc
open Go.RowKit
abbrev Env := Nat → Value
def upd (e : Env) (d : Nat) (v : Value) : Env := fun i => bif Nat.beq i d then v else e i
def ev (e : Env) : Operand → Value
 | .tmp t => e t
 | .const v => v
 | .global g => .pointer (some ⟨g, 0, none⟩)
 | .func f => .func (.func f) #[] #[]
structure Rep (N : Nat) (a : Act) (e : Env) : Prop where
 defers : a.defers = []
 size : a.tmps.size = N
 get : ∀ i, a.tmps.getD i undef = e i
theorem O {α : Sort _} {a : α} : a = a := rfl
theorem Rep.eval {N : Nat} {a : Act} {e : Env} (h : Rep N a e) : a.eval = ev e := by
 funext x
 cases x with
 | tmp t => exact h.get t
 | const v => rfl
 | global g => rfl
 | func f => rfl
theorem Rep.put {N : Nat} {a : Act} {e : Env} (h : Rep N a e) {d : Nat} (hd : Nat.blt d N = true) (v : Value) : Rep N (a.put (some d) v) (upd e d v) := by
 have hd' : d < a.tmps.size := by rw [h.size]; simpa [Nat.blt_eq] using hd
 refine ⟨h.defers, by simp [Act.put, h.size], fun i => ?_⟩
 simp only [Act.put, upd]
 rw [Array.getD_eq_getD_getElem?, Array.getElem?_setIfInBounds]
 by_cases e1 : d = i
 ·subst e1
  simp [hd']
 ·have e2 : Nat.beq i d = false := by
   cases hb : Nat.beq i d with
   | false => rfl
   | true => exact absurd (Nat.eq_of_beq_eq_true hb).symm e1
  rw [if_neg e1, e2, ← Array.getD_eq_getD_getElem?, h.get]
  rfl
abbrev Post := Exit → Env → World → Prop
def low (N : Nat) (Q : Post) : Exit → Act → World → Prop := fun x a w => ∃ e, Rep N a e ∧ Q x e w
structure Cd (P : Program) (N : Nat) (c : Code) (Q : Post) (e : Env) (w : World) : Prop where
 mk' ::
 run : ∀ a, Rep N a e → c.wp P (low N Q) a w
structure Ops (P : Program) (N : Nat) (ops : Array Oper) (K : Env → World → Prop) (l : List Oper) (e : Env) (w : World) : Prop where
 mk' ::
 run : ∀ a, Rep N a e → wpList P ops (fun x a w => x = .normal ∧ ∃ e, Rep N a e ∧ K e w) l a w
section
variable {P : Program} {N : Nat} {Q : Post} {e : Env} {w : World}
def thenQ (K : Env → World → Prop) (Q : Post) : Post
 | .normal, e, w => K e w
 | x, e, w => Q x e w
def blockQ (id : Nat) (Q : Post) : Post
 | .exit id', e, w => if id' = id then Q .normal e w else Q (.exit id') e w
 | x, e, w => Q x e w
theorem Cd.mono {c : Code} {Q' : Post} (hq : ∀ x e w, Q x e w → Q' x e w) (h : Cd P N c Q e w) : Cd P N c Q' e w :=
 .mk' fun a ha => wp_mono (h.run a ha) fun _ _ _ ⟨e, he, q⟩ => ⟨e, he, hq _ _ _ q⟩
theorem Cd.seq {x y : Code} (h : Cd P N x (thenQ (Cd P N y Q) Q) e w) : Cd P N (.seq x y) Q e w := .mk' fun a ha =>
 wp_seq (wp_mono (h.run a ha) fun ex a' w' ⟨e', he', q⟩ => by
  cases ex <;> first | exact q.run a' he' | exact ⟨e', he', q⟩)
theorem Cd.skip (h : Q .normal e w) : Cd P N .skip Q e w := .mk' fun a ha => wp_skip ⟨e, ha, h⟩
theorem Cd.ret (h : Q .ret e w) : Cd P N .ret Q e w := .mk' fun a ha => wp_ret ⟨e, ha, h⟩
theorem Cd.exit {id : Nat} (h : Q (.exit id) e w) : Cd P N (.exit id) Q e w := .mk' fun a ha => wp_exit ⟨e, ha, h⟩
theorem Cd.block {id : Nat} {c : Code} (h : Cd P N c (blockQ id Q) e w) : Cd P N (.block id c) Q e w := .mk' fun a ha =>
  wp_block (wp_mono (h.run a ha) fun ex a' w' ⟨e', he', q⟩ => by
    cases ex <;> first
      | exact ⟨e', he', q⟩
      | (rename_i id'
         simp only [blockQ] at q
         simp only [Exit.inBlock]
         split
         · rename_i hid; rw [if_pos hid] at q; exact ⟨e', he', q⟩
         · rename_i hid; rw [if_neg hid] at q; exact ⟨e', he', q⟩))
theorem Cd.cond {c : Operand} {x y : Code} {t : Bool} (hc : ev e c = .bool t) (h1 : t = true → Cd P N x Q e w) (h2 : t = false → Cd P N y Q e w) : Cd P N (.cond c x y) Q e w := .mk' fun a ha =>
 wp_cond_split (t := t) (by rw [ha.eval, hc]) (fun h => (h1 h).run a ha) (fun h => (h2 h).run a ha)
theorem Cd.cond_t {c : Operand} {x y : Code} (hc : ev e c = .bool true) (h1 : Cd P N x Q e w) : Cd P N (.cond c x y) Q e w := .cond hc (fun _ => h1) (fun h => by cases h)
theorem Cd.cond_f {c : Operand} {x y : Code} (hc : ev e c = .bool false) (h1 : Cd P N y Q e w) : Cd P N (.cond c x y) Q e w := .cond hc (fun h => by cases h) (fun _ => h1)
theorem Cd.cond_p {c : Operand} {x y : Code} (p : Prop) [Decidable p] (hc : ev e c = .bool (decide p)) (h1 : p → Cd P N x Q e w) (h2 : ¬ p → Cd P N y Q e w) : Cd P N (.cond c x y) Q e w :=
 .cond hc (fun h => h1 (of_decide_eq_true h)) (fun h => h2 (of_decide_eq_false h))
theorem Cd.region {id : Nat} {l : List Oper} (h : Ops P N l.toArray (fun e w => Q .normal e w) l e w) : Cd P N (.region id l.toArray false) Q e w := .mk' fun a ha =>
 wp_mono (wp_region_lit (h.run a ha)) fun _ _ _ ⟨hx, e', he', q⟩ => ⟨e', he', by rw [hx]; exact q⟩
def Mt (e : Env) : List (Nat × Value) → Prop
  | [] => True
  | (i, v) :: r => e i = v ∧ Mt e r
def ext (e : Env) : List (Nat × Value) → Env
  | [] => e
  | (i, v) :: r => upd (ext e r) i v
theorem ext_of_mt : ∀ {l : List (Nat × Value)} {e : Env}, Mt e l → ext e l = e
  | [], _, _ => rfl
  | (i, v) :: r, e, h => by
    show upd (ext e r) i v = e
    rw [ext_of_mt h.2]
    funext j
    unfold upd
    cases hb : Nat.beq j i with
    | false => rfl
    | true => rw [Nat.eq_of_beq_eq_true hb, h.1]; rfl
theorem Cd.loop {α : Type} {c : Code} (F : α → List (Nat × Value)) (I : α → World → Prop) (m : α → Nat) (s0 : α) (hF : Mt e (F s0)) (hI : I s0 w)
    (round : ∀ s e w, I s w → Cd P N c (thenQ (fun e' w' => ∃ s', m s' < m s ∧ Mt e' (F s') ∧ I s' w') Q) (ext e (F s)) w) : Cd P N (.loop c) Q e w := by
  have key : ∀ n s e w, m s = n → Mt e (F s) → I s w → ∀ a, Rep N a e → (Code.loop c).wp P (low N Q) a w := by
    intro n0 s e w hn hm hI' a ha
    let J : Act → World → Prop := fun a w => ∃ s e, Rep N a e ∧ Mt e (F s) ∧ I s w
    -- the ghost number, by strong induction on it
    refine wp_loop_ghost (I := fun n a w => ∃ s e, m s = n ∧ Rep N a e ∧ Mt e (F s) ∧ I s w) n0 ⟨s, e, hn, ha, hm, hI'⟩ ?_
    intro n a w ⟨s, e, hn, ha, hm, hI⟩
    have h1 := round s e w hI
    rw [ext_of_mt hm] at h1
    refine wp_mono (h1.run a ha) fun ex a' w' ⟨e', he', q⟩ => ?_
    cases ex <;> first
      | exact ⟨e', he', q⟩
      | (obtain ⟨s', hlt, hm', hI'⟩ := q
         exact ⟨m s', by omega, s', e', O, he', hm', hI'⟩)
  exact .mk' fun a ha => key _ s0 e w O hF hI a ha
end
/-
 One rule an operation, over the calculus of XVc.
-/
class Und (P : Program) (t : TypeId) (d : outParam TypeDesc) : Type where
 out : P.underlying t = some d
class Inf (P : Program) (t : TypeId) (z : outParam Value) (size bytes : outParam Nat) : Prop where
 out : (P.info? t).map (fun i => (i.zero, i.size, i.bytes)) = some (some z, size, bytes)
class Fnc (P : Program) (F : FuncId) : Prop where
 out : ∃ fn, P.funcs[F]? = some fn ∧ (fn.name == "runtime.NumGoroutine") = false ∧ fn.body.isNone = false
theorem Inf.get (P : Program) (t : TypeId) {z : Value} {s b : Nat} [h : Inf P t z s b] : ∃ i, P.info? t = some i ∧ i.zero = some z ∧ i.size = s ∧ i.bytes = b := by
 obtain ⟨i, hi, he⟩ := Option.map_eq_some_iff.1 h.out
 simp only [Prod.mk.injEq] at he
 exact ⟨i, hi, he.1, he.2.1, he.2.2⟩
section
variable {P : Program} {N : Nat} {ops : Array Oper} {K : Env → World → Prop} {rest : List Oper} {e : Env} {w w' : World} {d : Nat} {ty : TypeId} {pos : String} {af : Array Edge}
theorem Ops.n (h : K e w) : Ops P N ops K [] e w := .mk' fun a ha => wpList_nil ⟨rfl, e, ha, h⟩
theorem Ops.val {op : Op} {v : Value} (hr : (execOp (ev e) ⟨some d, op, ty, pos, af, none⟩).run P w = .ok (.value v) w') (hb : Nat.blt d N = true) (hK : Ops P N ops K rest (upd e d v) w') :
  Ops P N ops K (⟨some d, op, ty, pos, af, none⟩ :: rest) e w := .mk' fun a ha => by
 refine wpList_plain O fun J hJ => ?_
 unfold Oper.wp
 rw [ha.eval, hr]
 exact hJ _ _ (hK.run _ (ha.put hb v))
theorem Ops.unit {op : Op} (hr : (execOp (ev e) ⟨none, op, ty, pos, af, none⟩).run P w = .ok .skip w') (hK : Ops P N ops K rest e w') :
  Ops P N ops K (⟨none, op, ty, pos, af, none⟩ :: rest) e w := .mk' fun a ha => by
 refine wpList_plain O fun J hJ => ?_
 unfold Oper.wp
 rw [ha.eval, hr]
 exact hJ _ _ (hK.run _ ha)
theorem Ops.val0 {op : Op} {v : Value} (hr : (execOp (ev e) ⟨none, op, ty, pos, af, none⟩).run P w = .ok (.value v) w') (hK : Ops P N ops K rest e w') :
  Ops P N ops K (⟨none, op, ty, pos, af, none⟩ :: rest) e w := .mk' fun a ha => by
 refine wpList_plain O fun J hJ => ?_
 unfold Oper.wp
 rw [ha.eval, hr]
 exact hJ _ _ (hK.run _ ha)
/-! guards -/
theorem yielded_rep {a : Act} {j dj : Nat} {b : Bool} (ha : Rep N a e) (hj : (ops[j]?).bind (·.dst) = some dj) (hlt : Nat.blt dj N = true) (hv : e dj = .bool b) : yielded ops a.tmps j = some b := by
 have h1 : dj < a.tmps.size := by rw [ha.size]; simpa [Nat.blt_eq] using hlt
 have h2 := ha.get dj
 rw [Array.getD_eq_getD_getElem?, Array.getElem?_eq_getElem h1, Option.getD_some, hv] at h2
 simp [yielded, hj, Array.getElem?_eq_getElem h1, h2]
theorem Ops.g {o : Option Tmp} {op : Op} {j dj : Nat} {want : Bool} (hj : (ops[j]?).bind (·.dst) = some dj) (hlt : Nat.blt dj N = true) (hv : e dj = .bool want) (hK : Ops P N ops K (⟨o, op, ty, pos, af, none⟩ :: rest) e w) : Ops P N ops K (⟨o, op, ty, pos, af, some (j, want)⟩ :: rest) e w := .mk' fun a ha => by
 have h := hK.run a ha
 have hy := yielded_rep (ops := ops) ha hj hlt hv
 have hw : Region.wanted (⟨o, op, ty, pos, af, some (j, want)⟩ : Oper) (yielded ops a.tmps) = true := by
  simp [Region.wanted, hy]
 unfold wpList at h ⊢
 rw [if_pos hw]
 rw [if_pos (show Region.wanted (⟨o, op, ty, pos, af, none⟩ : Oper) (yielded ops a.tmps) = true from rfl)] at h
 exact h
theorem Ops.k {op : Op} {j dj : Nat} {want b : Bool} (hj : (ops[j]?).bind (·.dst) = some dj) (hlt : Nat.blt dj N = true) (hv : e dj = .bool b) (hne : (b == want) = false) (hb : Nat.blt d N = true) (hK : Ops P N ops K rest (upd e d undef) w) : Ops P N ops K (⟨some d, op, ty, pos, af, some (j, want)⟩ :: rest) e w := .mk' fun a ha => by
 have hy := yielded_rep (ops := ops) ha hj hlt hv
 refine wpList_skip ?_ (hK.run _ (ha.put hb undef))
 simp only [Region.wanted]
 rw [hy]
 simpa using hne
theorem Ops.skipu {op : Op} {j dj : Nat} {want : Bool} (hj : (ops[j]?).bind (·.dst) = some dj) (hlt : Nat.blt dj N = true) (hv : e dj = undef) (hb : Nat.blt d N = true) (hK : Ops P N ops K rest (upd e d undef) w) : Ops P N ops K (⟨some d, op, ty, pos, af, some (j, want)⟩ :: rest) e w := .mk' fun a ha => by
 refine wpList_skip ?_ (hK.run _ (ha.put hb undef))
 have h1 : dj < a.tmps.size := by rw [ha.size]; simpa [Nat.blt_eq] using hlt
 have h2 := ha.get dj
 rw [Array.getD_eq_getD_getElem?, Array.getElem?_eq_getElem h1, Option.getD_some, hv] at h2
 simp [Region.wanted, yielded, hj, Array.getElem?_eq_getElem h1, h2, undef]
theorem upd_same {e : Env} {d : Nat} {v : Value} (h : e d = v) : upd e d v = e := by
 funext j
 unfold upd
 cases hb : Nat.beq j d with
 | false => rfl
 | true => rw [Nat.eq_of_beq_eq_true hb, h]; rfl
theorem Ops.split {l : List Oper} (d : Nat) {b : Bool} (hv : e d = .bool b) (h1 : b = true → Ops P N ops K l (upd e d (.bool true)) w) (h2 : b = false → Ops P N ops K l (upd e d (.bool false)) w) : Ops P N ops K l e w := by
 cases b
 ·have := h2 O; rwa [upd_same hv] at this
 have := h1 O; rwa [upd_same hv] at this
theorem Ops.split_p {l : List Oper} (d : Nat) {p : Prop} [Decidable p] (hv : e d = .bool (decide p)) (h1 : p → Ops P N ops K l (upd e d (.bool true)) w) (h2 : ¬ p → Ops P N ops K l (upd e d (.bool false)) w) : Ops P N ops K l e w :=
 .split d hv (fun h => h1 (of_decide_eq_true h)) (fun h => h2 (of_decide_eq_false h))
/-! moves -/
def mvOf : Op → Option Operand
 | .move x => some x
 | .assign x => some x
 | _ => none
theorem run_mv {op : Op} {x : Operand} (h : mvOf op = some x) : (execOp (ev e) ⟨some d, op, ty, pos, af, none⟩).run P w = .ok (.value (ev e x)) w := by
 cases op <;> simp [mvOf] at h <;> subst h <;> rfl
theorem Ops.mv {op : Op} {x : Operand} {v : Value} (hop : mvOf op = some x) (hx : ev e x = v) (hb : Nat.blt d N = true) (hK : Ops P N ops K rest (upd e d v) w) : Ops P N ops K (⟨some d, op, ty, pos, af, none⟩ :: rest) e w :=
 .val (by rw [run_mv hop, hx]) hb hK
theorem Ops.mi {op : Op} {x : Operand} {k : IntKind} {i : Int} (hop : mvOf op = some x) (hx : ev e x = .int k i) (hb : Nat.blt d N = true) (hK : Ops P N ops K rest (upd e d (.int k i)) w) : Ops P N ops K (⟨some d, op, ty, pos, af, none⟩ :: rest) e w := .mv hop hx hb hK
theorem Ops.ms {op : Op} {x : Operand} {A : Option Addr} {n c : Nat} (hop : mvOf op = some x) (hx : ev e x = .slice A n c) (hb : Nat.blt d N = true) (hK : Ops P N ops K rest (upd e d (.slice A n c)) w) : Ops P N ops K (⟨some d, op, ty, pos, af, none⟩ :: rest) e w := .mv hop hx hb hK
theorem Ops.mv_ptr {op : Op} {x : Operand} {p : Option Addr} (hop : mvOf op = some x) (hx : ev e x = .pointer p) (hb : Nat.blt d N = true) (hK : Ops P N ops K rest (upd e d (.pointer p)) w) : Ops P N ops K (⟨some d, op, ty, pos, af, none⟩ :: rest) e w := .mv hop hx hb hK
theorem Ops.mv_tup {op : Op} {x : Operand} {cs : Array Value} (hop : mvOf op = some x) (hx : ev e x = .tuple cs) (hb : Nat.blt d N = true) (hK : Ops P N ops K rest (upd e d (.tuple cs)) w) : Ops P N ops K (⟨some d, op, ty, pos, af, none⟩ :: rest) e w := .mv hop hx hb hK
/-! integers -/
section
variable {x y : Operand} {xt yt : TypeId} {i j : Int}
theorem Ops.add (hx : ev e x = .int .i64 i) (hy : ev e y = .int .i64 j) (hb : Nat.blt d N = true) (hr : -9223372036854775808 ≤ i + j ∧ i + j ≤ 9223372036854775807) (hK : Ops P N ops K rest (upd e d (.int .i64 (i + j))) w) :
  Ops P N ops K (⟨some d, .binOp .add xt x y yt, ty, pos, af, none⟩ :: rest) e w :=
 .val (by simp [execOp, hx, hy, eqGuard, binOp, Op.intArith, IntWalk.i64_in _ hr]) hb hK
theorem Ops.sub (hx : ev e x = .int .i64 i) (hy : ev e y = .int .i64 j) (hb : Nat.blt d N = true) (hr : -9223372036854775808 ≤ i - j ∧ i - j ≤ 9223372036854775807) (hK : Ops P N ops K rest (upd e d (.int .i64 (i - j))) w) :
  Ops P N ops K (⟨some d, .binOp .sub xt x y yt, ty, pos, af, none⟩ :: rest) e w :=
 .val (by simp [execOp, hx, hy, eqGuard, binOp, Op.intArith, IntWalk.i64_in _ hr]) hb hK
theorem Ops.mul (hx : ev e x = .int .i64 i) (hy : ev e y = .int .i64 j) (hb : Nat.blt d N = true) (hr : -9223372036854775808 ≤ i * j ∧ i * j ≤ 9223372036854775807) (hK : Ops P N ops K rest (upd e d (.int .i64 (i * j))) w) :
  Ops P N ops K (⟨some d, .binOp .mul xt x y yt, ty, pos, af, none⟩ :: rest) e w :=
 .val (by simp [execOp, hx, hy, eqGuard, binOp, Op.intArith, IntWalk.i64_in _ hr]) hb hK
theorem Ops.quo (hx : ev e x = .int .i64 i) (hy : ev e y = .int .i64 j) (hb : Nat.blt d N = true) (hr : 0 ≤ i ∧ i ≤ 9223372036854775807 ∧ 1 ≤ j) (hK : Ops P N ops K rest (upd e d (.int .i64 (i / j))) w) :
  Ops P N ops K (⟨some d, .binOp .quo xt x y yt, ty, pos, af, none⟩ :: rest) e w :=
 .val (by simp [execOp, hx, hy, eqGuard, binOp, Op.intDiv, IntWalk.i64_quo _ _ hr, show j ≠ 0 by omega]) hb hK
theorem Ops.rem (hx : ev e x = .int .i64 i) (hy : ev e y = .int .i64 j) (hb : Nat.blt d N = true) (hr : 0 ≤ i ∧ 1 ≤ j) (hK : Ops P N ops K rest (upd e d (.int .i64 (i % j))) w) :
  Ops P N ops K (⟨some d, .binOp .rem xt x y yt, ty, pos, af, none⟩ :: rest) e w :=
 .val (by simp [execOp, hx, hy, eqGuard, binOp, Op.intDiv, Int.tmod_eq_emod_of_nonneg hr.1, show j ≠ 0 by omega]) hb hK
theorem Ops.lss {k : IntKind} (hx : ev e x = .int k i) (hy : ev e y = .int k j) (hb : Nat.blt d N = true) (hK : Ops P N ops K rest (upd e d (.bool (decide (i < j)))) w) :
  Ops P N ops K (⟨some d, .binOp .lss xt x y yt, ty, pos, af, none⟩ :: rest) e w := .val (by simp [execOp, hx, hy, eqGuard, binOp, Op.intCmp]) hb hK
theorem Ops.leq {k : IntKind} (hx : ev e x = .int k i) (hy : ev e y = .int k j) (hb : Nat.blt d N = true) (hK : Ops P N ops K rest (upd e d (.bool (decide (i ≤ j)))) w) :
  Ops P N ops K (⟨some d, .binOp .leq xt x y yt, ty, pos, af, none⟩ :: rest) e w := .val (by simp [execOp, hx, hy, eqGuard, binOp, Op.intCmp]) hb hK
theorem Ops.gtr {k : IntKind} (hx : ev e x = .int k i) (hy : ev e y = .int k j) (hb : Nat.blt d N = true) (hK : Ops P N ops K rest (upd e d (.bool (decide (j < i)))) w) :
  Ops P N ops K (⟨some d, .binOp .gtr xt x y yt, ty, pos, af, none⟩ :: rest) e w := .val (by simp [execOp, hx, hy, eqGuard, binOp, Op.intCmp]) hb hK
theorem Ops.geq {k : IntKind} (hx : ev e x = .int k i) (hy : ev e y = .int k j) (hb : Nat.blt d N = true) (hK : Ops P N ops K rest (upd e d (.bool (decide (j ≤ i)))) w) :
  Ops P N ops K (⟨some d, .binOp .geq xt x y yt, ty, pos, af, none⟩ :: rest) e w := .val (by simp [execOp, hx, hy, eqGuard, binOp, Op.intCmp]) hb hK
theorem beq_dec (i j : Int) : (i == j) = decide (i = j) := by by_cases h : i = j <;> simp [h]
theorem bne_dec (i j : Int) : (i != j) = decide (¬ i = j) := by by_cases h : i = j <;> simp [h]
theorem Ops.eql {k : IntKind} (hx : ev e x = .int k i) (hy : ev e y = .int k j) (hb : Nat.blt d N = true) (hK : Ops P N ops K rest (upd e d (.bool (decide (i = j)))) w) :
  Ops P N ops K (⟨some d, .binOp .eql xt x y yt, ty, pos, af, none⟩ :: rest) e w := .val (by rw [← beq_dec]; simp [execOp, hx, hy, eqGuard, binOp, Op.intCmp]) hb hK
theorem Ops.neq {k : IntKind} (hx : ev e x = .int k i) (hy : ev e y = .int k j) (hb : Nat.blt d N = true) (hK : Ops P N ops K rest (upd e d (.bool (decide (¬ i = j)))) w) :
  Ops P N ops K (⟨some d, .binOp .neq xt x y yt, ty, pos, af, none⟩ :: rest) e w := .val (by rw [← bne_dec]; simp [execOp, hx, hy, eqGuard, binOp, Op.intCmp]) hb hK
theorem Ops.not {b : Bool} (hx : ev e x = .bool b) (hb : Nat.blt d N = true) (hK : Ops P N ops K rest (upd e d (.bool (!b))) w) :
  Ops P N ops K (⟨some d, .unOp .not xt x, ty, pos, af, none⟩ :: rest) e w := .val (by simp [execOp, hx, Op.unary]) hb hK
theorem Ops.not_p {p : Prop} [Decidable p] (hx : ev e x = .bool (decide p)) (hb : Nat.blt d N = true) (hK : Ops P N ops K rest (upd e d (.bool (decide ¬ p))) w) :
  Ops P N ops K (⟨some d, .unOp .not xt x, ty, pos, af, none⟩ :: rest) e w := .val (by simp [execOp, hx, Op.unary]) hb hK
theorem Ops.pick_t {c : Operand} {b : Bool} (hc : ev e c = .bool true) (hx : ev e x = .bool b) (hb : Nat.blt d N = true) (hK : Ops P N ops K rest (upd e d (.bool b)) w) :
  Ops P N ops K (⟨some d, .pick c x y, ty, pos, af, none⟩ :: rest) e w := .val (by simp [execOp, hc, hx, asBool]) hb hK
theorem Ops.pick_f {c : Operand} {b : Bool} (hc : ev e c = .bool false) (hx : ev e y = .bool b) (hb : Nat.blt d N = true) (hK : Ops P N ops K rest (upd e d (.bool b)) w) :
  Ops P N ops K (⟨some d, .pick c x y, ty, pos, af, none⟩ :: rest) e w := .val (by simp [execOp, hc, hx, asBool]) hb hK
end
theorem Ops.extract {x : Operand} {vs : Array Value} {ix : Nat} {v : Value} (hx : ev e x = .tuple vs) (hv : vs[ix]? = some v) (hb : Nat.blt d N = true) (hK : Ops P N ops K rest (upd e d v) w) :
  Ops P N ops K (⟨some d, .extract x ix, ty, pos, af, none⟩ :: rest) e w := .val (by simp [execOp, hx, Instr.extract, hv]) hb hK
theorem Ops.len {x : Operand} {t el : TypeId} {A : Option Addr} {n c : Nat} [Und P t (.slice el)] (hx : ev e x = .slice A n c) (hb : Nat.blt d N = true) (hK : Ops P N ops K rest (upd e d (.int .i64 (n : Int))) w) :
  Ops P N ops K (⟨some d, .call ⟨.builtin .len, #[x], #[t]⟩, ty, pos, af, none⟩ :: rest) e w :=
 .val (by simp [execOp, resolve, invoke, builtin, Builtin.len_, hx, run_underlying (Und.out (P := P) (t := t)), goInt]) hb hK
theorem Ops.nilc {x : Operand} {a : Addr} (hx : ev e x = .pointer (some a)) (hb : Nat.blt d N = true) (hK : Ops P N ops K rest (upd e d (.pointer (some a))) w) :
  Ops P N ops K (⟨some d, .nilCheck x, ty, pos, af, none⟩ :: rest) e w := .val (by simp [execOp, hx]) hb hK
/-! calls -/
def Ret (P : Program) (F : FuncId) (vs : List Value) (w : World) (R : Value → World → Prop) : Prop := Calls P F vs.toArray w fun x w' => ∃ v, x = .returned v ∧ R v w'
theorem Ret.mono {F : FuncId} {vs : List Value} {R R' : Value → World → Prop} (h : Ret P F vs w R) (hR : ∀ v w', R v w' → R' v w') : Ret P F vs w R' :=
 Calls.mono h fun _ _ ⟨v, he, hv⟩ => ⟨v, he, hR _ _ hv⟩
theorem Ops.call {f : Operand} {F : FuncId} {c2 : Array Value} {l : List Operand} {vs : List Value} {R : Value → World → Prop} {ats : Array TypeId} [hF : Fnc P F] (hC : Ret P F vs w R) (hf : ev e f = .func (.func F) #[] c2) (hv : l.map (ev e) ++ c2.toList = vs) (hb : Nat.blt d N = true) (hK : ∀ v w', R v w' → Ops P N ops K rest (upd e d v) w') : Ops P N ops K (⟨some d, .call ⟨.value f, l.toArray, ats⟩, ty, pos, af, none⟩ :: rest) e w := .mk' fun a ha => by
 obtain ⟨fn, h1, h2, h3⟩ := hF.out
 have hrun : (execOp (ev e) ⟨some d, .call ⟨.value f, l.toArray, ats⟩, ty, pos, af, none⟩).run P w = .ok (.enter F vs.toArray) w := by
  have h4 : (l.toArray.map (ev e) ++ c2) = vs.toArray := by
   rw [← hv]; simp
  have h5 : ¬ fn.name = "runtime.NumGoroutine" := by simpa using h2
  have h6 : ¬ fn.body = none := by intro h; rw [h] at h3; cases h3
  simp [execOp, resolve, hf, Deferred.ofValue, invoke, callFunc, h1, h5, h6]
  exact hv
 refine wpList_plain O fun J hJ => ?_
 unfold Oper.wp
 rw [ha.eval, hrun]
 refine Calls.mono hC fun x w' ⟨v, hx, hR⟩ => ?_
 subst hx
 exact hJ _ _ ((hK v w' hR).run _ (ha.put hb v))
/-! ways out -/
theorem tQ {K : Env → World → Prop} {Q : Post} (h : K e w) : thenQ K Q .normal e w := h
theorem thenQ_r {K : Env → World → Prop} {Q : Post} (h : Q .ret e w) : thenQ K Q .ret e w := h
theorem thenQ_x {K : Env → World → Prop} {Q : Post} {id : Nat} (h : Q (.exit id) e w) : thenQ K Q (.exit id) e w := h
/-! entering a function -/
def argEnv (vs : List Value) : Env := fun i => vs.getD i undef
def ret0 (R : Value → World → Prop) : Post
 | .normal, _, w => R (.tuple #[]) w
 | .ret, _, w => R (.tuple #[]) w
 | _, _, _ => False
def ret1 (t : Nat) (R : Value → World → Prop) : Post
 | .normal, e, w => R (e t) w
 | .ret, e, w => R (e t) w
 | _, _, _ => False
def ret2 (t u : Nat) (R : Value → World → Prop) : Post
 | .normal, e, w => R (.tuple #[e t, e u]) w
 | .ret, e, w => R (.tuple #[e t, e u]) w
 | _, _, _ => False
theorem rep_args (vs : List Value) (n : Nat) (h : Nat.ble vs.length n = true) : Rep n ⟨vs.toArray ++ Array.replicate (n - vs.toArray.size) undef, []⟩ (argEnv vs) := by
 have h' : vs.length ≤ n := by simpa using h
 refine ⟨O, by simp; omega, fun i => ?_⟩
 simp only [argEnv]
 rw [Array.getD_eq_getD_getElem?, List.getD_eq_getElem?_getD, Array.getElem?_append]
 split
 ·simp
 rename_i hi
 simp at hi
 rw [List.getElem?_eq_none hi, Array.getElem?_replicate]
 split <;> rfl
theorem ret1_b {R : Value → World → Prop} {t : Nat} {b : Bool} (h : e t = .bool b) (hR : R (.bool b) w) : ret1 t R .ret e w := by show R (e t) w; rw [h]; exact hR
theorem ret1_i {R : Value → World → Prop} {t : Nat} {k : IntKind} {i : Int} (h : e t = .int k i) (hR : R (.int k i) w) : ret1 t R .ret e w := by show R (e t) w; rw [h]; exact hR
theorem ret1_s {R : Value → World → Prop} {t : Nat} {A : Option Addr} {n c : Nat} (h : e t = .slice A n c) (hR : R (.slice A n c) w) : ret1 t R .ret e w := by show R (e t) w; rw [h]; exact hR
theorem ret1_v {R : Value → World → Prop} {t : Nat} {v : Value} (h : e t = v) (hR : R v w) : ret1 t R .ret e w := by show R (e t) w; rw [h]; exact hR
theorem ret0_r {R : Value → World → Prop} (hR : R (.tuple #[]) w) : ret0 R .ret e w := hR
theorem ret0_n {R : Value → World → Prop} (hR : R (.tuple #[]) w) : ret0 R .normal e w := hR
theorem ret2_si {R : Value → World → Prop} {t u : Nat} {A : Option Addr} {n c : Nat} {k : IntKind} {i : Int} (h : e t = .slice A n c) (h2 : e u = .int k i) (hR : R (.tuple #[.slice A n c, .int k i]) w) : ret2 t u R .ret e w := by show R (.tuple #[e t, e u]) w; rw [h, h2]; exact hR
theorem ret2_ii {R : Value → World → Prop} {t u : Nat} {k' : IntKind} {j : Int} {k : IntKind} {i : Int} (h : e t = .int k' j) (h2 : e u = .int k i) (hR : R (.tuple #[.int k' j, .int k i]) w) : ret2 t u R .ret e w := by show R (.tuple #[e t, e u]) w; rw [h, h2]; exact hR
theorem ret2_bi {R : Value → World → Prop} {t u : Nat} {b : Bool} {k : IntKind} {i : Int} (h : e t = .bool b) (h2 : e u = .int k i) (hR : R (.tuple #[.bool b, .int k i]) w) : ret2 t u R .ret e w := by show R (.tuple #[e t, e u]) w; rw [h, h2]; exact hR
theorem ret2_sb {R : Value → World → Prop} {t u : Nat} {A : Option Addr} {n c : Nat} {b : Bool} (h : e t = .slice A n c) (h2 : e u = .bool b) (hR : R (.tuple #[.slice A n c, .bool b]) w) : ret2 t u R .ret e w := by show R (.tuple #[e t, e u]) w; rw [h, h2]; exact hR
theorem Ret.of_cd {F : FuncId} {fn : Func} {c : Code} {vs : List Value} {R : Value → World → Prop} {Q : Post} (hf : P.funcs[F]? = some fn) (hc : fn.body = some c) (hn : fn.ntmps = N) (hl : Nat.ble vs.length N = true) (hQ : ∀ x a e w, Rep N a e → Q x e w → bodyPost P fn (fun x w' => ∃ v, x = .returned v ∧ R v w') x a w) (h : Cd P N c Q (argEnv vs) w) : Ret P F vs w R := by
 subst hn
 refine calls_of_wp hf hc ?_
 exact wp_mono (h.run _ (rep_args vs _ hl)) fun x a w ⟨e, he, q⟩ => hQ x a e w he q
theorem post0 {fn : Func} {R : Value → World → Prop} (hr : fn.results = #[]) : ∀ x a e w, Rep N a e → ret0 R x e w → bodyPost P fn (fun x w' => ∃ v, x = .returned v ∧ R v w') x a w := by
 intro x a e w he q
 cases x <;> first
  | exact q.elim
  | exact ⟨he.defers, _, results_none hr _ _ _, _, rfl, q⟩
theorem post1 {fn : Func} {R : Value → World → Prop} {t : Nat} (hr : fn.results = #[.tmp t]) : ∀ x a e w, Rep N a e → ret1 t R x e w → bodyPost P fn (fun x w' => ∃ v, x = .returned v ∧ R v w') x a w := by
 intro x a e w he q
 have hg := he.get t
 cases x <;> first
  | exact q.elim
  | exact ⟨he.defers, _, results_tmp hr _ _ _, _, rfl, by rw [hg]; exact q⟩
theorem post2 {fn : Func} {R : Value → World → Prop} {t u : Nat} (hr : fn.results = #[.tmp t, .tmp u]) : ∀ x a e w, Rep N a e → ret2 t u R x e w → bodyPost P fn (fun x w' => ∃ v, x = .returned v ∧ R v w') x a w := by
 intro x a e w he q
 have hg := he.get t
 have hh := he.get u
 cases x <;> first
  | exact q.elim
  | exact ⟨he.defers, _, results_tmp2 hr _ _ _, _, rfl, by rw [hg, hh]; exact q⟩
end
/-
 Straight code, run by evaluation: moves, tests of integers, parts of results; sequences, blocks, exits.
-/
def hd : Value → Option Value
 | .int k n => some (.int k n)
 | .slice a n c => some (.slice a n c)
 | .bool b => some (.bool b)
 | .pointer a => some (.pointer a)
 | .agg cs => some (.agg cs)
 | .func f a b => some (.func f a b)
 | .tuple cs => some (.tuple cs)
 | .string s => some (.string s)
 | .map r => some (.map r)
 | _ => none
theorem hd_eq {v u : Value} (h : hd v = some u) : v = u := by cases v <;> simp [hd] at h <;> exact h
def lssV (e : Env) (x y : Operand) : Option Value :=
 match ev e x, ev e y with
 | .int .i64 a, .int .i64 b => some (.bool (decide (a < b)))
 | _, _ => none
theorem lss_eq {e : Env} {x y : Operand} {v : Value} (h : lssV e x y = some v) : ∃ a b, ev e x = .int .i64 a ∧ ev e y = .int .i64 b ∧ v = .bool (decide (a < b)) := by
 unfold lssV at h
 split at h
 ·rename_i a b h1 h2
  exact ⟨a, b, h1, h2, (Option.some.inj h).symm⟩
 cases h
def leqV (e : Env) (x y : Operand) : Option Value :=
 match ev e x, ev e y with
 | .int .i64 a, .int .i64 b => some (.bool (decide (a ≤ b)))
 | _, _ => none
theorem leq_eq {e : Env} {x y : Operand} {v : Value} (h : leqV e x y = some v) : ∃ a b, ev e x = .int .i64 a ∧ ev e y = .int .i64 b ∧ v = .bool (decide (a ≤ b)) := by
 unfold leqV at h
 split at h
 ·rename_i a b h1 h2
  exact ⟨a, b, h1, h2, (Option.some.inj h).symm⟩
 cases h
def gtrV (e : Env) (x y : Operand) : Option Value :=
 match ev e x, ev e y with
 | .int .i64 a, .int .i64 b => some (.bool (decide (b < a)))
 | _, _ => none
theorem gtr_eq {e : Env} {x y : Operand} {v : Value} (h : gtrV e x y = some v) : ∃ a b, ev e x = .int .i64 a ∧ ev e y = .int .i64 b ∧ v = .bool (decide (b < a)) := by
 unfold gtrV at h
 split at h
 ·rename_i a b h1 h2
  exact ⟨a, b, h1, h2, (Option.some.inj h).symm⟩
 cases h
def geqV (e : Env) (x y : Operand) : Option Value :=
 match ev e x, ev e y with
 | .int .i64 a, .int .i64 b => some (.bool (decide (b ≤ a)))
 | _, _ => none
theorem geq_eq {e : Env} {x y : Operand} {v : Value} (h : geqV e x y = some v) : ∃ a b, ev e x = .int .i64 a ∧ ev e y = .int .i64 b ∧ v = .bool (decide (b ≤ a)) := by
 unfold geqV at h
 split at h
 ·rename_i a b h1 h2
  exact ⟨a, b, h1, h2, (Option.some.inj h).symm⟩
 cases h
def eqlV (e : Env) (x y : Operand) : Option Value :=
 match ev e x, ev e y with
 | .int .i64 a, .int .i64 b => some (.bool (decide (a = b)))
 | _, _ => none
theorem eql_eq {e : Env} {x y : Operand} {v : Value} (h : eqlV e x y = some v) : ∃ a b, ev e x = .int .i64 a ∧ ev e y = .int .i64 b ∧ v = .bool (decide (a = b)) := by
 unfold eqlV at h
 split at h
 ·rename_i a b h1 h2
  exact ⟨a, b, h1, h2, (Option.some.inj h).symm⟩
 cases h
def neqV (e : Env) (x y : Operand) : Option Value :=
 match ev e x, ev e y with
 | .int .i64 a, .int .i64 b => some (.bool (decide (¬ a = b)))
 | _, _ => none
theorem neq_eq {e : Env} {x y : Operand} {v : Value} (h : neqV e x y = some v) : ∃ a b, ev e x = .int .i64 a ∧ ev e y = .int .i64 b ∧ v = .bool (decide (¬ a = b)) := by
 unfold neqV at h
 split at h
 ·rename_i a b h1 h2
  exact ⟨a, b, h1, h2, (Option.some.inj h).symm⟩
 cases h
def stV (e : Env) : Op → Option Value
 | .move x => hd (ev e x)
 | .assign x => hd (ev e x)
 | .binOp .lss _ x y _ => lssV e x y
 | .binOp .leq _ x y _ => leqV e x y
 | .binOp .gtr _ x y _ => gtrV e x y
 | .binOp .geq _ x y _ => geqV e x y
 | .binOp .eql _ x y _ => eqlV e x y
 | .binOp .neq _ x y _ => neqV e x y
 | .extract x i => match ev e x with
  | .tuple vs => (match vs[i]? with
   | some v => hd v
   | none => none)
  | _ => none
 | .pick c x y => match ev e c with
  | .bool true => (match ev e x with
   | .bool b => some (.bool b)
   | _ => none)
  | .bool false => (match ev e y with
   | .bool b => some (.bool b)
   | _ => none)
  | _ => none
 | _ => none
def stp (N : Nat) (e : Env) (o : Oper) : Option (Nat × Value) :=
 match o.guard, o.dst with
 | none, some d => (match Nat.blt d N with
  | true => (match stV e o.op with
   | some v => some (d, v)
   | none => none)
  | false => none)
 | _, _ => none
def adv (N : Nat) : List Oper → Env → List Oper × Env
 | [], e => ([], e)
 | o :: l, e => match stp N e o with
  | some (d, v) => adv N l (upd e d v)
  | none => (o :: l, e)
section
variable {P : Program} {N : Nat} {ops : Array Oper} {K : Env → World → Prop} {e : Env} {w : World}
theorem Ops.stp {o : Oper} {l : List Oper} {d : Nat} {v : Value} (h : stp N e o = some (d, v)) (hK : Ops P N ops K l (upd e d v) w) : Ops P N ops K (o :: l) e w := by
 obtain ⟨dst, op, ty, pos, af, gd⟩ := o
 unfold Vc.stp at h
 split at h
 ·rename_i d' hg hd'
  simp only at hg hd'
  subst hg hd'
  split at h
  ·rename_i hb
   split at h
   ·rename_i v' hv
    simp only [Option.some.injEq, Prod.mk.injEq] at h
    obtain ⟨rfl, rfl⟩ := h
    replace hv : stV e op = some v' := hv
    unfold stV at hv
    split at hv
    ·exact .mv O (hd_eq hv) hb hK
    ·exact .mv O (hd_eq hv) hb hK
    ·obtain ⟨a, b, h1, h2, rfl⟩ := lss_eq hv; exact .lss h1 h2 hb hK
    ·obtain ⟨a, b, h1, h2, rfl⟩ := leq_eq hv; exact .leq h1 h2 hb hK
    ·obtain ⟨a, b, h1, h2, rfl⟩ := gtr_eq hv; exact .gtr h1 h2 hb hK
    ·obtain ⟨a, b, h1, h2, rfl⟩ := geq_eq hv; exact .geq h1 h2 hb hK
    ·obtain ⟨a, b, h1, h2, rfl⟩ := eql_eq hv; exact .eql h1 h2 hb hK
    ·obtain ⟨a, b, h1, h2, rfl⟩ := neq_eq hv; exact .neq h1 h2 hb hK
    ·split at hv
     ·rename_i h1
      split at hv
      ·rename_i h2
       exact .extract h1 (by rw [h2, hd_eq hv]) hb hK
      cases hv
     cases hv
    ·split at hv
     ·rename_i h1
      split at hv
      ·rename_i b h2
       obtain rfl := Option.some.inj hv
       exact .pick_t h1 h2 hb hK
      cases hv
     ·rename_i h1
      split at hv
      ·rename_i b h2
       obtain rfl := Option.some.inj hv
       exact .pick_f h1 h2 hb hK
      cases hv
     cases hv
    cases hv
   cases h
  cases h
 cases h
theorem adv_ok : ∀ {l : List Oper} {e : Env}, Ops P N ops K (adv N l e).1 (adv N l e).2 w → Ops P N ops K l e w
 | [], _, h => h
 | o :: l, e, h => by
  unfold adv at h
  split at h
  ·rename_i d v hs
   exact .stp hs (adv_ok h)
  ·exact h
end
inductive Fr where
 | s (c : Code)
 | b (id : Nat)
def Qk (P : Program) (N : Nat) (Q : Post) : List Fr → Post
 | [] => Q
 | .s y :: r => thenQ (Cd P N y (Qk P N Q r)) (Qk P N Q r)
 | .b id :: r => blockQ id (Qk P N Q r)
def popN : List Fr → Option (Code × List Fr)
 | [] => none
 | .s y :: r => some (y, r)
 | .b _ :: r => popN r
def popX (id : Nat) : List Fr → Option (List Fr)
 | [] => none
 | .s _ :: r => popX id r
 | .b i :: r => match Nat.beq id i with
  | true => some r
  | false => popX id r
inductive Res where
 | c (c : Code) (s : List Fr) (e : Env)
 | o (ops : Array Oper) (l : List Oper) (s : List Fr) (e : Env)
 | n (e : Env)
 | r (e : Env)
 | x (id : Nat) (e : Env)
def Res.ok (P : Program) (N : Nat) (Q : Post) (w : World) : Res → Prop
 | .c y s e => Cd P N y (Qk P N Q s) e w
 | .o ops l s e => Ops P N ops (fun e w => Qk P N Q s .normal e w) l e w
 | .n e => Q .normal e w
 | .r e => Q .ret e w
 | .x id e => Q (.exit id) e w
def run (N : Nat) : Nat → Code → List Fr → Env → Res
  | 0, c, s, e => .c c s e
  | n + 1, c, s, e => match c with
    | .seq x y => run N n x (.s y :: s) e
    | .block id x => run N n x (.b id :: s) e
    | .region id ops dr => match dr with
      | true => .c (.region id ops true) s e
      | false => match adv N ops.toList e with
        | ([], e') => (match popN s with
          | none => .n e'
          | some (y, r) => run N n y r e')
        | (o :: l, e') => .o ops (o :: l) s e'
    | .skip => (match popN s with
      | none => .n e
      | some (y, r) => run N n y r e)
    | .ret => .r e
    | .exit id => (match popX id s with
      | none => .x id e
      | some s' => (match popN s' with
        | none => .n e
        | some (y, r) => run N n y r e))
    | c => .c c s e
def runN (N n : Nat) (s : List Fr) (e : Env) : Res := match popN s with
 | none => .n e
 | some (y, r) => run N n y r e
def runX (N n id : Nat) (s : List Fr) (e : Env) : Res := match popX id s with
 | none => .x id e
 | some s' => runN N n s' e
def runO (N n : Nat) (ops : Array Oper) (l : List Oper) (s : List Fr) (e : Env) : Res := match adv N l e with
  | ([], e') => runN N n s e'
  | (o :: l, e') => .o ops (o :: l) s e'
section
variable {P : Program} {N : Nat} {Q : Post} {e : Env} {w : World}
theorem popN_ok : ∀ {s : List Fr}, (match popN s with | none => Q .normal e w | some (y, r) => Cd P N y (Qk P N Q r) e w) → Qk P N Q s .normal e w
 | [], h => h
 | .s _ :: _, h => h
 | .b _ :: r, h => popN_ok (s := r) h
theorem popX_ok {id : Nat} : ∀ {s : List Fr}, (match popX id s with | none => Q (.exit id) e w | some r => Qk P N Q r .normal e w) → Qk P N Q s (.exit id) e w
 | [], h => h
 | .s _ :: r, h => popX_ok (s := r) h
 | .b i :: r, h => by
  unfold popX at h
  show (if id = i then _ else _)
  cases hb : Nat.beq id i with
  | true => rw [if_pos (Nat.eq_of_beq_eq_true hb)]; rw [hb] at h; exact h
  | false =>
   rw [if_neg (fun e => by rw [e, Nat.beq_refl] at hb; cases hb)]
   rw [hb] at h
   exact popX_ok (s := r) h
theorem Qk_ret : ∀ {s : List Fr}, Q .ret e w → Qk P N Q s .ret e w
 | [], h => h
 | .s _ :: r, h => Qk_ret (s := r) h
 | .b _ :: r, h => Qk_ret (s := r) h
theorem Cd.regionA {id : Nat} {ops : Array Oper} {Q : Post} (h : Ops P N ops (fun e w => Q .normal e w) ops.toList e w) : Cd P N (.region id ops false) Q e w := by
 have := Cd.region (P := P) (N := N) (Q := Q) (id := id) (l := ops.toList) (e := e) (w := w) (by rw [Array.toArray_toList]; exact h)
 rwa [Array.toArray_toList] at this
theorem run_ok : ∀ {n : Nat} {c : Code} {s : List Fr} {e : Env}, (run N n c s e).ok P N Q w → Cd P N c (Qk P N Q s) e w
 | 0, _, _, _, h => h
 | n + 1, c, s, e, h => by
  unfold run at h
  split at h
  ·exact .seq (run_ok h)
  ·exact .block (run_ok h)
  ·split at h
   ·exact h
   ·refine .regionA (adv_ok ?_)
    split at h
    ·rename_i he
     rw [he]
     refine Ops.n (popN_ok ?_)
     split at h
     ·exact h
     ·exact run_ok h
    ·rename_i he
     rw [he]
     exact h
  ·refine .skip (popN_ok ?_)
   split at h
   ·exact h
   ·exact run_ok h
  ·exact .ret (Qk_ret h)
  ·refine .exit (popX_ok ?_)
   split at h
   ·exact h
   ·refine popN_ok ?_
    split at h
    ·exact h
    ·exact run_ok h
  ·exact h
theorem runN_ok {n : Nat} {s : List Fr} {e : Env} (h : (runN N n s e).ok P N Q w) : Qk P N Q s .normal e w := by
 unfold runN at h
 refine popN_ok ?_
 split at h
 ·exact h
 exact run_ok h
theorem runX_ok {n id : Nat} {s : List Fr} {e : Env} (h : (runX N n id s e).ok P N Q w) : Qk P N Q s (.exit id) e w := by
 unfold runX at h
 refine popX_ok ?_
 split at h
 ·exact h
 exact runN_ok h
theorem runO_ok {n : Nat} {ops : Array Oper} {l : List Oper} {s : List Fr} {e : Env} (h : (runO N n ops l s e).ok P N Q w) : Ops P N ops (fun e w => Qk P N Q s .normal e w) l e w := by
 unfold runO at h
 refine adv_ok ?_
 split at h
 ·rename_i he; rw [he]; exact Ops.n (runN_ok h)
 rename_i he; rw [he]; exact h
theorem Qk_ext {s : List Fr} {F : List (Nat × Value)} (hM : Mt e F) (h : Qk P N Q s .normal (ext e F) w) : Qk P N Q s .normal e w := by rwa [ext_of_mt hM] at h
theorem Gac {c : Code} {s : List Fr} {c1 : Code} {s1 : List Fr} {e1 : Env} (h : run N 1000 c s e = .c c1 s1 e1) (k : Cd P N c1 (Qk P N Q s1) e1 w) : Cd P N c (Qk P N Q s) e w := run_ok (n := 1000) (by rw [h]; exact k)
theorem Gao {c : Code} {s : List Fr} {o1 : Array Oper} {l1 : List Oper} {s1 : List Fr} {e1 : Env} (h : run N 1000 c s e = .o o1 l1 s1 e1) (k : Ops P N o1 (fun e w => Qk P N Q s1 .normal e w) l1 e1 w) : Cd P N c (Qk P N Q s) e w := run_ok (n := 1000) (by rw [h]; exact k)
theorem Gan {c : Code} {s : List Fr} {e1 : Env} (h : run N 1000 c s e = .n e1) (k : Q .normal e1 w) : Cd P N c (Qk P N Q s) e w := run_ok (n := 1000) (by rw [h]; exact k)
theorem Gar {c : Code} {s : List Fr} {e1 : Env} (h : run N 1000 c s e = .r e1) (k : Q .ret e1 w) : Cd P N c (Qk P N Q s) e w := run_ok (n := 1000) (by rw [h]; exact k)
theorem Gax {c : Code} {s : List Fr} {i1 : Nat} {e1 : Env} (h : run N 1000 c s e = .x i1 e1) (k : Q (.exit i1) e1 w) : Cd P N c (Qk P N Q s) e w := run_ok (n := 1000) (by rw [h]; exact k)
theorem Gaj (n : Nat) {c : Code} {s : List Fr} {c1 : Code} {s1 : List Fr} {e1 : Env} (h : run N n c s e = .c c1 s1 e1) (k : Cd P N c1 (Qk P N Q s1) e1 w) : Cd P N c (Qk P N Q s) e w := run_ok (n := n) (by rw [h]; exact k)
theorem Gbc {c : Code} {c1 : Code} {s1 : List Fr} {e1 : Env} (h : run N 1000 c [] e = .c c1 s1 e1) (k : Cd P N c1 (Qk P N Q s1) e1 w) : Cd P N c Q e w := run_ok (s := []) (n := 1000) (by rw [h]; exact k)
theorem Gbo {c : Code} {o1 : Array Oper} {l1 : List Oper} {s1 : List Fr} {e1 : Env} (h : run N 1000 c [] e = .o o1 l1 s1 e1) (k : Ops P N o1 (fun e w => Qk P N Q s1 .normal e w) l1 e1 w) : Cd P N c Q e w := run_ok (s := []) (n := 1000) (by rw [h]; exact k)
theorem Gbr {c : Code} {e1 : Env} (h : run N 1000 c [] e = .r e1) (k : Q .ret e1 w) : Cd P N c Q e w := run_ok (s := []) (n := 1000) (by rw [h]; exact k)
theorem Gdc {ops : Array Oper} {l : List Oper} {s : List Fr} {c1 : Code} {s1 : List Fr} {e1 : Env} (h : runO N 1000 ops l s e = .c c1 s1 e1) (k : Cd P N c1 (Qk P N Q s1) e1 w) : Ops P N ops (fun e w => Qk P N Q s .normal e w) l e w := runO_ok (n := 1000) (by rw [h]; exact k)
theorem Gdo {ops : Array Oper} {l : List Oper} {s : List Fr} {o1 : Array Oper} {l1 : List Oper} {s1 : List Fr} {e1 : Env} (h : runO N 1000 ops l s e = .o o1 l1 s1 e1) (k : Ops P N o1 (fun e w => Qk P N Q s1 .normal e w) l1 e1 w) : Ops P N ops (fun e w => Qk P N Q s .normal e w) l e w := runO_ok (n := 1000) (by rw [h]; exact k)
theorem Gdn {ops : Array Oper} {l : List Oper} {s : List Fr} {e1 : Env} (h : runO N 1000 ops l s e = .n e1) (k : Q .normal e1 w) : Ops P N ops (fun e w => Qk P N Q s .normal e w) l e w := runO_ok (n := 1000) (by rw [h]; exact k)
theorem Gdr {ops : Array Oper} {l : List Oper} {s : List Fr} {e1 : Env} (h : runO N 1000 ops l s e = .r e1) (k : Q .ret e1 w) : Ops P N ops (fun e w => Qk P N Q s .normal e w) l e w := runO_ok (n := 1000) (by rw [h]; exact k)
theorem Gdj (n : Nat) {ops : Array Oper} {l : List Oper} {s : List Fr} {c1 : Code} {s1 : List Fr} {e1 : Env} (h : runO N n ops l s e = .c c1 s1 e1) (k : Cd P N c1 (Qk P N Q s1) e1 w) : Ops P N ops (fun e w => Qk P N Q s .normal e w) l e w := runO_ok (n := n) (by rw [h]; exact k)
theorem Gec {s : List Fr} {c1 : Code} {s1 : List Fr} {e1 : Env} (h : runN N 1000 s e = .c c1 s1 e1) (k : Cd P N c1 (Qk P N Q s1) e1 w) : Qk P N Q s .normal e w := runN_ok (n := 1000) (by rw [h]; exact k)
theorem Geo {s : List Fr} {o1 : Array Oper} {l1 : List Oper} {s1 : List Fr} {e1 : Env} (h : runN N 1000 s e = .o o1 l1 s1 e1) (k : Ops P N o1 (fun e w => Qk P N Q s1 .normal e w) l1 e1 w) : Qk P N Q s .normal e w := runN_ok (n := 1000) (by rw [h]; exact k)
theorem Gen {s : List Fr} {e1 : Env} (h : runN N 1000 s e = .n e1) (k : Q .normal e1 w) : Qk P N Q s .normal e w := runN_ok (n := 1000) (by rw [h]; exact k)
theorem Ger {s : List Fr} {e1 : Env} (h : runN N 1000 s e = .r e1) (k : Q .ret e1 w) : Qk P N Q s .normal e w := runN_ok (n := 1000) (by rw [h]; exact k)
theorem Gfc {i : Nat} {s : List Fr} {c1 : Code} {s1 : List Fr} {e1 : Env} (h : runX N 1000 i s e = .c c1 s1 e1) (k : Cd P N c1 (Qk P N Q s1) e1 w) : Qk P N Q s (.exit i) e w := runX_ok (n := 1000) (by rw [h]; exact k)
theorem Gfo {i : Nat} {s : List Fr} {o1 : Array Oper} {l1 : List Oper} {s1 : List Fr} {e1 : Env} (h : runX N 1000 i s e = .o o1 l1 s1 e1) (k : Ops P N o1 (fun e w => Qk P N Q s1 .normal e w) l1 e1 w) : Qk P N Q s (.exit i) e w := runX_ok (n := 1000) (by rw [h]; exact k)
theorem Gfn {i : Nat} {s : List Fr} {e1 : Env} (h : runX N 1000 i s e = .n e1) (k : Q .normal e1 w) : Qk P N Q s (.exit i) e w := runX_ok (n := 1000) (by rw [h]; exact k)
theorem Gfr {i : Nat} {s : List Fr} {e1 : Env} (h : runX N 1000 i s e = .r e1) (k : Q .ret e1 w) : Qk P N Q s (.exit i) e w := runX_ok (n := 1000) (by rw [h]; exact k)
end
/-
 Memory that a call makes, as a list of rows of its own, each in a block of its own; what was there before reads as it did.
-/
def Strict : Prop := False
structure Below (B : Nat) (w w' : World) : Prop extends Go.RowKit.Below B w w' where
 drawn : Strict → w.drawn ≤ w'.drawn
theorem Below.refl (B : Nat) (w : World) : Below B w w := ⟨Go.RowKit.Below.refl B w, fun _ => Nat.le_refl _⟩
theorem Below.trans {B : Nat} {a b c : World} (h : Below B a b) (k : Below B b c) : Below B a c := ⟨h.toBelow.trans k.toBelow, fun s => Nat.le_trans (h.drawn s) (k.drawn s)⟩
theorem Below.mono {B B' : Nat} {w w' : World} (h : Below B w w') (hB : B' ≤ B) : Below B' w w' := ⟨h.toBelow.mono hB, h.drawn⟩
theorem Below.drew {B : Nat} {a w : World} (h : Below B a w) : Below B a w.drew := ⟨h.toBelow.drew, fun s => Nat.le_succ_of_le (h.drawn s)⟩
theorem Below.alloc {B : Nat} {a w : World} (h : Below B a w) (hB : B ≤ w.heap.size) (o : Obj) : Below B a (w.alloc o) := ⟨h.toBelow.alloc hB o, h.drawn⟩
structure GrB (w w' : World) (row : Option Nat) : Prop where
 g : w.grownBy w' row
 drawn : w.drawn ≤ w'.drawn
theorem Below.grown {B : Nat} {a w w' : World} {row : Option Nat} (h : Below B a w) (hg : GrB w w' row) (hB : B ≤ w.heap.size) (hr : ∀ k, row = some k → B ≤ k) : Below B a w' := ⟨h.toBelow.grown hg.g hB hr, fun s => Nat.le_trans (h.drawn s) hg.drawn⟩
def ptrAt (A : Option Addr) (k : Nat) : Option Addr := A.map (·.add k)
def Rd (w : World) (A : Option Addr) (n : Nat) (f : Nat → Value) : Prop := ∀ k, k < n → ∃ p, ptrAt A k = some p ∧ w.cell? p = some (f k)
structure Ck where
 A : Option Addr
 n : Nat
 c : Nat
 e : TypeId
 vs : List Value
def Ck.blk (k : Ck) : Option Nat := k.A.map (·.block)
def flatM : List (Value × Value) → List Value
 | [] => []
 | p :: r => p.1 :: p.2 :: flatM r
theorem flatM_inj : ∀ {a b : List (Value × Value)}, flatM a = flatM b → a = b
  | [], [], _ => rfl
  | [], _ :: _, h => by simp [flatM] at h
  | _ :: _, [], h => by simp [flatM] at h
  | (x, y) :: a, (x', y') :: b, h => by
    simp only [flatM, List.cons.injEq] at h
    rw [h.1, h.2.1, flatM_inj h.2.2]
def isM : List Value → Bool
 | .tuple _ :: _ => true
 | _ => false
theorem isM_one {v : Value} {r : List Value} (h : v.oneCell' = true) : isM (v :: r) = false := by
 cases v <;> simp_all [isM, Value.oneCell']
theorem isM_all {l : List Value} (h : ∀ v ∈ l, v.oneCell' = true) : isM l = false := by
 cases l with
 | nil => rfl
 | cons v r => exact isM_one (h v (by simp))
theorem isM_app {a b : List Value} (ha : isM a = false) (hb : isM b = false) : isM (a ++ b) = false := by
 cases a with
 | nil => exact hb
 | cons v r => cases v <;> simp_all [isM]
theorem isM_appN {a b : List Value} (ha : isM a = false) (h : a ≠ []) : isM (a ++ b) = false := by
 cases a with
 | nil => exact absurd rfl h
 | cons v r => cases v <;> simp_all [isM]
theorem isM_take {a : List Value} (m : Nat) (ha : isM a = false) : isM (a.take m) = false := by
 cases a with
 | nil => simp [isM]
 | cons v r =>
  cases m with
  | zero => rfl
  | succ m => cases v <;> simp_all [isM]
theorem isM_set {a : List Value} (j : Nat) {u : Value} (ha : isM a = false) (hu : u.oneCell' = true) : isM (a.set j u) = false := by
 cases a with
 | nil => rfl
 | cons v r =>
  cases j with
  | zero => exact isM_one hu
  | succ m => cases v <;> simp_all [isM]
theorem isM_rep {z : Value} (n : Nat) (hz : z.oneCell' = true) : isM (List.replicate n z) = false := isM_all fun v hv => by rw [(List.mem_replicate.1 hv).2]; exact hz
def OwnC (B : Nat) (w : World) (k : Ck) : Prop :=
  k.vs.length = k.n ∧ k.n ≤ k.c ∧ k.c ≤ maxLen ∧
  ((k.A = none ∧ k.c = 0) ∨ ∃ g o cur, k.A = some ⟨g, o, none⟩ ∧ B ≤ g ∧ w.heap[g]? = some (.cells cur k.e (0, 0)) ∧ o + k.c ≤ cur.size ∧ ∀ j, j < k.n → cur[o + j]? = k.vs[j]?)
def OwnM (B : Nat) (w : World) (k : Ck) : Prop :=
 k.n = 0 ∧ k.c = 0 ∧ ∃ g es cl, k.A = some ⟨g, 0, none⟩ ∧ B ≤ g ∧ w.heap[g]? = some (.map es cl) ∧ k.vs = .tuple #[] :: flatM (es.toList.map fun e => (e.key, e.val))
def Own (B : Nat) (w : World) (k : Ck) : Prop := if isM k.vs = true then OwnM B w k else OwnC B w k
theorem Own.ofC {B : Nat} {w : World} {k : Ck} (hm : isM k.vs = false) (h : OwnC B w k) : Own B w k := by unfold Own; rw [if_neg (by simp [hm])]; exact h
theorem Own.toC {B : Nat} {w : World} {k : Ck} (hm : isM k.vs = false) (h : Own B w k) : OwnC B w k := by unfold Own at h; rwa [if_neg (by simp [hm])] at h
theorem Own.cases {B : Nat} {w : World} {k : Ck} (h : Own B w k) : (isM k.vs = true ∧ OwnM B w k) ∨ (isM k.vs = false ∧ OwnC B w k) := by
 unfold Own at h
 split at h
 ·rename_i hm; exact .inl ⟨hm, h⟩
 rename_i hm; exact .inr ⟨by simpa using hm, h⟩
theorem Own.ofM {B : Nat} {w : World} {k : Ck} (hm : isM k.vs = true) (h : OwnM B w k) : Own B w k := by unfold Own; rw [if_pos hm]; exact h
structure St (w0 w : World) (ks : List Ck) : Prop where
 below : Below w0.heap.size w0 w
 own : ∀ k ∈ ks, Own w0.heap.size w k
 apart : (ks.filterMap Ck.blk).Nodup
theorem add_none {g o : Nat} (k : Nat) : (⟨g, o, none⟩ : Addr).add k = ⟨g, o + k, none⟩ := by unfold Addr.add; split <;> simp_all
section
variable {w0 w w' : World} {ks : List Ck} {k : Ck} {B : Nat}
theorem Own.rd (h : Own B w k) : Rd w k.A k.n (fun j => k.vs.getD j undef) := by
 rcases h.cases with ⟨_, hn, _⟩ | ⟨_, h1, h2, h3, h4⟩
 ·intro j hj; omega
 intro j hj
 rcases h4 with ⟨_, h0⟩ | ⟨g, o, cur, hA, hg, hh, hs, hc⟩
 ·omega
 refine ⟨⟨g, o + j, none⟩, by simp [ptrAt, hA, add_none], ?_⟩
 simp only [World.cell?, hh]
 rw [hc j hj]
 simp [List.getD_eq_getElem?_getD, List.getElem?_eq_getElem (show j < k.vs.length by omega)]
theorem Own.mono {B' : Nat} (h : Own B w k) (hB : B' ≤ B) : Own B' w k := by
 rcases h.cases with ⟨hm, hn, hc, g, es, cl, hA, hg, r⟩ | ⟨hm, h1, h2, h3, h4⟩
 ·exact .ofM hm ⟨hn, hc, g, es, cl, hA, by omega, r⟩
 refine .ofC hm ⟨h1, h2, h3, ?_⟩
 rcases h4 with h0 | ⟨g, o, cur, hA, hg, r⟩
 ·exact .inl h0
 exact .inr ⟨g, o, cur, hA, by omega, r⟩
theorem Own.keep (h : Own B w k) (hb : ∀ g, k.blk = some g → w'.heap[g]? = w.heap[g]?) : Own B w' k := by
 rcases h.cases with ⟨hm, hn, hc, g, es, cl, hA, hg, hh, r⟩ | ⟨hm, h1, h2, h3, h4⟩
 ·exact .ofM hm ⟨hn, hc, g, es, cl, hA, hg, by rw [hb g (by simp [Ck.blk, hA])]; exact hh, r⟩
 refine .ofC hm ⟨h1, h2, h3, ?_⟩
 rcases h4 with h0 | ⟨g, o, cur, hA, hg, hh, r⟩
 ·exact .inl h0
 exact .inr ⟨g, o, cur, hA, hg, by rw [hb g (by simp [Ck.blk, hA])]; exact hh, r⟩
theorem Own.lt (h : Own B w k) {g : Nat} (hg : k.blk = some g) : B ≤ g ∧ g < w.heap.size := by
 rcases h.cases with ⟨hm, hn, hc, g', es, cl, hA, hg', hh, r⟩ | ⟨hm, h1, h2, h3, h4⟩
 ·simp [Ck.blk, hA] at hg
  subst hg
  exact ⟨hg', (Array.getElem?_eq_some_iff.1 hh).1⟩
 rcases h4 with ⟨h0, _⟩ | ⟨g', o, cur, hA, hg', hh, r⟩
 ·simp [Ck.blk, h0] at hg
 simp [Ck.blk, hA] at hg
 subst hg
 exact ⟨hg', (Array.getElem?_eq_some_iff.1 hh).1⟩
theorem Own.cap (h : Own B w k) : k.n ≤ k.c ∧ k.c ≤ maxLen := by
 rcases h.cases with ⟨_, hn, hc, _⟩ | ⟨_, _, h2, h3, _⟩
 ·exact ⟨by omega, by rw [hc]; exact Nat.zero_le _⟩
 exact ⟨h2, h3⟩
theorem St.refl (w : World) : St w w [] := ⟨Below.refl _ _, (fun _ h => by cases h), List.nodup_nil⟩
theorem St.get (h : St w0 w ks) {i : Nat} (hk : ks[i]? = some k) : Own w0.heap.size w k := h.own k (List.mem_of_getElem? hk)
theorem St.getC (h : St w0 w ks) {i : Nat} (hk : ks[i]? = some k) (hm : isM k.vs = false) : OwnC w0.heap.size w k := (h.get hk).toC hm
theorem St.rd (h : St w0 w ks) (i : Nat) (hk : ks[i]? = some k) : Rd w k.A k.n (fun j => k.vs.getD j undef) := (h.get hk).rd
theorem Rd.lt {A : Option Addr} {n : Nat} {f : Nat → Value} (h : Rd w A n f) {j : Nat} (hj : j < n) : ∃ p, ptrAt A j = some p ∧ p.block < w.heap.size ∧ w.cell? p = some (f j) := by
 obtain ⟨p, hp, hc⟩ := h j hj
 exact ⟨p, hp, World.block_lt_of_cell? _ _ hc, hc⟩
theorem Rd.below {A : Option Addr} {n : Nat} {f : Nat → Value} (h : Rd w A n f) (hb : Below w.heap.size w w') : Rd w' A n f := fun j hj => by
 obtain ⟨p, hp, hl, hc⟩ := h.lt hj
 exact ⟨p, hp, (hb.cell hl).trans hc⟩
theorem St.old (h : St w0 w ks) {A : Option Addr} {n : Nat} {f : Nat → Value} (hR : Rd w0 A n f) : Rd w A n f := hR.below h.below
theorem Rd.congr {A : Option Addr} {n : Nat} {f g : Nat → Value} (h : Rd w A n f) (hf : ∀ j, j < n → f j = g j) : Rd w A n g := fun j hj => by
 obtain ⟨p, hp, hc⟩ := h j hj
 exact ⟨p, hp, by rw [hc, hf j hj]⟩
theorem St.later (h : St w0 w ks) (hb : Below w.heap.size w w') : St w0 w' ks :=
 ⟨h.below.trans (hb.mono h.below.size), fun k hk => (h.own k hk).keep fun g hg => hb.block g ((h.own k hk).lt hg).2, h.apart⟩
theorem St.drew (h : St w0 w ks) : St w0 w.drew ks := h.later (Below.drew (Below.refl _ _))
theorem St.call {ks' : List Ck} (h : St w0 w ks) (h' : St w w' ks') : St w0 w' (ks' ++ ks) := by
 have h1 := h.later h'.below
 refine ⟨h1.below, fun k hk => ?_, ?_⟩
 ·rcases List.mem_append.1 hk with hk | hk
  ·exact (h'.own k hk).mono h.below.size
  exact h1.own k hk
 rw [List.filterMap_append, List.nodup_append]
 refine ⟨h'.apart, h.apart, fun a ha b hb => ?_⟩
 obtain ⟨k, hk, hka⟩ := List.mem_filterMap.1 ha
 obtain ⟨k', hk', hkb⟩ := List.mem_filterMap.1 hb
 have l1 := ((h'.own k hk).lt hka).1
 have l2 := ((h.own k' hk').lt hkb).2
 omega
theorem St.call2 {ks' : List Ck} (h : St w0 w ks) (h' : St w w' ks') : St w0 w' (ks ++ ks') := by
 have h1 := h.call h'
 exact ⟨h1.below, fun k hk => h1.own k ((List.perm_append_comm (l₁ := ks') (l₂ := ks)).mem_iff.2 hk), ((List.perm_append_comm (l₁ := ks') (l₂ := ks)).filterMap _).nodup_iff.1 h1.apart⟩
theorem St.sub {ks' : List Ck} (h : St w0 w ks) (hs : ks'.Sublist ks) : St w0 w ks' :=
 ⟨h.below, fun k hk => h.own k (hs.subset hk), h.apart.sublist (hs.filterMap _)⟩
theorem St.perm {ks' : List Ck} (h : St w0 w ks) (hs : ks.Perm ks') : St w0 w ks' :=
 ⟨h.below, fun k hk => h.own k (hs.mem_iff.2 hk), (hs.filterMap _).nodup_iff.1 h.apart⟩
theorem St.tail (h : St w0 w (k :: ks)) : St w0 w ks := h.sub (List.sublist_cons_self _ _)
theorem St.none (h : St w0 w ks) : St w0 w [] := h.sub (List.nil_sublist _)
theorem St.nil (h : St w0 w ks) (e : TypeId) : St w0 w (⟨Option.none, 0, 0, e, []⟩ :: ks) :=
 ⟨h.below, fun k hk => by
  rcases List.mem_cons.1 hk with rfl | hk
  ·exact .ofC O ⟨O, Nat.le_refl _, Nat.zero_le _, .inl ⟨O, O⟩⟩
  exact h.own k hk, h.apart⟩
theorem St.alloc (h : St w0 w ks) (cs : List Value) (e : TypeId) (hm : cs.length ≤ maxLen) (hM : isM cs = false) : St w0 (w.alloc (.cells cs.toArray e)) (⟨some ⟨w.heap.size, 0, Option.none⟩, cs.length, cs.length, e, cs⟩ :: ks) := by
 have hb : Below w.heap.size w (w.alloc (.cells cs.toArray e)) := (Below.refl _ _).alloc (Nat.le_refl _) _
 have h1 := h.later hb
 refine ⟨h1.below, fun k hk => ?_, ?_⟩
 ·rcases List.mem_cons.1 hk with rfl | hk
  ·exact .ofC hM ⟨O, Nat.le_refl _, hm, .inr ⟨_, 0, cs.toArray, O, h.below.size, heap_alloc_new w _, by simp, fun j hj => by simp⟩⟩
  exact h1.own k hk
 simp only [List.filterMap_cons, Ck.blk, Option.map_some, List.nodup_cons]
 refine ⟨fun hin => ?_, h.apart⟩
 obtain ⟨k', hk', hkb⟩ := List.mem_filterMap.1 hin
 have := ((h.own k' hk').lt hkb).2
 omega
theorem filterMap_set {α β : Type} (f : α → Option β) : ∀ (l : List α) (i : Nat) (a b : α), l[i]? = some a → f b = f a → (l.set i b).filterMap f = l.filterMap f
 | [], _, _, _, h, _ => by simp at h
 | x :: l, 0, a, b, h, he => by
  simp at h
  subst h
  simp [List.filterMap_cons, he]
 | x :: l, i + 1, a, b, h, he => by
  simp only [List.getElem?_cons_succ] at h
  simp only [List.set_cons_succ, List.filterMap_cons, filterMap_set f l i a b h he]
theorem St.turn {i g : Nat} {k' : Ck} (h : St w0 w ks) (hk : ks[i]? = some k) (hbk : k.blk = some g) (hbk' : k'.blk = some g) (hw : GrB w w' (some g)) (ho : Own w0.heap.size w' k') : St w0 w' (ks.set i k') := by
 have hlt := (h.get hk).lt hbk
 refine ⟨h.below.grown hw h.below.size (fun x hx => by cases hx; exact hlt.1), fun x hx => ?_, ?_⟩
 ·obtain ⟨j, hj, rfl⟩ := List.mem_iff_getElem.1 hx
  have hj' : j < ks.length := by simpa using hj
  rw [List.getElem_set]
  split
  ·exact ho
  ·rename_i hne
   have hm : ks[j] ∈ ks := List.getElem_mem _
   refine (h.own _ hm).keep fun g' hg' => hw.g.block g' ((h.own _ hm).lt hg').2 fun e => ?_
   injection e with e
   subst e
   -- two rows in one block
   have hi' : i < ks.length := (List.getElem?_eq_some_iff.1 hk).1
   have hki : ks[i] = k := (List.getElem?_eq_some_iff.1 hk).2
   exact absurd (show False from by
    have hn := h.apart
    have key : ∀ (l : List Ck), (l.filterMap Ck.blk).Nodup → ∀ i j (hi : i < l.length) (hj : j < l.length), i ≠ j → l[i].blk = some g' → l[j].blk = some g' → False := by
     intro l
     induction l with
     | nil => intro _ i j hi; simp at hi
     | cons a l ih =>
      intro hn i j hi hj hne h1 h2
      cases i with
      | zero =>
       cases j with
       | zero => exact hne rfl
       | succ j =>
        simp only [List.getElem_cons_zero] at h1
        simp only [List.getElem_cons_succ] at h2
        rw [List.filterMap_cons, h1] at hn
        simp only [List.nodup_cons] at hn
        exact hn.1 (List.mem_filterMap.2 ⟨_, List.getElem_mem _, h2⟩)
      | succ i =>
       cases j with
       | zero =>
        simp only [List.getElem_cons_zero] at h2
        simp only [List.getElem_cons_succ] at h1
        rw [List.filterMap_cons, h2] at hn
        simp only [List.nodup_cons] at hn
        exact hn.1 (List.mem_filterMap.2 ⟨_, List.getElem_mem _, h1⟩)
       | succ j =>
        have hn' : (l.filterMap Ck.blk).Nodup := by
         rw [List.filterMap_cons] at hn
         split at hn
         ·exact hn
         ·exact (List.nodup_cons.1 hn).2
        exact ih hn' i j (by simpa using hi) (by simpa using hj) (by omega) (by simpa using h1) (by simpa using h2)
    exact key ks hn i j hi' hj' hne (by rw [hki]; exact hbk) hg') id
 ·rw [filterMap_set Ck.blk ks i k k' hk (by rw [hbk, hbk'])]
  exact h.apart
theorem St.store (h : St w0 w ks) (i : Nat) (hk : ks[i]? = some k) {j : Nat} (hj : j < k.n) (u : Value) (hu : u.oneCell' = true) :
  ∃ p, ptrAt k.A j = some p ∧ (∃ v, w.cell? p = some v) ∧ w.frozen? p = false ∧ St w0 (w.setCell p u) (ks.set i { k with vs := k.vs.set j u }) := by
 rcases (h.get hk).cases with ⟨_, hn0, _⟩ | ⟨hM, h1, h2, h3, h4⟩
 ·omega
 rcases h4 with ⟨_, h0⟩ | ⟨g, o, cur, hA, hg, hh, hs, hc⟩
 ·omega
 refine ⟨⟨g, o + j, Option.none⟩, by simp [ptrAt, hA, add_none], ?_, ?_, ?_⟩
 ·have : o + j < cur.size := by omega
  exact ⟨cur[o + j], by simp [World.cell?, hh, Array.getElem?_eq_getElem this]⟩
 ·simp [World.frozen?, hh]
 have hbk : k.blk = some g := by simp [Ck.blk, hA]
 have hlt := (Array.getElem?_eq_some_iff.1 hh).1
 refine h.turn (k' := { k with vs := k.vs.set j u }) hk hbk hbk ⟨⟨O, O, O, by simp, fun x _ hx => heap_setCell_other w ⟨g, o + j, Option.none⟩ x u (fun e => hx (by simp [e]))⟩, Nat.le_refl _⟩ ?_
 refine .ofC (isM_set j hM hu) ⟨by simpa using h1, h2, h3, .inr ⟨g, o, cur.setIfInBounds (o + j) u, hA, hg, heap_setCell_same w g (o + j) cur k.e u hh, by simpa using hs, fun m hm => ?_⟩⟩
 have hm' : m < k.n := hm
 rw [Array.getElem?_setIfInBounds]
 show _ = (k.vs.set j u)[m]?
 rw [List.getElem?_set]
 by_cases e : j = m
 ·subst e
  rw [if_pos rfl, if_pos rfl, if_pos (by omega), if_pos (by omega)]
 rw [if_neg (by omega), if_neg e]
 exact hc m hm'
end
/-
 The operations on memory: addresses, loads, stores, make, literals, cuts, append.
-/
/-! typed readings -/
structure SlV where
 a : Option Addr
 n : Nat
 c : Nat
def SlV.v (s : SlV) : Value := .slice s.a s.n s.c
def slNil : SlV := ⟨none, 0, 0⟩
def gi (xs : List Int) (i : Int) : Int := xs.getD i.toNat 0
def gb (xs : List Bool) (i : Int) : Bool := xs.getD i.toNat false
def rg (xs : List SlV) (i : Int) : SlV := xs.getD i.toNat slNil
def RdI (w : World) (A : Option Addr) (n : Nat) (xs : List Int) : Prop := xs.length = n ∧ Rd w A n (fun j => .int .i64 (xs.getD j 0))
def RdB (w : World) (A : Option Addr) (n : Nat) (xs : List Bool) : Prop := xs.length = n ∧ Rd w A n (fun j => .bool (xs.getD j false))
def RdR (w : World) (A : Option Addr) (n : Nat) (xs : List SlV) : Prop := xs.length = n ∧ Rd w A n (fun j => (xs.getD j slNil).v)
abbrev CkI (t : TypeId) (A : Option Addr) (n c : Nat) (xs : List Int) : Ck := ⟨A, n, c, t, xs.map (.int .i64)⟩
abbrev CkB (t : TypeId) (A : Option Addr) (n c : Nat) (xs : List Bool) : Ck := ⟨A, n, c, t, xs.map .bool⟩
abbrev CkR (t : TypeId) (A : Option Addr) (n c : Nat) (xs : List SlV) : Ck := ⟨A, n, c, t, xs.map SlV.v⟩
theorem isM_I (xs : List Int) : isM (xs.map (Value.int .i64)) = false := isM_all fun v hv => by obtain ⟨_, _, rfl⟩ := List.mem_map.1 hv; rfl
theorem isM_B (xs : List Bool) : isM (xs.map Value.bool) = false := isM_all fun v hv => by obtain ⟨_, _, rfl⟩ := List.mem_map.1 hv; rfl
theorem isM_R (xs : List SlV) : isM (xs.map SlV.v) = false := isM_all fun v hv => by obtain ⟨_, _, rfl⟩ := List.mem_map.1 hv; rfl
section
variable {w0 w w' : World} {ks : List Ck} {t : TypeId} {A : Option Addr} {n c : Nat}
theorem St.rdI {xs : List Int} (h : St w0 w ks) (i : Nat) (hk : ks[i]? = some (CkI t A n c xs)) : RdI w A n xs := by
 have hl : xs.length = n := by have := (h.getC hk (isM_I xs)).1; simpa using this
 exact ⟨hl, (h.rd i hk).congr fun j hj => by have hj' : j < n := hj; simp [List.getD_eq_getElem?_getD, List.getElem?_eq_getElem (show j < xs.length by omega)]⟩
theorem St.rdB {xs : List Bool} (h : St w0 w ks) (i : Nat) (hk : ks[i]? = some (CkB t A n c xs)) : RdB w A n xs := by
 have hl : xs.length = n := by have := (h.getC hk (isM_B xs)).1; simpa using this
 exact ⟨hl, (h.rd i hk).congr fun j hj => by have hj' : j < n := hj; simp [List.getD_eq_getElem?_getD, List.getElem?_eq_getElem (show j < xs.length by omega)]⟩
theorem St.rdR {xs : List SlV} (h : St w0 w ks) (i : Nat) (hk : ks[i]? = some (CkR t A n c xs)) : RdR w A n xs := by
 have hl : xs.length = n := by have := (h.getC hk (isM_R xs)).1; simpa using this
 exact ⟨hl, (h.rd i hk).congr fun j hj => by have hj' : j < n := hj; simp [List.getD_eq_getElem?_getD, List.getElem?_eq_getElem (show j < xs.length by omega)]⟩
theorem St.oldI {xs : List Int} (h : St w0 w ks) (hR : RdI w0 A n xs) : RdI w A n xs := ⟨hR.1, h.old hR.2⟩
theorem St.oldR {xs : List SlV} (h : St w0 w ks) (hR : RdR w0 A n xs) : RdR w A n xs := ⟨hR.1, h.old hR.2⟩
theorem St.cap {k : Ck} (h : St w0 w ks) (i : Nat) (hk : ks[i]? = some k) : k.n ≤ k.c ∧ k.c ≤ maxLen := (h.get hk).cap
theorem St.lenI {xs : List Int} (h : St w0 w ks) (i : Nat) (hk : ks[i]? = some (CkI t A n c xs)) : xs.length = n := (h.rdI i hk).1
theorem RdI.later {xs : List Int} (h : RdI w A n xs) (hb : Below w.heap.size w w') : RdI w' A n xs := ⟨h.1, h.2.below hb⟩
theorem RdB.later {xs : List Bool} (h : RdB w A n xs) (hb : Below w.heap.size w w') : RdB w' A n xs := ⟨h.1, h.2.below hb⟩
theorem RdR.later {xs : List SlV} (h : RdR w A n xs) (hb : Below w.heap.size w w') : RdR w' A n xs := ⟨h.1, h.2.below hb⟩
theorem RdI.nil : RdI w none 0 [] := ⟨rfl, fun k hk => by omega⟩
end
section
variable {P : Program} {N : Nat} {ops : Array Oper} {K : Env → World → Prop} {rest : List Oper} {e : Env} {w0 w w' : World} {ks : List Ck} {d : Nat} {ty : TypeId} {pos : String} {af : Array Edge}
theorem Ops.idx {t el : TypeId} {z : Value} {b : Nat} [Und P t (.slice el)] [Inf P el z 1 b] {x ix : Operand} {A : Option Addr} {n c : Nat} {k : IntKind} {i : Int} {f : Nat → Value} (hR : Rd w A n f) (hx : ev e x = .slice A n c) (hy : ev e ix = .int k i) (hb : Nat.blt d N = true) (h0 : 0 ≤ i) (h1 : i < (n : Int)) (hK : Ops P N ops K rest (upd e d (.pointer (ptrAt A i.toNat))) w) :
  Ops P N ops K (⟨some d, .indexAddr t x ix, ty, pos, af, none⟩ :: rest) e w := by
 obtain ⟨p, hp, _⟩ := hR i.toNat (by omega)
 obtain ⟨q, rfl⟩ : ∃ q, A = some q := by cases A with | none => simp [ptrAt] at hp | some q => exact ⟨q, rfl⟩
 obtain ⟨inf, hi, _, hs, _⟩ := Inf.get P el
 refine .val (w' := w) ?_ hb hK
 simp [execOp, Instr.indexAt, hx, hy, asIntOf, run_underlying (Und.out (P := P) (t := t)), h0, h1, sizeOf, typeInfo, hi, hs, ptrAt]
def plainTy : TypeDesc → Bool
 | .struct _ => false
 | .array _ _ => false
 | _ => true
theorem run_isAgg {t : TypeId} {u : TypeDesc} (hu : P.underlying t = some u) (hp : plainTy u = true) : (isAgg t).run P w = .ok false w := by
 cases u <;> simp [plainTy] at hp <;> simp [isAgg, run_underlying hu]
theorem Ops.ld {t : TypeId} {u : TypeDesc} [Und P t u] {x : Operand} {A : Option Addr} {n j : Nat} {f : Nat → Value} {v : Value} (hR : Rd w A n f) (hx : ev e x = .pointer (ptrAt A j)) (hj : j < n) (hv : f j = v) (hp : plainTy u = true) (hb : Nat.blt d N = true) (hK : Ops P N ops K rest (upd e d v) w) : Ops P N ops K (⟨some d, .load t x, ty, pos, af, none⟩ :: rest) e w := by
 obtain ⟨p, hp', hc⟩ := hR j hj
 subst hv
 refine .val (w' := w) ?_ hb hK
 simp [execOp, Instr.loadAt, hx, hp', Instr.sureAddr, loadVar, run_isAgg (Und.out (P := P) (t := t)) hp, hc]
theorem Ops.ld_int {t : TypeId} {u : TypeDesc} [Und P t u] {x : Operand} {A : Option Addr} {n : Nat} {i : Int} {xs : List Int} (hR : RdI w A n xs) (hx : ev e x = .pointer (ptrAt A i.toNat)) (hj : i.toNat < n) (hp : plainTy u = true) (hb : Nat.blt d N = true) (hK : Ops P N ops K rest (upd e d (.int .i64 (gi xs i))) w) : Ops P N ops K (⟨some d, .load t x, ty, pos, af, none⟩ :: rest) e w := .ld hR.2 hx hj rfl hp hb hK
theorem Ops.ld_bool {t : TypeId} {u : TypeDesc} [Und P t u] {x : Operand} {A : Option Addr} {n : Nat} {i : Int} {xs : List Bool} (hR : RdB w A n xs) (hx : ev e x = .pointer (ptrAt A i.toNat)) (hj : i.toNat < n) (hp : plainTy u = true) (hb : Nat.blt d N = true) (hK : Ops P N ops K rest (upd e d (.bool (gb xs i))) w) : Ops P N ops K (⟨some d, .load t x, ty, pos, af, none⟩ :: rest) e w := .ld hR.2 hx hj rfl hp hb hK
theorem Ops.ld_sl {t : TypeId} {u : TypeDesc} [Und P t u] {x : Operand} {A : Option Addr} {n : Nat} {i : Int} {xs : List SlV} (hR : RdR w A n xs) (hx : ev e x = .pointer (ptrAt A i.toNat)) (hj : i.toNat < n) (hp : plainTy u = true) (hb : Nat.blt d N = true) (hK : Ops P N ops K rest (upd e d (.slice (rg xs i).a (rg xs i).n (rg xs i).c)) w) : Ops P N ops K (⟨some d, .load t x, ty, pos, af, none⟩ :: rest) e w := .ld hR.2 hx hj rfl hp hb hK
theorem Ops.st {t : TypeId} {z : Value} {b : Nat} [Inf P t z 1 b] {a x : Operand} {i j : Nat} {k : Ck} {u : Value} (hS : St w0 w ks) (hk : ks[i]? = some k) (ha : ev e a = .pointer (ptrAt k.A j)) (hx : ev e x = u) (h1 : u.oneCell' = true) (hj : j < k.n) (hK : ∀ w', St w0 w' (ks.set i { k with vs := k.vs.set j u }) → Ops P N ops K rest e w') : Ops P N ops K (⟨none, .store t a x, ty, pos, af, none⟩ :: rest) e w := by
 obtain ⟨p, hp, ⟨v, hc⟩, hf, hS'⟩ := hS.store i hk hj u h1
 obtain ⟨inf, hi, _, hs, _⟩ := Inf.get P t
 refine .unit (w' := w.setCell p u) ?_ (hK _ hS')
 have hcells : u.cells = #[u] := by cases u <;> simp [Value.oneCell'] at h1 <;> rfl
 simp [execOp, Instr.storeAt, ha, hx, hp, Instr.sureAddr, storeVar, sizeOf, typeInfo, hi, hs, hcells, storeCells, run_store _ _ _ _ _ h1, hc, hf, Addr.add]
theorem Ops.st_int {t te : TypeId} {z : Value} {b : Nat} [Inf P t z 1 b] {a x : Operand} (m : Nat) {i : Int} {A : Option Addr} {n c : Nat} {xs : List Int} {u : Int} (hS : St w0 w ks) (hk : ks[m]? = some (CkI te A n c xs)) (ha : ev e a = .pointer (ptrAt A i.toNat)) (hx : ev e x = .int .i64 u) (hj : i.toNat < n) (hK : ∀ w', St w0 w' (ks.set m (CkI te A n c (xs.set i.toNat u))) → Ops P N ops K rest e w') : Ops P N ops K (⟨none, .store t a x, ty, pos, af, none⟩ :: rest) e w :=
 .st hS hk ha hx rfl hj fun w' h => hK w' (by simpa [CkI, List.map_set] using h)
theorem Ops.st_bool {t te : TypeId} {z : Value} {b : Nat} [Inf P t z 1 b] {a x : Operand} (m : Nat) {i : Int} {A : Option Addr} {n c : Nat} {xs : List Bool} {u : Bool} (hS : St w0 w ks) (hk : ks[m]? = some (CkB te A n c xs)) (ha : ev e a = .pointer (ptrAt A i.toNat)) (hx : ev e x = .bool u) (hj : i.toNat < n) (hK : ∀ w', St w0 w' (ks.set m (CkB te A n c (xs.set i.toNat u))) → Ops P N ops K rest e w') : Ops P N ops K (⟨none, .store t a x, ty, pos, af, none⟩ :: rest) e w :=
 .st hS hk ha hx rfl hj fun w' h => hK w' (by simpa [CkB, List.map_set] using h)
theorem Ops.st_sl {t te : TypeId} {z : Value} {b : Nat} [Inf P t z 1 b] {a x : Operand} (m : Nat) {i : Int} {A : Option Addr} {n c : Nat} {xs : List SlV} {A1 : Option Addr} {n1 c1 : Nat} (hS : St w0 w ks) (hk : ks[m]? = some (CkR te A n c xs)) (ha : ev e a = .pointer (ptrAt A i.toNat)) (hx : ev e x = .slice A1 n1 c1) (hj : i.toNat < n) (hK : ∀ w', St w0 w' (ks.set m (CkR te A n c (xs.set i.toNat ⟨A1, n1, c1⟩))) → Ops P N ops K rest e w') : Ops P N ops K (⟨none, .store t a x, ty, pos, af, none⟩ :: rest) e w :=
 .st hS hk ha hx rfl hj fun w' h => hK w' (by simpa [CkR, List.map_set, SlV.v] using h)
theorem madeCells_one (z : Value) (n : Nat) : (madeCells #[z] n) = (List.replicate n z).toArray := by
 rw [← toList_madeCells_one z n]
theorem Ops.mk {t el : TypeId} {z : Value} {b : Nat} [Und P t (.slice el)] [Inf P el z 1 b] {x : Operand} {k : IntKind} (n : Nat) (hS : St w0 w ks) (hx : ev e x = .int k (n : Int)) (hz : z.cells = #[z]) (h1z : z.oneCell' = true) (hb : Nat.blt d N = true) (hn : b * n ≤ 281474976710656 ∧ n ≤ 9223372036854775807) (hK : ∀ A w', St w0 w' (⟨A, n, n, el, List.replicate n z⟩ :: ks) → Ops P N ops K rest (upd e d (.slice A n n)) w') : Ops P N ops K (⟨some d, .makeSlice t x x, ty, pos, af, none⟩ :: rest) e w := by
 obtain ⟨inf, hi, hz0, hs, hby⟩ := Inf.get P el
 have hr := run_make_row (P := P) t el inf z (Und.out (P := P) (t := t)) hi hz0 hs hz k k n (by rw [hby]; exact hn.1) hn.2 w
 have hA := hS.alloc (List.replicate n z) el (by simp [maxLen]; omega) (isM_rep n h1z)
 rw [madeCells_one] at hr
 refine .val (w' := w.alloc (.cells (List.replicate n z).toArray el)) ?_ hb (hK _ _ (by simpa using hA))
 simp only [execOp, hx, Sem.run_bind, hr, Result.andThen_ok, Sem.run_pure]
theorem Ops.mkB {t el : TypeId} {b : Nat} {v : Bool} [Und P t (.slice el)] [Inf P el (.bool v) 1 b] {x : Operand} {k : IntKind} (n : Nat) (hS : St w0 w ks) (hx : ev e x = .int k (n : Int)) (hb : Nat.blt d N = true) (hn : b * n ≤ 281474976710656 ∧ n ≤ 9223372036854775807) (hK : ∀ A w', St w0 w' (CkB el A n n (List.replicate n v) :: ks) → Ops P N ops K rest (upd e d (.slice A n n)) w') : Ops P N ops K (⟨some d, .makeSlice t x x, ty, pos, af, none⟩ :: rest) e w :=
 .mk n hS hx rfl rfl hb hn fun A w' h => hK A w' (by unfold CkB; rw [List.map_replicate]; exact h)
theorem Ops.mkI {t el : TypeId} {b : Nat} {v : Int} [Und P t (.slice el)] [Inf P el (.int .i64 v) 1 b] {x : Operand} {k : IntKind} (n : Nat) (hS : St w0 w ks) (hx : ev e x = .int k (n : Int)) (hb : Nat.blt d N = true) (hn : b * n ≤ 281474976710656 ∧ n ≤ 9223372036854775807) (hK : ∀ A w', St w0 w' (CkI el A n n (List.replicate n v) :: ks) → Ops P N ops K rest (upd e d (.slice A n n)) w') : Ops P N ops K (⟨some d, .makeSlice t x x, ty, pos, af, none⟩ :: rest) e w :=
 .mk n hS hx rfl rfl hb hn fun A w' h => hK A w' (by unfold CkI; rw [List.map_replicate]; exact h)
theorem Ops.mkR {t el : TypeId} {b : Nat} [Und P t (.slice el)] [Inf P el (.slice none 0 0) 1 b] {x : Operand} {k : IntKind} (n : Nat) (hS : St w0 w ks) (hx : ev e x = .int k (n : Int)) (hb : Nat.blt d N = true) (hn : b * n ≤ 281474976710656 ∧ n ≤ 9223372036854775807) (hK : ∀ A w', St w0 w' (CkR el A n n (List.replicate n slNil) :: ks) → Ops P N ops K rest (upd e d (.slice A n n)) w') : Ops P N ops K (⟨some d, .makeSlice t x x, ty, pos, af, none⟩ :: rest) e w :=
 .mk n hS hx rfl rfl hb hn fun A w' h => hK A w' (by unfold CkR; rw [List.map_replicate]; exact h)
/-! literals -/
theorem arr_range (f : Nat → Value) (n : Nat) : (Array.range n).map f = ((List.range n).map f).toArray := by apply Array.ext'; simp
theorem Ops.bs0 {t el : TypeId} {z : Value} {b : Nat} [Und P t (.slice el)] [Inf P el z 1 b] (hS : St w0 w ks) (hb : Nat.blt d N = true) (hK : ∀ A w', St w0 w' (⟨A, 0, 0, el, []⟩ :: ks) → Ops P N ops K rest (upd e d (.slice A 0 0)) w') : Ops P N ops K (⟨some d, .buildSlice t 0 #[], ty, pos, af, none⟩ :: rest) e w := by
 obtain ⟨inf, hi, hz0, hs, hby⟩ := Inf.get P el
 refine .val (w' := w.alloc (.cells #[] el)) ?_ hb (hK _ _ (hS.alloc [] el (by simp) O))
 simp [execOp, Instr.buildSlice, run_underlying (Und.out (P := P) (t := t)), sizeOf, typeInfo, hi, hs, Instr.fill, newRow, arr_range]
theorem Ops.bs1 {t el : TypeId} {z : Value} {b : Nat} [Und P t (.slice el)] [Inf P el z 1 b] {x0 : Operand} {v0 : Value} (hS : St w0 w ks) (h0 : ev e x0 = v0) (c0 : v0.oneCell' = true) (hz : z.cells = #[z]) (hb : Nat.blt d N = true) (hK : ∀ A w', St w0 w' (⟨A, 1, 1, el, [v0]⟩ :: ks) → Ops P N ops K rest (upd e d (.slice A 1 1)) w') : Ops P N ops K (⟨some d, .buildSlice t 1 #[(0, x0)], ty, pos, af, none⟩ :: rest) e w := by
 obtain ⟨inf, hi, hz0, hs, hby⟩ := Inf.get P el
 have e0 : v0.cells = #[v0] := by cases v0 <;> simp [Value.oneCell'] at c0 <;> rfl
 refine .val (w' := w.alloc (.cells #[v0] el)) ?_ hb (hK _ _ (hS.alloc [v0] el (by simp [maxLen]) (isM_one c0)))
 simp [execOp, Instr.buildSlice, run_underlying (Und.out (P := P) (t := t)), sizeOf, typeInfo, zeroValue, hi, hs, hz0, hz, Instr.fill, newRow, h0, e0, arr_range, List.range_succ]
theorem Ops.bs2 {t el : TypeId} {z : Value} {b : Nat} [Und P t (.slice el)] [Inf P el z 1 b] {x0 x1 : Operand} {v0 v1 : Value} (hS : St w0 w ks) (h0 : ev e x0 = v0) (h1 : ev e x1 = v1) (c0 : v0.oneCell' = true) (c1 : v1.oneCell' = true) (hz : z.cells = #[z]) (hb : Nat.blt d N = true) (hK : ∀ A w', St w0 w' (⟨A, 2, 2, el, [v0, v1]⟩ :: ks) → Ops P N ops K rest (upd e d (.slice A 2 2)) w') : Ops P N ops K (⟨some d, .buildSlice t 2 #[(0, x0), (1, x1)], ty, pos, af, none⟩ :: rest) e w := by
 obtain ⟨inf, hi, hz0, hs, hby⟩ := Inf.get P el
 have e0 : v0.cells = #[v0] := by cases v0 <;> simp [Value.oneCell'] at c0 <;> rfl
 have e1 : v1.cells = #[v1] := by cases v1 <;> simp [Value.oneCell'] at c1 <;> rfl
 refine .val (w' := w.alloc (.cells #[v0, v1] el)) ?_ hb (hK _ _ (hS.alloc [v0, v1] el (by simp [maxLen]) (isM_one c0)))
 simp [execOp, Instr.buildSlice, run_underlying (Und.out (P := P) (t := t)), sizeOf, typeInfo, zeroValue, hi, hs, hz0, hz, Instr.fill, newRow, h0, e0, h1, e1, arr_range, List.range_succ]
/-! boxes, structs -/
theorem Ops.box {el : TypeId} {x : Operand} {v : Value} (hS : St w0 w ks) (hx : ev e x = v) (hb : Nat.blt d N = true) (hm : v.cells.size ≤ maxLen) (hK : ∀ A w', St w0 w' (⟨A, v.cells.size, v.cells.size, el, v.cells.toList⟩ :: ks) → Ops P N ops K rest (upd e d (.pointer A)) w') (hM : isM v.cells.toList = false := by rfl) : Ops P N ops K (⟨some d, .box el x, ty, pos, af, none⟩ :: rest) e w := by
 have hA := hS.alloc v.cells.toList el (by simpa using hm) hM
 refine .val (w' := w.alloc (.cells v.cells el)) ?_ hb (hK _ _ (by simpa using hA))
 simp [execOp, Instr.box, newVar, newRow, hx]
theorem Ops.box_agg {el : TypeId} {x : Operand} {cs : Array Value} (hS : St w0 w ks) (hx : ev e x = .agg cs) (hb : Nat.blt d N = true) (hm : Nat.ble cs.size 100 = true) (hK : ∀ A w', St w0 w' (⟨A, cs.size, cs.size, el, cs.toList⟩ :: ks) → Ops P N ops K rest (upd e d (.pointer A)) w') (hM : isM cs.toList = false := by rfl) : Ops P N ops K (⟨some d, .box el x, ty, pos, af, none⟩ :: rest) e w :=
 .box hS hx hb (by show cs.size ≤ maxLen; have := Nat.le_of_ble_eq_true hm; simp only [maxLen]; omega) hK hM
theorem Ops.new {el : TypeId} {z : Value} {s b : Nat} [Inf P el z s b] (hS : St w0 w ks) (hb : Nat.blt d N = true) (hm' : Nat.ble z.cells.size 100 = true) (hK : ∀ A w', St w0 w' (⟨A, z.cells.size, z.cells.size, el, z.cells.toList⟩ :: ks) → Ops P N ops K rest (upd e d (.pointer A)) w') (hM : isM z.cells.toList = false := by rfl) : Ops P N ops K (⟨some d, .alloc el, ty, pos, af, none⟩ :: rest) e w := by
 obtain ⟨inf, hi, hz0, hs, hby⟩ := Inf.get P el
 have hm : z.cells.size ≤ maxLen := by have := Nat.le_of_ble_eq_true hm'; simp only [maxLen]; omega
 have hA := hS.alloc z.cells.toList el (by simpa using hm) hM
 refine .val (w' := w.alloc (.cells z.cells el)) ?_ hb (hK _ _ (by simpa using hA))
 simp [execOp, Instr.alloc, zeroValue, typeInfo, hi, hz0, newVar, newRow]
theorem Ops.nilp {x : Operand} {A : Option Addr} {n : Nat} {f : Nat → Value} (hR : Rd w A n f) (hn : 0 < n) (hx : ev e x = .pointer A) (hb : Nat.blt d N = true) (hK : Ops P N ops K rest (upd e d (.pointer A)) w) :
  Ops P N ops K (⟨some d, .nilCheck x, ty, pos, af, none⟩ :: rest) e w := by
 obtain ⟨p, hp, _⟩ := hR 0 hn
 obtain ⟨q, rfl⟩ : ∃ q, A = some q := by cases A with | none => simp [ptrAt] at hp | some q => exact ⟨q, rfl⟩
 exact .nilc hx hb hK
def fieldOf : List Field → Nat → Option (TypeId × Nat)
 | f :: _, 0 => some (f.type, f.offset)
 | _ :: r, m + 1 => fieldOf r m
 | [], _ => none
theorem fieldOf_get : ∀ {l : List Field} {m : Nat} {ft off : Nat}, fieldOf l m = some (ft, off) → ∃ fd, l[m]? = some fd ∧ fd.type = ft ∧ fd.offset = off
 | [], _, _, _, h => by simp [fieldOf] at h
 | f :: _, 0, _, _, h => by simp [fieldOf] at h; exact ⟨f, rfl, h.1, h.2⟩
 | _ :: r, m + 1, _, _, h => by simpa using fieldOf_get (l := r) (m := m) h
theorem Ops.fld {s : TypeId} {fs : Array Field} [Und P s (.struct fs)] {x : Operand} {A : Option Addr} {n m ft off : Nat} {f : Nat → Value} {z : Value} {sz b : Nat} (hR : Rd w A n f) (hx : ev e x = .pointer A) (hf : fieldOf fs.toList m = some (ft, off)) (hn : Nat.blt 0 n = true) (hb : Nat.blt d N = true) (hI : Inf P ft z (sz + 1) b) (hK : Ops P N ops K rest (upd e d (.pointer (ptrAt A off))) w) : Ops P N ops K (⟨some d, .fieldAddr s x m, ty, pos, af, none⟩ :: rest) e w := by
 obtain ⟨p, hp, _⟩ := hR 0 (by simpa [Nat.blt_eq] using hn)
 obtain ⟨q, rfl⟩ : ∃ q, A = some q := by cases A with | none => simp [ptrAt] at hp | some q => exact ⟨q, rfl⟩
 obtain ⟨fd, hf1, rfl, rfl⟩ := fieldOf_get hf
 have hf2 : fs[m]? = some fd := by simpa using hf1
 obtain ⟨inf, hi, hz0, hs, hby⟩ := Inf.get P fd.type
 refine .val (w' := w) ?_ hb hK
 simp [execOp, Instr.fieldAt, run_underlying (Und.out (P := P) (t := s)), hf2, hx, Instr.sureAddr, fieldPlace, sizeOf, typeInfo, hi, hs, ptrAt]
theorem Ops.ld_agg {t : TypeId} {fs : Array Field} {z : Value} {b : Nat} (m : Nat) [Und P t (.struct fs)] [Inf P t z (m + 1) b] {x : Operand} {A : Option Addr} {f : Nat → Value} {cs : Array Value} (hR : Rd w A (m + 1) f) (hx : ev e x = .pointer A) (hcs : ((List.range (m + 1)).map f).toArray = cs) (hb : Nat.blt d N = true) (hK : Ops P N ops K rest (upd e d (.agg cs)) w) : Ops P N ops K (⟨some d, .load t x, ty, pos, af, none⟩ :: rest) e w := by
 obtain ⟨p, hp, _⟩ := hR 0 (by omega)
 obtain ⟨q, rfl⟩ : ∃ q, A = some q := by cases A with | none => simp [ptrAt] at hp | some q => exact ⟨q, rfl⟩
 obtain ⟨inf, hi, hz0, hs, hby⟩ := Inf.get P t
 have hl := run_loadCells (P := P) w q (m + 1) f (fun j hj => by
  obtain ⟨p, hp, hc⟩ := hR j hj
  simp [ptrAt] at hp
  rw [hp]; exact hc)
 subst hcs
 refine .val (w' := w) ?_ hb hK
 simp [execOp, Instr.loadAt, hx, Instr.sureAddr, loadVar, isAgg, run_underlying (Und.out (P := P) (t := t)), sizeOf, typeInfo, hi, hs, hl]
theorem ptrAt_zero (A : Option Addr) : ptrAt A 0 = A := by cases A <;> simp [ptrAt, Addr.add]
theorem ptrAt_ptrAt (A : Option Addr) (i j : Nat) : ptrAt (ptrAt A i) j = ptrAt A (i + j) := by
 cases A with
 | none => rfl
 | some q => simp only [ptrAt, Option.map_some]; unfold Addr.add; by_cases h1 : i = 0 <;> by_cases h2 : j = 0 <;> simp [h1, h2, Nat.add_assoc]
abbrev Bx (t : TypeId) (n : Nat) (A : Option Addr) (vs : List Value) : Ck := ⟨A, n, n, t, vs⟩
theorem Ops.box1 {el : TypeId} {x : Operand} {v0 : Value} (hS : St w0 w ks) (hx : ev e x = .agg #[v0]) (hb : Nat.blt d N = true) (hK : ∀ A w', St w0 w' (Bx el 1 A [v0] :: ks) → Ops P N ops K rest (upd e d (.pointer A)) w') (hM : isM [v0] = false := by rfl) : Ops P N ops K (⟨some d, .box el x, ty, pos, af, none⟩ :: rest) e w := .box_agg hS hx hb rfl hK hM
theorem Ops.new1 {el : TypeId} {v0 : Value} {s b : Nat} [Inf P el (.agg #[v0]) s b] (hS : St w0 w ks) (hb : Nat.blt d N = true) (hK : ∀ A w', St w0 w' (Bx el 1 A [v0] :: ks) → Ops P N ops K rest (upd e d (.pointer A)) w') (hM : isM [v0] = false := by rfl) : Ops P N ops K (⟨some d, .alloc el, ty, pos, af, none⟩ :: rest) e w := .new (el := el) (z := .agg #[v0]) (s := s) (b := b) hS hb rfl hK hM
theorem Ops.ldf_s {t : TypeId} {u : TypeDesc} [Und P t u] {x : Operand} {A A1 : Option Addr} {n j n1 c1 : Nat} {f : Nat → Value} (hR : Rd w A n f) (hx : ev e x = .pointer (ptrAt A j)) (hj : Nat.blt j n = true) (hv : f j = .slice A1 n1 c1) (hp : plainTy u = true) (hb : Nat.blt d N = true) (hK : Ops P N ops K rest (upd e d (.slice A1 n1 c1)) w) : Ops P N ops K (⟨some d, .load t x, ty, pos, af, none⟩ :: rest) e w := .ld hR hx (by simpa [Nat.blt_eq] using hj) hv hp hb hK
theorem Ops.ldf_i {t : TypeId} {u : TypeDesc} [Und P t u] {x : Operand} {A : Option Addr} {n j : Nat} {k : IntKind} {i : Int} {f : Nat → Value} (hR : Rd w A n f) (hx : ev e x = .pointer (ptrAt A j)) (hj : Nat.blt j n = true) (hv : f j = .int k i) (hp : plainTy u = true) (hb : Nat.blt d N = true) (hK : Ops P N ops K rest (upd e d (.int k i)) w) : Ops P N ops K (⟨some d, .load t x, ty, pos, af, none⟩ :: rest) e w := .ld hR hx (by simpa [Nat.blt_eq] using hj) hv hp hb hK
def setL (vs : List Value) (o : Nat) : List Value → List Value
 | [] => vs
 | c :: r => setL (vs.set o c) (o + 1) r
theorem run_store_list {k : Ck} (i : Nat) : ∀ (cs : List Value) (ks : List Ck) (vs : List Value) (w : World) (o : Nat) (p : Addr), St w0 w ks → ks[i]? = some { k with vs := vs } → ptrAt k.A o = some p → o + cs.length ≤ k.n → (∀ u ∈ cs, u.oneCell' = true) → ∀ m q, ptrAt k.A m = some q → o = m + (o - m) →
    m ≤ o → ∃ w', (storeCells q cs (o - m)).run P w = .ok () w' ∧ St w0 w' (ks.set i { k with vs := setL vs o cs })
  | [], ks, vs, w, o, p, hS, hk, _, _, _, m, q, _, _, _ => ⟨w, by simp [storeCells], by
      have : ks.set i { k with vs := setL vs o [] } = ks := by
        apply List.ext_getElem?
        intro j
        rw [List.getElem?_set]
        split
        · rename_i e; subst e; rw [hk, if_pos (List.getElem?_eq_some_iff.1 hk).1]; rfl
        · rfl
      rw [this]; exact hS⟩
  | c :: r, ks, vs, w, o, p, hS, hk, hp, hl, h1, m, q, hq, ho, hm => by
    simp only [List.length_cons] at hl
    obtain ⟨p', hp', ⟨v, hc⟩, hf, hS'⟩ := hS.store i hk (j := o) (by show o < k.n; omega) c (h1 c (by simp))
    have hqo : q.add (o - m) = p' := by
      have : ptrAt (ptrAt k.A m) (o - m) = some p' := by rw [ptrAt_ptrAt, ← ho]; exact hp'
      rw [hq] at this
      simpa [ptrAt] using this
    have hlt := (List.getElem?_eq_some_iff.1 hk).1
    by_cases hr : r = []
    · subst hr
      refine ⟨_, ?_, hS'⟩
      simp [storeCells, hqo, run_store _ _ _ _ _ (h1 c (by simp)), hc, hf]
    · have hrl : 0 < r.length := by cases r with | nil => exact absurd rfl hr | cons _ _ => simp
      obtain ⟨p2, hp2⟩ : ∃ p2, ptrAt k.A (o + 1) = some p2 := by
        obtain ⟨x, hx, _⟩ := (hS.rd i hk) (o + 1) (by show o + 1 < k.n; omega)
        exact ⟨x, hx⟩
      obtain ⟨w2, hrun, hS2⟩ := run_store_list i r _ (vs.set o c) _ (o + 1) p2 hS' (by rw [List.getElem?_set]; simp [hlt]) hp2 (by omega) (fun u hu => h1 u (by simp [hu])) m q hq (by omega) (by omega)
      refine ⟨w2, ?_, by simpa [setL] using hS2⟩
      have e1 : o + 1 - m = o - m + 1 := by omega
      rw [e1] at hrun
      simp [storeCells, hqo, run_store _ _ _ _ _ (h1 c (by simp)), hc, hf, hrun]
theorem Ops.st_aggf {t : TypeId} {z : Value} {b o : Nat} (m : Nat) [Inf P t z m b] {a x : Operand} (i : Nat) {k : Ck} {cs : Array Value} (hS : St w0 w ks) (hk : ks[i]? = some k) (ha : ev e a = .pointer (ptrAt k.A o)) (hx : ev e x = .agg cs) (hcs : cs.size = m) (h1' : cs.toList.all Value.oneCell' = true) (hn1 : Nat.blt 0 m = true) (hn2 : Nat.ble (o + m) k.n = true) (hK : ∀ w', St w0 w' (ks.set i { k with vs := setL k.vs o cs.toList }) → Ops P N ops K rest e w') : Ops P N ops K (⟨none, .store t a x, ty, pos, af, none⟩ :: rest) e w := by
 have hn : 0 < m ∧ o + m ≤ k.n := ⟨by simpa [Nat.blt_eq] using hn1, Nat.le_of_ble_eq_true hn2⟩
 have h1 : ∀ u ∈ cs.toList, u.oneCell' = true := fun u hu => List.all_eq_true.1 h1' u hu
 obtain ⟨p, hp, _⟩ := (hS.rd i hk) o (by omega)
 obtain ⟨w', hrun, hS'⟩ := run_store_list (P := P) (k := k) i cs.toList ks k.vs w o p hS hk hp (by simp; omega) h1 o p hp (by omega) (by omega)
 obtain ⟨inf, hi, _, hs, _⟩ := Inf.get P t
 refine .unit (w' := w') ?_ (hK _ hS')
 rw [Nat.sub_self] at hrun
 simp [execOp, Instr.storeAt, ha, hx, hp, Instr.sureAddr, storeVar, sizeOf, typeInfo, hi, hs, Value.cells, hcs, hrun]
theorem Ops.st_agg {t : TypeId} {z : Value} {b : Nat} (m : Nat) [Inf P t z m b] {a x : Operand} (i : Nat) {k : Ck} {cs : Array Value} (hS : St w0 w ks) (hk : ks[i]? = some k) (ha : ev e a = .pointer k.A) (hx : ev e x = .agg cs) (hcs : cs.size = m) (h1 : cs.toList.all Value.oneCell' = true) (hn1 : Nat.blt 0 m = true) (hn2 : Nat.ble (0 + m) k.n = true) (hK : ∀ w', St w0 w' (ks.set i { k with vs := setL k.vs 0 cs.toList }) → Ops P N ops K rest e w') : Ops P N ops K (⟨none, .store t a x, ty, pos, af, none⟩ :: rest) e w :=
 .st_aggf m i hS hk (by rw [ptrAt_zero]; exact ha) hx hcs h1 hn1 hn2 hK
theorem Ops.stf {t : TypeId} {z : Value} {b : Nat} [Inf P t z 1 b] {a x : Operand} (i : Nat) {j : Nat} {k : Ck} {u : Value} (hS : St w0 w ks) (hk : ks[i]? = some k) (ha : ev e a = .pointer (ptrAt k.A j)) (hx : ev e x = u) (h1 : u.oneCell' = true) (hj : Nat.blt j k.n = true) (hK : ∀ w', St w0 w' (ks.set i { k with vs := k.vs.set j u }) → Ops P N ops K rest e w') : Ops P N ops K (⟨none, .store t a x, ty, pos, af, none⟩ :: rest) e w := .st hS hk ha hx h1 (by simpa [Nat.blt_eq] using hj) hK
def retc (a n : Nat) (R : Value → World → Prop) : Post
 | .normal, e, w => ∃ A f, e a = .pointer A ∧ Rd w A n f ∧ R (.agg ((List.range n).map f).toArray) w
 | .ret, e, w => ∃ A f, e a = .pointer A ∧ Rd w A n f ∧ R (.agg ((List.range n).map f).toArray) w
 | _, _, _ => False
theorem retc_r {a n : Nat} {R : Value → World → Prop} {A : Option Addr} {f : Nat → Value} (h : e a = .pointer A) (hR : Rd w A n f) (h2 : R (.agg ((List.range n).map f).toArray) w) : retc a n R .ret e w := ⟨A, f, h, hR, h2⟩
theorem run_loadAgg {t : TypeId} {fs : Array Field} {z : Value} {b n : Nat} [Und P t (.struct fs)] [Inf P t z n b] {A : Option Addr} {f : Nat → Value} (hn : 0 < n) (hR : Rd w A n f) : ∃ q, A = some q ∧ (loadVar t q).run P w = .ok (.agg ((List.range n).map f).toArray) w := by
 obtain ⟨p, hp, _⟩ := hR 0 hn
 obtain ⟨q, rfl⟩ : ∃ q, A = some q := by cases A with | none => simp [ptrAt] at hp | some q => exact ⟨q, rfl⟩
 obtain ⟨inf, hi, hz0, hs, hby⟩ := Inf.get P t
 have hl := run_loadCells (P := P) w q n f (fun j hj => by
  obtain ⟨p, hp, hc⟩ := hR j hj
  simp [ptrAt] at hp
  rw [hp]; exact hc)
 exact ⟨q, O, by simp [loadVar, isAgg, run_underlying (Und.out (P := P) (t := t)), sizeOf, typeInfo, hi, hs, hl]⟩
theorem postc {fn : Func} {R : Value → World → Prop} {a t n b : Nat} {fs : Array Field} {z : Value} [Und P t (.struct fs)] [Inf P t z n b] (hr : fn.results = #[.cell a t]) (hn' : Nat.blt 0 n = true) : ∀ x a1 e w, Rep N a1 e → retc a n R x e w → bodyPost P fn (fun x w' => ∃ v, x = .returned v ∧ R v w') x a1 w := by
  intro x a1 e w he q
  have hn : 0 < n := by simpa [Nat.blt_eq] using hn'
  have hg := he.get a
  have key : ∀ (A : Option Addr) (f : Nat → Value), e a = .pointer A → Rd w A n f → (results fn a1.tmps).run P w = .ok (.agg ((List.range n).map f).toArray) w := by
    intro A f hA hR
    obtain ⟨q, rfl, hl⟩ := run_loadAgg (P := P) (t := t) hn hR
    rw [Array.getD_eq_getD_getElem?] at hg
    simp [results, hr, hg, hA, asAddr, hl]
  cases x <;> first
    | exact q.elim
    | (obtain ⟨A, f, hA, hR, h2⟩ := q
       exact ⟨he.defers, _, key A f hA hR, _, O, h2⟩)
/-! cuts -/
def cutAt (A : Option Addr) (c l : Nat) : Option Addr := if c = l then A else ptrAt A l
theorem Rd.cut {A : Option Addr} {n c l h : Nat} {f : Nat → Value} (hR : Rd w A n f) (hl : l ≤ h) (hn : h ≤ n) (hc : n ≤ c) : Rd w (cutAt A c l) (h - l) (fun j => f (l + j)) := fun j hj => by
 obtain ⟨p, hp, hcell⟩ := hR (l + j) (by omega)
 refine ⟨p, ?_, hcell⟩
 unfold cutAt
 rw [if_neg (by omega)]
 cases A with
 | none => simp [ptrAt] at hp
 | some q =>
  simp only [ptrAt, Option.map_some, Option.some.injEq] at hp ⊢
  rw [← hp]
  unfold Addr.add
  by_cases hl0 : l = 0 <;> by_cases hj0 : j = 0 <;> simp [hl0, hj0, Nat.add_assoc]
theorem RdI.cut {A : Option Addr} {n c l h : Nat} {xs : List Int} (hR : RdI w A n xs) (hl : l ≤ h) (hn : h ≤ n) (hc : n ≤ c) : RdI w (cutAt A c l) (h - l) ((xs.drop l).take (h - l)) :=
 ⟨by have := hR.1; simp; omega, (hR.2.cut hl hn hc).congr fun j hj => by simp [List.getD_eq_getElem?_getD, List.getElem?_take, hj]⟩
theorem RdR.cut {A : Option Addr} {n c l h : Nat} {xs : List SlV} (hR : RdR w A n xs) (hl : l ≤ h) (hn : h ≤ n) (hc : n ≤ c) : RdR w (cutAt A c l) (h - l) ((xs.drop l).take (h - l)) :=
 ⟨by have := hR.1; simp; omega, (hR.2.cut hl hn hc).congr fun j hj => by simp [List.getD_eq_getElem?_getD, List.getElem?_take, hj]⟩
theorem Ops.cut_l {t el : TypeId} {z : Value} {b : Nat} [hU : Und P t (.slice el)] [Inf P el z 1 b] {x lo : Operand} {A : Option Addr} {n c : Nat} {k : IntKind} {l : Int} (hx : ev e x = .slice A n c) (hl : ev e lo = .int k l) (hb : Nat.blt d N = true) (h0 : 0 ≤ l ∧ l ≤ (n : Int)) (hK : Ops P N ops K rest (upd e d (.slice (cutAt A c l.toNat) (n - l.toNat) (c - l.toNat))) w) : Ops P N ops K (⟨some d, .slice t x (some lo) none none, ty, pos, af, none⟩ :: rest) e w := by
 obtain ⟨inf, hi, hz0, hs, hby⟩ := Inf.get P el
 refine .val (w' := w) ?_ hb hK
 have := run_sliceBound (P := P) w k l n .sliceB h0.1 h0.2
 simp [execOp, hx, hl, Instr.sliceAt, run_underlying hU.out, Instr.slice, Instr.sliceBounds, this, sizeOf, typeInfo, hi, hs, cutAt, ptrAt]
theorem Ops.cut_h {t el : TypeId} {z : Value} {b : Nat} [hU : Und P t (.slice el)] [Inf P el z 1 b] {x hi' : Operand} {A : Option Addr} {n c : Nat} {k : IntKind} {h : Int} (hx : ev e x = .slice A n c) (hh : ev e hi' = .int k h) (hb : Nat.blt d N = true) (h0 : 0 ≤ h ∧ h ≤ (c : Int)) (hK : Ops P N ops K rest (upd e d (.slice A h.toNat c)) w) : Ops P N ops K (⟨some d, .slice t x none (some hi') none, ty, pos, af, none⟩ :: rest) e w := by
 obtain ⟨inf, hi, hz0, hs, hby⟩ := Inf.get P el
 refine .val (w' := w) ?_ hb hK
 have := run_sliceBound (P := P) w k h c .sliceAcap h0.1 h0.2
 have hA : A.map (fun x => x.add 0) = A := by cases A <;> simp [Addr.add]
 simp [execOp, hx, hh, Instr.sliceAt, run_underlying hU.out, Instr.slice, Instr.sliceBounds, this, sizeOf, typeInfo, hi, hs, hA]
/-! append -/
theorem run_append_st {t el : TypeId} {z : Value} {b : Nat} [hU : Und P t (.slice el)] [Inf P el z 1 b] {z0 : Value} (hz : z.cells = #[z0]) {k : Ck} (i : Nat) (hS : St w0 w ks) (hk : ks[i]? = some k) (hM : isM k.vs = false) (he : k.e = el) {A' : Option Addr} {m c' : Nat} {f : Nat → Value} (hR : Rd w A' m f) (h1 : ∀ j, j < m → (f j).oneCell' = true)
    (h63 : k.n + m ≤ maxLen) (hbytes : (k.n + m) * b ≤ 140737488355328) (ty : TypeId) :
    ∃ A2 c2 w', (Builtin.append_ #[t, t] ty #[.slice k.A k.n k.c, .slice A' m c']).run P w = .ok (.slice A2 (k.n + m) c2) w' ∧ St w0 w' (ks.set i ⟨A2, k.n + m, c2, el, k.vs ++ (List.range m).map f⟩) ∧ (k.n = k.c → Below w.heap.size w w') := by
  subst he
  obtain ⟨inf, hi, hz0, hs, hby⟩ := Inf.get P k.e
  have hown := hS.getC hk hM
  have hMf : isM (k.vs ++ (List.range m).map f) = false := isM_app hM (isM_all fun u hu => by
    obtain ⟨j, hj, rfl⟩ := List.mem_map.1 hu
    exact h1 j (by simpa using hj))
  obtain ⟨hl, hnc, hcm, h4⟩ := hown
  have hilt := (List.getElem?_eq_some_iff.1 hk).1
  by_cases hm : m = 0
  · subst hm
    refine ⟨k.A, k.c, w, ?_, ?_, fun _ => Below.refl _ _⟩
    · cases A' with
      | none => cases hkA : k.A <;> simp [Builtin.append_, run_underlying hU.out, sizeOf, typeInfo, hi, Builtin.lenOf, Builtin.firstCells, hnc, storeCells]
      | some a =>
        have hl0 := run_loadCells (P := P) w a 0 f (fun j hj => by omega)
        cases hkA : k.A <;> simp [Builtin.append_, run_underlying hU.out, sizeOf, typeInfo, hi, Builtin.lenOf, Builtin.firstCells, hnc, storeCells, loadCells, loadCellsFrom]
    · have : ks.set i ⟨k.A, k.n + 0, k.c, k.e, k.vs ++ (List.range 0).map f⟩ = ks := by
        have h5 : (⟨k.A, k.n + 0, k.c, k.e, k.vs ++ (List.range 0).map f⟩ : Ck) = k := by simp
        rw [h5]
        apply List.ext_getElem?
        intro j
        rw [List.getElem?_set]
        split
        · rename_i e; subst e; rw [hk]
          try simp [hilt]
        · rfl
      rw [this]; exact hS
  · obtain ⟨a, rfl⟩ : ∃ a, A' = some a := by
      obtain ⟨p, hp, _⟩ := hR 0 (by omega)
      cases A' with | none => simp [ptrAt] at hp | some q => exact ⟨q, rfl⟩
    have hnl : ((List.range m).map f).length = m := by simp
    have hnews : ∀ j v, ((List.range m).map f)[j]? = some v → w.cell? (a.add j) = some v := by
      intro j v hj
      have hjm : j < m := by have := (List.getElem?_eq_some_iff.1 hj).1; simpa using this
      obtain ⟨p, hp, hc⟩ := hR j hjm
      simp only [ptrAt, Option.map_some, Option.some.injEq] at hp
      rw [hp, hc, ← hj]
      simp [hjm]
    have h1' : ∀ u ∈ (List.range m).map f, u.oneCell' = true := by
      intro u hu
      obtain ⟨j, hj, rfl⟩ := List.mem_map.1 hu
      exact h1 j (by simpa using hj)
    -- a new row in the old one's stead
    have fresh : ∀ (cs : List Value) (c2 : Nat), isM cs = false → k.n + m ≤ c2 → c2 ≤ maxLen → cs.length = c2 → cs.take (k.n + m) = k.vs ++ (List.range m).map f →
        St w0 (w.drew.alloc (.cells cs.toArray k.e)) (ks.set i ⟨some ⟨w.heap.size, 0, none⟩, k.n + m, c2, k.e, k.vs ++ (List.range m).map f⟩) := by
      intro cs c2 h5m h5 h6 h7 h8
      have hA := hS.drew.alloc cs k.e (by omega) h5m
      have hp : (⟨some ⟨w.heap.size, 0, none⟩, cs.length, cs.length, k.e, cs⟩ :: ks).Perm (k :: (ks.set i ⟨some ⟨w.heap.size, 0, none⟩, cs.length, cs.length, k.e, cs⟩)) := by
        have gen : ∀ (l : List Ck) (i : Nat) (x y : Ck), l[i]? = some y → (x :: l).Perm (y :: l.set i x) := by
          intro l
          induction l with
          | nil => intro i x y h; simp at h
          | cons u l ih =>
            intro i x y h
            cases i with
            | zero => simp at h; subst h; exact List.Perm.swap _ _ _
            | succ i =>
              simp only [List.getElem?_cons_succ] at h
              simp only [List.set_cons_succ]
              exact (List.Perm.swap _ _ _).trans (((ih i x y h).cons u).trans (List.Perm.swap _ _ _))
        exact gen ks i _ _ hk
      have hB := (hA.perm hp).tail
      refine ⟨hB.below, fun x hx => ?_, ?_⟩
      · obtain ⟨j, hj, rfl⟩ := List.mem_iff_getElem.1 hx
        have hj' : j < ks.length := by simpa using hj
        rw [List.getElem_set]
        split
        · refine .ofC hMf ⟨?_, h5, h6, .inr ⟨w.heap.size, 0, cs.toArray, O, hS.below.size, heap_alloc_new w.drew _, by simp; omega, fun q hq => ?_⟩⟩
          · simp [hl]
          · have hq' : q < k.n + m := hq
            show cs.toArray[0 + q]? = (k.vs ++ (List.range m).map f)[q]?
            rw [← h8]
            simp [List.getElem?_take, hq']
        · rename_i hne
          refine hB.own _ (List.mem_iff_getElem.2 ⟨j, by simpa using hj', ?_⟩)
          rw [List.getElem_set, if_neg hne]
      · have h9 := hB.apart
        rw [show (ks.set i ⟨some ⟨w.heap.size, 0, none⟩, k.n + m, c2, k.e, k.vs ++ (List.range m).map f⟩).filterMap Ck.blk = (ks.set i ⟨some ⟨w.heap.size, 0, none⟩, cs.length, cs.length, k.e, cs⟩).filterMap Ck.blk from ?_]
        · exact h9
        · have := filterMap_set Ck.blk (ks.set i ⟨some ⟨w.heap.size, 0, none⟩, cs.length, cs.length, k.e, cs⟩) i ⟨some ⟨w.heap.size, 0, none⟩, cs.length, cs.length, k.e, cs⟩ ⟨some ⟨w.heap.size, 0, none⟩, k.n + m, c2, k.e, k.vs ++ (List.range m).map f⟩ (by rw [List.getElem?_set]; simp [hilt]) O
          rw [← this]; simp
    have h63' : ((k.n + m : Nat) : Int) ≤ 9223372036854775807 := by simp only [maxLen] at h63; omega
    rcases h4 with ⟨hA, h0⟩ | ⟨g, o, cur, hA, hg, hh, hsz, hc⟩
    · have hn0 : k.n = 0 := by omega
      have hvs : k.vs = [] := List.eq_nil_of_length_eq_zero (by omega)
      have hr := run_append_nil (P := P) w t ty k.e inf z hU.out hi hz0 a m c' _ (by rw [hnl, hs, Nat.mul_one]) hnews (by omega) (by omega) (by rw [hby]; rw [hn0, Nat.zero_add] at hbytes; omega)
      have hge := grownCap_ge w m 0 k.e
      refine ⟨_, _, _, ?_, fresh (((List.range m).map f) ++ List.replicate (grownCap w m 0 k.e - m) z0) (grownCap w m 0 k.e) (isM_appN (isM_all h1') (by intro hn; have := congrArg List.length hn; simp at this; omega)) (by omega) (grownCap_le_maxLen w m 0 k.e (by omega)) (by simp; omega) (by rw [hvs, hn0]; simp), fun _ => (Below.refl w.heap.size w).drew.alloc (Nat.le_refl _) _⟩
      have hzc : Builtin.zeroCells z.cells (grownCap w m 0 k.e - m) = (List.replicate (grownCap w m 0 k.e - m) z0).toArray := by
        rw [hz]; simp only [Builtin.zeroCells]
        exact (show _ = _ from by have := madeCells_one z0 (grownCap w m 0 k.e - m); simpa [madeCells] using this)
      rw [hA, h0, hn0, Nat.zero_add, hr, hzc, List.append_toArray]
    · by_cases hroom : k.n + m ≤ k.c
      · have hf := run_firstCells_some (P := P) w inf.size m a m c' _ (by rw [hnl, hs, Nat.mul_one]) hnews
        have hst := run_storeCells_at P g (o + k.n) k.e ((List.range m).map f) 0 cur w hh (by rw [hnl]; omega) h1'
        simp only [Nat.add_zero] at hst
        refine ⟨some ⟨g, o, none⟩, k.c, _, ?_, hS.turn (k := k) (g := g) hk (by simp [Ck.blk, hA]) (by simp [Ck.blk]) (w' := w.setRow g (cur.toList.take (o + k.n) ++ (List.range m).map f ++ cur.toList.drop (o + k.n + ((List.range m).map f).length)).toArray) ?_ ?_, fun h => absurd hroom (by omega)⟩
        · rw [hA]
          simp [Builtin.append_, run_underlying hU.out, sizeOf, typeInfo, hi, hs, Builtin.lenOf, hroom, Addr.add_lit]
          rw [hs] at hf
          simp only [List.length_map, List.length_range] at hst ⊢
          simp [hf, hst]
        · exact ⟨⟨O, O, O, by simp, fun x _ hx => setRow_other w g x _ (fun e => hx (by rw [e]))⟩, Nat.le_refl _⟩
        · refine .ofC hMf ⟨by simp [hl], hroom, hcm, .inr ⟨g, o, _, O, hg, setRow_heap w g cur _ k.e _ hh, ?_, fun j hj => ?_⟩⟩
          · simp; omega
          · have hj' : j < k.n + m := hj
            show ((cur.toList.take (o + k.n) ++ (List.range m).map f ++ cur.toList.drop (o + k.n + ((List.range m).map f).length)).toArray)[o + j]? = (k.vs ++ (List.range m).map f)[j]?
            have hcl : cur.toList.length = cur.size := by simp
            rw [List.getElem?_toArray]
            by_cases hjn : j < k.n
            · rw [List.append_assoc, List.getElem?_append_left (by simp; omega), List.getElem?_take, if_pos (by omega), List.getElem?_append_left (by omega)]
              rw [Array.getElem?_toList]
              exact hc j hjn
            · rw [List.append_assoc, List.getElem?_append_right (by simp; omega), List.getElem?_append_left (by simp; omega), List.getElem?_append_right (by omega)]
              congr 1
              simp
              omega
      · have holds : ∀ j v, k.vs[j]? = some v → w.cell? ((⟨g, o, none⟩ : Addr).add j) = some v := by
          intro j v hj
          have hjn : j < k.n := by have := (List.getElem?_eq_some_iff.1 hj).1; omega
          rw [add_none]
          simp only [World.cell?, hh]
          simpa [hc j hjn] using hj
        have hr := run_append_grow (P := P) w t ty k.e inf z hU.out hi hz0 ⟨g, o, none⟩ k.n k.c k.vs (by rw [hl, hs, Nat.mul_one]) holds a m c' _ (by rw [hnl, hs, Nat.mul_one]) hnews (by omega) h63' (growslice_fits (by omega) (by rw [hby]; exact hbytes))
        have hge := grownCap_ge w (k.n + m) k.c k.e
        refine ⟨_, _, _, ?_, fresh (k.vs ++ (List.range m).map f ++ List.replicate (grownCap w (k.n + m) k.c k.e - (k.n + m)) z0) (grownCap w (k.n + m) k.c k.e) (isM_appN hMf (by intro hn; have := congrArg List.length hn; simp at this; omega)) (by omega) (grownCap_le_maxLen w (k.n + m) k.c k.e h63) (by simp [hl]; omega) (by rw [List.take_append_of_le_length (by simp [hl])]; exact List.take_of_length_le (by simp [hl])), fun _ => (Below.refl w.heap.size w).drew.alloc (Nat.le_refl _) _⟩
        have hzc : Builtin.zeroCells z.cells (grownCap w (k.n + m) k.c k.e - (k.n + m)) = (List.replicate (grownCap w (k.n + m) k.c k.e - (k.n + m)) z0).toArray := by
          rw [hz]; simp only [Builtin.zeroCells]
          exact (show _ = _ from by have := madeCells_one z0 (grownCap w (k.n + m) k.c k.e - (k.n + m)); simpa [madeCells] using this)
        rw [hA, hr, hzc, List.append_toArray, List.append_toArray]
theorem Ops.app {t el : TypeId} {z : Value} {b : Nat} [hU : Und P t (.slice el)] [Inf P el z 1 b] {x y : Operand} {k : Ck} (i : Nat) {A' : Option Addr} {m c' : Nat} {f : Nat → Value} (hS : St w0 w ks) (hk : ks[i]? = some k) (hR : Rd w A' m f) (hx : ev e x = .slice k.A k.n k.c) (hy : ev e y = .slice A' m c') (he : k.e = el) {z0 : Value} (hz : z.cells = #[z0]) (h1 : ∀ j, j < m → (f j).oneCell' = true) (h63 : k.n + m ≤ maxLen) (hbytes : (k.n + m) * b ≤ 140737488355328) (hb : Nat.blt d N = true) (hK : ∀ A2 c2 w', St w0 w' (ks.set i ⟨A2, k.n + m, c2, el, k.vs ++ (List.range m).map f⟩) → Ops P N ops K rest (upd e d (.slice A2 (k.n + m) c2)) w') (hM : isM k.vs = false := by first | rfl | exact isM_I _ | exact isM_B _ | exact isM_R _) :
  Ops P N ops K (⟨some d, .call ⟨.builtin .append, #[x, y], #[t, t]⟩, ty, pos, af, none⟩ :: rest) e w := by
 obtain ⟨A2, c2, w', hr, hS', _⟩ := run_append_st (P := P) (t := t) hz i hS hk hM he hR h1 h63 hbytes ty (c' := c')
 refine .val (w' := w') ?_ hb (hK _ _ _ hS')
 simp [execOp, resolve, invoke, builtin, hx, hy, hr]
end
/-
 A statement whose order Go leaves open: its operations make new memory at most; what each yields is told by a value or by a lasting property; whatever the order, all of it holds behind it. And: two ways that meet again.
-/
inductive Yd where
 | ex (v : Value)
 | pr (p : Value → World → Prop)
def Yd.holds : Yd → Value → World → Prop
 | .ex v, u, _ => u = v
 | .pr p, u, w => p u w
def Yd.lasts : Yd → Prop
 | .ex _ => True
 | .pr p => ∀ v w w', p v w → Below w.heap.size w w' → p v w'
theorem Yd.lasts_ex (v : Value) : (Yd.ex v).lasts := True.intro
theorem lx {v : Value} {l : List Yd} (h : ∀ y ∈ l, y.lasts) : ∀ y ∈ Yd.ex v :: l, y.lasts := List.forall_mem_cons.2 ⟨True.intro, h⟩
theorem Yd.lasts_pr {p : Value → World → Prop} (h : ∀ v w w', p v w → Below w.heap.size w w' → p v w') : (Yd.pr p).lasts := h
abbrev xU : Yd := .ex undef
abbrev xI (i : Int) : Yd := .ex (.int .i64 i)
abbrev xB (b : Bool) : Yd := .ex (.bool b)
abbrev xP (a : Option Addr) : Yd := .ex (.pointer a)
abbrev xS (a : Option Addr) (n c : Nat) : Yd := .ex (.slice a n c)
theorem Yd.holds_later {y : Yd} (hl : y.lasts) {v : Value} {w w' : World} (h : y.holds v w) (hb : Below w.heap.size w w') : y.holds v w' := by
 cases y with
 | ex u => exact h
 | pr p => exact hl v w w' h hb
def memb (ds : List Nat) (i : Nat) : Bool := match ds with
 | [] => false
 | d :: r => bif Nat.beq i d then true else memb r i
theorem memb_iff {ds : List Nat} {i : Nat} : memb ds i = true ↔ i ∈ ds := by
 induction ds with
 | nil => simp [memb]
 | cons d r ih =>
  simp only [memb, List.mem_cons]
  cases hb : Nat.beq i d with
  | true => simp [Nat.eq_of_beq_eq_true hb]
  | false =>
   have : i ≠ d := fun e => by subst e; simp at hb
   simp [this, ih]
def mix (e1 e : Env) (ds : List Nat) : Env := fun i => bif memb ds i then e1 i else e i
def aft (o : Oper) : List Edge := o.after.toList.filter (Region.binds .any)
theorem mem_aft {o : Oper} {ed : Edge} : ed ∈ aft o ↔ ed ∈ o.after ∧ Region.binds .any ed = true := by
 simp [aft]
def dstOf (o : Oper) : Nat := match o.dst with
 | some d => d
 | none => 0
def drawOk (N : Nat) (l : List Oper) : Bool :=
 l.all (fun o => match o.dst with | some d => Nat.blt d N | none => false) && decide ((l.map dstOf).Nodup) && (l.zipIdx.all fun p => (aft p.1).all fun ed => Nat.blt ed.on p.2)
def depFr (l : List Oper) (ys : List Yd) : List Edge → List (Nat × Value)
 | [] => []
 | ed :: r => match ys[ed.on]? with
  | some (.ex v) => (((l[ed.on]?).map dstOf).getD 0, v) :: depFr l ys r
  | _ => depFr l ys r
def endFr : List Oper → List Yd → (Nat → Value) → Nat → List (Nat × Value)
 | o :: l, .ex v :: ys, u, i => (dstOf o, v) :: endFr l ys u (i + 1)
 | o :: l, .pr _ :: ys, u, i => (dstOf o, u i) :: endFr l ys u (i + 1)
 | _, _, _, _ => []
def ancOf (l : List Oper) : Nat → Nat → Nat → Bool
 | 0, _, _ => false
 | f + 1, k, j => match l[k]? with
  | some o => (aft o).any fun ed => Nat.beq ed.on j || ancOf l f ed.on j
  | none => false
theorem ancOf_listed {l : List Oper} {listed : Array Bool} (hcl : ∀ (i : Nat) (o : Oper), listed.getD i false = true → l[i]? = some o → ∀ ed ∈ aft o, listed.getD ed.on false = true) : ∀ (f k j : Nat), ancOf l f k j = true → listed.getD k false = true → listed.getD j false = true
 | 0, k, j, h, _ => by simp [ancOf] at h
 | f + 1, k, j, h, hk => by
  simp only [ancOf] at h
  split at h
  ·rename_i o ho
   rw [List.any_eq_true] at h
   obtain ⟨ed, hed, h⟩ := h
   have h1 := hcl k o hk ho ed hed
   rw [Bool.or_eq_true] at h
   rcases h with h | h
   ·rw [← Nat.eq_of_beq_eq_true h]; exact h1
   ·exact ancOf_listed hcl f ed.on j h h1
  ·cases h
theorem ancOf_ready {l : List Oper} {listed : Array Bool} (hcl : ∀ (i : Nat) (o : Oper), listed.getD i false = true → l[i]? = some o → ∀ ed ∈ aft o, listed.getD ed.on false = true) {k : Nat} {o : Oper} (ho : l[k]? = some o) (hr : ∀ ed ∈ aft o, listed.getD ed.on false = true) : ∀ (f j : Nat), ancOf l f k j = true → listed.getD j false = true
 | 0, j, h => by simp [ancOf] at h
 | f + 1, j, h => by
  simp only [ancOf, ho] at h
  rw [List.any_eq_true] at h
  obtain ⟨ed, hed, h⟩ := h
  have h1 := hr ed hed
  rw [Bool.or_eq_true] at h
  rcases h with h | h
  ·rw [← Nat.eq_of_beq_eq_true h]; exact h1
  ·exact ancOf_listed hcl f ed.on j h h1
section
variable {P : Program} {N : Nat} {e : Env} {w : World}
def After (i : Nat) (e1 : Env) (w1 : World) (d : Nat) (y : Yd) : Env → World → Prop := fun e2 w2 => Below w1.heap.size w1 w2 ∧ y.holds (e2 d) w2 ∧ ∀ j, j ≠ d → e2 j = e1 j
theorem After.dn {i : Nat} {e1 : Env} {w1 w2 : World} {d : Nat} {y : Yd} {v : Value} (hb : Below w1.heap.size w1 w2) (hv : y.holds v w2) : After i e1 w1 d y (upd e1 d v) w2 := by
 refine ⟨hb, ?_, fun j hj => ?_⟩
 ·have : upd e1 d v d = v := by unfold upd; rw [Nat.beq_refl]; rfl
  rw [this]; exact hv
 ·have : Nat.beq j d = false := by
   cases h : Nat.beq j d with
   | false => rfl
   | true => exact absurd (Nat.eq_of_beq_eq_true h) hj
  unfold upd; rw [this]; rfl
theorem d0 {i : Nat} {e1 : Env} {w1 : World} {d : Nat} {y : Yd} {v : Value} (hv : y.holds v w1) : After i e1 w1 d y (upd e1 d v) w1 := After.dn (Below.refl _ _) hv
theorem Az {ops : Array Oper} {i : Nat} {e1 : Env} {w1 : World} {d : Nat} {y : Yd} {v : Value} (hv : y.holds v w1) : Ops P N ops (After i e1 w1 d y) [] (upd e1 d v) w1 := Ops.n (After.dn (Below.refl _ _) hv)
def stpG (ops : Array Oper) (N : Nat) (e : Env) (o : Oper) : Option (Nat × Value) :=
 match o.guard with
 | none => stp N e o
 | some (j, want) => match o.dst, (ops[j]?).bind (·.dst) with
  | some d, some dj => (match Nat.blt dj N, Nat.blt d N with
   | true, true => (match e dj with
    | .bool b => (match b, want with
     | true, true => stp N e ⟨some d, o.op, o.type, o.pos, o.after, none⟩
     | false, false => stp N e ⟨some d, o.op, o.type, o.pos, o.after, none⟩
     | true, false => some (d, undef)
     | false, true => some (d, undef))
    | .tuple vs => (match vs.toList with
     | [] => some (d, undef)
     | _ => none)
    | _ => none)
   | _, _ => none)
  | _, _ => none
theorem Ops.stpG {ops : Array Oper} {K : Env → World → Prop} {o : Oper} {e1 : Env} {w1 : World} {d : Nat} {v : Value} (h : stpG ops N e1 o = some (d, v)) (hK : K (upd e1 d v) w1) : Ops P N ops K [o] e1 w1 := by
 obtain ⟨dst, op, ty, pos, af, gd⟩ := o
 unfold Vc.stpG at h
 split at h
 ·exact .stp h (Ops.n hK)
 rename_i j want hg
 simp only at hg
 subst hg
 split at h
 ·rename_i d' dj hd hj
  simp only at hd
  subst hd
  split at h
  ·rename_i hlt hb
   split at h
   ·rename_i b he
    split at h
    ·exact Ops.g hj hlt he (.stp h (Ops.n hK))
    ·exact Ops.g hj hlt he (.stp h (Ops.n hK))
    ·simp only [Option.some.injEq, Prod.mk.injEq] at h
     obtain ⟨rfl, rfl⟩ := h
     exact Ops.k hj hlt he O hb (Ops.n hK)
    simp only [Option.some.injEq, Prod.mk.injEq] at h
    obtain ⟨rfl, rfl⟩ := h
    exact Ops.k hj hlt he O hb (Ops.n hK)
   ·rename_i vs he
    split at h
    ·rename_i hv
     have hu : vs = #[] := by cases vs; simp only at hv; rw [hv]
     subst hu
     simp only [Option.some.injEq, Prod.mk.injEq] at h
     obtain ⟨rfl, rfl⟩ := h
     exact Ops.skipu hj hlt he hb (Ops.n hK)
    cases h
   cases h
  cases h
 cases h
theorem stpG_dst {ops : Array Oper} {o : Oper} {e1 : Env} {d : Nat} {v : Value} (h : stpG ops N e1 o = some (d, v)) : o.dst = some d := by
 have key : ∀ (o : Oper), stp N e1 o = some (d, v) → o.dst = some d := fun o h => by
  unfold stp at h
  split at h
  ·rename_i d' hg hd
   split at h
   ·split at h
    ·simp only [Option.some.injEq, Prod.mk.injEq] at h
     rw [hd, h.1]
    cases h
   cases h
  cases h
 unfold stpG at h
 split at h
 ·exact key _ h
 split at h
 ·rename_i d' dj hd hj
  rw [hd]
  split at h
  ·split at h
   ·split at h
    ·exact key _ h
    ·exact key _ h
    ·simp only [Option.some.injEq, Prod.mk.injEq] at h; rw [h.1]
    simp only [Option.some.injEq, Prod.mk.injEq] at h; rw [h.1]
   ·split at h
    ·simp only [Option.some.injEq, Prod.mk.injEq] at h; rw [h.1]
    cases h
   cases h
  cases h
 cases h
theorem Dk {ops : Array Oper} {o : Oper} {i : Nat} {e1 : Env} {w1 : World} {d : Nat} {y : Yd} {v : Value} (h : stpG ops N e1 o = some (d, v)) (hv : y.holds v w1) : Ops P N ops (After i e1 w1 d y) [o] e1 w1 := .stpG h (After.dn (Below.refl _ _) hv)
def Yd.isEx : Yd → Bool
 | .ex _ => true
 | .pr _ => false
theorem exL {l : List Yd} (h : l.all Yd.isEx = true) : ∀ y ∈ l, y.lasts := fun y hy => by
 have := List.all_eq_true.1 h y hy
 cases y with
 | ex v => exact True.intro
 | pr p => cases this
def DrawSteps (P : Program) (N : Nat) (l : List Oper) (ys : List Yd) (e : Env) (w : World) : Nat → List Oper → Prop
  | _, [] => True
  | i, o :: r => (∀ e1 w1, Below w.heap.size w w1 → (∀ j, j < l.length → memb ((aft o).map (·.on)) j = true → ∀ (y : Yd) (o' : Oper), ys[j]? = some y → l[j]? = some o' → y.holds (e1 (dstOf o')) w1) → (∀ (j : Nat) (o' : Oper), l[j]? = some o' → ancOf l l.length j i = true → e1 (dstOf o') = e (dstOf o')) → 
      Ops P N l.toArray (After i (ext (mix e1 e (l.map dstOf)) (depFr l ys (aft o))) w1 (dstOf o) (ys.getD i (.pr fun _ _ => True))) [o] (ext (mix e1 e (l.map dstOf)) (depFr l ys (aft o))) w1) ∧ DrawSteps P N l ys e w (i + 1) r
theorem Dr {l : List Oper} {ys : List Yd} {i : Nat} {o : Oper} {d : Nat} {v : Value} (h : (ys.getD i (.pr fun _ _ => True), fun e1 => stpG l.toArray N (ext (mix e1 e (l.map dstOf)) (depFr l ys (aft o))) o) = (.ex v, fun _ => some (d, v))) : ∀ e1 w1, Below w.heap.size w w1 → (∀ j, j < l.length → memb ((aft o).map (·.on)) j = true → ∀ (y : Yd) (o' : Oper), ys[j]? = some y → l[j]? = some o' → y.holds (e1 (dstOf o')) w1) → (∀ (j : Nat) (o' : Oper), l[j]? = some o' → ancOf l l.length j i = true → e1 (dstOf o') = e (dstOf o')) → Ops P N l.toArray (After i (ext (mix e1 e (l.map dstOf)) (depFr l ys (aft o))) w1 (dstOf o) (ys.getD i (.pr fun _ _ => True))) [o] (ext (mix e1 e (l.map dstOf)) (depFr l ys (aft o))) w1 := fun e1 w1 _ _ _ => by
 have h1 := congrFun (Prod.mk.inj h).2 e1
 have hd : dstOf o = d := by unfold dstOf; rw [stpG_dst h1]
 rw [hd, (Prod.mk.inj h).1]; exact Dk h1 rfl
theorem DrawSteps.get {l : List Oper} {ys : List Yd} : ∀ {r : List Oper} {i : Nat}, DrawSteps P N l ys e w i r → ∀ k o, r[k]? = some o → ∀ e1 w1, Below w.heap.size w w1 → (∀ j, j < l.length → memb ((aft o).map (·.on)) j = true → ∀ (y : Yd) (o' : Oper), ys[j]? = some y → l[j]? = some o' → y.holds (e1 (dstOf o')) w1) → (∀ (j : Nat) (o' : Oper), l[j]? = some o' → ancOf l l.length j (i + k) = true → e1 (dstOf o') = e (dstOf o')) → 
      Ops P N l.toArray (After (i + k) (ext (mix e1 e (l.map dstOf)) (depFr l ys (aft o))) w1 (dstOf o) (ys.getD (i + k) (.pr fun _ _ => True))) [o] (ext (mix e1 e (l.map dstOf)) (depFr l ys (aft o))) w1
  | [], _, _, k, o, hk => by simp at hk
  | x :: r, i, h, 0, o, hk => by simp at hk; subst hk; exact h.1
  | x :: r, i, h, k + 1, o, hk => by
    have := DrawSteps.get h.2 k o (by simpa using hk)
    simpa [Nat.add_assoc, Nat.add_comm 1 k] using this
theorem Oper.wp_conv {o : Oper} {a : Act} {w : World} {K K2 : Act → World → Prop} {Q Q2 : Exit → Act → World → Prop} (h : o.wp P a w K Q) (hK : ∀ a w, K a w → K2 a w) (hQ : ∀ x a w, x ≠ .normal → ¬ Q x a w) : o.wp P a w K2 Q2 := by
  unfold Oper.wp at *
  generalize (execOp a.eval o).run P w = r at *
  cases r with
  | ok n w' =>
    cases n <;> simp only [Oper.upon] at h ⊢ <;> first
      | exact hK _ _ h
      | (refine Calls.mono h fun x w'' hx => ?_
         cases x with
         | returned v => exact hK _ _ hx
         | panicked ch => exact absurd hx (hQ _ _ _ (by simp))
         | outgrown => obtain ⟨a0, w0, hx⟩ := hx; exact absurd hx (hQ _ _ _ (by simp)))
      | exact Rows.mono h fun v w'' hx => hK _ _ hx
  | halt x w' =>
    cases x <;> simp only [Oper.upon] at h ⊢
    exact absurd h (hQ _ _ _ (by simp))
theorem mix_eq {e1 e : Env} {ds : List Nat} (h : ∀ j, memb ds j = false → e1 j = e j) : mix e1 e ds = e1 := by
 funext j
 unfold mix
 cases hm : memb ds j with
 | true => rfl
 | false => exact (h j hm).symm
theorem depFr_mt {l : List Oper} {ys : List Yd} {e1 : Env} {w1 : World} : ∀ (af : List Edge), (∀ ed ∈ af, ed.on < l.length) → (∀ j, memb (af.map (·.on)) j = true → ∀ (y : Yd) (o' : Oper), ys[j]? = some y → l[j]? = some o' → y.holds (e1 (dstOf o')) w1) → Mt e1 (depFr l ys af)
 | [], _, _ => trivial
 | ed :: r, hlt, h => by
  have hr := depFr_mt r (fun x hx => hlt x (List.mem_cons_of_mem _ hx)) (fun j hj => h j (by rw [memb_iff] at hj ⊢; exact List.mem_cons_of_mem _ hj))
  unfold depFr
  split
  ·rename_i v hy
   have hl := hlt ed (by simp)
   refine ⟨?_, hr⟩
   rw [List.getElem?_eq_getElem hl]
   exact h ed.on (by rw [memb_iff]; simp) _ _ hy (List.getElem?_eq_getElem hl)
  ·exact hr
theorem endFr_eq {e1 e : Env} {w1 : World} : ∀ (l : List Oper) (ys : List Yd) (i : Nat), l.length = ys.length → (l.map dstOf).Nodup → (∀ (k : Nat) (y : Yd) (o : Oper), ys[k]? = some y → l[k]? = some o → y.holds (e1 (dstOf o)) w1) →
  ∃ u : Nat → Value, ext e (endFr l ys u i) = mix e1 e (l.map dstOf) ∧ (∀ (k : Nat) (o : Oper), l[k]? = some o → u (i + k) = e1 (dstOf o))
 | [], [], i, _, _, _ => ⟨fun _ => undef, by funext j; rfl, fun k o h => by simp at h⟩
 | [], y :: ys, i, hl, _, _ => by simp at hl
 | o :: l, [], i, hl, _, _ => by simp at hl
 | o :: l, y :: ys, i, hl, hn, h => by
  simp only [List.map_cons, List.nodup_cons] at hn
  obtain ⟨u, hu, hu2⟩ := endFr_eq (e1 := e1) (e := e) (w1 := w1) l ys (i + 1) (by simpa using hl) hn.2 (fun k y o hy ho => h (k + 1) y o (by simpa using hy) (by simpa using ho))
  have h0 := h 0 y o O O
  have cng : ∀ (l : List Oper) (ys : List Yd) (i : Nat) (u u' : Nat → Value), (∀ k, i ≤ k → u k = u' k) → endFr l ys u i = endFr l ys u' i := by
   intro l
   induction l with
   | nil => intros; rfl
   | cons o l ih =>
    intro ys i u u' hk
    cases ys with
    | nil => rfl
    | cons y ys =>
     cases y with
     | ex v => simp only [endFr]; rw [ih ys (i + 1) u u' (fun k hk' => hk k (by omega))]
     | pr p => simp only [endFr]; rw [ih ys (i + 1) u u' (fun k hk' => hk k (by omega)), hk i (by omega)]
  refine ⟨fun k => if k = i then e1 (dstOf o) else u k, ?_, fun k o' hk => ?_⟩
  ·have hc := cng l ys (i + 1) (fun k => if k = i then e1 (dstOf o) else u k) u (fun k hk => by rw [if_neg (by omega)])
   have hstep : ∀ v, v = e1 (dstOf o) → upd (mix e1 e (l.map dstOf)) (dstOf o) v = mix e1 e ((o :: l).map dstOf) := by
    intro v hv
    funext j
    simp only [upd, mix, List.map_cons, memb]
    cases hb : Nat.beq j (dstOf o) with
    | true => rw [Nat.eq_of_beq_eq_true hb, hv]; rfl
    | false => rfl
   cases y with
   | ex v =>
    simp only [endFr, ext, hc, hu]
    exact hstep v h0.symm
   | pr p =>
    simp only [endFr, ext, hc, hu, if_pos]
    exact hstep _ O
  ·cases k with
   | zero => simp at hk; subst hk; simp
   | succ k =>
    have := hu2 k o' (by simpa using hk)
    show (if i + (k + 1) = i then _ else u (i + (k + 1))) = _
    rw [if_neg (by omega), ← this]; congr 1; omega
theorem countP_one (p p' : Nat → Bool) (i : Nat) (hi : p i = false) (hp : ∀ k, p' k = if k = i then true else p k) : ∀ (l : List Nat), l.Nodup → i ∈ l → l.countP p' = l.countP p + 1
 | [], _, h => by cases h
 | x :: l, hn, h => by
  have hnot : ∀ (l : List Nat), ¬ i ∈ l → l.countP p' = l.countP p := by
   intro l hl
   exact List.countP_congr fun k hk => by rw [hp k, if_neg (by rintro rfl; exact hl hk)]
  simp only [List.nodup_cons] at hn
  simp only [List.countP_cons]
  by_cases hx : x = i
  ·subst hx
   rw [hnot l hn.1, hp x, if_pos rfl, hi]; simp
  ·have him : i ∈ l := by
    rcases List.mem_cons.1 h with h | h
    ·exact absurd h.symm hx
    ·exact h
   rw [countP_one p p' i hi hp l hn.2 him, hp x, if_neg hx]; omega
theorem Cd.draw {id : Nat} {l : List Oper} {Q : Post} (ys : List Yd) (hm : P.follows .mixedOrders = true) (hok : drawOk N l = true) (hlen : Nat.beq l.length ys.length = true) (hlast : ∀ y ∈ ys, y.lasts)
    (hsteps : DrawSteps P N l ys e w 0 l) (hend : ∀ u w1, Below w.heap.size w w1 → (∀ (k : Nat) (p : Value → World → Prop), ys[k]? = some (Yd.pr p) → p (u k) w1) → Q .normal (ext e (endFr l ys u 0)) w1) : Cd P N (.region id l.toArray true) Q e w := .mk' fun a ha => by
  have hlen' : l.length = ys.length := Nat.eq_of_beq_eq_true hlen
  simp only [drawOk, Bool.and_eq_true, List.all_eq_true, decide_eq_true_eq] at hok
  obtain ⟨⟨h1, h2⟩, h3⟩ := hok
  have hdst : ∀ (i : Nat) (o : Oper), l[i]? = some o → ∃ d, o.dst = some d ∧ dstOf o = d ∧ d < N := by
    intro i o ho
    have := h1 o (List.mem_of_getElem? ho)
    cases hd : o.dst with
    | none => rw [hd] at this; cases this
    | some d => rw [hd] at this; exact ⟨d, rfl, by simp [dstOf, hd], by simpa [Nat.blt_eq] using this⟩
  have hback2 : ∀ (i : Nat) (o : Oper), l[i]? = some o → ∀ ed ∈ aft o, ed.on < i ∧ Region.binds .any ed = true := by
    intro i o ho ed hed
    have := h3 (o, i) (by
      obtain ⟨hi, hio⟩ := List.getElem?_eq_some_iff.1 ho
      rw [List.mem_iff_getElem?]
      exact ⟨i, by simp [ho]⟩)
    exact ⟨by simpa [Nat.blt_eq] using this ed hed, (mem_aft.1 hed).2⟩
  have hback : ∀ (i : Nat) (o : Oper), l[i]? = some o → ∀ ed ∈ aft o, ed.on < i := fun i o ho ed hed => (hback2 i o ho ed hed).1
  refine wp_region_any hm ?_
  -- whatever the order
  have key : ∀ (fuel : Nat) (listed : Array Bool) (a1 : Act) (e1 : Env) (w1 : World), Rep N a1 e1 → Below w.heap.size w w1 → (∀ j, memb (l.map dstOf) j = false → e1 j = e j) → listed.size = l.length →
      (∀ (i : Nat) (y : Yd) (o : Oper), listed.getD i false = true → ys[i]? = some y → l[i]? = some o → y.holds (e1 (dstOf o)) w1) → (∀ (i : Nat) (o : Oper), listed.getD i false = true → l[i]? = some o → ∀ ed ∈ aft o, listed.getD ed.on false = true) → (∀ (i : Nat) (o : Oper), listed.getD i false = false → l[i]? = some o → e1 (dstOf o) = e (dstOf o)) → (l.length - fuel ≤ (List.range l.length).countP fun i => listed.getD i false) →
      wpAny P .any l.toArray (low N Q) fuel listed a1 w1 := by
    have hfin : ∀ (listed : Array Bool) (a1 : Act) (e1 : Env) (w1 : World), Rep N a1 e1 → Below w.heap.size w w1 → (∀ j, memb (l.map dstOf) j = false → e1 j = e j) →
        (∀ (i : Nat) (y : Yd) (o : Oper), listed.getD i false = true → ys[i]? = some y → l[i]? = some o → y.holds (e1 (dstOf o)) w1) → (∀ i, i < l.length → listed.getD i false = true) → low N Q .normal a1 w1 := by
      intro listed a1 e1 w1 hr hb hag hS hall
      obtain ⟨u, hu, hu2⟩ := endFr_eq (e1 := e1) (e := e) (w1 := w1) l ys 0 hlen' h2 (fun k y o hy ho => hS k y o (hall k (List.getElem?_eq_some_iff.1 ho).1) hy ho)
      refine ⟨e1, hr, ?_⟩
      have := hend u w1 hb (fun k p hk => by
        have hkl : k < l.length := by rw [hlen']; exact (List.getElem?_eq_some_iff.1 hk).1
        have h5 := hS k _ l[k] (hall k hkl) hk (List.getElem?_eq_getElem hkl)
        have h6 := hu2 k l[k] (List.getElem?_eq_getElem hkl)
        rw [Nat.zero_add] at h6
        rw [h6]; exact h5)
      rw [hu, mix_eq hag] at this
      exact this
    have hready : ∀ (listed : Array Bool), listed.size = l.length → Region.ready .any l.toArray listed = [] → ∀ i, i < l.length → listed.getD i false = true := by
      intro listed hsz hnil i
      induction i using Nat.strongRecOn with
      | _ i ih =>
        intro hi
        cases hli : listed.getD i false with
        | true => rfl
        | false =>
          exfalso
          have : i ∈ Region.ready .any l.toArray listed := by
            rw [mem_ready]
            refine ⟨?_, l[i], by simp [hi], fun ed hed hbd => ih ed.on (hback i _ (List.getElem?_eq_getElem hi) ed (mem_aft.2 ⟨hed, hbd⟩)) (by have := hback i _ (List.getElem?_eq_getElem hi) ed (mem_aft.2 ⟨hed, hbd⟩); omega)⟩
            rw [Array.getD_eq_getD_getElem?, Array.getElem?_eq_getElem (by omega)] at hli ⊢
            exact hli
          rw [hnil] at this
          cases this
    intro fuel
    induction fuel with
    | zero =>
      intro listed a1 e1 w1 hr hb hag hsz hS hcl hun0 hcnt
      have hall : ∀ i, i < l.length → listed.getD i false = true := by
        have h4 : (List.range l.length).countP (fun i => listed.getD i false) = (List.range l.length).length := by
          have := List.countP_le_length (p := fun i => listed.getD i false) (l := List.range l.length)
          simp at this hcnt ⊢; omega
        rw [List.countP_eq_length] at h4
        intro i hi
        exact h4 i (by simpa using hi)
      refine ⟨?_, hfin listed a1 e1 w1 hr hb hag hS hall⟩
      rw [List.eq_nil_iff_forall_not_mem]
      intro i hi
      obtain ⟨h5, o, ho, _⟩ := mem_ready.1 hi
      have hil : i < l.length := by
        rcases Nat.lt_or_ge i l.length with h | h
        · exact h
        · simp [List.getElem?_eq_none h] at ho
      have h6 := hall i hil
      rw [Array.getD_eq_getD_getElem?, Array.getElem?_eq_getElem (by omega)] at h5 h6
      simp at h5 h6
      rw [h5] at h6; cases h6
    | succ fuel ih =>
      intro listed a1 e1 w1 hr hb hag hsz hS hcl hun0 hcnt
      refine ⟨fun hnil => hfin listed a1 e1 w1 hr hb hag hS (hready listed hsz hnil), fun i hi => ?_⟩
      obtain ⟨hun, o, ho, haf⟩ := mem_ready.1 hi
      have ho' : l[i]? = some o := by simpa using ho
      have hil : i < l.length := (List.getElem?_eq_some_iff.1 ho').1
      obtain ⟨d, hd, hdo, hdN⟩ := hdst i o ho'
      have hdeps : ∀ j, memb ((aft o).map (·.on)) j = true → ∀ (y : Yd) (o' : Oper), ys[j]? = some y → l[j]? = some o' → y.holds (e1 (dstOf o')) w1 := by
        intro j hj y o' hy hoj
        rw [memb_iff, List.mem_map] at hj
        obtain ⟨ed, hed, rfl⟩ := hj
        exact hS _ y o' (haf ed (mem_aft.1 hed).1 (mem_aft.1 hed).2) hy hoj
      have hrd : ∀ ed ∈ aft o, listed.getD ed.on false = true := fun ed hed => haf ed (mem_aft.1 hed).1 (mem_aft.1 hed).2
      have hun' : listed.getD i false = false := by
        have h5 := hun
        rw [Array.getD_eq_getD_getElem?, Array.getElem?_eq_getElem (by omega)] at h5 ⊢
        exact h5
      have hgs : ∀ k, (listed.setIfInBounds i true).getD k false = if k = i then true else listed.getD k false := by
        intro k
        rw [Array.getD_eq_getD_getElem?, Array.getElem?_setIfInBounds]
        by_cases hki : k = i
        · subst hki; rw [if_pos rfl, if_pos (by omega), if_pos rfl]; rfl
        · rw [if_neg (fun e => hki e.symm), if_neg hki, ← Array.getD_eq_getD_getElem?]
      have hst := hsteps.get i o ho' e1 w1 hb (fun j _ hj => hdeps j hj) (fun j o' hj han => by
        refine hun0 j o' ?_ hj
        cases hlj : listed.getD j false with
        | false => rfl
        | true =>
          have := ancOf_listed hcl _ _ _ han hlj
          rw [Nat.zero_add, hun'] at this; cases this)
      rw [mix_eq hag, ext_of_mt (depFr_mt (aft o) (fun ed hed => by have := hback i o ho' ed hed; omega) hdeps), Nat.zero_add] at hst
      have hwl := hst.run a1 hr
      have hnext : ∀ a2 w2, (∃ e2, Rep N a2 e2 ∧ After i e1 w1 (dstOf o) (ys.getD i (.pr fun _ _ => True)) e2 w2) → wpAny P .any l.toArray (low N Q) fuel (listed.setIfInBounds i true) a2 w2 := by
        intro a2 w2 ⟨e2, hr2, hb2, hy2, hag2⟩
        have hb3 : Below w.heap.size w w2 := hb.trans (hb2.mono hb.size)
        refine ih _ a2 e2 w2 hr2 hb3 (fun j hj => ?_) (by simpa using hsz) (fun k y o' hk hy hok => ?_) (fun k o' hk hok ed hed => ?_) (fun k o' hk hok => ?_) ?_
        · have hne : j ≠ dstOf o := by
            rintro rfl
            have : memb (l.map dstOf) (dstOf o) = true := by rw [memb_iff]; exact List.mem_map.2 ⟨o, List.mem_of_getElem? ho', O⟩
            rw [this] at hj; cases hj
          rw [hag2 j hne]; exact hag j hj
        · by_cases hki : k = i
          · subst hki
            rw [ho'] at hok
            cases hok
            have : ys.getD k (.pr fun _ _ => True) = y := by simp [List.getD_eq_getElem?_getD, hy]
            rw [this] at hy2
            exact hy2
          · have hk' : listed.getD k false = true := by
              rw [Array.getD_eq_getD_getElem?, Array.getElem?_setIfInBounds, if_neg (by omega), ← Array.getD_eq_getD_getElem?] at hk
              exact hk
            have h7 := hS k y o' hk' hy hok
            have hne : dstOf o' ≠ dstOf o := by
              intro heq
              have hkl := (List.getElem?_eq_some_iff.1 hok).1
              have h9 : k = i := (List.getElem_inj (xs := l.map dstOf) (h₀ := by simpa using hkl) (h₁ := by simpa using hil) h2).1 (by
                have e1 := (List.getElem?_eq_some_iff.1 hok).2
                have e2 := (List.getElem?_eq_some_iff.1 ho').2
                simp [e1, e2, heq])
              exact hki h9
            rw [hag2 _ hne]
            exact Yd.holds_later (hlast y (List.mem_of_getElem? hy)) h7 hb2
        · rw [hgs]
          by_cases hei : ed.on = i
          · rw [if_pos hei]
          · rw [if_neg hei]
            by_cases hki : k = i
            · subst hki
              rw [ho'] at hok; cases hok
              exact hrd ed hed
            · rw [hgs, if_neg hki] at hk
              exact hcl k o' hk hok ed hed
        · rw [hgs] at hk
          by_cases hki : k = i
          · rw [if_pos hki] at hk; cases hk
          · rw [if_neg hki] at hk
            rw [hag2 _ (fun heq => by
              have hkl := (List.getElem?_eq_some_iff.1 hok).1
              have h9 : k = i := (List.getElem_inj (xs := l.map dstOf) (h₀ := by simpa using hkl) (h₁ := by simpa using hil) h2).1 (by
                have e1 := (List.getElem?_eq_some_iff.1 hok).2
                have e2 := (List.getElem?_eq_some_iff.1 ho').2
                simp [e1, e2, heq])
              exact hki h9)]
            exact hun0 k o' hk hok
        · have hcount : (List.range l.length).countP (fun k => (listed.setIfInBounds i true).getD k false) = (List.range l.length).countP (fun k => listed.getD k false) + 1 := by
            refine countP_one (fun k => listed.getD k false) (fun k => (listed.setIfInBounds i true).getD k false) i ?_ (fun k => ?_) _ List.nodup_range (by simpa using hil)
            · have h5 := hun
              show listed.getD i false = false
              rw [Array.getD_eq_getD_getElem?, Array.getElem?_eq_getElem (by omega)] at h5 ⊢
              exact h5
            · show (listed.setIfInBounds i true).getD k false = if k = i then true else listed.getD k false
              rw [Array.getD_eq_getD_getElem?, Array.getElem?_setIfInBounds]
              by_cases hki : k = i
              · subst hki; rw [if_pos rfl, if_pos (by omega), if_pos rfl]; rfl
              · rw [if_neg (fun e => hki e.symm), if_neg hki, ← Array.getD_eq_getD_getElem?]
          rw [hcount]; omega
      -- the one operation
      unfold wpOp
      rw [ho]
      unfold wpList at hwl
      show if _ then _ else _
      by_cases hw : Region.wanted o (yielded l.toArray a1.tmps) = true
      · rw [if_pos hw] at hwl ⊢
        rcases hwl with h5 | ⟨_, a0, w0, h5⟩
        · refine .inl (Oper.wp_conv h5 (fun a2 w2 hx => ?_) (fun x a w hx hq => hx hq.1))
          exact hnext a2 w2 hx.2
        · exact absurd h5.1 (by simp)
      · rw [if_neg hw] at hwl ⊢
        exact hnext _ _ hwl.2
  refine key l.length (Array.replicate l.length false) a e _ ha ⟨⟨O, O, O, Nat.le_refl _, fun _ _ => O⟩, fun _ => Nat.le_add_right _ _⟩ (fun _ _ => O) (by simp) (fun i y o hi => ?_) (fun i o hi => ?_) (fun _ _ _ _ => O) (by omega)
  · exfalso
    rw [Array.getD_eq_getD_getElem?, Array.getElem?_replicate] at hi
    split at hi <;> simp at hi
  · exfalso
    rw [Array.getD_eq_getD_getElem?, Array.getElem?_replicate] at hi
    split at hi <;> simp at hi
theorem Cd.join {α : Type} {x y : Code} {Q : Post} (F : α → List (Nat × Value)) (I : α → World → Prop) (hx : Cd P N x (thenQ (fun e' w' => ∃ s, Mt e' (F s) ∧ I s w') Q) e w)
    (hy : ∀ s e' w', I s w' → Cd P N y Q (ext e' (F s)) w') : Cd P N (.seq x y) Q e w :=
  .seq (hx.mono fun ex e' w' q => by
    cases ex <;> first
      | exact q
      | (obtain ⟨s, hm, hi⟩ := q
         have := hy s e' w' hi
         rw [ext_of_mt hm] at this
         exact this))
end
/-
 Typed forms of literals with one element, and of append.
-/
section
variable {P : Program} {N : Nat} {ops : Array Oper} {K : Env → World → Prop} {rest : List Oper} {e : Env} {w0 w w' : World} {ks : List Ck} {d : Nat} {ty : TypeId} {pos : String} {af : Array Edge}
theorem Ops.bs1I {t el : TypeId} {z : Value} {b : Nat} [Und P t (.slice el)] [Inf P el z 1 b] {x0 : Operand} {i : Int} (hS : St w0 w ks) (h0 : ev e x0 = .int .i64 i) (hz : z.cells = #[z]) (hb : Nat.blt d N = true) (hK : ∀ A w', St w0 w' (CkI el A 1 1 [i] :: ks) → Ops P N ops K rest (upd e d (.slice A 1 1)) w') : Ops P N ops K (⟨some d, .buildSlice t 1 #[(0, x0)], ty, pos, af, none⟩ :: rest) e w :=
 .bs1 hS h0 rfl hz hb hK
theorem Ops.bs1R {t el : TypeId} {z : Value} {b : Nat} [Und P t (.slice el)] [Inf P el z 1 b] {x0 : Operand} {A0 : Option Addr} {n0 c0 : Nat} (hS : St w0 w ks) (h0 : ev e x0 = .slice A0 n0 c0) (hz : z.cells = #[z]) (hb : Nat.blt d N = true) (hK : ∀ A w', St w0 w' (CkR el A 1 1 [⟨A0, n0, c0⟩] :: ks) → Ops P N ops K rest (upd e d (.slice A 1 1)) w') : Ops P N ops K (⟨some d, .buildSlice t 1 #[(0, x0)], ty, pos, af, none⟩ :: rest) e w :=
 .bs1 hS h0 rfl hz hb hK
theorem map_range_I {ys : List Int} {m : Nat} (h : ys.length = m) : (List.range m).map (fun j => Value.int .i64 (ys.getD j 0)) = ys.map (.int .i64) := by
 subst h
 apply List.ext_getElem
 ·simp
 intro i h1 h2
 simp [List.getD_eq_getElem?_getD, List.getElem?_eq_getElem (show i < ys.length by simpa using h1)]
theorem map_range_R {ys : List SlV} {m : Nat} (h : ys.length = m) : (List.range m).map (fun j => (ys.getD j slNil).v) = ys.map SlV.v := by
 subst h
 apply List.ext_getElem
 ·simp
 intro i h1 h2
 simp [List.getD_eq_getElem?_getD, List.getElem?_eq_getElem (show i < ys.length by simpa using h1)]
theorem Ops.appI {t el : TypeId} {z : Value} {b : Nat} [hU : Und P t (.slice el)] [Inf P el z 1 b] {x y : Operand} (i : Nat) {A : Option Addr} {n c : Nat} {xs : List Int} {A' : Option Addr} {m c' : Nat} {ys : List Int} (hS : St w0 w ks) (hk : ks[i]? = some (CkI el A n c xs)) (hR : RdI w A' m ys) (hx : ev e x = .slice A n c) (hy : ev e y = .slice A' m c') (hz : z.cells = #[z]) (h63 : n + m ≤ 9223372036854775807) (hbytes : (n + m) * b ≤ 140737488355328) (hb : Nat.blt d N = true) (hK : ∀ A2 c2 w', St w0 w' (ks.set i (CkI el A2 (n + m) c2 (xs ++ ys))) → Ops P N ops K rest (upd e d (.slice A2 (n + m) c2)) w') :
  Ops P N ops K (⟨some d, .call ⟨.builtin .append, #[x, y], #[t, t]⟩, ty, pos, af, none⟩ :: rest) e w :=
 .app i hS hk hR.2 hx hy rfl hz (fun _ _ => rfl) (by simpa [maxLen] using h63) hbytes hb fun A2 c2 w' h => hK A2 c2 w' (by
  rw [map_range_I hR.1] at h
  simpa [CkI] using h)
theorem Ops.appR {t el : TypeId} {z : Value} {b : Nat} [hU : Und P t (.slice el)] [Inf P el z 1 b] {x y : Operand} (i : Nat) {A : Option Addr} {n c : Nat} {xs : List SlV} {A' : Option Addr} {m c' : Nat} {ys : List SlV} (hS : St w0 w ks) (hk : ks[i]? = some (CkR el A n c xs)) (hR : RdR w A' m ys) (hx : ev e x = .slice A n c) (hy : ev e y = .slice A' m c') {z0 : Value} (hz : z.cells = #[z0]) (h63 : n + m ≤ 9223372036854775807) (hbytes : (n + m) * b ≤ 140737488355328) (hb : Nat.blt d N = true) (hK : ∀ A2 c2 w', St w0 w' (ks.set i (CkR el A2 (n + m) c2 (xs ++ ys))) → Ops P N ops K rest (upd e d (.slice A2 (n + m) c2)) w') :
  Ops P N ops K (⟨some d, .call ⟨.builtin .append, #[x, y], #[t, t]⟩, ty, pos, af, none⟩ :: rest) e w :=
 .app i hS hk hR.2 hx hy rfl hz (fun _ _ => rfl) (by simpa [maxLen] using h63) hbytes hb fun A2 c2 w' h => hK A2 c2 w' (by
  rw [map_range_R hR.1] at h
  simpa [CkR] using h)
end
/-
 A statement whose order Go leaves open, with one operation that turns memory; what it waits for comes ahead of it, what waits for it comes behind.
-/
section
variable {P : Program} {N : Nat} {e : Env} {w : World}
end
/-
 Copies, the least of two numbers, and unsigned arithmetic.
-/
section
variable {P : Program} {N : Nat} {ops : Array Oper} {K : Env → World → Prop} {rest : List Oper} {e : Env} {w0 w w' : World} {ks : List Ck} {d : Nat} {ty : TypeId} {pos : String} {af : Array Edge}
theorem Cd.cond_pt {Q : Post} {c : Operand} {x y : Code} {p : Prop} [Decidable p] (hc : ev e c = .bool (decide p)) (hp : p) (h1 : Cd P N x Q e w) : Cd P N (.cond c x y) Q e w := .cond_t (by rw [hc, decide_eq_true hp]) h1
theorem Cd.cond_pf {Q : Post} {c : Operand} {x y : Code} {p : Prop} [Decidable p] (hc : ev e c = .bool (decide p)) (hp : ¬ p) (h1 : Cd P N y Q e w) : Cd P N (.cond c x y) Q e w := .cond_f (by rw [hc, decide_eq_false hp]) h1
theorem cutAt_zero (A : Option Addr) (c : Nat) : cutAt A c 0 = A := by
 unfold cutAt
 split
 ·rfl
 cases A <;> simp [ptrAt, Addr.add]
theorem isM_cp {vs fs : List Value} {l q : Nat} (hM : isM vs = false) (h1 : ∀ u ∈ fs, u.oneCell' = true) (hq : l = 0 → fs ≠ [] := by first | assumption | (intro _ hn; have := congrArg List.length hn; simp at this; omega)) : isM (vs.take l ++ fs ++ vs.drop q) = false := by
  by_cases hl : l = 0
  · subst hl
    rw [List.take_zero, List.nil_append]
    exact isM_appN (isM_all h1) (hq O)
  · cases vs with
    | nil => simp only [List.take_nil, List.drop_nil, List.nil_append, List.append_nil]; exact isM_all h1
    | cons v r =>
      obtain ⟨m, rfl⟩ : ∃ m, l = m + 1 := ⟨l - 1, by omega⟩
      cases v <;> simp_all [isM]
theorem run_copy_st {t t' el : TypeId} {z : Value} {b : Nat} [hU : Und P t (.slice el)] [Inf P el z 1 b] {k : Ck} (i l : Nat) (hS : St w0 w ks) (hk : ks[i]? = some k) (hM : isM k.vs = false) (hl : l ≤ k.n) {A' : Option Addr} {m dc c' : Nat} {f : Nat → Value} (hR : Rd w A' m f) (h1 : ∀ j, j < m → (f j).oneCell' = true) (ty : TypeId) (q : Nat) (hq : q = min m (k.n - l)) :
  ∃ w', (Builtin.copy_ #[t, t'] ty #[.slice (cutAt k.A k.c l) (k.n - l) dc, .slice A' m c']).run P w = .ok (.int .i64 (q : Int)) w' ∧ St w0 w' (ks.set i { k with vs := k.vs.take l ++ (List.range q).map f ++ k.vs.drop (l + q) }) := by
 obtain ⟨inf, hi, hz0, hs, hby⟩ := Inf.get P el
 have hown := hS.getC hk hM
 obtain ⟨hvl, hnc, hcm, h4⟩ := hown
 have hilt := (List.getElem?_eq_some_iff.1 hk).1
 have hs' : (P.info? el).map (·.size) = some 1 := by simp [hi, hs]
 by_cases hq0 : q = 0
 ·have hr := run_copy_none (P := P) w t t' ty el (cutAt k.A k.c l) A' (k.n - l) dc m c' hU.out hs' (by show min m (k.n - l) = 0; omega)
  refine ⟨w, by rw [hr, hq0]; rfl, ?_⟩
  have h5 : ({ k with vs := k.vs.take l ++ (List.range q).map f ++ k.vs.drop (l + q) } : Ck) = k := by subst hq0; simp [List.take_append_drop]
  have : ks.set i { k with vs := k.vs.take l ++ (List.range q).map f ++ k.vs.drop (l + q) } = ks := by
   rw [h5]
   apply List.ext_getElem?
   intro j
   rw [List.getElem?_set]
   split
   ·rename_i e; subst e; rw [hk]
    try simp [hilt]
   rfl
  rw [this]; exact hS
 obtain ⟨a, rfl⟩ : ∃ a, A' = some a := by
  obtain ⟨p, hp, _⟩ := hR 0 (by omega)
  cases A' with | none => simp [ptrAt] at hp | some q => exact ⟨q, rfl⟩
 rcases h4 with ⟨hA, h0⟩ | ⟨g, o, cur, hA, hg, hh, hsz, hc⟩
 ·omega
 have hD : cutAt k.A k.c l = some ⟨g, o + l, none⟩ := by
  unfold cutAt
  rw [if_neg (by omega), hA]
  simp [ptrAt, add_none]
 have hnl : ((List.range q).map f).length = q := by simp
 have hnews : ∀ j v, ((List.range q).map f)[j]? = some v → w.cell? (a.add j) = some v := by
  intro j v hj
  have hjm : j < q := by have := (List.getElem?_eq_some_iff.1 hj).1; simpa using this
  obtain ⟨p, hp, hc⟩ := hR j (by omega)
  simp only [ptrAt, Option.map_some, Option.some.injEq] at hp
  rw [hp, hc, ← hj]
  simp [hjm]
 have h1' : ∀ u ∈ (List.range q).map f, u.oneCell' = true := by
  intro u hu
  obtain ⟨j, hj, rfl⟩ := List.mem_map.1 hu
  have hjq : j < q := by simpa using hj
  exact h1 j (by omega)
 have hr := run_copy_row (P := P) w t t' ty el g (o + l) (k.n - l) dc a m c' cur k.e ((List.range q).map f) hU.out hs' hh (by rw [hnl, hq]) hnews (by rw [hnl]; omega) h1'
 rw [hnl] at hr
 rw [hD]
 refine ⟨w.setRow g (cur.toList.take (o + l) ++ (List.range q).map f ++ cur.toList.drop (o + l + q)).toArray, hr, hS.turn (k := k) (k' := { k with vs := k.vs.take l ++ (List.range q).map f ++ k.vs.drop (l + q) }) (g := g) hk (by simp [Ck.blk, hA]) (by simp [Ck.blk, hA]) ⟨⟨O, O, O, by simp, fun x _ hx => setRow_other w g x _ (fun e => hx (by rw [e]))⟩, Nat.le_refl _⟩ ?_⟩
 refine .ofC (isM_cp hM h1') ⟨by simp [hvl]; omega, hnc, hcm, .inr ⟨g, o, _, hA, hg, setRow_heap w g cur _ k.e _ hh, ?_, fun j hj => ?_⟩⟩
 ·simp; omega
 have hj' : j < k.n := hj
 have hcl : cur.toList.length = cur.size := by simp
 show ((cur.toList.take (o + l) ++ (List.range q).map f ++ cur.toList.drop (o + l + q)).toArray)[o + j]? = (k.vs.take l ++ (List.range q).map f ++ k.vs.drop (l + q))[j]?
 rw [List.getElem?_toArray, List.append_assoc, List.append_assoc]
 by_cases hjl : j < l
 ·rw [List.getElem?_append_left (by simp; omega), List.getElem?_take, if_pos (by omega), List.getElem?_append_left (by simp; omega), List.getElem?_take, if_pos hjl, Array.getElem?_toList]
  exact hc j hj'
 have e1 : o + j - (cur.toList.take (o + l)).length = j - l := by simp; omega
 have e2 : j - (k.vs.take l).length = j - l := by simp; omega
 have e3 : (cur.toList.take (o + l) ++ ((List.range q).map f ++ cur.toList.drop (o + l + q)))[o + j]? = ((List.range q).map f ++ cur.toList.drop (o + l + q))[j - l]? := by
  rw [List.getElem?_append_right (by simp; omega), e1]
 have e4 : (k.vs.take l ++ ((List.range q).map f ++ k.vs.drop (l + q)))[j]? = ((List.range q).map f ++ k.vs.drop (l + q))[j - l]? := by
  rw [List.getElem?_append_right (by simp; omega), e2]
 rw [e3, e4]
 by_cases hjq : j - l < q
 ·rw [List.getElem?_append_left (by simpa using hjq), List.getElem?_append_left (by simpa using hjq)]
 rw [List.getElem?_append_right (by rw [hnl]; omega), List.getElem?_append_right (by rw [hnl]; omega), hnl, List.getElem?_drop, List.getElem?_drop, Array.getElem?_toList, show o + l + q + (j - l - q) = o + j by omega, show l + q + (j - l - q) = j by omega]
 exact hc j hj'
theorem Ops.cp {t t' el : TypeId} {z : Value} {b : Nat} [hU : Und P t (.slice el)] [Inf P el z 1 b] {x y : Operand} {k : Ck} (i l : Nat) {A' : Option Addr} {m dc c' : Nat} {f : Nat → Value} (q : Nat) (hS : St w0 w ks) (hk : ks[i]? = some k) (hR : Rd w A' m f) (hl : l ≤ k.n) (hx : ev e x = .slice (cutAt k.A k.c l) (k.n - l) dc) (hy : ev e y = .slice A' m c') (h1 : ∀ j, j < m → (f j).oneCell' = true) (hq : q = min m (k.n - l)) (hb : Nat.blt d N = true) (hK : ∀ w', St w0 w' (ks.set i { k with vs := k.vs.take l ++ (List.range q).map f ++ k.vs.drop (l + q) }) → Ops P N ops K rest (upd e d (.int .i64 (q : Int))) w') (hM : isM k.vs = false := by first | rfl | exact isM_I _ | exact isM_B _ | exact isM_R _) :
  Ops P N ops K (⟨some d, .call ⟨.builtin .copy, #[x, y], #[t, t']⟩, ty, pos, af, none⟩ :: rest) e w := by
 obtain ⟨w', hr, hS'⟩ := run_copy_st (P := P) (t := t) (t' := t') (dc := dc) (c' := c') i l hS hk hM hl hR h1 ty q hq
 refine .val (w' := w') ?_ hb (hK _ hS')
 simp [execOp, resolve, invoke, builtin, hx, hy, hr]
theorem Ops.minI {x y : Operand} {t t' : TypeId} {i j : Int} (hx : ev e x = .int .i64 i) (hy : ev e y = .int .i64 j) (hb : Nat.blt d N = true) (hK : Ops P N ops K rest (upd e d (.int .i64 (min i j))) w) :
  Ops P N ops K (⟨some d, .call ⟨.builtin .min, #[x, y], #[t, t']⟩, ty, pos, af, none⟩ :: rest) e w := by
 have hm : (if j < i then j else i) = min i j := by split <;> omega
 refine .val (w' := w) ?_ hb hK
 simp [execOp, resolve, invoke, builtin, hx, hy, Builtin.min_, Builtin.min2, hm]
section
variable {x y : Operand} {xt yt : TypeId} {i j : Int}
theorem wrap_u64_in (i : Int) (h : 0 ≤ i ∧ i ≤ 18446744073709551615) : IntKind.u64.wrap i = i := by rw [IntKind.wrap_u64]; omega
theorem Ops.addU (r : Int) (hx : ev e x = .int .u64 i) (hy : ev e y = .int .u64 j) (hb : Nat.blt d N = true) (he : i + j = r) (hr : 0 ≤ r ∧ r ≤ 18446744073709551615) (hK : Ops P N ops K rest (upd e d (.int .u64 r)) w) :
  Ops P N ops K (⟨some d, .binOp .add xt x y yt, ty, pos, af, none⟩ :: rest) e w :=
 .val (by simp [execOp, hx, hy, eqGuard, binOp, Op.intArith, he, wrap_u64_in _ hr]) hb hK
theorem Ops.mulU (r : Int) (hx : ev e x = .int .u64 i) (hy : ev e y = .int .u64 j) (hb : Nat.blt d N = true) (he : i * j = r) (hr : 0 ≤ r ∧ r ≤ 18446744073709551615) (hK : Ops P N ops K rest (upd e d (.int .u64 r)) w) :
  Ops P N ops K (⟨some d, .binOp .mul xt x y yt, ty, pos, af, none⟩ :: rest) e w :=
 .val (by simp [execOp, hx, hy, eqGuard, binOp, Op.intArith, he, wrap_u64_in _ hr]) hb hK
theorem Ops.andU (r : Int) (hx : ev e x = .int .u64 i) (hy : ev e y = .int .u64 4294967295) (hb : Nat.blt d N = true) (hr : 0 ≤ i ∧ i ≤ 18446744073709551615) (he : i % 4294967296 = r) (hK : Ops P N ops K rest (upd e d (.int .u64 r)) w) :
  Ops P N ops K (⟨some d, .binOp .and xt x y yt, ty, pos, af, none⟩ :: rest) e w := by
 subst he
 obtain ⟨a, rfl⟩ : ∃ a : Nat, i = a := ⟨i.toNat, by omega⟩
 have h := Mul64.maskN a (by omega)
 rw [show ((a % 4294967296 : Nat) : Int) = (a : Int) % 4294967296 by omega] at h
 refine .val ?_ hb hK
 simp only [execOp, hx, hy, eqGuard, binOp, intBits_and, h]; simp
theorem Ops.shrU (r : Int) (hx : ev e x = .int .u64 i) (hy : ev e y = .int .u64 32) (hb : Nat.blt d N = true) (hr : 0 ≤ i) (he : i / 4294967296 = r) (hK : Ops P N ops K rest (upd e d (.int .u64 r)) w) :
  Ops P N ops K (⟨some d, .binOp .shr xt x y yt, ty, pos, af, none⟩ :: rest) e w := by
 subst he
 refine .val ?_ hb hK
 have e1 : min 32 IntKind.u64.bits = 32 := by decide
 have e2 : i.fdiv (2 ^ 32) = i / 4294967296 := by rw [Int.fdiv_eq_ediv_of_nonneg _ (by decide)]; rfl
 have e2' : i.fdiv 4294967296 = i / 4294967296 := e2
 simp [execOp, hx, hy, eqGuard, binOp, Op.shift, e1, e2']
theorem Ops.convK {k k' : IntKind} [Und P yt (.int k')] (hx : ev e x = .int k i) (hb : Nat.blt d N = true) (hw : k'.wrap i = i) {u : TypeDesc} [Und P xt u] (hK : Ops P N ops K rest (upd e d (.int k' i)) w) :
  Ops P N ops K (⟨some d, .convert xt yt x, ty, pos, af, none⟩ :: rest) e w :=
 .val (by simp [execOp, hx, convert, run_underlying (Und.out (P := P) (t := xt)), run_underlying (Und.out (P := P) (t := yt)), Conv.intToInt, hw]) hb hK
end
end
/-
 Slices of slices: read, and made anew.
-/
structure RowsI (w : World) (A : Option Addr) (n : Nat) (rs : List SlV) (xss : List (List Int)) : Prop where
 top : RdR w A n rs
 len : xss.length = n
 row : ∀ i, i < n → RdI w (rs.getD i slNil).a (rs.getD i slNil).n (xss.getD i [])
 cap : ∀ i, i < n → (rs.getD i slNil).n ≤ (rs.getD i slNil).c ∧ (rs.getD i slNil).c ≤ maxLen
def gl (xss : List (List Int)) (i : Int) : List Int := xss.getD i.toNat []
theorem RowsI.at_ {w : World} {A : Option Addr} {n : Nat} {rs : List SlV} {xss : List (List Int)} (h : RowsI w A n rs xss) {i : Int} (_h0 : 0 ≤ i) (hi : i < n) : RdI w (rg rs i).a (rg rs i).n (gl xss i) := h.row _ (by omega)
theorem RowsI.cap_ {w : World} {A : Option Addr} {n : Nat} {rs : List SlV} {xss : List (List Int)} (h : RowsI w A n rs xss) {i : Int} (_h0 : 0 ≤ i) (hi : i < n) : (rg rs i).n ≤ (rg rs i).c ∧ (rg rs i).c ≤ 9223372036854775807 := h.cap _ (by omega)
theorem RowsI.later {w w' : World} {A : Option Addr} {n : Nat} {rs : List SlV} {xss : List (List Int)} (h : RowsI w A n rs xss) (hb : Below w.heap.size w w') : RowsI w' A n rs xss :=
 ⟨h.top.later hb, h.len, fun i hi => (h.row i hi).later hb, h.cap⟩
theorem St.oldRows {w0 w : World} {ks : List Ck} {A : Option Addr} {n : Nat} {rs : List SlV} {xss : List (List Int)} (h : St w0 w ks) (hR : RowsI w0 A n rs xss) : RowsI w A n rs xss := hR.later h.below
def rowsCk (t : TypeId) : List SlV → List (List Int) → List Ck
 | r :: rs, xs :: xss => CkI t r.a r.n r.c xs :: rowsCk t rs xss
 | _, _ => []
def mat (t1 t2 : TypeId) (A : Option Addr) (n c : Nat) (rs : List SlV) (xss : List (List Int)) : List Ck := CkR t1 A n c rs :: rowsCk t2 rs xss
theorem rowsCk_get {t : TypeId} : ∀ {rs : List SlV} {xss : List (List Int)} {i : Nat}, rs.length = xss.length → i < rs.length → (rowsCk t rs xss)[i]? = some (CkI t (rs.getD i slNil).a (rs.getD i slNil).n (rs.getD i slNil).c (xss.getD i []))
 | [], _, _, _, h => by simp at h
 | r :: rs, [], _, h, _ => by simp at h
 | r :: rs, xs :: xss, 0, _, _ => rfl
 | r :: rs, xs :: xss, i + 1, h, hi => by
  have := rowsCk_get (t := t) (rs := rs) (xss := xss) (i := i) (by simpa using h) (by simpa using hi)
  simpa [rowsCk] using this
theorem rowsCk_length {t : TypeId} : ∀ {rs : List SlV} {xss : List (List Int)}, rs.length = xss.length → (rowsCk t rs xss).length = rs.length
 | [], [], _ => rfl
 | [], _ :: _, h => by simp at h
 | _ :: _, [], h => by simp at h
 | r :: rs, xs :: xss, h => by simp [rowsCk, rowsCk_length (t := t) (rs := rs) (xss := xss) (by simpa using h)]
theorem rowsCk_append {t : TypeId} : ∀ {rs rs' : List SlV} {xss xss' : List (List Int)}, rs.length = xss.length → rowsCk t (rs ++ rs') (xss ++ xss') = rowsCk t rs xss ++ rowsCk t rs' xss'
 | [], _, [], _, _ => rfl
 | [], _, _ :: _, _, h => by simp at h
 | _ :: _, _, [], _, h => by simp at h
 | r :: rs, rs', xs :: xss, xss', h => by
  have := rowsCk_append (t := t) (rs := rs) (rs' := rs') (xss := xss) (xss' := xss') (by simpa using h)
  simp [rowsCk, this]
theorem St.rowsI {w0 w : World} {ks : List Ck} {t1 t2 : TypeId} {A : Option Addr} {n c : Nat} {rs : List SlV} {xss : List (List Int)} (h : St w0 w (mat t1 t2 A n c rs xss ++ ks)) (hl : xss.length = n) : RowsI w A n rs xss := by
 have h0 := h.rdR 0 (show (mat t1 t2 A n c rs xss ++ ks)[0]? = some (CkR t1 A n c rs) from O)
 have hr : rs.length = xss.length := by rw [h0.1, hl]
 have get : ∀ i, i < n → (mat t1 t2 A n c rs xss ++ ks)[i + 1]? = some (CkI t2 (rs.getD i slNil).a (rs.getD i slNil).n (rs.getD i slNil).c (xss.getD i [])) := by
  intro i hi
  have h1 := rowsCk_get (t := t2) (rs := rs) (xss := xss) (i := i) hr (by omega)
  rw [List.getElem?_append_left (by simp [mat, rowsCk_length hr]; omega)]
  simpa [mat] using h1
 exact ⟨h0, hl, fun i hi => h.rdI (i + 1) (get i hi), fun i hi => h.cap (i + 1) (get i hi)⟩
end Go.Proofs.YtopgfgdgfjddpaaGreatDoor.Vc
