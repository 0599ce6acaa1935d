/-
  One rule an operation, over the calculus of XVc. Conditions: as each rule names them.
-/
import Derived.Test.YtpdhjnacnmfbjaaVc
namespace Go.Proofs.Ytpdhjnacnmfbjaa.Vc
open Go.RowKit

class Und (P : Program) (t : TypeId) (d : outParam TypeDesc) : Type where
  out : P.underlying t = some d
class Inf (P : Program) (t : TypeId) (z : outParam Value) (size bytes : outParam Nat) : Prop where
  out : (P.info? t).map (fun i => (i.zero, i.size, i.bytes)) = some (some z, size, bytes)
class Fnc (P : Program) (F : FuncId) : Prop where
  out : ∃ fn, P.funcs[F]? = some fn ∧ (fn.name == "runtime.NumGoroutine") = false ∧ fn.body.isNone = false

theorem Inf.get (P : Program) (t : TypeId) {z : Value} {s b : Nat} [h : Inf P t z s b] : ∃ i, P.info? t = some i ∧ i.zero = some z ∧ i.size = s ∧ i.bytes = b := by
  obtain ⟨i, hi, he⟩ := Option.map_eq_some_iff.1 h.out
  simp only [Prod.mk.injEq] at he
  exact ⟨i, hi, he.1, he.2.1, he.2.2⟩

section
variable {P : Program} {N : Nat} {ops : Array Oper} {K : Env → World → Prop} {rest : List Oper} {e : Env} {w w' : World} {d : Nat} {ty : TypeId} {pos : String} {af : Array Edge}

theorem Ops.nil (h : K e w) : Ops P N ops K [] e w := .mk' fun a ha => wpList_nil ⟨rfl, e, ha, h⟩

theorem Ops.val {op : Op} {v : Value} (hr : (execOp (ev e) ⟨some d, op, ty, pos, af, none⟩).run P w = .ok (.value v) w') (hb : Nat.blt d N = true) (hK : Ops P N ops K rest (upd e d v) w') :
    Ops P N ops K (⟨some d, op, ty, pos, af, none⟩ :: rest) e w := .mk' fun a ha => by
  refine wpList_plain rfl fun J hJ => ?_
  unfold Oper.wp
  rw [ha.eval, hr]
  exact hJ _ _ (hK.run _ (ha.put hb v))

theorem Ops.unit {op : Op} (hr : (execOp (ev e) ⟨none, op, ty, pos, af, none⟩).run P w = .ok .skip w') (hK : Ops P N ops K rest e w') :
    Ops P N ops K (⟨none, op, ty, pos, af, none⟩ :: rest) e w := .mk' fun a ha => by
  refine wpList_plain rfl fun J hJ => ?_
  unfold Oper.wp
  rw [ha.eval, hr]
  exact hJ _ _ (hK.run _ ha)

theorem Ops.val0 {op : Op} {v : Value} (hr : (execOp (ev e) ⟨none, op, ty, pos, af, none⟩).run P w = .ok (.value v) w') (hK : Ops P N ops K rest e w') :
    Ops P N ops K (⟨none, op, ty, pos, af, none⟩ :: rest) e w := .mk' fun a ha => by
  refine wpList_plain rfl fun J hJ => ?_
  unfold Oper.wp
  rw [ha.eval, hr]
  exact hJ _ _ (hK.run _ ha)

/-! guards -/
theorem yielded_rep {a : Act} {j dj : Nat} {b : Bool} (ha : Rep N a e) (hj : (ops[j]?).bind (·.dst) = some dj) (hlt : Nat.blt dj N = true) (hv : e dj = .bool b) : yielded ops a.tmps j = some b := by
  have h1 : dj < a.tmps.size := by rw [ha.size]; simpa [Nat.blt_eq] using hlt
  have h2 := ha.get dj
  rw [Array.getD_eq_getD_getElem?, Array.getElem?_eq_getElem h1, Option.getD_some, hv] at h2
  simp [yielded, hj, Array.getElem?_eq_getElem h1, h2]

theorem Ops.rung {o : Option Tmp} {op : Op} {j dj : Nat} {want : Bool} (hj : (ops[j]?).bind (·.dst) = some dj) (hlt : Nat.blt dj N = true) (hv : e dj = .bool want)
    (hK : Ops P N ops K (⟨o, op, ty, pos, af, none⟩ :: rest) e w) : Ops P N ops K (⟨o, op, ty, pos, af, some (j, want)⟩ :: rest) e w := .mk' fun a ha => by
  have h := hK.run a ha
  have hy := yielded_rep (ops := ops) ha hj hlt hv
  have hw : Region.wanted (⟨o, op, ty, pos, af, some (j, want)⟩ : Oper) (yielded ops a.tmps) = true := by
    simp [Region.wanted, hy]
  unfold wpList at h ⊢
  rw [if_pos hw]
  rw [if_pos (show Region.wanted (⟨o, op, ty, pos, af, none⟩ : Oper) (yielded ops a.tmps) = true from rfl)] at h
  exact h

theorem Ops.skipg {op : Op} {j dj : Nat} {want b : Bool} (hj : (ops[j]?).bind (·.dst) = some dj) (hlt : Nat.blt dj N = true) (hv : e dj = .bool b) (hne : (b == want) = false) (hb : Nat.blt d N = true)
    (hK : Ops P N ops K rest (upd e d undef) w) : Ops P N ops K (⟨some d, op, ty, pos, af, some (j, want)⟩ :: rest) e w := .mk' fun a ha => by
  have hy := yielded_rep (ops := ops) ha hj hlt hv
  refine wpList_skip ?_ (hK.run _ (ha.put hb undef))
  simp only [Region.wanted]
  rw [hy]
  simpa using hne

theorem Ops.skipu {op : Op} {j dj : Nat} {want : Bool} (hj : (ops[j]?).bind (·.dst) = some dj) (hlt : Nat.blt dj N = true) (hv : e dj = undef) (hb : Nat.blt d N = true)
    (hK : Ops P N ops K rest (upd e d undef) w) : Ops P N ops K (⟨some d, op, ty, pos, af, some (j, want)⟩ :: rest) e w := .mk' fun a ha => by
  refine wpList_skip ?_ (hK.run _ (ha.put hb undef))
  have h1 : dj < a.tmps.size := by rw [ha.size]; simpa [Nat.blt_eq] using hlt
  have h2 := ha.get dj
  rw [Array.getD_eq_getD_getElem?, Array.getElem?_eq_getElem h1, Option.getD_some, hv] at h2
  simp [Region.wanted, yielded, hj, Array.getElem?_eq_getElem h1, h2, undef]

/-- a test's slot, parted on -/
theorem upd_same {e : Env} {d : Nat} {v : Value} (h : e d = v) : upd e d v = e := by
  funext j
  unfold upd
  cases hb : Nat.beq j d with
  | false => rfl
  | true => rw [Nat.eq_of_beq_eq_true hb, h]; rfl
theorem Ops.split {l : List Oper} (d : Nat) {b : Bool} (hv : e d = .bool b) (h1 : b = true → Ops P N ops K l (upd e d (.bool true)) w) (h2 : b = false → Ops P N ops K l (upd e d (.bool false)) w) : Ops P N ops K l e w := by
  cases b
  · have := h2 rfl; rwa [upd_same hv] at this
  · have := h1 rfl; rwa [upd_same hv] at this
theorem Ops.split_p {l : List Oper} (d : Nat) {p : Prop} [Decidable p] (hv : e d = .bool (decide p)) (h1 : p → Ops P N ops K l (upd e d (.bool true)) w) (h2 : ¬ p → Ops P N ops K l (upd e d (.bool false)) w) : Ops P N ops K l e w :=
  .split d hv (fun h => h1 (of_decide_eq_true h)) (fun h => h2 (of_decide_eq_false h))

/-! moves -/
def mvOf : Op → Option Operand
  | .move x => some x
  | .assign x => some x
  | _ => none
theorem run_mv {op : Op} {x : Operand} (h : mvOf op = some x) : (execOp (ev e) ⟨some d, op, ty, pos, af, none⟩).run P w = .ok (.value (ev e x)) w := by
  cases op <;> simp [mvOf] at h <;> subst h <;> rfl
theorem Ops.mv {op : Op} {x : Operand} {v : Value} (hop : mvOf op = some x) (hx : ev e x = v) (hb : Nat.blt d N = true) (hK : Ops P N ops K rest (upd e d v) w) : Ops P N ops K (⟨some d, op, ty, pos, af, none⟩ :: rest) e w :=
  .val (by rw [run_mv hop, hx]) hb hK
theorem Ops.mv_int {op : Op} {x : Operand} {k : IntKind} {i : Int} (hop : mvOf op = some x) (hx : ev e x = .int k i) (hb : Nat.blt d N = true) (hK : Ops P N ops K rest (upd e d (.int k i)) w) : Ops P N ops K (⟨some d, op, ty, pos, af, none⟩ :: rest) e w := .mv hop hx hb hK
theorem Ops.mv_sl {op : Op} {x : Operand} {A : Option Addr} {n c : Nat} (hop : mvOf op = some x) (hx : ev e x = .slice A n c) (hb : Nat.blt d N = true) (hK : Ops P N ops K rest (upd e d (.slice A n c)) w) : Ops P N ops K (⟨some d, op, ty, pos, af, none⟩ :: rest) e w := .mv hop hx hb hK
theorem Ops.mv_bool {op : Op} {x : Operand} {b : Bool} (hop : mvOf op = some x) (hx : ev e x = .bool b) (hb : Nat.blt d N = true) (hK : Ops P N ops K rest (upd e d (.bool b)) w) : Ops P N ops K (⟨some d, op, ty, pos, af, none⟩ :: rest) e w := .mv hop hx hb hK
theorem Ops.mv_ptr {op : Op} {x : Operand} {p : Option Addr} (hop : mvOf op = some x) (hx : ev e x = .pointer p) (hb : Nat.blt d N = true) (hK : Ops P N ops K rest (upd e d (.pointer p)) w) : Ops P N ops K (⟨some d, op, ty, pos, af, none⟩ :: rest) e w := .mv hop hx hb hK
theorem Ops.mv_agg {op : Op} {x : Operand} {cs : Array Value} (hop : mvOf op = some x) (hx : ev e x = .agg cs) (hb : Nat.blt d N = true) (hK : Ops P N ops K rest (upd e d (.agg cs)) w) : Ops P N ops K (⟨some d, op, ty, pos, af, none⟩ :: rest) e w := .mv hop hx hb hK
theorem Ops.mv_fn {op : Op} {x : Operand} {f : Fn} {c1 c2 : Array Value} (hop : mvOf op = some x) (hx : ev e x = .func f c1 c2) (hb : Nat.blt d N = true) (hK : Ops P N ops K rest (upd e d (.func f c1 c2)) w) : Ops P N ops K (⟨some d, op, ty, pos, af, none⟩ :: rest) e w := .mv hop hx hb hK
theorem Ops.mv_tup {op : Op} {x : Operand} {cs : Array Value} (hop : mvOf op = some x) (hx : ev e x = .tuple cs) (hb : Nat.blt d N = true) (hK : Ops P N ops K rest (upd e d (.tuple cs)) w) : Ops P N ops K (⟨some d, op, ty, pos, af, none⟩ :: rest) e w := .mv hop hx hb hK

/-! integers -/
section
variable {x y : Operand} {xt yt : TypeId} {i j : Int}
theorem Ops.add (hx : ev e x = .int .i64 i) (hy : ev e y = .int .i64 j) (hb : Nat.blt d N = true) (hr : -9223372036854775808 ≤ i + j ∧ i + j ≤ 9223372036854775807) (hK : Ops P N ops K rest (upd e d (.int .i64 (i + j))) w) :
    Ops P N ops K (⟨some d, .binOp .add xt x y yt, ty, pos, af, none⟩ :: rest) e w :=
  .val (by simp [execOp, hx, hy, eqGuard, binOp, Op.intArith, IntWalk.i64_in _ hr]) hb hK
theorem Ops.sub (hx : ev e x = .int .i64 i) (hy : ev e y = .int .i64 j) (hb : Nat.blt d N = true) (hr : -9223372036854775808 ≤ i - j ∧ i - j ≤ 9223372036854775807) (hK : Ops P N ops K rest (upd e d (.int .i64 (i - j))) w) :
    Ops P N ops K (⟨some d, .binOp .sub xt x y yt, ty, pos, af, none⟩ :: rest) e w :=
  .val (by simp [execOp, hx, hy, eqGuard, binOp, Op.intArith, IntWalk.i64_in _ hr]) hb hK
theorem Ops.mul (hx : ev e x = .int .i64 i) (hy : ev e y = .int .i64 j) (hb : Nat.blt d N = true) (hr : -9223372036854775808 ≤ i * j ∧ i * j ≤ 9223372036854775807) (hK : Ops P N ops K rest (upd e d (.int .i64 (i * j))) w) :
    Ops P N ops K (⟨some d, .binOp .mul xt x y yt, ty, pos, af, none⟩ :: rest) e w :=
  .val (by simp [execOp, hx, hy, eqGuard, binOp, Op.intArith, IntWalk.i64_in _ hr]) hb hK
theorem Ops.quo (hx : ev e x = .int .i64 i) (hy : ev e y = .int .i64 j) (hb : Nat.blt d N = true) (hr : 0 ≤ i ∧ i ≤ 9223372036854775807 ∧ 1 ≤ j) (hK : Ops P N ops K rest (upd e d (.int .i64 (i / j))) w) :
    Ops P N ops K (⟨some d, .binOp .quo xt x y yt, ty, pos, af, none⟩ :: rest) e w :=
  .val (by simp [execOp, hx, hy, eqGuard, binOp, Op.intDiv, IntWalk.i64_quo _ _ hr, show j ≠ 0 by omega]) hb hK
theorem Ops.rem (hx : ev e x = .int .i64 i) (hy : ev e y = .int .i64 j) (hb : Nat.blt d N = true) (hr : 0 ≤ i ∧ 1 ≤ j) (hK : Ops P N ops K rest (upd e d (.int .i64 (i % j))) w) :
    Ops P N ops K (⟨some d, .binOp .rem xt x y yt, ty, pos, af, none⟩ :: rest) e w :=
  .val (by simp [execOp, hx, hy, eqGuard, binOp, Op.intDiv, Int.tmod_eq_emod_of_nonneg hr.1, show j ≠ 0 by omega]) hb hK
theorem Ops.lss {k : IntKind} (hx : ev e x = .int k i) (hy : ev e y = .int k j) (hb : Nat.blt d N = true) (hK : Ops P N ops K rest (upd e d (.bool (decide (i < j)))) w) :
    Ops P N ops K (⟨some d, .binOp .lss xt x y yt, ty, pos, af, none⟩ :: rest) e w := .val (by simp [execOp, hx, hy, eqGuard, binOp, Op.intCmp]) hb hK
theorem Ops.leq {k : IntKind} (hx : ev e x = .int k i) (hy : ev e y = .int k j) (hb : Nat.blt d N = true) (hK : Ops P N ops K rest (upd e d (.bool (decide (i ≤ j)))) w) :
    Ops P N ops K (⟨some d, .binOp .leq xt x y yt, ty, pos, af, none⟩ :: rest) e w := .val (by simp [execOp, hx, hy, eqGuard, binOp, Op.intCmp]) hb hK
theorem Ops.gtr {k : IntKind} (hx : ev e x = .int k i) (hy : ev e y = .int k j) (hb : Nat.blt d N = true) (hK : Ops P N ops K rest (upd e d (.bool (decide (j < i)))) w) :
    Ops P N ops K (⟨some d, .binOp .gtr xt x y yt, ty, pos, af, none⟩ :: rest) e w := .val (by simp [execOp, hx, hy, eqGuard, binOp, Op.intCmp]) hb hK
theorem Ops.geq {k : IntKind} (hx : ev e x = .int k i) (hy : ev e y = .int k j) (hb : Nat.blt d N = true) (hK : Ops P N ops K rest (upd e d (.bool (decide (j ≤ i)))) w) :
    Ops P N ops K (⟨some d, .binOp .geq xt x y yt, ty, pos, af, none⟩ :: rest) e w := .val (by simp [execOp, hx, hy, eqGuard, binOp, Op.intCmp]) hb hK
theorem beq_dec (i j : Int) : (i == j) = decide (i = j) := by by_cases h : i = j <;> simp [h]
theorem bne_dec (i j : Int) : (i != j) = decide (¬ i = j) := by by_cases h : i = j <;> simp [h]
theorem Ops.eql {k : IntKind} (hx : ev e x = .int k i) (hy : ev e y = .int k j) (hb : Nat.blt d N = true) (hK : Ops P N ops K rest (upd e d (.bool (decide (i = j)))) w) :
    Ops P N ops K (⟨some d, .binOp .eql xt x y yt, ty, pos, af, none⟩ :: rest) e w := .val (by rw [← beq_dec]; simp [execOp, hx, hy, eqGuard, binOp, Op.intCmp]) hb hK
theorem Ops.neq {k : IntKind} (hx : ev e x = .int k i) (hy : ev e y = .int k j) (hb : Nat.blt d N = true) (hK : Ops P N ops K rest (upd e d (.bool (decide (¬ i = j)))) w) :
    Ops P N ops K (⟨some d, .binOp .neq xt x y yt, ty, pos, af, none⟩ :: rest) e w := .val (by rw [← bne_dec]; simp [execOp, hx, hy, eqGuard, binOp, Op.intCmp]) hb hK
theorem Ops.not {b : Bool} (hx : ev e x = .bool b) (hb : Nat.blt d N = true) (hK : Ops P N ops K rest (upd e d (.bool (!b))) w) :
    Ops P N ops K (⟨some d, .unOp .not xt x, ty, pos, af, none⟩ :: rest) e w := .val (by simp [execOp, hx, Op.unary]) hb hK
theorem Ops.not_p {p : Prop} [Decidable p] (hx : ev e x = .bool (decide p)) (hb : Nat.blt d N = true) (hK : Ops P N ops K rest (upd e d (.bool (decide ¬ p))) w) :
    Ops P N ops K (⟨some d, .unOp .not xt x, ty, pos, af, none⟩ :: rest) e w := .val (by simp [execOp, hx, Op.unary]) hb hK
theorem Ops.neg (hx : ev e x = .int .i64 i) (hb : Nat.blt d N = true) (hr : -9223372036854775807 ≤ i ∧ i ≤ 9223372036854775807) (hK : Ops P N ops K rest (upd e d (.int .i64 (-i))) w) :
    Ops P N ops K (⟨some d, .unOp .neg xt x, ty, pos, af, none⟩ :: rest) e w := .val (by simp [execOp, hx, Op.unary, Op.intArith, IntWalk.i64_in (-i) (by omega)]) hb hK
theorem Ops.pick_t {c : Operand} {b : Bool} (hc : ev e c = .bool true) (hx : ev e x = .bool b) (hb : Nat.blt d N = true) (hK : Ops P N ops K rest (upd e d (.bool b)) w) :
    Ops P N ops K (⟨some d, .pick c x y, ty, pos, af, none⟩ :: rest) e w := .val (by simp [execOp, hc, hx, asBool]) hb hK
theorem Ops.pick_f {c : Operand} {b : Bool} (hc : ev e c = .bool false) (hx : ev e y = .bool b) (hb : Nat.blt d N = true) (hK : Ops P N ops K rest (upd e d (.bool b)) w) :
    Ops P N ops K (⟨some d, .pick c x y, ty, pos, af, none⟩ :: rest) e w := .val (by simp [execOp, hc, hx, asBool]) hb hK
theorem Ops.conv [Und P yt (.int .i64)] (hx : ev e x = .int .i64 i) (hb : Nat.blt d N = true) (hr : -9223372036854775808 ≤ i ∧ i ≤ 9223372036854775807) {u : TypeDesc} [Und P xt u] (hK : Ops P N ops K rest (upd e d (.int .i64 i)) w) :
    Ops P N ops K (⟨some d, .convert xt yt x, ty, pos, af, none⟩ :: rest) e w :=
  .val (by simp [execOp, hx, convert, run_underlying (Und.out (P := P) (t := xt)), run_underlying (Und.out (P := P) (t := yt)), Conv.intToInt, IntWalk.i64_in _ hr]) hb hK
end

theorem Ops.extract {x : Operand} {vs : Array Value} {ix : Nat} {v : Value} (hx : ev e x = .tuple vs) (hv : vs[ix]? = some v) (hb : Nat.blt d N = true) (hK : Ops P N ops K rest (upd e d v) w) :
    Ops P N ops K (⟨some d, .extract x ix, ty, pos, af, none⟩ :: rest) e w := .val (by simp [execOp, hx, Instr.extract, hv]) hb hK
theorem Ops.len {x : Operand} {t el : TypeId} {A : Option Addr} {n c : Nat} [Und P t (.slice el)] (hx : ev e x = .slice A n c) (hb : Nat.blt d N = true) (hK : Ops P N ops K rest (upd e d (.int .i64 (n : Int))) w) :
    Ops P N ops K (⟨some d, .call ⟨.builtin .len, #[x], #[t]⟩, ty, pos, af, none⟩ :: rest) e w :=
  .val (by simp [execOp, resolve, invoke, builtin, Builtin.len_, hx, run_underlying (Und.out (P := P) (t := t)), goInt]) hb hK
theorem Ops.nilc {x : Operand} {a : Addr} (hx : ev e x = .pointer (some a)) (hb : Nat.blt d N = true) (hK : Ops P N ops K rest (upd e d (.pointer (some a))) w) :
    Ops P N ops K (⟨some d, .nilCheck x, ty, pos, af, none⟩ :: rest) e w := .val (by simp [execOp, hx]) hb hK
theorem Ops.nilf {x : Operand} {F : FuncId} {c1 c2 : Array Value} (hx : ev e x = .func (.func F) c1 c2) (hb : Nat.blt d N = true) (hK : Ops P N ops K rest (upd e d (.func (.func F) c1 c2)) w) :
    Ops P N ops K (⟨some d, .nilCheck x, ty, pos, af, none⟩ :: rest) e w := .val (by simp [execOp, hx]) hb hK

/-! calls -/
def Ret (P : Program) (F : FuncId) (vs : List Value) (w : World) (R : Value → World → Prop) : Prop := Calls P F vs.toArray w fun x w' => ∃ v, x = .returned v ∧ R v w'
theorem Ret.mono {F : FuncId} {vs : List Value} {R R' : Value → World → Prop} (h : Ret P F vs w R) (hR : ∀ v w', R v w' → R' v w') : Ret P F vs w R' :=
  Calls.mono h fun _ _ ⟨v, he, hv⟩ => ⟨v, he, hR _ _ hv⟩

theorem Ops.call {f : Operand} {F : FuncId} {c2 : Array Value} {l : List Operand} {vs : List Value} {R : Value → World → Prop} {ats : Array TypeId} [hF : Fnc P F] (hC : Ret P F vs w R) (hf : ev e f = .func (.func F) #[] c2) (hv : l.map (ev e) ++ c2.toList = vs) (hb : Nat.blt d N = true)
    (hK : ∀ v w', R v w' → Ops P N ops K rest (upd e d v) w') : Ops P N ops K (⟨some d, .call ⟨.value f, l.toArray, ats⟩, ty, pos, af, none⟩ :: rest) e w := .mk' fun a ha => by
  obtain ⟨fn, h1, h2, h3⟩ := hF.out
  have hrun : (execOp (ev e) ⟨some d, .call ⟨.value f, l.toArray, ats⟩, ty, pos, af, none⟩).run P w = .ok (.enter F vs.toArray) w := by
    have h4 : (l.toArray.map (ev e) ++ c2) = vs.toArray := by
      rw [← hv]; simp
    have h5 : ¬ fn.name = "runtime.NumGoroutine" := by simpa using h2
    have h6 : ¬ fn.body = none := by intro h; rw [h] at h3; cases h3
    simp [execOp, resolve, hf, Deferred.ofValue, invoke, callFunc, h1, h5, h6]
    exact hv
  refine wpList_plain rfl fun J hJ => ?_
  unfold Oper.wp
  rw [ha.eval, hrun]
  refine Calls.mono hC fun x w' ⟨v, hx, hR⟩ => ?_
  subst hx
  exact hJ _ _ ((hK v w' hR).run _ (ha.put hb v))
theorem Ops.call0 {f : Operand} {F : FuncId} {c2 : Array Value} {l : List Operand} {vs : List Value} {R : Value → World → Prop} {ats : Array TypeId} [hF : Fnc P F] (hC : Ret P F vs w R) (hf : ev e f = .func (.func F) #[] c2) (hv : l.map (ev e) ++ c2.toList = vs)
    (hK : ∀ v w', R v w' → Ops P N ops K rest e w') : Ops P N ops K (⟨none, .call ⟨.value f, l.toArray, ats⟩, ty, pos, af, none⟩ :: rest) e w := .mk' fun a ha => by
  obtain ⟨fn, h1, h2, h3⟩ := hF.out
  have hrun : (execOp (ev e) ⟨none, .call ⟨.value f, l.toArray, ats⟩, ty, pos, af, none⟩).run P w = .ok (.enter F vs.toArray) w := by
    have h4 : (l.toArray.map (ev e) ++ c2) = vs.toArray := by
      rw [← hv]; simp
    have h5 : ¬ fn.name = "runtime.NumGoroutine" := by simpa using h2
    have h6 : ¬ fn.body = none := by intro h; rw [h] at h3; cases h3
    simp [execOp, resolve, hf, Deferred.ofValue, invoke, callFunc, h1, h5, h6]
    exact hv
  refine wpList_plain rfl fun J hJ => ?_
  unfold Oper.wp
  rw [ha.eval, hrun]
  refine Calls.mono hC fun x w' ⟨v, hx, hR⟩ => ?_
  subst hx
  exact hJ _ _ ((hK v w' hR).run _ ha)

/-! ways out -/
theorem thenQ_n {K : Env → World → Prop} {Q : Post} (h : K e w) : thenQ K Q .normal e w := h
theorem thenQ_r {K : Env → World → Prop} {Q : Post} (h : Q .ret e w) : thenQ K Q .ret e w := h
theorem thenQ_x {K : Env → World → Prop} {Q : Post} {id : Nat} (h : Q (.exit id) e w) : thenQ K Q (.exit id) e w := h
theorem blockQ_n {Q : Post} {id : Nat} (h : Q .normal e w) : blockQ id Q .normal e w := h
theorem blockQ_r {Q : Post} {id : Nat} (h : Q .ret e w) : blockQ id Q .ret e w := h
theorem blockQ_x {Q : Post} {id : Nat} (h : Q .normal e w) : blockQ id Q (.exit id) e w := by show (if id = id then _ else _); rw [if_pos rfl]; exact h
theorem blockQ_y {Q : Post} {id id' : Nat} (hne : Nat.beq id' id = false) (h : Q (.exit id') e w) : blockQ id Q (.exit id') e w := by
  show (if id' = id then _ else _)
  rw [if_neg (by intro h; subst h; simp at hne)]
  exact h

/-! entering a function -/
def argEnv (vs : List Value) : Env := fun i => vs.getD i undef
def ret0 (R : Value → World → Prop) : Post
  | .normal, _, w => R (.tuple #[]) w
  | .ret, _, w => R (.tuple #[]) w
  | _, _, _ => False
def ret1 (t : Nat) (R : Value → World → Prop) : Post
  | .normal, e, w => R (e t) w
  | .ret, e, w => R (e t) w
  | _, _, _ => False
def ret2 (t u : Nat) (R : Value → World → Prop) : Post
  | .normal, e, w => R (.tuple #[e t, e u]) w
  | .ret, e, w => R (.tuple #[e t, e u]) w
  | _, _, _ => False
def ret3 (t u x : Nat) (R : Value → World → Prop) : Post
  | .normal, e, w => R (.tuple #[e t, e u, e x]) w
  | .ret, e, w => R (.tuple #[e t, e u, e x]) w
  | _, _, _ => False

theorem rep_args (vs : List Value) (n : Nat) (h : Nat.ble vs.length n = true) : Rep n ⟨vs.toArray ++ Array.replicate (n - vs.toArray.size) undef, []⟩ (argEnv vs) := by
  have h' : vs.length ≤ n := by simpa using h
  refine ⟨rfl, by simp; omega, fun i => ?_⟩
  simp only [argEnv]
  rw [Array.getD_eq_getD_getElem?, List.getD_eq_getElem?_getD, Array.getElem?_append]
  split
  · simp
  · rename_i hi
    simp at hi
    rw [List.getElem?_eq_none hi, Array.getElem?_replicate]
    split <;> rfl

theorem ret1_b {R : Value → World → Prop} {t : Nat} {b : Bool} (h : e t = .bool b) (hR : R (.bool b) w) : ret1 t R .ret e w := by show R (e t) w; rw [h]; exact hR
theorem ret1_i {R : Value → World → Prop} {t : Nat} {k : IntKind} {i : Int} (h : e t = .int k i) (hR : R (.int k i) w) : ret1 t R .ret e w := by show R (e t) w; rw [h]; exact hR
theorem ret1_s {R : Value → World → Prop} {t : Nat} {A : Option Addr} {n c : Nat} (h : e t = .slice A n c) (hR : R (.slice A n c) w) : ret1 t R .ret e w := by show R (e t) w; rw [h]; exact hR
theorem ret1_a {R : Value → World → Prop} {t : Nat} {cs : Array Value} (h : e t = .agg cs) (hR : R (.agg cs) w) : ret1 t R .ret e w := by show R (e t) w; rw [h]; exact hR
theorem ret1_v {R : Value → World → Prop} {t : Nat} {v : Value} (h : e t = v) (hR : R v w) : ret1 t R .ret e w := by show R (e t) w; rw [h]; exact hR
theorem ret0_r {R : Value → World → Prop} (hR : R (.tuple #[]) w) : ret0 R .ret e w := hR
theorem ret0_n {R : Value → World → Prop} (hR : R (.tuple #[]) w) : ret0 R .normal e w := hR
theorem ret2_si {R : Value → World → Prop} {t u : Nat} {A : Option Addr} {n c : Nat} {k : IntKind} {i : Int} (h : e t = .slice A n c) (h2 : e u = .int k i) (hR : R (.tuple #[.slice A n c, .int k i]) w) : ret2 t u R .ret e w := by show R (.tuple #[e t, e u]) w; rw [h, h2]; exact hR
theorem ret2_ii {R : Value → World → Prop} {t u : Nat} {k' : IntKind} {j : Int} {k : IntKind} {i : Int} (h : e t = .int k' j) (h2 : e u = .int k i) (hR : R (.tuple #[.int k' j, .int k i]) w) : ret2 t u R .ret e w := by show R (.tuple #[e t, e u]) w; rw [h, h2]; exact hR
theorem ret2_ai {R : Value → World → Prop} {t u : Nat} {cs : Array Value} {k : IntKind} {i : Int} (h : e t = .agg cs) (h2 : e u = .int k i) (hR : R (.tuple #[.agg cs, .int k i]) w) : ret2 t u R .ret e w := by show R (.tuple #[e t, e u]) w; rw [h, h2]; exact hR
theorem ret2_bi {R : Value → World → Prop} {t u : Nat} {b : Bool} {k : IntKind} {i : Int} (h : e t = .bool b) (h2 : e u = .int k i) (hR : R (.tuple #[.bool b, .int k i]) w) : ret2 t u R .ret e w := by show R (.tuple #[e t, e u]) w; rw [h, h2]; exact hR
theorem ret2_sb {R : Value → World → Prop} {t u : Nat} {A : Option Addr} {n c : Nat} {b : Bool} (h : e t = .slice A n c) (h2 : e u = .bool b) (hR : R (.tuple #[.slice A n c, .bool b]) w) : ret2 t u R .ret e w := by show R (.tuple #[e t, e u]) w; rw [h, h2]; exact hR

theorem Ret.of_cd {F : FuncId} {fn : Func} {c : Code} {vs : List Value} {R : Value → World → Prop} {Q : Post} (hf : P.funcs[F]? = some fn) (hc : fn.body = some c) (hn : fn.ntmps = N) (hl : Nat.ble vs.length N = true)
    (hQ : ∀ x a e w, Rep N a e → Q x e w → bodyPost P fn (fun x w' => ∃ v, x = .returned v ∧ R v w') x a w)
    (h : Cd P N c Q (argEnv vs) w) : Ret P F vs w R := by
  subst hn
  refine calls_of_wp hf hc ?_
  exact wp_mono (h.run _ (rep_args vs _ hl)) fun x a w ⟨e, he, q⟩ => hQ x a e w he q

theorem post0 {fn : Func} {R : Value → World → Prop} (hr : fn.results = #[]) : ∀ x a e w, Rep N a e → ret0 R x e w → bodyPost P fn (fun x w' => ∃ v, x = .returned v ∧ R v w') x a w := by
  intro x a e w he q
  cases x <;> first
    | exact q.elim
    | exact ⟨he.defers, _, results_none hr _ _ _, _, rfl, q⟩
theorem post1 {fn : Func} {R : Value → World → Prop} {t : Nat} (hr : fn.results = #[.tmp t]) : ∀ x a e w, Rep N a e → ret1 t R x e w → bodyPost P fn (fun x w' => ∃ v, x = .returned v ∧ R v w') x a w := by
  intro x a e w he q
  have hg := he.get t
  cases x <;> first
    | exact q.elim
    | exact ⟨he.defers, _, results_tmp hr _ _ _, _, rfl, by rw [hg]; exact q⟩
theorem post2 {fn : Func} {R : Value → World → Prop} {t u : Nat} (hr : fn.results = #[.tmp t, .tmp u]) : ∀ x a e w, Rep N a e → ret2 t u R x e w → bodyPost P fn (fun x w' => ∃ v, x = .returned v ∧ R v w') x a w := by
  intro x a e w he q
  have hg := he.get t
  have hh := he.get u
  cases x <;> first
    | exact q.elim
    | exact ⟨he.defers, _, results_tmp2 hr _ _ _, _, rfl, by rw [hg, hh]; exact q⟩
theorem post3 {fn : Func} {R : Value → World → Prop} {t u s : Nat} (hr : fn.results = #[.tmp t, .tmp u, .tmp s]) : ∀ x a e w, Rep N a e → ret3 t u s R x e w → bodyPost P fn (fun x w' => ∃ v, x = .returned v ∧ R v w') x a w := by
  intro x a e w he q
  have hg := he.get t
  have hh := he.get u
  have hi := he.get s
  cases x <;> first
    | exact q.elim
    | exact ⟨he.defers, _, results_tmp3 hr _ _ _, _, rfl, by rw [hg, hh, hi]; exact q⟩
end
end Go.Proofs.Ytpdhjnacnmfbjaa.Vc
