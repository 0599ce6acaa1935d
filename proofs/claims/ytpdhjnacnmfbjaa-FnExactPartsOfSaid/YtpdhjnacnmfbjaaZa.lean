/-
  The texts Mop, Draw, Mat, Cyc, B1, Law, B2, Orb, App, B3 in one. Conditions: as each part states them.
-/
import Derived.Test.YtpdhjnacnmfbjaaMem
import Derived.Deep.OwnRows
import Derived.Test.YtpdhjnacnmfbjaaInst
/-
  The operations on memory: addresses, loads, stores, make, literals, cuts, append. Conditions: as each rule names them.
-/
namespace Go.Proofs.Ytpdhjnacnmfbjaa.Vc
open Go.RowKit

/-! typed readings -/
structure SlV where
  a : Option Addr
  n : Nat
  c : Nat
def SlV.v (s : SlV) : Value := .slice s.a s.n s.c
def slNil : SlV := ⟨none, 0, 0⟩
def gi (xs : List Int) (i : Int) : Int := xs.getD i.toNat 0
def gb (xs : List Bool) (i : Int) : Bool := xs.getD i.toNat false
def rg (xs : List SlV) (i : Int) : SlV := xs.getD i.toNat slNil
def RdI (w : World) (A : Option Addr) (n : Nat) (xs : List Int) : Prop := xs.length = n ∧ Rd w A n (fun j => .int .i64 (xs.getD j 0))
def RdB (w : World) (A : Option Addr) (n : Nat) (xs : List Bool) : Prop := xs.length = n ∧ Rd w A n (fun j => .bool (xs.getD j false))
def RdR (w : World) (A : Option Addr) (n : Nat) (xs : List SlV) : Prop := xs.length = n ∧ Rd w A n (fun j => (xs.getD j slNil).v)
abbrev CkI (t : TypeId) (A : Option Addr) (n c : Nat) (xs : List Int) : Ck := ⟨A, n, c, t, xs.map (.int .i64)⟩
abbrev CkB (t : TypeId) (A : Option Addr) (n c : Nat) (xs : List Bool) : Ck := ⟨A, n, c, t, xs.map .bool⟩
abbrev CkR (t : TypeId) (A : Option Addr) (n c : Nat) (xs : List SlV) : Ck := ⟨A, n, c, t, xs.map SlV.v⟩

section
variable {w0 w w' : World} {ks : List Ck} {t : TypeId} {A : Option Addr} {n c : Nat}
theorem St.rdI {xs : List Int} (h : St w0 w ks) (i : Nat) (hk : ks[i]? = some (CkI t A n c xs)) : RdI w A n xs := by
  have hl : xs.length = n := by have := (h.get hk).1; simpa using this
  exact ⟨hl, (h.rd i hk).congr fun j hj => by have hj' : j < n := hj; simp [List.getD_eq_getElem?_getD, List.getElem?_eq_getElem (show j < xs.length by omega)]⟩
theorem St.rdB {xs : List Bool} (h : St w0 w ks) (i : Nat) (hk : ks[i]? = some (CkB t A n c xs)) : RdB w A n xs := by
  have hl : xs.length = n := by have := (h.get hk).1; simpa using this
  exact ⟨hl, (h.rd i hk).congr fun j hj => by have hj' : j < n := hj; simp [List.getD_eq_getElem?_getD, List.getElem?_eq_getElem (show j < xs.length by omega)]⟩
theorem St.rdR {xs : List SlV} (h : St w0 w ks) (i : Nat) (hk : ks[i]? = some (CkR t A n c xs)) : RdR w A n xs := by
  have hl : xs.length = n := by have := (h.get hk).1; simpa using this
  exact ⟨hl, (h.rd i hk).congr fun j hj => by have hj' : j < n := hj; simp [List.getD_eq_getElem?_getD, List.getElem?_eq_getElem (show j < xs.length by omega)]⟩
theorem St.oldI {xs : List Int} (h : St w0 w ks) (hR : RdI w0 A n xs) : RdI w A n xs := ⟨hR.1, h.old hR.2⟩
theorem St.oldB {xs : List Bool} (h : St w0 w ks) (hR : RdB w0 A n xs) : RdB w A n xs := ⟨hR.1, h.old hR.2⟩
theorem St.oldR {xs : List SlV} (h : St w0 w ks) (hR : RdR w0 A n xs) : RdR w A n xs := ⟨hR.1, h.old hR.2⟩
theorem St.cap {k : Ck} (h : St w0 w ks) (i : Nat) (hk : ks[i]? = some k) : k.n ≤ k.c ∧ k.c ≤ maxLen := ⟨(h.get hk).2.1, (h.get hk).2.2.1⟩
theorem St.lenI {xs : List Int} (h : St w0 w ks) (i : Nat) (hk : ks[i]? = some (CkI t A n c xs)) : xs.length = n := (h.rdI i hk).1
theorem RdI.later {xs : List Int} (h : RdI w A n xs) (hb : Below w.heap.size w w') : RdI w' A n xs := ⟨h.1, h.2.below hb⟩
theorem RdB.later {xs : List Bool} (h : RdB w A n xs) (hb : Below w.heap.size w w') : RdB w' A n xs := ⟨h.1, h.2.below hb⟩
theorem RdR.later {xs : List SlV} (h : RdR w A n xs) (hb : Below w.heap.size w w') : RdR w' A n xs := ⟨h.1, h.2.below hb⟩
theorem RdI.len {xs : List Int} (h : RdI w A n xs) : xs.length = n := h.1
theorem RdI.nil : RdI w none 0 [] := ⟨rfl, fun k hk => by omega⟩
theorem RdR.nil : RdR w none 0 [] := ⟨rfl, fun k hk => by omega⟩
end

section
variable {P : Program} {N : Nat} {ops : Array Oper} {K : Env → World → Prop} {rest : List Oper} {e : Env} {w0 w w' : World} {ks : List Ck} {d : Nat} {ty : TypeId} {pos : String} {af : Array Edge}

theorem Ops.idx {t el : TypeId} {z : Value} {b : Nat} [Und P t (.slice el)] [Inf P el z 1 b] {x ix : Operand} {A : Option Addr} {n c : Nat} {k : IntKind} {i : Int} {f : Nat → Value} (hR : Rd w A n f)
    (hx : ev e x = .slice A n c) (hy : ev e ix = .int k i) (hb : Nat.blt d N = true) (h0 : 0 ≤ i) (h1 : i < (n : Int)) (hK : Ops P N ops K rest (upd e d (.pointer (ptrAt A i.toNat))) w) :
    Ops P N ops K (⟨some d, .indexAddr t x ix, ty, pos, af, none⟩ :: rest) e w := by
  obtain ⟨p, hp, _⟩ := hR i.toNat (by omega)
  obtain ⟨q, rfl⟩ : ∃ q, A = some q := by cases A with | none => simp [ptrAt] at hp | some q => exact ⟨q, rfl⟩
  obtain ⟨inf, hi, _, hs, _⟩ := Inf.get P el
  refine .val (w' := w) ?_ hb hK
  simp [execOp, Instr.indexAt, hx, hy, asIntOf, run_underlying (Und.out (P := P) (t := t)), h0, h1, sizeOf, typeInfo, hi, hs, ptrAt]

/-- not a struct, not an array -/
def plainTy : TypeDesc → Bool
  | .struct _ => false
  | .array _ _ => false
  | _ => true
theorem run_isAgg {t : TypeId} {u : TypeDesc} (hu : P.underlying t = some u) (hp : plainTy u = true) : (isAgg t).run P w = .ok false w := by
  cases u <;> simp [plainTy] at hp <;> simp [isAgg, run_underlying hu]

theorem Ops.ld {t : TypeId} {u : TypeDesc} [Und P t u] {x : Operand} {A : Option Addr} {n j : Nat} {f : Nat → Value} {v : Value} (hR : Rd w A n f) (hx : ev e x = .pointer (ptrAt A j)) (hj : j < n) (hv : f j = v) (hp : plainTy u = true) (hb : Nat.blt d N = true)
    (hK : Ops P N ops K rest (upd e d v) w) : Ops P N ops K (⟨some d, .load t x, ty, pos, af, none⟩ :: rest) e w := by
  obtain ⟨p, hp', hc⟩ := hR j hj
  subst hv
  refine .val (w' := w) ?_ hb hK
  simp [execOp, Instr.loadAt, hx, hp', Instr.sureAddr, loadVar, run_isAgg (Und.out (P := P) (t := t)) hp, hc]

theorem Ops.ld_int {t : TypeId} {u : TypeDesc} [Und P t u] {x : Operand} {A : Option Addr} {n : Nat} {i : Int} {xs : List Int} (hR : RdI w A n xs) (hx : ev e x = .pointer (ptrAt A i.toNat)) (hj : i.toNat < n) (hp : plainTy u = true) (hb : Nat.blt d N = true)
    (hK : Ops P N ops K rest (upd e d (.int .i64 (gi xs i))) w) : Ops P N ops K (⟨some d, .load t x, ty, pos, af, none⟩ :: rest) e w := .ld hR.2 hx hj rfl hp hb hK
theorem Ops.ld_bool {t : TypeId} {u : TypeDesc} [Und P t u] {x : Operand} {A : Option Addr} {n : Nat} {i : Int} {xs : List Bool} (hR : RdB w A n xs) (hx : ev e x = .pointer (ptrAt A i.toNat)) (hj : i.toNat < n) (hp : plainTy u = true) (hb : Nat.blt d N = true)
    (hK : Ops P N ops K rest (upd e d (.bool (gb xs i))) w) : Ops P N ops K (⟨some d, .load t x, ty, pos, af, none⟩ :: rest) e w := .ld hR.2 hx hj rfl hp hb hK
theorem Ops.ld_sl {t : TypeId} {u : TypeDesc} [Und P t u] {x : Operand} {A : Option Addr} {n : Nat} {i : Int} {xs : List SlV} (hR : RdR w A n xs) (hx : ev e x = .pointer (ptrAt A i.toNat)) (hj : i.toNat < n) (hp : plainTy u = true) (hb : Nat.blt d N = true)
    (hK : Ops P N ops K rest (upd e d (.slice (rg xs i).a (rg xs i).n (rg xs i).c)) w) : Ops P N ops K (⟨some d, .load t x, ty, pos, af, none⟩ :: rest) e w := .ld hR.2 hx hj rfl hp hb hK

theorem Ops.st {t : TypeId} {z : Value} {b : Nat} [Inf P t z 1 b] {a x : Operand} {i j : Nat} {k : Ck} {u : Value} (hS : St w0 w ks) (hk : ks[i]? = some k) (ha : ev e a = .pointer (ptrAt k.A j)) (hx : ev e x = u) (h1 : u.oneCell' = true) (hj : j < k.n)
    (hK : ∀ w', St w0 w' (ks.set i { k with vs := k.vs.set j u }) → Ops P N ops K rest e w') : Ops P N ops K (⟨none, .store t a x, ty, pos, af, none⟩ :: rest) e w := by
  obtain ⟨p, hp, ⟨v, hc⟩, hf, hS'⟩ := hS.store i hk hj u
  obtain ⟨inf, hi, _, hs, _⟩ := Inf.get P t
  refine .unit (w' := w.setCell p u) ?_ (hK _ hS')
  have hcells : u.cells = #[u] := by cases u <;> simp [Value.oneCell'] at h1 <;> rfl
  simp [execOp, Instr.storeAt, ha, hx, hp, Instr.sureAddr, storeVar, sizeOf, typeInfo, hi, hs, hcells, storeCells, run_store _ _ _ _ _ h1, hc, hf, Addr.add]

theorem Ops.st_int {t te : TypeId} {z : Value} {b : Nat} [Inf P t z 1 b] {a x : Operand} (m : Nat) {i : Int} {A : Option Addr} {n c : Nat} {xs : List Int} {u : Int} (hS : St w0 w ks) (hk : ks[m]? = some (CkI te A n c xs)) (ha : ev e a = .pointer (ptrAt A i.toNat)) (hx : ev e x = .int .i64 u) (hj : i.toNat < n)
    (hK : ∀ w', St w0 w' (ks.set m (CkI te A n c (xs.set i.toNat u))) → Ops P N ops K rest e w') : Ops P N ops K (⟨none, .store t a x, ty, pos, af, none⟩ :: rest) e w :=
  .st hS hk ha hx rfl hj fun w' h => hK w' (by simpa [CkI, List.map_set] using h)
theorem Ops.st_bool {t te : TypeId} {z : Value} {b : Nat} [Inf P t z 1 b] {a x : Operand} (m : Nat) {i : Int} {A : Option Addr} {n c : Nat} {xs : List Bool} {u : Bool} (hS : St w0 w ks) (hk : ks[m]? = some (CkB te A n c xs)) (ha : ev e a = .pointer (ptrAt A i.toNat)) (hx : ev e x = .bool u) (hj : i.toNat < n)
    (hK : ∀ w', St w0 w' (ks.set m (CkB te A n c (xs.set i.toNat u))) → Ops P N ops K rest e w') : Ops P N ops K (⟨none, .store t a x, ty, pos, af, none⟩ :: rest) e w :=
  .st hS hk ha hx rfl hj fun w' h => hK w' (by simpa [CkB, List.map_set] using h)
theorem Ops.st_sl {t te : TypeId} {z : Value} {b : Nat} [Inf P t z 1 b] {a x : Operand} (m : Nat) {i : Int} {A : Option Addr} {n c : Nat} {xs : List SlV} {A1 : Option Addr} {n1 c1 : Nat} (hS : St w0 w ks) (hk : ks[m]? = some (CkR te A n c xs)) (ha : ev e a = .pointer (ptrAt A i.toNat)) (hx : ev e x = .slice A1 n1 c1) (hj : i.toNat < n)
    (hK : ∀ w', St w0 w' (ks.set m (CkR te A n c (xs.set i.toNat ⟨A1, n1, c1⟩))) → Ops P N ops K rest e w') : Ops P N ops K (⟨none, .store t a x, ty, pos, af, none⟩ :: rest) e w :=
  .st hS hk ha hx rfl hj fun w' h => hK w' (by simpa [CkR, List.map_set, SlV.v] using h)

theorem madeCells_one (z : Value) (n : Nat) : (madeCells #[z] n) = (List.replicate n z).toArray := by
  rw [← toList_madeCells_one z n]

theorem Ops.mk {t el : TypeId} {z : Value} {b : Nat} [Und P t (.slice el)] [Inf P el z 1 b] {x : Operand} {k : IntKind} (n : Nat) (hS : St w0 w ks) (hx : ev e x = .int k (n : Int)) (hz : z.cells = #[z]) (hb : Nat.blt d N = true) (hn : b * n ≤ 281474976710656 ∧ n ≤ 9223372036854775807)
    (hK : ∀ A w', St w0 w' (⟨A, n, n, el, List.replicate n z⟩ :: ks) → Ops P N ops K rest (upd e d (.slice A n n)) w') : Ops P N ops K (⟨some d, .makeSlice t x x, ty, pos, af, none⟩ :: rest) e w := by
  obtain ⟨inf, hi, hz0, hs, hby⟩ := Inf.get P el
  have hr := run_make_row (P := P) t el inf z (Und.out (P := P) (t := t)) hi hz0 hs hz k k n (by rw [hby]; exact hn.1) hn.2 w
  have hA := hS.alloc (List.replicate n z) el (by simp [maxLen]; omega)
  rw [madeCells_one] at hr
  refine .val (w' := w.alloc (.cells (List.replicate n z).toArray el)) ?_ hb (hK _ _ (by simpa using hA))
  simp only [execOp, hx, Sem.run_bind, hr, Result.andThen_ok, Sem.run_pure]

theorem Ops.mk_int {t el : TypeId} {z : Value} {b : Nat} [Und P t (.slice el)] [Inf P el z 1 b] {x : Operand} {k : IntKind} {i : Int} (hS : St w0 w ks) (hx : ev e x = .int k i) (hz : z.cells = #[z]) (hb : Nat.blt d N = true) (h0 : 0 ≤ i) (hn : b * i.toNat ≤ 281474976710656 ∧ i ≤ 9223372036854775807)
    (hK : ∀ A w', St w0 w' (⟨A, i.toNat, i.toNat, el, List.replicate i.toNat z⟩ :: ks) → Ops P N ops K rest (upd e d (.slice A i.toNat i.toNat)) w') : Ops P N ops K (⟨some d, .makeSlice t x x, ty, pos, af, none⟩ :: rest) e w :=
  .mk i.toNat hS (by rw [hx, Int.toNat_of_nonneg h0]) hz hb ⟨hn.1, by omega⟩ hK

theorem Ops.mkB {t el : TypeId} {b : Nat} {v : Bool} [Und P t (.slice el)] [Inf P el (.bool v) 1 b] {x : Operand} {k : IntKind} (n : Nat) (hS : St w0 w ks) (hx : ev e x = .int k (n : Int)) (hb : Nat.blt d N = true) (hn : b * n ≤ 281474976710656 ∧ n ≤ 9223372036854775807)
    (hK : ∀ A w', St w0 w' (CkB el A n n (List.replicate n v) :: ks) → Ops P N ops K rest (upd e d (.slice A n n)) w') : Ops P N ops K (⟨some d, .makeSlice t x x, ty, pos, af, none⟩ :: rest) e w :=
  .mk n hS hx rfl hb hn fun A w' h => hK A w' (by unfold CkB; rw [List.map_replicate]; exact h)
theorem Ops.mkI {t el : TypeId} {b : Nat} {v : Int} [Und P t (.slice el)] [Inf P el (.int .i64 v) 1 b] {x : Operand} {k : IntKind} (n : Nat) (hS : St w0 w ks) (hx : ev e x = .int k (n : Int)) (hb : Nat.blt d N = true) (hn : b * n ≤ 281474976710656 ∧ n ≤ 9223372036854775807)
    (hK : ∀ A w', St w0 w' (CkI el A n n (List.replicate n v) :: ks) → Ops P N ops K rest (upd e d (.slice A n n)) w') : Ops P N ops K (⟨some d, .makeSlice t x x, ty, pos, af, none⟩ :: rest) e w :=
  .mk n hS hx rfl hb hn fun A w' h => hK A w' (by unfold CkI; rw [List.map_replicate]; exact h)
theorem Ops.mkR {t el : TypeId} {b : Nat} [Und P t (.slice el)] [Inf P el (.slice none 0 0) 1 b] {x : Operand} {k : IntKind} (n : Nat) (hS : St w0 w ks) (hx : ev e x = .int k (n : Int)) (hb : Nat.blt d N = true) (hn : b * n ≤ 281474976710656 ∧ n ≤ 9223372036854775807)
    (hK : ∀ A w', St w0 w' (CkR el A n n (List.replicate n slNil) :: ks) → Ops P N ops K rest (upd e d (.slice A n n)) w') : Ops P N ops K (⟨some d, .makeSlice t x x, ty, pos, af, none⟩ :: rest) e w :=
  .mk n hS hx rfl hb hn fun A w' h => hK A w' (by unfold CkR; rw [List.map_replicate]; exact h)

/-! literals -/
theorem arr_range (f : Nat → Value) (n : Nat) : (Array.range n).map f = ((List.range n).map f).toArray := by apply Array.ext'; simp
theorem Ops.bs0 {t el : TypeId} {z : Value} {b : Nat} [Und P t (.slice el)] [Inf P el z 1 b] (hS : St w0 w ks) (hb : Nat.blt d N = true)
    (hK : ∀ A w', St w0 w' (⟨A, 0, 0, el, []⟩ :: ks) → Ops P N ops K rest (upd e d (.slice A 0 0)) w') : Ops P N ops K (⟨some d, .buildSlice t 0 #[], ty, pos, af, none⟩ :: rest) e w := by
  obtain ⟨inf, hi, hz0, hs, hby⟩ := Inf.get P el
  refine .val (w' := w.alloc (.cells #[] el)) ?_ hb (hK _ _ (hS.alloc [] el (by simp)))
  simp [execOp, Instr.buildSlice, run_underlying (Und.out (P := P) (t := t)), sizeOf, typeInfo, hi, hs, Instr.fill, newRow, arr_range]
theorem Ops.bs1 {t el : TypeId} {z : Value} {b : Nat} [Und P t (.slice el)] [Inf P el z 1 b] {x0 : Operand} {v0 : Value} (hS : St w0 w ks) (h0 : ev e x0 = v0) (c0 : v0.oneCell' = true) (hz : z.cells = #[z]) (hb : Nat.blt d N = true)
    (hK : ∀ A w', St w0 w' (⟨A, 1, 1, el, [v0]⟩ :: ks) → Ops P N ops K rest (upd e d (.slice A 1 1)) w') : Ops P N ops K (⟨some d, .buildSlice t 1 #[(0, x0)], ty, pos, af, none⟩ :: rest) e w := by
  obtain ⟨inf, hi, hz0, hs, hby⟩ := Inf.get P el
  have e0 : v0.cells = #[v0] := by cases v0 <;> simp [Value.oneCell'] at c0 <;> rfl
  refine .val (w' := w.alloc (.cells #[v0] el)) ?_ hb (hK _ _ (hS.alloc [v0] el (by simp [maxLen])))
  simp [execOp, Instr.buildSlice, run_underlying (Und.out (P := P) (t := t)), sizeOf, typeInfo, zeroValue, hi, hs, hz0, hz, Instr.fill, newRow, h0, e0, arr_range, List.range_succ]
theorem Ops.bs2 {t el : TypeId} {z : Value} {b : Nat} [Und P t (.slice el)] [Inf P el z 1 b] {x0 x1 : Operand} {v0 v1 : Value} (hS : St w0 w ks) (h0 : ev e x0 = v0) (h1 : ev e x1 = v1) (c0 : v0.oneCell' = true) (c1 : v1.oneCell' = true) (hz : z.cells = #[z]) (hb : Nat.blt d N = true)
    (hK : ∀ A w', St w0 w' (⟨A, 2, 2, el, [v0, v1]⟩ :: ks) → Ops P N ops K rest (upd e d (.slice A 2 2)) w') : Ops P N ops K (⟨some d, .buildSlice t 2 #[(0, x0), (1, x1)], ty, pos, af, none⟩ :: rest) e w := by
  obtain ⟨inf, hi, hz0, hs, hby⟩ := Inf.get P el
  have e0 : v0.cells = #[v0] := by cases v0 <;> simp [Value.oneCell'] at c0 <;> rfl
  have e1 : v1.cells = #[v1] := by cases v1 <;> simp [Value.oneCell'] at c1 <;> rfl
  refine .val (w' := w.alloc (.cells #[v0, v1] el)) ?_ hb (hK _ _ (hS.alloc [v0, v1] el (by simp [maxLen])))
  simp [execOp, Instr.buildSlice, run_underlying (Und.out (P := P) (t := t)), sizeOf, typeInfo, zeroValue, hi, hs, hz0, hz, Instr.fill, newRow, h0, e0, h1, e1, arr_range, List.range_succ]

/-! boxes, structs -/
theorem Ops.box {el : TypeId} {x : Operand} {v : Value} (hS : St w0 w ks) (hx : ev e x = v) (hb : Nat.blt d N = true) (hm : v.cells.size ≤ maxLen)
    (hK : ∀ A w', St w0 w' (⟨A, v.cells.size, v.cells.size, el, v.cells.toList⟩ :: ks) → Ops P N ops K rest (upd e d (.pointer A)) w') : Ops P N ops K (⟨some d, .box el x, ty, pos, af, none⟩ :: rest) e w := by
  have hA := hS.alloc v.cells.toList el (by simpa using hm)
  refine .val (w' := w.alloc (.cells v.cells el)) ?_ hb (hK _ _ (by simpa using hA))
  simp [execOp, Instr.box, newVar, newRow, hx]
theorem Ops.box_agg {el : TypeId} {x : Operand} {cs : Array Value} (hS : St w0 w ks) (hx : ev e x = .agg cs) (hb : Nat.blt d N = true) (hm : Nat.ble cs.size 100 = true)
    (hK : ∀ A w', St w0 w' (⟨A, cs.size, cs.size, el, cs.toList⟩ :: ks) → Ops P N ops K rest (upd e d (.pointer A)) w') : Ops P N ops K (⟨some d, .box el x, ty, pos, af, none⟩ :: rest) e w :=
  .box hS hx hb (by show cs.size ≤ maxLen; have := Nat.le_of_ble_eq_true hm; simp only [maxLen]; omega) hK
theorem Ops.new {el : TypeId} {z : Value} {s b : Nat} [Inf P el z s b] (hS : St w0 w ks) (hb : Nat.blt d N = true) (hm' : Nat.ble z.cells.size 100 = true)
    (hK : ∀ A w', St w0 w' (⟨A, z.cells.size, z.cells.size, el, z.cells.toList⟩ :: ks) → Ops P N ops K rest (upd e d (.pointer A)) w') : Ops P N ops K (⟨some d, .alloc el, ty, pos, af, none⟩ :: rest) e w := by
  obtain ⟨inf, hi, hz0, hs, hby⟩ := Inf.get P el
  have hm : z.cells.size ≤ maxLen := by have := Nat.le_of_ble_eq_true hm'; simp only [maxLen]; omega
  have hA := hS.alloc z.cells.toList el (by simpa using hm)
  refine .val (w' := w.alloc (.cells z.cells el)) ?_ hb (hK _ _ (by simpa using hA))
  simp [execOp, Instr.alloc, zeroValue, typeInfo, hi, hz0, newVar, newRow]
theorem Ops.nilp {x : Operand} {A : Option Addr} {n : Nat} {f : Nat → Value} (hR : Rd w A n f) (hn : 0 < n) (hx : ev e x = .pointer A) (hb : Nat.blt d N = true) (hK : Ops P N ops K rest (upd e d (.pointer A)) w) :
    Ops P N ops K (⟨some d, .nilCheck x, ty, pos, af, none⟩ :: rest) e w := by
  obtain ⟨p, hp, _⟩ := hR 0 hn
  obtain ⟨q, rfl⟩ : ∃ q, A = some q := by cases A with | none => simp [ptrAt] at hp | some q => exact ⟨q, rfl⟩
  exact .nilc hx hb hK
def fieldOf : List Field → Nat → Option (TypeId × Nat)
  | f :: _, 0 => some (f.type, f.offset)
  | _ :: r, m + 1 => fieldOf r m
  | [], _ => none
theorem fieldOf_get : ∀ {l : List Field} {m : Nat} {ft off : Nat}, fieldOf l m = some (ft, off) → ∃ fd, l[m]? = some fd ∧ fd.type = ft ∧ fd.offset = off
  | [], _, _, _, h => by simp [fieldOf] at h
  | f :: _, 0, _, _, h => by simp [fieldOf] at h; exact ⟨f, rfl, h.1, h.2⟩
  | _ :: r, m + 1, _, _, h => by simpa using fieldOf_get (l := r) (m := m) h
theorem Ops.fld {s : TypeId} {fs : Array Field} [Und P s (.struct fs)] {x : Operand} {A : Option Addr} {n m ft off : Nat} {f : Nat → Value} {z : Value} {sz b : Nat} (hR : Rd w A n f) (hx : ev e x = .pointer A) (hf : fieldOf fs.toList m = some (ft, off)) (hn : Nat.blt 0 n = true) (hb : Nat.blt d N = true) (hI : Inf P ft z (sz + 1) b)
    (hK : Ops P N ops K rest (upd e d (.pointer (ptrAt A off))) w) : Ops P N ops K (⟨some d, .fieldAddr s x m, ty, pos, af, none⟩ :: rest) e w := by
  obtain ⟨p, hp, _⟩ := hR 0 (by simpa [Nat.blt_eq] using hn)
  obtain ⟨q, rfl⟩ : ∃ q, A = some q := by cases A with | none => simp [ptrAt] at hp | some q => exact ⟨q, rfl⟩
  obtain ⟨fd, hf1, rfl, rfl⟩ := fieldOf_get hf
  have hf2 : fs[m]? = some fd := by simpa using hf1
  obtain ⟨inf, hi, hz0, hs, hby⟩ := Inf.get P fd.type
  refine .val (w' := w) ?_ hb hK
  simp [execOp, Instr.fieldAt, run_underlying (Und.out (P := P) (t := s)), hf2, hx, Instr.sureAddr, fieldPlace, sizeOf, typeInfo, hi, hs, ptrAt]
/-- a whole struct read out of its place -/
theorem Ops.ld_agg {t : TypeId} {fs : Array Field} {z : Value} {b : Nat} (m : Nat) [Und P t (.struct fs)] [Inf P t z (m + 1) b] {x : Operand} {A : Option Addr} {f : Nat → Value} {cs : Array Value} (hR : Rd w A (m + 1) f) (hx : ev e x = .pointer A) (hcs : ((List.range (m + 1)).map f).toArray = cs) (hb : Nat.blt d N = true)
    (hK : Ops P N ops K rest (upd e d (.agg cs)) w) : Ops P N ops K (⟨some d, .load t x, ty, pos, af, none⟩ :: rest) e w := by
  obtain ⟨p, hp, _⟩ := hR 0 (by omega)
  obtain ⟨q, rfl⟩ : ∃ q, A = some q := by cases A with | none => simp [ptrAt] at hp | some q => exact ⟨q, rfl⟩
  obtain ⟨inf, hi, hz0, hs, hby⟩ := Inf.get P t
  have hl := run_loadCells (P := P) w q (m + 1) f (fun j hj => by
    obtain ⟨p, hp, hc⟩ := hR j hj
    simp [ptrAt] at hp
    rw [hp]; exact hc)
  subst hcs
  refine .val (w' := w) ?_ hb hK
  simp [execOp, Instr.loadAt, hx, Instr.sureAddr, loadVar, isAgg, run_underlying (Und.out (P := P) (t := t)), sizeOf, typeInfo, hi, hs, hl]
theorem ptrAt_zero (A : Option Addr) : ptrAt A 0 = A := by cases A <;> simp [ptrAt, Addr.add]
theorem ptrAt_ptrAt (A : Option Addr) (i j : Nat) : ptrAt (ptrAt A i) j = ptrAt A (i + j) := by
  cases A with
  | none => rfl
  | some q => simp only [ptrAt, Option.map_some]; unfold Addr.add; by_cases h1 : i = 0 <;> by_cases h2 : j = 0 <;> simp [h1, h2, Nat.add_assoc]
theorem Rd.behind {A : Option Addr} {n o m : Nat} {f : Nat → Value} (hR : Rd w A n f) (h : o + m ≤ n) : Rd w (ptrAt A o) m (fun j => f (o + j)) := fun j hj => by
  obtain ⟨p, hp, hc⟩ := hR (o + j) (by omega)
  exact ⟨p, by rw [ptrAt_ptrAt]; exact hp, hc⟩
/-- a whole struct read out of a field -/
theorem Ops.ld_aggf {t : TypeId} {fs : Array Field} {z : Value} {b n o : Nat} (m : Nat) [Und P t (.struct fs)] [Inf P t z (m + 1) b] {x : Operand} {A : Option Addr} {f : Nat → Value} {cs : Array Value} (hR : Rd w A n f) (hx : ev e x = .pointer (ptrAt A o)) (hn2 : Nat.ble (o + (m + 1)) n = true) (hcs : ((List.range (m + 1)).map fun j => f (o + j)).toArray = cs) (hb : Nat.blt d N = true)
    (hK : Ops P N ops K rest (upd e d (.agg cs)) w) : Ops P N ops K (⟨some d, .load t x, ty, pos, af, none⟩ :: rest) e w :=
  .ld_agg m (hR.behind (Nat.le_of_ble_eq_true hn2)) hx hcs hb hK
/-- boxes told plainly -/
abbrev Bx (t : TypeId) (n : Nat) (A : Option Addr) (vs : List Value) : Ck := ⟨A, n, n, t, vs⟩
theorem Ops.box1 {el : TypeId} {x : Operand} {v0 : Value} (hS : St w0 w ks) (hx : ev e x = .agg #[v0]) (hb : Nat.blt d N = true)
    (hK : ∀ A w', St w0 w' (Bx el 1 A [v0] :: ks) → Ops P N ops K rest (upd e d (.pointer A)) w') : Ops P N ops K (⟨some d, .box el x, ty, pos, af, none⟩ :: rest) e w := .box_agg hS hx hb rfl hK
theorem Ops.box2 {el : TypeId} {x : Operand} {v0 v1 : Value} (hS : St w0 w ks) (hx : ev e x = .agg #[v0, v1]) (hb : Nat.blt d N = true)
    (hK : ∀ A w', St w0 w' (Bx el 2 A [v0, v1] :: ks) → Ops P N ops K rest (upd e d (.pointer A)) w') : Ops P N ops K (⟨some d, .box el x, ty, pos, af, none⟩ :: rest) e w := .box_agg hS hx hb rfl hK
theorem Ops.new1 {el : TypeId} {v0 : Value} {s b : Nat} [Inf P el (.agg #[v0]) s b] (hS : St w0 w ks) (hb : Nat.blt d N = true)
    (hK : ∀ A w', St w0 w' (Bx el 1 A [v0] :: ks) → Ops P N ops K rest (upd e d (.pointer A)) w') : Ops P N ops K (⟨some d, .alloc el, ty, pos, af, none⟩ :: rest) e w := .new (el := el) (z := .agg #[v0]) (s := s) (b := b) hS hb rfl hK
theorem Ops.new2 {el : TypeId} {v0 v1 : Value} {s b : Nat} [Inf P el (.agg #[v0, v1]) s b] (hS : St w0 w ks) (hb : Nat.blt d N = true)
    (hK : ∀ A w', St w0 w' (Bx el 2 A [v0, v1] :: ks) → Ops P N ops K rest (upd e d (.pointer A)) w') : Ops P N ops K (⟨some d, .alloc el, ty, pos, af, none⟩ :: rest) e w := .new (el := el) (z := .agg #[v0, v1]) (s := s) (b := b) hS hb rfl hK
theorem Ops.ldf_s {t : TypeId} {u : TypeDesc} [Und P t u] {x : Operand} {A A1 : Option Addr} {n j n1 c1 : Nat} {f : Nat → Value} (hR : Rd w A n f) (hx : ev e x = .pointer (ptrAt A j)) (hj : Nat.blt j n = true) (hv : f j = .slice A1 n1 c1) (hp : plainTy u = true) (hb : Nat.blt d N = true)
    (hK : Ops P N ops K rest (upd e d (.slice A1 n1 c1)) w) : Ops P N ops K (⟨some d, .load t x, ty, pos, af, none⟩ :: rest) e w := .ld hR hx (by simpa [Nat.blt_eq] using hj) hv hp hb hK
theorem Ops.ldf_i {t : TypeId} {u : TypeDesc} [Und P t u] {x : Operand} {A : Option Addr} {n j : Nat} {k : IntKind} {i : Int} {f : Nat → Value} (hR : Rd w A n f) (hx : ev e x = .pointer (ptrAt A j)) (hj : Nat.blt j n = true) (hv : f j = .int k i) (hp : plainTy u = true) (hb : Nat.blt d N = true)
    (hK : Ops P N ops K rest (upd e d (.int k i)) w) : Ops P N ops K (⟨some d, .load t x, ty, pos, af, none⟩ :: rest) e w := .ld hR hx (by simpa [Nat.blt_eq] using hj) hv hp hb hK
theorem Ops.ldf_b {t : TypeId} {u : TypeDesc} [Und P t u] {x : Operand} {A : Option Addr} {n j : Nat} {i : Bool} {f : Nat → Value} (hR : Rd w A n f) (hx : ev e x = .pointer (ptrAt A j)) (hj : Nat.blt j n = true) (hv : f j = .bool i) (hp : plainTy u = true) (hb : Nat.blt d N = true)
    (hK : Ops P N ops K rest (upd e d (.bool i)) w) : Ops P N ops K (⟨some d, .load t x, ty, pos, af, none⟩ :: rest) e w := .ld hR hx (by simpa [Nat.blt_eq] using hj) hv hp hb hK

def setL (vs : List Value) (o : Nat) : List Value → List Value
  | [] => vs
  | c :: r => setL (vs.set o c) (o + 1) r
theorem run_store_list {k : Ck} (i : Nat) : ∀ (cs : List Value) (ks : List Ck) (vs : List Value) (w : World) (o : Nat) (p : Addr), St w0 w ks → ks[i]? = some { k with vs := vs } → ptrAt k.A o = some p → o + cs.length ≤ k.n → (∀ u ∈ cs, u.oneCell' = true) → ∀ m q, ptrAt k.A m = some q → o = m + (o - m) →
    m ≤ o → ∃ w', (storeCells q cs (o - m)).run P w = .ok () w' ∧ St w0 w' (ks.set i { k with vs := setL vs o cs })
  | [], ks, vs, w, o, p, hS, hk, _, _, _, m, q, _, _, _ => ⟨w, by simp [storeCells], by
      have : ks.set i { k with vs := setL vs o [] } = ks := by
        apply List.ext_getElem?
        intro j
        rw [List.getElem?_set]
        split
        · rename_i e; subst e; rw [hk, if_pos (List.getElem?_eq_some_iff.1 hk).1]; rfl
        · rfl
      rw [this]; exact hS⟩
  | c :: r, ks, vs, w, o, p, hS, hk, hp, hl, h1, m, q, hq, ho, hm => by
    simp only [List.length_cons] at hl
    obtain ⟨p', hp', ⟨v, hc⟩, hf, hS'⟩ := hS.store i hk (j := o) (by show o < k.n; omega) c
    have hqo : q.add (o - m) = p' := by
      have : ptrAt (ptrAt k.A m) (o - m) = some p' := by rw [ptrAt_ptrAt, ← ho]; exact hp'
      rw [hq] at this
      simpa [ptrAt] using this
    have hlt := (List.getElem?_eq_some_iff.1 hk).1
    by_cases hr : r = []
    · subst hr
      refine ⟨_, ?_, hS'⟩
      simp [storeCells, hqo, run_store _ _ _ _ _ (h1 c (by simp)), hc, hf]
    · have hrl : 0 < r.length := by cases r with | nil => exact absurd rfl hr | cons _ _ => simp
      obtain ⟨p2, hp2⟩ : ∃ p2, ptrAt k.A (o + 1) = some p2 := by
        obtain ⟨x, hx, _⟩ := (hS.rd i hk) (o + 1) (by show o + 1 < k.n; omega)
        exact ⟨x, hx⟩
      obtain ⟨w2, hrun, hS2⟩ := run_store_list i r _ (vs.set o c) _ (o + 1) p2 hS' (by rw [List.getElem?_set]; simp [hlt]) hp2 (by omega) (fun u hu => h1 u (by simp [hu])) m q hq (by omega) (by omega)
      refine ⟨w2, ?_, by simpa [setL] using hS2⟩
      have e1 : o + 1 - m = o - m + 1 := by omega
      rw [e1] at hrun
      simp [storeCells, hqo, run_store _ _ _ _ _ (h1 c (by simp)), hc, hf, hrun]
/-- a whole struct stored -/
theorem Ops.st_aggf {t : TypeId} {z : Value} {b o : Nat} (m : Nat) [Inf P t z m b] {a x : Operand} (i : Nat) {k : Ck} {cs : Array Value} (hS : St w0 w ks) (hk : ks[i]? = some k) (ha : ev e a = .pointer (ptrAt k.A o)) (hx : ev e x = .agg cs) (hcs : cs.size = m) (h1' : cs.toList.all Value.oneCell' = true) (hn1 : Nat.blt 0 m = true) (hn2 : Nat.ble (o + m) k.n = true)
    (hK : ∀ w', St w0 w' (ks.set i { k with vs := setL k.vs o cs.toList }) → Ops P N ops K rest e w') : Ops P N ops K (⟨none, .store t a x, ty, pos, af, none⟩ :: rest) e w := by
  have hn : 0 < m ∧ o + m ≤ k.n := ⟨by simpa [Nat.blt_eq] using hn1, Nat.le_of_ble_eq_true hn2⟩
  have h1 : ∀ u ∈ cs.toList, u.oneCell' = true := fun u hu => List.all_eq_true.1 h1' u hu
  obtain ⟨p, hp, _⟩ := (hS.rd i hk) o (by omega)
  obtain ⟨w', hrun, hS'⟩ := run_store_list (P := P) (k := k) i cs.toList ks k.vs w o p hS hk hp (by simp; omega) h1 o p hp (by omega) (by omega)
  obtain ⟨inf, hi, _, hs, _⟩ := Inf.get P t
  refine .unit (w' := w') ?_ (hK _ hS')
  rw [Nat.sub_self] at hrun
  simp [execOp, Instr.storeAt, ha, hx, hp, Instr.sureAddr, storeVar, sizeOf, typeInfo, hi, hs, Value.cells, hcs, hrun]
theorem Ops.st_agg {t : TypeId} {z : Value} {b : Nat} (m : Nat) [Inf P t z m b] {a x : Operand} (i : Nat) {k : Ck} {cs : Array Value} (hS : St w0 w ks) (hk : ks[i]? = some k) (ha : ev e a = .pointer k.A) (hx : ev e x = .agg cs) (hcs : cs.size = m) (h1 : cs.toList.all Value.oneCell' = true) (hn1 : Nat.blt 0 m = true) (hn2 : Nat.ble (0 + m) k.n = true)
    (hK : ∀ w', St w0 w' (ks.set i { k with vs := setL k.vs 0 cs.toList }) → Ops P N ops K rest e w') : Ops P N ops K (⟨none, .store t a x, ty, pos, af, none⟩ :: rest) e w :=
  .st_aggf m i hS hk (by rw [ptrAt_zero]; exact ha) hx hcs h1 hn1 hn2 hK
/-- a field stored -/
theorem Ops.stf {t : TypeId} {z : Value} {b : Nat} [Inf P t z 1 b] {a x : Operand} (i : Nat) {j : Nat} {k : Ck} {u : Value} (hS : St w0 w ks) (hk : ks[i]? = some k) (ha : ev e a = .pointer (ptrAt k.A j)) (hx : ev e x = u) (h1 : u.oneCell' = true) (hj : Nat.blt j k.n = true)
    (hK : ∀ w', St w0 w' (ks.set i { k with vs := k.vs.set j u }) → Ops P N ops K rest e w') : Ops P N ops K (⟨none, .store t a x, ty, pos, af, none⟩ :: rest) e w := .st hS hk ha hx h1 (by simpa [Nat.blt_eq] using hj) hK

/-- a result that lies in memory -/
def retc (a n : Nat) (R : Value → World → Prop) : Post
  | .normal, e, w => ∃ A f, e a = .pointer A ∧ Rd w A n f ∧ R (.agg ((List.range n).map f).toArray) w
  | .ret, e, w => ∃ A f, e a = .pointer A ∧ Rd w A n f ∧ R (.agg ((List.range n).map f).toArray) w
  | _, _, _ => False
theorem retc_r {a n : Nat} {R : Value → World → Prop} {A : Option Addr} {f : Nat → Value} (h : e a = .pointer A) (hR : Rd w A n f) (h2 : R (.agg ((List.range n).map f).toArray) w) : retc a n R .ret e w := ⟨A, f, h, hR, h2⟩
theorem run_loadAgg {t : TypeId} {fs : Array Field} {z : Value} {b n : Nat} [Und P t (.struct fs)] [Inf P t z n b] {A : Option Addr} {f : Nat → Value} (hn : 0 < n) (hR : Rd w A n f) : ∃ q, A = some q ∧ (loadVar t q).run P w = .ok (.agg ((List.range n).map f).toArray) w := by
  obtain ⟨p, hp, _⟩ := hR 0 hn
  obtain ⟨q, rfl⟩ : ∃ q, A = some q := by cases A with | none => simp [ptrAt] at hp | some q => exact ⟨q, rfl⟩
  obtain ⟨inf, hi, hz0, hs, hby⟩ := Inf.get P t
  have hl := run_loadCells (P := P) w q n f (fun j hj => by
    obtain ⟨p, hp, hc⟩ := hR j hj
    simp [ptrAt] at hp
    rw [hp]; exact hc)
  exact ⟨q, rfl, by simp [loadVar, isAgg, run_underlying (Und.out (P := P) (t := t)), sizeOf, typeInfo, hi, hs, hl]⟩
theorem postc {fn : Func} {R : Value → World → Prop} {a t n b : Nat} {fs : Array Field} {z : Value} [Und P t (.struct fs)] [Inf P t z n b] (hr : fn.results = #[.cell a t]) (hn' : Nat.blt 0 n = true) : ∀ x a1 e w, Rep N a1 e → retc a n R x e w → bodyPost P fn (fun x w' => ∃ v, x = .returned v ∧ R v w') x a1 w := by
  intro x a1 e w he q
  have hn : 0 < n := by simpa [Nat.blt_eq] using hn'
  have hg := he.get a
  have key : ∀ (A : Option Addr) (f : Nat → Value), e a = .pointer A → Rd w A n f → (results fn a1.tmps).run P w = .ok (.agg ((List.range n).map f).toArray) w := by
    intro A f hA hR
    obtain ⟨q, rfl, hl⟩ := run_loadAgg (P := P) (t := t) hn hR
    rw [Array.getD_eq_getD_getElem?] at hg
    simp [results, hr, hg, hA, asAddr, hl]
  cases x <;> first
    | exact q.elim
    | (obtain ⟨A, f, hA, hR, h2⟩ := q
       exact ⟨he.defers, _, key A f hA hR, _, rfl, h2⟩)

/-! cuts -/
def cutAt (A : Option Addr) (c l : Nat) : Option Addr := if c = l then A else ptrAt A l
theorem Rd.cut {A : Option Addr} {n c l h : Nat} {f : Nat → Value} (hR : Rd w A n f) (hl : l ≤ h) (hn : h ≤ n) (hc : n ≤ c) : Rd w (cutAt A c l) (h - l) (fun j => f (l + j)) := fun j hj => by
  obtain ⟨p, hp, hcell⟩ := hR (l + j) (by omega)
  refine ⟨p, ?_, hcell⟩
  unfold cutAt
  rw [if_neg (by omega)]
  cases A with
  | none => simp [ptrAt] at hp
  | some q =>
    simp only [ptrAt, Option.map_some, Option.some.injEq] at hp ⊢
    rw [← hp]
    unfold Addr.add
    by_cases hl0 : l = 0 <;> by_cases hj0 : j = 0 <;> simp [hl0, hj0, Nat.add_assoc]
theorem RdI.cut {A : Option Addr} {n c l h : Nat} {xs : List Int} (hR : RdI w A n xs) (hl : l ≤ h) (hn : h ≤ n) (hc : n ≤ c) : RdI w (cutAt A c l) (h - l) ((xs.drop l).take (h - l)) :=
  ⟨by have := hR.1; simp; omega, (hR.2.cut hl hn hc).congr fun j hj => by simp [List.getD_eq_getElem?_getD, List.getElem?_take, hj]⟩
theorem RdR.cut {A : Option Addr} {n c l h : Nat} {xs : List SlV} (hR : RdR w A n xs) (hl : l ≤ h) (hn : h ≤ n) (hc : n ≤ c) : RdR w (cutAt A c l) (h - l) ((xs.drop l).take (h - l)) :=
  ⟨by have := hR.1; simp; omega, (hR.2.cut hl hn hc).congr fun j hj => by simp [List.getD_eq_getElem?_getD, List.getElem?_take, hj]⟩

theorem Ops.cut_l {t el : TypeId} {z : Value} {b : Nat} [hU : Und P t (.slice el)] [Inf P el z 1 b] {x lo : Operand} {A : Option Addr} {n c : Nat} {k : IntKind} {l : Int} (hx : ev e x = .slice A n c) (hl : ev e lo = .int k l) (hb : Nat.blt d N = true) (h0 : 0 ≤ l ∧ l ≤ (n : Int))
    (hK : Ops P N ops K rest (upd e d (.slice (cutAt A c l.toNat) (n - l.toNat) (c - l.toNat))) w) : Ops P N ops K (⟨some d, .slice t x (some lo) none none, ty, pos, af, none⟩ :: rest) e w := by
  obtain ⟨inf, hi, hz0, hs, hby⟩ := Inf.get P el
  refine .val (w' := w) ?_ hb hK
  have := run_sliceBound (P := P) w k l n .sliceB h0.1 h0.2
  simp [execOp, hx, hl, Instr.sliceAt, run_underlying hU.out, Instr.slice, Instr.sliceBounds, this, sizeOf, typeInfo, hi, hs, cutAt, ptrAt]
theorem Ops.cut_h {t el : TypeId} {z : Value} {b : Nat} [hU : Und P t (.slice el)] [Inf P el z 1 b] {x hi' : Operand} {A : Option Addr} {n c : Nat} {k : IntKind} {h : Int} (hx : ev e x = .slice A n c) (hh : ev e hi' = .int k h) (hb : Nat.blt d N = true) (h0 : 0 ≤ h ∧ h ≤ (c : Int))
    (hK : Ops P N ops K rest (upd e d (.slice A h.toNat c)) w) : Ops P N ops K (⟨some d, .slice t x none (some hi') none, ty, pos, af, none⟩ :: rest) e w := by
  obtain ⟨inf, hi, hz0, hs, hby⟩ := Inf.get P el
  refine .val (w' := w) ?_ hb hK
  have := run_sliceBound (P := P) w k h c .sliceAcap h0.1 h0.2
  have hA : A.map (fun x => x.add 0) = A := by cases A <;> simp [Addr.add]
  simp [execOp, hx, hh, Instr.sliceAt, run_underlying hU.out, Instr.slice, Instr.sliceBounds, this, sizeOf, typeInfo, hi, hs, hA]
theorem Ops.cut_lh {t el : TypeId} {z : Value} {b : Nat} [hU : Und P t (.slice el)] [Inf P el z 1 b] {x lo hi' : Operand} {A : Option Addr} {n c : Nat} {k k' : IntKind} {l h : Int} (hx : ev e x = .slice A n c) (hl : ev e lo = .int k l) (hh : ev e hi' = .int k' h) (hb : Nat.blt d N = true) (h0 : 0 ≤ l ∧ l ≤ h ∧ h ≤ (c : Int))
    (hK : Ops P N ops K rest (upd e d (.slice (cutAt A c l.toNat) (h.toNat - l.toNat) (c - l.toNat))) w) : Ops P N ops K (⟨some d, .slice t x (some lo) (some hi') none, ty, pos, af, none⟩ :: rest) e w := by
  obtain ⟨inf, hi, hz0, hs, hby⟩ := Inf.get P el
  refine .val (w' := w) ?_ hb hK
  have h1 := run_sliceBound (P := P) w k' h c .sliceAcap (by omega) h0.2.2
  have h2 := run_sliceBound (P := P) w k l h.toNat .sliceB h0.1 (by omega)
  simp [execOp, hx, hl, hh, Instr.sliceAt, run_underlying hU.out, Instr.slice, Instr.sliceBounds, h1, h2, sizeOf, typeInfo, hi, hs, cutAt, ptrAt]

/-! append -/
theorem run_append_st {t el : TypeId} {z : Value} {b : Nat} [hU : Und P t (.slice el)] [Inf P el z 1 b] {z0 : Value} (hz : z.cells = #[z0]) {k : Ck} (i : Nat) (hS : St w0 w ks) (hk : ks[i]? = some k) (he : k.e = el) {A' : Option Addr} {m c' : Nat} {f : Nat → Value} (hR : Rd w A' m f) (h1 : ∀ j, j < m → (f j).oneCell' = true)
    (h63 : k.n + m ≤ maxLen) (hbytes : (k.n + m) * b ≤ 140737488355328) (ty : TypeId) :
    ∃ A2 c2 w', (Builtin.append_ #[t, t] ty #[.slice k.A k.n k.c, .slice A' m c']).run P w = .ok (.slice A2 (k.n + m) c2) w' ∧ St w0 w' (ks.set i ⟨A2, k.n + m, c2, el, k.vs ++ (List.range m).map f⟩) ∧ (k.n = k.c → Below w.heap.size w w') := by
  subst he
  obtain ⟨inf, hi, hz0, hs, hby⟩ := Inf.get P k.e
  have hown := hS.get hk
  obtain ⟨hl, hnc, hcm, h4⟩ := hown
  have hilt := (List.getElem?_eq_some_iff.1 hk).1
  by_cases hm : m = 0
  · subst hm
    refine ⟨k.A, k.c, w, ?_, ?_, fun _ => Below.refl _ _⟩
    · cases A' with
      | none => cases hkA : k.A <;> simp [Builtin.append_, run_underlying hU.out, sizeOf, typeInfo, hi, Builtin.lenOf, Builtin.firstCells, hnc, storeCells]
      | some a =>
        have hl0 := run_loadCells (P := P) w a 0 f (fun j hj => by omega)
        cases hkA : k.A <;> simp [Builtin.append_, run_underlying hU.out, sizeOf, typeInfo, hi, Builtin.lenOf, Builtin.firstCells, hnc, storeCells, loadCells, loadCellsFrom]
    · have : ks.set i ⟨k.A, k.n + 0, k.c, k.e, k.vs ++ (List.range 0).map f⟩ = ks := by
        have h5 : (⟨k.A, k.n + 0, k.c, k.e, k.vs ++ (List.range 0).map f⟩ : Ck) = k := by simp
        rw [h5]
        apply List.ext_getElem?
        intro j
        rw [List.getElem?_set]
        split
        · rename_i e; subst e; rw [hk]
          try simp [hilt]
        · rfl
      rw [this]; exact hS
  · obtain ⟨a, rfl⟩ : ∃ a, A' = some a := by
      obtain ⟨p, hp, _⟩ := hR 0 (by omega)
      cases A' with | none => simp [ptrAt] at hp | some q => exact ⟨q, rfl⟩
    have hnl : ((List.range m).map f).length = m := by simp
    have hnews : ∀ j v, ((List.range m).map f)[j]? = some v → w.cell? (a.add j) = some v := by
      intro j v hj
      have hjm : j < m := by have := (List.getElem?_eq_some_iff.1 hj).1; simpa using this
      obtain ⟨p, hp, hc⟩ := hR j hjm
      simp only [ptrAt, Option.map_some, Option.some.injEq] at hp
      rw [hp, hc, ← hj]
      simp [hjm]
    have h1' : ∀ u ∈ (List.range m).map f, u.oneCell' = true := by
      intro u hu
      obtain ⟨j, hj, rfl⟩ := List.mem_map.1 hu
      exact h1 j (by simpa using hj)
    -- a new row in the old one's stead
    have fresh : ∀ (cs : List Value) (c2 : Nat), k.n + m ≤ c2 → c2 ≤ maxLen → cs.length = c2 → cs.take (k.n + m) = k.vs ++ (List.range m).map f →
        St w0 (w.drew.alloc (.cells cs.toArray k.e)) (ks.set i ⟨some ⟨w.heap.size, 0, none⟩, k.n + m, c2, k.e, k.vs ++ (List.range m).map f⟩) := by
      intro cs c2 h5 h6 h7 h8
      have hA := hS.drew.alloc cs k.e (by omega)
      have hp : (⟨some ⟨w.heap.size, 0, none⟩, cs.length, cs.length, k.e, cs⟩ :: ks).Perm (k :: (ks.set i ⟨some ⟨w.heap.size, 0, none⟩, cs.length, cs.length, k.e, cs⟩)) := by
        have gen : ∀ (l : List Ck) (i : Nat) (x y : Ck), l[i]? = some y → (x :: l).Perm (y :: l.set i x) := by
          intro l
          induction l with
          | nil => intro i x y h; simp at h
          | cons u l ih =>
            intro i x y h
            cases i with
            | zero => simp at h; subst h; exact List.Perm.swap _ _ _
            | succ i =>
              simp only [List.getElem?_cons_succ] at h
              simp only [List.set_cons_succ]
              exact (List.Perm.swap _ _ _).trans (((ih i x y h).cons u).trans (List.Perm.swap _ _ _))
        exact gen ks i _ _ hk
      have hB := (hA.perm hp).tail
      refine ⟨hB.below, fun x hx => ?_, ?_⟩
      · obtain ⟨j, hj, rfl⟩ := List.mem_iff_getElem.1 hx
        have hj' : j < ks.length := by simpa using hj
        rw [List.getElem_set]
        split
        · refine ⟨?_, h5, h6, .inr ⟨w.heap.size, 0, cs.toArray, rfl, hS.below.size, heap_alloc_new w.drew _, by simp; omega, fun q hq => ?_⟩⟩
          · simp [hl]
          · have hq' : q < k.n + m := hq
            show cs.toArray[0 + q]? = (k.vs ++ (List.range m).map f)[q]?
            rw [← h8]
            simp [List.getElem?_take, hq']
        · rename_i hne
          refine hB.own _ (List.mem_iff_getElem.2 ⟨j, by simpa using hj', ?_⟩)
          rw [List.getElem_set, if_neg hne]
      · have h9 := hB.apart
        rw [show (ks.set i ⟨some ⟨w.heap.size, 0, none⟩, k.n + m, c2, k.e, k.vs ++ (List.range m).map f⟩).filterMap Ck.blk = (ks.set i ⟨some ⟨w.heap.size, 0, none⟩, cs.length, cs.length, k.e, cs⟩).filterMap Ck.blk from ?_]
        · exact h9
        · have := filterMap_set Ck.blk (ks.set i ⟨some ⟨w.heap.size, 0, none⟩, cs.length, cs.length, k.e, cs⟩) i ⟨some ⟨w.heap.size, 0, none⟩, cs.length, cs.length, k.e, cs⟩ ⟨some ⟨w.heap.size, 0, none⟩, k.n + m, c2, k.e, k.vs ++ (List.range m).map f⟩ (by rw [List.getElem?_set]; simp [hilt]) rfl
          rw [← this]; simp
    have h63' : ((k.n + m : Nat) : Int) ≤ 9223372036854775807 := by simp only [maxLen] at h63; omega
    rcases h4 with ⟨hA, h0⟩ | ⟨g, o, cur, hA, hg, hh, hsz, hc⟩
    · have hn0 : k.n = 0 := by omega
      have hvs : k.vs = [] := List.eq_nil_of_length_eq_zero (by omega)
      have hr := run_append_nil (P := P) w t ty k.e inf z hU.out hi hz0 a m c' _ (by rw [hnl, hs, Nat.mul_one]) hnews (by omega) (by omega) (by rw [hby]; rw [hn0, Nat.zero_add] at hbytes; omega)
      have hge := grownCap_ge w m 0 k.e
      refine ⟨_, _, _, ?_, fresh (((List.range m).map f) ++ List.replicate (grownCap w m 0 k.e - m) z0) (grownCap w m 0 k.e) (by omega) (grownCap_le_maxLen w m 0 k.e (by omega)) (by simp; omega) (by rw [hvs, hn0]; simp), fun _ => (Below.refl w.heap.size w).drew.alloc (Nat.le_refl _) _⟩
      have hzc : Builtin.zeroCells z.cells (grownCap w m 0 k.e - m) = (List.replicate (grownCap w m 0 k.e - m) z0).toArray := by
        rw [hz]; simp only [Builtin.zeroCells]
        exact (show _ = _ from by have := madeCells_one z0 (grownCap w m 0 k.e - m); simpa [madeCells] using this)
      rw [hA, h0, hn0, Nat.zero_add, hr, hzc, List.append_toArray]
    · by_cases hroom : k.n + m ≤ k.c
      · have hf := run_firstCells_some (P := P) w inf.size m a m c' _ (by rw [hnl, hs, Nat.mul_one]) hnews
        have hst := run_storeCells_at P g (o + k.n) k.e ((List.range m).map f) 0 cur w hh (by rw [hnl]; omega) h1'
        simp only [Nat.add_zero] at hst
        refine ⟨some ⟨g, o, none⟩, k.c, _, ?_, hS.turn (k := k) (g := g) hk (by simp [Ck.blk, hA]) (by simp [Ck.blk]) (w' := w.setRow g (cur.toList.take (o + k.n) ++ (List.range m).map f ++ cur.toList.drop (o + k.n + ((List.range m).map f).length)).toArray) ?_ ?_, fun h => absurd hroom (by omega)⟩
        · rw [hA]
          simp [Builtin.append_, run_underlying hU.out, sizeOf, typeInfo, hi, hs, Builtin.lenOf, hroom, Addr.add_lit]
          rw [hs] at hf
          simp only [List.length_map, List.length_range] at hst ⊢
          simp [hf, hst]
        · exact ⟨rfl, rfl, rfl, by simp, fun x _ hx => setRow_other w g x _ (fun e => hx (by rw [e]))⟩
        · refine ⟨by simp [hl], hroom, hcm, .inr ⟨g, o, _, rfl, hg, setRow_heap w g cur _ k.e _ hh, ?_, fun j hj => ?_⟩⟩
          · simp; omega
          · have hj' : j < k.n + m := hj
            show ((cur.toList.take (o + k.n) ++ (List.range m).map f ++ cur.toList.drop (o + k.n + ((List.range m).map f).length)).toArray)[o + j]? = (k.vs ++ (List.range m).map f)[j]?
            have hcl : cur.toList.length = cur.size := by simp
            rw [List.getElem?_toArray]
            by_cases hjn : j < k.n
            · rw [List.append_assoc, List.getElem?_append_left (by simp; omega), List.getElem?_take, if_pos (by omega), List.getElem?_append_left (by omega)]
              rw [Array.getElem?_toList]
              exact hc j hjn
            · rw [List.append_assoc, List.getElem?_append_right (by simp; omega), List.getElem?_append_left (by simp; omega), List.getElem?_append_right (by omega)]
              congr 1
              simp
              omega
      · have holds : ∀ j v, k.vs[j]? = some v → w.cell? ((⟨g, o, none⟩ : Addr).add j) = some v := by
          intro j v hj
          have hjn : j < k.n := by have := (List.getElem?_eq_some_iff.1 hj).1; omega
          rw [add_none]
          simp only [World.cell?, hh]
          simpa [hc j hjn] using hj
        have hr := run_append_grow (P := P) w t ty k.e inf z hU.out hi hz0 ⟨g, o, none⟩ k.n k.c k.vs (by rw [hl, hs, Nat.mul_one]) holds a m c' _ (by rw [hnl, hs, Nat.mul_one]) hnews (by omega) h63' (growslice_fits (by omega) (by rw [hby]; exact hbytes))
        have hge := grownCap_ge w (k.n + m) k.c k.e
        refine ⟨_, _, _, ?_, fresh (k.vs ++ (List.range m).map f ++ List.replicate (grownCap w (k.n + m) k.c k.e - (k.n + m)) z0) (grownCap w (k.n + m) k.c k.e) (by omega) (grownCap_le_maxLen w (k.n + m) k.c k.e h63) (by simp [hl]; omega) (by rw [List.take_append_of_le_length (by simp [hl])]; exact List.take_of_length_le (by simp [hl])), fun _ => (Below.refl w.heap.size w).drew.alloc (Nat.le_refl _) _⟩
        have hzc : Builtin.zeroCells z.cells (grownCap w (k.n + m) k.c k.e - (k.n + m)) = (List.replicate (grownCap w (k.n + m) k.c k.e - (k.n + m)) z0).toArray := by
          rw [hz]; simp only [Builtin.zeroCells]
          exact (show _ = _ from by have := madeCells_one z0 (grownCap w (k.n + m) k.c k.e - (k.n + m)); simpa [madeCells] using this)
        rw [hA, hr, hzc, List.append_toArray, List.append_toArray]

theorem Ops.app {t el : TypeId} {z : Value} {b : Nat} [hU : Und P t (.slice el)] [Inf P el z 1 b] {x y : Operand} {k : Ck} (i : Nat) {A' : Option Addr} {m c' : Nat} {f : Nat → Value} (hS : St w0 w ks) (hk : ks[i]? = some k) (hR : Rd w A' m f) (hx : ev e x = .slice k.A k.n k.c) (hy : ev e y = .slice A' m c') (he : k.e = el) {z0 : Value} (hz : z.cells = #[z0]) (h1 : ∀ j, j < m → (f j).oneCell' = true)
    (h63 : k.n + m ≤ maxLen) (hbytes : (k.n + m) * b ≤ 140737488355328) (hb : Nat.blt d N = true)
    (hK : ∀ A2 c2 w', St w0 w' (ks.set i ⟨A2, k.n + m, c2, el, k.vs ++ (List.range m).map f⟩) → Ops P N ops K rest (upd e d (.slice A2 (k.n + m) c2)) w') :
    Ops P N ops K (⟨some d, .call ⟨.builtin .append, #[x, y], #[t, t]⟩, ty, pos, af, none⟩ :: rest) e w := by
  obtain ⟨A2, c2, w', hr, hS', _⟩ := run_append_st (P := P) (t := t) hz i hS hk he hR h1 h63 hbytes ty (c' := c')
  refine .val (w' := w') ?_ hb (hK _ _ _ hS')
  simp [execOp, resolve, invoke, builtin, hx, hy, hr]
/-- where there is no room, nothing that was there turns -/
theorem Ops.appF {t el : TypeId} {z : Value} {b : Nat} [hU : Und P t (.slice el)] [Inf P el z 1 b] {x y : Operand} {k : Ck} (i : Nat) {A' : Option Addr} {m c' : Nat} {f : Nat → Value} (hfull : k.n = k.c) (hS : St w0 w ks) (hk : ks[i]? = some k) (hR : Rd w A' m f) (hx : ev e x = .slice k.A k.n k.c) (hy : ev e y = .slice A' m c') (he : k.e = el) {z0 : Value} (hz : z.cells = #[z0]) (h1 : ∀ j, j < m → (f j).oneCell' = true)
    (h63 : k.n + m ≤ maxLen) (hbytes : (k.n + m) * b ≤ 140737488355328) (hb : Nat.blt d N = true)
    (hK : ∀ A2 c2 w', Below w.heap.size w w' → St w0 w' (ks.set i ⟨A2, k.n + m, c2, el, k.vs ++ (List.range m).map f⟩) → Ops P N ops K rest (upd e d (.slice A2 (k.n + m) c2)) w') :
    Ops P N ops K (⟨some d, .call ⟨.builtin .append, #[x, y], #[t, t]⟩, ty, pos, af, none⟩ :: rest) e w := by
  obtain ⟨A2, c2, w', hr, hS', hbl⟩ := run_append_st (P := P) (t := t) hz i hS hk he hR h1 h63 hbytes ty (c' := c')
  refine .val (w' := w') ?_ hb (hK _ _ _ (hbl hfull) hS')
  simp [execOp, resolve, invoke, builtin, hx, hy, hr]
end
end Go.Proofs.Ytpdhjnacnmfbjaa.Vc
/-
  A statement whose order Go leaves open: its operations make new memory at most; what each yields is told by a value or by a lasting property; whatever the order, all of it holds behind it. And: two ways that meet again. Conditions: as each rule names them.
-/
namespace Go.Proofs.Ytpdhjnacnmfbjaa.Vc
open Go.RowKit

inductive Yd where
  | ex (v : Value)
  | pr (p : Value → World → Prop)
def Yd.holds : Yd → Value → World → Prop
  | .ex v, u, _ => u = v
  | .pr p, u, w => p u w
def Yd.lasts : Yd → Prop
  | .ex _ => True
  | .pr p => ∀ v w w', p v w → Below w.heap.size w w' → p v w'
theorem Yd.lasts_ex (v : Value) : (Yd.ex v).lasts := True.intro
theorem Yd.lasts_pr {p : Value → World → Prop} (h : ∀ v w w', p v w → Below w.heap.size w w' → p v w') : (Yd.pr p).lasts := h
theorem Yd.holds_later {y : Yd} (hl : y.lasts) {v : Value} {w w' : World} (h : y.holds v w) (hb : Below w.heap.size w w') : y.holds v w' := by
  cases y with
  | ex u => exact h
  | pr p => exact hl v w w' h hb

def memb (ds : List Nat) (i : Nat) : Bool := match ds with
  | [] => false
  | d :: r => bif Nat.beq i d then true else memb r i
theorem memb_iff {ds : List Nat} {i : Nat} : memb ds i = true ↔ i ∈ ds := by
  induction ds with
  | nil => simp [memb]
  | cons d r ih =>
    simp only [memb, List.mem_cons]
    cases hb : Nat.beq i d with
    | true => simp [Nat.eq_of_beq_eq_true hb]
    | false =>
      have : i ≠ d := fun e => by subst e; simp at hb
      simp [this, ih]
def mix (e1 e : Env) (ds : List Nat) : Env := fun i => bif memb ds i then e1 i else e i
/-- what an operation waits for, whatever the order -/
def aft (o : Oper) : List Edge := o.after.toList.filter (Region.binds .any)
theorem mem_aft {o : Oper} {ed : Edge} : ed ∈ aft o ↔ ed ∈ o.after ∧ Region.binds .any ed = true := by
  simp [aft]
def dstOf (o : Oper) : Nat := match o.dst with
  | some d => d
  | none => 0
/-- every operation has a slot of its own, and waits for earlier ones alone -/
def drawOk (N : Nat) (l : List Oper) : Bool :=
  l.all (fun o => match o.dst with | some d => Nat.blt d N | none => false) && decide ((l.map dstOf).Nodup) && (l.zipIdx.all fun p => (aft p.1).all fun ed => Nat.blt ed.on p.2)
def depFr (l : List Oper) (ys : List Yd) : List Edge → List (Nat × Value)
  | [] => []
  | ed :: r => match ys[ed.on]? with
    | some (.ex v) => (((l[ed.on]?).map dstOf).getD 0, v) :: depFr l ys r
    | _ => depFr l ys r
def endFr : List Oper → List Yd → (Nat → Value) → Nat → List (Nat × Value)
  | o :: l, .ex v :: ys, u, i => (dstOf o, v) :: endFr l ys u (i + 1)
  | o :: l, .pr _ :: ys, u, i => (dstOf o, u i) :: endFr l ys u (i + 1)
  | _, _, _, _ => []

/-- operation k waits for operation j, by itself or through others -/
def ancOf (l : List Oper) : Nat → Nat → Nat → Bool
  | 0, _, _ => false
  | f + 1, k, j => match l[k]? with
    | some o => (aft o).any fun ed => Nat.beq ed.on j || ancOf l f ed.on j
    | none => false
/-- what is listed has what it waits for listed -/
theorem ancOf_listed {l : List Oper} {listed : Array Bool} (hcl : ∀ (i : Nat) (o : Oper), listed.getD i false = true → l[i]? = some o → ∀ ed ∈ aft o, listed.getD ed.on false = true) : ∀ (f k j : Nat), ancOf l f k j = true → listed.getD k false = true → listed.getD j false = true
  | 0, k, j, h, _ => by simp [ancOf] at h
  | f + 1, k, j, h, hk => by
    simp only [ancOf] at h
    split at h
    · rename_i o ho
      rw [List.any_eq_true] at h
      obtain ⟨ed, hed, h⟩ := h
      have h1 := hcl k o hk ho ed hed
      rw [Bool.or_eq_true] at h
      rcases h with h | h
      · rw [← Nat.eq_of_beq_eq_true h]; exact h1
      · exact ancOf_listed hcl f ed.on j h h1
    · cases h
theorem ancOf_ready {l : List Oper} {listed : Array Bool} (hcl : ∀ (i : Nat) (o : Oper), listed.getD i false = true → l[i]? = some o → ∀ ed ∈ aft o, listed.getD ed.on false = true) {k : Nat} {o : Oper} (ho : l[k]? = some o) (hr : ∀ ed ∈ aft o, listed.getD ed.on false = true) : ∀ (f j : Nat), ancOf l f k j = true → listed.getD j false = true
  | 0, j, h => by simp [ancOf] at h
  | f + 1, j, h => by
    simp only [ancOf, ho] at h
    rw [List.any_eq_true] at h
    obtain ⟨ed, hed, h⟩ := h
    have h1 := hr ed hed
    rw [Bool.or_eq_true] at h
    rcases h with h | h
    · rw [← Nat.eq_of_beq_eq_true h]; exact h1
    · exact ancOf_listed hcl f ed.on j h h1

section
variable {P : Program} {N : Nat} {e : Env} {w : World}
def After (i : Nat) (e1 : Env) (w1 : World) (d : Nat) (y : Yd) : Env → World → Prop := fun e2 w2 => Below w1.heap.size w1 w2 ∧ y.holds (e2 d) w2 ∧ ∀ j, j ≠ d → e2 j = e1 j

theorem After.dn {i : Nat} {e1 : Env} {w1 w2 : World} {d : Nat} {y : Yd} {v : Value} (hb : Below w1.heap.size w1 w2) (hv : y.holds v w2) : After i e1 w1 d y (upd e1 d v) w2 := by
  refine ⟨hb, ?_, fun j hj => ?_⟩
  · have : upd e1 d v d = v := by unfold upd; rw [Nat.beq_refl]; rfl
    rw [this]; exact hv
  · have : Nat.beq j d = false := by
      cases h : Nat.beq j d with
      | false => rfl
      | true => exact absurd (Nat.eq_of_beq_eq_true h) hj
    unfold upd; rw [this]; rfl

def DrawSteps (P : Program) (N : Nat) (l : List Oper) (ys : List Yd) (e : Env) (w : World) : Nat → List Oper → Prop
  | _, [] => True
  | i, o :: r => (∀ e1 w1, Below w.heap.size w w1 → (∀ j, j < l.length → memb ((aft o).map (·.on)) j = true → ∀ (y : Yd) (o' : Oper), ys[j]? = some y → l[j]? = some o' → y.holds (e1 (dstOf o')) w1) → (∀ (j : Nat) (o' : Oper), l[j]? = some o' → ancOf l l.length j i = true → e1 (dstOf o') = e (dstOf o')) → 
      Ops P N l.toArray (After i (ext (mix e1 e (l.map dstOf)) (depFr l ys (aft o))) w1 (dstOf o) (ys.getD i (.pr fun _ _ => True))) [o] (ext (mix e1 e (l.map dstOf)) (depFr l ys (aft o))) w1) ∧ DrawSteps P N l ys e w (i + 1) r

theorem DrawSteps.get {l : List Oper} {ys : List Yd} : ∀ {r : List Oper} {i : Nat}, DrawSteps P N l ys e w i r → ∀ k o, r[k]? = some o → ∀ e1 w1, Below w.heap.size w w1 → (∀ j, j < l.length → memb ((aft o).map (·.on)) j = true → ∀ (y : Yd) (o' : Oper), ys[j]? = some y → l[j]? = some o' → y.holds (e1 (dstOf o')) w1) → (∀ (j : Nat) (o' : Oper), l[j]? = some o' → ancOf l l.length j (i + k) = true → e1 (dstOf o') = e (dstOf o')) → 
      Ops P N l.toArray (After (i + k) (ext (mix e1 e (l.map dstOf)) (depFr l ys (aft o))) w1 (dstOf o) (ys.getD (i + k) (.pr fun _ _ => True))) [o] (ext (mix e1 e (l.map dstOf)) (depFr l ys (aft o))) w1
  | [], _, _, k, o, hk => by simp at hk
  | x :: r, i, h, 0, o, hk => by simp at hk; subst hk; exact h.1
  | x :: r, i, h, k + 1, o, hk => by
    have := DrawSteps.get h.2 k o (by simpa using hk)
    simpa [Nat.add_assoc, Nat.add_comm 1 k] using this

theorem Oper.wp_conv {o : Oper} {a : Act} {w : World} {K K2 : Act → World → Prop} {Q Q2 : Exit → Act → World → Prop} (h : o.wp P a w K Q) (hK : ∀ a w, K a w → K2 a w) (hQ : ∀ x a w, x ≠ .normal → ¬ Q x a w) : o.wp P a w K2 Q2 := by
  unfold Oper.wp at *
  generalize (execOp a.eval o).run P w = r at *
  cases r with
  | ok n w' =>
    cases n <;> simp only [Oper.upon] at h ⊢ <;> first
      | exact hK _ _ h
      | (refine Calls.mono h fun x w'' hx => ?_
         cases x with
         | returned v => exact hK _ _ hx
         | panicked ch => exact absurd hx (hQ _ _ _ (by simp))
         | outgrown => obtain ⟨a0, w0, hx⟩ := hx; exact absurd hx (hQ _ _ _ (by simp)))
      | exact Rows.mono h fun v w'' hx => hK _ _ hx
  | halt x w' =>
    cases x <;> simp only [Oper.upon] at h ⊢
    exact absurd h (hQ _ _ _ (by simp))

theorem mix_eq {e1 e : Env} {ds : List Nat} (h : ∀ j, memb ds j = false → e1 j = e j) : mix e1 e ds = e1 := by
  funext j
  unfold mix
  cases hm : memb ds j with
  | true => rfl
  | false => exact (h j hm).symm

theorem depFr_mt {l : List Oper} {ys : List Yd} {e1 : Env} {w1 : World} : ∀ (af : List Edge), (∀ ed ∈ af, ed.on < l.length) → (∀ j, memb (af.map (·.on)) j = true → ∀ (y : Yd) (o' : Oper), ys[j]? = some y → l[j]? = some o' → y.holds (e1 (dstOf o')) w1) → Mt e1 (depFr l ys af)
  | [], _, _ => trivial
  | ed :: r, hlt, h => by
    have hr := depFr_mt r (fun x hx => hlt x (List.mem_cons_of_mem _ hx)) (fun j hj => h j (by rw [memb_iff] at hj ⊢; exact List.mem_cons_of_mem _ hj))
    unfold depFr
    split
    · rename_i v hy
      have hl := hlt ed (by simp)
      refine ⟨?_, hr⟩
      rw [List.getElem?_eq_getElem hl]
      exact h ed.on (by rw [memb_iff]; simp) _ _ hy (List.getElem?_eq_getElem hl)
    · exact hr

theorem endFr_eq {e1 e : Env} {w1 : World} : ∀ (l : List Oper) (ys : List Yd) (i : Nat), l.length = ys.length → (l.map dstOf).Nodup → (∀ (k : Nat) (y : Yd) (o : Oper), ys[k]? = some y → l[k]? = some o → y.holds (e1 (dstOf o)) w1) →
    ∃ u : Nat → Value, ext e (endFr l ys u i) = mix e1 e (l.map dstOf) ∧ (∀ (k : Nat) (o : Oper), l[k]? = some o → u (i + k) = e1 (dstOf o))
  | [], [], i, _, _, _ => ⟨fun _ => undef, by funext j; rfl, fun k o h => by simp at h⟩
  | [], y :: ys, i, hl, _, _ => by simp at hl
  | o :: l, [], i, hl, _, _ => by simp at hl
  | o :: l, y :: ys, i, hl, hn, h => by
    simp only [List.map_cons, List.nodup_cons] at hn
    obtain ⟨u, hu, hu2⟩ := endFr_eq (e1 := e1) (e := e) (w1 := w1) l ys (i + 1) (by simpa using hl) hn.2 (fun k y o hy ho => h (k + 1) y o (by simpa using hy) (by simpa using ho))
    have h0 := h 0 y o rfl rfl
    have cng : ∀ (l : List Oper) (ys : List Yd) (i : Nat) (u u' : Nat → Value), (∀ k, i ≤ k → u k = u' k) → endFr l ys u i = endFr l ys u' i := by
      intro l
      induction l with
      | nil => intros; rfl
      | cons o l ih =>
        intro ys i u u' hk
        cases ys with
        | nil => rfl
        | cons y ys =>
          cases y with
          | ex v => simp only [endFr]; rw [ih ys (i + 1) u u' (fun k hk' => hk k (by omega))]
          | pr p => simp only [endFr]; rw [ih ys (i + 1) u u' (fun k hk' => hk k (by omega)), hk i (by omega)]
    refine ⟨fun k => if k = i then e1 (dstOf o) else u k, ?_, fun k o' hk => ?_⟩
    · have hc := cng l ys (i + 1) (fun k => if k = i then e1 (dstOf o) else u k) u (fun k hk => by rw [if_neg (by omega)])
      have hstep : ∀ v, v = e1 (dstOf o) → upd (mix e1 e (l.map dstOf)) (dstOf o) v = mix e1 e ((o :: l).map dstOf) := by
        intro v hv
        funext j
        simp only [upd, mix, List.map_cons, memb]
        cases hb : Nat.beq j (dstOf o) with
        | true => rw [Nat.eq_of_beq_eq_true hb, hv]; rfl
        | false => rfl
      cases y with
      | ex v =>
        simp only [endFr, ext, hc, hu]
        exact hstep v h0.symm
      | pr p =>
        simp only [endFr, ext, hc, hu, if_pos]
        exact hstep _ rfl
    · cases k with
      | zero => simp at hk; subst hk; simp
      | succ k =>
        have := hu2 k o' (by simpa using hk)
        show (if i + (k + 1) = i then _ else u (i + (k + 1))) = _
        rw [if_neg (by omega), ← this]; congr 1; omega

theorem countP_one (p p' : Nat → Bool) (i : Nat) (hi : p i = false) (hp : ∀ k, p' k = if k = i then true else p k) : ∀ (l : List Nat), l.Nodup → i ∈ l → l.countP p' = l.countP p + 1
  | [], _, h => by cases h
  | x :: l, hn, h => by
    have hnot : ∀ (l : List Nat), ¬ i ∈ l → l.countP p' = l.countP p := by
      intro l hl
      exact List.countP_congr fun k hk => by rw [hp k, if_neg (by rintro rfl; exact hl hk)]
    simp only [List.nodup_cons] at hn
    simp only [List.countP_cons]
    by_cases hx : x = i
    · subst hx
      rw [hnot l hn.1, hp x, if_pos rfl, hi]; simp
    · have him : i ∈ l := by
        rcases List.mem_cons.1 h with h | h
        · exact absurd h.symm hx
        · exact h
      rw [countP_one p p' i hi hp l hn.2 him, hp x, if_neg hx]; omega

theorem Cd.draw {id : Nat} {l : List Oper} {Q : Post} (ys : List Yd) (hm : P.follows .mixedOrders = true) (hok : drawOk N l = true) (hlen : Nat.beq l.length ys.length = true) (hlast : ∀ y ∈ ys, y.lasts)
    (hsteps : DrawSteps P N l ys e w 0 l) (hend : ∀ u w1, Below w.heap.size w w1 → (∀ (k : Nat) (p : Value → World → Prop), ys[k]? = some (Yd.pr p) → p (u k) w1) → Q .normal (ext e (endFr l ys u 0)) w1) : Cd P N (.region id l.toArray true) Q e w := .mk' fun a ha => by
  have hlen' : l.length = ys.length := Nat.eq_of_beq_eq_true hlen
  simp only [drawOk, Bool.and_eq_true, List.all_eq_true, decide_eq_true_eq] at hok
  obtain ⟨⟨h1, h2⟩, h3⟩ := hok
  have hdst : ∀ (i : Nat) (o : Oper), l[i]? = some o → ∃ d, o.dst = some d ∧ dstOf o = d ∧ d < N := by
    intro i o ho
    have := h1 o (List.mem_of_getElem? ho)
    cases hd : o.dst with
    | none => rw [hd] at this; cases this
    | some d => rw [hd] at this; exact ⟨d, rfl, by simp [dstOf, hd], by simpa [Nat.blt_eq] using this⟩
  have hback2 : ∀ (i : Nat) (o : Oper), l[i]? = some o → ∀ ed ∈ aft o, ed.on < i ∧ Region.binds .any ed = true := by
    intro i o ho ed hed
    have := h3 (o, i) (by
      obtain ⟨hi, hio⟩ := List.getElem?_eq_some_iff.1 ho
      rw [List.mem_iff_getElem?]
      exact ⟨i, by simp [ho]⟩)
    exact ⟨by simpa [Nat.blt_eq] using this ed hed, (mem_aft.1 hed).2⟩
  have hback : ∀ (i : Nat) (o : Oper), l[i]? = some o → ∀ ed ∈ aft o, ed.on < i := fun i o ho ed hed => (hback2 i o ho ed hed).1
  refine wp_region_any hm ?_
  -- whatever the order
  have key : ∀ (fuel : Nat) (listed : Array Bool) (a1 : Act) (e1 : Env) (w1 : World), Rep N a1 e1 → Below w.heap.size w w1 → (∀ j, memb (l.map dstOf) j = false → e1 j = e j) → listed.size = l.length →
      (∀ (i : Nat) (y : Yd) (o : Oper), listed.getD i false = true → ys[i]? = some y → l[i]? = some o → y.holds (e1 (dstOf o)) w1) → (∀ (i : Nat) (o : Oper), listed.getD i false = true → l[i]? = some o → ∀ ed ∈ aft o, listed.getD ed.on false = true) → (∀ (i : Nat) (o : Oper), listed.getD i false = false → l[i]? = some o → e1 (dstOf o) = e (dstOf o)) → (l.length - fuel ≤ (List.range l.length).countP fun i => listed.getD i false) →
      wpAny P .any l.toArray (low N Q) fuel listed a1 w1 := by
    have hfin : ∀ (listed : Array Bool) (a1 : Act) (e1 : Env) (w1 : World), Rep N a1 e1 → Below w.heap.size w w1 → (∀ j, memb (l.map dstOf) j = false → e1 j = e j) →
        (∀ (i : Nat) (y : Yd) (o : Oper), listed.getD i false = true → ys[i]? = some y → l[i]? = some o → y.holds (e1 (dstOf o)) w1) → (∀ i, i < l.length → listed.getD i false = true) → low N Q .normal a1 w1 := by
      intro listed a1 e1 w1 hr hb hag hS hall
      obtain ⟨u, hu, hu2⟩ := endFr_eq (e1 := e1) (e := e) (w1 := w1) l ys 0 hlen' h2 (fun k y o hy ho => hS k y o (hall k (List.getElem?_eq_some_iff.1 ho).1) hy ho)
      refine ⟨e1, hr, ?_⟩
      have := hend u w1 hb (fun k p hk => by
        have hkl : k < l.length := by rw [hlen']; exact (List.getElem?_eq_some_iff.1 hk).1
        have h5 := hS k _ l[k] (hall k hkl) hk (List.getElem?_eq_getElem hkl)
        have h6 := hu2 k l[k] (List.getElem?_eq_getElem hkl)
        rw [Nat.zero_add] at h6
        rw [h6]; exact h5)
      rw [hu, mix_eq hag] at this
      exact this
    have hready : ∀ (listed : Array Bool), listed.size = l.length → Region.ready .any l.toArray listed = [] → ∀ i, i < l.length → listed.getD i false = true := by
      intro listed hsz hnil i
      induction i using Nat.strongRecOn with
      | _ i ih =>
        intro hi
        cases hli : listed.getD i false with
        | true => rfl
        | false =>
          exfalso
          have : i ∈ Region.ready .any l.toArray listed := by
            rw [mem_ready]
            refine ⟨?_, l[i], by simp [hi], fun ed hed hbd => ih ed.on (hback i _ (List.getElem?_eq_getElem hi) ed (mem_aft.2 ⟨hed, hbd⟩)) (by have := hback i _ (List.getElem?_eq_getElem hi) ed (mem_aft.2 ⟨hed, hbd⟩); omega)⟩
            rw [Array.getD_eq_getD_getElem?, Array.getElem?_eq_getElem (by omega)] at hli ⊢
            exact hli
          rw [hnil] at this
          cases this
    intro fuel
    induction fuel with
    | zero =>
      intro listed a1 e1 w1 hr hb hag hsz hS hcl hun0 hcnt
      have hall : ∀ i, i < l.length → listed.getD i false = true := by
        have h4 : (List.range l.length).countP (fun i => listed.getD i false) = (List.range l.length).length := by
          have := List.countP_le_length (p := fun i => listed.getD i false) (l := List.range l.length)
          simp at this hcnt ⊢; omega
        rw [List.countP_eq_length] at h4
        intro i hi
        exact h4 i (by simpa using hi)
      refine ⟨?_, hfin listed a1 e1 w1 hr hb hag hS hall⟩
      rw [List.eq_nil_iff_forall_not_mem]
      intro i hi
      obtain ⟨h5, o, ho, _⟩ := mem_ready.1 hi
      have hil : i < l.length := by
        rcases Nat.lt_or_ge i l.length with h | h
        · exact h
        · simp [List.getElem?_eq_none h] at ho
      have h6 := hall i hil
      rw [Array.getD_eq_getD_getElem?, Array.getElem?_eq_getElem (by omega)] at h5 h6
      simp at h5 h6
      rw [h5] at h6; cases h6
    | succ fuel ih =>
      intro listed a1 e1 w1 hr hb hag hsz hS hcl hun0 hcnt
      refine ⟨fun hnil => hfin listed a1 e1 w1 hr hb hag hS (hready listed hsz hnil), fun i hi => ?_⟩
      obtain ⟨hun, o, ho, haf⟩ := mem_ready.1 hi
      have ho' : l[i]? = some o := by simpa using ho
      have hil : i < l.length := (List.getElem?_eq_some_iff.1 ho').1
      obtain ⟨d, hd, hdo, hdN⟩ := hdst i o ho'
      have hdeps : ∀ j, memb ((aft o).map (·.on)) j = true → ∀ (y : Yd) (o' : Oper), ys[j]? = some y → l[j]? = some o' → y.holds (e1 (dstOf o')) w1 := by
        intro j hj y o' hy hoj
        rw [memb_iff, List.mem_map] at hj
        obtain ⟨ed, hed, rfl⟩ := hj
        exact hS _ y o' (haf ed (mem_aft.1 hed).1 (mem_aft.1 hed).2) hy hoj
      have hrd : ∀ ed ∈ aft o, listed.getD ed.on false = true := fun ed hed => haf ed (mem_aft.1 hed).1 (mem_aft.1 hed).2
      have hun' : listed.getD i false = false := by
        have h5 := hun
        rw [Array.getD_eq_getD_getElem?, Array.getElem?_eq_getElem (by omega)] at h5 ⊢
        exact h5
      have hgs : ∀ k, (listed.setIfInBounds i true).getD k false = if k = i then true else listed.getD k false := by
        intro k
        rw [Array.getD_eq_getD_getElem?, Array.getElem?_setIfInBounds]
        by_cases hki : k = i
        · subst hki; rw [if_pos rfl, if_pos (by omega), if_pos rfl]; rfl
        · rw [if_neg (fun e => hki e.symm), if_neg hki, ← Array.getD_eq_getD_getElem?]
      have hst := hsteps.get i o ho' e1 w1 hb (fun j _ hj => hdeps j hj) (fun j o' hj han => by
        refine hun0 j o' ?_ hj
        cases hlj : listed.getD j false with
        | false => rfl
        | true =>
          have := ancOf_listed hcl _ _ _ han hlj
          rw [Nat.zero_add, hun'] at this; cases this)
      rw [mix_eq hag, ext_of_mt (depFr_mt (aft o) (fun ed hed => by have := hback i o ho' ed hed; omega) hdeps), Nat.zero_add] at hst
      have hwl := hst.run a1 hr
      have hnext : ∀ a2 w2, (∃ e2, Rep N a2 e2 ∧ After i e1 w1 (dstOf o) (ys.getD i (.pr fun _ _ => True)) e2 w2) → wpAny P .any l.toArray (low N Q) fuel (listed.setIfInBounds i true) a2 w2 := by
        intro a2 w2 ⟨e2, hr2, hb2, hy2, hag2⟩
        have hb3 : Below w.heap.size w w2 := hb.trans (hb2.mono hb.size)
        refine ih _ a2 e2 w2 hr2 hb3 (fun j hj => ?_) (by simpa using hsz) (fun k y o' hk hy hok => ?_) (fun k o' hk hok ed hed => ?_) (fun k o' hk hok => ?_) ?_
        · have hne : j ≠ dstOf o := by
            rintro rfl
            have : memb (l.map dstOf) (dstOf o) = true := by rw [memb_iff]; exact List.mem_map.2 ⟨o, List.mem_of_getElem? ho', rfl⟩
            rw [this] at hj; cases hj
          rw [hag2 j hne]; exact hag j hj
        · by_cases hki : k = i
          · subst hki
            rw [ho'] at hok
            cases hok
            have : ys.getD k (.pr fun _ _ => True) = y := by simp [List.getD_eq_getElem?_getD, hy]
            rw [this] at hy2
            exact hy2
          · have hk' : listed.getD k false = true := by
              rw [Array.getD_eq_getD_getElem?, Array.getElem?_setIfInBounds, if_neg (by omega), ← Array.getD_eq_getD_getElem?] at hk
              exact hk
            have h7 := hS k y o' hk' hy hok
            have hne : dstOf o' ≠ dstOf o := by
              intro heq
              have hkl := (List.getElem?_eq_some_iff.1 hok).1
              have h9 : k = i := (List.getElem_inj (xs := l.map dstOf) (h₀ := by simpa using hkl) (h₁ := by simpa using hil) h2).1 (by
                have e1 := (List.getElem?_eq_some_iff.1 hok).2
                have e2 := (List.getElem?_eq_some_iff.1 ho').2
                simp [e1, e2, heq])
              exact hki h9
            rw [hag2 _ hne]
            exact Yd.holds_later (hlast y (List.mem_of_getElem? hy)) h7 hb2
        · rw [hgs]
          by_cases hei : ed.on = i
          · rw [if_pos hei]
          · rw [if_neg hei]
            by_cases hki : k = i
            · subst hki
              rw [ho'] at hok; cases hok
              exact hrd ed hed
            · rw [hgs, if_neg hki] at hk
              exact hcl k o' hk hok ed hed
        · rw [hgs] at hk
          by_cases hki : k = i
          · rw [if_pos hki] at hk; cases hk
          · rw [if_neg hki] at hk
            rw [hag2 _ (fun heq => by
              have hkl := (List.getElem?_eq_some_iff.1 hok).1
              have h9 : k = i := (List.getElem_inj (xs := l.map dstOf) (h₀ := by simpa using hkl) (h₁ := by simpa using hil) h2).1 (by
                have e1 := (List.getElem?_eq_some_iff.1 hok).2
                have e2 := (List.getElem?_eq_some_iff.1 ho').2
                simp [e1, e2, heq])
              exact hki h9)]
            exact hun0 k o' hk hok
        · have hcount : (List.range l.length).countP (fun k => (listed.setIfInBounds i true).getD k false) = (List.range l.length).countP (fun k => listed.getD k false) + 1 := by
            refine countP_one (fun k => listed.getD k false) (fun k => (listed.setIfInBounds i true).getD k false) i ?_ (fun k => ?_) _ List.nodup_range (by simpa using hil)
            · have h5 := hun
              show listed.getD i false = false
              rw [Array.getD_eq_getD_getElem?, Array.getElem?_eq_getElem (by omega)] at h5 ⊢
              exact h5
            · show (listed.setIfInBounds i true).getD k false = if k = i then true else listed.getD k false
              rw [Array.getD_eq_getD_getElem?, Array.getElem?_setIfInBounds]
              by_cases hki : k = i
              · subst hki; rw [if_pos rfl, if_pos (by omega), if_pos rfl]; rfl
              · rw [if_neg (fun e => hki e.symm), if_neg hki, ← Array.getD_eq_getD_getElem?]
          rw [hcount]; omega
      -- the one operation
      unfold wpOp
      rw [ho]
      unfold wpList at hwl
      show if _ then _ else _
      by_cases hw : Region.wanted o (yielded l.toArray a1.tmps) = true
      · rw [if_pos hw] at hwl ⊢
        rcases hwl with h5 | ⟨_, a0, w0, h5⟩
        · refine .inl (Oper.wp_conv h5 (fun a2 w2 hx => ?_) (fun x a w hx hq => hx hq.1))
          exact hnext a2 w2 hx.2
        · exact absurd h5.1 (by simp)
      · rw [if_neg hw] at hwl ⊢
        exact hnext _ _ hwl.2
  refine key l.length (Array.replicate l.length false) a e _ ha ⟨rfl, rfl, rfl, Nat.le_refl _, fun _ _ => rfl⟩ (fun _ _ => rfl) (by simp) (fun i y o hi => ?_) (fun i o hi => ?_) (fun _ _ _ _ => rfl) (by omega)
  · exfalso
    rw [Array.getD_eq_getD_getElem?, Array.getElem?_replicate] at hi
    split at hi <;> simp at hi
  · exfalso
    rw [Array.getD_eq_getD_getElem?, Array.getElem?_replicate] at hi
    split at hi <;> simp at hi

/-- two ways that meet again -/
theorem Cd.join {α : Type} {x y : Code} {Q : Post} (F : α → List (Nat × Value)) (I : α → World → Prop) (hx : Cd P N x (thenQ (fun e' w' => ∃ s, Mt e' (F s) ∧ I s w') Q) e w)
    (hy : ∀ s e' w', I s w' → Cd P N y Q (ext e' (F s)) w') : Cd P N (.seq x y) Q e w :=
  .seq (hx.mono fun ex e' w' q => by
    cases ex <;> first
      | exact q
      | (obtain ⟨s, hm, hi⟩ := q
         have := hy s e' w' hi
         rw [ext_of_mt hm] at this
         exact this))
end
end Go.Proofs.Ytpdhjnacnmfbjaa.Vc
/-
  Slices of slices: read, and made anew. Conditions: as each rule names them.
-/
namespace Go.Proofs.Ytpdhjnacnmfbjaa.Vc
open Go.RowKit

structure RowsI (w : World) (A : Option Addr) (n : Nat) (rs : List SlV) (xss : List (List Int)) : Prop where
  top : RdR w A n rs
  len : xss.length = n
  row : ∀ i, i < n → RdI w (rs.getD i slNil).a (rs.getD i slNil).n (xss.getD i [])
  cap : ∀ i, i < n → (rs.getD i slNil).n ≤ (rs.getD i slNil).c ∧ (rs.getD i slNil).c ≤ maxLen

def gl (xss : List (List Int)) (i : Int) : List Int := xss.getD i.toNat []
theorem RowsI.at_ {w : World} {A : Option Addr} {n : Nat} {rs : List SlV} {xss : List (List Int)} (h : RowsI w A n rs xss) {i : Int} (_h0 : 0 ≤ i) (hi : i < n) : RdI w (rg rs i).a (rg rs i).n (gl xss i) := h.row _ (by omega)
theorem RowsI.cap_ {w : World} {A : Option Addr} {n : Nat} {rs : List SlV} {xss : List (List Int)} (h : RowsI w A n rs xss) {i : Int} (_h0 : 0 ≤ i) (hi : i < n) : (rg rs i).n ≤ (rg rs i).c ∧ (rg rs i).c ≤ 9223372036854775807 := h.cap _ (by omega)
theorem RowsI.later {w w' : World} {A : Option Addr} {n : Nat} {rs : List SlV} {xss : List (List Int)} (h : RowsI w A n rs xss) (hb : Below w.heap.size w w') : RowsI w' A n rs xss :=
  ⟨h.top.later hb, h.len, fun i hi => (h.row i hi).later hb, h.cap⟩
theorem St.oldRows {w0 w : World} {ks : List Ck} {A : Option Addr} {n : Nat} {rs : List SlV} {xss : List (List Int)} (h : St w0 w ks) (hR : RowsI w0 A n rs xss) : RowsI w A n rs xss := hR.later h.below
theorem RowsI.nil (w : World) : RowsI w none 0 [] [] := ⟨RdR.nil, rfl, fun i hi => by omega, fun i hi => by omega⟩

def rowsCk (t : TypeId) : List SlV → List (List Int) → List Ck
  | r :: rs, xs :: xss => CkI t r.a r.n r.c xs :: rowsCk t rs xss
  | _, _ => []
/-- a new slice of slices: the outer row, then each row -/
def mat (t1 t2 : TypeId) (A : Option Addr) (n c : Nat) (rs : List SlV) (xss : List (List Int)) : List Ck := CkR t1 A n c rs :: rowsCk t2 rs xss

theorem rowsCk_get {t : TypeId} : ∀ {rs : List SlV} {xss : List (List Int)} {i : Nat}, rs.length = xss.length → i < rs.length → (rowsCk t rs xss)[i]? = some (CkI t (rs.getD i slNil).a (rs.getD i slNil).n (rs.getD i slNil).c (xss.getD i []))
  | [], _, _, _, h => by simp at h
  | r :: rs, [], _, h, _ => by simp at h
  | r :: rs, xs :: xss, 0, _, _ => rfl
  | r :: rs, xs :: xss, i + 1, h, hi => by
    have := rowsCk_get (t := t) (rs := rs) (xss := xss) (i := i) (by simpa using h) (by simpa using hi)
    simpa [rowsCk] using this
theorem rowsCk_length {t : TypeId} : ∀ {rs : List SlV} {xss : List (List Int)}, rs.length = xss.length → (rowsCk t rs xss).length = rs.length
  | [], [], _ => rfl
  | [], _ :: _, h => by simp at h
  | _ :: _, [], h => by simp at h
  | r :: rs, xs :: xss, h => by simp [rowsCk, rowsCk_length (t := t) (rs := rs) (xss := xss) (by simpa using h)]
theorem rowsCk_append {t : TypeId} : ∀ {rs rs' : List SlV} {xss xss' : List (List Int)}, rs.length = xss.length → rowsCk t (rs ++ rs') (xss ++ xss') = rowsCk t rs xss ++ rowsCk t rs' xss'
  | [], _, [], _, _ => rfl
  | [], _, _ :: _, _, h => by simp at h
  | _ :: _, _, [], _, h => by simp at h
  | r :: rs, rs', xs :: xss, xss', h => by
    have := rowsCk_append (t := t) (rs := rs) (rs' := rs') (xss := xss) (xss' := xss') (by simpa using h)
    simp [rowsCk, this]

theorem St.rowsI {w0 w : World} {ks : List Ck} {t1 t2 : TypeId} {A : Option Addr} {n c : Nat} {rs : List SlV} {xss : List (List Int)} (h : St w0 w (mat t1 t2 A n c rs xss ++ ks)) (hl : xss.length = n) : RowsI w A n rs xss := by
  have h0 := h.rdR 0 (show (mat t1 t2 A n c rs xss ++ ks)[0]? = some (CkR t1 A n c rs) from rfl)
  have hr : rs.length = xss.length := by rw [h0.1, hl]
  have get : ∀ i, i < n → (mat t1 t2 A n c rs xss ++ ks)[i + 1]? = some (CkI t2 (rs.getD i slNil).a (rs.getD i slNil).n (rs.getD i slNil).c (xss.getD i [])) := by
    intro i hi
    have h1 := rowsCk_get (t := t2) (rs := rs) (xss := xss) (i := i) hr (by omega)
    rw [List.getElem?_append_left (by simp [mat, rowsCk_length hr]; omega)]
    simpa [mat] using h1
  exact ⟨h0, hl, fun i hi => h.rdI (i + 1) (get i hi), fun i hi => h.cap (i + 1) (get i hi)⟩

theorem St.unmat {w0 w : World} {ks : List Ck} {t1 t2 : TypeId} {A : Option Addr} {n c : Nat} {rs : List SlV} {xss : List (List Int)} (h : St w0 w (mat t1 t2 A n c rs xss ++ ks)) : St w0 w ks := h.sub (List.sublist_append_right _ _)
end Go.Proofs.Ytpdhjnacnmfbjaa.Vc
/-
  The cycles of a list of numbers, by their least points, and lists in ascending order: a plain law, with no program in sight. Conditions: as each states them.
-/
namespace Go.Proofs.Ytpdhjnacnmfbjaa.Vc
open Go.RowKit

/-- from x on, till a point comes that was seen -/
def goC (p : List Int) : Nat → Nat → List Bool → List Int × List Bool
  | 0, _, s => ([], s)
  | k + 1, x, s => if gb s (x : Int) = true then ([], s) else ((x : Int) :: (goC p k (gi p x).toNat (s.set x true)).1, (goC p k (gi p x).toNat (s.set x true)).2)

theorem gb_nat {s : List Bool} {x : Nat} (hx : x < s.length) : gb s (x : Int) = s[x] := by simp [gb, List.getD_eq_getElem?_getD, List.getElem?_eq_getElem hx]
theorem count_seen {s : List Bool} {x : Nat} (hx : x < s.length) (h : ¬ gb s (x : Int) = true) : (s.set x true).count false + 1 = s.count false := by
  have e := gb_nat hx
  rw [e, Bool.not_eq_true] at h
  have h1 : 0 < s.count false := by
    rw [List.count_pos_iff, ← h]
    exact List.getElem_mem hx
  rw [List.count_set hx, h]
  simp
  omega
theorem goC_seen {p : List Int} {s : List Bool} {x : Nat} (h : gb s (x : Int) = true) (k : Nat) : goC p k x s = ([], s) := by
  cases k with
  | zero => rfl
  | succ k => simp [goC, h]
theorem goC_step {p : List Int} {s : List Bool} {x : Nat} (hx : x < s.length) (h : ¬ gb s (x : Int) = true) : goC p (s.count false) x s = ((x : Int) :: (goC p ((s.set x true).count false) (gi p x).toNat (s.set x true)).1, (goC p ((s.set x true).count false) (gi p x).toNat (s.set x true)).2) := by
  rw [← count_seen hx h]
  simp [goC, h]
theorem goC_len {p : List Int} : ∀ (k x : Nat) (s : List Bool), (goC p k x s).2.length = s.length
  | 0, _, _ => rfl
  | k + 1, x, s => by
    unfold goC
    split
    · rfl
    · show (goC p k _ _).2.length = _
      rw [goC_len k, List.length_set]
theorem goC_le {p : List Int} : ∀ (k x : Nat) (s : List Bool), (goC p k x s).1.length ≤ k
  | 0, _, _ => Nat.le_refl _
  | k + 1, x, s => by
    unfold goC
    split
    · exact Nat.zero_le _
    · show (goC p k _ _).1.length + 1 ≤ _
      have := goC_le (p := p) k (gi p x).toNat (s.set x true)
      omega

/-- all cycles from some points on -/
def cycs (p : List Int) : List Nat → List Bool → List (List Int)
  | [], _ => []
  | i :: is, s => (if (goC p (s.count false) i s).1 = [] then [] else [(goC p (s.count false) i s).1]) ++ cycs p is (goC p (s.count false) i s).2
theorem cycs_le {p : List Int} : ∀ (is : List Nat) (s : List Bool), (cycs p is s).length ≤ is.length
  | [], _ => Nat.le_refl _
  | i :: is, s => by
    have := cycs_le (p := p) is (goC p (s.count false) i s).2
    unfold cycs
    rw [List.length_append, List.length_cons]
    split <;> simp <;> omega
/-- the cycles of n points -/
def cyAll (p : List Int) (n : Nat) : List (List Int) := cycs p (List.range n) (List.replicate n false)
def lenAll (p : List Int) (n : Nat) : List Int := (cyAll p n).map fun c => (c.length : Int)
theorem cyAll_le (p : List Int) (n : Nat) : (cyAll p n).length ≤ n := by
  have := cycs_le (p := p) (List.range n) (List.replicate n false)
  rwa [List.length_range] at this
theorem lenAll_le (p : List Int) (n : Nat) : (lenAll p n).length ≤ n := by
  unfold lenAll; rw [List.length_map]; exact cyAll_le p n
theorem range_drop (n i : Nat) (h : i < n) : List.range' i (n - i) = i :: List.range' (i + 1) (n - (i + 1)) := by
  obtain ⟨m, hm⟩ : ∃ m, n - i = m + 1 := ⟨n - i - 1, by omega⟩
  rw [hm, show n - (i + 1) = m by omega]
  rfl
theorem cyAll_eq (p : List Int) (n : Nat) : cyAll p n = cycs p (List.range' 0 (n - 0)) (List.replicate n false) := by
  unfold cyAll
  rw [List.range_eq_range']
  rfl
theorem cycs_step {p : List Int} {n i : Nat} (h : i < n) (s : List Bool) : cycs p (List.range' i (n - i)) s = (if (goC p (s.count false) i s).1 = [] then [] else [(goC p (s.count false) i s).1]) ++ cycs p (List.range' (i + 1) (n - (i + 1))) (goC p (s.count false) i s).2 := by
  rw [range_drop n i h]; rfl
theorem cycs_end {p : List Int} {n : Nat} (s : List Bool) : cycs p (List.range' n (n - n)) s = [] := by
  rw [Nat.sub_self]; rfl

/-! ascending lists -/
def Asc (l : List Int) : Prop := l.Pairwise (· ≤ ·)
def srt (l : List Int) : List Int := l.mergeSort fun x y => decide (x ≤ y)
theorem srt_perm (l : List Int) : (srt l).Perm l := List.mergeSort_perm _ _
theorem srt_asc (l : List Int) : Asc (srt l) := by
  have := List.pairwise_mergeSort (le := fun x y : Int => decide (x ≤ y)) (fun a b c h1 h2 => by simp at h1 h2 ⊢; omega) (fun a b => by simp; omega) l
  exact this.imp fun h => by simpa using h
theorem asc_unique {l l' : List Int} (h : l.Perm l') (h1 : Asc l) (h2 : Asc l') : l = l' :=
  List.Perm.eq_of_pairwise (le := (· ≤ ·)) (fun a b _ _ h1 h2 => by omega) h1 h2 h
theorem asc_srt {l l' : List Int} (h : l.Perm l') (h1 : Asc l) : l = srt l' := asc_unique (h.trans (srt_perm l').symm) h1 (srt_asc l')
/-- a number put in where all ahead are less, and the one there is not -/
theorem asc_put {out : List Int} {a : Nat} {v : Int} (h : Asc out) (ha : a ≤ out.length) (hl : ∀ j : Nat, j < a → gi out (j : Int) < v) (hg : a < out.length → v ≤ gi out (a : Int)) : Asc (out.take a ++ (v :: out.drop a)) := by
  have key : ∀ j (hj : j < out.length), gi out (j : Int) = out[j] := fun j hj => by simp [gi, List.getD_eq_getElem?_getD, List.getElem?_eq_getElem hj]
  have hidx : ∀ i j (hi : i < out.length) (hj : j < out.length), i ≤ j → out[i] ≤ out[j] := fun i j hi hj hij => by
    by_cases e : i = j
    · subst e; exact Int.le_refl _
    · exact (List.pairwise_iff_getElem.1 h) i j hi hj (by omega)
  unfold Asc
  rw [List.pairwise_append, List.pairwise_cons]
  refine ⟨h.sublist (List.take_sublist _ _), ⟨fun x hx => ?_, h.sublist (List.drop_sublist _ _)⟩, fun x hx y hy => ?_⟩
  · obtain ⟨j, hj, rfl⟩ := List.mem_iff_getElem.1 hx
    rw [List.length_drop] at hj
    rw [List.getElem_drop]
    have h1 := hg (by omega)
    rw [key a (by omega)] at h1
    exact Int.le_trans h1 (hidx _ _ (by omega) (by omega) (by omega))
  · obtain ⟨j, hj, rfl⟩ := List.mem_iff_getElem.1 hx
    rw [List.length_take] at hj
    rw [List.getElem_take]
    have hxv : out[j] < v := by rw [← key j (by omega)]; exact hl j (by omega)
    rcases List.mem_cons.1 hy with rfl | hy
    · omega
    · obtain ⟨m, hm, rfl⟩ := List.mem_iff_getElem.1 hy
      rw [List.length_drop] at hm
      rw [List.getElem_drop]
      exact hidx _ _ (by omega) (by omega) (by omega)
theorem put_perm {out : List Int} {a : Nat} {v : Int} : (out.take a ++ (v :: out.drop a)).Perm (out ++ [v]) := by
  have h1 : (out.take a ++ (v :: out.drop a)).Perm (v :: (out.take a ++ out.drop a)) := List.perm_middle
  rw [List.take_append_drop] at h1
  exact h1.trans (List.perm_append_comm (l₁ := [v]))
end Go.Proofs.Ytpdhjnacnmfbjaa.Vc
/-
  The walks of the smallest functions. Conditions: as each states them.
-/
namespace Go.Proofs.Ytpdhjnacnmfbjaa.Vc
open Go.RowKit

theorem l01In_c (n lo hi : Int) (w : World) : Ret Try.prog 86 [.int .i64 n, .int .i64 lo, .int .i64 hi] w (fun v w' => v = .bool (decide (lo ≤ n ∧ n ≤ hi)) ∧ w' = w) := by
  refine Ret.of_cd Try.func86 rfl Try.ntmps86 rfl (post1 rfl) ?_
  refine Cd.seq ?_
  refine Cd.region ?_
  refine Ops.mv_bool rfl rfl rfl ?_
  refine Ops.nil ?_
  refine thenQ_n ?_
  refine Cd.seq ?_
  refine Cd.region ?_
  refine Ops.mv_int rfl rfl rfl ?_
  refine Ops.mv_int rfl rfl rfl ?_
  refine Ops.geq rfl rfl rfl ?_
  refine Ops.mv_bool rfl rfl rfl ?_
  -- stop: guard 10
  refine Ops.split_p 10 rfl (fun h => ?_) (fun h => ?_)
  · refine Ops.rung rfl rfl rfl ?_
    refine Ops.mv_int rfl rfl rfl ?_
    refine Ops.rung rfl rfl rfl ?_
    refine Ops.mv_int rfl rfl rfl ?_
    refine Ops.rung rfl rfl rfl ?_
    refine Ops.leq rfl rfl rfl ?_
    refine Ops.pick_t rfl rfl rfl ?_
    refine Ops.mv_bool rfl rfl rfl ?_
    refine Ops.nil ?_
    refine thenQ_n ?_
    refine Cd.ret ?_
    refine ret1_b rfl ?_
    -- stop: end
    exact ⟨by simp [h], rfl⟩
  · refine Ops.skipg rfl rfl rfl rfl rfl ?_
    refine Ops.skipg rfl rfl rfl rfl rfl ?_
    refine Ops.skipg rfl rfl rfl rfl rfl ?_
    refine Ops.pick_f rfl rfl rfl ?_
    refine Ops.mv_bool rfl rfl rfl ?_
    refine Ops.nil ?_
    refine thenQ_n ?_
    refine Cd.ret ?_
    refine ret1_b rfl ?_
    -- stop: end
    exact ⟨by simp [h], rfl⟩

theorem within_c (n lo hi : Int) (w : World) : Ret Try.prog 88 [.int .i64 n, .int .i64 lo, .int .i64 hi] w (fun v w' => v = .bool (decide (lo ≤ n ∧ n ≤ hi)) ∧ w' = w) := by
  refine Ret.of_cd Try.func88 rfl Try.ntmps88 rfl (post1 rfl) ?_
  refine Cd.seq ?_
  refine Cd.region ?_
  refine Ops.mv_bool rfl rfl rfl ?_
  refine Ops.nil ?_
  refine thenQ_n ?_
  refine Cd.seq ?_
  refine Cd.region ?_
  refine Ops.mv_int rfl rfl rfl ?_
  refine Ops.mv_int rfl rfl rfl ?_
  refine Ops.geq rfl rfl rfl ?_
  refine Ops.mv_bool rfl rfl rfl ?_
  -- stop: guard 10
  refine Ops.split_p 10 rfl (fun h => ?_) (fun h => ?_)
  · refine Ops.rung rfl rfl rfl ?_
    refine Ops.mv_int rfl rfl rfl ?_
    refine Ops.rung rfl rfl rfl ?_
    refine Ops.mv_int rfl rfl rfl ?_
    refine Ops.rung rfl rfl rfl ?_
    refine Ops.leq rfl rfl rfl ?_
    refine Ops.pick_t rfl rfl rfl ?_
    refine Ops.mv_bool rfl rfl rfl ?_
    refine Ops.nil ?_
    refine thenQ_n ?_
    refine Cd.ret ?_
    refine ret1_b rfl ?_
    -- stop: end
    exact ⟨by simp [h], rfl⟩
  · refine Ops.skipg rfl rfl rfl rfl rfl ?_
    refine Ops.skipg rfl rfl rfl rfl rfl ?_
    refine Ops.skipg rfl rfl rfl rfl rfl ?_
    refine Ops.pick_f rfl rfl rfl ?_
    refine Ops.mv_bool rfl rfl rfl ?_
    refine Ops.nil ?_
    refine thenQ_n ?_
    refine Cd.ret ?_
    refine ret1_b rfl ?_
    -- stop: end
    exact ⟨by simp [h], rfl⟩

def IsPerm (p : List Int) : Prop := p.length ≤ 400 ∧ (∀ x ∈ p, 0 ≤ x ∧ x < p.length) ∧ p.Nodup
instance (p : List Int) : Decidable (IsPerm p) := by unfold IsPerm; exact inferInstance

/-- the places that k elements have marked -/
def Seen (p : List Int) (k : Nat) (S : List Bool) : Prop :=
  S.length = p.length ∧ (∀ x ∈ p.take k, 0 ≤ x ∧ x < p.length) ∧ (p.take k).Nodup ∧ ∀ x : Int, 0 ≤ x → x < p.length → (gb S x = true ↔ x ∈ p.take k)

theorem gi_mem {p : List Int} {k : Nat} (h : k < p.length) : gi p k = p[k] := by simp [gi, List.getD_eq_getElem?_getD, List.getElem?_eq_getElem h]
theorem take_succ_gi {p : List Int} {k : Nat} (h : k < p.length) : p.take (k + 1) = p.take k ++ [gi p k] := by rw [gi_mem h, List.take_succ_eq_append_getElem h]
theorem gb_set {S : List Bool} {x y : Int} {b : Bool} (hx : 0 ≤ x) (hx' : x < S.length) (hy : 0 ≤ y) : gb (S.set x.toNat b) y = if x = y then b else gb S y := by
  simp only [gb, List.getD_eq_getElem?_getD, List.getElem?_set]
  by_cases e : x = y
  · subst e; rw [if_pos rfl, if_pos rfl, if_pos (by omega)]; rfl
  · rw [if_neg (by omega), if_neg e]
theorem gi_set {S : List Int} {x y : Int} {b : Int} (hx : 0 ≤ x) (hx' : x < S.length) (hy : 0 ≤ y) : gi (S.set x.toNat b) y = if x = y then b else gi S y := by
  simp only [gi, List.getD_eq_getElem?_getD, List.getElem?_set]
  by_cases e : x = y
  · subst e; rw [if_pos rfl, if_pos rfl, if_pos (by omega)]; rfl
  · rw [if_neg (by omega), if_neg e]

theorem Seen.zero (p : List Int) : Seen p 0 (List.replicate p.length false) := ⟨by simp, by simp, by simp, fun x h0 h1 => by
  simp [gb, List.getD_eq_getElem?_getD, List.getElem?_replicate]; split <;> simp⟩
theorem Seen.bad {p : List Int} {k : Nat} {S : List Bool} (h : Seen p k S) (hk : k < p.length) (hb : ¬ (0 ≤ gi p k ∧ gi p k ≤ p.length - 1)) : ¬ IsPerm p := fun hp => by
  have := hp.2.1 (gi p k) (by rw [gi_mem hk]; exact List.getElem_mem hk)
  omega
theorem Seen.twice {p : List Int} {k : Nat} {S : List Bool} (h : Seen p k S) (hk : k < p.length) (h0 : 0 ≤ gi p k ∧ gi p k ≤ p.length - 1) (hb : gb S (gi p k) = true) : ¬ IsPerm p := fun hp => by
  have h1 := (h.2.2.2 (gi p k) h0.1 (by omega)).1 hb
  have h2 : (p.take (k + 1)).Nodup := hp.2.2.sublist (List.take_sublist _ _)
  rw [take_succ_gi hk, List.nodup_append] at h2
  exact h2.2.2 _ h1 _ (by simp) rfl
theorem Seen.step {p : List Int} {k : Nat} {S : List Bool} (h : Seen p k S) (hk : k < p.length) (h0 : 0 ≤ gi p k ∧ gi p k ≤ p.length - 1) (hb : gb S (gi p k) = false) : Seen p (k + 1) (S.set (gi p k).toNat true) := by
  obtain ⟨h1, h2, h3, h4⟩ := h
  have h5 : ¬ gi p k ∈ p.take k := fun hm => by have := (h4 _ h0.1 (by omega)).2 hm; rw [hb] at this; cases this
  refine ⟨by simpa using h1, ?_, ?_, fun x hx hx' => ?_⟩
  · rw [take_succ_gi hk]
    intro x hx
    rcases List.mem_append.1 hx with hx | hx
    · exact h2 x hx
    · simp at hx; subst hx; omega
  · rw [take_succ_gi hk, List.nodup_append]
    refine ⟨h3, by simp, fun a ha b hb' => ?_⟩
    simp at hb'
    subst hb'
    intro e
    subst e
    exact h5 ha
  · rw [gb_set h0.1 (by omega) hx, take_succ_gi hk, List.mem_append]
    by_cases e : gi p k = x
    · simp [e]
    · rw [if_neg e, h4 x hx hx']
      simp
      intro h; exact absurd h.symm e
theorem Seen.done {p : List Int} {k : Nat} {S : List Bool} (h : Seen p k S) (hk : ¬ k < p.length) (hl : p.length ≤ 400) : IsPerm p := by
  obtain ⟨h1, h2, h3, h4⟩ := h
  rw [List.take_of_length_le (by omega)] at h2 h3
  exact ⟨hl, h2, h3⟩

theorem l01Perm_c (A : Option Addr) (n c : Nat) (p : List Int) (w : World) (hR : RdI w A n p) : Ret Try.prog 91 [.slice A n c] w (fun v w' => v = .bool (decide (IsPerm p)) ∧ St w w' []) := by
  have hl := hR.1
  subst hl
  refine Ret.of_cd Try.func91 rfl Try.ntmps91 rfl (post1 rfl) ?_
  refine Cd.seq ?_
  refine Cd.region ?_
  refine Ops.mv_bool rfl rfl rfl ?_
  refine Ops.nil ?_
  refine thenQ_n ?_
  refine Cd.seq ?_
  refine Cd.seq ?_
  refine Cd.region ?_
  refine Ops.mv_sl rfl rfl rfl ?_
  refine Ops.len rfl rfl ?_
  refine Ops.gtr rfl rfl rfl ?_
  refine Ops.nil ?_
  refine thenQ_n ?_
  -- stop: cond
  refine Cd.cond_p _ rfl (fun h => ?_) (fun h => ?_)
  · refine Cd.seq ?_
    refine Cd.region ?_
    refine Ops.mv_bool rfl rfl rfl ?_
    refine Ops.nil ?_
    refine thenQ_n ?_
    refine Cd.ret ?_
    refine thenQ_r ?_
    refine ret1_b rfl ?_
    -- stop: end
    exact ⟨by rw [decide_eq_false (fun hp : IsPerm p => by have := hp.1; omega)], St.refl _⟩
  refine Cd.skip ?_
  refine thenQ_n ?_
  refine Cd.seq ?_
  refine Cd.region ?_
  refine Ops.mv_sl rfl rfl rfl ?_
  refine Ops.len rfl rfl ?_
  -- stop: MAKESLICE 86 t9 t9 -> 10
  refine Ops.mkB p.length (St.refl w) rfl rfl (by omega) ?_
  intro A1 w1 hS1
  refine Ops.mv_sl rfl rfl rfl ?_
  refine Ops.nil ?_
  refine thenQ_n ?_
  refine Cd.seq ?_
  refine Cd.seq ?_
  refine Cd.region ?_
  refine Ops.mv_int rfl rfl rfl ?_
  refine Ops.nil ?_
  refine thenQ_n ?_
  refine Cd.block ?_
  -- stop: loop
  refine Cd.loop (α := Nat × List Bool) (fun s => [(0, .slice A p.length c), (3, .slice A1 p.length p.length), (4, .int .i64 (s.1 : Int))]) (fun s w' => St w w' [CkB 4 A1 p.length p.length s.2] ∧ s.1 ≤ p.length ∧ Seen p s.1 s.2) (fun s => p.length - s.1) (0, List.replicate p.length false) ⟨rfl, rfl, rfl, trivial⟩ ⟨hS1, Nat.zero_le _, Seen.zero p⟩ ?_
  rintro ⟨k, S⟩ e w2 ⟨hS2, hk, hI⟩
  dsimp only at hS2 hk hI ⊢
  refine Cd.seq ?_
  refine Cd.seq ?_
  refine Cd.region ?_
  refine Ops.mv_int rfl rfl rfl ?_
  refine Ops.mv_sl rfl rfl rfl ?_
  refine Ops.len rfl rfl ?_
  refine Ops.lss rfl rfl rfl ?_
  refine Ops.nil ?_
  refine thenQ_n ?_
  -- stop: cond
  refine Cd.cond_p _ rfl (fun h1 => ?_) (fun h1 => ?_)
  · refine Cd.skip ?_
    refine thenQ_n ?_
    refine Cd.seq ?_
    refine Cd.block ?_
    refine Cd.seq ?_
    refine Cd.seq ?_
    refine Cd.region ?_
    refine Ops.mv_sl rfl rfl rfl ?_
    refine Ops.mv_int rfl rfl rfl ?_
    -- stop: INDEXADDR 39 t17 t18 -> 19
    refine Ops.idx (hS2.oldI hR).2 rfl rfl rfl (by omega) h1 ?_
    refine Ops.ld_int (hS2.oldI hR) rfl (by omega) rfl rfl ?_
    refine Ops.mv_sl rfl rfl rfl ?_
    refine Ops.len rfl rfl ?_
    refine Ops.sub rfl rfl rfl (by omega) ?_
    -- stop: CALL spec.l01In(t20, 0, t23) -> 24
    refine Ops.call (l01In_c _ _ _ _) rfl rfl rfl ?_
    rintro _ _ ⟨rfl, rfl⟩
    first | refine Ops.not_p rfl rfl ?_ | refine Ops.not rfl rfl ?_
    refine Ops.mv_bool rfl rfl rfl ?_
    -- stop: guard 26
    refine Ops.split_p 26 rfl (fun h2 => ?_) (fun h2 => ?_)
    · refine Ops.skipg rfl rfl rfl rfl rfl ?_
      refine Ops.skipg rfl rfl rfl rfl rfl ?_
      refine Ops.skipg rfl rfl rfl rfl rfl ?_
      refine Ops.skipg rfl rfl rfl rfl rfl ?_
      refine Ops.skipg rfl rfl rfl rfl rfl ?_
      refine Ops.skipg rfl rfl rfl rfl rfl ?_
      refine Ops.skipg rfl rfl rfl rfl rfl ?_
      refine Ops.pick_t rfl rfl rfl ?_
      refine Ops.nil ?_
      refine thenQ_n ?_
      -- stop: cond
      refine Cd.cond_t rfl ?_
      refine Cd.seq ?_
      refine Cd.region ?_
      refine Ops.mv_bool rfl rfl rfl ?_
      refine Ops.nil ?_
      refine thenQ_n ?_
      refine Cd.ret ?_
      refine thenQ_r ?_
      refine blockQ_r ?_
      refine thenQ_r ?_
      refine thenQ_r ?_
      refine blockQ_r ?_
      refine thenQ_r ?_
      refine ret1_b rfl ?_
      -- stop: end
      exact ⟨by rw [decide_eq_false (hI.bad (by omega) (by omega))], hS2.none⟩
    · refine Ops.rung rfl rfl rfl ?_
      refine Ops.mv_sl rfl rfl rfl ?_
      refine Ops.rung rfl rfl rfl ?_
      refine Ops.mv_sl rfl rfl rfl ?_
      refine Ops.rung rfl rfl rfl ?_
      refine Ops.mv_int rfl rfl rfl ?_
      refine Ops.rung rfl rfl rfl ?_
      -- stop: INDEXADDR 39 t28 t29 -> 30
      refine Ops.idx (hS2.oldI hR).2 rfl rfl rfl (by omega) h1 ?_
      refine Ops.rung rfl rfl rfl ?_
      -- stop: LOAD 2 t30 -> 31
      refine Ops.ld_int (hS2.oldI hR) rfl (by omega) rfl rfl ?_
      refine Ops.rung rfl rfl rfl ?_
      -- stop: INDEXADDR 86 t27 t31 -> 32
      refine Ops.idx (hS2.rdB 0 rfl).2 rfl rfl rfl (by omega) (by omega) ?_
      refine Ops.rung rfl rfl rfl ?_
      -- stop: LOAD 4 t32 -> 33
      refine Ops.ld_bool (hS2.rdB 0 rfl) rfl (by omega) rfl rfl ?_
      refine Ops.pick_f rfl rfl rfl ?_
      refine Ops.nil ?_
      refine thenQ_n ?_
      -- stop: cond
      refine Cd.cond rfl (fun h3 => ?_) (fun h3 => ?_)
      · refine Cd.seq ?_
        refine Cd.region ?_
        refine Ops.mv_bool rfl rfl rfl ?_
        refine Ops.nil ?_
        refine thenQ_n ?_
        refine Cd.ret ?_
        refine thenQ_r ?_
        refine blockQ_r ?_
        refine thenQ_r ?_
        refine thenQ_r ?_
        refine blockQ_r ?_
        refine thenQ_r ?_
        refine ret1_b rfl ?_
        -- stop: end
        exact ⟨by rw [decide_eq_false (hI.twice (by omega) (by omega) h3)], hS2.none⟩
      · refine Cd.skip ?_
        refine thenQ_n ?_
        refine Cd.region ?_
        refine Ops.mv_sl rfl rfl rfl ?_
        refine Ops.mv_sl rfl rfl rfl ?_
        refine Ops.mv_int rfl rfl rfl ?_
        -- stop: INDEXADDR 39 t36 t37 -> 38
        refine Ops.idx (hS2.oldI hR).2 rfl rfl rfl (by omega) h1 ?_
        refine Ops.ld_int (hS2.oldI hR) rfl (by omega) rfl rfl ?_
        refine Ops.idx (hS2.rdB 0 rfl).2 rfl rfl rfl (by omega) (by omega) ?_
        refine Ops.st_bool 0 hS2 rfl rfl rfl (by omega) ?_
        intro w3 hS3
        refine Ops.nil ?_
        refine blockQ_n ?_
        refine thenQ_n ?_
        refine Cd.region ?_
        refine Ops.mv_int rfl rfl rfl ?_
        refine Ops.add rfl rfl rfl (by omega) ?_
        refine Ops.mv_int rfl rfl rfl ?_
        refine Ops.nil ?_
        refine thenQ_n ?_
        -- stop: round
        exact ⟨(k + 1, S.set (gi p k).toNat true), by show p.length - (k + 1) < p.length - k; omega, ⟨rfl, rfl, rfl, trivial⟩, hS3, by show k + 1 ≤ _; omega, hI.step (by omega) (by omega) h3⟩
  · refine Cd.exit ?_
    refine thenQ_x ?_
    refine thenQ_x ?_
    refine blockQ_x ?_
    refine thenQ_n ?_
    refine Cd.seq ?_
    refine Cd.region ?_
    refine Ops.mv_bool rfl rfl rfl ?_
    refine Ops.nil ?_
    refine thenQ_n ?_
    refine Cd.ret ?_
    refine ret1_b rfl ?_
    -- stop: end
    exact ⟨by rw [decide_eq_true (hI.done (by omega) (by omega))], hS2.none⟩
end Go.Proofs.Ytpdhjnacnmfbjaa.Vc
/-
  The walks of the helpers of the laws: sizes, copies, comparisons. Conditions: as each states them.
-/
namespace Go.Proofs.Ytpdhjnacnmfbjaa.Vc
open Go.RowKit

def szI (n : Nat) (left : Int) : Int := if left - n < 0 then -1 else left - n
theorem szInt64S_c (A : Option Addr) (n c : Nat) (left : Int) (w : World) (hn : n ≤ 9223372036854775807) (hl : 0 ≤ left ∧ left ≤ 1048576) : Ret Try.prog 98 [.slice A n c, .int .i64 left] w (fun v w' => v = .int .i64 (szI n left) ∧ w' = w) := by
  refine Ret.of_cd Try.func98 rfl Try.ntmps98 rfl (post1 rfl) ?_
  refine Cd.seq ?_
  refine Cd.region ?_
  refine Ops.mv_int rfl rfl rfl ?_
  refine Ops.nil ?_
  refine thenQ_n ?_
  refine Cd.seq ?_
  refine Cd.region ?_
  refine Ops.mv_int rfl rfl rfl ?_
  refine Ops.mv_sl rfl rfl rfl ?_
  refine Ops.len rfl rfl ?_
  refine Ops.sub rfl rfl rfl (by omega) ?_
  refine Ops.mv_int rfl rfl rfl ?_
  refine Ops.nil ?_
  refine thenQ_n ?_
  refine Cd.seq ?_
  refine Cd.seq ?_
  refine Cd.region ?_
  refine Ops.mv_int rfl rfl rfl ?_
  refine Ops.lss rfl rfl rfl ?_
  refine Ops.nil ?_
  refine thenQ_n ?_
  -- stop: cond
  refine Cd.cond_p _ rfl (fun h => ?_) (fun h => ?_)
  · refine Cd.seq ?_
    refine Cd.region ?_
    refine Ops.mv_int rfl rfl rfl ?_
    refine Ops.nil ?_
    refine thenQ_n ?_
    refine Cd.ret ?_
    refine thenQ_r ?_
    refine ret1_i rfl ?_
    -- stop: end
    exact ⟨by simp [szI, h], rfl⟩
  · refine Cd.skip ?_
    refine thenQ_n ?_
    refine Cd.seq ?_
    refine Cd.region ?_
    refine Ops.mv_int rfl rfl rfl ?_
    refine Ops.mv_int rfl rfl rfl ?_
    refine Ops.nil ?_
    refine thenQ_n ?_
    refine Cd.ret ?_
    refine ret1_i rfl ?_
    -- stop: end
    exact ⟨by simp [szI, h], rfl⟩

def szGo : List Nat → Int → Int
  | [], l => l
  | n :: r, l => if szI n l < 0 then -1 else szGo r (szI n l)
def szSS (ns : List Nat) (left : Int) : Int := if left - ns.length < 0 then -1 else szGo ns (left - ns.length)
theorem szGo_drop {ns : List Nat} {k : Nat} (hk : k < ns.length) (l : Int) : szGo (ns.drop k) l = if szI (ns.getD k 0) l < 0 then -1 else szGo (ns.drop (k + 1)) (szI (ns.getD k 0) l) := by
  rw [List.drop_eq_getElem_cons hk]
  simp [szGo, List.getD_eq_getElem?_getD, List.getElem?_eq_getElem hk]
theorem szI_le (n : Nat) (l : Int) (h : 0 ≤ l) : szI n l ≤ l := by unfold szI; split <;> omega
def lens (rs : List SlV) : List Nat := rs.map (·.n)
theorem lens_getD {rs : List SlV} {k : Nat} (hk : k < rs.length) : (lens rs).getD k 0 = (rg rs (k : Int)).n := by simp [lens, rg, List.getD_eq_getElem?_getD, List.getElem?_eq_getElem hk]

theorem szInt64SS_c (A : Option Addr) (n c : Nat) (rs : List SlV) (xss : List (List Int)) (left : Int) (w : World) (hR : RowsI w A n rs xss) (hn : n ≤ 9223372036854775807) (hl : 0 ≤ left ∧ left ≤ 1048576) : Ret Try.prog 60 [.slice A n c, .int .i64 left] w (fun v w' => v = .int .i64 (szSS (lens rs) left) ∧ w' = w) := by
  have hrl : (lens rs).length = n := by simp [lens, hR.top.1]
  refine Ret.of_cd Try.func60 rfl Try.ntmps60 rfl (post1 rfl) ?_
  refine Cd.seq ?_
  refine Cd.region ?_
  refine Ops.mv_int rfl rfl rfl ?_
  refine Ops.nil ?_
  refine thenQ_n ?_
  refine Cd.seq ?_
  refine Cd.region ?_
  refine Ops.mv_int rfl rfl rfl ?_
  refine Ops.mv_sl rfl rfl rfl ?_
  refine Ops.len rfl rfl ?_
  refine Ops.sub rfl rfl rfl (by omega) ?_
  refine Ops.mv_int rfl rfl rfl ?_
  refine Ops.nil ?_
  refine thenQ_n ?_
  refine Cd.seq ?_
  refine Cd.seq ?_
  refine Cd.region ?_
  refine Ops.mv_int rfl rfl rfl ?_
  refine Ops.lss rfl rfl rfl ?_
  refine Ops.nil ?_
  refine thenQ_n ?_
  -- stop: cond
  refine Cd.cond_p _ rfl (fun h => ?_) (fun h => ?_)
  · refine Cd.seq ?_
    refine Cd.region ?_
    refine Ops.mv_int rfl rfl rfl ?_
    refine Ops.nil ?_
    refine thenQ_n ?_
    refine Cd.ret ?_
    refine thenQ_r ?_
    refine ret1_i rfl ?_
    -- stop: end
    exact ⟨by simp [szSS, hrl, h], rfl⟩
  refine Cd.skip ?_
  refine thenQ_n ?_
  refine Cd.seq ?_
  refine Cd.seq ?_
  refine Cd.region ?_
  refine Ops.mv_int rfl rfl rfl ?_
  refine Ops.nil ?_
  refine thenQ_n ?_
  refine Cd.block ?_
  -- stop: loop
  refine Cd.loop (α := Nat × Int) (fun s => [(0, .slice A n c), (1, .int .i64 s.2), (5, .int .i64 (s.1 : Int))]) (fun s w' => w' = w ∧ s.1 ≤ n ∧ 0 ≤ s.2 ∧ s.2 ≤ 1048576 ∧ szGo ((lens rs).drop s.1) s.2 = szSS (lens rs) left) (fun s => n - s.1) (0, left - n) ⟨rfl, rfl, rfl, trivial⟩ ⟨rfl, Nat.zero_le _, by show 0 ≤ left - n; omega, by show left - n ≤ _; omega, by simp [szSS, hrl, h]⟩ ?_
  rintro ⟨k, l⟩ e w2 ⟨rfl, hk, h0, h1, hI⟩
  dsimp only at hk h0 h1 hI ⊢
  refine Cd.seq ?_
  refine Cd.seq ?_
  refine Cd.region ?_
  refine Ops.mv_int rfl rfl rfl ?_
  refine Ops.mv_sl rfl rfl rfl ?_
  refine Ops.len rfl rfl ?_
  refine Ops.lss rfl rfl rfl ?_
  refine Ops.nil ?_
  refine thenQ_n ?_
  -- stop: cond
  refine Cd.cond_p _ rfl (fun hlt => ?_) (fun hlt => ?_)
  · refine Cd.skip ?_
    refine thenQ_n ?_
    refine Cd.seq ?_
    refine Cd.block ?_
    refine Cd.seq ?_
    refine Cd.region ?_
    refine Ops.mv_sl rfl rfl rfl ?_
    refine Ops.mv_int rfl rfl rfl ?_
    -- stop: INDEXADDR 25 t18 t19 -> 20
    refine Ops.idx hR.top.2 rfl rfl rfl (by omega) hlt ?_
    refine Ops.ld_sl hR.top rfl (by omega) rfl rfl ?_
    refine Ops.mv_int rfl rfl rfl ?_
    -- stop: CALL laws.szInt64S(t21, t22) -> 23
    have hc := hR.cap_ (i := k) (by omega) hlt
    refine Ops.call (szInt64S_c _ _ _ _ _ (by omega) ⟨h0, h1⟩) rfl rfl rfl ?_
    rintro _ _ ⟨rfl, rfl⟩
    refine Ops.mv_int rfl rfl rfl ?_
    refine Ops.nil ?_
    refine thenQ_n ?_
    refine Cd.seq ?_
    refine Cd.region ?_
    refine Ops.mv_int rfl rfl rfl ?_
    refine Ops.lss rfl rfl rfl ?_
    refine Ops.nil ?_
    refine thenQ_n ?_
    -- stop: cond
    rw [szGo_drop (by omega), lens_getD (by rw [hR.top.1]; omega)] at hI
    have hle := szI_le (rg rs k).n l h0
    refine Cd.cond_p _ rfl (fun h2 => ?_) (fun h2 => ?_)
    · refine Cd.seq ?_
      refine Cd.region ?_
      refine Ops.mv_int rfl rfl rfl ?_
      refine Ops.nil ?_
      refine thenQ_n ?_
      refine Cd.ret ?_
      refine blockQ_r ?_
      refine thenQ_r ?_
      refine thenQ_r ?_
      refine blockQ_r ?_
      refine thenQ_r ?_
      refine ret1_i rfl ?_
      -- stop: end
      exact ⟨by rw [← hI, if_pos h2], rfl⟩
    · refine Cd.skip ?_
      refine blockQ_n ?_
      refine thenQ_n ?_
      refine Cd.region ?_
      refine Ops.mv_int rfl rfl rfl ?_
      refine Ops.add rfl rfl rfl (by omega) ?_
      refine Ops.mv_int rfl rfl rfl ?_
      refine Ops.nil ?_
      refine thenQ_n ?_
      -- stop: round
      exact ⟨(k + 1, szI (rg rs k).n l), by show n - (k + 1) < n - k; omega, ⟨rfl, rfl, rfl, trivial⟩, rfl, by show k + 1 ≤ n; omega, by show 0 ≤ szI _ _; omega, by show szI _ _ ≤ _; omega, by rw [← hI, if_neg h2]⟩
  · refine Cd.exit ?_
    refine thenQ_x ?_
    refine thenQ_x ?_
    refine blockQ_x ?_
    refine thenQ_n ?_
    refine Cd.seq ?_
    refine Cd.region ?_
    refine Ops.mv_int rfl rfl rfl ?_
    refine Ops.mv_int rfl rfl rfl ?_
    refine Ops.nil ?_
    refine thenQ_n ?_
    refine Cd.ret ?_
    refine ret1_i rfl ?_
    -- stop: end
    refine ⟨?_, rfl⟩
    rw [List.drop_of_length_le (by omega)] at hI
    rw [← hI]; rfl

theorem szManiplex_c (A : Option Addr) (n c : Nat) (rs : List SlV) (xss : List (List Int)) (left : Int) (w : World) (hR : RowsI w A n rs xss) (hn : n ≤ 9223372036854775807) (hl : 0 ≤ left ∧ left ≤ 1048576) : Ret Try.prog 22 [.agg #[.slice A n c], .int .i64 left] w (fun v w' => v = .int .i64 (szSS (lens rs) left) ∧ St w w' []) := by
  refine Ret.of_cd Try.func22 rfl Try.ntmps22 rfl (post1 rfl) ?_
  refine Cd.seq ?_
  refine Cd.region ?_
  -- stop: BOX 27 t0=a -> 2
  refine Ops.box1 (St.refl w) rfl rfl ?_
  intro Ab w1 hS
  refine Ops.mv_int rfl rfl rfl ?_
  refine Ops.nil ?_
  refine thenQ_n ?_
  refine Cd.seq ?_
  refine Cd.region ?_
  -- stop: FIELDADDR 27 t2=a 0 -> 5
  refine Ops.fld (hS.rd 0 rfl) rfl rfl rfl rfl inferInstance ?_
  skip
  -- stop: LOAD 25 t5 -> 6
  refine Ops.ldf_s (hS.rd 0 rfl) rfl rfl rfl rfl rfl ?_
  refine Ops.mv_int rfl rfl rfl ?_
  -- stop: CALL laws.szInt64SS(t6, t7) -> 8
  refine Ops.call (szInt64SS_c _ _ _ _ _ _ _ (hS.oldRows hR) hn hl) rfl rfl rfl ?_
  rintro _ _ ⟨rfl, rfl⟩
  refine Ops.mv_int rfl rfl rfl ?_
  refine Ops.nil ?_
  refine thenQ_n ?_
  refine Cd.seq ?_
  refine Cd.seq ?_
  refine Cd.region ?_
  refine Ops.mv_int rfl rfl rfl ?_
  refine Ops.lss rfl rfl rfl ?_
  refine Ops.nil ?_
  refine thenQ_n ?_
  -- stop: cond
  have hneg : szSS (lens rs) left < 0 → szSS (lens rs) left = -1 := by
    have key : ∀ (ns : List Nat) (l : Int), 0 ≤ l → szGo ns l < 0 → szGo ns l = -1 := by
      intro ns
      induction ns with
      | nil => intro l h0 h; simp [szGo] at h; omega
      | cons n r ih =>
        intro l h0
        simp only [szGo]
        split
        · intro _; rfl
        · exact ih _ (by omega)
    unfold szSS
    split
    · intro _; rfl
    · exact key _ _ (by omega)
  refine Cd.cond_p _ rfl (fun h => ?_) (fun h => ?_)
  · refine Cd.seq ?_
    refine Cd.region ?_
    refine Ops.mv_int rfl rfl rfl ?_
    refine Ops.nil ?_
    refine thenQ_n ?_
    refine Cd.ret ?_
    refine thenQ_r ?_
    refine ret1_i rfl ?_
    -- stop: end
    exact ⟨by rw [hneg h], hS.none⟩
  · refine Cd.skip ?_
    refine thenQ_n ?_
    refine Cd.seq ?_
    refine Cd.region ?_
    refine Ops.mv_int rfl rfl rfl ?_
    refine Ops.mv_int rfl rfl rfl ?_
    refine Ops.nil ?_
    refine thenQ_n ?_
    refine Cd.ret ?_
    refine ret1_i rfl ?_
    -- stop: end
    exact ⟨rfl, hS.none⟩

def fill {α : Type} (k : Nat) (xs : List α) (d : α) : List α := xs.take k ++ List.replicate (xs.length - k) d
theorem fill_zero {α : Type} (xs : List α) (d : α) : fill 0 xs d = List.replicate xs.length d := by simp [fill]
theorem fill_all {α : Type} (xs : List α) (d : α) : fill xs.length xs d = xs := by simp [fill]
theorem fill_set {α : Type} {k : Nat} {xs : List α} {d : α} (h : k < xs.length) : (fill k xs d).set k xs[k] = fill (k + 1) xs d := by
  have e : xs.length - k = (xs.length - (k + 1)) + 1 := by omega
  simp only [fill]
  rw [List.set_append_right _ _ (by simp; omega), e, List.replicate_succ, List.take_succ_eq_append_getElem h, List.append_assoc]
  have : k - (xs.take k).length = 0 := by simp [Nat.min_eq_left (Nat.le_of_lt h)]
  rw [this]; rfl
theorem fill_length {α : Type} {k : Nat} {xs : List α} {d : α} (h : k ≤ xs.length) : (fill k xs d).length = xs.length := by simp [fill]; omega

theorem toInt64S_c (A : Option Addr) (n c : Nat) (xs : List Int) (w : World) (hR : RdI w A n xs) (hn : 8 * n ≤ 281474976710656) : Ret Try.prog 32 [.slice A n c] w (fun v w' => ∃ A', v = .slice A' n n ∧ St w w' [CkI 2 A' n n xs]) := by
  have hl := hR.1
  subst hl
  refine Ret.of_cd Try.func32 rfl Try.ntmps32 rfl (post1 rfl) ?_
  refine Cd.seq ?_
  refine Cd.region ?_
  refine Ops.mv_sl rfl rfl rfl ?_
  refine Ops.nil ?_
  refine thenQ_n ?_
  refine Cd.seq ?_
  refine Cd.region ?_
  refine Ops.mv_sl rfl rfl rfl ?_
  refine Ops.len rfl rfl ?_
  -- stop: MAKESLICE 39 t6 t6 -> 7
  refine Ops.mkI xs.length (St.refl w) rfl rfl (by omega) ?_
  intro A1 w1 hS1
  refine Ops.mv_sl rfl rfl rfl ?_
  refine Ops.nil ?_
  refine thenQ_n ?_
  refine Cd.seq ?_
  refine Cd.seq ?_
  refine Cd.region ?_
  refine Ops.mv_int rfl rfl rfl ?_
  refine Ops.nil ?_
  refine thenQ_n ?_
  refine Cd.block ?_
  -- stop: loop
  refine Cd.loop (α := Nat) (fun k => [(0, .slice A xs.length c), (3, .slice A1 xs.length xs.length), (4, .int .i64 (k : Int))]) (fun k w' => St w w' [CkI 2 A1 xs.length xs.length (fill k xs 0)] ∧ k ≤ xs.length) (fun k => xs.length - k) 0 ⟨rfl, rfl, rfl, trivial⟩ ⟨by rw [fill_zero]; exact hS1, Nat.zero_le _⟩ ?_
  rintro k e w2 ⟨hS2, hk⟩
  refine Cd.seq ?_
  refine Cd.seq ?_
  refine Cd.region ?_
  refine Ops.mv_int rfl rfl rfl ?_
  refine Ops.mv_sl rfl rfl rfl ?_
  refine Ops.len rfl rfl ?_
  refine Ops.lss rfl rfl rfl ?_
  refine Ops.nil ?_
  refine thenQ_n ?_
  -- stop: cond
  refine Cd.cond_p _ rfl (fun h1 => ?_) (fun h1 => ?_)
  · refine Cd.skip ?_
    refine thenQ_n ?_
    refine Cd.seq ?_
    refine Cd.block ?_
    refine Cd.region ?_
    refine Ops.mv_sl rfl rfl rfl ?_
    refine Ops.mv_int rfl rfl rfl ?_
    refine Ops.mv_sl rfl rfl rfl ?_
    refine Ops.mv_int rfl rfl rfl ?_
    -- stop: INDEXADDR 39 t16 t17 -> 18
    refine Ops.idx (hS2.oldI hR).2 rfl rfl rfl (by omega) h1 ?_
    refine Ops.ld_int (hS2.oldI hR) rfl (by omega) rfl rfl ?_
    refine Ops.idx (hS2.rdI 0 rfl).2 rfl rfl rfl (by omega) h1 ?_
    refine Ops.st_int 0 hS2 rfl rfl rfl (by omega) ?_
    intro w3 hS3
    refine Ops.nil ?_
    refine blockQ_n ?_
    refine thenQ_n ?_
    refine Cd.region ?_
    refine Ops.mv_int rfl rfl rfl ?_
    refine Ops.add rfl rfl rfl (by omega) ?_
    refine Ops.mv_int rfl rfl rfl ?_
    refine Ops.nil ?_
    refine thenQ_n ?_
    -- stop: round
    have hk' : k < xs.length := by omega
    have e1 : (fill k xs 0).set (Int.toNat k) (gi xs k) = fill (k + 1) xs 0 := by rw [gi_mem hk', Int.toNat_natCast, fill_set hk']
    rw [show ([CkI 2 A1 xs.length xs.length (fill k xs 0)].set 0 (CkI 2 A1 xs.length xs.length ((fill k xs 0).set (Int.toNat k) (gi xs k)))) = [CkI 2 A1 xs.length xs.length (fill (k + 1) xs 0)] from by rw [e1]; rfl] at hS3
    exact ⟨k + 1, by omega, ⟨rfl, rfl, rfl, trivial⟩, hS3, hk'⟩
  · refine Cd.exit ?_
    refine thenQ_x ?_
    refine thenQ_x ?_
    refine blockQ_x ?_
    refine thenQ_n ?_
    refine Cd.seq ?_
    refine Cd.region ?_
    refine Ops.mv_sl rfl rfl rfl ?_
    refine Ops.mv_sl rfl rfl rfl ?_
    refine Ops.nil ?_
    refine thenQ_n ?_
    refine Cd.ret ?_
    refine ret1_s rfl ?_
    -- stop: end
    have : k = xs.length := by omega
    subst this
    rw [fill_all] at hS2
    exact ⟨A1, rfl, hS2⟩

theorem toInt64SS_c (A : Option Addr) (n c : Nat) (rs : List SlV) (xss : List (List Int)) (w : World) (hR : RowsI w A n rs xss) (hn : 24 * n ≤ 281474976710656) (hr : ∀ i, i < n → 8 * (rs.getD i slNil).n ≤ 281474976710656) :
    Ret Try.prog 63 [.slice A n c] w (fun v w' => ∃ A' rs', v = .slice A' n n ∧ rs'.length = n ∧ St w w' (mat 39 2 A' n n rs' xss)) := by
  refine Ret.of_cd Try.func63 rfl Try.ntmps63 rfl (post1 rfl) ?_
  refine Cd.seq ?_
  refine Cd.region ?_
  refine Ops.mv_sl rfl rfl rfl ?_
  refine Ops.nil ?_
  refine thenQ_n ?_
  refine Cd.seq ?_
  refine Cd.region ?_
  refine Ops.mv_sl rfl rfl rfl ?_
  refine Ops.len rfl rfl ?_
  -- stop: MAKESLICE 25 t6 t6 -> 7
  refine Ops.mkR n (St.refl w) rfl rfl (by omega) ?_
  intro A1 w1 hS1
  refine Ops.mv_sl rfl rfl rfl ?_
  refine Ops.nil ?_
  refine thenQ_n ?_
  refine Cd.seq ?_
  refine Cd.seq ?_
  refine Cd.region ?_
  refine Ops.mv_int rfl rfl rfl ?_
  refine Ops.nil ?_
  refine thenQ_n ?_
  refine Cd.block ?_
  -- stop: loop
  refine Cd.loop (α := Nat × List SlV) (fun s => [(0, .slice A n c), (3, .slice A1 n n), (4, .int .i64 (s.1 : Int))]) (fun s w' => St w w' (CkR 39 A1 n n (s.2 ++ List.replicate (n - s.1) slNil) :: rowsCk 2 s.2 (xss.take s.1)) ∧ s.1 ≤ n ∧ s.2.length = s.1) (fun s => n - s.1) (0, []) ⟨rfl, rfl, rfl, trivial⟩ ⟨hS1, Nat.zero_le _, rfl⟩ ?_
  rintro ⟨k, rs1⟩ e w2 ⟨hS2, hk, hlen⟩
  dsimp only at hS2 hk hlen ⊢
  refine Cd.seq ?_
  refine Cd.seq ?_
  refine Cd.region ?_
  refine Ops.mv_int rfl rfl rfl ?_
  refine Ops.mv_sl rfl rfl rfl ?_
  refine Ops.len rfl rfl ?_
  refine Ops.lss rfl rfl rfl ?_
  refine Ops.nil ?_
  refine thenQ_n ?_
  -- stop: cond
  refine Cd.cond_p _ rfl (fun h1 => ?_) (fun h1 => ?_)
  · refine Cd.skip ?_
    refine thenQ_n ?_
    refine Cd.seq ?_
    refine Cd.block ?_
    refine Cd.region ?_
    refine Ops.mv_sl rfl rfl rfl ?_
    refine Ops.mv_int rfl rfl rfl ?_
    refine Ops.mv_sl rfl rfl rfl ?_
    refine Ops.mv_int rfl rfl rfl ?_
    -- stop: INDEXADDR 25 t16 t17 -> 18
    refine Ops.idx (hS2.oldR hR.top).2 rfl rfl rfl (by omega) h1 ?_
    refine Ops.ld_sl (hS2.oldR hR.top) rfl (by omega) rfl rfl ?_
    refine Ops.call (toInt64S_c _ _ _ _ _ (hS2.oldI (hR.at_ (i := k) (by omega) h1)) (hr k (by omega))) rfl rfl rfl ?_
    rintro _ w3 ⟨A2, rfl, hS3⟩
    have hS3 := hS2.call hS3
    refine Ops.idx (hS3.rdR 1 rfl).2 rfl rfl rfl (by omega) h1 ?_
    refine Ops.st_sl 1 hS3 rfl rfl rfl (by omega) ?_
    intro w4 hS4
    refine Ops.nil ?_
    refine blockQ_n ?_
    refine thenQ_n ?_
    refine Cd.region ?_
    refine Ops.mv_int rfl rfl rfl ?_
    refine Ops.add rfl rfl rfl (by omega) ?_
    refine Ops.mv_int rfl rfl rfl ?_
    refine Ops.nil ?_
    refine thenQ_n ?_
    -- stop: round
    have hk' : k < n := by omega
    have hx : k < xss.length := by rw [hR.len]; exact hk'
    refine ⟨(k + 1, rs1 ++ [⟨A2, (rg rs k).n, (rg rs k).n⟩]), by show n - (k + 1) < n - k; omega, ⟨rfl, rfl, rfl, trivial⟩, ?_, hk', by simp [hlen]⟩
    show St w w4 (CkR _ A1 n n ((rs1 ++ [_]) ++ List.replicate (n - (k + 1)) slNil) :: rowsCk _ (rs1 ++ [_]) (xss.take (k + 1)))
    have e1 : (rs1 ++ List.replicate (n - k) slNil).set (Int.toNat k) ⟨A2, (rg rs k).n, (rg rs k).n⟩ = (rs1 ++ [⟨A2, (rg rs k).n, (rg rs k).n⟩]) ++ List.replicate (n - (k + 1)) slNil := by
      rw [Int.toNat_natCast, List.set_append_right _ _ (by omega), show n - k = (n - (k + 1)) + 1 by omega, List.replicate_succ, show k - rs1.length = 0 by omega]
      simp
    have e2 : gl xss k = xss[k] := by simp [gl, List.getD_eq_getElem?_getD, List.getElem?_eq_getElem hx]
    rw [List.take_succ_eq_append_getElem hx, rowsCk_append (by simp [hlen]; omega)]
    have h5 : St w w4 (CkI 2 A2 (rg rs k).n (rg rs k).n (gl xss k) :: CkR 39 A1 n n ((rs1 ++ List.replicate (n - k) slNil).set (Int.toNat k) ⟨A2, (rg rs k).n, (rg rs k).n⟩) :: rowsCk 2 rs1 (xss.take k)) := hS4
    rw [e1, e2] at h5
    refine h5.perm ?_
    refine (List.Perm.swap _ _ _).trans (List.Perm.cons _ ?_)
    exact List.perm_append_comm (l₁ := [_])
  · refine Cd.exit ?_
    refine thenQ_x ?_
    refine thenQ_x ?_
    refine blockQ_x ?_
    refine thenQ_n ?_
    refine Cd.seq ?_
    refine Cd.region ?_
    refine Ops.mv_sl rfl rfl rfl ?_
    refine Ops.mv_sl rfl rfl rfl ?_
    refine Ops.nil ?_
    refine thenQ_n ?_
    refine Cd.ret ?_
    refine ret1_s rfl ?_
    -- stop: end
    have : k = n := by omega
    subst this
    rw [Nat.sub_self, List.replicate_zero, List.append_nil, ← hR.len, List.take_length] at hS2
    exact ⟨A1, rs1, rfl, hlen, by rw [← hR.len]; exact hS2⟩

/-- sizes that copies bear -/
def Fits (n : Nat) (rs : List SlV) : Prop := 24 * n ≤ 281474976710656 ∧ ∀ i, i < n → 8 * (rs.getD i slNil).n ≤ 281474976710656

theorem toManiplex_c (A : Option Addr) (n c : Nat) (rs : List SlV) (xss : List (List Int)) (w : World) (hR : RowsI w A n rs xss) (hn : Fits n rs) :
    Ret Try.prog 24 [.agg #[.slice A n c]] w (fun v w' => ∃ A' rs', v = .agg #[.slice A' n n] ∧ rs'.length = n ∧ St w w' (mat 39 2 A' n n rs' xss)) := by
  refine Ret.of_cd Try.func24 rfl Try.ntmps24 rfl (postc rfl rfl) ?_
  refine Cd.seq ?_
  refine Cd.region ?_
  -- stop: BOX 27 t0=a -> 1
  refine Ops.box1 (St.refl w) rfl rfl ?_
  intro A1 w1 hS1
  refine Ops.new1 hS1 rfl ?_
  intro A2 w2 hS2
  refine Ops.nil ?_
  refine thenQ_n ?_
  refine Cd.seq ?_
  refine Cd.region ?_
  -- stop: ALLOC 32 -> 3
  refine Ops.new1 hS2 rfl ?_
  intro A3 w3 hS3
  refine Ops.nil ?_
  refine thenQ_n ?_
  refine Cd.seq ?_
  refine Cd.region ?_
  -- stop: FIELDADDR 27 t1=a 0 -> 4
  refine Ops.fld (hS3.rd 2 rfl) rfl rfl rfl rfl inferInstance ?_
  refine Ops.ldf_s (hS3.rd 2 rfl) rfl rfl rfl rfl rfl ?_
  refine Ops.call (toInt64SS_c _ _ _ _ _ _ (hS3.oldRows hR) hn.1 hn.2) rfl rfl rfl ?_
  rintro _ w4 ⟨A4, rs', rfl, hl, hS4⟩
  have hS4 := hS3.call2 hS4
  refine Ops.fld (hS4.rd 0 rfl) rfl rfl rfl rfl inferInstance ?_
  refine Ops.stf 0 hS4 rfl rfl rfl rfl rfl ?_
  intro w5 hS5
  have hS5 : St w w5 ([Bx 32 1 A3 [.slice A4 n n], Bx 32 1 A2 [.slice none 0 0], Bx 27 1 A1 [.slice A n c]] ++ mat 39 2 A4 n n rs' xss) := hS5
  refine Ops.nil ?_
  refine thenQ_n ?_
  refine Cd.seq ?_
  refine Cd.region ?_
  -- stop: LOAD 32 t3=out -> 8
  refine Ops.ld_agg 0 (hS5.rd 0 rfl) rfl rfl rfl ?_
  refine Ops.st_agg 1 1 hS5 rfl rfl rfl rfl rfl rfl rfl ?_
  intro w6 hS6
  have hS6 : St w w6 ([Bx 32 1 A3 [.slice A4 n n], Bx 32 1 A2 [.slice A4 n n], Bx 27 1 A1 [.slice A n c]] ++ mat 39 2 A4 n n rs' xss) := hS6
  refine Ops.nil ?_
  refine thenQ_n ?_
  refine Cd.ret ?_
  skip
  -- stop: end
  refine retc_r rfl (hS6.rd 1 rfl) ?_
  exact ⟨A4, rs', rfl, hl, hS6.sub (List.sublist_append_right _ _)⟩

theorem eqInt64S_c (A : Option Addr) (n c : Nat) (xs : List Int) (A' : Option Addr) (n' c' : Nat) (ys : List Int) (w : World) (hR : RdI w A n xs) (hR' : RdI w A' n' ys) (hn : n ≤ 9223372036854775807) :
    Ret Try.prog 26 [.slice A n c, .slice A' n' c'] w (fun v w' => v = .bool (decide (xs = ys)) ∧ St w w' []) := by
  have hl := hR.1
  have hl' := hR'.1
  subst hl
  subst hl'
  refine Ret.of_cd Try.func26 rfl Try.ntmps26 rfl (post1 rfl) ?_
  refine Cd.seq ?_
  refine Cd.region ?_
  refine Ops.mv_bool rfl rfl rfl ?_
  refine Ops.nil ?_
  refine thenQ_n ?_
  refine Cd.seq ?_
  refine Cd.seq ?_
  refine Cd.region ?_
  refine Ops.mv_sl rfl rfl rfl ?_
  refine Ops.len rfl rfl ?_
  refine Ops.mv_sl rfl rfl rfl ?_
  refine Ops.len rfl rfl ?_
  refine Ops.neq rfl rfl rfl ?_
  refine Ops.nil ?_
  refine thenQ_n ?_
  -- stop: cond
  refine Cd.cond_p _ rfl (fun h => ?_) (fun h => ?_)
  · refine Cd.seq ?_
    refine Cd.region ?_
    refine Ops.mv_bool rfl rfl rfl ?_
    refine Ops.nil ?_
    refine thenQ_n ?_
    refine Cd.ret ?_
    refine thenQ_r ?_
    refine ret1_b rfl ?_
    -- stop: end
    exact ⟨by rw [decide_eq_false (fun e : xs = ys => h (by rw [e]))], St.refl _⟩
  refine Cd.skip ?_
  refine thenQ_n ?_
  refine Cd.seq ?_
  refine Cd.seq ?_
  refine Cd.region ?_
  refine Ops.mv_int rfl rfl rfl ?_
  refine Ops.nil ?_
  refine thenQ_n ?_
  refine Cd.block ?_
  -- stop: loop
  refine Cd.loop (α := Nat) (fun k => [(0, .slice A xs.length c), (1, .slice A' ys.length c'), (5, .int .i64 (k : Int))]) (fun k w' => St w w' [] ∧ k ≤ xs.length ∧ xs.take k = ys.take k) (fun k => xs.length - k) 0 ⟨rfl, rfl, rfl, trivial⟩ ⟨St.refl w, Nat.zero_le _, rfl⟩ ?_
  rintro k e w2 ⟨hS2, hk, hI⟩
  have hle : xs.length = ys.length := by omega
  refine Cd.seq ?_
  refine Cd.seq ?_
  refine Cd.region ?_
  refine Ops.mv_int rfl rfl rfl ?_
  refine Ops.mv_sl rfl rfl rfl ?_
  refine Ops.len rfl rfl ?_
  refine Ops.lss rfl rfl rfl ?_
  refine Ops.nil ?_
  refine thenQ_n ?_
  -- stop: cond
  refine Cd.cond_p _ rfl (fun h1 => ?_) (fun h1 => ?_)
  · have hA := hS2.oldI hR
    have hB := hS2.oldI hR'
    have h2 : (k : Int) < ys.length := by omega
    have hx := gi_mem (p := xs) (k := k) (by omega)
    have hy := gi_mem (p := ys) (k := k) (by omega)
    refine Cd.skip ?_
    refine thenQ_n ?_
    refine Cd.seq ?_
    refine Cd.block ?_
    refine Cd.seq ?_
    -- stop: draw
    refine Cd.draw [.ex (.slice (A) (xs.length) (c)), .ex (.int .i64 ((k : Int))), .ex (.pointer (ptrAt (A) ((k : Int)).toNat)), .ex (.int .i64 (gi (xs) ((k : Int)))), .ex (.slice (A') (ys.length) (c')), .ex (.int .i64 ((k : Int))), .ex (.pointer (ptrAt (A') ((k : Int)).toNat)), .ex (.int .i64 (gi (ys) ((k : Int)))), .ex (.bool (decide (¬ (gi (xs) ((k : Int))) = (gi (ys) ((k : Int))))))] (by kernel_rfl) (by kernel_rfl) rfl (List.forall_mem_cons.2 ⟨Yd.lasts_ex _, (List.forall_mem_cons.2 ⟨Yd.lasts_ex _, (List.forall_mem_cons.2 ⟨Yd.lasts_ex _, (List.forall_mem_cons.2 ⟨Yd.lasts_ex _, (List.forall_mem_cons.2 ⟨Yd.lasts_ex _, (List.forall_mem_cons.2 ⟨Yd.lasts_ex _, (List.forall_mem_cons.2 ⟨Yd.lasts_ex _, (List.forall_mem_cons.2 ⟨Yd.lasts_ex _, (List.forall_mem_cons.2 ⟨Yd.lasts_ex _, (fun _ h => by cases h)⟩)⟩)⟩)⟩)⟩)⟩)⟩)⟩)⟩) ⟨?_, ?_, ?_, ?_, ?_, ?_, ?_, ?_, ?_, trivial⟩ ?_
    · intro e1 w1 hb hp hun
      refine Ops.mv_sl rfl rfl rfl ?_
      refine Ops.nil ?_
      exact After.dn (Below.refl _ _) (by exact rfl)
    · intro e1 w1 hb hp hun
      refine Ops.mv_int rfl rfl rfl ?_
      refine Ops.nil ?_
      exact After.dn (Below.refl _ _) (by exact rfl)
    · intro e1 w1 hb hp hun
      refine Ops.idx (hA.later hb).2 rfl rfl rfl (by omega) (by omega) ?_
      refine Ops.nil ?_
      exact After.dn (Below.refl _ _) (by exact rfl)
    · intro e1 w1 hb hp hun
      refine Ops.ld_int (hA.later hb) rfl (by omega) rfl rfl ?_
      refine Ops.nil ?_
      exact After.dn (Below.refl _ _) (by exact rfl)
    · intro e1 w1 hb hp hun
      refine Ops.mv_sl rfl rfl rfl ?_
      refine Ops.nil ?_
      exact After.dn (Below.refl _ _) (by exact rfl)
    · intro e1 w1 hb hp hun
      refine Ops.mv_int rfl rfl rfl ?_
      refine Ops.nil ?_
      exact After.dn (Below.refl _ _) (by exact rfl)
    · intro e1 w1 hb hp hun
      refine Ops.idx (hB.later hb).2 rfl rfl rfl (by omega) (by omega) ?_
      refine Ops.nil ?_
      exact After.dn (Below.refl _ _) (by exact rfl)
    · intro e1 w1 hb hp hun
      refine Ops.ld_int (hB.later hb) rfl (by omega) rfl rfl ?_
      refine Ops.nil ?_
      exact After.dn (Below.refl _ _) (by exact rfl)
    · intro e1 w1 hb hp hun
      refine Ops.neq rfl rfl rfl ?_
      refine Ops.nil ?_
      exact After.dn (Below.refl _ _) (by exact rfl)
    intro u w3 hb3 _
    have hS3 := hS2.later hb3
    refine thenQ_n ?_
    -- stop: cond
    refine Cd.cond_p _ rfl (fun h3 => ?_) (fun h3 => ?_)
    · refine Cd.seq ?_
      refine Cd.region ?_
      refine Ops.mv_bool rfl rfl rfl ?_
      refine Ops.nil ?_
      refine thenQ_n ?_
      refine Cd.ret ?_
      refine blockQ_r ?_
      refine thenQ_r ?_
      refine thenQ_r ?_
      refine blockQ_r ?_
      refine thenQ_r ?_
      refine ret1_b rfl ?_
      -- stop: end
      refine ⟨by rw [decide_eq_false (fun e : xs = ys => h3 (by rw [e]))], hS3⟩
    · refine Cd.skip ?_
      refine blockQ_n ?_
      refine thenQ_n ?_
      refine Cd.region ?_
      refine Ops.mv_int rfl rfl rfl ?_
      refine Ops.add rfl rfl rfl (by omega) ?_
      refine Ops.mv_int rfl rfl rfl ?_
      refine Ops.nil ?_
      refine thenQ_n ?_
      -- stop: round
      refine ⟨k + 1, by omega, ⟨rfl, rfl, rfl, trivial⟩, hS3, by omega, ?_⟩
      rw [take_succ_gi (by omega), take_succ_gi (by omega), hI, Classical.not_not.1 h3]
  · refine Cd.exit ?_
    refine thenQ_x ?_
    refine thenQ_x ?_
    refine blockQ_x ?_
    refine thenQ_n ?_
    refine Cd.seq ?_
    refine Cd.region ?_
    refine Ops.mv_bool rfl rfl rfl ?_
    refine Ops.nil ?_
    refine thenQ_n ?_
    refine Cd.ret ?_
    refine ret1_b rfl ?_
    -- stop: end
    refine ⟨?_, hS2⟩
    rw [List.take_of_length_le (by omega), List.take_of_length_le (by omega)] at hI
    rw [decide_eq_true hI]

theorem gl_mem {p : List (List Int)} {k : Nat} (h : k < p.length) : gl p k = p[k] := by simp [gl, List.getD_eq_getElem?_getD, List.getElem?_eq_getElem h]
theorem take_succ_gl {p : List (List Int)} {k : Nat} (h : k < p.length) : p.take (k + 1) = p.take k ++ [gl p k] := by rw [gl_mem h, List.take_succ_eq_append_getElem h]

theorem eqInt64SS_c (A : Option Addr) (n c : Nat) (rs : List SlV) (xs : List (List Int)) (A' : Option Addr) (n' c' : Nat) (rs' : List SlV) (ys : List (List Int)) (w : World) (hR : RowsI w A n rs xs) (hR' : RowsI w A' n' rs' ys) (hn : n ≤ 9223372036854775807) :
    Ret Try.prog 40 [.slice A n c, .slice A' n' c'] w (fun v w' => v = .bool (decide (xs = ys)) ∧ St w w' []) := by
  have hl := hR.len
  have hl' := hR'.len
  subst hl
  subst hl'
  refine Ret.of_cd Try.func40 rfl Try.ntmps40 rfl (post1 rfl) ?_
  refine Cd.seq ?_
  refine Cd.region ?_
  refine Ops.mv_bool rfl rfl rfl ?_
  refine Ops.nil ?_
  refine thenQ_n ?_
  refine Cd.seq ?_
  refine Cd.seq ?_
  refine Cd.region ?_
  refine Ops.mv_sl rfl rfl rfl ?_
  refine Ops.len rfl rfl ?_
  refine Ops.mv_sl rfl rfl rfl ?_
  refine Ops.len rfl rfl ?_
  refine Ops.neq rfl rfl rfl ?_
  refine Ops.nil ?_
  refine thenQ_n ?_
  -- stop: cond
  refine Cd.cond_p _ rfl (fun h => ?_) (fun h => ?_)
  · refine Cd.seq ?_
    refine Cd.region ?_
    refine Ops.mv_bool rfl rfl rfl ?_
    refine Ops.nil ?_
    refine thenQ_n ?_
    refine Cd.ret ?_
    refine thenQ_r ?_
    refine ret1_b rfl ?_
    -- stop: end
    exact ⟨by rw [decide_eq_false (fun e : xs = ys => h (by rw [e]))], St.refl _⟩
  refine Cd.skip ?_
  refine thenQ_n ?_
  refine Cd.seq ?_
  refine Cd.seq ?_
  refine Cd.region ?_
  refine Ops.mv_int rfl rfl rfl ?_
  refine Ops.nil ?_
  refine thenQ_n ?_
  refine Cd.block ?_
  -- stop: loop
  refine Cd.loop (α := Nat) (fun k => [(0, .slice A xs.length c), (1, .slice A' ys.length c'), (5, .int .i64 (k : Int))]) (fun k w' => St w w' [] ∧ k ≤ xs.length ∧ xs.take k = ys.take k) (fun k => xs.length - k) 0 ⟨rfl, rfl, rfl, trivial⟩ ⟨St.refl w, Nat.zero_le _, rfl⟩ ?_
  rintro k e w2 ⟨hS2, hk, hI⟩
  have hle : xs.length = ys.length := by omega
  refine Cd.seq ?_
  refine Cd.seq ?_
  refine Cd.region ?_
  refine Ops.mv_int rfl rfl rfl ?_
  refine Ops.mv_sl rfl rfl rfl ?_
  refine Ops.len rfl rfl ?_
  refine Ops.lss rfl rfl rfl ?_
  refine Ops.nil ?_
  refine thenQ_n ?_
  -- stop: cond
  refine Cd.cond_p _ rfl (fun h1 => ?_) (fun h1 => ?_)
  · have hA := hS2.oldRows hR
    have hB := hS2.oldRows hR'
    have hAt := hA.top
    have hBt := hB.top
    have h2 : (k : Int) < ys.length := by omega
    have hx := gl_mem (p := xs) (k := k) (by omega)
    have hy := gl_mem (p := ys) (k := k) (by omega)
    have ha := hA.at_ (i := k) (by omega) h1
    have hb' := hB.at_ (i := k) (by omega) h2
    have hc := hA.cap_ (i := k) (by omega) h1
    refine Cd.skip ?_
    refine thenQ_n ?_
    refine Cd.seq ?_
    refine Cd.block ?_
    refine Cd.seq ?_
    -- stop: draw
    refine Cd.draw [.ex (.slice (A) (xs.length) (c)), .ex (.int .i64 ((k : Int))), .ex (.pointer (ptrAt (A) ((k : Int)).toNat)), .ex (.slice ((rg (rs) ((k : Int))).a) ((rg (rs) ((k : Int))).n) ((rg (rs) ((k : Int))).c)), .ex (.slice (A') (ys.length) (c')), .ex (.int .i64 ((k : Int))), .ex (.pointer (ptrAt (A') ((k : Int)).toNat)), .ex (.slice ((rg (rs') ((k : Int))).a) ((rg (rs') ((k : Int))).n) ((rg (rs') ((k : Int))).c)), .ex (.bool (decide (gl xs k = gl ys k))), .ex (.bool (decide (¬ (gl xs k = gl ys k))))] (by kernel_rfl) (by kernel_rfl) rfl (List.forall_mem_cons.2 ⟨Yd.lasts_ex _, (List.forall_mem_cons.2 ⟨Yd.lasts_ex _, (List.forall_mem_cons.2 ⟨Yd.lasts_ex _, (List.forall_mem_cons.2 ⟨Yd.lasts_ex _, (List.forall_mem_cons.2 ⟨Yd.lasts_ex _, (List.forall_mem_cons.2 ⟨Yd.lasts_ex _, (List.forall_mem_cons.2 ⟨Yd.lasts_ex _, (List.forall_mem_cons.2 ⟨Yd.lasts_ex _, (List.forall_mem_cons.2 ⟨Yd.lasts_ex _, (List.forall_mem_cons.2 ⟨Yd.lasts_ex _, (fun _ h => by cases h)⟩)⟩)⟩)⟩)⟩)⟩)⟩)⟩)⟩)⟩) ⟨?_, ?_, ?_, ?_, ?_, ?_, ?_, ?_, ?_, ?_, trivial⟩ ?_
    · intro e1 w1 hb hp hun
      refine Ops.mv_sl rfl rfl rfl ?_
      refine Ops.nil ?_
      exact After.dn (Below.refl _ _) (by exact rfl)
    · intro e1 w1 hb hp hun
      refine Ops.mv_int rfl rfl rfl ?_
      refine Ops.nil ?_
      exact After.dn (Below.refl _ _) (by exact rfl)
    · intro e1 w1 hb hp hun
      refine Ops.idx (hAt.later hb).2 rfl rfl rfl (by omega) (by omega) ?_
      refine Ops.nil ?_
      exact After.dn (Below.refl _ _) (by exact rfl)
    · intro e1 w1 hb hp hun
      refine Ops.ld_sl (hAt.later hb) rfl (by omega) rfl rfl ?_
      refine Ops.nil ?_
      exact After.dn (Below.refl _ _) (by exact rfl)
    · intro e1 w1 hb hp hun
      refine Ops.mv_sl rfl rfl rfl ?_
      refine Ops.nil ?_
      exact After.dn (Below.refl _ _) (by exact rfl)
    · intro e1 w1 hb hp hun
      refine Ops.mv_int rfl rfl rfl ?_
      refine Ops.nil ?_
      exact After.dn (Below.refl _ _) (by exact rfl)
    · intro e1 w1 hb hp hun
      refine Ops.idx (hBt.later hb).2 rfl rfl rfl (by omega) (by omega) ?_
      refine Ops.nil ?_
      exact After.dn (Below.refl _ _) (by exact rfl)
    · intro e1 w1 hb hp hun
      refine Ops.ld_sl (hBt.later hb) rfl (by omega) rfl rfl ?_
      refine Ops.nil ?_
      exact After.dn (Below.refl _ _) (by exact rfl)
    · intro e1 w1 hb hp hun
      refine Ops.call (eqInt64S_c _ _ _ _ _ _ _ _ _ (ha.later hb) (hb'.later hb) (by omega)) rfl rfl rfl ?_
      rintro _ w2 ⟨rfl, hst⟩
      refine Ops.nil ?_
      exact After.dn hst.below (by exact rfl)
    · intro e1 w1 hb hp hun
      refine Ops.not_p rfl rfl ?_
      refine Ops.nil ?_
      exact After.dn (Below.refl _ _) (by exact rfl)
    intro u w3 hb3 _
    have hS3 := hS2.later hb3
    refine thenQ_n ?_
    -- stop: cond
    refine Cd.cond_p _ rfl (fun h3 => ?_) (fun h3 => ?_)
    · refine Cd.seq ?_
      refine Cd.region ?_
      refine Ops.mv_bool rfl rfl rfl ?_
      refine Ops.nil ?_
      refine thenQ_n ?_
      refine Cd.ret ?_
      refine blockQ_r ?_
      refine thenQ_r ?_
      refine thenQ_r ?_
      refine blockQ_r ?_
      refine thenQ_r ?_
      refine ret1_b rfl ?_
      -- stop: end
      refine ⟨by rw [decide_eq_false (fun e : xs = ys => h3 (by rw [e]))], hS3⟩
    · refine Cd.skip ?_
      refine blockQ_n ?_
      refine thenQ_n ?_
      refine Cd.region ?_
      refine Ops.mv_int rfl rfl rfl ?_
      refine Ops.add rfl rfl rfl (by omega) ?_
      refine Ops.mv_int rfl rfl rfl ?_
      refine Ops.nil ?_
      refine thenQ_n ?_
      -- stop: round
      refine ⟨k + 1, by omega, ⟨rfl, rfl, rfl, trivial⟩, hS3, by omega, ?_⟩
      rw [take_succ_gl (by omega), take_succ_gl (by omega), hI, Classical.not_not.1 h3]
  · refine Cd.exit ?_
    refine thenQ_x ?_
    refine thenQ_x ?_
    refine blockQ_x ?_
    refine thenQ_n ?_
    refine Cd.seq ?_
    refine Cd.region ?_
    refine Ops.mv_bool rfl rfl rfl ?_
    refine Ops.nil ?_
    refine thenQ_n ?_
    refine Cd.ret ?_
    refine ret1_b rfl ?_
    -- stop: end
    refine ⟨?_, hS2⟩
    rw [List.take_of_length_le (by omega), List.take_of_length_le (by omega)] at hI
    rw [decide_eq_true hI]

theorem eqManiplex_c (A : Option Addr) (n c : Nat) (rs : List SlV) (xs : List (List Int)) (A' : Option Addr) (n' c' : Nat) (rs' : List SlV) (ys : List (List Int)) (w : World) (hR : RowsI w A n rs xs) (hR' : RowsI w A' n' rs' ys) (hn : n ≤ 9223372036854775807) :
    Ret Try.prog 27 [.agg #[.slice A n c], .agg #[.slice A' n' c']] w (fun v w' => v = .bool (decide (xs = ys)) ∧ St w w' []) := by
  refine Ret.of_cd Try.func27 rfl Try.ntmps27 rfl (post1 rfl) ?_
  refine Cd.seq ?_
  refine Cd.region ?_
  -- stop: BOX 32 t0=a -> 2
  refine Ops.box1 (St.refl w) rfl rfl ?_
  intro A1 w1 hS1
  refine Ops.box1 hS1 rfl rfl ?_
  intro A2 w2 hS2
  refine Ops.mv_bool rfl rfl rfl ?_
  refine Ops.nil ?_
  refine thenQ_n ?_
  refine Cd.seq ?_
  refine Cd.seq ?_
  refine Cd.region ?_
  -- stop: FIELDADDR 32 t2=a 0 -> 5
  refine Ops.fld (hS2.rd 1 rfl) rfl rfl rfl rfl inferInstance ?_
  refine Ops.ldf_s (hS2.rd 1 rfl) rfl rfl rfl rfl rfl ?_
  refine Ops.fld (hS2.rd 0 rfl) rfl rfl rfl rfl inferInstance ?_
  refine Ops.ldf_s (hS2.rd 0 rfl) rfl rfl rfl rfl rfl ?_
  refine Ops.call (eqInt64SS_c _ _ _ _ _ _ _ _ _ _ _ (hS2.oldRows hR) (hS2.oldRows hR') hn) rfl rfl rfl ?_
  rintro _ w3 ⟨rfl, hS3⟩
  have hS3 := hS2.call hS3
  first | refine Ops.not_p rfl rfl ?_ | refine Ops.not rfl rfl ?_
  refine Ops.nil ?_
  refine thenQ_n ?_
  -- stop: cond
  refine Cd.cond_p _ rfl (fun h3 => ?_) (fun h3 => ?_)
  · refine Cd.seq ?_
    refine Cd.region ?_
    refine Ops.mv_bool rfl rfl rfl ?_
    refine Ops.nil ?_
    refine thenQ_n ?_
    refine Cd.ret ?_
    refine thenQ_r ?_
    refine ret1_b rfl ?_
    -- stop: end
    exact ⟨by rw [decide_eq_false h3], hS3.none⟩
  · refine Cd.skip ?_
    refine thenQ_n ?_
    refine Cd.seq ?_
    refine Cd.region ?_
    refine Ops.mv_bool rfl rfl rfl ?_
    refine Ops.nil ?_
    refine thenQ_n ?_
    refine Cd.ret ?_
    refine ret1_b rfl ?_
    -- stop: end
    exact ⟨by rw [decide_eq_true (Classical.not_not.1 h3)], hS3.none⟩
end Go.Proofs.Ytpdhjnacnmfbjaa.Vc
/-
  The walks of the small functions of the first two layers. Conditions: as each states them.
-/
namespace Go.Proofs.Ytpdhjnacnmfbjaa.Vc
open Go.RowKit

theorem sizeI_c (A : Option Addr) (n c : Nat) (w : World) : Ret Try.prog 96 [.slice A n c] w (fun v w' => v = .int .i64 (n : Int) ∧ w' = w) := by
  refine Ret.of_cd Try.func96 rfl Try.ntmps96 rfl (post1 rfl) ?_
  refine Cd.seq ?_
  refine Cd.region ?_
  refine Ops.mv_int rfl rfl rfl ?_
  refine Ops.nil ?_
  refine thenQ_n ?_
  refine Cd.seq ?_
  refine Cd.region ?_
  refine Ops.mv_sl rfl rfl rfl ?_
  refine Ops.len rfl rfl ?_
  refine Ops.mv_int rfl rfl rfl ?_
  refine Ops.nil ?_
  refine thenQ_n ?_
  refine Cd.ret ?_
  refine ret1_i rfl ?_
  -- stop: end
  exact ⟨rfl, rfl⟩
theorem sizeR_c (A : Option Addr) (n c : Nat) (w : World) : Ret Try.prog 81 [.slice A n c] w (fun v w' => v = .int .i64 (n : Int) ∧ w' = w) := by
  refine Ret.of_cd Try.func81 rfl Try.ntmps81 rfl (post1 rfl) ?_
  refine Cd.seq ?_
  refine Cd.region ?_
  refine Ops.mv_int rfl rfl rfl ?_
  refine Ops.nil ?_
  refine thenQ_n ?_
  refine Cd.seq ?_
  refine Cd.region ?_
  refine Ops.mv_sl rfl rfl rfl ?_
  refine Ops.len rfl rfl ?_
  refine Ops.mv_int rfl rfl rfl ?_
  refine Ops.nil ?_
  refine thenQ_n ?_
  refine Cd.ret ?_
  refine ret1_i rfl ?_
  -- stop: end
  exact ⟨rfl, rfl⟩

theorem isPermutation_c (A : Option Addr) (n c : Nat) (p : List Int) (w : World) (hR : RdI w A n p) : Ret Try.prog 101 [.slice A n c] w (fun v w' => v = .bool (decide (IsPerm p)) ∧ St w w' []) := by
  have hl := hR.1
  subst hl
  refine Ret.of_cd Try.func101 rfl Try.ntmps101 rfl (post1 rfl) ?_
  refine Cd.seq ?_
  refine Cd.region ?_
  refine Ops.mv_bool rfl rfl rfl ?_
  refine Ops.nil ?_
  refine thenQ_n ?_
  refine Cd.seq ?_
  refine Cd.seq ?_
  refine Cd.region ?_
  refine Ops.mv_sl rfl rfl rfl ?_
  refine Ops.len rfl rfl ?_
  refine Ops.gtr rfl rfl rfl ?_
  refine Ops.nil ?_
  refine thenQ_n ?_
  -- stop: cond
  refine Cd.cond_p _ rfl (fun h => ?_) (fun h => ?_)
  · refine Cd.seq ?_
    refine Cd.region ?_
    refine Ops.mv_bool rfl rfl rfl ?_
    refine Ops.nil ?_
    refine thenQ_n ?_
    refine Cd.ret ?_
    refine thenQ_r ?_
    refine ret1_b rfl ?_
    -- stop: end
    exact ⟨by rw [decide_eq_false (fun hp : IsPerm p => by have := hp.1; omega)], St.refl _⟩
  refine Cd.skip ?_
  refine thenQ_n ?_
  refine Cd.seq ?_
  refine Cd.region ?_
  refine Ops.mv_sl rfl rfl rfl ?_
  refine Ops.len rfl rfl ?_
  -- stop: MAKESLICE 86 t10 t10 -> 11
  refine Ops.mkB p.length (St.refl w) rfl rfl (by omega) ?_
  intro A1 w1 hS1
  refine Ops.mv_sl rfl rfl rfl ?_
  refine Ops.nil ?_
  refine thenQ_n ?_
  refine Cd.seq ?_
  refine Cd.seq ?_
  refine Cd.region ?_
  refine Ops.mv_sl rfl rfl rfl ?_
  refine Ops.len rfl rfl ?_
  refine Ops.mv_int rfl rfl rfl ?_
  refine Ops.nil ?_
  refine thenQ_n ?_
  refine Cd.block ?_
  -- stop: loop
  refine Cd.loop (α := Nat × List Bool) (fun s => [(0, .slice A p.length c), (3, .slice A1 p.length p.length), (12, .slice A p.length c), (13, .int .i64 (p.length : Int)), (14, .int .i64 (s.1 : Int))]) (fun s w' => St w w' [CkB 4 A1 p.length p.length s.2] ∧ s.1 ≤ p.length ∧ Seen p s.1 s.2) (fun s => p.length - s.1) (0, List.replicate p.length false) ⟨rfl, rfl, rfl, rfl, rfl, trivial⟩ ⟨hS1, Nat.zero_le _, Seen.zero p⟩ ?_
  rintro ⟨k, S⟩ e w2 ⟨hS2, hk, hI⟩
  dsimp only at hS2 hk hI ⊢
  refine Cd.seq ?_
  refine Cd.region ?_
  refine Ops.lss rfl rfl rfl ?_
  refine Ops.nil ?_
  refine thenQ_n ?_
  refine Cd.seq ?_
  -- stop: cond
  refine Cd.cond_p _ rfl (fun h1 => ?_) (fun h1 => ?_)
  · refine Cd.skip ?_
    refine thenQ_n ?_
    refine Cd.seq ?_
    refine Cd.block ?_
    refine Cd.seq ?_
    refine Cd.region ?_
    -- stop: INDEXADDR 39 t12 t14 -> 16
    refine Ops.idx (hS2.oldI hR).2 rfl rfl rfl (by omega) h1 ?_
    refine Ops.ld_int (hS2.oldI hR) rfl (by omega) rfl rfl ?_
    refine Ops.mv_int rfl rfl rfl ?_
    refine Ops.nil ?_
    refine thenQ_n ?_
    refine Cd.seq ?_
    refine Cd.seq ?_
    refine Cd.region ?_
    refine Ops.mv_int rfl rfl rfl ?_
    refine Ops.mv_sl rfl rfl rfl ?_
    -- stop: CALL impl.size[int64](t19) -> 20
    refine Ops.call (sizeI_c _ _ _ _) rfl rfl rfl ?_
    rintro _ _ ⟨rfl, rfl⟩
    refine Ops.sub rfl rfl rfl (by omega) ?_
    -- stop: CALL impl.within(t18, 0, t21) -> 22
    refine Ops.call (within_c _ _ _ _) rfl rfl rfl ?_
    rintro _ _ ⟨rfl, rfl⟩
    first | refine Ops.not_p rfl rfl ?_ | refine Ops.not rfl rfl ?_
    refine Ops.mv_bool rfl rfl rfl ?_
    -- stop: guard 24
    refine Ops.split_p 24 rfl (fun h2 => ?_) (fun h2 => ?_)
    · refine Ops.skipg rfl rfl rfl rfl rfl ?_
      refine Ops.skipg rfl rfl rfl rfl rfl ?_
      refine Ops.skipg rfl rfl rfl rfl rfl ?_
      refine Ops.skipg rfl rfl rfl rfl rfl ?_
      refine Ops.pick_t rfl rfl rfl ?_
      refine Ops.nil ?_
      refine thenQ_n ?_
      -- stop: cond
      refine Cd.cond_t rfl ?_
      refine Cd.seq ?_
      refine Cd.region ?_
      refine Ops.mv_bool rfl rfl rfl ?_
      refine Ops.nil ?_
      refine thenQ_n ?_
      refine Cd.ret ?_
      refine thenQ_r ?_
      refine blockQ_r ?_
      refine thenQ_r ?_
      refine thenQ_r ?_
      refine blockQ_r ?_
      refine thenQ_r ?_
      refine ret1_b rfl ?_
      -- stop: end
      exact ⟨by rw [decide_eq_false (hI.bad (by omega) (by omega))], hS2.none⟩
    · refine Ops.rung rfl rfl rfl ?_
      refine Ops.mv_sl rfl rfl rfl ?_
      refine Ops.rung rfl rfl rfl ?_
      refine Ops.mv_int rfl rfl rfl ?_
      refine Ops.rung rfl rfl rfl ?_
      -- stop: INDEXADDR 86 t25 t26 -> 27
      refine Ops.idx (hS2.rdB 0 rfl).2 rfl rfl rfl (by omega) (by omega) ?_
      refine Ops.rung rfl rfl rfl ?_
      -- stop: LOAD 4 t27 -> 28
      refine Ops.ld_bool (hS2.rdB 0 rfl) rfl (by omega) rfl rfl ?_
      refine Ops.pick_f rfl rfl rfl ?_
      refine Ops.nil ?_
      refine thenQ_n ?_
      -- stop: cond
      refine Cd.cond rfl (fun h3 => ?_) (fun h3 => ?_)
      · refine Cd.seq ?_
        refine Cd.region ?_
        refine Ops.mv_bool rfl rfl rfl ?_
        refine Ops.nil ?_
        refine thenQ_n ?_
        refine Cd.ret ?_
        refine thenQ_r ?_
        refine blockQ_r ?_
        refine thenQ_r ?_
        refine thenQ_r ?_
        refine blockQ_r ?_
        refine thenQ_r ?_
        refine ret1_b rfl ?_
        -- stop: end
        exact ⟨by rw [decide_eq_false (hI.twice (by omega) (by omega) h3)], hS2.none⟩
      · refine Cd.skip ?_
        refine thenQ_n ?_
        refine Cd.region ?_
        refine Ops.mv_sl rfl rfl rfl ?_
        refine Ops.mv_int rfl rfl rfl ?_
        -- stop: INDEXADDR 86 t30 t31 -> 32
        refine Ops.idx (hS2.rdB 0 rfl).2 rfl rfl rfl (by omega) (by omega) ?_
        refine Ops.st_bool 0 hS2 rfl rfl rfl (by omega) ?_
        intro w3 hS3
        refine Ops.nil ?_
        refine blockQ_n ?_
        refine thenQ_n ?_
        refine Cd.region ?_
        refine Ops.add rfl rfl rfl (by omega) ?_
        refine Ops.mv_int rfl rfl rfl ?_
        refine Ops.nil ?_
        refine thenQ_n ?_
        -- stop: round
        exact ⟨(k + 1, S.set (gi p k).toNat true), by show p.length - (k + 1) < p.length - k; omega, ⟨rfl, rfl, rfl, rfl, rfl, trivial⟩, hS3, by show k + 1 ≤ _; omega, hI.step (by omega) (by omega) h3⟩
  · refine Cd.exit ?_
    refine thenQ_x ?_
    refine thenQ_x ?_
    refine blockQ_x ?_
    refine thenQ_n ?_
    refine Cd.seq ?_
    refine Cd.region ?_
    refine Ops.mv_bool rfl rfl rfl ?_
    refine Ops.nil ?_
    refine thenQ_n ?_
    refine Cd.ret ?_
    refine ret1_b rfl ?_
    -- stop: end
    exact ⟨by rw [decide_eq_true (hI.done (by omega) (by omega))], hS2.none⟩

def IsFree (p : List Int) : Prop := ∀ i : Nat, i < p.length → gi p i ≠ i ∧ gi p (gi p i) = i
instance (p : List Int) : Decidable (IsFree p) := by unfold IsFree; exact inferInstance
theorem IsPerm.range {p : List Int} (h : IsPerm p) {i : Int} (h0 : 0 ≤ i) (h1 : i < p.length) : 0 ≤ gi p i ∧ gi p i < p.length := by
  have e : gi p i = p[i.toNat]'(by omega) := by simp [gi, List.getD_eq_getElem?_getD, List.getElem?_eq_getElem (show i.toNat < p.length by omega)]
  rw [e]
  exact h.2.1 _ (List.getElem_mem _)

theorem l01Free_c (A : Option Addr) (n c : Nat) (p : List Int) (w : World) (hR : RdI w A n p) (hp : IsPerm p) : Ret Try.prog 92 [.slice A n c] w (fun v w' => v = .bool (decide (IsFree p)) ∧ w' = w) := by
  have hl := hR.1
  subst hl
  have hp1 := hp.1
  refine Ret.of_cd Try.func92 rfl Try.ntmps92 rfl (post1 rfl) ?_
  refine Cd.seq ?_
  refine Cd.region ?_
  refine Ops.mv_bool rfl rfl rfl ?_
  refine Ops.nil ?_
  refine thenQ_n ?_
  refine Cd.seq ?_
  refine Cd.seq ?_
  refine Cd.region ?_
  refine Ops.mv_int rfl rfl rfl ?_
  refine Ops.nil ?_
  refine thenQ_n ?_
  refine Cd.block ?_
  -- stop: loop
  refine Cd.loop (α := Nat) (fun k => [(0, .slice A p.length c), (3, .int .i64 (k : Int))]) (fun k w' => w' = w ∧ k ≤ p.length ∧ ∀ i, i < k → gi p i ≠ i ∧ gi p (gi p i) = i) (fun k => p.length - k) 0 ⟨rfl, rfl, trivial⟩ ⟨rfl, Nat.zero_le _, fun i hi => by omega⟩ ?_
  rintro k e w2 ⟨rfl, hk, hI⟩
  refine Cd.seq ?_
  refine Cd.seq ?_
  refine Cd.region ?_
  refine Ops.mv_int rfl rfl rfl ?_
  refine Ops.mv_sl rfl rfl rfl ?_
  refine Ops.len rfl rfl ?_
  refine Ops.lss rfl rfl rfl ?_
  refine Ops.nil ?_
  refine thenQ_n ?_
  -- stop: cond
  refine Cd.cond_p _ rfl (fun h1 => ?_) (fun h1 => ?_)
  · have hr := hp.range (i := k) (by omega) h1
    refine Cd.skip ?_
    refine thenQ_n ?_
    refine Cd.seq ?_
    refine Cd.block ?_
    refine Cd.seq ?_
    refine Cd.region ?_
    refine Ops.mv_sl rfl rfl rfl ?_
    refine Ops.mv_int rfl rfl rfl ?_
    -- stop: INDEXADDR 39 t10 t11 -> 12
    refine Ops.idx hR.2 rfl rfl rfl (by omega) h1 ?_
    refine Ops.ld_int hR rfl (by omega) rfl rfl ?_
    refine Ops.mv_int rfl rfl rfl ?_
    refine Ops.eql rfl rfl rfl ?_
    refine Ops.mv_bool rfl rfl rfl ?_
    -- stop: guard 16
    refine Ops.split_p 16 rfl (fun h2 => ?_) (fun h2 => ?_)
    · refine Ops.skipg rfl rfl rfl rfl rfl ?_
      refine Ops.skipg rfl rfl rfl rfl rfl ?_
      refine Ops.skipg rfl rfl rfl rfl rfl ?_
      refine Ops.skipg rfl rfl rfl rfl rfl ?_
      refine Ops.skipg rfl rfl rfl rfl rfl ?_
      refine Ops.skipg rfl rfl rfl rfl rfl ?_
      refine Ops.skipg rfl rfl rfl rfl rfl ?_
      refine Ops.skipg rfl rfl rfl rfl rfl ?_
      refine Ops.skipg rfl rfl rfl rfl rfl ?_
      refine Ops.pick_t rfl rfl rfl ?_
      refine Ops.nil ?_
      refine thenQ_n ?_
      -- stop: cond
      refine Cd.cond_t rfl ?_
      refine Cd.seq ?_
      refine Cd.region ?_
      refine Ops.mv_bool rfl rfl rfl ?_
      refine Ops.nil ?_
      refine thenQ_n ?_
      refine Cd.ret ?_
      refine blockQ_r ?_
      refine thenQ_r ?_
      refine thenQ_r ?_
      refine blockQ_r ?_
      refine thenQ_r ?_
      refine ret1_b rfl ?_
      -- stop: end
      exact ⟨by rw [decide_eq_false (fun hf : IsFree p => (hf k (by omega)).1 h2)], rfl⟩
    · refine Ops.rung rfl rfl rfl ?_
      refine Ops.mv_sl rfl rfl rfl ?_
      refine Ops.rung rfl rfl rfl ?_
      refine Ops.mv_sl rfl rfl rfl ?_
      refine Ops.rung rfl rfl rfl ?_
      refine Ops.mv_int rfl rfl rfl ?_
      refine Ops.rung rfl rfl rfl ?_
      -- stop: INDEXADDR 39 t18 t19 -> 20
      refine Ops.idx hR.2 rfl rfl rfl (by omega) h1 ?_
      refine Ops.rung rfl rfl rfl ?_
      -- stop: LOAD 2 t20 -> 21
      refine Ops.ld_int hR rfl (by omega) rfl rfl ?_
      refine Ops.rung rfl rfl rfl ?_
      -- stop: INDEXADDR 39 t17 t21 -> 22
      refine Ops.idx hR.2 rfl rfl rfl (by omega) (by omega) ?_
      refine Ops.rung rfl rfl rfl ?_
      -- stop: LOAD 2 t22 -> 23
      refine Ops.ld_int hR rfl (by omega) rfl rfl ?_
      refine Ops.rung rfl rfl rfl ?_
      refine Ops.mv_int rfl rfl rfl ?_
      refine Ops.rung rfl rfl rfl ?_
      refine Ops.neq rfl rfl rfl ?_
      refine Ops.pick_f rfl rfl rfl ?_
      refine Ops.nil ?_
      refine thenQ_n ?_
      -- stop: cond
      refine Cd.cond_p _ rfl (fun h3 => ?_) (fun h3 => ?_)
      · refine Cd.seq ?_
        refine Cd.region ?_
        refine Ops.mv_bool rfl rfl rfl ?_
        refine Ops.nil ?_
        refine thenQ_n ?_
        refine Cd.ret ?_
        refine blockQ_r ?_
        refine thenQ_r ?_
        refine thenQ_r ?_
        refine blockQ_r ?_
        refine thenQ_r ?_
        refine ret1_b rfl ?_
        -- stop: end
        exact ⟨by rw [decide_eq_false (fun hf : IsFree p => h3 (hf k (by omega)).2)], rfl⟩
      · refine Cd.skip ?_
        refine blockQ_n ?_
        refine thenQ_n ?_
        refine Cd.region ?_
        refine Ops.mv_int rfl rfl rfl ?_
        refine Ops.add rfl rfl rfl (by omega) ?_
        refine Ops.mv_int rfl rfl rfl ?_
        refine Ops.nil ?_
        refine thenQ_n ?_
        -- stop: round
        refine ⟨k + 1, by omega, ⟨rfl, rfl, trivial⟩, rfl, by omega, fun i hi => ?_⟩
        by_cases e : i = k
        · subst e; exact ⟨h2, Classical.not_not.1 h3⟩
        · exact hI i (by omega)
  · refine Cd.exit ?_
    refine thenQ_x ?_
    refine thenQ_x ?_
    refine blockQ_x ?_
    refine thenQ_n ?_
    refine Cd.seq ?_
    refine Cd.region ?_
    refine Ops.mv_bool rfl rfl rfl ?_
    refine Ops.nil ?_
    refine thenQ_n ?_
    refine Cd.ret ?_
    refine ret1_b rfl ?_
    -- stop: end
    exact ⟨by rw [decide_eq_true (show IsFree p from fun i hi => hI i (by omega))], rfl⟩

theorem isFreeInvolution_c (A : Option Addr) (n c : Nat) (p : List Int) (w : World) (hR : RdI w A n p) : Ret Try.prog 95 [.slice A n c] w (fun v w' => v = .bool (decide (IsPerm p ∧ IsFree p)) ∧ St w w' []) := by
  have hl := hR.1
  subst hl
  refine Ret.of_cd Try.func95 rfl Try.ntmps95 rfl (post1 rfl) ?_
  refine Cd.seq ?_
  refine Cd.region ?_
  refine Ops.mv_bool rfl rfl rfl ?_
  refine Ops.nil ?_
  refine thenQ_n ?_
  refine Cd.seq ?_
  refine Cd.seq ?_
  refine Cd.region ?_
  refine Ops.mv_sl rfl rfl rfl ?_
  -- stop: CALL impl.isPermutation(t5) -> 6
  refine Ops.call (isPermutation_c _ _ _ _ _ hR) rfl rfl rfl ?_
  rintro _ w1 ⟨rfl, hS1⟩
  first | refine Ops.not_p rfl rfl ?_ | refine Ops.not rfl rfl ?_
  refine Ops.nil ?_
  refine thenQ_n ?_
  -- stop: cond
  refine Cd.cond_p _ rfl (fun hp => ?_) (fun hp => ?_)
  · refine Cd.seq ?_
    refine Cd.region ?_
    refine Ops.mv_bool rfl rfl rfl ?_
    refine Ops.nil ?_
    refine thenQ_n ?_
    refine Cd.ret ?_
    refine thenQ_r ?_
    refine ret1_b rfl ?_
    -- stop: end
    exact ⟨by rw [decide_eq_false (fun h => hp h.1)], hS1⟩
  have hp := Classical.not_not.1 hp
  have hp1 := hp.1
  refine Cd.skip ?_
  refine thenQ_n ?_
  refine Cd.seq ?_
  refine Cd.seq ?_
  refine Cd.region ?_
  refine Ops.mv_sl rfl rfl rfl ?_
  refine Ops.len rfl rfl ?_
  refine Ops.mv_int rfl rfl rfl ?_
  refine Ops.nil ?_
  refine thenQ_n ?_
  refine Cd.block ?_
  -- stop: loop
  refine Cd.loop (α := Nat) (fun k => [(0, .slice A p.length c), (8, .slice A p.length c), (9, .int .i64 (p.length : Int)), (10, .int .i64 (k : Int))]) (fun k w' => St w w' [] ∧ k ≤ p.length ∧ ∀ i, i < k → gi p i ≠ i ∧ gi p (gi p i) = i) (fun k => p.length - k) 0 ⟨rfl, rfl, rfl, rfl, trivial⟩ ⟨hS1, Nat.zero_le _, fun i hi => by omega⟩ ?_
  rintro k e w2 ⟨hS2, hk, hI⟩
  refine Cd.seq ?_
  refine Cd.region ?_
  refine Ops.lss rfl rfl rfl ?_
  refine Ops.nil ?_
  refine thenQ_n ?_
  refine Cd.seq ?_
  -- stop: cond
  refine Cd.cond_p _ rfl (fun h1 => ?_) (fun h1 => ?_)
  · have hr := hp.range (i := k) (by omega) h1
    have hA := hS2.oldI hR
    refine Cd.skip ?_
    refine thenQ_n ?_
    refine Cd.seq ?_
    refine Cd.block ?_
    refine Cd.seq ?_
    refine Cd.region ?_
    refine Ops.mv_int rfl rfl rfl ?_
    -- stop: INDEXADDR 39 t8 t10 -> 13
    refine Ops.idx hA.2 rfl rfl rfl (by omega) h1 ?_
    refine Ops.ld_int hA rfl (by omega) rfl rfl ?_
    refine Ops.mv_int rfl rfl rfl ?_
    refine Ops.mv_int rfl rfl rfl ?_
    refine Ops.nil ?_
    refine thenQ_n ?_
    refine Cd.seq ?_
    refine Cd.region ?_
    refine Ops.mv_int rfl rfl rfl ?_
    refine Ops.mv_int rfl rfl rfl ?_
    refine Ops.eql rfl rfl rfl ?_
    refine Ops.mv_bool rfl rfl rfl ?_
    -- stop: guard 18
    refine Ops.split_p 18 rfl (fun h2 => ?_) (fun h2 => ?_)
    · refine Ops.skipg rfl rfl rfl rfl rfl ?_
      refine Ops.skipg rfl rfl rfl rfl rfl ?_
      refine Ops.skipg rfl rfl rfl rfl rfl ?_
      refine Ops.skipg rfl rfl rfl rfl rfl ?_
      refine Ops.skipg rfl rfl rfl rfl rfl ?_
      refine Ops.skipg rfl rfl rfl rfl rfl ?_
      refine Ops.pick_t rfl rfl rfl ?_
      refine Ops.nil ?_
      refine thenQ_n ?_
      -- stop: cond
      refine Cd.cond_t rfl ?_
      refine Cd.seq ?_
      refine Cd.region ?_
      refine Ops.mv_bool rfl rfl rfl ?_
      refine Ops.nil ?_
      refine thenQ_n ?_
      refine Cd.ret ?_
      refine blockQ_r ?_
      refine thenQ_r ?_
      refine thenQ_r ?_
      refine blockQ_r ?_
      refine thenQ_r ?_
      refine ret1_b rfl ?_
      -- stop: end
      exact ⟨by rw [decide_eq_false (fun hf : IsPerm p ∧ IsFree p => (hf.2 k (by omega)).1 h2)], hS2⟩
    · refine Ops.rung rfl rfl rfl ?_
      refine Ops.mv_sl rfl rfl rfl ?_
      refine Ops.rung rfl rfl rfl ?_
      refine Ops.mv_int rfl rfl rfl ?_
      refine Ops.rung rfl rfl rfl ?_
      -- stop: INDEXADDR 39 t19 t20 -> 21
      refine Ops.idx hA.2 rfl rfl rfl (by omega) (by omega) ?_
      refine Ops.rung rfl rfl rfl ?_
      -- stop: LOAD 2 t21 -> 22
      refine Ops.ld_int hA rfl (by omega) rfl rfl ?_
      refine Ops.rung rfl rfl rfl ?_
      refine Ops.mv_int rfl rfl rfl ?_
      refine Ops.rung rfl rfl rfl ?_
      refine Ops.neq rfl rfl rfl ?_
      refine Ops.pick_f rfl rfl rfl ?_
      refine Ops.nil ?_
      refine thenQ_n ?_
      -- stop: cond
      refine Cd.cond_p _ rfl (fun h3 => ?_) (fun h3 => ?_)
      · refine Cd.seq ?_
        refine Cd.region ?_
        refine Ops.mv_bool rfl rfl rfl ?_
        refine Ops.nil ?_
        refine thenQ_n ?_
        refine Cd.ret ?_
        refine blockQ_r ?_
        refine thenQ_r ?_
        refine thenQ_r ?_
        refine blockQ_r ?_
        refine thenQ_r ?_
        refine ret1_b rfl ?_
        -- stop: end
        exact ⟨by rw [decide_eq_false (fun hf : IsPerm p ∧ IsFree p => h3 (hf.2 k (by omega)).2)], hS2⟩
      · refine Cd.skip ?_
        refine blockQ_n ?_
        refine thenQ_n ?_
        refine Cd.region ?_
        refine Ops.add rfl rfl rfl (by omega) ?_
        refine Ops.mv_int rfl rfl rfl ?_
        refine Ops.nil ?_
        refine thenQ_n ?_
        -- stop: round
        refine ⟨k + 1, by omega, ⟨rfl, rfl, rfl, rfl, trivial⟩, hS2, by omega, fun i hi => ?_⟩
        by_cases e : i = k
        · subst e; exact ⟨h2, Classical.not_not.1 h3⟩
        · exact hI i (by omega)
  · refine Cd.exit ?_
    refine thenQ_x ?_
    refine thenQ_x ?_
    refine blockQ_x ?_
    refine thenQ_n ?_
    refine Cd.seq ?_
    refine Cd.region ?_
    refine Ops.mv_bool rfl rfl rfl ?_
    refine Ops.nil ?_
    refine thenQ_n ?_
    refine Cd.ret ?_
    refine ret1_b rfl ?_
    -- stop: end
    exact ⟨by rw [decide_eq_true (show IsPerm p ∧ IsFree p from ⟨hp, fun i hi => hI i (by omega)⟩)], hS2⟩

theorem rank_c (A Am : Option Addr) (n c : Nat) (f : Nat → Value) (w : World) (hR : Rd w A 1 f) (hf : f 0 = .slice Am n c) : Ret Try.prog 68 [.pointer A] w (fun v w' => v = .int .i64 (n : Int) ∧ w' = w) := by
  refine Ret.of_cd Try.func68 rfl Try.ntmps68 rfl (post1 rfl) ?_
  refine Cd.seq ?_
  refine Cd.region ?_
  refine Ops.mv_int rfl rfl rfl ?_
  refine Ops.nil ?_
  refine thenQ_n ?_
  refine Cd.seq ?_
  refine Cd.region ?_
  refine Ops.mv_ptr rfl rfl rfl ?_
  -- stop: NILCHECK t3 -> 4
  refine Ops.nilp hR (by decide) rfl rfl ?_
  refine Ops.fld hR rfl rfl rfl rfl inferInstance ?_
  refine Ops.ldf_s hR rfl rfl hf rfl rfl ?_
  refine Ops.call (sizeR_c _ _ _ _) rfl rfl rfl ?_
  rintro _ _ ⟨rfl, rfl⟩
  refine Ops.mv_int rfl rfl rfl ?_
  refine Ops.nil ?_
  refine thenQ_n ?_
  refine Cd.ret ?_
  refine ret1_i rfl ?_
  -- stop: end
  exact ⟨rfl, rfl⟩
theorem flags_c (A Am : Option Addr) (n c : Nat) (rs : List SlV) (xss : List (List Int)) (f : Nat → Value) (w : World) (hR : Rd w A 1 f) (hf : f 0 = .slice Am n c) (hM : RowsI w Am n rs xss) (hn : 0 < n) : Ret Try.prog 94 [.pointer A] w (fun v w' => v = .int .i64 ((rg rs 0).n : Int) ∧ w' = w) := by
  refine Ret.of_cd Try.func94 rfl Try.ntmps94 rfl (post1 rfl) ?_
  refine Cd.seq ?_
  refine Cd.region ?_
  refine Ops.mv_int rfl rfl rfl ?_
  refine Ops.nil ?_
  refine thenQ_n ?_
  refine Cd.seq ?_
  refine Cd.region ?_
  refine Ops.mv_ptr rfl rfl rfl ?_
  -- stop: NILCHECK t3 -> 4
  refine Ops.nilp hR (by decide) rfl rfl ?_
  refine Ops.fld hR rfl rfl rfl rfl inferInstance ?_
  refine Ops.ldf_s hR rfl rfl hf rfl rfl ?_
  refine Ops.idx hM.top.2 rfl rfl rfl (by omega) (by omega) ?_
  refine Ops.ld_sl hM.top rfl (by omega) rfl rfl ?_
  refine Ops.call (sizeI_c _ _ _ _) rfl rfl rfl ?_
  rintro _ _ ⟨rfl, rfl⟩
  refine Ops.mv_int rfl rfl rfl ?_
  refine Ops.nil ?_
  refine thenQ_n ?_
  refine Cd.ret ?_
  refine ret1_i rfl ?_
  -- stop: end
  exact ⟨rfl, rfl⟩
end Go.Proofs.Ytpdhjnacnmfbjaa.Vc
/-
  Plain mathematics of orbits: what a search through moves finds, and in which order. Conditions: as each states them. No program in sight.
-/
namespace Go.Proofs.Ytpdhjnacnmfbjaa.Vc

theorem nodup_le : ∀ (n : Nat) (l : List Nat), l.Nodup → (∀ x ∈ l, x < n) → l.length ≤ n
  | 0, l, _, h => by
    cases l with
    | nil => simp
    | cons a l => exact absurd (h a (by simp)) (by omega)
  | n + 1, l, hn, h => by
    have h1 := nodup_le n (l.erase n) (hn.erase n) (fun x hx => by
      have h2 := (hn.mem_erase_iff).1 hx
      have := h x h2.2
      omega)
    have := List.length_erase_le (a := n) (l := l)
    rw [List.length_erase] at h1
    split at h1 <;> omega
theorem nodup_le_int {N : Nat} {l : List Int} (hn : l.Nodup) (h : ∀ x ∈ l, 0 ≤ x ∧ x < N) : l.length ≤ N := by
  have := nodup_le N (l.map Int.toNat) (by
    rw [List.nodup_iff_pairwise_ne, List.pairwise_map]
    refine List.Pairwise.imp_of_mem ?_ hn
    intro a b ha hb hab e
    have := h a ha
    have := h b hb
    omega) (fun x hx => by
    obtain ⟨y, hy, rfl⟩ := List.mem_map.1 hx
    have := h y hy
    omega)
  simpa using this

/-- rows of N places that lead to places -/
def Sys (N : Nat) (xss : List (List Int)) : Prop := ∀ p ∈ xss, p.length = N ∧ ∀ x : Int, 0 ≤ x → x < N → 0 ≤ gi p x ∧ gi p x < N

inductive Reach (xss : List (List Int)) (x : Int) : Int → Prop where
  | refl : Reach xss x x
  | step {y : Int} {p : List Int} : Reach xss x y → p ∈ xss → Reach xss x (gi p y)

theorem Reach.trans {xss : List (List Int)} {x y z : Int} (h : Reach xss x y) (h' : Reach xss y z) : Reach xss x z := by
  induction h' with
  | refl => exact h
  | step _ hp ih => exact .step ih hp

def push1 (out : List Int) (y : Int) : List Int := if y ∈ out then out else out ++ [y]
def expand (xss : List (List Int)) (x : Int) (out : List Int) : List Int := xss.foldl (fun o p => push1 o (gi p x)) out
def bfs (xss : List (List Int)) : Nat → Nat → List Int → List Int
  | 0, _, out => out
  | f + 1, i, out => if i < out.length then bfs xss f (i + 1) (expand xss (gi out i) out) else out
def orbit (N : Nat) (xss : List (List Int)) (pt : Int) : List Int := bfs xss (N + 1) 0 [pt]

theorem push1_mem {out : List Int} {y z : Int} : z ∈ push1 out y ↔ z ∈ out ∨ z = y := by
  unfold push1
  split
  · constructor
    · exact Or.inl
    · rintro (h | rfl)
      · exact h
      · assumption
  · simp
theorem push1_nodup {out : List Int} {y : Int} (h : out.Nodup) : (push1 out y).Nodup := by
  unfold push1
  split
  · exact h
  · rename_i hy
    rw [List.nodup_append]
    refine ⟨h, by simp, fun a ha b hb => ?_⟩
    simp at hb; subst hb
    rintro rfl; exact hy ha
theorem push1_prefix (out : List Int) (y : Int) : out <+: push1 out y := by
  unfold push1
  split
  · exact List.prefix_rfl
  · exact List.prefix_append _ _

/-- what a search holds: what is found is found once, is reached, and lies in range -/
structure Good (N : Nat) (xss : List (List Int)) (pt : Int) (out : List Int) : Prop where
  nodup : out.Nodup
  range : ∀ x ∈ out, 0 ≤ x ∧ x < (N : Int)
  reach : ∀ x ∈ out, Reach xss pt x
theorem Good.push {N : Nat} {xss : List (List Int)} {pt : Int} {out : List Int} (h : Good N xss pt out) (hs : Sys N xss) {x : Int} (hx : x ∈ out) {p : List Int} (hp : p ∈ xss) : Good N xss pt (push1 out (gi p x)) :=
  ⟨push1_nodup h.nodup, fun z hz => by
    rcases push1_mem.1 hz with hz | rfl
    · exact h.range z hz
    · exact (hs p hp).2 x (h.range x hx).1 (h.range x hx).2, fun z hz => by
    rcases push1_mem.1 hz with hz | rfl
    · exact h.reach z hz
    · exact .step (h.reach x hx) hp⟩
theorem Good.len {N : Nat} {xss : List (List Int)} {pt : Int} {out : List Int} (h : Good N xss pt out) : out.length ≤ N := nodup_le_int h.nodup h.range

theorem foldl_push {N : Nat} {xss : List (List Int)} {pt : Int} (hs : Sys N xss) {x : Int} : ∀ (ps : List (List Int)) (out : List Int), (∀ p ∈ ps, p ∈ xss) → Good N xss pt out → x ∈ out →
    Good N xss pt (ps.foldl (fun o p => push1 o (gi p x)) out) ∧ out <+: ps.foldl (fun o p => push1 o (gi p x)) out ∧ ∀ p ∈ ps, gi p x ∈ ps.foldl (fun o p => push1 o (gi p x)) out
  | [], out, _, h, _ => ⟨h, List.prefix_rfl, fun p hp => by cases hp⟩
  | q :: ps, out, hps, h, hx => by
    have h1 := h.push hs hx (hps q (by simp))
    have hpre := push1_prefix out (gi q x)
    obtain ⟨g1, g2, g3⟩ := foldl_push hs ps (push1 out (gi q x)) (fun p hp => hps p (by simp [hp])) h1 (hpre.subset hx)
    refine ⟨g1, hpre.trans g2, fun p hp => ?_⟩
    rcases List.mem_cons.1 hp with rfl | hp
    · exact g2.subset (push1_mem.2 (Or.inr rfl))
    · exact g3 p hp

theorem gi_in {out : List Int} {i : Nat} (h : i < out.length) : gi out (i : Int) ∈ out := by rw [gi_mem h]; exact List.getElem_mem h
theorem gi_prefix {a b : List Int} (h : a <+: b) {i : Nat} (hi : i < a.length) : gi b (i : Int) = gi a (i : Int) := by
  rw [gi_mem hi, gi_mem (Nat.lt_of_lt_of_le hi h.length_le)]
  obtain ⟨t, rfl⟩ := h
  rw [List.getElem_append_left hi]

theorem bfs_spec {N : Nat} {xss : List (List Int)} {pt : Int} (hs : Sys N xss) : ∀ (f i : Nat) (out : List Int), Good N xss pt out → N < f + i → (∀ j, j < i → j < out.length → ∀ p ∈ xss, gi p (gi out (j : Int)) ∈ out) →
    Good N xss pt (bfs xss f i out) ∧ out <+: bfs xss f i out ∧ ∀ x ∈ bfs xss f i out, ∀ p ∈ xss, gi p x ∈ bfs xss f i out
  | 0, i, out, h, hf, hc => by
      simp only [bfs]
      refine ⟨h, List.prefix_rfl, fun x hx p hp => ?_⟩
      obtain ⟨j, hj, rfl⟩ := List.mem_iff_getElem.1 hx
      have := h.len
      have := hc j (by omega) hj p hp
      rw [gi_mem hj] at this
      exact this
  | f + 1, i, out, h, hf, hc => by
    simp only [bfs]
    split
    · rename_i hi
      obtain ⟨g1, g2, g3⟩ := foldl_push hs xss out (fun p hp => hp) h (gi_in hi)
      replace g2 : out <+: expand xss (gi out i) out := g2
      obtain ⟨k1, k2, k3⟩ := bfs_spec hs f (i + 1) (expand xss (gi out i) out) g1 (by omega) (fun j hj hjl p hp => by
        by_cases hji : j = i
        · subst hji
          show gi p (gi (expand xss _ out) _) ∈ expand xss _ out
          rw [gi_prefix g2 hi]
          exact g3 p hp
        · have hjo : j < out.length := by omega
          show gi p (gi (expand xss _ out) _) ∈ expand xss _ out
          rw [gi_prefix g2 hjo]
          exact g2.subset (hc j (by omega) hjo p hp))
      exact ⟨k1, g2.trans k2, k3⟩
    · rename_i hi
      refine ⟨h, List.prefix_rfl, fun x hx p hp => ?_⟩
      obtain ⟨j, hj, rfl⟩ := List.mem_iff_getElem.1 hx
      have := hc j (by omega) hj p hp
      rw [gi_mem hj] at this
      exact this

theorem good_one {N : Nat} {xss : List (List Int)} {pt : Int} (h0 : 0 ≤ pt) (h1 : pt < N) : Good N xss pt [pt] :=
  ⟨by simp, fun x hx => by simp at hx; subst hx; exact ⟨h0, h1⟩, fun x hx => by simp at hx; subst hx; exact .refl⟩

/-- the orbit: what is reached, once each, the point ahead -/
theorem orbit_spec {N : Nat} {xss : List (List Int)} {pt : Int} (hs : Sys N xss) (h0 : 0 ≤ pt) (h1 : pt < N) :
    Good N xss pt (orbit N xss pt) ∧ [pt] <+: orbit N xss pt ∧ ∀ x, x ∈ orbit N xss pt ↔ Reach xss pt x := by
  obtain ⟨g1, g2, g3⟩ := bfs_spec (N := N) hs (N + 1) 0 [pt] (good_one h0 h1) (by omega) (fun j hj => by omega)
  refine ⟨g1, g2, fun x => ⟨g1.reach x, fun hr => ?_⟩⟩
  induction hr with
  | refl => exact g2.subset (by simp)
  | step _ hp ih => exact g3 _ ih _ hp
end Go.Proofs.Ytpdhjnacnmfbjaa.Vc
/-
  Typed forms of literals with one element, and of append. Conditions: as each rule names them.
-/
namespace Go.Proofs.Ytpdhjnacnmfbjaa.Vc
open Go.RowKit
section
variable {P : Program} {N : Nat} {ops : Array Oper} {K : Env → World → Prop} {rest : List Oper} {e : Env} {w0 w w' : World} {ks : List Ck} {d : Nat} {ty : TypeId} {pos : String} {af : Array Edge}

theorem Ops.bs1I {t el : TypeId} {z : Value} {b : Nat} [Und P t (.slice el)] [Inf P el z 1 b] {x0 : Operand} {i : Int} (hS : St w0 w ks) (h0 : ev e x0 = .int .i64 i) (hz : z.cells = #[z]) (hb : Nat.blt d N = true)
    (hK : ∀ A w', St w0 w' (CkI el A 1 1 [i] :: ks) → Ops P N ops K rest (upd e d (.slice A 1 1)) w') : Ops P N ops K (⟨some d, .buildSlice t 1 #[(0, x0)], ty, pos, af, none⟩ :: rest) e w :=
  .bs1 hS h0 rfl hz hb hK
theorem Ops.bs1R {t el : TypeId} {z : Value} {b : Nat} [Und P t (.slice el)] [Inf P el z 1 b] {x0 : Operand} {A0 : Option Addr} {n0 c0 : Nat} (hS : St w0 w ks) (h0 : ev e x0 = .slice A0 n0 c0) (hz : z.cells = #[z]) (hb : Nat.blt d N = true)
    (hK : ∀ A w', St w0 w' (CkR el A 1 1 [⟨A0, n0, c0⟩] :: ks) → Ops P N ops K rest (upd e d (.slice A 1 1)) w') : Ops P N ops K (⟨some d, .buildSlice t 1 #[(0, x0)], ty, pos, af, none⟩ :: rest) e w :=
  .bs1 hS h0 rfl hz hb hK
theorem map_range_I {ys : List Int} {m : Nat} (h : ys.length = m) : (List.range m).map (fun j => Value.int .i64 (ys.getD j 0)) = ys.map (.int .i64) := by
  subst h
  apply List.ext_getElem
  · simp
  · intro i h1 h2
    simp [List.getD_eq_getElem?_getD, List.getElem?_eq_getElem (show i < ys.length by simpa using h1)]
theorem map_range_R {ys : List SlV} {m : Nat} (h : ys.length = m) : (List.range m).map (fun j => (ys.getD j slNil).v) = ys.map SlV.v := by
  subst h
  apply List.ext_getElem
  · simp
  · intro i h1 h2
    simp [List.getD_eq_getElem?_getD, List.getElem?_eq_getElem (show i < ys.length by simpa using h1)]
theorem Ops.appI {t el : TypeId} {z : Value} {b : Nat} [hU : Und P t (.slice el)] [Inf P el z 1 b] {x y : Operand} (i : Nat) {A : Option Addr} {n c : Nat} {xs : List Int} {A' : Option Addr} {m c' : Nat} {ys : List Int} (hS : St w0 w ks) (hk : ks[i]? = some (CkI el A n c xs)) (hR : RdI w A' m ys) (hx : ev e x = .slice A n c) (hy : ev e y = .slice A' m c') (hz : z.cells = #[z])
    (h63 : n + m ≤ 9223372036854775807) (hbytes : (n + m) * b ≤ 140737488355328) (hb : Nat.blt d N = true)
    (hK : ∀ A2 c2 w', St w0 w' (ks.set i (CkI el A2 (n + m) c2 (xs ++ ys))) → Ops P N ops K rest (upd e d (.slice A2 (n + m) c2)) w') :
    Ops P N ops K (⟨some d, .call ⟨.builtin .append, #[x, y], #[t, t]⟩, ty, pos, af, none⟩ :: rest) e w :=
  .app i hS hk hR.2 hx hy rfl hz (fun _ _ => rfl) (by simpa [maxLen] using h63) hbytes hb fun A2 c2 w' h => hK A2 c2 w' (by
    rw [map_range_I hR.1] at h
    simpa [CkI] using h)
theorem Ops.appFI {t el : TypeId} {z : Value} {b : Nat} [hU : Und P t (.slice el)] [Inf P el z 1 b] {x y : Operand} (i : Nat) {A : Option Addr} {n c : Nat} {xs : List Int} {A' : Option Addr} {m c' : Nat} {ys : List Int} (hfull : n = c) (hS : St w0 w ks) (hk : ks[i]? = some (CkI el A n c xs)) (hR : RdI w A' m ys) (hx : ev e x = .slice A n c) (hy : ev e y = .slice A' m c') (hz : z.cells = #[z])
    (h63 : n + m ≤ 9223372036854775807) (hbytes : (n + m) * b ≤ 140737488355328) (hb : Nat.blt d N = true)
    (hK : ∀ A2 c2 w', Below w.heap.size w w' → St w0 w' (ks.set i (CkI el A2 (n + m) c2 (xs ++ ys))) → Ops P N ops K rest (upd e d (.slice A2 (n + m) c2)) w') :
    Ops P N ops K (⟨some d, .call ⟨.builtin .append, #[x, y], #[t, t]⟩, ty, pos, af, none⟩ :: rest) e w :=
  .appF i hfull hS hk hR.2 hx hy rfl hz (fun _ _ => rfl) (by simpa [maxLen] using h63) hbytes hb fun A2 c2 w' hb' h => hK A2 c2 w' hb' (by
    rw [map_range_I hR.1] at h
    simpa [CkI] using h)
theorem Ops.appR {t el : TypeId} {z : Value} {b : Nat} [hU : Und P t (.slice el)] [Inf P el z 1 b] {x y : Operand} (i : Nat) {A : Option Addr} {n c : Nat} {xs : List SlV} {A' : Option Addr} {m c' : Nat} {ys : List SlV} (hS : St w0 w ks) (hk : ks[i]? = some (CkR el A n c xs)) (hR : RdR w A' m ys) (hx : ev e x = .slice A n c) (hy : ev e y = .slice A' m c') {z0 : Value} (hz : z.cells = #[z0])
    (h63 : n + m ≤ 9223372036854775807) (hbytes : (n + m) * b ≤ 140737488355328) (hb : Nat.blt d N = true)
    (hK : ∀ A2 c2 w', St w0 w' (ks.set i (CkR el A2 (n + m) c2 (xs ++ ys))) → Ops P N ops K rest (upd e d (.slice A2 (n + m) c2)) w') :
    Ops P N ops K (⟨some d, .call ⟨.builtin .append, #[x, y], #[t, t]⟩, ty, pos, af, none⟩ :: rest) e w :=
  .app i hS hk hR.2 hx hy rfl hz (fun _ _ => rfl) (by simpa [maxLen] using h63) hbytes hb fun A2 c2 w' h => hK A2 c2 w' (by
    rw [map_range_R hR.1] at h
    simpa [CkR] using h)
end
end Go.Proofs.Ytpdhjnacnmfbjaa.Vc
/-
  The walk of the search for an orbit. Conditions: as each states them.
-/
namespace Go.Proofs.Ytpdhjnacnmfbjaa.Vc
open Go.RowKit

/-- what is marked is what is found -/
def Marked (M : Nat) (S : List Bool) (out : List Int) : Prop := S.length = M ∧ ∀ x : Int, 0 ≤ x → x < M → (gb S x = true ↔ x ∈ out)
theorem Marked.init {M : Nat} {pt : Int} (h0 : 0 ≤ pt) (h1 : pt < M) : Marked M ((List.replicate M false).set pt.toNat true) [pt] := by
  refine ⟨by simp, fun x hx hx' => ?_⟩
  rw [gb_set h0 (by simpa using h1) hx]
  by_cases e : pt = x
  · simp [e]
  · rw [if_neg e]
    have : x ≠ pt := fun h => e h.symm
    simp [gb, List.getD_eq_getElem?_getD, List.getElem?_replicate, this]
    split <;> simp
theorem Marked.push {M : Nat} {S : List Bool} {out : List Int} {y : Int} (h : Marked M S out) (h0 : 0 ≤ y) (h1 : y < M) : Marked M (S.set y.toNat true) (out ++ [y]) := by
  refine ⟨by simpa using h.1, fun x hx hx' => ?_⟩
  rw [gb_set h0 (by rw [h.1]; exact h1) hx, List.mem_append]
  by_cases e : y = x
  · simp [e]
  · rw [if_neg e, h.2 x hx hx']
    have : x ≠ y := fun h => e h.symm
    simp [this]
theorem bfs_out {xss : List (List Int)} {f i : Nat} {out : List Int} (h : ¬ i < out.length) : bfs xss f i out = out := by
  cases f with
  | zero => rfl
  | succ f => simp only [bfs]; rw [if_neg h]
theorem RowsI.rowLen {w : World} {A : Option Addr} {n : Nat} {rs : List SlV} {xss : List (List Int)} (h : RowsI w A n rs xss) {k : Int} (h0 : 0 ≤ k) (h1 : k < n) : (gl xss k).length = (rg rs k).n := (h.at_ h0 h1).1
theorem gl_in {xss : List (List Int)} {k : Int} (h0 : 0 ≤ k) (h : k < xss.length) : gl xss k ∈ xss := by
  obtain ⟨j, rfl⟩ : ∃ j : Nat, k = j := ⟨k.toNat, by omega⟩
  rw [gl_mem (by omega)]; exact List.getElem_mem _

theorem l01Orbit_c (A : Option Addr) (n c : Nat) (rs : List SlV) (xss : List (List Int)) (N : Nat) (pt : Int) (w : World) (hR : RowsI w A n rs xss) (hn : n ≤ 9223372036854775807) (hs : Sys N xss) (hN : N ≤ 1000000000) (h0 : 0 ≤ pt) (h1 : pt < N) :
    Ret Try.prog 93 [.slice A n c, .int .i64 pt] w (fun v w' => ∃ A' c', v = .slice A' (orbit N xss pt).length c' ∧ St w w' [CkI 2 A' (orbit N xss pt).length c' (orbit N xss pt)]) := by
  have hrl : ∀ k : Int, 0 ≤ k → k < n → (rg rs k).n = N := fun k hk0 hk => by
    rw [← hR.rowLen hk0 hk]
    exact (hs _ (gl_in hk0 (by rw [hR.len]; exact hk))).1
  refine Ret.of_cd Try.func93 rfl Try.ntmps93 rfl (post1 rfl) ?_
  refine Cd.seq ?_
  refine Cd.region ?_
  refine Ops.mv_sl rfl rfl rfl ?_
  refine Ops.nil ?_
  refine thenQ_n ?_
  refine Cd.seq ?_
  refine Cd.region ?_
  refine Ops.mv_int rfl rfl rfl ?_
  -- stop: BUILDSLICE 39 1 [('pair', [0, ('app', 'Go.Operand.tmp', [11])])] -> 12
  refine Ops.bs1I (St.refl w) rfl rfl rfl ?_
  intro A1 w1 hS1
  refine Ops.mv_sl rfl rfl rfl ?_
  refine Ops.nil ?_
  refine thenQ_n ?_
  refine Cd.seq ?_
  refine Cd.region ?_
  refine Ops.mv_int rfl rfl rfl ?_
  refine Ops.nil ?_
  refine thenQ_n ?_
  -- stop: join
  refine Cd.join (α := Nat) (fun s => [(0, .slice A n c), (1, .int .i64 pt), (5, .slice A1 1 1), (6, .int .i64 (s : Int))]) (fun s w' => w' = w1 ∧ s ≤ N ∧ (0 < n → s = N)) ?_ ?_
  · refine Cd.seq ?_
    refine Cd.region ?_
    refine Ops.mv_sl rfl rfl rfl ?_
    refine Ops.len rfl rfl ?_
    refine Ops.gtr rfl rfl rfl ?_
    refine Ops.nil ?_
    refine thenQ_n ?_
    -- stop: cond
    refine Cd.cond_p _ rfl (fun h2 => ?_) (fun h2 => ?_)
    · refine Cd.region ?_
      refine Ops.mv_sl rfl rfl rfl ?_
      -- stop: INDEXADDR 25 t16 0 -> 17
      refine Ops.idx (hS1.oldR hR.top).2 rfl rfl rfl (by omega) (by omega) ?_
      refine Ops.ld_sl (hS1.oldR hR.top) rfl (by omega) rfl rfl ?_
      refine Ops.len rfl rfl ?_
      refine Ops.mv_int rfl rfl rfl ?_
      refine Ops.nil ?_
      refine thenQ_n ?_
      -- stop: round
      exact ⟨N, ⟨rfl, rfl, rfl, by rw [hrl 0 (by omega) (by omega)]; rfl, trivial⟩, rfl, Nat.le_refl _, fun _ => rfl⟩
    · refine Cd.skip ?_
      refine thenQ_n ?_
      -- stop: round
      exact ⟨0, ⟨rfl, rfl, rfl, rfl, trivial⟩, rfl, Nat.zero_le _, fun h => by omega⟩
  rintro s e1 w2 ⟨rfl, hsN, hs0⟩
  have hpt : n = 0 → N = N := fun _ => rfl
  refine Cd.seq ?_
  refine Cd.region ?_
  refine Ops.mv_int rfl rfl rfl ?_
  refine Ops.mv_int rfl rfl rfl ?_
  refine Ops.add rfl rfl rfl (by omega) ?_
  refine Ops.add rfl rfl rfl (by omega) ?_
  -- stop: MAKESLICE 86 t23 t23 -> 24
  refine Ops.mkB (s + pt.toNat + 1) hS1 (by show Value.int .i64 _ = Value.int .i64 _; congr 1; omega) rfl (by omega) ?_
  intro A2 w3 hS3
  refine Ops.mv_sl rfl rfl rfl ?_
  refine Ops.nil ?_
  refine thenQ_n ?_
  refine Cd.seq ?_
  refine Cd.region ?_
  refine Ops.mv_sl rfl rfl rfl ?_
  refine Ops.mv_int rfl rfl rfl ?_
  -- stop: INDEXADDR 86 t25 t26 -> 27
  refine Ops.idx (hS3.rdB 0 rfl).2 rfl rfl rfl (by omega) (by omega) ?_
  refine Ops.st_bool 0 hS3 rfl rfl rfl (by omega) ?_
  intro w4 hS4
  refine Ops.nil ?_
  refine thenQ_n ?_
  refine Cd.seq ?_
  refine Cd.seq ?_
  refine Cd.region ?_
  refine Ops.mv_int rfl rfl rfl ?_
  refine Ops.nil ?_
  refine thenQ_n ?_
  refine Cd.block ?_
  -- stop: loop
  refine Cd.loop (α := Nat × List Int × Option Addr × Nat × List Bool) (fun q => [(0, .slice A n c), (5, .slice q.2.2.1 q.2.1.length q.2.2.2.1), (7, .slice A2 (s + pt.toNat + 1) (s + pt.toNat + 1)), (8, .int .i64 (q.1 : Int))])
    (fun q w' => St w w' [CkB 4 A2 (s + pt.toNat + 1) (s + pt.toNat + 1) q.2.2.2.2, CkI 2 q.2.2.1 q.2.1.length q.2.2.2.1 q.2.1] ∧ q.1 ≤ q.2.1.length ∧ Good N xss pt q.2.1 ∧ Marked (s + pt.toNat + 1) q.2.2.2.2 q.2.1 ∧ bfs xss (N + 1 - q.1) q.1 q.2.1 = orbit N xss pt)
    (fun q => N + 1 - q.1) (0, [pt], A1, 1, (List.replicate (s + pt.toNat + 1) false).set pt.toNat true) ⟨rfl, rfl, rfl, rfl, trivial⟩ ⟨hS4, Nat.zero_le _, good_one h0 h1, Marked.init h0 (by omega), rfl⟩ ?_
  rintro ⟨i, out, Ao, co, S⟩ e2 w5 ⟨hS5, hi, hg, hm, hb⟩
  dsimp only at hS5 hi hg hm hb ⊢
  have hlen := hg.len
  refine Cd.seq ?_
  refine Cd.seq ?_
  refine Cd.region ?_
  refine Ops.mv_int rfl rfl rfl ?_
  refine Ops.mv_sl rfl rfl rfl ?_
  refine Ops.len rfl rfl ?_
  refine Ops.lss rfl rfl rfl ?_
  refine Ops.nil ?_
  refine thenQ_n ?_
  -- stop: cond
  refine Cd.cond_p _ rfl (fun h2 => ?_) (fun h2 => ?_)
  · refine Cd.skip ?_
    refine thenQ_n ?_
    refine Cd.seq ?_
    refine Cd.block ?_
    refine Cd.seq ?_
    refine Cd.region ?_
    refine Ops.mv_int rfl rfl rfl ?_
    refine Ops.nil ?_
    refine thenQ_n ?_
    refine Cd.block ?_
    -- stop: loop
    refine Cd.loop (α := Nat × List Int × Option Addr × Nat × List Bool) (fun q => [(0, .slice A n c), (5, .slice q.2.2.1 q.2.1.length q.2.2.2.1), (7, .slice A2 (s + pt.toNat + 1) (s + pt.toNat + 1)), (8, .int .i64 (i : Int)), (9, .int .i64 (q.1 : Int))])
      (fun q w' => St w w' [CkB 4 A2 (s + pt.toNat + 1) (s + pt.toNat + 1) q.2.2.2.2, CkI 2 q.2.2.1 q.2.1.length q.2.2.2.1 q.2.1] ∧ q.1 ≤ n ∧ Good N xss pt q.2.1 ∧ Marked (s + pt.toNat + 1) q.2.2.2.2 q.2.1 ∧ out <+: q.2.1 ∧ (xss.drop q.1).foldl (fun o p => push1 o (gi p (gi out i))) q.2.1 = expand xss (gi out i) out)
      (fun q => n - q.1) (0, out, Ao, co, S) ⟨rfl, rfl, rfl, rfl, rfl, trivial⟩ ⟨hS5, Nat.zero_le _, hg, hm, List.prefix_rfl, rfl⟩ ?_
    rintro ⟨k, out', Ao', co', S'⟩ e3 w6 ⟨hS6, hk, hg', hm', hp', hf⟩
    dsimp only at hS6 hk hg' hm' hp' hf ⊢
    have hlen' := hg'.len
    refine Cd.seq ?_
    refine Cd.seq ?_
    refine Cd.region ?_
    refine Ops.mv_int rfl rfl rfl ?_
    refine Ops.mv_sl rfl rfl rfl ?_
    refine Ops.len rfl rfl ?_
    refine Ops.lss rfl rfl rfl ?_
    refine Ops.nil ?_
    refine thenQ_n ?_
    -- stop: cond
    refine Cd.cond_p _ rfl (fun h3 => ?_) (fun h3 => ?_)
    · have hio : i < out'.length := by have := hp'.length_le; omega
      have hgi : gi out' i = gi out i := gi_prefix hp' (by omega)
      have hxi := hg.range _ (gi_in (i := i) (by omega))
      have hmem : gl xss k ∈ xss := gl_in (by omega) (by rw [hR.len]; omega)
      have hy := (hs _ hmem).2 (gi out i) hxi.1 hxi.2
      have hrk := hrl k (by omega) (by omega)
      have hsN : s = N := hs0 (by omega)
      have hT := (hS6.oldRows hR)
      have hO := hS6.rdI 1 rfl
      have hrow := hT.at_ (i := k) (by omega) (by omega)
      refine Cd.skip ?_
      refine thenQ_n ?_
      refine Cd.seq ?_
      refine Cd.block ?_
      refine Cd.seq ?_
      -- stop: draw
      refine Cd.draw [.ex (.slice (A) (n) (c)), .ex (.int .i64 ((k : Int))), .ex (.pointer (ptrAt (A) ((k : Int)).toNat)), .ex (.slice ((rg (rs) ((k : Int))).a) ((rg (rs) ((k : Int))).n) ((rg (rs) ((k : Int))).c)), .ex (.slice (Ao') (out'.length) (co')), .ex (.int .i64 ((i : Int))), .ex (.pointer (ptrAt (Ao') ((i : Int)).toNat)), .ex (.int .i64 (gi (out') ((i : Int)))), .ex (.pointer (ptrAt ((rg (rs) ((k : Int))).a) (gi (out') ((i : Int))).toNat)), .ex (.int .i64 (gi (gl xss k) (gi (out') ((i : Int))))), .ex (.int .i64 (gi (gl xss k) (gi (out') ((i : Int)))))] (by kernel_rfl) (by kernel_rfl) rfl (List.forall_mem_cons.2 ⟨Yd.lasts_ex _, (List.forall_mem_cons.2 ⟨Yd.lasts_ex _, (List.forall_mem_cons.2 ⟨Yd.lasts_ex _, (List.forall_mem_cons.2 ⟨Yd.lasts_ex _, (List.forall_mem_cons.2 ⟨Yd.lasts_ex _, (List.forall_mem_cons.2 ⟨Yd.lasts_ex _, (List.forall_mem_cons.2 ⟨Yd.lasts_ex _, (List.forall_mem_cons.2 ⟨Yd.lasts_ex _, (List.forall_mem_cons.2 ⟨Yd.lasts_ex _, (List.forall_mem_cons.2 ⟨Yd.lasts_ex _, (List.forall_mem_cons.2 ⟨Yd.lasts_ex _, (fun _ h => by cases h)⟩)⟩)⟩)⟩)⟩)⟩)⟩)⟩)⟩)⟩)⟩) ⟨?_, ?_, ?_, ?_, ?_, ?_, ?_, ?_, ?_, ?_, ?_, trivial⟩ ?_
      · intro e1 w1 hb hp hun
        refine Ops.mv_sl rfl rfl rfl ?_
        refine Ops.nil ?_
        exact After.dn (Below.refl _ _) (by exact rfl)
      · intro e1 w1 hb hp hun
        refine Ops.mv_int rfl rfl rfl ?_
        refine Ops.nil ?_
        exact After.dn (Below.refl _ _) (by exact rfl)
      · intro e1 w1 hb hp hun
        refine Ops.idx (hT.top.later hb).2 rfl rfl rfl (by omega) (by omega) ?_
        refine Ops.nil ?_
        exact After.dn (Below.refl _ _) (by exact rfl)
      · intro e1 w1 hb hp hun
        refine Ops.ld_sl (hT.top.later hb) rfl (by omega) rfl rfl ?_
        refine Ops.nil ?_
        exact After.dn (Below.refl _ _) (by exact rfl)
      · intro e1 w1 hb hp hun
        refine Ops.mv_sl rfl rfl rfl ?_
        refine Ops.nil ?_
        exact After.dn (Below.refl _ _) (by exact rfl)
      · intro e1 w1 hb hp hun
        refine Ops.mv_int rfl rfl rfl ?_
        refine Ops.nil ?_
        exact After.dn (Below.refl _ _) (by exact rfl)
      · intro e1 w1 hb hp hun
        refine Ops.idx (hO.later hb).2 rfl rfl rfl (by omega) (by omega) ?_
        refine Ops.nil ?_
        exact After.dn (Below.refl _ _) (by exact rfl)
      · intro e1 w1 hb hp hun
        refine Ops.ld_int (hO.later hb) rfl (by omega) rfl rfl ?_
        refine Ops.nil ?_
        exact After.dn (Below.refl _ _) (by exact rfl)
      · intro e1 w1 hb hp hun
        refine Ops.idx (hrow.later hb).2 rfl rfl rfl (by rw [hgi]; omega) (by rw [hgi, hrk]; omega) ?_
        refine Ops.nil ?_
        exact After.dn (Below.refl _ _) (by exact rfl)
      · intro e1 w1 hb hp hun
        refine Ops.ld_int (hrow.later hb) rfl (by omega) rfl rfl ?_
        refine Ops.nil ?_
        exact After.dn (Below.refl _ _) (by exact rfl)
      · intro e1 w1 hb hp hun
        refine Ops.mv_int rfl rfl rfl ?_
        refine Ops.nil ?_
        exact After.dn (Below.refl _ _) (by exact rfl)
      intro u w7 hb7 _
      have hS7 := hS6.later hb7
      rw [hgi]
      have hfold : (xss.drop (k + 1)).foldl (fun o p => push1 o (gi p (gi out i))) (push1 out' (gi (gl xss k) (gi out i))) = expand xss (gi out i) out := by
        rw [← hf, List.drop_eq_getElem_cons (show k < xss.length by rw [hR.len]; omega), List.foldl_cons, gl_mem (by rw [hR.len]; omega)]
      refine thenQ_n ?_
      refine Cd.seq ?_
      refine Cd.region ?_
      refine Ops.mv_sl rfl rfl rfl ?_
      refine Ops.mv_int rfl rfl rfl ?_
      -- stop: INDEXADDR 86 t50 t51 -> 52
      refine Ops.idx (hS7.rdB 0 rfl).2 rfl rfl rfl (by omega) (by omega) ?_
      refine Ops.ld_bool (hS7.rdB 0 rfl) rfl (by omega) rfl rfl ?_
      first | refine Ops.not_p rfl rfl ?_ | refine Ops.not rfl rfl ?_
      refine Ops.nil ?_
      refine thenQ_n ?_
      -- stop: cond
      refine Cd.cond rfl (fun h4 => ?_) (fun h4 => ?_)
      · have hnin : ¬ gi (gl xss k) (gi out i) ∈ out' := fun hin => by
          have := (hm'.2 _ hy.1 (by omega)).2 hin
          rw [this] at h4; cases h4
        have hpush : push1 out' (gi (gl xss k) (gi out i)) = out' ++ [gi (gl xss k) (gi out i)] := by unfold push1; rw [if_neg hnin]
        have hg7 := hg'.push hs (hp'.subset (gi_in (i := i) (by omega))) hmem
        have hp7 := hp'.trans (push1_prefix out' (gi (gl xss k) (gi out i)))
        rw [hpush] at hfold hg7 hp7
        have hlen7 := hg7.len
        simp only [List.length_append, List.length_singleton] at hlen7
        refine Cd.seq ?_
        refine Cd.region ?_
        refine Ops.mv_sl rfl rfl rfl ?_
        refine Ops.mv_int rfl rfl rfl ?_
        -- stop: INDEXADDR 86 t55 t56 -> 57
        refine Ops.idx (hS7.rdB 0 rfl).2 rfl rfl rfl (by omega) (by omega) ?_
        refine Ops.st_bool 0 hS7 rfl rfl rfl (by omega) ?_
        intro w8 hS8
        refine Ops.nil ?_
        refine thenQ_n ?_
        refine Cd.region ?_
        refine Ops.mv_sl rfl rfl rfl ?_
        refine Ops.mv_int rfl rfl rfl ?_
        -- stop: BUILDSLICE 39 1 [('pair', [0, ('app', 'Go.Operand.tmp', [59])])] -> 60
        refine Ops.bs1I hS8 rfl rfl rfl ?_
        intro A3 w9 hS9
        refine Ops.appI 2 hS9 rfl (hS9.rdI 0 rfl) rfl rfl rfl (by omega) (by omega) rfl ?_
        intro A4 c4 w10 hS10
        refine Ops.mv_sl rfl rfl rfl ?_
        refine Ops.nil ?_
        refine blockQ_n ?_
        refine thenQ_n ?_
        refine Cd.region ?_
        refine Ops.mv_int rfl rfl rfl ?_
        refine Ops.add rfl rfl rfl (by omega) ?_
        refine Ops.mv_int rfl rfl rfl ?_
        refine Ops.nil ?_
        refine thenQ_n ?_
        -- stop: round
        refine ⟨(k + 1, out' ++ [gi (gl xss k) (gi out i)], A4, c4, S'.set (gi (gl xss k) (gi out i)).toNat true), by show n - (k + 1) < n - k; omega, ⟨rfl, by rw [List.length_append]; rfl, rfl, rfl, rfl, trivial⟩, ?_, by show k + 1 ≤ n; omega, hg7, hm'.push hy.1 (by omega), hp7, hfold⟩
        have h11 := hS10.tail
        simp only [List.length_append, List.length_singleton]
        exact h11
      · have hin : gi (gl xss k) (gi out i) ∈ out' := (hm'.2 _ hy.1 (by omega)).1 (by simpa using h4)
        have hpush : push1 out' (gi (gl xss k) (gi out i)) = out' := by unfold push1; rw [if_pos hin]
        rw [hpush] at hfold
        refine Cd.skip ?_
        refine blockQ_n ?_
        refine thenQ_n ?_
        refine Cd.region ?_
        refine Ops.mv_int rfl rfl rfl ?_
        refine Ops.add rfl rfl rfl (by omega) ?_
        refine Ops.mv_int rfl rfl rfl ?_
        refine Ops.nil ?_
        refine thenQ_n ?_
        -- stop: round
        exact ⟨(k + 1, out', Ao', co', S'), by show n - (k + 1) < n - k; omega, ⟨rfl, rfl, rfl, rfl, rfl, trivial⟩, hS7, by show k + 1 ≤ n; omega, hg', hm', hp', hfold⟩
    · refine Cd.exit ?_
      refine thenQ_x ?_
      refine thenQ_x ?_
      refine blockQ_x ?_
      refine blockQ_n ?_
      refine thenQ_n ?_
      refine Cd.region ?_
      refine Ops.mv_int rfl rfl rfl ?_
      refine Ops.add rfl rfl rfl (by omega) ?_
      refine Ops.mv_int rfl rfl rfl ?_
      refine Ops.nil ?_
      refine thenQ_n ?_
      -- stop: round
      have hk' : k = n := by omega
      rw [hk', ← hR.len, List.drop_length, List.foldl_nil] at hf
      refine ⟨(i + 1, out', Ao', co', S'), by show N + 1 - (i + 1) < N + 1 - i; omega, ⟨rfl, rfl, rfl, rfl, trivial⟩, hS6, ?_, hg', hm', ?_⟩
      · have := hp'.length_le; show i + 1 ≤ out'.length; omega
      · show bfs xss (N + 1 - (i + 1)) (i + 1) out' = orbit N xss pt
        rw [← hb, hf]
        have e : N + 1 - i = (N + 1 - (i + 1)) + 1 := by omega
        rw [e]
        simp only [bfs]
        rw [if_pos (by omega)]
  · refine Cd.exit ?_
    refine thenQ_x ?_
    refine thenQ_x ?_
    refine blockQ_x ?_
    refine thenQ_n ?_
    refine Cd.seq ?_
    refine Cd.region ?_
    refine Ops.mv_sl rfl rfl rfl ?_
    refine Ops.mv_sl rfl rfl rfl ?_
    refine Ops.nil ?_
    refine thenQ_n ?_
    refine Cd.ret ?_
    refine ret1_s rfl ?_
    -- stop: end
    rw [bfs_out (by omega)] at hb
    exact ⟨Ao, co, by rw [hb], by rw [← hb]; exact hS5.tail⟩
end Go.Proofs.Ytpdhjnacnmfbjaa.Vc
