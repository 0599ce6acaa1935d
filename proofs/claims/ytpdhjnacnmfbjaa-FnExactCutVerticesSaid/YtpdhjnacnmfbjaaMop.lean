/-
  The operations on memory: addresses, loads, stores, make, literals, cuts, append. Conditions: as each rule names them.
-/
import Derived.Test.YtpdhjnacnmfbjaaMem
import Derived.Deep.OwnRows
namespace Go.Proofs.Ytpdhjnacnmfbjaa.Vc
open Go.RowKit

/-! typed readings -/
structure SlV where
  a : Option Addr
  n : Nat
  c : Nat
def SlV.v (s : SlV) : Value := .slice s.a s.n s.c
def slNil : SlV := ⟨none, 0, 0⟩
def gi (xs : List Int) (i : Int) : Int := xs.getD i.toNat 0
def gb (xs : List Bool) (i : Int) : Bool := xs.getD i.toNat false
def rg (xs : List SlV) (i : Int) : SlV := xs.getD i.toNat slNil
def RdI (w : World) (A : Option Addr) (n : Nat) (xs : List Int) : Prop := xs.length = n ∧ Rd w A n (fun j => .int .i64 (xs.getD j 0))
def RdB (w : World) (A : Option Addr) (n : Nat) (xs : List Bool) : Prop := xs.length = n ∧ Rd w A n (fun j => .bool (xs.getD j false))
def RdR (w : World) (A : Option Addr) (n : Nat) (xs : List SlV) : Prop := xs.length = n ∧ Rd w A n (fun j => (xs.getD j slNil).v)
abbrev CkI (t : TypeId) (A : Option Addr) (n c : Nat) (xs : List Int) : Ck := ⟨A, n, c, t, xs.map (.int .i64)⟩
abbrev CkB (t : TypeId) (A : Option Addr) (n c : Nat) (xs : List Bool) : Ck := ⟨A, n, c, t, xs.map .bool⟩
abbrev CkR (t : TypeId) (A : Option Addr) (n c : Nat) (xs : List SlV) : Ck := ⟨A, n, c, t, xs.map SlV.v⟩

section
variable {w0 w w' : World} {ks : List Ck} {t : TypeId} {A : Option Addr} {n c : Nat}
theorem St.rdI {xs : List Int} (h : St w0 w ks) (i : Nat) (hk : ks[i]? = some (CkI t A n c xs)) : RdI w A n xs := by
  have hl : xs.length = n := by have := (h.get hk).1; simpa using this
  exact ⟨hl, (h.rd i hk).congr fun j hj => by have hj' : j < n := hj; simp [List.getD_eq_getElem?_getD, List.getElem?_eq_getElem (show j < xs.length by omega)]⟩
theorem St.rdB {xs : List Bool} (h : St w0 w ks) (i : Nat) (hk : ks[i]? = some (CkB t A n c xs)) : RdB w A n xs := by
  have hl : xs.length = n := by have := (h.get hk).1; simpa using this
  exact ⟨hl, (h.rd i hk).congr fun j hj => by have hj' : j < n := hj; simp [List.getD_eq_getElem?_getD, List.getElem?_eq_getElem (show j < xs.length by omega)]⟩
theorem St.rdR {xs : List SlV} (h : St w0 w ks) (i : Nat) (hk : ks[i]? = some (CkR t A n c xs)) : RdR w A n xs := by
  have hl : xs.length = n := by have := (h.get hk).1; simpa using this
  exact ⟨hl, (h.rd i hk).congr fun j hj => by have hj' : j < n := hj; simp [List.getD_eq_getElem?_getD, List.getElem?_eq_getElem (show j < xs.length by omega)]⟩
theorem St.oldI {xs : List Int} (h : St w0 w ks) (hR : RdI w0 A n xs) : RdI w A n xs := ⟨hR.1, h.old hR.2⟩
theorem St.oldB {xs : List Bool} (h : St w0 w ks) (hR : RdB w0 A n xs) : RdB w A n xs := ⟨hR.1, h.old hR.2⟩
theorem St.oldR {xs : List SlV} (h : St w0 w ks) (hR : RdR w0 A n xs) : RdR w A n xs := ⟨hR.1, h.old hR.2⟩
theorem St.cap {k : Ck} (h : St w0 w ks) (i : Nat) (hk : ks[i]? = some k) : k.n ≤ k.c ∧ k.c ≤ maxLen := ⟨(h.get hk).2.1, (h.get hk).2.2.1⟩
theorem St.lenI {xs : List Int} (h : St w0 w ks) (i : Nat) (hk : ks[i]? = some (CkI t A n c xs)) : xs.length = n := (h.rdI i hk).1
theorem RdI.later {xs : List Int} (h : RdI w A n xs) (hb : Below w.heap.size w w') : RdI w' A n xs := ⟨h.1, h.2.below hb⟩
theorem RdB.later {xs : List Bool} (h : RdB w A n xs) (hb : Below w.heap.size w w') : RdB w' A n xs := ⟨h.1, h.2.below hb⟩
theorem RdR.later {xs : List SlV} (h : RdR w A n xs) (hb : Below w.heap.size w w') : RdR w' A n xs := ⟨h.1, h.2.below hb⟩
theorem RdI.len {xs : List Int} (h : RdI w A n xs) : xs.length = n := h.1
theorem RdI.nil : RdI w none 0 [] := ⟨rfl, fun k hk => by omega⟩
theorem RdR.nil : RdR w none 0 [] := ⟨rfl, fun k hk => by omega⟩
end

section
variable {P : Program} {N : Nat} {ops : Array Oper} {K : Env → World → Prop} {rest : List Oper} {e : Env} {w0 w w' : World} {ks : List Ck} {d : Nat} {ty : TypeId} {pos : String} {af : Array Edge}

theorem Ops.idx {t el : TypeId} {z : Value} {b : Nat} [Und P t (.slice el)] [Inf P el z 1 b] {x ix : Operand} {A : Option Addr} {n c : Nat} {k : IntKind} {i : Int} {f : Nat → Value} (hR : Rd w A n f)
    (hx : ev e x = .slice A n c) (hy : ev e ix = .int k i) (hb : Nat.blt d N = true) (h0 : 0 ≤ i) (h1 : i < (n : Int)) (hK : Ops P N ops K rest (upd e d (.pointer (ptrAt A i.toNat))) w) :
    Ops P N ops K (⟨some d, .indexAddr t x ix, ty, pos, af, none⟩ :: rest) e w := by
  obtain ⟨p, hp, _⟩ := hR i.toNat (by omega)
  obtain ⟨q, rfl⟩ : ∃ q, A = some q := by cases A with | none => simp [ptrAt] at hp | some q => exact ⟨q, rfl⟩
  obtain ⟨inf, hi, _, hs, _⟩ := Inf.get P el
  refine .val (w' := w) ?_ hb hK
  simp [execOp, Instr.indexAt, hx, hy, asIntOf, run_underlying (Und.out (P := P) (t := t)), h0, h1, sizeOf, typeInfo, hi, hs, ptrAt]

/-- not a struct, not an array -/
def plainTy : TypeDesc → Bool
  | .struct _ => false
  | .array _ _ => false
  | _ => true
theorem run_isAgg {t : TypeId} {u : TypeDesc} (hu : P.underlying t = some u) (hp : plainTy u = true) : (isAgg t).run P w = .ok false w := by
  cases u <;> simp [plainTy] at hp <;> simp [isAgg, run_underlying hu]

theorem Ops.ld {t : TypeId} {u : TypeDesc} [Und P t u] {x : Operand} {A : Option Addr} {n j : Nat} {f : Nat → Value} {v : Value} (hR : Rd w A n f) (hx : ev e x = .pointer (ptrAt A j)) (hj : j < n) (hv : f j = v) (hp : plainTy u = true) (hb : Nat.blt d N = true)
    (hK : Ops P N ops K rest (upd e d v) w) : Ops P N ops K (⟨some d, .load t x, ty, pos, af, none⟩ :: rest) e w := by
  obtain ⟨p, hp', hc⟩ := hR j hj
  subst hv
  refine .val (w' := w) ?_ hb hK
  simp [execOp, Instr.loadAt, hx, hp', Instr.sureAddr, loadVar, run_isAgg (Und.out (P := P) (t := t)) hp, hc]

theorem Ops.ld_int {t : TypeId} {u : TypeDesc} [Und P t u] {x : Operand} {A : Option Addr} {n : Nat} {i : Int} {xs : List Int} (hR : RdI w A n xs) (hx : ev e x = .pointer (ptrAt A i.toNat)) (hj : i.toNat < n) (hp : plainTy u = true) (hb : Nat.blt d N = true)
    (hK : Ops P N ops K rest (upd e d (.int .i64 (gi xs i))) w) : Ops P N ops K (⟨some d, .load t x, ty, pos, af, none⟩ :: rest) e w := .ld hR.2 hx hj rfl hp hb hK
theorem Ops.ld_bool {t : TypeId} {u : TypeDesc} [Und P t u] {x : Operand} {A : Option Addr} {n : Nat} {i : Int} {xs : List Bool} (hR : RdB w A n xs) (hx : ev e x = .pointer (ptrAt A i.toNat)) (hj : i.toNat < n) (hp : plainTy u = true) (hb : Nat.blt d N = true)
    (hK : Ops P N ops K rest (upd e d (.bool (gb xs i))) w) : Ops P N ops K (⟨some d, .load t x, ty, pos, af, none⟩ :: rest) e w := .ld hR.2 hx hj rfl hp hb hK
theorem Ops.ld_sl {t : TypeId} {u : TypeDesc} [Und P t u] {x : Operand} {A : Option Addr} {n : Nat} {i : Int} {xs : List SlV} (hR : RdR w A n xs) (hx : ev e x = .pointer (ptrAt A i.toNat)) (hj : i.toNat < n) (hp : plainTy u = true) (hb : Nat.blt d N = true)
    (hK : Ops P N ops K rest (upd e d (.slice (rg xs i).a (rg xs i).n (rg xs i).c)) w) : Ops P N ops K (⟨some d, .load t x, ty, pos, af, none⟩ :: rest) e w := .ld hR.2 hx hj rfl hp hb hK

theorem Ops.st {t : TypeId} {z : Value} {b : Nat} [Inf P t z 1 b] {a x : Operand} {i j : Nat} {k : Ck} {u : Value} (hS : St w0 w ks) (hk : ks[i]? = some k) (ha : ev e a = .pointer (ptrAt k.A j)) (hx : ev e x = u) (h1 : u.oneCell' = true) (hj : j < k.n)
    (hK : ∀ w', St w0 w' (ks.set i { k with vs := k.vs.set j u }) → Ops P N ops K rest e w') : Ops P N ops K (⟨none, .store t a x, ty, pos, af, none⟩ :: rest) e w := by
  obtain ⟨p, hp, ⟨v, hc⟩, hf, hS'⟩ := hS.store i hk hj u
  obtain ⟨inf, hi, _, hs, _⟩ := Inf.get P t
  refine .unit (w' := w.setCell p u) ?_ (hK _ hS')
  have hcells : u.cells = #[u] := by cases u <;> simp [Value.oneCell'] at h1 <;> rfl
  simp [execOp, Instr.storeAt, ha, hx, hp, Instr.sureAddr, storeVar, sizeOf, typeInfo, hi, hs, hcells, storeCells, run_store _ _ _ _ _ h1, hc, hf, Addr.add]

theorem Ops.st_int {t te : TypeId} {z : Value} {b : Nat} [Inf P t z 1 b] {a x : Operand} (m : Nat) {i : Int} {A : Option Addr} {n c : Nat} {xs : List Int} {u : Int} (hS : St w0 w ks) (hk : ks[m]? = some (CkI te A n c xs)) (ha : ev e a = .pointer (ptrAt A i.toNat)) (hx : ev e x = .int .i64 u) (hj : i.toNat < n)
    (hK : ∀ w', St w0 w' (ks.set m (CkI te A n c (xs.set i.toNat u))) → Ops P N ops K rest e w') : Ops P N ops K (⟨none, .store t a x, ty, pos, af, none⟩ :: rest) e w :=
  .st hS hk ha hx rfl hj fun w' h => hK w' (by simpa [CkI, List.map_set] using h)
theorem Ops.st_bool {t te : TypeId} {z : Value} {b : Nat} [Inf P t z 1 b] {a x : Operand} (m : Nat) {i : Int} {A : Option Addr} {n c : Nat} {xs : List Bool} {u : Bool} (hS : St w0 w ks) (hk : ks[m]? = some (CkB te A n c xs)) (ha : ev e a = .pointer (ptrAt A i.toNat)) (hx : ev e x = .bool u) (hj : i.toNat < n)
    (hK : ∀ w', St w0 w' (ks.set m (CkB te A n c (xs.set i.toNat u))) → Ops P N ops K rest e w') : Ops P N ops K (⟨none, .store t a x, ty, pos, af, none⟩ :: rest) e w :=
  .st hS hk ha hx rfl hj fun w' h => hK w' (by simpa [CkB, List.map_set] using h)
theorem Ops.st_sl {t te : TypeId} {z : Value} {b : Nat} [Inf P t z 1 b] {a x : Operand} (m : Nat) {i : Int} {A : Option Addr} {n c : Nat} {xs : List SlV} {A1 : Option Addr} {n1 c1 : Nat} (hS : St w0 w ks) (hk : ks[m]? = some (CkR te A n c xs)) (ha : ev e a = .pointer (ptrAt A i.toNat)) (hx : ev e x = .slice A1 n1 c1) (hj : i.toNat < n)
    (hK : ∀ w', St w0 w' (ks.set m (CkR te A n c (xs.set i.toNat ⟨A1, n1, c1⟩))) → Ops P N ops K rest e w') : Ops P N ops K (⟨none, .store t a x, ty, pos, af, none⟩ :: rest) e w :=
  .st hS hk ha hx rfl hj fun w' h => hK w' (by simpa [CkR, List.map_set, SlV.v] using h)

theorem madeCells_one (z : Value) (n : Nat) : (madeCells #[z] n) = (List.replicate n z).toArray := by
  rw [← toList_madeCells_one z n]

theorem Ops.mk {t el : TypeId} {z : Value} {b : Nat} [Und P t (.slice el)] [Inf P el z 1 b] {x : Operand} {k : IntKind} (n : Nat) (hS : St w0 w ks) (hx : ev e x = .int k (n : Int)) (hz : z.cells = #[z]) (hb : Nat.blt d N = true) (hn : b * n ≤ 281474976710656 ∧ n ≤ 9223372036854775807)
    (hK : ∀ A w', St w0 w' (⟨A, n, n, el, List.replicate n z⟩ :: ks) → Ops P N ops K rest (upd e d (.slice A n n)) w') : Ops P N ops K (⟨some d, .makeSlice t x x, ty, pos, af, none⟩ :: rest) e w := by
  obtain ⟨inf, hi, hz0, hs, hby⟩ := Inf.get P el
  have hr := run_make_row (P := P) t el inf z (Und.out (P := P) (t := t)) hi hz0 hs hz k k n (by rw [hby]; exact hn.1) hn.2 w
  have hA := hS.alloc (List.replicate n z) el (by simp [maxLen]; omega)
  rw [madeCells_one] at hr
  refine .val (w' := w.alloc (.cells (List.replicate n z).toArray el)) ?_ hb (hK _ _ (by simpa using hA))
  simp only [execOp, hx, Sem.run_bind, hr, Result.andThen_ok, Sem.run_pure]

theorem Ops.mk_int {t el : TypeId} {z : Value} {b : Nat} [Und P t (.slice el)] [Inf P el z 1 b] {x : Operand} {k : IntKind} {i : Int} (hS : St w0 w ks) (hx : ev e x = .int k i) (hz : z.cells = #[z]) (hb : Nat.blt d N = true) (h0 : 0 ≤ i) (hn : b * i.toNat ≤ 281474976710656 ∧ i ≤ 9223372036854775807)
    (hK : ∀ A w', St w0 w' (⟨A, i.toNat, i.toNat, el, List.replicate i.toNat z⟩ :: ks) → Ops P N ops K rest (upd e d (.slice A i.toNat i.toNat)) w') : Ops P N ops K (⟨some d, .makeSlice t x x, ty, pos, af, none⟩ :: rest) e w :=
  .mk i.toNat hS (by rw [hx, Int.toNat_of_nonneg h0]) hz hb ⟨hn.1, by omega⟩ hK

theorem Ops.mkB {t el : TypeId} {b : Nat} {v : Bool} [Und P t (.slice el)] [Inf P el (.bool v) 1 b] {x : Operand} {k : IntKind} (n : Nat) (hS : St w0 w ks) (hx : ev e x = .int k (n : Int)) (hb : Nat.blt d N = true) (hn : b * n ≤ 281474976710656 ∧ n ≤ 9223372036854775807)
    (hK : ∀ A w', St w0 w' (CkB el A n n (List.replicate n v) :: ks) → Ops P N ops K rest (upd e d (.slice A n n)) w') : Ops P N ops K (⟨some d, .makeSlice t x x, ty, pos, af, none⟩ :: rest) e w :=
  .mk n hS hx rfl hb hn fun A w' h => hK A w' (by unfold CkB; rw [List.map_replicate]; exact h)
theorem Ops.mkI {t el : TypeId} {b : Nat} {v : Int} [Und P t (.slice el)] [Inf P el (.int .i64 v) 1 b] {x : Operand} {k : IntKind} (n : Nat) (hS : St w0 w ks) (hx : ev e x = .int k (n : Int)) (hb : Nat.blt d N = true) (hn : b * n ≤ 281474976710656 ∧ n ≤ 9223372036854775807)
    (hK : ∀ A w', St w0 w' (CkI el A n n (List.replicate n v) :: ks) → Ops P N ops K rest (upd e d (.slice A n n)) w') : Ops P N ops K (⟨some d, .makeSlice t x x, ty, pos, af, none⟩ :: rest) e w :=
  .mk n hS hx rfl hb hn fun A w' h => hK A w' (by unfold CkI; rw [List.map_replicate]; exact h)
theorem Ops.mkR {t el : TypeId} {b : Nat} [Und P t (.slice el)] [Inf P el (.slice none 0 0) 1 b] {x : Operand} {k : IntKind} (n : Nat) (hS : St w0 w ks) (hx : ev e x = .int k (n : Int)) (hb : Nat.blt d N = true) (hn : b * n ≤ 281474976710656 ∧ n ≤ 9223372036854775807)
    (hK : ∀ A w', St w0 w' (CkR el A n n (List.replicate n slNil) :: ks) → Ops P N ops K rest (upd e d (.slice A n n)) w') : Ops P N ops K (⟨some d, .makeSlice t x x, ty, pos, af, none⟩ :: rest) e w :=
  .mk n hS hx rfl hb hn fun A w' h => hK A w' (by unfold CkR; rw [List.map_replicate]; exact h)

/-! literals -/
theorem arr_range (f : Nat → Value) (n : Nat) : (Array.range n).map f = ((List.range n).map f).toArray := by apply Array.ext'; simp
theorem Ops.bs0 {t el : TypeId} {z : Value} {b : Nat} [Und P t (.slice el)] [Inf P el z 1 b] (hS : St w0 w ks) (hb : Nat.blt d N = true)
    (hK : ∀ A w', St w0 w' (⟨A, 0, 0, el, []⟩ :: ks) → Ops P N ops K rest (upd e d (.slice A 0 0)) w') : Ops P N ops K (⟨some d, .buildSlice t 0 #[], ty, pos, af, none⟩ :: rest) e w := by
  obtain ⟨inf, hi, hz0, hs, hby⟩ := Inf.get P el
  refine .val (w' := w.alloc (.cells #[] el)) ?_ hb (hK _ _ (hS.alloc [] el (by simp)))
  simp [execOp, Instr.buildSlice, run_underlying (Und.out (P := P) (t := t)), sizeOf, typeInfo, hi, hs, Instr.fill, newRow, arr_range]
theorem Ops.bs1 {t el : TypeId} {z : Value} {b : Nat} [Und P t (.slice el)] [Inf P el z 1 b] {x0 : Operand} {v0 : Value} (hS : St w0 w ks) (h0 : ev e x0 = v0) (c0 : v0.oneCell' = true) (hz : z.cells = #[z]) (hb : Nat.blt d N = true)
    (hK : ∀ A w', St w0 w' (⟨A, 1, 1, el, [v0]⟩ :: ks) → Ops P N ops K rest (upd e d (.slice A 1 1)) w') : Ops P N ops K (⟨some d, .buildSlice t 1 #[(0, x0)], ty, pos, af, none⟩ :: rest) e w := by
  obtain ⟨inf, hi, hz0, hs, hby⟩ := Inf.get P el
  have e0 : v0.cells = #[v0] := by cases v0 <;> simp [Value.oneCell'] at c0 <;> rfl
  refine .val (w' := w.alloc (.cells #[v0] el)) ?_ hb (hK _ _ (hS.alloc [v0] el (by simp [maxLen])))
  simp [execOp, Instr.buildSlice, run_underlying (Und.out (P := P) (t := t)), sizeOf, typeInfo, zeroValue, hi, hs, hz0, hz, Instr.fill, newRow, h0, e0, arr_range, List.range_succ]
theorem Ops.bs2 {t el : TypeId} {z : Value} {b : Nat} [Und P t (.slice el)] [Inf P el z 1 b] {x0 x1 : Operand} {v0 v1 : Value} (hS : St w0 w ks) (h0 : ev e x0 = v0) (h1 : ev e x1 = v1) (c0 : v0.oneCell' = true) (c1 : v1.oneCell' = true) (hz : z.cells = #[z]) (hb : Nat.blt d N = true)
    (hK : ∀ A w', St w0 w' (⟨A, 2, 2, el, [v0, v1]⟩ :: ks) → Ops P N ops K rest (upd e d (.slice A 2 2)) w') : Ops P N ops K (⟨some d, .buildSlice t 2 #[(0, x0), (1, x1)], ty, pos, af, none⟩ :: rest) e w := by
  obtain ⟨inf, hi, hz0, hs, hby⟩ := Inf.get P el
  have e0 : v0.cells = #[v0] := by cases v0 <;> simp [Value.oneCell'] at c0 <;> rfl
  have e1 : v1.cells = #[v1] := by cases v1 <;> simp [Value.oneCell'] at c1 <;> rfl
  refine .val (w' := w.alloc (.cells #[v0, v1] el)) ?_ hb (hK _ _ (hS.alloc [v0, v1] el (by simp [maxLen])))
  simp [execOp, Instr.buildSlice, run_underlying (Und.out (P := P) (t := t)), sizeOf, typeInfo, zeroValue, hi, hs, hz0, hz, Instr.fill, newRow, h0, e0, h1, e1, arr_range, List.range_succ]

/-! boxes, structs -/
theorem Ops.box {el : TypeId} {x : Operand} {v : Value} (hS : St w0 w ks) (hx : ev e x = v) (hb : Nat.blt d N = true) (hm : v.cells.size ≤ maxLen)
    (hK : ∀ A w', St w0 w' (⟨A, v.cells.size, v.cells.size, el, v.cells.toList⟩ :: ks) → Ops P N ops K rest (upd e d (.pointer A)) w') : Ops P N ops K (⟨some d, .box el x, ty, pos, af, none⟩ :: rest) e w := by
  have hA := hS.alloc v.cells.toList el (by simpa using hm)
  refine .val (w' := w.alloc (.cells v.cells el)) ?_ hb (hK _ _ (by simpa using hA))
  simp [execOp, Instr.box, newVar, newRow, hx]
theorem Ops.box_agg {el : TypeId} {x : Operand} {cs : Array Value} (hS : St w0 w ks) (hx : ev e x = .agg cs) (hb : Nat.blt d N = true) (hm : Nat.ble cs.size 100 = true)
    (hK : ∀ A w', St w0 w' (⟨A, cs.size, cs.size, el, cs.toList⟩ :: ks) → Ops P N ops K rest (upd e d (.pointer A)) w') : Ops P N ops K (⟨some d, .box el x, ty, pos, af, none⟩ :: rest) e w :=
  .box hS hx hb (by show cs.size ≤ maxLen; have := Nat.le_of_ble_eq_true hm; simp only [maxLen]; omega) hK
theorem Ops.new {el : TypeId} {z : Value} {s b : Nat} [Inf P el z s b] (hS : St w0 w ks) (hb : Nat.blt d N = true) (hm' : Nat.ble z.cells.size 100 = true)
    (hK : ∀ A w', St w0 w' (⟨A, z.cells.size, z.cells.size, el, z.cells.toList⟩ :: ks) → Ops P N ops K rest (upd e d (.pointer A)) w') : Ops P N ops K (⟨some d, .alloc el, ty, pos, af, none⟩ :: rest) e w := by
  obtain ⟨inf, hi, hz0, hs, hby⟩ := Inf.get P el
  have hm : z.cells.size ≤ maxLen := by have := Nat.le_of_ble_eq_true hm'; simp only [maxLen]; omega
  have hA := hS.alloc z.cells.toList el (by simpa using hm)
  refine .val (w' := w.alloc (.cells z.cells el)) ?_ hb (hK _ _ (by simpa using hA))
  simp [execOp, Instr.alloc, zeroValue, typeInfo, hi, hz0, newVar, newRow]
theorem Ops.nilp {x : Operand} {A : Option Addr} {n : Nat} {f : Nat → Value} (hR : Rd w A n f) (hn : 0 < n) (hx : ev e x = .pointer A) (hb : Nat.blt d N = true) (hK : Ops P N ops K rest (upd e d (.pointer A)) w) :
    Ops P N ops K (⟨some d, .nilCheck x, ty, pos, af, none⟩ :: rest) e w := by
  obtain ⟨p, hp, _⟩ := hR 0 hn
  obtain ⟨q, rfl⟩ : ∃ q, A = some q := by cases A with | none => simp [ptrAt] at hp | some q => exact ⟨q, rfl⟩
  exact .nilc hx hb hK
def fieldOf : List Field → Nat → Option (TypeId × Nat)
  | f :: _, 0 => some (f.type, f.offset)
  | _ :: r, m + 1 => fieldOf r m
  | [], _ => none
theorem fieldOf_get : ∀ {l : List Field} {m : Nat} {ft off : Nat}, fieldOf l m = some (ft, off) → ∃ fd, l[m]? = some fd ∧ fd.type = ft ∧ fd.offset = off
  | [], _, _, _, h => by simp [fieldOf] at h
  | f :: _, 0, _, _, h => by simp [fieldOf] at h; exact ⟨f, rfl, h.1, h.2⟩
  | _ :: r, m + 1, _, _, h => by simpa using fieldOf_get (l := r) (m := m) h
theorem Ops.fld {s : TypeId} {fs : Array Field} [Und P s (.struct fs)] {x : Operand} {A : Option Addr} {n m ft off : Nat} {f : Nat → Value} {z : Value} {sz b : Nat} (hR : Rd w A n f) (hx : ev e x = .pointer A) (hf : fieldOf fs.toList m = some (ft, off)) (hn : Nat.blt 0 n = true) (hb : Nat.blt d N = true) (hI : Inf P ft z (sz + 1) b)
    (hK : Ops P N ops K rest (upd e d (.pointer (ptrAt A off))) w) : Ops P N ops K (⟨some d, .fieldAddr s x m, ty, pos, af, none⟩ :: rest) e w := by
  obtain ⟨p, hp, _⟩ := hR 0 (by simpa [Nat.blt_eq] using hn)
  obtain ⟨q, rfl⟩ : ∃ q, A = some q := by cases A with | none => simp [ptrAt] at hp | some q => exact ⟨q, rfl⟩
  obtain ⟨fd, hf1, rfl, rfl⟩ := fieldOf_get hf
  have hf2 : fs[m]? = some fd := by simpa using hf1
  obtain ⟨inf, hi, hz0, hs, hby⟩ := Inf.get P fd.type
  refine .val (w' := w) ?_ hb hK
  simp [execOp, Instr.fieldAt, run_underlying (Und.out (P := P) (t := s)), hf2, hx, Instr.sureAddr, fieldPlace, sizeOf, typeInfo, hi, hs, ptrAt]
/-- a whole struct read out of its place -/
theorem Ops.ld_agg {t : TypeId} {fs : Array Field} {z : Value} {b : Nat} (m : Nat) [Und P t (.struct fs)] [Inf P t z (m + 1) b] {x : Operand} {A : Option Addr} {f : Nat → Value} {cs : Array Value} (hR : Rd w A (m + 1) f) (hx : ev e x = .pointer A) (hcs : ((List.range (m + 1)).map f).toArray = cs) (hb : Nat.blt d N = true)
    (hK : Ops P N ops K rest (upd e d (.agg cs)) w) : Ops P N ops K (⟨some d, .load t x, ty, pos, af, none⟩ :: rest) e w := by
  obtain ⟨p, hp, _⟩ := hR 0 (by omega)
  obtain ⟨q, rfl⟩ : ∃ q, A = some q := by cases A with | none => simp [ptrAt] at hp | some q => exact ⟨q, rfl⟩
  obtain ⟨inf, hi, hz0, hs, hby⟩ := Inf.get P t
  have hl := run_loadCells (P := P) w q (m + 1) f (fun j hj => by
    obtain ⟨p, hp, hc⟩ := hR j hj
    simp [ptrAt] at hp
    rw [hp]; exact hc)
  subst hcs
  refine .val (w' := w) ?_ hb hK
  simp [execOp, Instr.loadAt, hx, Instr.sureAddr, loadVar, isAgg, run_underlying (Und.out (P := P) (t := t)), sizeOf, typeInfo, hi, hs, hl]
theorem ptrAt_zero (A : Option Addr) : ptrAt A 0 = A := by cases A <;> simp [ptrAt, Addr.add]
theorem ptrAt_ptrAt (A : Option Addr) (i j : Nat) : ptrAt (ptrAt A i) j = ptrAt A (i + j) := by
  cases A with
  | none => rfl
  | some q => simp only [ptrAt, Option.map_some]; unfold Addr.add; by_cases h1 : i = 0 <;> by_cases h2 : j = 0 <;> simp [h1, h2, Nat.add_assoc]
theorem Rd.behind {A : Option Addr} {n o m : Nat} {f : Nat → Value} (hR : Rd w A n f) (h : o + m ≤ n) : Rd w (ptrAt A o) m (fun j => f (o + j)) := fun j hj => by
  obtain ⟨p, hp, hc⟩ := hR (o + j) (by omega)
  exact ⟨p, by rw [ptrAt_ptrAt]; exact hp, hc⟩
/-- a whole struct read out of a field -/
theorem Ops.ld_aggf {t : TypeId} {fs : Array Field} {z : Value} {b n o : Nat} (m : Nat) [Und P t (.struct fs)] [Inf P t z (m + 1) b] {x : Operand} {A : Option Addr} {f : Nat → Value} {cs : Array Value} (hR : Rd w A n f) (hx : ev e x = .pointer (ptrAt A o)) (hn2 : Nat.ble (o + (m + 1)) n = true) (hcs : ((List.range (m + 1)).map fun j => f (o + j)).toArray = cs) (hb : Nat.blt d N = true)
    (hK : Ops P N ops K rest (upd e d (.agg cs)) w) : Ops P N ops K (⟨some d, .load t x, ty, pos, af, none⟩ :: rest) e w :=
  .ld_agg m (hR.behind (Nat.le_of_ble_eq_true hn2)) hx hcs hb hK
/-- boxes told plainly -/
abbrev Bx (t : TypeId) (n : Nat) (A : Option Addr) (vs : List Value) : Ck := ⟨A, n, n, t, vs⟩
theorem Ops.box1 {el : TypeId} {x : Operand} {v0 : Value} (hS : St w0 w ks) (hx : ev e x = .agg #[v0]) (hb : Nat.blt d N = true)
    (hK : ∀ A w', St w0 w' (Bx el 1 A [v0] :: ks) → Ops P N ops K rest (upd e d (.pointer A)) w') : Ops P N ops K (⟨some d, .box el x, ty, pos, af, none⟩ :: rest) e w := .box_agg hS hx hb rfl hK
theorem Ops.box2 {el : TypeId} {x : Operand} {v0 v1 : Value} (hS : St w0 w ks) (hx : ev e x = .agg #[v0, v1]) (hb : Nat.blt d N = true)
    (hK : ∀ A w', St w0 w' (Bx el 2 A [v0, v1] :: ks) → Ops P N ops K rest (upd e d (.pointer A)) w') : Ops P N ops K (⟨some d, .box el x, ty, pos, af, none⟩ :: rest) e w := .box_agg hS hx hb rfl hK
theorem Ops.new1 {el : TypeId} {v0 : Value} {s b : Nat} [Inf P el (.agg #[v0]) s b] (hS : St w0 w ks) (hb : Nat.blt d N = true)
    (hK : ∀ A w', St w0 w' (Bx el 1 A [v0] :: ks) → Ops P N ops K rest (upd e d (.pointer A)) w') : Ops P N ops K (⟨some d, .alloc el, ty, pos, af, none⟩ :: rest) e w := .new (el := el) (z := .agg #[v0]) (s := s) (b := b) hS hb rfl hK
theorem Ops.new2 {el : TypeId} {v0 v1 : Value} {s b : Nat} [Inf P el (.agg #[v0, v1]) s b] (hS : St w0 w ks) (hb : Nat.blt d N = true)
    (hK : ∀ A w', St w0 w' (Bx el 2 A [v0, v1] :: ks) → Ops P N ops K rest (upd e d (.pointer A)) w') : Ops P N ops K (⟨some d, .alloc el, ty, pos, af, none⟩ :: rest) e w := .new (el := el) (z := .agg #[v0, v1]) (s := s) (b := b) hS hb rfl hK
theorem Ops.ldf_s {t : TypeId} {u : TypeDesc} [Und P t u] {x : Operand} {A A1 : Option Addr} {n j n1 c1 : Nat} {f : Nat → Value} (hR : Rd w A n f) (hx : ev e x = .pointer (ptrAt A j)) (hj : Nat.blt j n = true) (hv : f j = .slice A1 n1 c1) (hp : plainTy u = true) (hb : Nat.blt d N = true)
    (hK : Ops P N ops K rest (upd e d (.slice A1 n1 c1)) w) : Ops P N ops K (⟨some d, .load t x, ty, pos, af, none⟩ :: rest) e w := .ld hR hx (by simpa [Nat.blt_eq] using hj) hv hp hb hK
theorem Ops.ldf_i {t : TypeId} {u : TypeDesc} [Und P t u] {x : Operand} {A : Option Addr} {n j : Nat} {k : IntKind} {i : Int} {f : Nat → Value} (hR : Rd w A n f) (hx : ev e x = .pointer (ptrAt A j)) (hj : Nat.blt j n = true) (hv : f j = .int k i) (hp : plainTy u = true) (hb : Nat.blt d N = true)
    (hK : Ops P N ops K rest (upd e d (.int k i)) w) : Ops P N ops K (⟨some d, .load t x, ty, pos, af, none⟩ :: rest) e w := .ld hR hx (by simpa [Nat.blt_eq] using hj) hv hp hb hK
theorem Ops.ldf_b {t : TypeId} {u : TypeDesc} [Und P t u] {x : Operand} {A : Option Addr} {n j : Nat} {i : Bool} {f : Nat → Value} (hR : Rd w A n f) (hx : ev e x = .pointer (ptrAt A j)) (hj : Nat.blt j n = true) (hv : f j = .bool i) (hp : plainTy u = true) (hb : Nat.blt d N = true)
    (hK : Ops P N ops K rest (upd e d (.bool i)) w) : Ops P N ops K (⟨some d, .load t x, ty, pos, af, none⟩ :: rest) e w := .ld hR hx (by simpa [Nat.blt_eq] using hj) hv hp hb hK

def setL (vs : List Value) (o : Nat) : List Value → List Value
  | [] => vs
  | c :: r => setL (vs.set o c) (o + 1) r
theorem run_store_list {k : Ck} (i : Nat) : ∀ (cs : List Value) (ks : List Ck) (vs : List Value) (w : World) (o : Nat) (p : Addr), St w0 w ks → ks[i]? = some { k with vs := vs } → ptrAt k.A o = some p → o + cs.length ≤ k.n → (∀ u ∈ cs, u.oneCell' = true) → ∀ m q, ptrAt k.A m = some q → o = m + (o - m) →
    m ≤ o → ∃ w', (storeCells q cs (o - m)).run P w = .ok () w' ∧ St w0 w' (ks.set i { k with vs := setL vs o cs })
  | [], ks, vs, w, o, p, hS, hk, _, _, _, m, q, _, _, _ => ⟨w, by simp [storeCells], by
      have : ks.set i { k with vs := setL vs o [] } = ks := by
        apply List.ext_getElem?
        intro j
        rw [List.getElem?_set]
        split
        · rename_i e; subst e; rw [hk, if_pos (List.getElem?_eq_some_iff.1 hk).1]; rfl
        · rfl
      rw [this]; exact hS⟩
  | c :: r, ks, vs, w, o, p, hS, hk, hp, hl, h1, m, q, hq, ho, hm => by
    simp only [List.length_cons] at hl
    obtain ⟨p', hp', ⟨v, hc⟩, hf, hS'⟩ := hS.store i hk (j := o) (by show o < k.n; omega) c
    have hqo : q.add (o - m) = p' := by
      have : ptrAt (ptrAt k.A m) (o - m) = some p' := by rw [ptrAt_ptrAt, ← ho]; exact hp'
      rw [hq] at this
      simpa [ptrAt] using this
    have hlt := (List.getElem?_eq_some_iff.1 hk).1
    by_cases hr : r = []
    · subst hr
      refine ⟨_, ?_, hS'⟩
      simp [storeCells, hqo, run_store _ _ _ _ _ (h1 c (by simp)), hc, hf]
    · have hrl : 0 < r.length := by cases r with | nil => exact absurd rfl hr | cons _ _ => simp
      obtain ⟨p2, hp2⟩ : ∃ p2, ptrAt k.A (o + 1) = some p2 := by
        obtain ⟨x, hx, _⟩ := (hS.rd i hk) (o + 1) (by show o + 1 < k.n; omega)
        exact ⟨x, hx⟩
      obtain ⟨w2, hrun, hS2⟩ := run_store_list i r _ (vs.set o c) _ (o + 1) p2 hS' (by rw [List.getElem?_set]; simp [hlt]) hp2 (by omega) (fun u hu => h1 u (by simp [hu])) m q hq (by omega) (by omega)
      refine ⟨w2, ?_, by simpa [setL] using hS2⟩
      have e1 : o + 1 - m = o - m + 1 := by omega
      rw [e1] at hrun
      simp [storeCells, hqo, run_store _ _ _ _ _ (h1 c (by simp)), hc, hf, hrun]
/-- a whole struct stored -/
theorem Ops.st_aggf {t : TypeId} {z : Value} {b o : Nat} (m : Nat) [Inf P t z m b] {a x : Operand} (i : Nat) {k : Ck} {cs : Array Value} (hS : St w0 w ks) (hk : ks[i]? = some k) (ha : ev e a = .pointer (ptrAt k.A o)) (hx : ev e x = .agg cs) (hcs : cs.size = m) (h1' : cs.toList.all Value.oneCell' = true) (hn1 : Nat.blt 0 m = true) (hn2 : Nat.ble (o + m) k.n = true)
    (hK : ∀ w', St w0 w' (ks.set i { k with vs := setL k.vs o cs.toList }) → Ops P N ops K rest e w') : Ops P N ops K (⟨none, .store t a x, ty, pos, af, none⟩ :: rest) e w := by
  have hn : 0 < m ∧ o + m ≤ k.n := ⟨by simpa [Nat.blt_eq] using hn1, Nat.le_of_ble_eq_true hn2⟩
  have h1 : ∀ u ∈ cs.toList, u.oneCell' = true := fun u hu => List.all_eq_true.1 h1' u hu
  obtain ⟨p, hp, _⟩ := (hS.rd i hk) o (by omega)
  obtain ⟨w', hrun, hS'⟩ := run_store_list (P := P) (k := k) i cs.toList ks k.vs w o p hS hk hp (by simp; omega) h1 o p hp (by omega) (by omega)
  obtain ⟨inf, hi, _, hs, _⟩ := Inf.get P t
  refine .unit (w' := w') ?_ (hK _ hS')
  rw [Nat.sub_self] at hrun
  simp [execOp, Instr.storeAt, ha, hx, hp, Instr.sureAddr, storeVar, sizeOf, typeInfo, hi, hs, Value.cells, hcs, hrun]
theorem Ops.st_agg {t : TypeId} {z : Value} {b : Nat} (m : Nat) [Inf P t z m b] {a x : Operand} (i : Nat) {k : Ck} {cs : Array Value} (hS : St w0 w ks) (hk : ks[i]? = some k) (ha : ev e a = .pointer k.A) (hx : ev e x = .agg cs) (hcs : cs.size = m) (h1 : cs.toList.all Value.oneCell' = true) (hn1 : Nat.blt 0 m = true) (hn2 : Nat.ble (0 + m) k.n = true)
    (hK : ∀ w', St w0 w' (ks.set i { k with vs := setL k.vs 0 cs.toList }) → Ops P N ops K rest e w') : Ops P N ops K (⟨none, .store t a x, ty, pos, af, none⟩ :: rest) e w :=
  .st_aggf m i hS hk (by rw [ptrAt_zero]; exact ha) hx hcs h1 hn1 hn2 hK
/-- a field stored -/
theorem Ops.stf {t : TypeId} {z : Value} {b : Nat} [Inf P t z 1 b] {a x : Operand} (i : Nat) {j : Nat} {k : Ck} {u : Value} (hS : St w0 w ks) (hk : ks[i]? = some k) (ha : ev e a = .pointer (ptrAt k.A j)) (hx : ev e x = u) (h1 : u.oneCell' = true) (hj : Nat.blt j k.n = true)
    (hK : ∀ w', St w0 w' (ks.set i { k with vs := k.vs.set j u }) → Ops P N ops K rest e w') : Ops P N ops K (⟨none, .store t a x, ty, pos, af, none⟩ :: rest) e w := .st hS hk ha hx h1 (by simpa [Nat.blt_eq] using hj) hK

/-- a result that lies in memory -/
def retc (a n : Nat) (R : Value → World → Prop) : Post
  | .normal, e, w => ∃ A f, e a = .pointer A ∧ Rd w A n f ∧ R (.agg ((List.range n).map f).toArray) w
  | .ret, e, w => ∃ A f, e a = .pointer A ∧ Rd w A n f ∧ R (.agg ((List.range n).map f).toArray) w
  | _, _, _ => False
theorem retc_r {a n : Nat} {R : Value → World → Prop} {A : Option Addr} {f : Nat → Value} (h : e a = .pointer A) (hR : Rd w A n f) (h2 : R (.agg ((List.range n).map f).toArray) w) : retc a n R .ret e w := ⟨A, f, h, hR, h2⟩
theorem run_loadAgg {t : TypeId} {fs : Array Field} {z : Value} {b n : Nat} [Und P t (.struct fs)] [Inf P t z n b] {A : Option Addr} {f : Nat → Value} (hn : 0 < n) (hR : Rd w A n f) : ∃ q, A = some q ∧ (loadVar t q).run P w = .ok (.agg ((List.range n).map f).toArray) w := by
  obtain ⟨p, hp, _⟩ := hR 0 hn
  obtain ⟨q, rfl⟩ : ∃ q, A = some q := by cases A with | none => simp [ptrAt] at hp | some q => exact ⟨q, rfl⟩
  obtain ⟨inf, hi, hz0, hs, hby⟩ := Inf.get P t
  have hl := run_loadCells (P := P) w q n f (fun j hj => by
    obtain ⟨p, hp, hc⟩ := hR j hj
    simp [ptrAt] at hp
    rw [hp]; exact hc)
  exact ⟨q, rfl, by simp [loadVar, isAgg, run_underlying (Und.out (P := P) (t := t)), sizeOf, typeInfo, hi, hs, hl]⟩
theorem postc {fn : Func} {R : Value → World → Prop} {a t n b : Nat} {fs : Array Field} {z : Value} [Und P t (.struct fs)] [Inf P t z n b] (hr : fn.results = #[.cell a t]) (hn' : Nat.blt 0 n = true) : ∀ x a1 e w, Rep N a1 e → retc a n R x e w → bodyPost P fn (fun x w' => ∃ v, x = .returned v ∧ R v w') x a1 w := by
  intro x a1 e w he q
  have hn : 0 < n := by simpa [Nat.blt_eq] using hn'
  have hg := he.get a
  have key : ∀ (A : Option Addr) (f : Nat → Value), e a = .pointer A → Rd w A n f → (results fn a1.tmps).run P w = .ok (.agg ((List.range n).map f).toArray) w := by
    intro A f hA hR
    obtain ⟨q, rfl, hl⟩ := run_loadAgg (P := P) (t := t) hn hR
    rw [Array.getD_eq_getD_getElem?] at hg
    simp [results, hr, hg, hA, asAddr, hl]
  cases x <;> first
    | exact q.elim
    | (obtain ⟨A, f, hA, hR, h2⟩ := q
       exact ⟨he.defers, _, key A f hA hR, _, rfl, h2⟩)

/-! cuts -/
def cutAt (A : Option Addr) (c l : Nat) : Option Addr := if c = l then A else ptrAt A l
theorem Rd.cut {A : Option Addr} {n c l h : Nat} {f : Nat → Value} (hR : Rd w A n f) (hl : l ≤ h) (hn : h ≤ n) (hc : n ≤ c) : Rd w (cutAt A c l) (h - l) (fun j => f (l + j)) := fun j hj => by
  obtain ⟨p, hp, hcell⟩ := hR (l + j) (by omega)
  refine ⟨p, ?_, hcell⟩
  unfold cutAt
  rw [if_neg (by omega)]
  cases A with
  | none => simp [ptrAt] at hp
  | some q =>
    simp only [ptrAt, Option.map_some, Option.some.injEq] at hp ⊢
    rw [← hp]
    unfold Addr.add
    by_cases hl0 : l = 0 <;> by_cases hj0 : j = 0 <;> simp [hl0, hj0, Nat.add_assoc]
theorem RdI.cut {A : Option Addr} {n c l h : Nat} {xs : List Int} (hR : RdI w A n xs) (hl : l ≤ h) (hn : h ≤ n) (hc : n ≤ c) : RdI w (cutAt A c l) (h - l) ((xs.drop l).take (h - l)) :=
  ⟨by have := hR.1; simp; omega, (hR.2.cut hl hn hc).congr fun j hj => by simp [List.getD_eq_getElem?_getD, List.getElem?_take, hj]⟩
theorem RdR.cut {A : Option Addr} {n c l h : Nat} {xs : List SlV} (hR : RdR w A n xs) (hl : l ≤ h) (hn : h ≤ n) (hc : n ≤ c) : RdR w (cutAt A c l) (h - l) ((xs.drop l).take (h - l)) :=
  ⟨by have := hR.1; simp; omega, (hR.2.cut hl hn hc).congr fun j hj => by simp [List.getD_eq_getElem?_getD, List.getElem?_take, hj]⟩

theorem Ops.cut_l {t el : TypeId} {z : Value} {b : Nat} [hU : Und P t (.slice el)] [Inf P el z 1 b] {x lo : Operand} {A : Option Addr} {n c : Nat} {k : IntKind} {l : Int} (hx : ev e x = .slice A n c) (hl : ev e lo = .int k l) (hb : Nat.blt d N = true) (h0 : 0 ≤ l ∧ l ≤ (n : Int))
    (hK : Ops P N ops K rest (upd e d (.slice (cutAt A c l.toNat) (n - l.toNat) (c - l.toNat))) w) : Ops P N ops K (⟨some d, .slice t x (some lo) none none, ty, pos, af, none⟩ :: rest) e w := by
  obtain ⟨inf, hi, hz0, hs, hby⟩ := Inf.get P el
  refine .val (w' := w) ?_ hb hK
  have := run_sliceBound (P := P) w k l n .sliceB h0.1 h0.2
  simp [execOp, hx, hl, Instr.sliceAt, run_underlying hU.out, Instr.slice, Instr.sliceBounds, this, sizeOf, typeInfo, hi, hs, cutAt, ptrAt]
theorem Ops.cut_h {t el : TypeId} {z : Value} {b : Nat} [hU : Und P t (.slice el)] [Inf P el z 1 b] {x hi' : Operand} {A : Option Addr} {n c : Nat} {k : IntKind} {h : Int} (hx : ev e x = .slice A n c) (hh : ev e hi' = .int k h) (hb : Nat.blt d N = true) (h0 : 0 ≤ h ∧ h ≤ (c : Int))
    (hK : Ops P N ops K rest (upd e d (.slice A h.toNat c)) w) : Ops P N ops K (⟨some d, .slice t x none (some hi') none, ty, pos, af, none⟩ :: rest) e w := by
  obtain ⟨inf, hi, hz0, hs, hby⟩ := Inf.get P el
  refine .val (w' := w) ?_ hb hK
  have := run_sliceBound (P := P) w k h c .sliceAcap h0.1 h0.2
  have hA : A.map (fun x => x.add 0) = A := by cases A <;> simp [Addr.add]
  simp [execOp, hx, hh, Instr.sliceAt, run_underlying hU.out, Instr.slice, Instr.sliceBounds, this, sizeOf, typeInfo, hi, hs, hA]
theorem Ops.cut_lh {t el : TypeId} {z : Value} {b : Nat} [hU : Und P t (.slice el)] [Inf P el z 1 b] {x lo hi' : Operand} {A : Option Addr} {n c : Nat} {k k' : IntKind} {l h : Int} (hx : ev e x = .slice A n c) (hl : ev e lo = .int k l) (hh : ev e hi' = .int k' h) (hb : Nat.blt d N = true) (h0 : 0 ≤ l ∧ l ≤ h ∧ h ≤ (c : Int))
    (hK : Ops P N ops K rest (upd e d (.slice (cutAt A c l.toNat) (h.toNat - l.toNat) (c - l.toNat))) w) : Ops P N ops K (⟨some d, .slice t x (some lo) (some hi') none, ty, pos, af, none⟩ :: rest) e w := by
  obtain ⟨inf, hi, hz0, hs, hby⟩ := Inf.get P el
  refine .val (w' := w) ?_ hb hK
  have h1 := run_sliceBound (P := P) w k' h c .sliceAcap (by omega) h0.2.2
  have h2 := run_sliceBound (P := P) w k l h.toNat .sliceB h0.1 (by omega)
  simp [execOp, hx, hl, hh, Instr.sliceAt, run_underlying hU.out, Instr.slice, Instr.sliceBounds, h1, h2, sizeOf, typeInfo, hi, hs, cutAt, ptrAt]

/-! append -/
theorem run_append_st {t el : TypeId} {z : Value} {b : Nat} [hU : Und P t (.slice el)] [Inf P el z 1 b] {z0 : Value} (hz : z.cells = #[z0]) {k : Ck} (i : Nat) (hS : St w0 w ks) (hk : ks[i]? = some k) (he : k.e = el) {A' : Option Addr} {m c' : Nat} {f : Nat → Value} (hR : Rd w A' m f) (h1 : ∀ j, j < m → (f j).oneCell' = true)
    (h63 : k.n + m ≤ maxLen) (hbytes : (k.n + m) * b ≤ 140737488355328) (ty : TypeId) :
    ∃ A2 c2 w', (Builtin.append_ #[t, t] ty #[.slice k.A k.n k.c, .slice A' m c']).run P w = .ok (.slice A2 (k.n + m) c2) w' ∧ St w0 w' (ks.set i ⟨A2, k.n + m, c2, el, k.vs ++ (List.range m).map f⟩) ∧ (k.n = k.c → Below w.heap.size w w') := by
  subst he
  obtain ⟨inf, hi, hz0, hs, hby⟩ := Inf.get P k.e
  have hown := hS.get hk
  obtain ⟨hl, hnc, hcm, h4⟩ := hown
  have hilt := (List.getElem?_eq_some_iff.1 hk).1
  by_cases hm : m = 0
  · subst hm
    refine ⟨k.A, k.c, w, ?_, ?_, fun _ => Below.refl _ _⟩
    · cases A' with
      | none => cases hkA : k.A <;> simp [Builtin.append_, run_underlying hU.out, sizeOf, typeInfo, hi, Builtin.lenOf, Builtin.firstCells, hnc, storeCells]
      | some a =>
        have hl0 := run_loadCells (P := P) w a 0 f (fun j hj => by omega)
        cases hkA : k.A <;> simp [Builtin.append_, run_underlying hU.out, sizeOf, typeInfo, hi, Builtin.lenOf, Builtin.firstCells, hnc, storeCells, loadCells, loadCellsFrom]
    · have : ks.set i ⟨k.A, k.n + 0, k.c, k.e, k.vs ++ (List.range 0).map f⟩ = ks := by
        have h5 : (⟨k.A, k.n + 0, k.c, k.e, k.vs ++ (List.range 0).map f⟩ : Ck) = k := by simp
        rw [h5]
        apply List.ext_getElem?
        intro j
        rw [List.getElem?_set]
        split
        · rename_i e; subst e; rw [hk]
          try simp [hilt]
        · rfl
      rw [this]; exact hS
  · obtain ⟨a, rfl⟩ : ∃ a, A' = some a := by
      obtain ⟨p, hp, _⟩ := hR 0 (by omega)
      cases A' with | none => simp [ptrAt] at hp | some q => exact ⟨q, rfl⟩
    have hnl : ((List.range m).map f).length = m := by simp
    have hnews : ∀ j v, ((List.range m).map f)[j]? = some v → w.cell? (a.add j) = some v := by
      intro j v hj
      have hjm : j < m := by have := (List.getElem?_eq_some_iff.1 hj).1; simpa using this
      obtain ⟨p, hp, hc⟩ := hR j hjm
      simp only [ptrAt, Option.map_some, Option.some.injEq] at hp
      rw [hp, hc, ← hj]
      simp [hjm]
    have h1' : ∀ u ∈ (List.range m).map f, u.oneCell' = true := by
      intro u hu
      obtain ⟨j, hj, rfl⟩ := List.mem_map.1 hu
      exact h1 j (by simpa using hj)
    -- a new row in the old one's stead
    have fresh : ∀ (cs : List Value) (c2 : Nat), k.n + m ≤ c2 → c2 ≤ maxLen → cs.length = c2 → cs.take (k.n + m) = k.vs ++ (List.range m).map f →
        St w0 (w.drew.alloc (.cells cs.toArray k.e)) (ks.set i ⟨some ⟨w.heap.size, 0, none⟩, k.n + m, c2, k.e, k.vs ++ (List.range m).map f⟩) := by
      intro cs c2 h5 h6 h7 h8
      have hA := hS.drew.alloc cs k.e (by omega)
      have hp : (⟨some ⟨w.heap.size, 0, none⟩, cs.length, cs.length, k.e, cs⟩ :: ks).Perm (k :: (ks.set i ⟨some ⟨w.heap.size, 0, none⟩, cs.length, cs.length, k.e, cs⟩)) := by
        have gen : ∀ (l : List Ck) (i : Nat) (x y : Ck), l[i]? = some y → (x :: l).Perm (y :: l.set i x) := by
          intro l
          induction l with
          | nil => intro i x y h; simp at h
          | cons u l ih =>
            intro i x y h
            cases i with
            | zero => simp at h; subst h; exact List.Perm.swap _ _ _
            | succ i =>
              simp only [List.getElem?_cons_succ] at h
              simp only [List.set_cons_succ]
              exact (List.Perm.swap _ _ _).trans (((ih i x y h).cons u).trans (List.Perm.swap _ _ _))
        exact gen ks i _ _ hk
      have hB := (hA.perm hp).tail
      refine ⟨hB.below, fun x hx => ?_, ?_⟩
      · obtain ⟨j, hj, rfl⟩ := List.mem_iff_getElem.1 hx
        have hj' : j < ks.length := by simpa using hj
        rw [List.getElem_set]
        split
        · refine ⟨?_, h5, h6, .inr ⟨w.heap.size, 0, cs.toArray, rfl, hS.below.size, heap_alloc_new w.drew _, by simp; omega, fun q hq => ?_⟩⟩
          · simp [hl]
          · have hq' : q < k.n + m := hq
            show cs.toArray[0 + q]? = (k.vs ++ (List.range m).map f)[q]?
            rw [← h8]
            simp [List.getElem?_take, hq']
        · rename_i hne
          refine hB.own _ (List.mem_iff_getElem.2 ⟨j, by simpa using hj', ?_⟩)
          rw [List.getElem_set, if_neg hne]
      · have h9 := hB.apart
        rw [show (ks.set i ⟨some ⟨w.heap.size, 0, none⟩, k.n + m, c2, k.e, k.vs ++ (List.range m).map f⟩).filterMap Ck.blk = (ks.set i ⟨some ⟨w.heap.size, 0, none⟩, cs.length, cs.length, k.e, cs⟩).filterMap Ck.blk from ?_]
        · exact h9
        · have := filterMap_set Ck.blk (ks.set i ⟨some ⟨w.heap.size, 0, none⟩, cs.length, cs.length, k.e, cs⟩) i ⟨some ⟨w.heap.size, 0, none⟩, cs.length, cs.length, k.e, cs⟩ ⟨some ⟨w.heap.size, 0, none⟩, k.n + m, c2, k.e, k.vs ++ (List.range m).map f⟩ (by rw [List.getElem?_set]; simp [hilt]) rfl
          rw [← this]; simp
    have h63' : ((k.n + m : Nat) : Int) ≤ 9223372036854775807 := by simp only [maxLen] at h63; omega
    rcases h4 with ⟨hA, h0⟩ | ⟨g, o, cur, hA, hg, hh, hsz, hc⟩
    · have hn0 : k.n = 0 := by omega
      have hvs : k.vs = [] := List.eq_nil_of_length_eq_zero (by omega)
      have hr := run_append_nil (P := P) w t ty k.e inf z hU.out hi hz0 a m c' _ (by rw [hnl, hs, Nat.mul_one]) hnews (by omega) (by omega) (by rw [hby]; rw [hn0, Nat.zero_add] at hbytes; omega)
      have hge := grownCap_ge w m 0 k.e
      refine ⟨_, _, _, ?_, fresh (((List.range m).map f) ++ List.replicate (grownCap w m 0 k.e - m) z0) (grownCap w m 0 k.e) (by omega) (grownCap_le_maxLen w m 0 k.e (by omega)) (by simp; omega) (by rw [hvs, hn0]; simp), fun _ => (Below.refl w.heap.size w).drew.alloc (Nat.le_refl _) _⟩
      have hzc : Builtin.zeroCells z.cells (grownCap w m 0 k.e - m) = (List.replicate (grownCap w m 0 k.e - m) z0).toArray := by
        rw [hz]; simp only [Builtin.zeroCells]
        exact (show _ = _ from by have := madeCells_one z0 (grownCap w m 0 k.e - m); simpa [madeCells] using this)
      rw [hA, h0, hn0, Nat.zero_add, hr, hzc, List.append_toArray]
    · by_cases hroom : k.n + m ≤ k.c
      · have hf := run_firstCells_some (P := P) w inf.size m a m c' _ (by rw [hnl, hs, Nat.mul_one]) hnews
        have hst := run_storeCells_at P g (o + k.n) k.e ((List.range m).map f) 0 cur w hh (by rw [hnl]; omega) h1'
        simp only [Nat.add_zero] at hst
        refine ⟨some ⟨g, o, none⟩, k.c, _, ?_, hS.turn (k := k) (g := g) hk (by simp [Ck.blk, hA]) (by simp [Ck.blk]) (w' := w.setRow g (cur.toList.take (o + k.n) ++ (List.range m).map f ++ cur.toList.drop (o + k.n + ((List.range m).map f).length)).toArray) ?_ ?_, fun h => absurd hroom (by omega)⟩
        · rw [hA]
          simp [Builtin.append_, run_underlying hU.out, sizeOf, typeInfo, hi, hs, Builtin.lenOf, hroom, Addr.add_lit]
          rw [hs] at hf
          simp only [List.length_map, List.length_range] at hst ⊢
          simp [hf, hst]
        · exact ⟨rfl, rfl, rfl, by simp, fun x _ hx => setRow_other w g x _ (fun e => hx (by rw [e]))⟩
        · refine ⟨by simp [hl], hroom, hcm, .inr ⟨g, o, _, rfl, hg, setRow_heap w g cur _ k.e _ hh, ?_, fun j hj => ?_⟩⟩
          · simp; omega
          · have hj' : j < k.n + m := hj
            show ((cur.toList.take (o + k.n) ++ (List.range m).map f ++ cur.toList.drop (o + k.n + ((List.range m).map f).length)).toArray)[o + j]? = (k.vs ++ (List.range m).map f)[j]?
            have hcl : cur.toList.length = cur.size := by simp
            rw [List.getElem?_toArray]
            by_cases hjn : j < k.n
            · rw [List.append_assoc, List.getElem?_append_left (by simp; omega), List.getElem?_take, if_pos (by omega), List.getElem?_append_left (by omega)]
              rw [Array.getElem?_toList]
              exact hc j hjn
            · rw [List.append_assoc, List.getElem?_append_right (by simp; omega), List.getElem?_append_left (by simp; omega), List.getElem?_append_right (by omega)]
              congr 1
              simp
              omega
      · have holds : ∀ j v, k.vs[j]? = some v → w.cell? ((⟨g, o, none⟩ : Addr).add j) = some v := by
          intro j v hj
          have hjn : j < k.n := by have := (List.getElem?_eq_some_iff.1 hj).1; omega
          rw [add_none]
          simp only [World.cell?, hh]
          simpa [hc j hjn] using hj
        have hr := run_append_grow (P := P) w t ty k.e inf z hU.out hi hz0 ⟨g, o, none⟩ k.n k.c k.vs (by rw [hl, hs, Nat.mul_one]) holds a m c' _ (by rw [hnl, hs, Nat.mul_one]) hnews (by omega) h63' (growslice_fits (by omega) (by rw [hby]; exact hbytes))
        have hge := grownCap_ge w (k.n + m) k.c k.e
        refine ⟨_, _, _, ?_, fresh (k.vs ++ (List.range m).map f ++ List.replicate (grownCap w (k.n + m) k.c k.e - (k.n + m)) z0) (grownCap w (k.n + m) k.c k.e) (by omega) (grownCap_le_maxLen w (k.n + m) k.c k.e h63) (by simp [hl]; omega) (by rw [List.take_append_of_le_length (by simp [hl])]; exact List.take_of_length_le (by simp [hl])), fun _ => (Below.refl w.heap.size w).drew.alloc (Nat.le_refl _) _⟩
        have hzc : Builtin.zeroCells z.cells (grownCap w (k.n + m) k.c k.e - (k.n + m)) = (List.replicate (grownCap w (k.n + m) k.c k.e - (k.n + m)) z0).toArray := by
          rw [hz]; simp only [Builtin.zeroCells]
          exact (show _ = _ from by have := madeCells_one z0 (grownCap w (k.n + m) k.c k.e - (k.n + m)); simpa [madeCells] using this)
        rw [hA, hr, hzc, List.append_toArray, List.append_toArray]

theorem Ops.app {t el : TypeId} {z : Value} {b : Nat} [hU : Und P t (.slice el)] [Inf P el z 1 b] {x y : Operand} {k : Ck} (i : Nat) {A' : Option Addr} {m c' : Nat} {f : Nat → Value} (hS : St w0 w ks) (hk : ks[i]? = some k) (hR : Rd w A' m f) (hx : ev e x = .slice k.A k.n k.c) (hy : ev e y = .slice A' m c') (he : k.e = el) {z0 : Value} (hz : z.cells = #[z0]) (h1 : ∀ j, j < m → (f j).oneCell' = true)
    (h63 : k.n + m ≤ maxLen) (hbytes : (k.n + m) * b ≤ 140737488355328) (hb : Nat.blt d N = true)
    (hK : ∀ A2 c2 w', St w0 w' (ks.set i ⟨A2, k.n + m, c2, el, k.vs ++ (List.range m).map f⟩) → Ops P N ops K rest (upd e d (.slice A2 (k.n + m) c2)) w') :
    Ops P N ops K (⟨some d, .call ⟨.builtin .append, #[x, y], #[t, t]⟩, ty, pos, af, none⟩ :: rest) e w := by
  obtain ⟨A2, c2, w', hr, hS', _⟩ := run_append_st (P := P) (t := t) hz i hS hk he hR h1 h63 hbytes ty (c' := c')
  refine .val (w' := w') ?_ hb (hK _ _ _ hS')
  simp [execOp, resolve, invoke, builtin, hx, hy, hr]
/-- where there is no room, nothing that was there turns -/
theorem Ops.appF {t el : TypeId} {z : Value} {b : Nat} [hU : Und P t (.slice el)] [Inf P el z 1 b] {x y : Operand} {k : Ck} (i : Nat) {A' : Option Addr} {m c' : Nat} {f : Nat → Value} (hfull : k.n = k.c) (hS : St w0 w ks) (hk : ks[i]? = some k) (hR : Rd w A' m f) (hx : ev e x = .slice k.A k.n k.c) (hy : ev e y = .slice A' m c') (he : k.e = el) {z0 : Value} (hz : z.cells = #[z0]) (h1 : ∀ j, j < m → (f j).oneCell' = true)
    (h63 : k.n + m ≤ maxLen) (hbytes : (k.n + m) * b ≤ 140737488355328) (hb : Nat.blt d N = true)
    (hK : ∀ A2 c2 w', Below w.heap.size w w' → St w0 w' (ks.set i ⟨A2, k.n + m, c2, el, k.vs ++ (List.range m).map f⟩) → Ops P N ops K rest (upd e d (.slice A2 (k.n + m) c2)) w') :
    Ops P N ops K (⟨some d, .call ⟨.builtin .append, #[x, y], #[t, t]⟩, ty, pos, af, none⟩ :: rest) e w := by
  obtain ⟨A2, c2, w', hr, hS', hbl⟩ := run_append_st (P := P) (t := t) hz i hS hk he hR h1 h63 hbytes ty (c' := c')
  refine .val (w' := w') ?_ hb (hK _ _ _ (hbl hfull) hS')
  simp [execOp, resolve, invoke, builtin, hx, hy, hr]
end
end Go.Proofs.Ytpdhjnacnmfbjaa.Vc
