/-
  Typed forms of literals with one element, and of append. Conditions: as each rule names them.
-/
import Derived.Test.YtpdhjnacnmfbjaaDraw
namespace Go.Proofs.Ytpdhjnacnmfbjaa.Vc
open Go.RowKit
section
variable {P : Program} {N : Nat} {ops : Array Oper} {K : Env → World → Prop} {rest : List Oper} {e : Env} {w0 w w' : World} {ks : List Ck} {d : Nat} {ty : TypeId} {pos : String} {af : Array Edge}

theorem Ops.bs1I {t el : TypeId} {z : Value} {b : Nat} [Und P t (.slice el)] [Inf P el z 1 b] {x0 : Operand} {i : Int} (hS : St w0 w ks) (h0 : ev e x0 = .int .i64 i) (hz : z.cells = #[z]) (hb : Nat.blt d N = true)
    (hK : ∀ A w', St w0 w' (CkI el A 1 1 [i] :: ks) → Ops P N ops K rest (upd e d (.slice A 1 1)) w') : Ops P N ops K (⟨some d, .buildSlice t 1 #[(0, x0)], ty, pos, af, none⟩ :: rest) e w :=
  .bs1 hS h0 rfl hz hb hK
theorem Ops.bs1R {t el : TypeId} {z : Value} {b : Nat} [Und P t (.slice el)] [Inf P el z 1 b] {x0 : Operand} {A0 : Option Addr} {n0 c0 : Nat} (hS : St w0 w ks) (h0 : ev e x0 = .slice A0 n0 c0) (hz : z.cells = #[z]) (hb : Nat.blt d N = true)
    (hK : ∀ A w', St w0 w' (CkR el A 1 1 [⟨A0, n0, c0⟩] :: ks) → Ops P N ops K rest (upd e d (.slice A 1 1)) w') : Ops P N ops K (⟨some d, .buildSlice t 1 #[(0, x0)], ty, pos, af, none⟩ :: rest) e w :=
  .bs1 hS h0 rfl hz hb hK
theorem map_range_I {ys : List Int} {m : Nat} (h : ys.length = m) : (List.range m).map (fun j => Value.int .i64 (ys.getD j 0)) = ys.map (.int .i64) := by
  subst h
  apply List.ext_getElem
  · simp
  · intro i h1 h2
    simp [List.getD_eq_getElem?_getD, List.getElem?_eq_getElem (show i < ys.length by simpa using h1)]
theorem map_range_R {ys : List SlV} {m : Nat} (h : ys.length = m) : (List.range m).map (fun j => (ys.getD j slNil).v) = ys.map SlV.v := by
  subst h
  apply List.ext_getElem
  · simp
  · intro i h1 h2
    simp [List.getD_eq_getElem?_getD, List.getElem?_eq_getElem (show i < ys.length by simpa using h1)]
theorem Ops.appI {t el : TypeId} {z : Value} {b : Nat} [hU : Und P t (.slice el)] [Inf P el z 1 b] {x y : Operand} (i : Nat) {A : Option Addr} {n c : Nat} {xs : List Int} {A' : Option Addr} {m c' : Nat} {ys : List Int} (hS : St w0 w ks) (hk : ks[i]? = some (CkI el A n c xs)) (hR : RdI w A' m ys) (hx : ev e x = .slice A n c) (hy : ev e y = .slice A' m c') (hz : z.cells = #[z])
    (h63 : n + m ≤ 9223372036854775807) (hbytes : (n + m) * b ≤ 140737488355328) (hb : Nat.blt d N = true)
    (hK : ∀ A2 c2 w', St w0 w' (ks.set i (CkI el A2 (n + m) c2 (xs ++ ys))) → Ops P N ops K rest (upd e d (.slice A2 (n + m) c2)) w') :
    Ops P N ops K (⟨some d, .call ⟨.builtin .append, #[x, y], #[t, t]⟩, ty, pos, af, none⟩ :: rest) e w :=
  .app i hS hk hR.2 hx hy rfl hz (fun _ _ => rfl) (by simpa [maxLen] using h63) hbytes hb fun A2 c2 w' h => hK A2 c2 w' (by
    rw [map_range_I hR.1] at h
    simpa [CkI] using h)
theorem Ops.appFI {t el : TypeId} {z : Value} {b : Nat} [hU : Und P t (.slice el)] [Inf P el z 1 b] {x y : Operand} (i : Nat) {A : Option Addr} {n c : Nat} {xs : List Int} {A' : Option Addr} {m c' : Nat} {ys : List Int} (hfull : n = c) (hS : St w0 w ks) (hk : ks[i]? = some (CkI el A n c xs)) (hR : RdI w A' m ys) (hx : ev e x = .slice A n c) (hy : ev e y = .slice A' m c') (hz : z.cells = #[z])
    (h63 : n + m ≤ 9223372036854775807) (hbytes : (n + m) * b ≤ 140737488355328) (hb : Nat.blt d N = true)
    (hK : ∀ A2 c2 w', Below w.heap.size w w' → St w0 w' (ks.set i (CkI el A2 (n + m) c2 (xs ++ ys))) → Ops P N ops K rest (upd e d (.slice A2 (n + m) c2)) w') :
    Ops P N ops K (⟨some d, .call ⟨.builtin .append, #[x, y], #[t, t]⟩, ty, pos, af, none⟩ :: rest) e w :=
  .appF i hfull hS hk hR.2 hx hy rfl hz (fun _ _ => rfl) (by simpa [maxLen] using h63) hbytes hb fun A2 c2 w' hb' h => hK A2 c2 w' hb' (by
    rw [map_range_I hR.1] at h
    simpa [CkI] using h)
theorem Ops.appR {t el : TypeId} {z : Value} {b : Nat} [hU : Und P t (.slice el)] [Inf P el z 1 b] {x y : Operand} (i : Nat) {A : Option Addr} {n c : Nat} {xs : List SlV} {A' : Option Addr} {m c' : Nat} {ys : List SlV} (hS : St w0 w ks) (hk : ks[i]? = some (CkR el A n c xs)) (hR : RdR w A' m ys) (hx : ev e x = .slice A n c) (hy : ev e y = .slice A' m c') {z0 : Value} (hz : z.cells = #[z0])
    (h63 : n + m ≤ 9223372036854775807) (hbytes : (n + m) * b ≤ 140737488355328) (hb : Nat.blt d N = true)
    (hK : ∀ A2 c2 w', St w0 w' (ks.set i (CkR el A2 (n + m) c2 (xs ++ ys))) → Ops P N ops K rest (upd e d (.slice A2 (n + m) c2)) w') :
    Ops P N ops K (⟨some d, .call ⟨.builtin .append, #[x, y], #[t, t]⟩, ty, pos, af, none⟩ :: rest) e w :=
  .app i hS hk hR.2 hx hy rfl hz (fun _ _ => rfl) (by simpa [maxLen] using h63) hbytes hb fun A2 c2 w' h => hK A2 c2 w' (by
    rw [map_range_R hR.1] at h
    simpa [CkR] using h)
end
end Go.Proofs.Ytpdhjnacnmfbjaa.Vc
