/-
  Slices of slices: read, and made anew. Conditions: as each rule names them.
-/
import Derived.Test.YtpdhjnacnmfbjaaDraw
namespace Go.Proofs.Ytpdhjnacnmfbjaa.Vc
open Go.RowKit

structure RowsI (w : World) (A : Option Addr) (n : Nat) (rs : List SlV) (xss : List (List Int)) : Prop where
  top : RdR w A n rs
  len : xss.length = n
  row : ∀ i, i < n → RdI w (rs.getD i slNil).a (rs.getD i slNil).n (xss.getD i [])
  cap : ∀ i, i < n → (rs.getD i slNil).n ≤ (rs.getD i slNil).c ∧ (rs.getD i slNil).c ≤ maxLen

def gl (xss : List (List Int)) (i : Int) : List Int := xss.getD i.toNat []
theorem RowsI.at_ {w : World} {A : Option Addr} {n : Nat} {rs : List SlV} {xss : List (List Int)} (h : RowsI w A n rs xss) {i : Int} (_h0 : 0 ≤ i) (hi : i < n) : RdI w (rg rs i).a (rg rs i).n (gl xss i) := h.row _ (by omega)
theorem RowsI.cap_ {w : World} {A : Option Addr} {n : Nat} {rs : List SlV} {xss : List (List Int)} (h : RowsI w A n rs xss) {i : Int} (_h0 : 0 ≤ i) (hi : i < n) : (rg rs i).n ≤ (rg rs i).c ∧ (rg rs i).c ≤ 9223372036854775807 := h.cap _ (by omega)
theorem RowsI.later {w w' : World} {A : Option Addr} {n : Nat} {rs : List SlV} {xss : List (List Int)} (h : RowsI w A n rs xss) (hb : Below w.heap.size w w') : RowsI w' A n rs xss :=
  ⟨h.top.later hb, h.len, fun i hi => (h.row i hi).later hb, h.cap⟩
theorem St.oldRows {w0 w : World} {ks : List Ck} {A : Option Addr} {n : Nat} {rs : List SlV} {xss : List (List Int)} (h : St w0 w ks) (hR : RowsI w0 A n rs xss) : RowsI w A n rs xss := hR.later h.below
theorem RowsI.nil (w : World) : RowsI w none 0 [] [] := ⟨RdR.nil, rfl, fun i hi => by omega, fun i hi => by omega⟩

def rowsCk (t : TypeId) : List SlV → List (List Int) → List Ck
  | r :: rs, xs :: xss => CkI t r.a r.n r.c xs :: rowsCk t rs xss
  | _, _ => []
/-- a new slice of slices: the outer row, then each row -/
def mat (t1 t2 : TypeId) (A : Option Addr) (n c : Nat) (rs : List SlV) (xss : List (List Int)) : List Ck := CkR t1 A n c rs :: rowsCk t2 rs xss

theorem rowsCk_get {t : TypeId} : ∀ {rs : List SlV} {xss : List (List Int)} {i : Nat}, rs.length = xss.length → i < rs.length → (rowsCk t rs xss)[i]? = some (CkI t (rs.getD i slNil).a (rs.getD i slNil).n (rs.getD i slNil).c (xss.getD i []))
  | [], _, _, _, h => by simp at h
  | r :: rs, [], _, h, _ => by simp at h
  | r :: rs, xs :: xss, 0, _, _ => rfl
  | r :: rs, xs :: xss, i + 1, h, hi => by
    have := rowsCk_get (t := t) (rs := rs) (xss := xss) (i := i) (by simpa using h) (by simpa using hi)
    simpa [rowsCk] using this
theorem rowsCk_length {t : TypeId} : ∀ {rs : List SlV} {xss : List (List Int)}, rs.length = xss.length → (rowsCk t rs xss).length = rs.length
  | [], [], _ => rfl
  | [], _ :: _, h => by simp at h
  | _ :: _, [], h => by simp at h
  | r :: rs, xs :: xss, h => by simp [rowsCk, rowsCk_length (t := t) (rs := rs) (xss := xss) (by simpa using h)]
theorem rowsCk_append {t : TypeId} : ∀ {rs rs' : List SlV} {xss xss' : List (List Int)}, rs.length = xss.length → rowsCk t (rs ++ rs') (xss ++ xss') = rowsCk t rs xss ++ rowsCk t rs' xss'
  | [], _, [], _, _ => rfl
  | [], _, _ :: _, _, h => by simp at h
  | _ :: _, _, [], _, h => by simp at h
  | r :: rs, rs', xs :: xss, xss', h => by
    have := rowsCk_append (t := t) (rs := rs) (rs' := rs') (xss := xss) (xss' := xss') (by simpa using h)
    simp [rowsCk, this]

theorem St.rowsI {w0 w : World} {ks : List Ck} {t1 t2 : TypeId} {A : Option Addr} {n c : Nat} {rs : List SlV} {xss : List (List Int)} (h : St w0 w (mat t1 t2 A n c rs xss ++ ks)) (hl : xss.length = n) : RowsI w A n rs xss := by
  have h0 := h.rdR 0 (show (mat t1 t2 A n c rs xss ++ ks)[0]? = some (CkR t1 A n c rs) from rfl)
  have hr : rs.length = xss.length := by rw [h0.1, hl]
  have get : ∀ i, i < n → (mat t1 t2 A n c rs xss ++ ks)[i + 1]? = some (CkI t2 (rs.getD i slNil).a (rs.getD i slNil).n (rs.getD i slNil).c (xss.getD i [])) := by
    intro i hi
    have h1 := rowsCk_get (t := t2) (rs := rs) (xss := xss) (i := i) hr (by omega)
    rw [List.getElem?_append_left (by simp [mat, rowsCk_length hr]; omega)]
    simpa [mat] using h1
  exact ⟨h0, hl, fun i hi => h.rdI (i + 1) (get i hi), fun i hi => h.cap (i + 1) (get i hi)⟩

theorem St.unmat {w0 w : World} {ks : List Ck} {t1 t2 : TypeId} {A : Option Addr} {n c : Nat} {rs : List SlV} {xss : List (List Int)} (h : St w0 w (mat t1 t2 A n c rs xss ++ ks)) : St w0 w ks := h.sub (List.sublist_append_right _ _)
end Go.Proofs.Ytpdhjnacnmfbjaa.Vc
