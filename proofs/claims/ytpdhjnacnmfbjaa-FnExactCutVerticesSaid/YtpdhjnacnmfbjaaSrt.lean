/-
  The library's sort of a list of one's own. Conditions: the list has an element.
-/
import Derived.Test.YtpdhjnacnmfbjaaLay
import Derived.Shelf.SortM.Plain
import Derived.Test.YtpdhjnacnmfbjaaCyc
import Derived.Test.YtpdhjnacnmfbjaaInst
namespace Go.Proofs.Ytpdhjnacnmfbjaa.Vc
open Go.RowKit Go.Sort

theorem heap_srt {w : World} {g n off : Nat} {os : Array Obj} {cur : Array Value} {e : TypeId} {fr : Nat × Nat} (d : Array Int) (hb : w.heap[g]? = some (.cells cur e fr)) :
    (grow (putRow (Value.int .i64) (Sort.ahead w n) g off d) os).heap[g]? = some (.cells (putCells (Value.int .i64) off d cur) e fr) := by
  have hg : g < w.heap.size := (Array.getElem?_eq_some_iff.1 hb).1
  rw [heap_grow_old _ _ (by simpa using hg)]
  simp [putRow, mapBlock, Sort.ahead, Array.getElem?_modify, hb, onCells]
theorem grownBy_srt {w : World} {g n off : Nat} {os : Array Obj} (d : Array Int) : w.grownBy (grow (putRow (Value.int .i64) (Sort.ahead w n) g off d) os) (some g) := by
  refine ⟨rfl, rfl, rfl, by simp, fun k hk hne => ?_⟩
  rw [heap_grow_old _ _ (by simpa using hk)]
  have : g ≠ k := fun e => hne (by rw [e])
  simp [putRow, mapBlock, Sort.ahead, Array.getElem?_modify, this]

theorem sort_c {w0 w : World} {ks : List Ck} (i : Nat) {t : TypeId} {A : Option Addr} {n c : Nat} {xs : List Int} (hS : St w0 w ks) (hk : ks[i]? = some (CkI t A n c xs)) (h0 : 0 < n) (hn : n ≤ 1000000000) :
    Ret Try.prog 103 [.slice A n c] w (fun v w' => v = .tuple #[] ∧ St w0 w' (ks.set i (CkI t A n c (srt xs)))) := by
  obtain ⟨h1, h2, h3, h4⟩ := hS.get hk
  have hl : xs.length = n := hS.lenI i hk
  have h2 : n ≤ c := h2
  rcases h4 with ⟨_, hc0⟩ | ⟨g, o, cur, hA, hg, hh, hs, hc⟩
  · have hc0 : c = 0 := hc0
    omega
  have hA : A = some ⟨g, o, none⟩ := hA
  have hs : o + c ≤ cur.size := hs
  have hc : ∀ j, j < n → cur[o + j]? = (xs.map (Value.int .i64))[j]? := hc
  subst hA
  subst hl
  have hH : Holds (Value.int .i64) w g o xs.toArray := fun j hj => by
    have hj' : j < xs.length := by simpa using hj
    refine ⟨?_, by simp [World.frozen?, hh]⟩
    simp only [World.cell?, hh]
    simp only [Option.isSome_none, Bool.false_eq_true, if_false]
    rw [hc j hj']
    simp [hj']
  have hlt : g < w.heap.size := (Array.getElem?_eq_some_iff.1 hh).1
  have key := AnyM.slices_Sort_int lsort g o c xs w hH hlt (by omega)
  refine Calls.mono key fun x w' ⟨hx, m, os, hw⟩ => ⟨_, hx, rfl, ?_⟩
  subst hw
  have hsl : (srt xs).length = xs.length := (srt_perm xs).length_eq
  refine hS.turn hk rfl rfl (grownBy_srt _) ⟨by simp [hsl], h2, h3, .inr ⟨g, o, _, rfl, hg, heap_srt _ hh, by simp only [putCells, Array.size_mapIdx]; exact hs, fun j hj => ?_⟩⟩
  have hj : j < xs.length := hj
  show (putCells (Value.int .i64) o (srt xs).toArray cur)[o + j]? = ((srt xs).map (Value.int .i64))[j]?
  have hlt2 : o + j < cur.size := by have : xs.length ≤ c := h2; omega
  simp [putCells, hlt2, hsl, hj]
end Go.Proofs.Ytpdhjnacnmfbjaa.Vc
