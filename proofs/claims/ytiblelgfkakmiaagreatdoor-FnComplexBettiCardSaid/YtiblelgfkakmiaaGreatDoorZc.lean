/-
  The texts Cyc, Srt, C1, C2, C3, C4, C5, D2, Co1, Co2, Co5, Co3, Co4, Co7, Co6, D1, C6, C7, Rpl, C8, D3, Co8 in one. Conditions: as each part states them.
-/
import Derived.Test.YtiblelgfkakmiaaGreatDoorZa
import Derived.Test.YtiblelgfkakmiaaGreatDoorLay
import Derived.Shelf.SortM.Plain
import Derived.Test.YtiblelgfkakmiaaGreatDoorInst
import Derived.Test.YtiblelgfkakmiaaGreatDoorZb
import Derived.Test.YtiblelgfkakmiaaGreatDoorLayb
import Derived.Shelf.SlicesE.Compact
import Derived.Shelf.SlicesE.Delete
/-
 The cycles of a list of numbers, by their least points, and lists in ascending order: a plain law, with no program in sight.
-/
namespace Go.Proofs.YtiblelgfkakmiaaGreatDoor.Vc
open Go.RowKit
def goC (p : List Int) : Nat → Nat → List Bool → List Int × List Bool
 | 0, _, s => ([], s)
 | k + 1, x, s => if gb s (x : Int) = true then ([], s) else ((x : Int) :: (goC p k (gi p x).toNat (s.set x true)).1, (goC p k (gi p x).toNat (s.set x true)).2)
def cycs (p : List Int) : List Nat → List Bool → List (List Int)
 | [], _ => []
 | i :: is, s => (if (goC p (s.count false) i s).1 = [] then [] else [(goC p (s.count false) i s).1]) ++ cycs p is (goC p (s.count false) i s).2
def cyAll (p : List Int) (n : Nat) : List (List Int) := cycs p (List.range n) (List.replicate n false)
def lenAll (p : List Int) (n : Nat) : List Int := (cyAll p n).map fun c => (c.length : Int)
/-! ascending lists -/
def Asc (l : List Int) : Prop := l.Pairwise (· ≤ ·)
def srt (l : List Int) : List Int := l.mergeSort fun x y => decide (x ≤ y)
theorem srt_perm (l : List Int) : (srt l).Perm l := List.mergeSort_perm _ _
theorem srt_asc (l : List Int) : Asc (srt l) := by
 have := List.pairwise_mergeSort (le := fun x y : Int => decide (x ≤ y)) (fun a b c h1 h2 => by simp at h1 h2 ⊢; omega) (fun a b => by simp; omega) l
 exact this.imp fun h => by simpa using h
theorem asc_unique {l l' : List Int} (h : l.Perm l') (h1 : Asc l) (h2 : Asc l') : l = l' :=
 List.Perm.eq_of_pairwise (le := (· ≤ ·)) (fun a b _ _ h1 h2 => by omega) h1 h2 h
theorem asc_put {out : List Int} {a : Nat} {v : Int} (h : Asc out) (ha : a ≤ out.length) (hl : ∀ j : Nat, j < a → gi out (j : Int) < v) (hg : a < out.length → v ≤ gi out (a : Int)) : Asc (out.take a ++ (v :: out.drop a)) := by
 have key : ∀ j (hj : j < out.length), gi out (j : Int) = out[j] := fun j hj => by simp [gi, List.getD_eq_getElem?_getD, List.getElem?_eq_getElem hj]
 have hidx : ∀ i j (hi : i < out.length) (hj : j < out.length), i ≤ j → out[i] ≤ out[j] := fun i j hi hj hij => by
  by_cases e : i = j
  ·subst e; exact Int.le_refl _
  ·exact (List.pairwise_iff_getElem.1 h) i j hi hj (by omega)
 unfold Asc
 rw [List.pairwise_append, List.pairwise_cons]
 refine ⟨h.sublist (List.take_sublist _ _), ⟨fun x hx => ?_, h.sublist (List.drop_sublist _ _)⟩, fun x hx y hy => ?_⟩
 ·obtain ⟨j, hj, rfl⟩ := List.mem_iff_getElem.1 hx
  rw [List.length_drop] at hj
  rw [List.getElem_drop]
  have h1 := hg (by omega)
  rw [key a (by omega)] at h1
  exact Int.le_trans h1 (hidx _ _ (by omega) (by omega) (by omega))
 ·obtain ⟨j, hj, rfl⟩ := List.mem_iff_getElem.1 hx
  rw [List.length_take] at hj
  rw [List.getElem_take]
  have hxv : out[j] < v := by rw [← key j (by omega)]; exact hl j (by omega)
  rcases List.mem_cons.1 hy with rfl | hy
  ·omega
  ·obtain ⟨m, hm, rfl⟩ := List.mem_iff_getElem.1 hy
   rw [List.length_drop] at hm
   rw [List.getElem_drop]
   exact hidx _ _ (by omega) (by omega) (by omega)
theorem put_perm {out : List Int} {a : Nat} {v : Int} : (out.take a ++ (v :: out.drop a)).Perm (out ++ [v]) := by
 have h1 : (out.take a ++ (v :: out.drop a)).Perm (v :: (out.take a ++ out.drop a)) := List.perm_middle
 rw [List.take_append_drop] at h1
 exact h1.trans (List.perm_append_comm (l₁ := [v]))
end Go.Proofs.YtiblelgfkakmiaaGreatDoor.Vc
/-
 The library's sort of a list of one's own. Conditions: the list has an element.
-/
namespace Go.Proofs.YtiblelgfkakmiaaGreatDoor.Vc
open Go.RowKit Go.Sort
theorem heap_srt {w : World} {g n off : Nat} {os : Array Obj} {cur : Array Value} {e : TypeId} {fr : Nat × Nat} (d : Array Int) (hb : w.heap[g]? = some (.cells cur e fr)) :
    (Go.Sort.grow (putRow (Value.int .i64) (Sort.ahead w n) g off d) os).heap[g]? = some (.cells (putCells (Value.int .i64) off d cur) e fr) := by
  have hg : g < w.heap.size := (Array.getElem?_eq_some_iff.1 hb).1
  rw [heap_grow_old _ _ (by simpa using hg)]
  simp [putRow, mapBlock, Sort.ahead, Array.getElem?_modify, hb, onCells]
theorem grownBy_srt {w : World} {g n off : Nat} {os : Array Obj} (d : Array Int) : GrB w (Go.Sort.grow (putRow (Value.int .i64) (Sort.ahead w n) g off d) os) (some g) := by
 refine ⟨⟨rfl, rfl, rfl, by simp, fun k hk hne => ?_⟩, Nat.le_add_right _ _⟩
 rw [heap_grow_old _ _ (by simpa using hk)]
 have : g ≠ k := fun e => hne (by rw [e])
 simp [putRow, mapBlock, Sort.ahead, Array.getElem?_modify, this]
theorem sort_c {w0 w : World} {ks : List Ck} (i : Nat) {t : TypeId} {A : Option Addr} {n c : Nat} {xs : List Int} (hS : St w0 w ks) (hk : ks[i]? = some (CkI t A n c xs)) (h0 : 0 < n) (hn : n ≤ 1000000000) :
  Ret Tryz.prog 79 [.slice A n c] w (fun v w' => v = .tuple #[] ∧ St w0 w' (ks.set i (CkI t A n c (srt xs)))) := by
 obtain ⟨h1, h2, h3, h4⟩ := hS.getC hk (isM_I _)
 have hl : xs.length = n := hS.lenI i hk
 have h2 : n ≤ c := h2
 rcases h4 with ⟨_, hc0⟩ | ⟨g, o, cur, hA, hg, hh, hs, hc⟩
 ·have hc0 : c = 0 := hc0
  omega
 have hA : A = some ⟨g, o, none⟩ := hA
 have hs : o + c ≤ cur.size := hs
 have hc : ∀ j, j < n → cur[o + j]? = (xs.map (Value.int .i64))[j]? := hc
 subst hA
 subst hl
 have hH : Holds (Value.int .i64) w g o xs.toArray := fun j hj => by
  have hj' : j < xs.length := by simpa using hj
  refine ⟨?_, by simp [World.frozen?, hh]⟩
  simp only [World.cell?, hh]
  simp only [Option.isSome_none, Bool.false_eq_true, if_false]
  rw [hc j hj']
  simp [hj']
 have hlt : g < w.heap.size := (Array.getElem?_eq_some_iff.1 hh).1
 have key := AnyM.slices_Sort_int lsort g o c xs w hH hlt (by omega)
 refine Calls.mono key fun x w' ⟨hx, m, os, hw⟩ => ⟨_, hx, rfl, ?_⟩
 subst hw
 have hsl : (srt xs).length = xs.length := (srt_perm xs).length_eq
 refine hS.turn hk rfl rfl (grownBy_srt _) (.ofC (isM_I _) ⟨by simp [hsl], h2, h3, .inr ⟨g, o, _, rfl, hg, heap_srt _ hh, by simp only [putCells, Array.size_mapIdx]; exact hs, fun j hj => ?_⟩⟩)
 have hj : j < xs.length := hj
 show (putCells (Value.int .i64) o (srt xs).toArray cur)[o + j]? = ((srt xs).map (Value.int .i64))[j]?
 have hlt2 : o + j < cur.size := by have : xs.length ≤ c := h2; omega
 simp [putCells, hlt2, hsl, hj]
end Go.Proofs.YtiblelgfkakmiaaGreatDoor.Vc
/-
 The walks of the reference's runs of a word over flags, and of the lengths of a word.
-/
namespace Go.Proofs.YtiblelgfkakmiaaGreatDoor.Vc
open Go.RowKit
def runW (xss : List (List Int)) (x : Int) (ws : List Int) : Int := ws.foldl (fun x i => gi (gl xss i) x) x
def doesL (xss : List (List Int)) (F : Nat) (ws : List Int) : List Int := (List.range F).map fun x : Nat => runW xss (x : Int) ws
def Grph (xss : List (List Int)) : Prop := Mani xss ∧ 2 ≤ xss.length
instance (xss : List (List Int)) : Decidable (Grph xss) := by unfold Grph; exact inferInstance
/-
 The walk of the reference's lengths of a word.
-/
theorem RdI.drop {w : World} {A : Option Addr} {n c l : Nat} {xs : List Int} (h : RdI w A n xs) (hl : l ≤ n) (hc : n ≤ c) : RdI w (cutAt A c l) (n - l) (xs.drop l) := by
 have := h.cut (l := l) (h := n) (c := c) hl (Nat.le_refl _) hc
 rwa [List.take_of_length_le (by rw [List.length_drop, h.1]; omega)] at this
theorem RdI.take {w : World} {A : Option Addr} {n l : Nat} {xs : List Int} (h : RdI w A n xs) (hl : l ≤ n) : RdI w A l (xs.take l) := by
 have := h.cut (l := 0) (h := l) (c := 0) (Nat.zero_le _) hl
 refine ⟨by rw [List.length_take, h.1]; omega, fun k hk => ?_⟩
 obtain ⟨q, h1, h2⟩ := h.2 k (by omega)
 exact ⟨q, h1, by rw [h2]; simp [List.getElem?_take, hk, List.getD_eq_getElem?_getD]⟩
/-
 The walks of the program's permutations that words do, and of their cycles.
-/
def idL (n : Nat) : List Int := (List.range n).map fun x : Nat => (x : Int)
def thenL (p q : List Int) : List Int := p.map fun x => gi q x
/-
 The walks of the program's lengths of a word.
-/
/-
 The walks of the lengths of cycles, and of the Petrie word's lengths on both sides.
-/
def wordL (xss : List (List Int)) (ws : List Int) : List Int := srt (lenAll (doesL xss (gl xss 0).length ws) (gl xss 0).length)
def AnsR (L : List Int) (K : Int) (w : World) (v : Value) (w' : World) : Prop := ∃ A' c', v = .tuple #[.slice A' L.length c', .int .i64 K] ∧ St w w' [CkI 2 A' L.length c' L]
def petrieL (xss : List (List Int)) : List Int := if Grph xss then wordL xss (idL xss.length) else []
def petrieK (xss : List (List Int)) : Int := if Grph xss then 0 else 1
end Go.Proofs.YtiblelgfkakmiaaGreatDoor.Vc
/-
 The library's Compact of an ascending list of one's own, and its Delete in a list of lists of one's own; sets as ascending lists.
-/
namespace Go.Proofs.YtiblelgfkakmiaaGreatDoor.Vc
open Go.RowKit Go.Sort
/-! what the library leaves in a row of one's own -/
theorem heap_put {α : Type} [Inhabited α] {enc : α → Value} {w : World} {g q off : Nat} {cur : Array Value} {e : TypeId} {fr : Nat × Nat} (d : Array α) (hb : w.heap[g]? = some (.cells cur e fr)) :
    (putRow enc (Sort.ahead w q) g off d).heap[g]? = some (.cells (putCells enc off d cur) e fr) := by
  simp [putRow, mapBlock, Sort.ahead, Array.getElem?_modify, hb, onCells]
theorem grownBy_put {α : Type} [Inhabited α] {enc : α → Value} {w : World} {g q off : Nat} (d : Array α) : GrB w (putRow enc (Sort.ahead w q) g off d) (some g) := by
 refine ⟨⟨rfl, rfl, rfl, by simp [Sort.ahead], fun k hk hne => ?_⟩, Nat.le_add_right _ _⟩
 have : g ≠ k := fun e => hne (by rw [e])
 simp [putRow, mapBlock, Sort.ahead, Array.getElem?_modify, this]
theorem holds_own {α : Type} [Inhabited α] {enc : α → Value} {w : World} {g o : Nat} {cur : Array Value} {e : TypeId} {ds : List α} (hh : w.heap[g]? = some (.cells cur e (0, 0))) (hc : ∀ j, j < ds.length → cur[o + j]? = (ds.map enc)[j]?) : Holds enc w g o ds.toArray := fun j hj => by
 have hj' : j < ds.length := by simpa using hj
 refine ⟨?_, by simp [World.frozen?, hh]⟩
 simp only [World.cell?, hh]
 simp only [Option.isSome_none, Bool.false_eq_true, if_false]
 rw [hc j hj']
 simp [hj']
theorem St.laid {α : Type} [Inhabited α] {enc : α → Value} {w0 w : World} {ks : List Ck} {i : Nat} {k : Ck} {g o q m : Nat} {cur : Array Value} {ds : List α} (hS : St w0 w ks) (hk : ks[i]? = some k) (hA : k.A = some ⟨g, o, Option.none⟩) (hg : w0.heap.size ≤ g) (hh : w.heap[g]? = some (.cells cur k.e (0, 0))) (hs : o + k.c ≤ cur.size) (hm : m ≤ ds.length) (hd : ds.length ≤ k.c) (hc : k.c ≤ maxLen) (he1 : ∀ x, (enc x).oneCell' = true := by intro _; rfl) :
  St w0 (putRow enc (Sort.ahead w q) g o ds.toArray) (ks.set i ⟨k.A, m, k.c, k.e, (ds.take m).map enc⟩) := by
 refine hS.turn hk (by simp [Ck.blk, hA]) (by simp [Ck.blk, hA]) (grownBy_put _) (.ofC (isM_all fun v hv => by obtain ⟨x, _, rfl⟩ := List.mem_map.1 hv; exact he1 x) ⟨by simp; omega, by show m ≤ k.c; omega, hc, .inr ⟨g, o, _, hA, hg, heap_put _ hh, by simp only [putCells, Array.size_mapIdx]; exact hs, fun j hj => ?_⟩⟩)
 have hj : j < m := hj
 show (putCells enc o ds.toArray cur)[o + j]? = ((ds.take m).map enc)[j]?
 have hlt2 : o + j < cur.size := by omega
 have hjd : j < ds.length := by omega
 simp [putCells, hlt2, hjd, List.getElem?_take, hj]
/-! ascending lists without twins -/
def SA (l : List Int) : Prop := l.Pairwise (· < ·)
theorem SA.asc {l : List Int} (h : SA l) : Asc l := h.imp fun h => by omega
theorem SA.nodup {l : List Int} (h : SA l) : l.Nodup := h.imp fun h => by omega
theorem SA.eq {l l' : List Int} (h : SA l) (h' : SA l') (hm : ∀ x, x ∈ l ↔ x ∈ l') : l = l' := asc_unique ((List.perm_ext_iff_of_nodup h.nodup h'.nodup).2 hm) h.asc h'.asc
def cmpL (xs : List Int) : List Int := Lib.compactUpTo xs.toArray xs.toArray.size
theorem arr_gi (xs : List Int) (j : Nat) : xs.toArray[j]! = gi xs (j : Int) := by
 by_cases h : j < xs.length
 ·rw [gi_mem h]; simp [h]
 ·have e : gi xs (j : Int) = 0 := by simp [gi, List.getD_eq_getElem?_getD, List.getElem?_eq_none (Nat.not_lt.1 h)]
  rw [e, getElem!_neg _ _ (by simpa using h)]; rfl
theorem cmpL_eq (xs : List Int) : cmpL xs = ((List.range xs.length).filter fun j : Nat => decide (j = 0 ∨ gi xs (j : Int) ≠ gi xs ((j - 1 : Nat) : Int))).map fun j : Nat => gi xs (j : Int) := by
 unfold cmpL Lib.compactUpTo
 rw [List.size_toArray]
 have e1 : Lib.keeps xs.toArray = fun j : Nat => decide (j = 0 ∨ gi xs (j : Int) ≠ gi xs ((j - 1 : Nat) : Int)) := by
  funext j
  unfold Lib.keeps
  rw [arr_gi, arr_gi]
 rw [e1]
 exact List.map_congr_left fun j _ => arr_gi xs j
theorem cmpL_len (xs : List Int) : (cmpL xs).length ≤ xs.length := by
 rw [cmpL_eq, List.length_map]
 have := List.length_filter_le (fun j : Nat => decide (j = 0 ∨ gi xs (j : Int) ≠ gi xs ((j - 1 : Nat) : Int))) (List.range xs.length)
 rwa [List.length_range] at this
theorem cmpL_mem (xs : List Int) (x : Int) : x ∈ cmpL xs ↔ x ∈ xs := by
 rw [cmpL_eq, List.mem_map]
 constructor
 ·rintro ⟨j, hj, rfl⟩
  have := List.mem_range.1 (List.mem_filter.1 hj).1
  rw [gi_mem this]; exact List.getElem_mem _
 ·intro hx
  obtain ⟨j, hj, hjx⟩ := List.mem_iff_getElem.1 hx
  rw [← gi_mem hj] at hjx
  clear hx
  induction j with
  | zero => exact ⟨0, List.mem_filter.2 ⟨List.mem_range.2 hj, by simp⟩, hjx⟩
  | succ j ih =>
   by_cases h : gi xs ((j + 1 : Nat) : Int) = gi xs ((j : Nat) : Int)
   ·exact ih (by omega) (h ▸ hjx)
   ·exact ⟨j + 1, List.mem_filter.2 ⟨List.mem_range.2 hj, by simp only [Nat.add_sub_cancel, decide_eq_true_eq]; exact .inr h⟩, hjx⟩
theorem cmpL_SA {xs : List Int} (h : Asc xs) : SA (cmpL xs) := by
 have mono : ∀ a b, a ≤ b → b < xs.length → gi xs (a : Int) ≤ gi xs (b : Int) := fun a b hab hb => by
  rw [gi_mem (by omega), gi_mem hb]
  by_cases e : a = b
  ·subst e; exact Int.le_refl _
  ·exact (List.pairwise_iff_getElem.1 h) a b (by omega) hb (by omega)
 rw [cmpL_eq]
 unfold SA
 rw [List.pairwise_map]
 have hr : (List.range xs.length).Pairwise (· < ·) := List.pairwise_lt_range
 refine (hr.filter _).imp_of_mem fun {a b} ha hb hab => ?_
 have hb1 := List.mem_range.1 (List.mem_filter.1 hb).1
 have hb2 := of_decide_eq_true (List.mem_filter.1 hb).2
 have h1 := mono a (b - 1) (by omega) (by omega)
 have h2 := mono (b - 1) b (by omega) hb1
 rcases hb2 with hb2 | hb2
 ·omega
 ·omega
def cs (l : List Int) : List Int := cmpL (srt l)
theorem cs_mem (l : List Int) (x : Int) : x ∈ cs l ↔ x ∈ l := by rw [cs, cmpL_mem]; exact (srt_perm l).mem_iff
theorem cs_SA (l : List Int) : SA (cs l) := cmpL_SA (srt_asc l)
theorem cs_len (l : List Int) : (cs l).length ≤ l.length := by
 have h1 := cmpL_len (srt l)
 rw [(srt_perm l).length_eq] at h1
 exact h1
theorem cs_eq {l l' : List Int} (h : SA l) (hm : ∀ x, x ∈ l ↔ x ∈ l') : l = cs l' := h.eq (cs_SA l') fun x => by rw [hm, cs_mem]
theorem cs_cs (l : List Int) (v : Int) : cs (cs l ++ [v]) = cs (l ++ [v]) := cs_eq (cs_SA _) fun x => by simp [cs_mem]
theorem cs_nil : cs [] = [] := List.eq_nil_of_length_eq_zero (Nat.le_zero.1 (cs_len []))
theorem compact_c {w0 w : World} {ks : List Ck} (i : Nat) {t : TypeId} {A : Option Addr} {n c : Nat} {xs : List Int} (hS : St w0 w ks) (hk : ks[i]? = some (CkI t A n c xs)) (h0 : 0 < n) (hn : n ≤ 1000000000) :
  Ret Tryz.prog 80 [.slice A n c] w (fun v w' => v = .slice A (cmpL xs).length c ∧ St w0 w' (ks.set i (CkI t A (cmpL xs).length c (cmpL xs)))) := by
 obtain ⟨h1, h2, h3, h4⟩ := hS.getC hk (isM_I _)
 have hl : xs.length = n := hS.lenI i hk
 have h2 : n ≤ c := h2
 have h3 : c ≤ maxLen := h3
 rcases h4 with ⟨_, hc0⟩ | ⟨g, o, cur, hA, hg, hh, hs, hc⟩
 ·have hc0 : c = 0 := hc0
  omega
 have hA : A = some ⟨g, o, none⟩ := hA
 have hs : o + c ≤ cur.size := hs
 have hc : ∀ j, j < n → cur[o + j]? = (xs.map (Value.int .i64))[j]? := hc
 subst hA
 subst hl
 have key := AnyE.slices_Compact lcomp (Value.int .i64) (fun _ => rfl) (EqlAt.intD _ _ .i64) (NeqAt.intD _ _ .i64) (0 : Int) (fun w => Tryz.zeroValue2 w) g o c xs.toArray w (holds_own hh hc) (by simp; omega) (by simpa using h2)
 refine Calls.mono key fun x w' ⟨hx, q, hw⟩ => ⟨_, hx, rfl, ?_⟩
 subst hw
 have hle := cmpL_len xs
 have h := hS.laid (q := q) (m := (cmpL xs).length) (enc := Value.int .i64) (ds := cmpL xs ++ List.replicate (xs.toArray.size - (cmpL xs).length) 0) hk rfl hg hh hs (by simp) (by simp; show _ ≤ c; omega) h3
 rw [List.take_append_of_le_length (Nat.le_refl _), List.take_length] at h
 exact h
instance : Inhabited SlV := ⟨slNil⟩
end Go.Proofs.YtiblelgfkakmiaaGreatDoor.Vc
/-
 Plain mathematics of complexes: parts of lists, greatest lists, and that there is one order of them.
-/
namespace Go.Proofs.YtiblelgfkakmiaaGreatDoor.Vc
/-! the order of lists -/
def LT (a b : List Int) : Prop := lexC a b < 0
instance (a b : List Int) : Decidable (LT a b) := by unfold LT; infer_instance
theorem LT.ne {a b : List Int} (h : LT a b) : a ≠ b := fun e => by
 unfold LT at h
 rw [lexC_zero.2 e] at h
 omega
theorem LT.tri {a b : List Int} (h : ¬ LT a b) (h' : a ≠ b) : LT b a := by
 unfold LT at h ⊢
 have h1 := lexC_swap a b
 have h2 : lexC a b ≠ 0 := fun e => h' (lexC_zero.1 e)
 omega
theorem LT.asymm {a b : List Int} (h : LT a b) : ¬ LT b a := fun h' => by
 unfold LT at h h'
 have h1 := lexC_swap a b
 omega
theorem LT.irrefl (a : List Int) : ¬ LT a a := fun h => h.ne rfl
theorem LT.trans {a b c : List Int} (h : LT a b) (h' : LT b c) : LT a c := lexC_trans h h'
theorem LT.ntrans {a b c : List Int} (h : ¬ LT a b) (h' : ¬ LT b c) : ¬ LT a c := fun hac => by
 by_cases e : a = b
 ·subst e; exact h' hac
 ·exact h' ((LT.tri h e).trans hac)
def SL (l : List (List Int)) : Prop := l.Pairwise LT
theorem SL.nodup {l : List (List Int)} (h : SL l) : l.Nodup := h.imp fun h => h.ne
theorem SL.eq : ∀ {l l' : List (List Int)}, SL l → SL l' → (∀ x, x ∈ l ↔ x ∈ l') → l = l'
 | [], [], _, _, _ => rfl
 | [], b :: r, _, _, h => absurd ((h b).2 (by simp)) (by simp)
 | a :: l, [], _, _, h => absurd ((h a).1 (by simp)) (by simp)
 | a :: l, b :: r, hl, hr, h => by
  obtain ⟨hl1, hl2⟩ := List.pairwise_cons.1 hl
  obtain ⟨hr1, hr2⟩ := List.pairwise_cons.1 hr
  have e : a = b := by
   have h1 : a ∈ b :: r := (h a).1 (by simp)
   have h2 : b ∈ a :: l := (h b).2 (by simp)
   rcases List.mem_cons.1 h1 with e | h1
   ·exact e
   ·rcases List.mem_cons.1 h2 with e | h2
    ·exact e.symm
    ·exact absurd (hl1 b h2) (hr1 a h1).asymm
  subst e
  rw [SL.eq hl2 hr2 fun x => ?_]
  have hx := h x
  constructor
  ·intro hm
   rcases List.mem_cons.1 (hx.1 (by simp [hm])) with e | h'
   ·subst e; exact absurd (hl1 x hm) (LT.irrefl x)
   ·exact h'
  ·intro hm
   rcases List.mem_cons.1 (hx.2 (by simp [hm])) with e | h'
   ·subst e; exact absurd (hr1 x hm) (LT.irrefl x)
   ·exact h'
theorem SL.of_sorted {l : List (List Int)} (h : l.Pairwise fun a b => ¬ LT b a) (hn : l.Nodup) : SL l := by
 refine (h.and hn).imp fun {a b} ⟨h1, h2⟩ => LT.tri h1 (Ne.symm h2)
/-! parts -/
def Ins (a b : List Int) : Prop := ∀ x ∈ a, x ∈ b
instance (a b : List Int) : Decidable (Ins a b) := by unfold Ins; infer_instance
theorem Ins.refl (a : List Int) : Ins a a := fun _ h => h
theorem Ins.trans {a b c : List Int} (h : Ins a b) (h' : Ins b c) : Ins a c := fun x hx => h' x (h x hx)
theorem Ins.sub : ∀ {b a : List Int}, SA a → SA b → Ins a b → a.Sublist b
 | _, [], _, _, _ => List.nil_sublist _
 | [], x :: s, _, _, h => absurd (h x (by simp)) (by simp)
 | y :: r, x :: s, ha, hb, h => by
  obtain ⟨ha1, ha2⟩ := List.pairwise_cons.1 ha
  obtain ⟨hb1, hb2⟩ := List.pairwise_cons.1 hb
  rcases List.mem_cons.1 (h x (by simp)) with e | hx
  ·subst e
   refine List.Sublist.cons_cons _ (Ins.sub ha2 hb2 fun z hz => ?_)
   rcases List.mem_cons.1 (h z (by simp [hz])) with e | hz'
   ·subst e; have := ha1 z hz; omega
   ·exact hz'
  ·refine List.Sublist.cons _ (Ins.sub ha hb2 fun z hz => ?_)
   have hyx := hb1 x hx
   rcases List.mem_cons.1 (h z hz) with e | hz'
   ·subst e
    rcases List.mem_cons.1 hz with e | hz
    ·omega
    ·have := ha1 z hz; omega
   ·exact hz'
theorem Ins.of_sub {a b : List Int} (h : a.Sublist b) : Ins a b := fun _ hx => h.subset hx
theorem Ins.anti {a b : List Int} (ha : SA a) (hb : SA b) (h : Ins a b) (h' : Ins b a) : a = b := ha.eq hb fun x => ⟨h x, h' x⟩
theorem Ins.len {a b : List Int} (ha : SA a) (hb : SA b) (h : Ins a b) : a.length ≤ b.length := (Ins.sub ha hb h).length_le
theorem Ins.same {a b : List Int} (ha : SA a) (hb : SA b) (h : Ins a b) (hl : b.length ≤ a.length) : a = b := (Ins.sub ha hb h).eq_of_length_le hl
def ptsP : List Int → Nat → List (List Int)
 | _, 0 => [[]]
 | [], _ + 1 => []
 | x :: r, k + 1 => (ptsP r k).map (x :: ·) ++ ptsP r (k + 1)
theorem ptsP_mem : ∀ {l : List Int} {k : Nat} {p : List Int}, p ∈ ptsP l k ↔ p.Sublist l ∧ p.length = k
 | l, 0, p => by
  simp only [ptsP, List.mem_singleton]
  constructor
  ·rintro rfl; exact ⟨List.nil_sublist _, rfl⟩
  ·exact fun h => List.eq_nil_of_length_eq_zero h.2
 | [], k + 1, p => by
  simp only [ptsP, List.not_mem_nil, List.sublist_nil, false_iff, not_and]
  rintro rfl
  simp
 | x :: r, k + 1, p => by
  simp only [ptsP, List.mem_append, List.mem_map, ptsP_mem]
  constructor
  ·rintro (⟨q, ⟨h1, h2⟩, rfl⟩ | ⟨h1, h2⟩)
   ·exact ⟨List.Sublist.cons_cons _ h1, by simp [h2]⟩
   ·exact ⟨List.Sublist.cons _ h1, h2⟩
  ·rintro ⟨h1, h2⟩
   rcases List.sublist_cons_iff.1 h1 with h3 | ⟨q, rfl, h3⟩
   ·exact .inr ⟨h3, h2⟩
   ·exact .inl ⟨q, ⟨h3, by simpa using h2⟩, rfl⟩
theorem ptsP_short {l : List Int} {k : Nat} (h : l.length < k) : ptsP l k = [] := by
 rw [List.eq_nil_iff_forall_not_mem]
 intro p hp
 obtain ⟨h1, h2⟩ := ptsP_mem.1 hp
 have := h1.length_le
 omega
theorem ptsP_step {l : List Int} {k i : Nat} (h : i < l.length) : ptsP (l.drop i) (k + 1) = (ptsP (l.drop (i + 1)) k).map (gi l (i : Int) :: ·) ++ ptsP (l.drop (i + 1)) (k + 1) := by
 rw [List.drop_eq_getElem_cons h, ptsP, gi_mem h]
theorem LT.cons_iff {x y : Int} {a b : List Int} : LT (x :: a) (y :: b) ↔ x < y ∨ x = y ∧ LT a b := by
 unfold LT
 rw [lexC]
 by_cases e : x = y
 ·subst e
  rw [if_pos (cmpI_zero.2 rfl)]
  constructor
  ·exact fun h => .inr ⟨rfl, h⟩
  ·rintro (h | h)
   ·omega
   ·exact h.2
 ·rw [if_neg (fun h => e (cmpI_zero.1 h)), cmpI_neg]
  constructor
  ·exact fun h => .inl h
  ·rintro (h | h)
   ·exact h
   ·exact absurd h.1 e
theorem ptsP_SL : ∀ {l : List Int} {k : Nat}, SA l → SL (ptsP l k)
 | l, 0, _ => by simp [ptsP, SL]
 | [], k + 1, _ => by simp [ptsP, SL]
 | x :: r, k + 1, h => by
  obtain ⟨h1, h2⟩ := List.pairwise_cons.1 h
  unfold SL
  rw [ptsP, List.pairwise_append]
  refine ⟨?_, ptsP_SL h2, ?_⟩
  ·rw [List.pairwise_map]
   exact (ptsP_SL (k := k) h2).imp fun {a b} hab => LT.cons_iff.2 (.inr ⟨rfl, hab⟩)
  ·intro a ha b hb
   obtain ⟨q, _, rfl⟩ := List.mem_map.1 ha
   obtain ⟨h3, h4⟩ := ptsP_mem.1 hb
   match b, h3, h4 with
   | y :: b, h3, _ => exact LT.cons_iff.2 (.inl (h1 y (h3.subset (by simp))))
def allP (z : List Int) : List (List Int) := (List.range (z.length + 1)).flatMap (ptsP z)
theorem allP_mem {z p : List Int} : p ∈ allP z ↔ p.Sublist z := by
 simp only [allP, List.mem_flatMap, List.mem_range, ptsP_mem]
 constructor
 ·rintro ⟨_, _, h, _⟩; exact h
 ·exact fun h => ⟨p.length, by have := h.length_le; omega, h, rfl⟩
/-! greatest lists -/
def MaxIn (ls : List (List Int)) (x : List Int) : Prop := x ∈ ls ∧ x ≠ [] ∧ ∀ y ∈ ls, Ins x y → y = x
instance (ls : List (List Int)) (x : List Int) : Decidable (MaxIn ls x) := by unfold MaxIn; infer_instance
theorem max_above : ∀ (n : Nat) {ls : List (List Int)} (_ : ∀ l ∈ ls, SA l) (m : Nat) (_ : ∀ l ∈ ls, l.length ≤ m) {x : List Int}, x ∈ ls → x ≠ [] → m - x.length ≤ n → ∃ y, MaxIn ls y ∧ Ins x y
 | n, ls, hs, m, hm, x, hx, hne, hn => by
  by_cases h : MaxIn ls x
  ·exact ⟨x, h, Ins.refl x⟩
  ·have h2 : ∃ y ∈ ls, Ins x y ∧ y ≠ x := by
    refine Classical.byContradiction fun hno => h ⟨hx, hne, fun y hy hxy => Classical.byContradiction fun he => hno ⟨y, hy, hxy, he⟩⟩
   obtain ⟨y, hy, hxy, he⟩ := h2
   have h3 : x.length < y.length := by
    refine Nat.lt_of_not_le fun hle => he (hxy.same (hs x hx) (hs y hy) hle).symm
   have h4 := hm y hy
   obtain ⟨k, rfl⟩ : ∃ k, n = k + 1 := ⟨n - 1, by omega⟩
   obtain ⟨z, hz, hyz⟩ := max_above k hs m hm hy (fun e => by subst e; simp at h3) (by omega)
   exact ⟨z, hz, hxy.trans hyz⟩
theorem len_bound (ls : List (List Int)) : ∃ m : Nat, ∀ l ∈ ls, l.length ≤ m := by
 induction ls with
 | nil => exact ⟨0, by simp⟩
 | cons a r ih =>
  obtain ⟨m, h⟩ := ih
  refine ⟨max a.length m, fun l hl => ?_⟩
  rcases List.mem_cons.1 hl with rfl | hl
  ·exact Nat.le_max_left _ _
  ·exact Nat.le_trans (h l hl) (Nat.le_max_right _ _)
theorem max_ex {ls : List (List Int)} (hs : ∀ l ∈ ls, SA l) {x : List Int} (hx : x ∈ ls) (hne : x ≠ []) : ∃ y, MaxIn ls y ∧ Ins x y := by
 obtain ⟨m, hm⟩ := len_bound ls
 exact max_above _ hs m hm hx hne (Nat.le_refl _)
def FacOf (ls F : List (List Int)) : Prop := SL F ∧ ∀ x, x ∈ F ↔ MaxIn ls x
theorem FacOf.eq {ls F G : List (List Int)} (h : FacOf ls F) (h' : FacOf ls G) : F = G := h.1.eq h'.1 fun x => (h.2 x).trans (h'.2 x).symm
def grtS (out : List (List Int)) (l : List Int) : List (List Int) := if l = [] ∨ l ∈ out.flatMap allP then out else out ++ [l]
def grtP (ls : List (List Int)) : List (List Int) := ls.foldl grtS []
theorem grtP_snoc (ls : List (List Int)) (l : List Int) : grtP (ls ++ [l]) = grtS (grtP ls) l := by simp [grtP, List.foldl_append]
theorem grtS_in {out : List (List Int)} {l : List Int} (ho : ∀ z ∈ out, SA z) (hl : SA l) : l ∈ out.flatMap allP ↔ ∃ z ∈ out, Ins l z := by
 simp only [List.mem_flatMap, allP_mem]
 exact ⟨fun ⟨z, h1, h2⟩ => ⟨z, h1, .of_sub h2⟩, fun ⟨z, h1, h2⟩ => ⟨z, h1, h2.sub hl (ho z h1)⟩⟩
structure GrtI (ls out : List (List Int)) : Prop where
 mem : ∀ z ∈ out, z ∈ ls ∧ z ≠ []
 all : ∀ l ∈ ls, l ≠ [] → ∃ z ∈ out, Ins l z
 anti : out.Pairwise fun a b => ¬ Ins b a
theorem grtP_inv : ∀ (r : List (List Int)), (∀ l ∈ r, SA l) → GrtI r.reverse (grtP r.reverse)
 | [], _ => ⟨by simp [grtP], by simp, by simp [grtP]⟩
 | l :: r, h => by
  have ih := grtP_inv r fun z hz => h z (by simp [hz])
  have hl := h l (by simp)
  have ho : ∀ z ∈ grtP r.reverse, SA z := fun z hz => h z (by have := (ih.mem z hz).1; simp at this; simp [this])
  rw [List.reverse_cons, grtP_snoc]
  unfold grtS
  split
  ·rename_i hc
   refine ⟨fun z hz => ⟨by simp [(ih.mem z hz).1] , (ih.mem z hz).2⟩, fun x hx hne => ?_, ih.anti⟩
   rcases List.mem_append.1 hx with hx | hx
   ·exact ih.all x hx hne
   ·obtain rfl : x = l := by simpa using hx
    rcases hc with hc | hc
    ·exact absurd hc hne
    ·exact (grtS_in ho hl).1 hc
  ·rename_i hc
   refine ⟨fun z hz => ?_, fun x hx hne => ?_, ?_⟩
   ·rcases List.mem_append.1 hz with hz | hz
    ·exact ⟨by simp [(ih.mem z hz).1], (ih.mem z hz).2⟩
    ·obtain rfl : z = l := by simpa using hz
     exact ⟨by simp, fun e => hc (.inl e)⟩
   ·rcases List.mem_append.1 hx with hx | hx
    ·obtain ⟨z, h1, h2⟩ := ih.all x hx hne
     exact ⟨z, by simp [h1], h2⟩
    ·obtain rfl : x = l := by simpa using hx
     exact ⟨x, by simp, Ins.refl x⟩
   ·rw [List.pairwise_append]
    refine ⟨ih.anti, by simp, fun a ha b hb hba => ?_⟩
    obtain rfl : b = l := by simpa using hb
    exact hc (.inr ((grtS_in ho hl).2 ⟨a, ha, hba⟩))
theorem grtP_I {ls : List (List Int)} (h : ∀ l ∈ ls, SA l) : GrtI ls (grtP ls) := by
 have := grtP_inv ls.reverse fun l hl => h l (by simpa using hl)
 rwa [List.reverse_reverse] at this
theorem grtP_sub : ∀ (ls : List (List Int)), (grtP ls).Sublist ls := fun ls => by
 have key : ∀ r : List (List Int), (grtP r.reverse).Sublist r.reverse := fun r => by
  induction r with
  | nil => simp [grtP]
  | cons l r ih =>
   rw [List.reverse_cons, grtP_snoc]
   unfold grtS
   split
   ·exact ih.trans (List.sublist_append_left _ _)
   ·exact ih.append (List.Sublist.refl _)
 have := key ls.reverse
 rwa [List.reverse_reverse] at this
theorem grtP_mem {ls : List (List Int)} (h : ∀ l ∈ ls, SA l) (hd : ls.Pairwise fun a b => b.length ≤ a.length) (x : List Int) : x ∈ grtP ls ↔ MaxIn ls x := by
 have hI := grtP_I h
 have hdo : (grtP ls).Pairwise fun a b => b.length ≤ a.length := hd.sublist (grtP_sub ls)
 constructor
 ·intro hx
  refine ⟨(hI.mem x hx).1, (hI.mem x hx).2, fun y hy hxy => ?_⟩
  have hyne : y ≠ [] := fun e => (hI.mem x hx).2 (by
   cases x with
   | nil => rfl
   | cons a r => have := hxy a (by simp); rw [e] at this; simp at this)
  obtain ⟨z, hz, hyz⟩ := hI.all y hy hyne
  have hxz := hxy.trans hyz
  have e : x = z := by
   refine Classical.byContradiction fun he => ?_
   obtain ⟨i, hi, rfl⟩ := List.mem_iff_getElem.1 hx
   obtain ⟨j, hj, rfl⟩ := List.mem_iff_getElem.1 hz
   rcases Nat.lt_trichotomy i j with hij | hij | hij
   ·have h1 := List.pairwise_iff_getElem.1 hdo i j hi hj hij
    exact he (hxz.same (h _ (hI.mem _ hx).1) (h _ (hI.mem _ hz).1) h1)
   ·subst hij; exact he rfl
   ·exact List.pairwise_iff_getElem.1 hI.anti j i hj hi hij hxz
  subst e
  exact hyz.anti (h y hy) (h x (hI.mem x hx).1) hxy
 ·intro hx
  obtain ⟨z, hz, hxz⟩ := hI.all x hx.1 hx.2.1
  have := hx.2.2 z (hI.mem z hz).1 hxz
  rwa [this] at hz
theorem grtP_nodup {ls : List (List Int)} (h : ∀ l ∈ ls, SA l) : (grtP ls).Nodup := (grtP_I h).anti.imp fun h e => h (by rw [e]; exact Ins.refl _)
theorem MaxIn.perm {ls ls' : List (List Int)} (h : ∀ x, x ∈ ls ↔ x ∈ ls') {x : List Int} (hm : MaxIn ls x) : MaxIn ls' x := ⟨(h x).1 hm.1, hm.2.1, fun y hy => hm.2.2 y ((h y).2 hy)⟩
/-! one more list in order -/
def atL (x : List Int) : List (List Int) → Nat
 | [] => 0
 | y :: l => if LT y x then atL x l + 1 else 0
theorem atL_le (x : List Int) : ∀ l, atL x l ≤ l.length
 | [] => Nat.le_refl _
 | y :: l => by
  have := atL_le x l
  unfold atL
  split
  ·simp; omega
  ·simp
theorem atL_lt {x : List Int} : ∀ {l : List (List Int)} {j : Nat} (hj : j < l.length), j < atL x l → LT l[j] x
 | y :: l, j, hj, h => by
  unfold atL at h
  split at h
  ·rename_i hy
   cases j with
   | zero => exact hy
   | succ j => exact atL_lt (l := l) (by simpa using hj) (by omega)
  ·omega
theorem atL_ge {x : List Int} : ∀ {l : List (List Int)} (_ : SL l) {j : Nat} (hj : j < l.length), atL x l ≤ j → ¬ LT l[j] x
 | y :: l, hs, j, hj, h => by
  obtain ⟨h1, h2⟩ := List.pairwise_cons.1 hs
  unfold atL at h
  split at h
  ·rename_i hy
   cases j with
   | zero => omega
   | succ j => exact atL_ge (l := l) h2 (by simpa using hj) (by omega)
  ·rename_i hy
   cases j with
   | zero => exact hy
   | succ j =>
    intro hl
    have hj' : j < l.length := by simpa using hj
    exact hy ((h1 l[j] (List.getElem_mem hj')).trans hl)
theorem atL_of {x : List Int} {l : List (List Int)} (hs : SL l) {k : Nat} (hk : k ≤ l.length) (h1 : ∀ j (hj : j < l.length), j < k → LT l[j] x) (h2 : ∀ j (hj : j < l.length), k ≤ j → ¬ LT l[j] x) : atL x l = k := by
 have h3 := atL_le x l
 rcases Nat.lt_trichotomy (atL x l) k with h | h | h
 ·exact absurd (h1 _ (by omega) h) (atL_ge hs (by omega) (Nat.le_refl _))
 ·exact h
 ·exact absurd (atL_lt (by omega) h) (h2 k (by omega) (Nat.le_refl _))
def putL (l : List (List Int)) (x : List Int) : List (List Int) := if x ∈ l then l else l.take (atL x l) ++ x :: l.drop (atL x l)
theorem putL_mem {l : List (List Int)} {x y : List Int} : y ∈ putL l x ↔ y ∈ l ∨ y = x := by
 unfold putL
 split
 ·rename_i h
  exact ⟨fun h' => .inl h', fun h' => by rcases h' with h' | rfl <;> assumption⟩
 ·constructor
  ·intro h
   rcases List.mem_append.1 h with h | h
   ·exact .inl (List.mem_of_mem_take h)
   ·rcases List.mem_cons.1 h with h | h
    ·exact .inr h
    ·exact .inl (List.mem_of_mem_drop h)
  ·rintro (h | rfl)
   ·rw [← List.take_append_drop (atL x l) l] at h
    rcases List.mem_append.1 h with h | h
    ·simp [h]
    ·simp [h]
   ·simp
theorem putL_SL {l : List (List Int)} (hs : SL l) (x : List Int) : SL (putL l x) := by
 unfold putL
 split
 ·exact hs
 ·rename_i hx
  have h1 : ∀ a ∈ l.take (atL x l), LT a x := fun a ha => by
   obtain ⟨j, hj, rfl⟩ := List.mem_iff_getElem.1 ha
   rw [List.length_take] at hj
   rw [List.getElem_take]
   exact atL_lt (by omega) (by omega)
  have h2 : ∀ b ∈ l.drop (atL x l), LT x b := fun b hb => by
   obtain ⟨j, hj, rfl⟩ := List.mem_iff_getElem.1 hb
   rw [List.length_drop] at hj
   rw [List.getElem_drop]
   exact LT.tri (atL_ge hs (by omega) (Nat.le_add_right _ _)) (fun e => hx (by rw [← e]; exact List.getElem_mem _))
  unfold SL
  rw [List.pairwise_append]
  refine ⟨hs.sublist (List.take_sublist _ _), List.pairwise_cons.2 ⟨h2, hs.sublist (List.drop_sublist _ _)⟩, fun a ha b hb => ?_⟩
  rcases List.mem_cons.1 hb with rfl | hb
  ·exact h1 a ha
  ·exact (h1 a ha).trans (h2 b hb)
def putS (ls : List (List Int)) : List (List Int) := (ls.filter fun l => decide (l ≠ [])).foldl putL []
theorem foldPut_SL : ∀ (ls : List (List Int)) {l : List (List Int)}, SL l → SL (ls.foldl putL l) ∧ ∀ x, x ∈ ls.foldl putL l ↔ x ∈ l ∨ x ∈ ls
 | [], l, h => ⟨h, fun x => by simp⟩
 | a :: r, l, h => by
  obtain ⟨h1, h2⟩ := foldPut_SL r (putL_SL h a)
  refine ⟨h1, fun x => ?_⟩
  rw [List.foldl_cons, h2, putL_mem, List.mem_cons]
  constructor
  ·rintro ((h | h) | h)
   ·exact .inl h
   ·exact .inr (.inl h)
   ·exact .inr (.inr h)
  ·rintro (h | h | h)
   ·exact .inl (.inl h)
   ·exact .inl (.inr h)
   ·exact .inr h
theorem putS_SL (ls : List (List Int)) : SL (putS ls) := (foldPut_SL _ (by simp [SL])).1
theorem putS_mem (ls : List (List Int)) (x : List Int) : x ∈ putS ls ↔ x ∈ ls ∧ x ≠ [] := by
 rw [putS, (foldPut_SL _ (by simp [SL])).2]; simp
def facP (ls : List (List Int)) : List (List Int) := (putS ls).filter fun x => decide (∀ y ∈ putS ls, Ins x y → y = x)
theorem facP_of (ls : List (List Int)) : FacOf ls (facP ls) := by
 refine ⟨(putS_SL ls).filter _, fun x => ?_⟩
 rw [facP, List.mem_filter, putS_mem, decide_eq_true_eq]
 constructor
 ·rintro ⟨⟨h1, h2⟩, h3⟩
  refine ⟨h1, h2, fun y hy hxy => h3 y ((putS_mem ls y).2 ⟨hy, fun e => h2 ?_⟩) hxy⟩
  cases x with
  | nil => rfl
  | cons a r => have := hxy a (by simp); rw [e] at this; simp at this
 ·rintro ⟨h1, h2, h3⟩
  exact ⟨⟨h1, h2⟩, fun y hy => h3 y ((putS_mem ls y).1 hy).1⟩
theorem facP_mem {ls : List (List Int)} {x : List Int} : x ∈ facP ls ↔ MaxIn ls x := (facP_of ls).2 x
/-! numbers anew -/
def Mono (f : Int → Int) (s : List Int) : Prop := ∀ x ∈ s, ∀ y ∈ s, x < y → f x < f y
theorem Mono.inj {f : Int → Int} {s : List Int} (h : Mono f s) {x y : Int} (hx : x ∈ s) (hy : y ∈ s) (e : f x = f y) : x = y := by
 rcases Int.lt_trichotomy x y with hl | hl | hl
 ·have := h x hx y hy hl; omega
 ·exact hl
 ·have := h y hy x hx hl; omega
theorem Mono.map_inj {f : Int → Int} {s : List Int} (h : Mono f s) : ∀ {a b : List Int}, Ins a s → Ins b s → a.map f = b.map f → a = b
 | [], [], _, _, _ => rfl
 | [], _ :: _, _, _, e => by simp at e
 | _ :: _, [], _, _, e => by simp at e
 | x :: a, y :: b, ha, hb, e => by
  simp only [List.map_cons, List.cons.injEq] at e
  rw [h.inj (ha x (by simp)) (hb y (by simp)) e.1, Mono.map_inj h (fun z hz => ha z (by simp [hz])) (fun z hz => hb z (by simp [hz])) e.2]
theorem Mono.ins {f : Int → Int} {s : List Int} (h : Mono f s) {a b : List Int} (ha : Ins a s) (hb : Ins b s) : Ins (a.map f) (b.map f) ↔ Ins a b := by
 constructor
 ·intro hi x hx
  obtain ⟨y, hy, e⟩ := List.mem_map.1 (hi (f x) (List.mem_map_of_mem hx))
  rwa [← h.inj (hb y hy) (ha x hx) e]
 ·intro hi z hz
  obtain ⟨x, hx, rfl⟩ := List.mem_map.1 hz
  exact List.mem_map_of_mem (hi x hx)
theorem Mono.lt {f : Int → Int} {s : List Int} (h : Mono f s) : ∀ {a b : List Int}, Ins a s → Ins b s → LT a b → LT (a.map f) (b.map f)
 | [], [], _, _, hl => hl
 | [], _ :: _, _, _, _ => by simp [LT, lexC]
 | _ :: _, [], _, _, hl => by simp [LT, lexC] at hl
 | x :: a, y :: b, ha, hb, hl => by
  rw [List.map_cons, List.map_cons, LT.cons_iff]
  rcases LT.cons_iff.1 hl with h1 | ⟨rfl, h1⟩
  ·exact .inl (h x (ha x (by simp)) y (hb y (by simp)) h1)
  ·exact .inr ⟨rfl, Mono.lt h (fun z hz => ha z (by simp [hz])) (fun z hz => hb z (by simp [hz])) h1⟩
theorem Mono.sa {f : Int → Int} {s : List Int} (h : Mono f s) {a : List Int} (ha : Ins a s) (hs : SA a) : SA (a.map f) := by
 unfold SA
 rw [List.pairwise_map]
 exact hs.imp_of_mem fun {x y} hx hy hxy => h x (ha x hx) y (ha y hy) hxy
theorem facP_map {f : Int → Int} {s : List Int} (h : Mono f s) {ls : List (List Int)} (hl : ∀ l ∈ ls, Ins l s) : facP (ls.map (List.map f)) = (facP ls).map (List.map f) := by
 refine (facP_of _).eq ⟨?_, fun x => ?_⟩
 ·unfold SL
  rw [List.pairwise_map]
  exact (facP_of ls).1.imp_of_mem fun {a b} ha hb hab => h.lt (hl a (facP_mem.1 ha).1) (hl b (facP_mem.1 hb).1) hab
 ·rw [List.mem_map]
  constructor
  ·rintro ⟨z, hz, rfl⟩
   have hz := facP_mem.1 hz
   refine ⟨List.mem_map_of_mem hz.1, fun e => hz.2.1 (by simpa using e), fun y hy hi => ?_⟩
   obtain ⟨q, hq, rfl⟩ := List.mem_map.1 hy
   rw [hz.2.2 q hq ((h.ins (hl z hz.1) (hl q hq)).1 hi)]
  ·rintro ⟨h1, h2, h3⟩
   obtain ⟨z, hz, rfl⟩ := List.mem_map.1 h1
   refine ⟨z, facP_mem.2 ⟨hz, fun e => h2 (by rw [e]; rfl), fun y hy hi => ?_⟩, rfl⟩
   exact h.map_inj (hl y hy) (hl z hz) (h3 _ (List.mem_map_of_mem hy) ((h.ins (hl z hz) (hl y hy)).2 hi))
/-
 Plain mathematics of complexes: the complex of some lists, told in one way; and what a complex is.
-/
def ix (s : List Int) (x : Int) : Int := (s.idxOf x : Nat)
theorem ix_rng {s : List Int} {x : Int} (hx : x ∈ s) : 0 ≤ ix s x ∧ ix s x < s.length := by
 have := List.idxOf_lt_length_of_mem hx
 unfold ix
 omega
theorem gi_ix {s : List Int} {x : Int} (hx : x ∈ s) : gi s (ix s x) = x := by
 have h := List.idxOf_lt_length_of_mem hx
 unfold ix
 rw [gi_mem h]
 exact List.getElem_idxOf h
theorem SA.lt {s : List Int} (h : SA s) {a b : Nat} (hab : a < b) (hb : b < s.length) : gi s (a : Int) < gi s (b : Int) := by
 rw [gi_mem (by omega), gi_mem hb]
 exact List.pairwise_iff_getElem.1 h a b (by omega) hb hab
theorem ix_of {s : List Int} (h : SA s) {k : Nat} (hk : k < s.length) : ix s (gi s (k : Int)) = k := by
 have hm : gi s (k : Int) ∈ s := by rw [gi_mem hk]; exact List.getElem_mem _
 have h1 := ix_rng hm
 have h2 := gi_ix hm
 obtain ⟨j, hj⟩ : ∃ j : Nat, ix s (gi s (k : Int)) = j := ⟨(ix s (gi s (k : Int))).toNat, by omega⟩
 rw [hj] at h1 h2 ⊢
 rcases Nat.lt_trichotomy j k with hl | hl | hl
 ·have := h.lt hl hk; omega
 ·rw [hl]
 ·have := h.lt hl (by omega); omega
theorem ix_mono {s : List Int} (h : SA s) : Mono (ix s) s := fun x hx y hy hxy => by
 have hx1 := ix_rng hx
 have hy1 := ix_rng hy
 have hx2 := gi_ix hx
 have hy2 := gi_ix hy
 obtain ⟨a, ha⟩ : ∃ a : Nat, ix s x = a := ⟨(ix s x).toNat, by omega⟩
 obtain ⟨b, hb⟩ : ∃ b : Nat, ix s y = b := ⟨(ix s y).toNat, by omega⟩
 rw [ha] at hx1 hx2 ⊢
 rw [hb] at hy1 hy2 ⊢
 rcases Nat.lt_trichotomy a b with hl | hl | hl
 ·omega
 ·subst hl; omega
 ·have := h.lt hl (by omega); omega
def cvP (ss : List (List Int)) : List Int := cs ss.flatten
theorem cvP_ins {ss : List (List Int)} {l : List Int} (hl : l ∈ ss) : Ins l (cvP ss) := fun x hx => (cs_mem _ _).2 (List.mem_flatten.2 ⟨l, hl, hx⟩)
def cxF (ss : List (List Int)) : List (List Int) := (facP ss).map (List.map (ix (cvP ss)))
def CxBad (ss : List (List Int)) : Prop := (∃ l ∈ ss, 6 < l.length) ∨ 60 < (cvP ss).length ∨ 400 < (facP ss).length
instance (ss : List (List Int)) : Decidable (CxBad ss) := by unfold CxBad; infer_instance
def cxV (ss : List (List Int)) : Int := if CxBad ss then 0 else ((cvP ss).length : Nat)
def cxL (ss : List (List Int)) : List (List Int) := if CxBad ss then [] else cxF ss
def cxK (ss : List (List Int)) : Int := if CxBad ss then 3 else 0
theorem cv_fac {ss : List (List Int)} (hs : ∀ l ∈ ss, SA l) : cs (facP ss).flatten = cvP ss := by
 refine (cs_SA _).eq (cs_SA _) fun x => ?_
 rw [cs_mem, cvP, cs_mem, List.mem_flatten, List.mem_flatten]
 constructor
 ·rintro ⟨l, hl, hx⟩
  exact ⟨l, (facP_mem.1 hl).1, hx⟩
 ·rintro ⟨l, hl, hx⟩
  obtain ⟨y, hy, hi⟩ := max_ex hs hl (fun e => by subst e; simp at hx)
  exact ⟨y, facP_mem.2 hy, hi x hx⟩
theorem long_fac {ss : List (List Int)} (hs : ∀ l ∈ ss, SA l) : (∃ l ∈ facP ss, 6 < l.length) ↔ ∃ l ∈ ss, 6 < l.length := by
 constructor
 ·rintro ⟨l, hl, h⟩
  exact ⟨l, (facP_mem.1 hl).1, h⟩
 ·rintro ⟨l, hl, h⟩
  obtain ⟨y, hy, hi⟩ := max_ex hs hl (fun e => by subst e; simp at h)
  have := hi.len (hs l hl) (hs y hy.1)
  exact ⟨y, facP_mem.2 hy, by omega⟩
theorem fac_ix (ss : List (List Int)) : facP (ss.map (List.map (ix (cvP ss)))) = cxF ss := facP_map (ix_mono (cs_SA _)) fun _ hl => cvP_ins hl
theorem facP_ext {ss tt : List (List Int)} (h : ∀ x, x ∈ ss ↔ x ∈ tt) : facP ss = facP tt := (facP_of ss).eq ⟨(facP_of tt).1, fun x => by
 rw [facP_mem]
 exact ⟨fun hm => hm.perm fun x => (h x).symm, fun hm => hm.perm h⟩⟩
theorem cvP_ext {ss tt : List (List Int)} (h : ∀ x, x ∈ ss ↔ x ∈ tt) : cvP ss = cvP tt := (cs_SA _).eq (cs_SA _) fun x => by
 simp only [cvP, cs_mem, List.mem_flatten, h]
theorem cx_ext {ss tt : List (List Int)} (h : ∀ x, x ∈ ss ↔ x ∈ tt) : cxV ss = cxV tt ∧ cxL ss = cxL tt ∧ cxK ss = cxK tt := by
 have hb : CxBad ss ↔ CxBad tt := by
  unfold CxBad
  rw [facP_ext h, cvP_ext h]
  simp only [h]
 unfold cxV cxL cxK cxF
 rw [facP_ext h, cvP_ext h]
 simp only [hb, and_self]
/-! what a complex is -/
structure Cplx (V : Int) (F : List (List Int)) : Prop where
 v : 0 ≤ V ∧ V ≤ 60
 f : F.length ≤ 400
 row : ∀ l ∈ F, (1 ≤ l.length ∧ l.length ≤ 6) ∧ SA l ∧ ∀ x ∈ l, 0 ≤ x ∧ x < V
 ord : SL F
 all : ∀ x : Int, 0 ≤ x → x < V → ∃ l ∈ F, x ∈ l
 top : ∀ l ∈ F, ∀ m ∈ F, Ins l m → m = l
theorem facP_all {F : List (List Int)} (ho : SL F) (hn : ∀ l ∈ F, l ≠ []) : (facP F).length = F.length ↔ ∀ l ∈ F, ∀ m ∈ F, Ins l m → m = l := by
 have e : facP F = F.filter fun x => decide (∀ y ∈ F, Ins x y → y = x) := by
  refine (facP_of F).1.eq (ho.filter _) fun x => ?_
  rw [facP_mem, List.mem_filter, decide_eq_true_eq]
  exact ⟨fun h => ⟨h.1, h.2.2⟩, fun h => ⟨h.1, hn x h.1, h.2⟩⟩
 rw [e, List.length_filter_eq_length_iff]
 simp
/-
 Plain mathematics of complexes: the complex of some lists is one, and a complex is that of its facets.
-/
theorem cx_cplx {ss : List (List Int)} (hs : ∀ l ∈ ss, SA l) (hb : ¬ CxBad ss) : Cplx (cxV ss) (cxL ss) := by
 have hm := ix_mono (cs_SA ss.flatten)
 have hin : ∀ l ∈ facP ss, Ins l (cvP ss) := fun l hl => cvP_ins (facP_mem.1 hl).1
 unfold cxV cxL
 rw [if_neg hb, if_neg hb]
 have hb1 : ∀ l ∈ ss, l.length ≤ 6 := fun l hl => Nat.le_of_not_lt fun h => hb (.inl ⟨l, hl, h⟩)
 have hb2 : (cvP ss).length ≤ 60 := Nat.le_of_not_lt fun h => hb (.inr (.inl h))
 have hb3 : (facP ss).length ≤ 400 := Nat.le_of_not_lt fun h => hb (.inr (.inr h))
 refine ⟨⟨by omega, by omega⟩, by simpa [cxF] using hb3, fun l hl => ?_, ?_, fun x h0 h1 => ?_, fun l hl m hm' hi => ?_⟩
 ·obtain ⟨z, hz, rfl⟩ := List.mem_map.1 hl
  have hz' := facP_mem.1 hz
  refine ⟨⟨?_, by simpa using hb1 z hz'.1⟩, hm.sa (hin z hz) (hs z hz'.1), fun x hx => ?_⟩
  ·have := List.length_pos_iff.2 hz'.2.1
   rw [List.length_map]; omega
  ·obtain ⟨y, hy, rfl⟩ := List.mem_map.1 hx
   exact ix_rng (hin z hz y hy)
 ·rw [← fac_ix]; exact (facP_of _).1
 ·obtain ⟨k, rfl⟩ : ∃ k : Nat, x = k := ⟨x.toNat, by omega⟩
  have hk : k < (cvP ss).length := by omega
  have hg : gi (cvP ss) (k : Int) ∈ cvP ss := by rw [gi_mem hk]; exact List.getElem_mem _
  have h2 : gi (cvP ss) (k : Int) ∈ (facP ss).flatten := (cs_mem _ _).1 (by rw [cv_fac hs]; exact hg)
  obtain ⟨l, hl, hx⟩ := List.mem_flatten.1 h2
  refine ⟨l.map (ix (cvP ss)), List.mem_map_of_mem hl, ?_⟩
  have := List.mem_map_of_mem (f := ix (cvP ss)) hx
  rwa [ix_of (s := cvP ss) (cs_SA _) hk] at this
 ·obtain ⟨z, hz, rfl⟩ := List.mem_map.1 hl
  obtain ⟨q, hq, rfl⟩ := List.mem_map.1 hm'
  rw [(facP_mem.1 hz).2.2 q (facP_mem.1 hq).1 ((hm.ins (hin z hz) (hin q hq)).1 hi)]
def rngI (n : Nat) : List Int := (List.range n).map fun k : Nat => (k : Int)
theorem rngI_len (n : Nat) : (rngI n).length = n := by simp [rngI]
theorem rngI_mem (n : Nat) (x : Int) : x ∈ rngI n ↔ 0 ≤ x ∧ x < n := by
 simp only [rngI, List.mem_map, List.mem_range]
 exact ⟨fun ⟨k, hk, e⟩ => by omega, fun h => ⟨x.toNat, by omega, by omega⟩⟩
theorem rngI_SA (n : Nat) : SA (rngI n) := by
 unfold SA rngI
 rw [List.pairwise_map]
 exact List.pairwise_lt_range.imp fun h => by omega
theorem gi_rngI {n : Nat} {k : Nat} (h : k < n) : gi (rngI n) (k : Int) = k := by
 rw [gi_mem (by rw [rngI_len]; exact h)]
 simp [rngI]
theorem ix_rngI {n : Nat} {x : Int} (h0 : 0 ≤ x) (h1 : x < n) : ix (rngI n) x = x := by
 obtain ⟨k, rfl⟩ : ∃ k : Nat, x = k := ⟨x.toNat, by omega⟩
 have := ix_of (rngI_SA n) (k := k) (by rw [rngI_len]; omega)
 rwa [gi_rngI (by omega)] at this
theorem facP_self {V : Int} {F : List (List Int)} (h : Cplx V F) : facP F = F := by
 refine (facP_of F).1.eq h.ord fun x => ?_
 rw [facP_mem]
 refine ⟨fun h => h.1, fun hx => ⟨hx, fun e => ?_, h.top x hx⟩⟩
 have := (h.row x hx).1.1
 rw [e] at this
 simp at this
theorem cvP_self {V : Int} {F : List (List Int)} (h : Cplx V F) : cvP F = rngI V.toNat := by
 have hv := h.v
 refine (cs_SA _).eq (rngI_SA _) fun x => ?_
 rw [cs_mem, List.mem_flatten, rngI_mem]
 constructor
 ·rintro ⟨l, hl, hx⟩
  have := (h.row l hl).2.2 x hx
  omega
 ·rintro ⟨h0, h1⟩
  obtain ⟨l, hl, hx⟩ := h.all x h0 (by omega)
  exact ⟨l, hl, hx⟩
theorem map_id_of {F : List (List Int)} {f : Int → Int} (h : ∀ l ∈ F, ∀ x ∈ l, f x = x) : F.map (List.map f) = F := by
 have e : F.map (List.map f) = F.map id := List.map_congr_left fun l hl => by
  have : l.map f = l.map id := List.map_congr_left fun x hx => h l hl x hx
  rw [this, List.map_id]; rfl
 rw [e, List.map_id]
theorem cx_self {V : Int} {F : List (List Int)} (h : Cplx V F) : cxV F = V ∧ cxL F = F ∧ cxK F = 0 ∧ ¬ CxBad F := by
 have hv := h.v
 have hb : ¬ CxBad F := by
  rintro (⟨l, hl, h6⟩ | h6 | h6)
  ·have := (h.row l hl).1; omega
  ·rw [cvP_self h, rngI_len] at h6; omega
  ·rw [facP_self h] at h6; have := h.f; omega
 unfold cxV cxL cxK cxF
 rw [if_neg hb, if_neg hb, if_neg hb, facP_self h, cvP_self h, rngI_len]
 refine ⟨by omega, map_id_of fun l hl x hx => ?_, rfl, hb⟩
 have := (h.row l hl).2.2 x hx
 exact ix_rngI this.1 (by omega)
end Go.Proofs.YtiblelgfkakmiaaGreatDoor.Vc
/-
 Plain mathematics of a stable sort: exchanges, blocks turned round, sorted blocks joined.
-/
namespace Go.Proofs.YtiblelgfkakmiaaGreatDoor.Vc
open Go.RowKit
def gs (l : List SlV) (i : Nat) : SlV := l.getD i slNil
theorem gs_mem {l : List SlV} {i : Nat} (h : i < l.length) : gs l i = l[i] := by simp [gs, List.getD_eq_getElem?_getD, h]
def SR (κ : SlV → Int) (l : List SlV) (a b : Nat) : Prop := ∀ i j, a ≤ i → i < j → j < b → κ (gs l i) ≤ κ (gs l j)
theorem SR.one (κ : SlV → Int) (l : List SlV) {a b : Nat} (h : b ≤ a + 1) : SR κ l a b := fun i j h1 h2 h3 => by omega
theorem SR.sub {κ : SlV → Int} {l : List SlV} {a b a' b' : Nat} (h : SR κ l a b) (h1 : a ≤ a') (h2 : b' ≤ b) : SR κ l a' b' := fun i j hi hij hj => h i j (by omega) hij (by omega)
theorem SR.le {κ : SlV → Int} {l : List SlV} {a b i j : Nat} (h : SR κ l a b) (h1 : a ≤ i) (h2 : i ≤ j) (h3 : j < b) : κ (gs l i) ≤ κ (gs l j) := by
 rcases Nat.lt_or_eq_of_le h2 with h2 | rfl
 ·exact h i j h1 h2 h3
 ·exact Int.le_refl _
theorem SR.congr {κ : SlV → Int} {l l' : List SlV} {a b : Nat} (h : SR κ l a b) (he : ∀ i, a ≤ i → i < b → gs l' i = gs l i) : SR κ l' a b := fun i j hi hij hj => by
 rw [he i hi (by omega), he j (by omega) hj]; exact h i j hi hij hj
structure RP (l l' : List SlV) (a b : Nat) : Prop where
 perm : l'.Perm l
 out : ∀ i, i < a ∨ b ≤ i → gs l' i = gs l i
theorem RP.refl (l : List SlV) (a b : Nat) : RP l l a b := ⟨List.Perm.refl _, fun _ _ => rfl⟩
theorem RP.len {l l' : List SlV} {a b : Nat} (h : RP l l' a b) : l'.length = l.length := h.perm.length_eq
theorem RP.trans {l l' l'' : List SlV} {a b a' b' : Nat} (h : RP l l' a b) (h' : RP l' l'' a' b') (h1 : a ≤ a') (h2 : b' ≤ b) : RP l l'' a b :=
 ⟨h'.perm.trans h.perm, fun i hi => by rw [h'.out i (by omega), h.out i hi]⟩
theorem gs_take {l l' : List SlV} {a : Nat} (hl : l'.length = l.length) (h : ∀ i, i < a → gs l' i = gs l i) : l'.take a = l.take a := by
 refine List.ext_getElem (by simp [hl]) fun i h1 h2 => ?_
 rw [List.length_take] at h1 h2
 rw [List.getElem_take, List.getElem_take, ← gs_mem (by omega), ← gs_mem (by omega)]
 exact h i (by omega)
theorem gs_drop {l l' : List SlV} {b : Nat} (hl : l'.length = l.length) (h : ∀ i, b ≤ i → gs l' i = gs l i) : l'.drop b = l.drop b := by
 refine List.ext_getElem (by simp [hl]) fun i h1 h2 => ?_
 rw [List.length_drop] at h1 h2
 rw [List.getElem_drop, List.getElem_drop, ← gs_mem (by omega), ← gs_mem (by omega)]
 exact h _ (by omega)
theorem split3 {α : Type} (l : List α) {a b : Nat} (h : a ≤ b) : l = l.take a ++ ((l.drop a).take (b - a) ++ l.drop b) := by
 have h1 : l.drop b = (l.drop a).drop (b - a) := by rw [List.drop_drop]; congr 1; omega
 rw [h1, List.take_append_drop, List.take_append_drop]
theorem RP.mid {l l' : List SlV} {a b : Nat} (h : RP l l' a b) (hab : a ≤ b) : ((l'.drop a).take (b - a)).Perm ((l.drop a).take (b - a)) := by
 have h1 := h.perm
 rw [split3 l' hab, split3 l hab, gs_take h.len (fun i hi => h.out i (.inl hi)), gs_drop h.len (fun i hi => h.out i (.inr hi))] at h1
 exact (List.perm_append_right_iff _).1 ((List.perm_append_left_iff _).1 h1)
theorem RP.from {l l' : List SlV} {a b : Nat} (h : RP l l' a b) (hb : b ≤ l.length) {i : Nat} (h1 : a ≤ i) (h2 : i < b) : ∃ j, a ≤ j ∧ j < b ∧ gs l' i = gs l j := by
 have hl := h.len
 have hm : gs l' i ∈ (l'.drop a).take (b - a) := by
  rw [List.mem_iff_getElem]
  refine ⟨i - a, by rw [List.length_take, List.length_drop]; omega, ?_⟩
  rw [List.getElem_take, List.getElem_drop, ← gs_mem (by omega)]
  congr 1; omega
 obtain ⟨k, hk, e⟩ := List.mem_iff_getElem.1 ((h.mid (by omega)).mem_iff.1 hm)
 rw [List.length_take, List.length_drop] at hk
 refine ⟨a + k, by omega, by omega, ?_⟩
 rw [← e, List.getElem_take, List.getElem_drop, ← gs_mem (by omega)]
def swp (l : List SlV) (i j : Nat) : List SlV := (l.set i (gs l j)).set j (gs l i)
theorem swp_len (l : List SlV) (i j : Nat) : (swp l i j).length = l.length := by simp [swp]
theorem gs_set {l : List SlV} {i : Nat} (h : i < l.length) (v : SlV) (x : Nat) : gs (l.set i v) x = if x = i then v else gs l x := by
 simp only [gs, List.getD_eq_getElem?_getD, List.getElem?_set]
 by_cases e : i = x
 ·subst e; simp [h]
 ·have : ¬ x = i := fun h => e h.symm
  simp [e, this]
theorem gs_swp {l : List SlV} {i j : Nat} (hi : i < l.length) (hj : j < l.length) (x : Nat) : gs (swp l i j) x = if x = j then gs l i else if x = i then gs l j else gs l x := by
 rw [swp, gs_set (by simpa using hj), gs_set hi]
theorem swp_RP {l : List SlV} {i j a b : Nat} (hi : i < l.length) (hj : j < l.length) (h1 : a ≤ i) (h2 : i < b) (h3 : a ≤ j) (h4 : j < b) : RP l (swp l i j) a b := by
 refine ⟨?_, fun x hx => ?_⟩
 ·unfold swp
  rw [gs_mem hi, gs_mem hj]
  exact List.set_set_perm hi hj
 ·rw [gs_swp hi hj, if_neg (by omega), if_neg (by omega)]
/-! one put among others in order, by exchanges -/
structure InsI (κ : SlV → Int) (l : List SlV) (a i j : Nat) : Prop where
 low : a ≤ j
 high : j ≤ i
 rest : ∀ x y, a ≤ x → x < y → y ≤ i → x ≠ j → y ≠ j → κ (gs l x) ≤ κ (gs l y)
 own : ∀ y, j < y → y ≤ i → κ (gs l j) ≤ κ (gs l y)
theorem InsI.start {κ : SlV → Int} {l : List SlV} {a i : Nat} (h : SR κ l a i) (hi : a ≤ i) : InsI κ l a i i :=
 ⟨hi, Nat.le_refl _, fun x y h1 h2 h3 h4 h5 => h x y h1 h2 (by omega), fun y h1 h2 => by omega⟩
theorem InsI.stop {κ : SlV → Int} {l : List SlV} {a i j : Nat} (h : InsI κ l a i j) (hs : j = a ∨ κ (gs l (j - 1)) ≤ κ (gs l j)) : SR κ l a (i + 1) := fun x y h1 h2 h3 => by
 by_cases e : x = j
 ·subst e; exact h.own y h2 (by omega)
 ·by_cases e2 : y = j
  ·subst e2
   rcases hs with hs | hs
   ·omega
   ·by_cases e3 : x = y - 1
    ·subst e3; exact hs
    ·exact Int.le_trans (h.rest x (y - 1) h1 (by omega) (by have := h.high; omega) e (by omega)) hs
  ·exact h.rest x y h1 h2 (by omega) e e2
theorem InsI.next {κ : SlV → Int} {l : List SlV} {a i j : Nat} (h : InsI κ l a i j) (hj : a < j) (hi : i < l.length) (hs : κ (gs l j) < κ (gs l (j - 1))) : InsI κ (swp l j (j - 1)) a i (j - 1) := by
 have hh := h.high
 have g := gs_swp (l := l) (i := j) (j := j - 1) (by omega) (by omega)
 refine ⟨by omega, by omega, fun x y h1 h2 h3 h4 h5 => ?_, fun y h1 h2 => ?_⟩
 ·rw [g x, g y, if_neg h4, if_neg h5]
  by_cases e : x = j
  ·subst e
   rw [if_pos rfl, if_neg (by omega)]
   exact h.rest (x - 1) y (by omega) (by omega) h3 (by omega) (by omega)
  ·rw [if_neg e]
   by_cases e2 : y = j
   ·subst e2
    rw [if_pos rfl]
    exact h.rest x (y - 1) h1 (by omega) (by omega) e (by omega)
   ·rw [if_neg e2]
    exact h.rest x y h1 h2 h3 e e2
 ·rw [g (j - 1), g y, if_pos rfl, if_neg (by omega)]
  by_cases e2 : y = j
  ·subst e2
   rw [if_pos rfl]; omega
  ·rw [if_neg e2]
   exact h.own y (by omega) h2
/-! ranges exchanged -/
theorem exch {α : Type} (P X M Y S : List α) (k : Nat) (h : X.length = Y.length) (hk : k < X.length) (x y : α) (hx : X[k]? = some x) (hy : Y[k]? = some y) :
    ((P ++ (Y.take k ++ X.drop k) ++ M ++ (X.take k ++ Y.drop k) ++ S).set (P.length + k) y).set (P.length + X.length + M.length + k) x = P ++ (Y.take (k + 1) ++ X.drop (k + 1)) ++ M ++ (X.take (k + 1) ++ Y.drop (k + 1)) ++ S := by
  obtain ⟨hk', rfl⟩ := List.getElem?_eq_some_iff.1 hx
  obtain ⟨hk2, rfl⟩ := List.getElem?_eq_some_iff.1 hy
  rw [List.drop_eq_getElem_cons hk', List.drop_eq_getElem_cons hk2, List.take_succ_eq_append_getElem hk', List.take_succ_eq_append_getElem hk2]
  have e1 : (P ++ (Y.take k ++ X[k] :: X.drop (k + 1)) ++ M ++ (X.take k ++ Y[k] :: Y.drop (k + 1)) ++ S) = (P ++ Y.take k) ++ X[k] :: (X.drop (k + 1) ++ M ++ (X.take k ++ Y[k] :: Y.drop (k + 1)) ++ S) := by simp only [List.append_assoc, List.cons_append]
  have l1 : P.length + k = (P ++ Y.take k).length := by simp; omega
  rw [e1, l1, List.set_append_right _ _ (Nat.le_refl _), Nat.sub_self, List.set_cons_zero]
  have e2 : (P ++ Y.take k) ++ Y[k] :: (X.drop (k + 1) ++ M ++ (X.take k ++ Y[k] :: Y.drop (k + 1)) ++ S) = (P ++ Y.take k ++ Y[k] :: (X.drop (k + 1) ++ M ++ X.take k)) ++ Y[k] :: (Y.drop (k + 1) ++ S) := by simp only [List.append_assoc, List.cons_append]
  have l2 : P.length + X.length + M.length + k = (P ++ Y.take k ++ Y[k] :: (X.drop (k + 1) ++ M ++ X.take k)).length := by simp; omega
  rw [e2, l2, List.set_append_right _ _ (Nat.le_refl _), Nat.sub_self, List.set_cons_zero]
  simp only [List.append_assoc, List.cons_append, List.nil_append]
/-! two sorted ranges joined -/
structure RotI (l l1 : List SlV) (s m e : Nat) : Prop where
 out : ∀ i, i < s ∨ e ≤ i → gs l1 i = gs l i
 left : ∀ i, s ≤ i → i < s + (e - m) → gs l1 i = gs l (i + (m - s))
 right : ∀ i, s + (e - m) ≤ i → i < e → gs l1 i = gs l (i - (e - m))
theorem RotI.same (l : List SlV) {s m e : Nat} (h : s = m ∨ m = e) (h1 : s ≤ m) (h2 : m ≤ e) : RotI l l s m e :=
 ⟨fun _ _ => rfl, fun i h3 h4 => by congr 1; omega, fun i h3 h4 => by congr 1; omega⟩
theorem RotI.of (P X Y S : List SlV) : RotI (P ++ (X ++ (Y ++ S))) (P ++ (Y ++ (X ++ S))) P.length (P.length + X.length) (P.length + X.length + Y.length) := by
 have key : ∀ (P X Y S : List SlV) (i : Nat), gs (P ++ (X ++ (Y ++ S))) i = if i < P.length then gs P i else if i < P.length + X.length then gs X (i - P.length) else if i < P.length + X.length + Y.length then gs Y (i - P.length - X.length) else gs S (i - P.length - X.length - Y.length) := fun P X Y S i => by
  simp only [gs, List.getD_eq_getElem?_getD]
  by_cases h1 : i < P.length
  ·rw [if_pos h1, List.getElem?_append_left h1]
  ·rw [if_neg h1, List.getElem?_append_right (by omega)]
   by_cases h2 : i < P.length + X.length
   ·rw [if_pos h2, List.getElem?_append_left (by omega)]
   ·rw [if_neg h2, List.getElem?_append_right (by omega)]
    by_cases h3 : i < P.length + X.length + Y.length
    ·rw [if_pos h3, List.getElem?_append_left (by omega)]
    ·rw [if_neg h3, List.getElem?_append_right (by omega)]
 refine ⟨fun i h => ?_, fun i h1 h2 => ?_, fun i h1 h2 => ?_⟩
 ·rw [key, key]
  rcases h with h | h
  ·rw [if_pos h, if_pos h]
  ·rw [if_neg (by omega), if_neg (by omega), if_neg (by omega), if_neg (by omega), if_neg (by omega), if_neg (by omega)]
   congr 1; omega
 ·rw [key, key, if_neg (by omega), if_pos (by omega), if_neg (by omega), if_neg (by omega), if_pos (by omega)]
  congr 1; omega
 ·rw [key, key, if_neg (by omega), if_neg (by omega), if_pos (by omega), if_neg (by omega), if_pos (by omega)]
  congr 1; omega
theorem rot_perm {α : Type} (P X Y S : List α) : (P ++ (Y ++ (X ++ S))).Perm (P ++ (X ++ (Y ++ S))) := by
 refine (List.perm_append_left_iff _).2 ?_
 rw [← List.append_assoc, ← List.append_assoc]
 exact (List.perm_append_right_iff _).2 List.perm_append_comm
def lo0 (a m b : Nat) : Nat := if (a + b) / 2 < m then (a + b) / 2 + m - b else a
def hi0 (a m b : Nat) : Nat := if (a + b) / 2 < m then (a + b) / 2 else m
structure CutI (κ : SlV → Int) (l : List SlV) (a m b s : Nat) : Prop where
 lo : lo0 a m b ≤ s
 hi : s ≤ hi0 a m b
 left : ∀ c, lo0 a m b ≤ c → c < s → κ (gs l c) ≤ κ (gs l ((a + b) / 2 + m - 1 - c))
 right : ∀ c, s ≤ c → c < hi0 a m b → κ (gs l ((a + b) / 2 + m - 1 - c)) < κ (gs l c)
theorem cut_all {κ : SlV → Int} {l l1 : List SlV} {a m b s : Nat} (h1 : a + 1 < m) (h2 : m + 1 < b) (hA : SR κ l a m) (hB : SR κ l m b) (hc : CutI κ l a m b s) (hr : RotI l l1 s m ((a + b) / 2 + m - s)) :
    (a ≤ s ∧ s ≤ (a + b) / 2 ∧ s ≤ m ∧ (a + b) / 2 ≤ (a + b) / 2 + m - s ∧ m ≤ (a + b) / 2 + m - s ∧ (a + b) / 2 + m - s ≤ b) ∧ SR κ l1 a s ∧ SR κ l1 s ((a + b) / 2) ∧ SR κ l1 ((a + b) / 2) ((a + b) / 2 + m - s) ∧ SR κ l1 ((a + b) / 2 + m - s) b ∧ ∀ i j, a ≤ i → i < (a + b) / 2 → (a + b) / 2 ≤ j → j < b → κ (gs l1 i) ≤ κ (gs l1 j) := by
  obtain ⟨c1, c2, c3, c4⟩ := hc
  generalize hmid : (a + b) / 2 = mid at *
  unfold lo0 at c1 c3
  unfold hi0 at c2 c4
  rw [hmid] at c1 c2 c3 c4
  have hm2 : 2 * mid ≤ a + b ∧ a + b ≤ 2 * mid + 1 := by omega
  have b1 : a ≤ s := by split at c1 <;> omega
  have b2 : s ≤ mid := by split at c2 <;> omega
  have b3 : s ≤ m := by split at c2 <;> omega
  have b4 : mid + m - s ≤ b := by split at c1 <;> omega
  generalize he : mid + m - s = e at *
  obtain ⟨r1, r2, r3⟩ := hr
  have r2' : ∀ i, s ≤ i → i < mid → gs l1 i = gs l (i + (m - s)) := fun i h h' => r2 i h (by omega)
  have r3' : ∀ i, mid ≤ i → i < e → gs l1 i = gs l (i - (mid - s)) := fun i h h' => by rw [r3 i (by omega) h']; congr 1; omega
  refine ⟨⟨b1, b2, b3, by omega, by omega, b4⟩, ?_, ?_, ?_, ?_, ?_⟩
  · exact (hA.sub (Nat.le_refl _) b3).congr fun i _ h => r1 i (.inl h)
  · intro i j hi hij hj
    rw [r2' i hi (by omega), r2' j (by omega) hj]
    exact hB _ _ (by omega) (by omega) (by omega)
  · intro i j hi hij hj
    rw [r3' i hi (by omega), r3' j (by omega) hj]
    exact hA _ _ (by omega) (by omega) (by omega)
  · exact (hB.sub (by omega) (Nat.le_refl _)).congr fun i h _ => r1 i (.inr h)
  · intro i j hi hi2 hj hj2
    by_cases x1 : i < s
    · rw [r1 i (.inl x1)]
      by_cases x2 : j < e
      · rw [r3' j hj x2]
        exact hA.le hi (by omega) (by omega)
      · rw [r1 j (.inr (by omega))]
        have k1 : κ (gs l i) ≤ κ (gs l (s - 1)) := hA.le hi (by omega) (by omega)
        have k2 : κ (gs l e) ≤ κ (gs l j) := hB.le (by omega) (by omega) hj2
        have k3 := c3 (s - 1) (by split <;> omega) (by omega)
        rw [show mid + m - 1 - (s - 1) = e by omega] at k3
        omega
    · rw [r2' i (by omega) hi2]
      by_cases x2 : j < e
      · rw [r3' j hj x2]
        have k1 : κ (gs l (i + (m - s))) ≤ κ (gs l (e - 1)) := hB.le (by omega) (by omega) (by omega)
        have k2 : κ (gs l s) ≤ κ (gs l (j - (mid - s))) := hA.le (by omega) (by omega) (by omega)
        have k3 := c4 s (Nat.le_refl _) (by split <;> omega)
        rw [show mid + m - 1 - s = e - 1 by omega] at k3
        omega
      · rw [r1 j (.inr (by omega))]
        exact hB.le (by omega) (by omega) hj2
theorem cut_join {κ : SlV → Int} {l1 l2 l3 : List SlV} {a mid b : Nat} (hab : a ≤ mid) (hmb : mid ≤ b) (hb : b ≤ l1.length) (h : ∀ i j, a ≤ i → i < mid → mid ≤ j → j < b → κ (gs l1 i) ≤ κ (gs l1 j))
    (p2 : RP l1 l2 a mid) (s2 : SR κ l2 a mid) (p3 : RP l2 l3 mid b) (s3 : SR κ l3 mid b) : SR κ l3 a b := fun i j hi hij hj => by
  have hl2 := p2.len
  by_cases x1 : j < mid
  · rw [p3.out i (.inl (by omega)), p3.out j (.inl x1)]
    exact s2 i j hi hij x1
  · by_cases x2 : i < mid
    · rw [p3.out i (.inl x2)]
      obtain ⟨i', h1, h2, e1⟩ := p2.from (by omega) hi x2
      obtain ⟨j', h3, h4, e2⟩ := p3.from (by omega) (by omega) hj
      rw [e1, e2, p2.out j' (.inr h3)]
      exact h i' j' h1 h2 h3 h4
    · exact s3 i j (by omega) hij hj
/-! one moved along -/
structure MovU (l c : List SlV) (a k : Nat) : Prop where
 len : c.length = l.length
 out : ∀ x, x < a ∨ k < x → gs c x = gs l x
 mov : ∀ x, a ≤ x → x < k → gs c x = gs l (x + 1)
 own : gs c k = gs l a
theorem MovU.start (l : List SlV) (a : Nat) : MovU l l a a := ⟨rfl, fun _ _ => rfl, fun x h h' => by omega, rfl⟩
theorem MovU.next {l c : List SlV} {a k : Nat} (h : MovU l c a k) (ha : a ≤ k) (hk : k + 1 < l.length) : MovU l (swp c k (k + 1)) a (k + 1) := by
 have hl := h.len
 have g := gs_swp (l := c) (i := k) (j := k + 1) (by omega) (by omega)
 refine ⟨by rw [swp_len, hl], fun x hx => ?_, fun x h1 h2 => ?_, ?_⟩
 ·rw [g, if_neg (by omega), if_neg (by omega), h.out x (by omega)]
 ·rw [g, if_neg (by omega)]
  by_cases e : x = k
  ·subst e; rw [if_pos rfl, h.out _ (by omega)]
  ·rw [if_neg e, h.mov x h1 (by omega)]
 ·rw [g, if_pos rfl, h.own]
theorem MovU.sorted {κ : SlV → Int} {l c : List SlV} {a b i : Nat} (h : MovU l c a (i - 1)) (hs : SR κ l (a + 1) b) (h1 : a + 1 ≤ i) (h2 : i ≤ b) (hl : ∀ x, a + 1 ≤ x → x < i → κ (gs l x) ≤ κ (gs l a)) (hr : ∀ x, i ≤ x → x < b → κ (gs l a) ≤ κ (gs l x)) : SR κ c a b := fun x y hx hxy hy => by
 by_cases e : x = i - 1
 ·rw [e, h.own, h.out y (.inr (by omega))]; exact hr y (by omega) hy
 ·by_cases e2 : y = i - 1
  ·rw [e2, h.own, h.mov x hx (by omega)]; exact hl _ (by omega) (by omega)
  ·by_cases x1 : y < i - 1
   ·rw [h.mov x hx (by omega), h.mov y (by omega) x1]; exact hs _ _ (by omega) (by omega) (by omega)
   ·rw [h.out y (.inr (by omega))]
    by_cases x2 : x < i - 1
    ·rw [h.mov x hx x2]; exact hs _ _ (by omega) (by omega) hy
    ·rw [h.out x (.inr (by omega))]; exact hs _ _ (by omega) hxy hy
structure MovD (l c : List SlV) (m k : Nat) : Prop where
 len : c.length = l.length
 out : ∀ x, x < k ∨ m < x → gs c x = gs l x
 mov : ∀ x, k < x → x ≤ m → gs c x = gs l (x - 1)
 own : gs c k = gs l m
theorem MovD.start (l : List SlV) (m : Nat) : MovD l l m m := ⟨rfl, fun _ _ => rfl, fun x h h' => by omega, rfl⟩
theorem MovD.next {l c : List SlV} {m k : Nat} (h : MovD l c m k) (hk : 0 < k) (hkm : k ≤ m) (hm : m < l.length) : MovD l (swp c k (k - 1)) m (k - 1) := by
 have hl := h.len
 have g := gs_swp (l := c) (i := k) (j := k - 1) (by omega) (by omega)
 refine ⟨by rw [swp_len, hl], fun x hx => ?_, fun x h1 h2 => ?_, ?_⟩
 ·rw [g, if_neg (by omega), if_neg (by omega), h.out x (by omega)]
 ·rw [g, if_neg (by omega)]
  by_cases e : x = k
  ·subst e; rw [if_pos rfl, h.out _ (by omega)]
  ·rw [if_neg e, h.mov x (by omega) h2]
 ·rw [g, if_pos rfl, h.own]
theorem MovD.sorted {κ : SlV → Int} {l c : List SlV} {a m i : Nat} (h : MovD l c m i) (hs : SR κ l a m) (h1 : a ≤ i) (h2 : i ≤ m) (hl : ∀ x, a ≤ x → x < i → κ (gs l x) ≤ κ (gs l m)) (hr : ∀ x, i ≤ x → x < m → κ (gs l m) ≤ κ (gs l x)) : SR κ c a (m + 1) := fun x y hx hxy hy => by
 by_cases e : x = i
 ·rw [e, h.own, h.mov y (by omega) (by omega)]; exact hr _ (by omega) (by omega)
 ·by_cases e2 : y = i
  ·rw [e2, h.own, h.out x (.inl (by omega))]; exact hl x hx (by omega)
  ·by_cases x1 : y < i
   ·rw [h.out x (.inl (by omega)), h.out y (.inl x1)]; exact hs _ _ hx hxy (by omega)
   ·rw [h.mov y (by omega) (by omega)]
    by_cases x2 : x < i
    ·rw [h.out x (.inl x2)]; exact hs _ _ hx (by omega) (by omega)
    ·rw [h.mov x (by omega) (by omega)]; exact hs _ _ (by omega) (by omega) (by omega)
/-! blocks -/
def Blks (κ : SlV → Int) (l : List SlV) (n s lo hi : Nat) : Prop := ∀ k, lo ≤ k * s → k * s < hi → SR κ l (k * s) (min (k * s + s) n)
theorem Blks.done {κ : SlV → Int} {l : List SlV} {n s : Nat} (h : Blks κ l n s 0 n) (hs : n ≤ s) : SR κ l 0 n := by
 by_cases h0 : n = 0
 ·subst h0; exact SR.one _ _ (by omega)
 ·have := h 0 (by omega) (by omega)
  rw [Nat.zero_mul, Nat.zero_add, Nat.min_eq_right hs] at this
  exact this
theorem mul_gap {s j k : Nat} (h : j * s < k * s) : j * s + s ≤ k * s := by
 have hjk : j < k := Nat.lt_of_mul_lt_mul_right h
 have := Nat.mul_le_mul_right s (Nat.succ_le_of_lt hjk)
 rw [Nat.succ_mul] at this
 exact this
/-
 The library's stable sort of rows by their lengths, walked: insertion, exchange of ranges, rotation.
-/
def knS (s : SlV) : Int := -(s.n : Int)
theorem cmpG_c (A : Option Addr) (n c : Nat) (A' : Option Addr) (n' c' : Nat) (w : World) (hn : n ≤ 9223372036854775807) (hn' : n' ≤ 9223372036854775807) :
  Ret Tryz.prog 104 [.slice A n c, .slice A' n' c'] w (fun v w' => v = .int .i64 ((n' : Int) - n) ∧ w' = w) := by
 refine Ret.of_cd Tryz.func104 rfl Tryz.ntmps104 rfl (post1 rfl) (Cd.seq (Cd.region (Ops.mi rfl rfl rfl (Ops.n (tQ (Cd.seq (Cd.region (Ops.ms rfl rfl rfl (Ops.len rfl rfl ?_)))))))))
 refine Ops.ms rfl rfl rfl (Ops.len rfl rfl (Ops.sub rfl rfl rfl (by omega) (Ops.mi rfl rfl rfl (Ops.n (tQ (Cd.ret (ret1_i rfl ?_)))))))
 exact ⟨rfl, rfl⟩
theorem gs_capd {ds : List SlV} (h : ∀ s ∈ ds, s.n ≤ 9223372036854775807) (i : Nat) : (gs ds i).n ≤ 9223372036854775807 := by
 by_cases hi : i < ds.length
 ·rw [gs_mem hi]; exact h _ (List.getElem_mem _)
 ·have : gs ds i = slNil := by simp [gs, List.getD_eq_getElem?_getD, List.getElem?_eq_none (Nat.le_of_not_lt hi)]
  rw [this]; exact Nat.zero_le _
theorem RP.cap {ds ds' : List SlV} {a b : Nat} (h : RP ds ds' a b) (hc : ∀ s ∈ ds, s.n ≤ 9223372036854775807) : ∀ s ∈ ds', s.n ≤ 9223372036854775807 := fun s hs => hc s (h.perm.mem_iff.1 hs)
theorem st_gs {w0 w' : World} {t : TypeId} {A : Option Addr} {n c : Nat} {ks : List Ck} {L : List SlV} {x s : SlV} {i : Int} {j : Nat} (e : i.toNat = j) (g : s = x) (h : St w0 w' (CkR t A n c (L.set i.toNat ⟨s.a, s.n, s.c⟩) :: ks)) : St w0 w' (CkR t A n c (L.set j x) :: ks) := by
 subst g; rw [← e]; exact h
theorem swapRange_c {w0 w : World} {ks : List Ck} {t : TypeId} {A : Option Addr} {n c : Nat} {P X M Y S : List SlV} {G : FuncId} (a b m : Nat) (ha : P.length = a) (hb : P.length + X.length + M.length = b) (hm : X.length = m) (hxy : X.length = Y.length) (hn : n ≤ 4000000000000) (hS : St w0 w (CkR t A n c (P ++ X ++ M ++ Y ++ S) :: ks)) :
  Ret Tryz.prog 161 [.slice A n c, .int .i64 (a : Int), .int .i64 (b : Int), .int .i64 (m : Int), .func (.func G) #[] #[]] w (fun v w' => v = .tuple #[] ∧ St w0 w' (CkR t A n c (P ++ Y ++ M ++ X ++ S) :: ks)) := by
 have hln : (P ++ X ++ M ++ Y ++ S).length = n := (hS.rdR 0 rfl).1
 simp only [List.length_append] at hln
 refine Ret.of_cd Tryz.func161 rfl Tryz.ntmps161 rfl (post0 rfl) (Cd.seq (Cd.region (Ops.mi rfl rfl rfl (Ops.n (tQ (Cd.block ?_))))))
 refine Cd.loop (α := Nat) (fun k => [(0, .slice A n c), (1, .int .i64 (a : Int)), (2, .int .i64 (b : Int)), (3, .int .i64 (m : Int)), (4, .func (.func G) #[] #[]), (10, .int .i64 (k : Int))]) (fun k w' => k ≤ m ∧ St w0 w' (CkR t A n c (P ++ (Y.take k ++ X.drop k) ++ M ++ (X.take k ++ Y.drop k) ++ S) :: ks)) (fun k => m - k) 0 ⟨rfl, rfl, rfl, rfl, rfl, rfl, trivial⟩ ⟨Nat.zero_le _, by simpa using hS⟩ ?_
 rintro k e w1 ⟨hk, hS1⟩
 refine Cd.seq (Cd.seq (Cd.region (Ops.mi rfl rfl rfl (Ops.mi rfl rfl rfl (Ops.lss rfl rfl rfl (Ops.n (tQ ?_)))))))
 refine Cd.cond_p _ rfl (fun h1 => ?_) (fun h1 => ?_)
 ·have hkx : k < X.length := by omega
  have hky : k < Y.length := by omega
  have hR := hS1.rdR 0 rfl
  have ga : rg (P ++ (Y.take k ++ X.drop k) ++ M ++ (X.take k ++ Y.drop k) ++ S) ((a : Int) + (k : Int)) = X[k] := by
   have e1 : ((a : Int) + (k : Int)).toNat = P.length + k := by omega
   unfold rg
   rw [e1, List.getD_eq_getElem?_getD]
   simp only [List.append_assoc]
   rw [List.getElem?_append_right (by omega), List.getElem?_append_right (by simp; omega), List.getElem?_append_left (by simp; omega)]
   simp [Nat.min_eq_left (Nat.le_of_lt hky), hkx]
  have gb : rg (P ++ (Y.take k ++ X.drop k) ++ M ++ (X.take k ++ Y.drop k) ++ S) ((b : Int) + (k : Int)) = Y[k] := by
   have e1 : ((b : Int) + (k : Int)).toNat = P.length + X.length + M.length + k := by omega
   unfold rg
   rw [e1, List.getD_eq_getElem?_getD]
   simp only [List.append_assoc]
   rw [List.getElem?_append_right (by omega), List.getElem?_append_right (by simp; omega), List.getElem?_append_right (by simp; omega), List.getElem?_append_right (by simp; omega), List.getElem?_append_right (by simp; omega), List.getElem?_append_left (by simp; omega)]
   have e2 : P.length + X.length + M.length + k - P.length - (List.take k Y).length - (List.drop k X).length - M.length - (List.take k X).length = 0 := by simp; omega
   rw [e2]
   simp [hky]
  have hx := exch P X M Y S k hxy hkx X[k] Y[k] (by simp [hkx]) (by simp [hky])
  have ea : ((a : Int) + (k : Int)).toNat = P.length + k := by omega
  have eb : ((b : Int) + (k : Int)).toNat = P.length + X.length + M.length + k := by omega
  generalize hL : P ++ (Y.take k ++ X.drop k) ++ M ++ (X.take k ++ Y.drop k) ++ S = L at *
  have hLl : L.length = n := hR.1
  refine Cd.skip (tQ (Cd.seq (Cd.block ?_)))
  refine Cd.drawN [21, 23] [.ex (.slice (A) (n) (c)), .ex (.int .i64 ((a : Int))), .ex (.int .i64 ((k : Int))), .ex (.int .i64 (((a : Int)) + ((k : Int)))), .ex (.slice (A) (n) (c)), .ex (.int .i64 ((b : Int))), .ex (.int .i64 ((k : Int))), .ex (.int .i64 (((b : Int)) + ((k : Int)))), .ex (.slice (A) (n) (c)), .ex (.int .i64 ((b : Int))), .ex (.int .i64 ((k : Int))), .ex (.int .i64 (((b : Int)) + ((k : Int)))), .ex (.pointer (ptrAt (A) (((b : Int)) + ((k : Int))).toNat)), .ex (.slice ((rg (L) (((b : Int)) + ((k : Int)))).a) ((rg (L) (((b : Int)) + ((k : Int)))).n) ((rg (L) (((b : Int)) + ((k : Int)))).c)), .ex (.slice (A) (n) (c)), .ex (.int .i64 ((a : Int))), .ex (.int .i64 ((k : Int))), .ex (.int .i64 (((a : Int)) + ((k : Int)))), .ex (.pointer (ptrAt (A) (((a : Int)) + ((k : Int))).toNat)), .ex (.slice ((rg (L) (((a : Int)) + ((k : Int)))).a) ((rg (L) (((a : Int)) + ((k : Int)))).n) ((rg (L) (((a : Int)) + ((k : Int)))).c)), .ex (.pointer (ptrAt (A) (((a : Int)) + ((k : Int))).toNat)), .pr (fun _ w' => St w0 w' (CkR t A n c (L.set (P.length + k) Y[k]) :: ks)), .ex (.pointer (ptrAt (A) (((b : Int)) + ((k : Int))).toNat)), .pr (fun _ w' => St w0 w' (CkR t A n c ((L.set (P.length + k) Y[k]).set (P.length + X.length + M.length + k) X[k]) :: ks))] (by kernel_rfl) (by kernel_rfl) (lx (lx (lx (lx (lx (lx (lx (lx (lx (lx (lx (lx (lx (lx (lx (lx (lx (lx (lx (lx (lx (List.forall_mem_cons.2 ⟨Yd.lasts_pr (fun v w w' h hb => h.later hb), (lx (List.forall_mem_cons.2 ⟨Yd.lasts_pr (fun v w w' h hb => h.later hb), (fun _ h => by cases h)⟩))⟩)))))))))))))))))))))) ⟨?_, ?_, ?_, ?_, ?_, ?_, ?_, ?_, ?_, ?_, ?_, ?_, ?_, ?_, ?_, ?_, ?_, ?_, ?_, ?_, ?_, ?_, ?_, ?_, trivial⟩ ?_
  ·intro e1 w1 cc hlo hhi hb0 hp hun hq; show Ops _ _ _ _ _ _ _
   refine Ops.ms rfl rfl rfl (Ops.n (n0 rfl (by exact rfl)))
  ·intro e1 w1 cc hlo hhi hb0 hp hun hq; show Ops _ _ _ _ _ _ _
   refine Ops.mi rfl rfl rfl (Ops.n (n0 rfl (by exact rfl)))
  ·intro e1 w1 cc hlo hhi hb0 hp hun hq; show Ops _ _ _ _ _ _ _
   refine Ops.mi rfl rfl rfl (Ops.n (n0 rfl (by exact rfl)))
  ·intro e1 w1 cc hlo hhi hb0 hp hun hq; show Ops _ _ _ _ _ _ _
   refine Ops.add rfl rfl rfl (by omega) (Ops.n (n0 rfl (by exact rfl)))
  ·intro e1 w1 cc hlo hhi hb0 hp hun hq; show Ops _ _ _ _ _ _ _
   refine Ops.ms rfl rfl rfl (Ops.n (n0 rfl (by exact rfl)))
  ·intro e1 w1 cc hlo hhi hb0 hp hun hq; show Ops _ _ _ _ _ _ _
   refine Ops.mi rfl rfl rfl (Ops.n (n0 rfl (by exact rfl)))
  ·intro e1 w1 cc hlo hhi hb0 hp hun hq; show Ops _ _ _ _ _ _ _
   refine Ops.mi rfl rfl rfl (Ops.n (n0 rfl (by exact rfl)))
  ·intro e1 w1 cc hlo hhi hb0 hp hun hq; show Ops _ _ _ _ _ _ _
   refine Ops.add rfl rfl rfl (by omega) (Ops.n (n0 rfl (by exact rfl)))
  ·intro e1 w1 cc hlo hhi hb0 hp hun hq; show Ops _ _ _ _ _ _ _
   refine Ops.ms rfl rfl rfl (Ops.n (n0 rfl (by exact rfl)))
  ·intro e1 w1 cc hlo hhi hb0 hp hun hq; show Ops _ _ _ _ _ _ _
   refine Ops.mi rfl rfl rfl (Ops.n (n0 rfl (by exact rfl)))
  ·intro e1 w1 cc hlo hhi hb0 hp hun hq; show Ops _ _ _ _ _ _ _
   refine Ops.mi rfl rfl rfl (Ops.n (n0 rfl (by exact rfl)))
  ·intro e1 w1 cc hlo hhi hb0 hp hun hq; show Ops _ _ _ _ _ _ _
   refine Ops.add rfl rfl rfl (by omega) (Ops.n (n0 rfl (by exact rfl)))
  ·intro e1 w1 cc hlo hhi hb0 hp hun hq; show Ops _ _ _ _ _ _ _
   obtain rfl := cc_of hlo hhi (b := 0) (by kernel_rfl) (by kernel_rfl)
   have hb := hb0 rfl
   refine Ops.idx (hR.later hb).2 rfl rfl rfl (by omega) (by omega) (Ops.n (n0 rfl (by exact rfl)))
  ·intro e1 w1 cc hlo hhi hb0 hp hun hq; show Ops _ _ _ _ _ _ _
   obtain rfl := cc_of hlo hhi (b := 0) (by kernel_rfl) (by kernel_rfl)
   have hb := hb0 rfl
   refine Ops.ld_sl (hR.later hb) rfl (by omega) rfl rfl (Ops.n (n0 rfl (by exact rfl)))
  ·intro e1 w1 cc hlo hhi hb0 hp hun hq; show Ops _ _ _ _ _ _ _
   refine Ops.ms rfl rfl rfl (Ops.n (n0 rfl (by exact rfl)))
  ·intro e1 w1 cc hlo hhi hb0 hp hun hq; show Ops _ _ _ _ _ _ _
   refine Ops.mi rfl rfl rfl (Ops.n (n0 rfl (by exact rfl)))
  ·intro e1 w1 cc hlo hhi hb0 hp hun hq; show Ops _ _ _ _ _ _ _
   refine Ops.mi rfl rfl rfl (Ops.n (n0 rfl (by exact rfl)))
  ·intro e1 w1 cc hlo hhi hb0 hp hun hq; show Ops _ _ _ _ _ _ _
   refine Ops.add rfl rfl rfl (by omega) (Ops.n (n0 rfl (by exact rfl)))
  ·intro e1 w1 cc hlo hhi hb0 hp hun hq; show Ops _ _ _ _ _ _ _
   obtain rfl := cc_of hlo hhi (b := 0) (by kernel_rfl) (by kernel_rfl)
   have hb := hb0 rfl
   refine Ops.idx (hR.later hb).2 rfl rfl rfl (by omega) (by omega) (Ops.n (n0 rfl (by exact rfl)))
  ·intro e1 w1 cc hlo hhi hb0 hp hun hq; show Ops _ _ _ _ _ _ _
   obtain rfl := cc_of hlo hhi (b := 0) (by kernel_rfl) (by kernel_rfl)
   have hb := hb0 rfl
   refine Ops.ld_sl (hR.later hb) rfl (by omega) rfl rfl (Ops.n (n0 rfl (by exact rfl)))
  ·intro e1 w1 cc hlo hhi hb0 hp hun hq; show Ops _ _ _ _ _ _ _
   obtain rfl := cc_of hlo hhi (b := 0) (by kernel_rfl) (by kernel_rfl)
   have hb := hb0 rfl
   refine Ops.idx (hR.later hb).2 rfl rfl rfl (by omega) (by omega) (Ops.n (n0 rfl (by exact rfl)))
  ·intro e1 w1 cc hlo hhi hb0 hp hun hq; show Ops _ _ _ _ _ _ _
   obtain rfl := cc_of hlo hhi (b := 0) (by kernel_rfl) (by kernel_rfl)
   have hb := hb0 rfl
   refine Ops.st_sl 0 (hS1.later hb) rfl rfl rfl (by omega) ?_
   intro w6 hS6
   refine Ops.n ?_
   exact AfterT.st rfl (st_gs ea gb hS6)
  ·intro e1 w1 cc hlo hhi hb0 hp hun hq; show Ops _ _ _ _ _ _ _
   obtain rfl := cc_of hlo hhi (b := 1) (by kernel_rfl) (by kernel_rfl)
   have hph := hp 21 _ _ (by kernel_rfl) rfl rfl (by kernel_rfl)
   have hR6 := hph.rdR 0 rfl
   refine Ops.idx (hR6).2 rfl rfl rfl (by omega) (by omega) (Ops.n (n0 rfl (by exact rfl)))
  ·intro e1 w1 cc hlo hhi hb0 hp hun hq; show Ops _ _ _ _ _ _ _
   obtain rfl := cc_of hlo hhi (b := 1) (by kernel_rfl) (by kernel_rfl)
   have hph := hp 21 _ _ (by kernel_rfl) rfl rfl (by kernel_rfl)
   have hR6 := hph.rdR 0 rfl
   refine Ops.st_sl 0 hph rfl rfl rfl (by omega) ?_
   intro w7 hS7
   refine Ops.n ?_
   exact AfterT.st rfl (st_gs eb ga hS7)
  intro u w5 _ hu
  have hS5 := hu 23 _ rfl (by kernel_rfl)
  rw [hx] at hS5
  refine blockQ_n (tQ (Cd.region (Ops.mi rfl rfl rfl (Ops.add rfl rfl rfl (by omega) (Ops.mi rfl rfl rfl (Ops.n (tQ ?_)))))))
  exact ⟨k + 1, by show m - (k + 1) < m - k; omega, ⟨rfl, rfl, rfl, rfl, rfl, rfl, trivial⟩, by omega, hS5⟩
 ·have hkm : k = m := by omega
  subst hkm
  rw [List.take_of_length_le (by omega), List.take_of_length_le (by omega), List.drop_eq_nil_of_le (by omega), List.drop_eq_nil_of_le (by omega), List.append_nil, List.append_nil] at hS1
  refine Cd.exit (thenQ_x (thenQ_x (blockQ_x (ret0_n ?_))))
  exact ⟨rfl, hS1⟩
theorem rotate_c {w0 w : World} {ks : List Ck} {t : TypeId} {A : Option Addr} {n c : Nat} {P X Y S : List SlV} {G : FuncId} (a m b : Nat) (ha : P.length = a) (hm : P.length + X.length = m) (hb : P.length + X.length + Y.length = b) (hx0 : 0 < X.length) (hy0 : 0 < Y.length) (hn : n ≤ 4000000000000) (hS : St w0 w (CkR t A n c (P ++ (X ++ (Y ++ S))) :: ks)) :
    Ret Tryz.prog 152 [.slice A n c, .int .i64 (a : Int), .int .i64 (m : Int), .int .i64 (b : Int), .func (.func G) #[] #[]] w (fun v w' => v = .tuple #[] ∧ St w0 w' (CkR t A n c (P ++ (Y ++ (X ++ S))) :: ks)) := by
  have hln : (P ++ (X ++ (Y ++ S))).length = n := (hS.rdR 0 rfl).1
  simp only [List.length_append] at hln
  generalize hT : P ++ (Y ++ (X ++ S)) = T
  refine Ret.of_cd Tryz.func152 rfl Tryz.ntmps152 rfl (post0 rfl) (Cd.seq (Cd.region (Ops.mi rfl rfl rfl (Ops.mi rfl rfl rfl (Ops.sub rfl rfl rfl (by omega) (Ops.mi rfl rfl rfl (Ops.n (tQ (Cd.seq ?_)))))))))
  refine Cd.region (Ops.mi rfl rfl rfl (Ops.mi rfl rfl rfl (Ops.sub rfl rfl rfl (by omega) (Ops.mi rfl rfl rfl (Ops.n (tQ (Cd.seq (Cd.block ?_))))))))
  refine Cd.loop (α := List SlV × List SlV × List SlV × List SlV) (fun z => [(0, .slice A n c), (2, .int .i64 (m : Int)), (4, .func (.func G) #[] #[]), (10, .int .i64 (z.2.1.length : Int)), (11, .int .i64 (z.2.2.1.length : Int))])
    (fun z w' => z.1.length + z.2.1.length = m ∧ 0 < z.2.1.length ∧ 0 < z.2.2.1.length ∧ z.1 ++ (z.2.2.1 ++ (z.2.1 ++ z.2.2.2)) = T ∧ z.1.length + (z.2.1.length + (z.2.2.1.length + z.2.2.2.length)) = n ∧ St w0 w' (CkR t A n c (z.1 ++ (z.2.1 ++ (z.2.2.1 ++ z.2.2.2))) :: ks)) (fun z => z.2.1.length + z.2.2.1.length) (P, X, Y, S)
    ⟨rfl, rfl, rfl, by show Value.int .i64 ((m : Int) - (a : Int)) = .int .i64 (X.length : Int); congr 1; omega, by show Value.int .i64 ((b : Int) - (m : Int)) = .int .i64 (Y.length : Int); congr 1; omega, trivial⟩ ⟨hm, hx0, hy0, hT, by show P.length + (X.length + (Y.length + S.length)) = n; omega, hS⟩ ?_
  rintro ⟨P', X', Y', S'⟩ e w1 ⟨hm', hx', hy', hT', hl', hS1⟩
  dsimp only at hm' hx' hy' hT' hl' hS1 ⊢
  refine Cd.seq (Cd.seq (Cd.region (Ops.mi rfl rfl rfl (Ops.mi rfl rfl rfl (Ops.neq rfl rfl rfl (Ops.n (tQ ?_)))))))
  refine Cd.cond_p _ rfl (fun h1 => ?_) (fun h1 => ?_)
  · refine Cd.skip (tQ (Cd.block (Cd.seq (Cd.region (Ops.mi rfl rfl rfl (Ops.mi rfl rfl rfl (Ops.gtr rfl rfl rfl (Ops.n (tQ ?_)))))))))
    refine Cd.cond_p _ rfl (fun h2 => ?_) (fun h2 => ?_)
    · have hj : Y'.length ≤ X'.length := by omega
      obtain ⟨X1, X2, rfl, hX1⟩ : ∃ X1 X2, X' = X1 ++ X2 ∧ X1.length = Y'.length := ⟨X'.take Y'.length, X'.drop Y'.length, (List.take_append_drop _ _).symm, by simp; omega⟩
      have hlen : (X1 ++ X2).length = X1.length + X2.length := List.length_append
      simp only [List.length_append] at hm' hx' hl' h1 h2
      refine Cd.seq (Cd.region (Ops.ms rfl rfl rfl (Ops.mi rfl rfl rfl (Ops.mi rfl rfl rfl (Ops.sub rfl rfl rfl (by omega) (Ops.mi rfl rfl rfl (Ops.mi rfl rfl rfl (Ops.mv_fn rfl rfl rfl ?_))))))))
      refine Ops.call (swapRange_c (P := P') (X := X1) (M := X2) (Y := Y') (S := S') P'.length m Y'.length rfl (by omega) hX1 hX1 hn (by simpa using hS1)) rfl (by show [Value.slice A n c, .int .i64 ((m : Int) - ((X1 ++ X2).length : Int)), .int .i64 (m : Int), .int .i64 (Y'.length : Int), .func (.func G) #[] #[]] = _; congr 3; simp; omega) rfl ?_
      rintro _ w2 ⟨rfl, hS2⟩
      refine Ops.n (tQ (Cd.region (Ops.mi rfl rfl rfl (Ops.mi rfl rfl rfl (Ops.sub rfl rfl rfl (by omega) (Ops.mi rfl rfl rfl (Ops.n (blockQ_n (tQ ?_)))))))))
      exact ⟨(P' ++ Y', X2, X1, S'), by show X2.length + X1.length < (X1 ++ X2).length + Y'.length; simp; omega, ⟨rfl, rfl, rfl, by show Value.int .i64 _ = .int .i64 _; congr 1; simp; omega, congrArg (fun k : Nat => Value.int .i64 (k : Int)) hX1.symm, trivial⟩, by simp; omega, by show 0 < X2.length; omega, by show 0 < X1.length; omega, by show (P' ++ Y') ++ (X1 ++ (X2 ++ S')) = T; rw [← hT']; simp, by show (P' ++ Y').length + _ = n; simp; omega, by simpa using hS2⟩
    · have hj : X'.length < Y'.length := by omega
      obtain ⟨Y1, Y2, rfl, hY2⟩ : ∃ Y1 Y2, Y' = Y1 ++ Y2 ∧ Y2.length = X'.length := ⟨Y'.take (Y'.length - X'.length), Y'.drop (Y'.length - X'.length), (List.take_append_drop _ _).symm, by simp; omega⟩
      have hlen : (Y1 ++ Y2).length = Y1.length + Y2.length := List.length_append
      simp only [List.length_append] at hy' hl' h1 h2 hj
      refine Cd.seq (Cd.region (Ops.ms rfl rfl rfl (Ops.mi rfl rfl rfl (Ops.mi rfl rfl rfl (Ops.sub rfl rfl rfl (by omega) (Ops.mi rfl rfl rfl (Ops.mi rfl rfl rfl (Ops.add rfl rfl rfl (by omega) (Ops.mi rfl rfl rfl ?_)))))))))
      refine Ops.sub rfl rfl rfl (by omega) (Ops.mi rfl rfl rfl (Ops.mv_fn rfl rfl rfl ?_))
      refine Ops.call (swapRange_c (P := P') (X := X') (M := Y1) (Y := Y2) (S := S') P'.length (m + Y1.length) X'.length rfl (by omega) rfl hY2.symm hn (by simpa using hS1)) rfl (by show [Value.slice A n c, .int .i64 ((m : Int) - (X'.length : Int)), .int .i64 ((m : Int) + ((Y1 ++ Y2).length : Int) - (X'.length : Int)), .int .i64 (X'.length : Int), .func (.func G) #[] #[]] = _; rw [show (m : Int) + ((Y1 ++ Y2).length : Int) - (X'.length : Int) = ((m + Y1.length : Nat) : Int) by omega, show (m : Int) - (X'.length : Int) = (P'.length : Int) by omega]) rfl ?_
      rintro _ w2 ⟨rfl, hS2⟩
      refine Ops.n (tQ (Cd.region (Ops.mi rfl rfl rfl (Ops.mi rfl rfl rfl (Ops.sub rfl rfl rfl (by omega) (Ops.mi rfl rfl rfl (Ops.n (blockQ_n (tQ ?_)))))))))
      exact ⟨(P', Y2, Y1, X' ++ S'), by show Y2.length + Y1.length < X'.length + (Y1 ++ Y2).length; simp; omega, ⟨rfl, rfl, rfl, congrArg (fun k : Nat => Value.int .i64 (k : Int)) hY2.symm, by show Value.int .i64 _ = .int .i64 _; congr 1; simp; omega, trivial⟩, by show P'.length + Y2.length = m; omega, by show 0 < Y2.length; omega, by show 0 < Y1.length; omega, by show P' ++ (Y1 ++ (Y2 ++ (X' ++ S'))) = T; rw [← hT']; simp, by show P'.length + (Y2.length + (Y1.length + (X' ++ S').length)) = n; simp; omega, by simpa using hS2⟩
  · have hxy : X'.length = Y'.length := by omega
    refine Cd.exit (thenQ_x (thenQ_x (blockQ_x (tQ (Cd.region (Ops.ms rfl rfl rfl (Ops.mi rfl rfl rfl (Ops.mi rfl rfl rfl (Ops.sub rfl rfl rfl (by omega) ?_)))))))))
    refine Ops.mi rfl rfl rfl (Ops.mi rfl rfl rfl (Ops.mv_fn rfl rfl rfl ?_))
    refine Ops.call (swapRange_c (P := P') (X := X') (M := []) (Y := Y') (S := S') P'.length m X'.length rfl (by simpa using hm') rfl hxy hn (by simpa using hS1)) rfl (by show [Value.slice A n c, .int .i64 ((m : Int) - (X'.length : Int)), .int .i64 (m : Int), .int .i64 (X'.length : Int), .func (.func G) #[] #[]] = _; congr 3; omega) rfl ?_
    rintro _ w2 ⟨rfl, hS2⟩
    refine Ops.n (ret0_n ?_)
    exact ⟨rfl, by rw [← hT']; simpa using hS2⟩
theorem insertion_c {w0 w : World} {ks : List Ck} {t : TypeId} {A : Option Addr} {n c : Nat} {ds : List SlV} (a b : Nat) (hb : b ≤ n) (ha : a ≤ n) (hn : n ≤ 4000000000000) (hc : ∀ s ∈ ds, s.n ≤ 9223372036854775807) (hS : St w0 w (CkR t A n c ds :: ks)) :
  Ret Tryz.prog 136 [.slice A n c, .int .i64 (a : Int), .int .i64 (b : Int), .func (.func 104) #[] #[]] w (fun v w' => v = .tuple #[] ∧ ∃ ds', RP ds ds' a b ∧ SR knS ds' a b ∧ St w0 w' (CkR t A n c ds' :: ks)) := by
 have hln : ds.length = n := (hS.rdR 0 rfl).1
 refine Ret.of_cd Tryz.func136 rfl Tryz.ntmps136 rfl (post0 rfl) (Cd.seq (Cd.region (Ops.mi rfl rfl rfl (Ops.add rfl rfl rfl (by omega) (Ops.mi rfl rfl rfl (Ops.n (tQ (Cd.block ?_))))))))
 refine Cd.loop (α := Nat × List SlV) (fun z => [(0, .slice A n c), (1, .int .i64 (a : Int)), (2, .int .i64 (b : Int)), (3, .func (.func 104) #[] #[]), (8, .int .i64 (z.1 : Int))]) (fun z w' => a + 1 ≤ z.1 ∧ RP ds z.2 a b ∧ SR knS z.2 a z.1 ∧ St w0 w' (CkR t A n c z.2 :: ks)) (fun z => b - z.1) (a + 1, ds) ⟨rfl, rfl, rfl, rfl, rfl, trivial⟩ ⟨Nat.le_refl _, RP.refl _ _ _, SR.one _ _ (Nat.le_refl _), hS⟩ ?_
 rintro ⟨i, cur⟩ e w1 ⟨hi, hp, hs, hS1⟩
 dsimp only at hi hp hs hS1 ⊢
 refine Cd.seq (Cd.seq (Cd.region (Ops.mi rfl rfl rfl (Ops.mi rfl rfl rfl (Ops.lss rfl rfl rfl (Ops.n (tQ ?_)))))))
 refine Cd.cond_p _ rfl (fun h1 => ?_) (fun h1 => ?_)
 ·refine Cd.skip (tQ (Cd.seq (Cd.block (Cd.seq (Cd.region (Ops.mi rfl rfl rfl (Ops.mi rfl rfl rfl (Ops.n (tQ ?_)))))))))
  refine Cd.block ?_
  refine Cd.loop (α := Nat × List SlV) (fun z => [(0, .slice A n c), (1, .int .i64 (a : Int)), (2, .int .i64 (b : Int)), (3, .func (.func 104) #[] #[]), (8, .int .i64 (i : Int)), (9, .int .i64 (z.1 : Int))]) (fun z w' => RP ds z.2 a b ∧ InsI knS z.2 a i z.1 ∧ St w0 w' (CkR t A n c z.2 :: ks)) (fun z => z.1) (i, cur) ⟨rfl, rfl, rfl, rfl, rfl, rfl, trivial⟩ ⟨hp, InsI.start hs (by omega), hS1⟩ ?_
  rintro ⟨j, cu⟩ e w2 ⟨hp2, hI, hS2⟩
  dsimp only at hp2 hI hS2 ⊢
  have hcl : cu.length = n := (hS2.rdR 0 rfl).1
  have hR := hS2.rdR 0 rfl
  have hlow := hI.low
  have hhigh := hI.high
  have hcap := gs_capd (hp2.cap hc)
  refine Cd.seq (Cd.seq ?_)
  by_cases haj : a < j
  ·--dup 2
   have ej : ((j : Int) - 1).toNat = j - 1 := by omega
   have g1 : rg cu (j : Int) = gs cu j := rfl
   have g2 : rg cu ((j : Int) - 1) = gs cu (j - 1) := by unfold rg gs; rw [ej]
   refine Cd.draw [.ex (.int .i64 ((j : Int))), .ex (.int .i64 ((a : Int))), .ex (.bool (decide (((a : Int)) < ((j : Int))))), .ex (.bool (true)), .ex (.func (.func 104) #[] #[]), .ex (.slice (A) (n) (c)), .ex (.int .i64 ((j : Int))), .ex (.pointer (ptrAt (A) ((j : Int)).toNat)), .ex (.slice ((rg (cu) ((j : Int))).a) ((rg (cu) ((j : Int))).n) ((rg (cu) ((j : Int))).c)), .ex (.slice (A) (n) (c)), .ex (.int .i64 ((j : Int))), .ex (.int .i64 (((j : Int)) - ((1 : Int)))), .ex (.pointer (ptrAt (A) (((j : Int)) - ((1 : Int))).toNat)), .ex (.slice ((rg (cu) (((j : Int)) - ((1 : Int)))).a) ((rg (cu) (((j : Int)) - ((1 : Int)))).n) ((rg (cu) (((j : Int)) - ((1 : Int)))).c)), .ex (.int .i64 (((gs cu (j - 1)).n : Int) - (gs cu j).n)), .ex (.bool (decide ((((gs cu (j - 1)).n : Int) - (gs cu j).n) < ((0 : Int))))), .ex (.bool (decide ((((gs cu (j - 1)).n : Int) - (gs cu j).n) < ((0 : Int)))))] (by kernel_rfl) (by kernel_rfl) rfl (lx (lx (lx (lx (lx (lx (lx (lx (lx (lx (lx (lx (lx (lx (lx (lx (lx (fun _ h => by cases h)))))))))))))))))) ⟨?_, ?_, ?_, ?_, ?_, ?_, ?_, ?_, ?_, ?_, ?_, ?_, ?_, ?_, ?_, ?_, ?_, trivial⟩ ?_
   ·intro e1 w1 hb hp hun; refine Ops.mi rfl rfl rfl (Ops.n (d0 (by exact rfl)))
   ·intro e1 w1 hb hp hun; refine Ops.mi rfl rfl rfl (Ops.n (d0 (by exact rfl)))
   ·intro e1 w1 hb hp hun; refine Ops.gtr rfl rfl rfl (Ops.n (d0 (by exact rfl)))
   ·intro e1 w1 hb hp hun; refine Ops.mb rfl rfl rfl (Ops.n ?_)
    exact d0 (by exact congrArg Value.bool (decide_eq_true (by omega)))
   ·intro e1 w1 hb hp hun; refine Ops.g rfl rfl rfl (Ops.mv_fn rfl rfl rfl (Ops.n (d0 (by exact rfl))))
   ·intro e1 w1 hb hp hun; refine Ops.g rfl rfl rfl (Ops.ms rfl rfl rfl (Ops.n (d0 (by exact rfl))))
   ·intro e1 w1 hb hp hun; refine Ops.g rfl rfl rfl (Ops.mi rfl rfl rfl (Ops.n (d0 (by exact rfl))))
   ·intro e1 w1 hb hp hun; refine Ops.g rfl rfl rfl (Ops.idx (hR.later hb).2 rfl rfl rfl (by omega) (by omega) (Ops.n (d0 (by exact rfl))))
   ·intro e1 w1 hb hp hun; refine Ops.g rfl rfl rfl (Ops.ld_sl (hR.later hb) rfl (by omega) rfl rfl (Ops.n (d0 (by exact rfl))))
   ·intro e1 w1 hb hp hun; refine Ops.g rfl rfl rfl (Ops.ms rfl rfl rfl (Ops.n (d0 (by exact rfl))))
   ·intro e1 w1 hb hp hun; refine Ops.g rfl rfl rfl (Ops.mi rfl rfl rfl (Ops.n (d0 (by exact rfl))))
   ·intro e1 w1 hb hp hun; refine Ops.g rfl rfl rfl (Ops.sub rfl rfl rfl (by omega) (Ops.n (d0 (by exact rfl))))
   ·intro e1 w1 hb hp hun; refine Ops.g rfl rfl rfl (Ops.idx (hR.later hb).2 rfl rfl rfl (by omega) (by omega) (Ops.n (d0 (by exact rfl))))
   ·intro e1 w1 hb hp hun; refine Ops.g rfl rfl rfl (Ops.ld_sl (hR.later hb) rfl (by omega) rfl rfl (Ops.n (d0 (by exact rfl))))
   ·intro e1 w1 hb hp hun; refine Ops.g rfl rfl rfl ?_
    refine Ops.call (cmpG_c (gs cu j).a (gs cu j).n (gs cu j).c (gs cu (j - 1)).a (gs cu (j - 1)).n (gs cu (j - 1)).c _ (hcap j) (hcap (j - 1))) rfl (by rw [← g2]; rfl) rfl ?_
    rintro _ w9 ⟨rfl, rfl⟩
    refine Ops.n (d0 (by exact rfl))
   ·intro e1 w1 hb hp hun; refine Ops.g rfl rfl rfl (Ops.lss rfl rfl rfl (Ops.n (d0 (by exact rfl))))
   ·intro e1 w1 hb hp hun; refine Ops.pick_t rfl rfl rfl (Ops.n (d0 (by exact rfl)))
   intro u w3 hb3 _
   have hS3 := hS2.later hb3
   refine tQ ?_
   refine Cd.cond_p _ rfl (fun h2 => ?_) (fun h2 => ?_)
   ·have hR3 := hS3.rdR 0 rfl
    have hlt : knS (gs cu j) < knS (gs cu (j - 1)) := by unfold knS; omega
    refine Cd.skip (tQ (Cd.seq (Cd.block ?_)))
    refine Cd.drawN [15, 17] [.ex (.slice (A) (n) (c)), .ex (.int .i64 ((j : Int))), .ex (.slice (A) (n) (c)), .ex (.int .i64 ((j : Int))), .ex (.int .i64 (((j : Int)) - ((1 : Int)))), .ex (.slice (A) (n) (c)), .ex (.int .i64 ((j : Int))), .ex (.int .i64 (((j : Int)) - ((1 : Int)))), .ex (.pointer (ptrAt (A) (((j : Int)) - ((1 : Int))).toNat)), .ex (.slice ((rg (cu) (((j : Int)) - ((1 : Int)))).a) ((rg (cu) (((j : Int)) - ((1 : Int)))).n) ((rg (cu) (((j : Int)) - ((1 : Int)))).c)), .ex (.slice (A) (n) (c)), .ex (.int .i64 ((j : Int))), .ex (.pointer (ptrAt (A) ((j : Int)).toNat)), .ex (.slice ((rg (cu) ((j : Int))).a) ((rg (cu) ((j : Int))).n) ((rg (cu) ((j : Int))).c)), .ex (.pointer (ptrAt (A) ((j : Int)).toNat)), .pr (fun _ w' => St w0 w' (CkR t A n c (cu.set j (gs cu (j - 1))) :: ks)), .ex (.pointer (ptrAt (A) (((j : Int)) - ((1 : Int))).toNat)), .pr (fun _ w' => St w0 w' (CkR t A n c (swp cu j (j - 1)) :: ks))] (by kernel_rfl) (by kernel_rfl) (lx (lx (lx (lx (lx (lx (lx (lx (lx (lx (lx (lx (lx (lx (lx (List.forall_mem_cons.2 ⟨Yd.lasts_pr (fun v w w' h hb => h.later hb), (lx (List.forall_mem_cons.2 ⟨Yd.lasts_pr (fun v w w' h hb => h.later hb), (fun _ h => by cases h)⟩))⟩)))))))))))))))) ⟨?_, ?_, ?_, ?_, ?_, ?_, ?_, ?_, ?_, ?_, ?_, ?_, ?_, ?_, ?_, ?_, ?_, ?_, trivial⟩ ?_
    ·intro e1 w1 cc hlo hhi hb0 hp hun hq; show Ops _ _ _ _ _ _ _
     refine Ops.ms rfl rfl rfl (Ops.n (n0 rfl (by exact rfl)))
    ·intro e1 w1 cc hlo hhi hb0 hp hun hq; show Ops _ _ _ _ _ _ _
     refine Ops.mi rfl rfl rfl (Ops.n (n0 rfl (by exact rfl)))
    ·intro e1 w1 cc hlo hhi hb0 hp hun hq; show Ops _ _ _ _ _ _ _
     refine Ops.ms rfl rfl rfl (Ops.n (n0 rfl (by exact rfl)))
    ·intro e1 w1 cc hlo hhi hb0 hp hun hq; show Ops _ _ _ _ _ _ _
     refine Ops.mi rfl rfl rfl (Ops.n (n0 rfl (by exact rfl)))
    ·intro e1 w1 cc hlo hhi hb0 hp hun hq; show Ops _ _ _ _ _ _ _
     refine Ops.sub rfl rfl rfl (by omega) (Ops.n (n0 rfl (by exact rfl)))
    ·intro e1 w1 cc hlo hhi hb0 hp hun hq; show Ops _ _ _ _ _ _ _
     refine Ops.ms rfl rfl rfl (Ops.n (n0 rfl (by exact rfl)))
    ·intro e1 w1 cc hlo hhi hb0 hp hun hq; show Ops _ _ _ _ _ _ _
     refine Ops.mi rfl rfl rfl (Ops.n (n0 rfl (by exact rfl)))
    ·intro e1 w1 cc hlo hhi hb0 hp hun hq; show Ops _ _ _ _ _ _ _
     refine Ops.sub rfl rfl rfl (by omega) (Ops.n (n0 rfl (by exact rfl)))
    ·intro e1 w1 cc hlo hhi hb0 hp hun hq; show Ops _ _ _ _ _ _ _
     obtain rfl := cc_of hlo hhi (b := 0) (by kernel_rfl) (by kernel_rfl)
     have hb := hb0 rfl
     refine Ops.idx (hR3.later hb).2 rfl rfl rfl (by omega) (by omega) (Ops.n (n0 rfl (by exact rfl)))
    ·intro e1 w1 cc hlo hhi hb0 hp hun hq; show Ops _ _ _ _ _ _ _
     obtain rfl := cc_of hlo hhi (b := 0) (by kernel_rfl) (by kernel_rfl)
     have hb := hb0 rfl
     refine Ops.ld_sl (hR3.later hb) rfl (by omega) rfl rfl (Ops.n (n0 rfl (by exact rfl)))
    ·intro e1 w1 cc hlo hhi hb0 hp hun hq; show Ops _ _ _ _ _ _ _
     refine Ops.ms rfl rfl rfl (Ops.n (n0 rfl (by exact rfl)))
    ·intro e1 w1 cc hlo hhi hb0 hp hun hq; show Ops _ _ _ _ _ _ _
     refine Ops.mi rfl rfl rfl (Ops.n (n0 rfl (by exact rfl)))
    ·intro e1 w1 cc hlo hhi hb0 hp hun hq; show Ops _ _ _ _ _ _ _
     obtain rfl := cc_of hlo hhi (b := 0) (by kernel_rfl) (by kernel_rfl)
     have hb := hb0 rfl
     refine Ops.idx (hR3.later hb).2 rfl rfl rfl (by omega) (by omega) (Ops.n (n0 rfl (by exact rfl)))
    ·intro e1 w1 cc hlo hhi hb0 hp hun hq; show Ops _ _ _ _ _ _ _
     obtain rfl := cc_of hlo hhi (b := 0) (by kernel_rfl) (by kernel_rfl)
     have hb := hb0 rfl
     refine Ops.ld_sl (hR3.later hb) rfl (by omega) rfl rfl (Ops.n (n0 rfl (by exact rfl)))
    ·intro e1 w1 cc hlo hhi hb0 hp hun hq; show Ops _ _ _ _ _ _ _
     obtain rfl := cc_of hlo hhi (b := 0) (by kernel_rfl) (by kernel_rfl)
     have hb := hb0 rfl
     refine Ops.idx (hR3.later hb).2 rfl rfl rfl (by omega) (by omega) (Ops.n (n0 rfl (by exact rfl)))
    ·intro e1 w1 cc hlo hhi hb0 hp hun hq; show Ops _ _ _ _ _ _ _
     obtain rfl := cc_of hlo hhi (b := 0) (by kernel_rfl) (by kernel_rfl)
     have hb := hb0 rfl
     refine Ops.st_sl 0 (hS3.later hb) rfl rfl rfl (by omega) ?_
     intro w6 hS6
     refine Ops.n ?_
     exact AfterT.st rfl (st_gs (i := (j : Int)) rfl g2 hS6)
    ·intro e1 w1 cc hlo hhi hb0 hp hun hq; show Ops _ _ _ _ _ _ _
     obtain rfl := cc_of hlo hhi (b := 1) (by kernel_rfl) (by kernel_rfl)
     have hph := hp 15 _ _ (by kernel_rfl) rfl rfl (by kernel_rfl)
     have hR6 := hph.rdR 0 rfl
     have hl6 : (cu.set j (gs cu (j - 1))).length = n := by rw [List.length_set]; exact hcl
     refine Ops.idx (hR6).2 rfl rfl rfl (by omega) (by omega) (Ops.n (n0 rfl (by exact rfl)))
    ·intro e1 w1 cc hlo hhi hb0 hp hun hq; show Ops _ _ _ _ _ _ _
     obtain rfl := cc_of hlo hhi (b := 1) (by kernel_rfl) (by kernel_rfl)
     have hph := hp 15 _ _ (by kernel_rfl) rfl rfl (by kernel_rfl)
     have hR6 := hph.rdR 0 rfl
     have hl6 : (cu.set j (gs cu (j - 1))).length = n := by rw [List.length_set]; exact hcl
     refine Ops.st_sl 0 hph rfl rfl rfl (by omega) ?_
     intro w7 hS7
     refine Ops.n ?_
     exact AfterT.st rfl (st_gs ej g1 hS7)
    intro u w5 _ hu
    have hS5 := hu 17 _ rfl (by kernel_rfl)
    refine blockQ_n (tQ (Cd.region (Ops.mi rfl rfl rfl (Ops.sub rfl rfl rfl (by omega) (Ops.mi rfl rfl rfl (Ops.n (tQ ?_)))))))
    exact ⟨(j - 1, swp cu j (j - 1)), by show j - 1 < j; omega, ⟨rfl, rfl, rfl, rfl, rfl, by show Value.int .i64 _ = .int .i64 _; congr 1; omega, trivial⟩, hp2.trans (swp_RP (by omega) (by omega) (Nat.le_of_lt haj) (by omega) (by omega) (by omega)) (Nat.le_refl _) (Nat.le_refl _), hI.next haj (by omega) hlt, hS5⟩
   ·refine Cd.exit (thenQ_x (thenQ_x (blockQ_x (blockQ_n (tQ (Cd.region (Ops.mi rfl rfl rfl (Ops.add rfl rfl rfl (by omega) (Ops.mi rfl rfl rfl ?_)))))))))
    refine Ops.n (tQ ?_)
    exact ⟨(i + 1, cu), by show b - (i + 1) < b - i; omega, ⟨rfl, rfl, rfl, rfl, rfl, trivial⟩, by show a + 1 ≤ i + 1; omega, hp2, hI.stop (.inr (by unfold knS; omega)), hS3⟩
  ·refine Cd.draw [.ex (.int .i64 ((j : Int))), .ex (.int .i64 ((a : Int))), .ex (.bool (decide (((a : Int)) < ((j : Int))))), .ex (.bool (false)), .ex (undef), .ex (undef), .ex (undef), .ex (undef), .ex (undef), .ex (undef), .ex (undef), .ex (undef), .ex (undef), .ex (undef), .ex (undef), .ex (undef), .ex (.bool (false))] (by kernel_rfl) (by kernel_rfl) rfl (lx (lx (lx (lx (lx (lx (lx (lx (lx (lx (lx (lx (lx (lx (lx (lx (lx (fun _ h => by cases h)))))))))))))))))) ⟨?_, ?_, ?_, ?_, ?_, ?_, ?_, ?_, ?_, ?_, ?_, ?_, ?_, ?_, ?_, ?_, ?_, trivial⟩ ?_
   ·intro e1 w1 hb hp hun; refine Ops.mi rfl rfl rfl (Ops.n (d0 (by exact rfl)))
   ·intro e1 w1 hb hp hun; refine Ops.mi rfl rfl rfl (Ops.n (d0 (by exact rfl)))
   ·intro e1 w1 hb hp hun; refine Ops.gtr rfl rfl rfl (Ops.n (d0 (by exact rfl)))
   ·intro e1 w1 hb hp hun; refine Ops.mb rfl rfl rfl (Ops.n ?_)
    exact d0 (by exact congrArg Value.bool (decide_eq_false (by omega)))
   ·intro e1 w1 hb hp hun; refine Ops.k rfl rfl rfl rfl rfl (Ops.n (d0 (by exact rfl)))
   ·intro e1 w1 hb hp hun; refine Ops.k rfl rfl rfl rfl rfl (Ops.n (d0 (by exact rfl)))
   ·intro e1 w1 hb hp hun; refine Ops.k rfl rfl rfl rfl rfl (Ops.n (d0 (by exact rfl)))
   ·intro e1 w1 hb hp hun; refine Ops.k rfl rfl rfl rfl rfl (Ops.n (d0 (by exact rfl)))
   ·intro e1 w1 hb hp hun; refine Ops.k rfl rfl rfl rfl rfl (Ops.n (d0 (by exact rfl)))
   ·intro e1 w1 hb hp hun; refine Ops.k rfl rfl rfl rfl rfl (Ops.n (d0 (by exact rfl)))
   ·intro e1 w1 hb hp hun; refine Ops.k rfl rfl rfl rfl rfl (Ops.n (d0 (by exact rfl)))
   ·intro e1 w1 hb hp hun; refine Ops.k rfl rfl rfl rfl rfl (Ops.n (d0 (by exact rfl)))
   ·intro e1 w1 hb hp hun; refine Ops.k rfl rfl rfl rfl rfl (Ops.n (d0 (by exact rfl)))
   ·intro e1 w1 hb hp hun; refine Ops.k rfl rfl rfl rfl rfl (Ops.n (d0 (by exact rfl)))
   ·intro e1 w1 hb hp hun; refine Ops.k rfl rfl rfl rfl rfl (Ops.n (d0 (by exact rfl)))
   ·intro e1 w1 hb hp hun; refine Ops.k rfl rfl rfl rfl rfl (Ops.n (d0 (by exact rfl)))
   ·intro e1 w1 hb hp hun; refine Ops.pick_f rfl rfl rfl (Ops.n (d0 (by exact rfl)))
   intro u w3 hb3 _
   have hS3 := hS2.later hb3
   refine tQ (Cd.cond_f rfl (Cd.exit (thenQ_x (thenQ_x (blockQ_x (blockQ_n (tQ (Cd.region (Ops.mi rfl rfl rfl ?_)))))))))
   refine Ops.add rfl rfl rfl (by omega) (Ops.mi rfl rfl rfl (Ops.n (tQ ?_)))
   exact ⟨(i + 1, cu), by show b - (i + 1) < b - i; omega, ⟨rfl, rfl, rfl, rfl, rfl, trivial⟩, by show a + 1 ≤ i + 1; omega, hp2, hI.stop (.inl (by omega)), hS3⟩
 ·refine Cd.exit (thenQ_x (thenQ_x (blockQ_x (ret0_n ?_))))
  exact ⟨rfl, cur, hp, hs.sub (Nat.le_refl _) (by omega), hS1⟩
/-
 The library's stable sort of rows by their lengths, walked: two sorted ranges joined.
-/
section
variable {P : Program} {N : Nat} {ops : Array Oper} {K : Env → World → Prop} {rest : List Oper} {e : Env} {w : World} {d : Nat} {ty : TypeId} {pos : String} {af : Array Edge} {x y : Operand} {xt yt : TypeId} {i : Int}
theorem Ops.shr1 {k : IntKind} (hx : ev e x = .int .u64 i) (hy : ev e y = .int k 1) (hb : Nat.blt d N = true) (h0 : 0 ≤ i) (hK : Ops P N ops K rest (upd e d (.int .u64 (i / 2))) w) :
  Ops P N ops K (⟨some d, .binOp .shr xt x y yt, ty, pos, af, none⟩ :: rest) e w := by
 refine .val (v := .int .u64 (i / 2)) ?_ hb hK
 have e1 : min 1 IntKind.u64.bits = 1 := by decide
 have e2 : i.fdiv 2 = i / 2 := Int.fdiv_eq_ediv_of_nonneg _ (by decide)
 simp [execOp, hx, hy, eqGuard, binOp, Op.shift, e1, e2]
end
theorem cut_rng {a m b : Nat} (h1 : a < m) (h2 : m < b) {c : Nat} (hc : lo0 a m b ≤ c) (hc2 : c < hi0 a m b) : a ≤ c ∧ c < m ∧ m ≤ (a + b) / 2 + m - 1 - c ∧ (a + b) / 2 + m - 1 - c < b := by
 unfold lo0 at hc
 unfold hi0 at hc2
 by_cases h : (a + b) / 2 < m
 ·rw [if_pos h] at hc hc2; omega
 ·rw [if_neg h] at hc hc2; omega
theorem lo_hi {a m b : Nat} (h1 : a < m) (h2 : m < b) : lo0 a m b ≤ hi0 a m b := by
 unfold lo0 hi0
 split <;> omega
theorem symMerge_c {w0 : World} {ks : List Ck} {t : TypeId} {A : Option Addr} {n c : Nat} (hn : n ≤ 4000000000000) : ∀ (f a m b : Nat), b - a ≤ f → a < m → m < b → b ≤ n → ∀ (ds : List SlV) (w : World), (∀ s ∈ ds, s.n ≤ 9223372036854775807) → SR knS ds a m → SR knS ds m b → St w0 w (CkR t A n c ds :: ks) →
    Ret Tryz.prog 137 [.slice A n c, .int .i64 (a : Int), .int .i64 (m : Int), .int .i64 (b : Int), .func (.func 104) #[] #[]] w (fun v w' => v = .tuple #[] ∧ ∃ ds', RP ds ds' a b ∧ SR knS ds' a b ∧ St w0 w' (CkR t A n c ds' :: ks)) := by
  intro f
  induction f with
  | zero => intro a m b h1 h2 h3; omega
  | succ f ih =>
    intro a m b hf ham hmb hbn ds w hc hA hB hS
    have hln : ds.length = n := (hS.rdR 0 rfl).1
    have hcap := gs_capd hc
    refine Ret.of_cd Tryz.func137 rfl Tryz.ntmps137 rfl (post0 rfl) (Cd.seq (Cd.seq (Cd.region (Ops.mi rfl rfl rfl (Ops.mi rfl rfl rfl (Ops.sub rfl rfl rfl (by omega) (Ops.eql rfl rfl rfl (Ops.n (tQ ?_)))))))))
    refine Cd.cond_p _ rfl (fun h1 => ?_) (fun h1 => ?_)
    · have hm : m = a + 1 := by omega
      refine Cd.seq (Cd.region (Ops.mi rfl rfl rfl (Ops.mi rfl rfl rfl (Ops.n (tQ (Cd.seq (Cd.region (Ops.mi rfl rfl rfl (Ops.mi rfl rfl rfl ?_)))))))))
      refine Ops.n (tQ (Cd.seq (Cd.block ?_)))
      refine Cd.loop (α := Nat × Nat) (fun z => [(0, .slice A n c), (1, .int .i64 (a : Int)), (2, .int .i64 (m : Int)), (3, .int .i64 (b : Int)), (4, .func (.func 104) #[] #[]), (10, .int .i64 (z.1 : Int)), (11, .int .i64 (z.2 : Int))])
        (fun z w' => (m ≤ z.1 ∧ z.1 ≤ z.2 ∧ z.2 ≤ b) ∧ (∀ x, m ≤ x → x < z.1 → knS (gs ds x) < knS (gs ds a)) ∧ (∀ x, z.2 ≤ x → x < b → knS (gs ds a) ≤ knS (gs ds x)) ∧ St w0 w' (CkR t A n c ds :: ks)) (fun z => z.2 - z.1) (m, b) ⟨rfl, rfl, rfl, rfl, rfl, rfl, rfl, trivial⟩ ⟨⟨Nat.le_refl _, by show m ≤ b; omega, Nat.le_refl _⟩, fun x h h' => by omega, fun x h h' => by omega, hS⟩ ?_
      rintro ⟨i, j⟩ e w1 ⟨⟨hi0, hij, hjb⟩, hL, hR, hS1⟩
      dsimp only at hi0 hij hjb hL hR hS1 ⊢
      refine Cd.seq (Cd.seq (Cd.region (Ops.mi rfl rfl rfl (Ops.mi rfl rfl rfl (Ops.lss rfl rfl rfl (Ops.n (tQ ?_)))))))
      refine Cd.cond_p _ rfl (fun h2 => ?_) (fun h2 => ?_)
      · refine Cd.skip (tQ (Cd.block (Cd.seq (Cd.region (Ops.mi rfl rfl rfl (Ops.mi rfl rfl rfl (Ops.add rfl rfl rfl (by omega) (Ops.convK rfl rfl (wrap_u64_in _ (by omega)) (Ops.shr1 rfl rfl rfl (by omega) ?_)))))))))
        refine Ops.convK rfl rfl (IntWalk.i64_in _ (by omega)) (Ops.mi rfl rfl rfl (Ops.n (tQ (Cd.seq ?_))))
        obtain ⟨h, hh⟩ : ∃ h : Nat, h = (i + j) / 2 := ⟨_, rfl⟩
        rw [show ((i : Int) + (j : Int)) / 2 = (h : Int) by omega]
        have hR1 := hS1.rdR 0 rfl
        have g1 : rg ds (h : Int) = gs ds h := rfl
        have g2 : rg ds (a : Int) = gs ds a := rfl
        refine Cd.draw [.ex (.func (.func 104) #[] #[]), .ex (.slice (A) (n) (c)), .ex (.int .i64 ((h : Int))), .ex (.pointer (ptrAt (A) ((h : Int)).toNat)), .ex (.slice ((rg (ds) ((h : Int))).a) ((rg (ds) ((h : Int))).n) ((rg (ds) ((h : Int))).c)), .ex (.slice (A) (n) (c)), .ex (.int .i64 ((a : Int))), .ex (.pointer (ptrAt (A) ((a : Int)).toNat)), .ex (.slice ((rg (ds) ((a : Int))).a) ((rg (ds) ((a : Int))).n) ((rg (ds) ((a : Int))).c)), .ex (.int .i64 (((gs ds a).n : Int) - (gs ds h).n)), .ex (.bool (decide ((((gs ds a).n : Int) - (gs ds h).n) < ((0 : Int)))))] (by kernel_rfl) (by kernel_rfl) rfl (lx (lx (lx (lx (lx (lx (lx (lx (lx (lx (lx (fun _ h => by cases h)))))))))))) ⟨?_, ?_, ?_, ?_, ?_, ?_, ?_, ?_, ?_, ?_, ?_, trivial⟩ ?_
        · intro e1 w1 hb hp hun
          refine Ops.mv_fn rfl rfl rfl (Ops.n (d0 (by exact rfl)))
        · intro e1 w1 hb hp hun
          refine Ops.ms rfl rfl rfl (Ops.n (d0 (by exact rfl)))
        · intro e1 w1 hb hp hun
          refine Ops.mi rfl rfl rfl (Ops.n (d0 (by exact rfl)))
        · intro e1 w1 hb hp hun
          refine Ops.idx (hR1.later hb).2 rfl rfl rfl (by omega) (by omega) (Ops.n (d0 (by exact rfl)))
        · intro e1 w1 hb hp hun
          refine Ops.ld_sl (hR1.later hb) rfl (by omega) rfl rfl (Ops.n (d0 (by exact rfl)))
        · intro e1 w1 hb hp hun
          refine Ops.ms rfl rfl rfl (Ops.n (d0 (by exact rfl)))
        · intro e1 w1 hb hp hun
          refine Ops.mi rfl rfl rfl (Ops.n (d0 (by exact rfl)))
        · intro e1 w1 hb hp hun
          refine Ops.idx (hR1.later hb).2 rfl rfl rfl (by omega) (by omega) (Ops.n (d0 (by exact rfl)))
        · intro e1 w1 hb hp hun
          refine Ops.ld_sl (hR1.later hb) rfl (by omega) rfl rfl (Ops.n (d0 (by exact rfl)))
        · intro e1 w1 hb hp hun
          refine Ops.call (cmpG_c (gs ds h).a (gs ds h).n (gs ds h).c (gs ds a).a (gs ds a).n (gs ds a).c _ (hcap h) (hcap a)) rfl rfl rfl ?_
          rintro _ w9 ⟨rfl, rfl⟩
          refine Ops.n (d0 (by exact rfl))
        · intro e1 w1 hb hp hun
          refine Ops.lss rfl rfl rfl (Ops.n (d0 (by exact rfl)))
        intro u w2 hb2 _
        have hS2 := hS1.later hb2
        refine tQ ?_
        refine Cd.cond_p _ rfl (fun h3 => ?_) (fun h3 => ?_)
        · refine Cd.region (Ops.mi rfl rfl rfl (Ops.add rfl rfl rfl (by omega) (Ops.mi rfl rfl rfl (Ops.n (blockQ_n (tQ ?_))))))
          refine ⟨(h + 1, j), by show j - (h + 1) < j - i; omega, ⟨rfl, rfl, rfl, rfl, rfl, rfl, rfl, trivial⟩, ⟨by show m ≤ h + 1; omega, by show h + 1 ≤ j; omega, hjb⟩, fun x hx1 hx2 => ?_, hR, hS2⟩
          have hx2 : x < h + 1 := hx2
          have k1 : knS (gs ds x) ≤ knS (gs ds h) := hB.le hx1 (by omega) (by omega)
          have k2 : knS (gs ds h) < knS (gs ds a) := by unfold knS; omega
          omega
        · refine Cd.region (Ops.mi rfl rfl rfl (Ops.mi rfl rfl rfl (Ops.n (blockQ_n (tQ ?_)))))
          refine ⟨(i, h), by show h - i < j - i; omega, ⟨rfl, rfl, rfl, rfl, rfl, rfl, rfl, trivial⟩, ⟨hi0, by show i ≤ h; omega, by show h ≤ b; omega⟩, hL, fun x hx1 hx2 => ?_, hS2⟩
          have hx1 : h ≤ x := hx1
          have k1 : knS (gs ds h) ≤ knS (gs ds x) := hB.le (by omega) hx1 hx2
          have k2 : knS (gs ds a) ≤ knS (gs ds h) := by unfold knS; omega
          omega
      · have hije : i = j := by omega
        subst hije
        refine Cd.exit (thenQ_x (thenQ_x (blockQ_x (tQ (Cd.seq (Cd.seq (Cd.region (Ops.mi rfl rfl rfl (Ops.mi rfl rfl rfl ?_)))))))))
        refine Ops.n (tQ (Cd.block ?_))
        refine Cd.loop (α := Nat × List SlV) (fun z => [(0, .slice A n c), (4, .func (.func 104) #[] #[]), (10, .int .i64 (i : Int)), (13, .int .i64 (z.1 : Int))]) (fun z w' => (a ≤ z.1 ∧ z.1 ≤ i - 1) ∧ RP ds z.2 a b ∧ MovU ds z.2 a z.1 ∧ St w0 w' (CkR t A n c z.2 :: ks)) (fun z => i - z.1) (a, ds) ⟨rfl, rfl, rfl, rfl, trivial⟩ ⟨⟨Nat.le_refl _, by show a ≤ i - 1; omega⟩, RP.refl _ _ _, MovU.start _ _, hS1⟩ ?_
        rintro ⟨k, cu⟩ e w2 ⟨⟨hk1, hk2⟩, hp, hmv, hS2⟩
        dsimp only at hk1 hk2 hp hmv hS2 ⊢
        have hcl : cu.length = n := (hS2.rdR 0 rfl).1
        refine Cd.seq (Cd.seq (Cd.region (Ops.mi rfl rfl rfl (Ops.mi rfl rfl rfl (Ops.sub rfl rfl rfl (by omega) (Ops.lss rfl rfl rfl (Ops.n (tQ ?_))))))))
        refine Cd.cond_p _ rfl (fun h3 => ?_) (fun h3 => ?_)
        · have hR3 := hS2.rdR 0 rfl
          have ek : ((k : Int) + 1).toNat = k + 1 := by omega
          have g1 : rg cu (k : Int) = gs cu k := rfl
          have g2 : rg cu ((k : Int) + 1) = gs cu (k + 1) := by unfold rg gs; rw [ek]
          refine Cd.skip (tQ (Cd.seq (Cd.block ?_)))
          refine Cd.drawN [15, 17] [.ex (.slice (A) (n) (c)), .ex (.int .i64 ((k : Int))), .ex (.slice (A) (n) (c)), .ex (.int .i64 ((k : Int))), .ex (.int .i64 (((k : Int)) + ((1 : Int)))), .ex (.slice (A) (n) (c)), .ex (.int .i64 ((k : Int))), .ex (.int .i64 (((k : Int)) + ((1 : Int)))), .ex (.pointer (ptrAt (A) (((k : Int)) + ((1 : Int))).toNat)), .ex (.slice ((rg (cu) (((k : Int)) + ((1 : Int)))).a) ((rg (cu) (((k : Int)) + ((1 : Int)))).n) ((rg (cu) (((k : Int)) + ((1 : Int)))).c)), .ex (.slice (A) (n) (c)), .ex (.int .i64 ((k : Int))), .ex (.pointer (ptrAt (A) ((k : Int)).toNat)), .ex (.slice ((rg (cu) ((k : Int))).a) ((rg (cu) ((k : Int))).n) ((rg (cu) ((k : Int))).c)), .ex (.pointer (ptrAt (A) ((k : Int)).toNat)), .pr (fun _ w' => St w0 w' (CkR t A n c (cu.set k (gs cu (k + 1))) :: ks)), .ex (.pointer (ptrAt (A) (((k : Int)) + ((1 : Int))).toNat)), .pr (fun _ w' => St w0 w' (CkR t A n c (swp cu k (k + 1)) :: ks))] (by kernel_rfl) (by kernel_rfl) (lx (lx (lx (lx (lx (lx (lx (lx (lx (lx (lx (lx (lx (lx (lx (List.forall_mem_cons.2 ⟨Yd.lasts_pr (fun v w w' h hb => h.later hb), (lx (List.forall_mem_cons.2 ⟨Yd.lasts_pr (fun v w w' h hb => h.later hb), (fun _ h => by cases h)⟩))⟩)))))))))))))))) ⟨?_, ?_, ?_, ?_, ?_, ?_, ?_, ?_, ?_, ?_, ?_, ?_, ?_, ?_, ?_, ?_, ?_, ?_, trivial⟩ ?_
          · intro e1 w1 cc hlo hhi hb0 hp hun hq
            show Ops _ _ _ _ _ _ _
            refine Ops.ms rfl rfl rfl (Ops.n (n0 rfl (by exact rfl)))
          · intro e1 w1 cc hlo hhi hb0 hp hun hq
            show Ops _ _ _ _ _ _ _
            refine Ops.mi rfl rfl rfl (Ops.n (n0 rfl (by exact rfl)))
          · intro e1 w1 cc hlo hhi hb0 hp hun hq
            show Ops _ _ _ _ _ _ _
            refine Ops.ms rfl rfl rfl (Ops.n (n0 rfl (by exact rfl)))
          · intro e1 w1 cc hlo hhi hb0 hp hun hq
            show Ops _ _ _ _ _ _ _
            refine Ops.mi rfl rfl rfl (Ops.n (n0 rfl (by exact rfl)))
          · intro e1 w1 cc hlo hhi hb0 hp hun hq
            show Ops _ _ _ _ _ _ _
            refine Ops.add rfl rfl rfl (by omega) (Ops.n (n0 rfl (by exact rfl)))
          · intro e1 w1 cc hlo hhi hb0 hp hun hq
            show Ops _ _ _ _ _ _ _
            refine Ops.ms rfl rfl rfl (Ops.n (n0 rfl (by exact rfl)))
          · intro e1 w1 cc hlo hhi hb0 hp hun hq
            show Ops _ _ _ _ _ _ _
            refine Ops.mi rfl rfl rfl (Ops.n (n0 rfl (by exact rfl)))
          · intro e1 w1 cc hlo hhi hb0 hp hun hq
            show Ops _ _ _ _ _ _ _
            refine Ops.add rfl rfl rfl (by omega) (Ops.n (n0 rfl (by exact rfl)))
          · intro e1 w1 cc hlo hhi hb0 hp hun hq
            show Ops _ _ _ _ _ _ _
            obtain rfl := cc_of hlo hhi (b := 0) (by kernel_rfl) (by kernel_rfl)
            have hb := hb0 rfl
            refine Ops.idx (hR3.later hb).2 rfl rfl rfl (by omega) (by omega) (Ops.n (n0 rfl (by exact rfl)))
          · intro e1 w1 cc hlo hhi hb0 hp hun hq
            show Ops _ _ _ _ _ _ _
            obtain rfl := cc_of hlo hhi (b := 0) (by kernel_rfl) (by kernel_rfl)
            have hb := hb0 rfl
            refine Ops.ld_sl (hR3.later hb) rfl (by omega) rfl rfl (Ops.n (n0 rfl (by exact rfl)))
          · intro e1 w1 cc hlo hhi hb0 hp hun hq
            show Ops _ _ _ _ _ _ _
            refine Ops.ms rfl rfl rfl (Ops.n (n0 rfl (by exact rfl)))
          · intro e1 w1 cc hlo hhi hb0 hp hun hq
            show Ops _ _ _ _ _ _ _
            refine Ops.mi rfl rfl rfl (Ops.n (n0 rfl (by exact rfl)))
          · intro e1 w1 cc hlo hhi hb0 hp hun hq
            show Ops _ _ _ _ _ _ _
            obtain rfl := cc_of hlo hhi (b := 0) (by kernel_rfl) (by kernel_rfl)
            have hb := hb0 rfl
            refine Ops.idx (hR3.later hb).2 rfl rfl rfl (by omega) (by omega) (Ops.n (n0 rfl (by exact rfl)))
          · intro e1 w1 cc hlo hhi hb0 hp hun hq
            show Ops _ _ _ _ _ _ _
            obtain rfl := cc_of hlo hhi (b := 0) (by kernel_rfl) (by kernel_rfl)
            have hb := hb0 rfl
            refine Ops.ld_sl (hR3.later hb) rfl (by omega) rfl rfl (Ops.n (n0 rfl (by exact rfl)))
          · intro e1 w1 cc hlo hhi hb0 hp hun hq
            show Ops _ _ _ _ _ _ _
            obtain rfl := cc_of hlo hhi (b := 0) (by kernel_rfl) (by kernel_rfl)
            have hb := hb0 rfl
            refine Ops.idx (hR3.later hb).2 rfl rfl rfl (by omega) (by omega) (Ops.n (n0 rfl (by exact rfl)))
          · intro e1 w1 cc hlo hhi hb0 hp hun hq
            show Ops _ _ _ _ _ _ _
            obtain rfl := cc_of hlo hhi (b := 0) (by kernel_rfl) (by kernel_rfl)
            have hb := hb0 rfl
            refine Ops.st_sl 0 (hS2.later hb) rfl rfl rfl (by omega) ?_
            intro w6 hS6
            refine Ops.n ?_
            exact AfterT.st rfl (st_gs (i := (k : Int)) rfl g2 hS6)
          · intro e1 w1 cc hlo hhi hb0 hp hun hq
            show Ops _ _ _ _ _ _ _
            obtain rfl := cc_of hlo hhi (b := 1) (by kernel_rfl) (by kernel_rfl)
            have hph := hp 15 _ _ (by kernel_rfl) rfl rfl (by kernel_rfl)
            have hR6 := hph.rdR 0 rfl
            have hl6 : (cu.set k (gs cu (k + 1))).length = n := by rw [List.length_set]; exact hcl
            refine Ops.idx (hR6).2 rfl rfl rfl (by omega) (by omega) (Ops.n (n0 rfl (by exact rfl)))
          · intro e1 w1 cc hlo hhi hb0 hp hun hq
            show Ops _ _ _ _ _ _ _
            obtain rfl := cc_of hlo hhi (b := 1) (by kernel_rfl) (by kernel_rfl)
            have hph := hp 15 _ _ (by kernel_rfl) rfl rfl (by kernel_rfl)
            have hR6 := hph.rdR 0 rfl
            have hl6 : (cu.set k (gs cu (k + 1))).length = n := by rw [List.length_set]; exact hcl
            refine Ops.st_sl 0 hph rfl rfl rfl (by omega) ?_
            intro w7 hS7
            refine Ops.n ?_
            exact AfterT.st rfl (st_gs ek g1 hS7)
          intro u w5 _ hu
          have hS5 := hu 17 _ rfl (by kernel_rfl)
          refine blockQ_n (tQ (Cd.region (Ops.mi rfl rfl rfl (Ops.add rfl rfl rfl (by omega) (Ops.mi rfl rfl rfl (Ops.n (tQ ?_)))))))
          exact ⟨(k + 1, swp cu k (k + 1)), by show i - (k + 1) < i - k; omega, ⟨rfl, rfl, rfl, rfl, trivial⟩, ⟨by show a ≤ k + 1; omega, by show k + 1 ≤ i - 1; omega⟩, hp.trans (swp_RP (by omega) (by omega) hk1 (by omega) (by omega) (by omega)) (Nat.le_refl _) (Nat.le_refl _), hmv.next hk1 (by omega), hS5⟩
        · have hke : k = i - 1 := by omega
          subst hke
          refine Cd.exit (thenQ_x (thenQ_x (blockQ_x (tQ (Cd.ret (thenQ_r (ret0_r ?_)))))))
          exact ⟨rfl, cu, hp, hmv.sorted (hm ▸ hB) (by omega) hjb (fun x h4 h5 => Int.le_of_lt (hL x (by omega) h5)) hR, hS2⟩
    refine Cd.skip (tQ (Cd.seq (Cd.seq (Cd.region (Ops.mi rfl rfl rfl (Ops.mi rfl rfl rfl (Ops.sub rfl rfl rfl (by omega) (Ops.eql rfl rfl rfl (Ops.n ?_)))))))))
    refine tQ ?_
    refine Cd.cond_p _ rfl (fun h2 => ?_) (fun h2 => ?_)
    · have hb1 : b = m + 1 := by omega
      refine Cd.seq (Cd.region (Ops.mi rfl rfl rfl (Ops.mi rfl rfl rfl (Ops.n (tQ (Cd.seq (Cd.region (Ops.mi rfl rfl rfl (Ops.mi rfl rfl rfl ?_)))))))))
      refine Ops.n (tQ (Cd.seq (Cd.block ?_)))
      refine Cd.loop (α := Nat × Nat) (fun z => [(0, .slice A n c), (1, .int .i64 (a : Int)), (2, .int .i64 (m : Int)), (3, .int .i64 (b : Int)), (4, .func (.func 104) #[] #[]), (14, .int .i64 (z.1 : Int)), (15, .int .i64 (z.2 : Int))])
        (fun z w' => (a ≤ z.1 ∧ z.1 ≤ z.2 ∧ z.2 ≤ m) ∧ (∀ x, a ≤ x → x < z.1 → knS (gs ds x) ≤ knS (gs ds m)) ∧ (∀ x, z.2 ≤ x → x < m → knS (gs ds m) ≤ knS (gs ds x)) ∧ St w0 w' (CkR t A n c ds :: ks)) (fun z => z.2 - z.1) (a, m) ⟨rfl, rfl, rfl, rfl, rfl, rfl, rfl, trivial⟩ ⟨⟨Nat.le_refl _, by show a ≤ m; omega, Nat.le_refl _⟩, fun x h h' => by omega, fun x h h' => by omega, hS⟩ ?_
      rintro ⟨i, j⟩ e w1 ⟨⟨hi0, hij, hjb⟩, hL, hR, hS1⟩
      dsimp only at hi0 hij hjb hL hR hS1 ⊢
      refine Cd.seq (Cd.seq (Cd.region (Ops.mi rfl rfl rfl (Ops.mi rfl rfl rfl (Ops.lss rfl rfl rfl (Ops.n (tQ ?_)))))))
      refine Cd.cond_p _ rfl (fun h3 => ?_) (fun h3 => ?_)
      · refine Cd.skip (tQ (Cd.block (Cd.seq (Cd.region (Ops.mi rfl rfl rfl (Ops.mi rfl rfl rfl (Ops.add rfl rfl rfl (by omega) (Ops.convK rfl rfl (wrap_u64_in _ (by omega)) (Ops.shr1 rfl rfl rfl (by omega) ?_)))))))))
        refine Ops.convK rfl rfl (IntWalk.i64_in _ (by omega)) (Ops.mi rfl rfl rfl (Ops.n (tQ (Cd.seq ?_))))
        obtain ⟨h, hh⟩ : ∃ h : Nat, h = (i + j) / 2 := ⟨_, rfl⟩
        rw [show ((i : Int) + (j : Int)) / 2 = (h : Int) by omega]
        have hR1 := hS1.rdR 0 rfl
        have g1 : rg ds (h : Int) = gs ds h := rfl
        have g2 : rg ds (m : Int) = gs ds m := rfl
        refine Cd.draw [.ex (.func (.func 104) #[] #[]), .ex (.slice (A) (n) (c)), .ex (.int .i64 ((m : Int))), .ex (.pointer (ptrAt (A) ((m : Int)).toNat)), .ex (.slice ((rg (ds) ((m : Int))).a) ((rg (ds) ((m : Int))).n) ((rg (ds) ((m : Int))).c)), .ex (.slice (A) (n) (c)), .ex (.int .i64 ((h : Int))), .ex (.pointer (ptrAt (A) ((h : Int)).toNat)), .ex (.slice ((rg (ds) ((h : Int))).a) ((rg (ds) ((h : Int))).n) ((rg (ds) ((h : Int))).c)), .ex (.int .i64 (((gs ds h).n : Int) - (gs ds m).n)), .ex (.bool (decide ((((gs ds h).n : Int) - (gs ds m).n) < ((0 : Int))))), .ex (.bool (decide (¬ ((((gs ds h).n : Int) - (gs ds m).n) < ((0 : Int))))))] (by kernel_rfl) (by kernel_rfl) rfl (lx (lx (lx (lx (lx (lx (lx (lx (lx (lx (lx (lx (fun _ h => by cases h))))))))))))) ⟨?_, ?_, ?_, ?_, ?_, ?_, ?_, ?_, ?_, ?_, ?_, ?_, trivial⟩ ?_
        · intro e1 w1 hb hp hun
          refine Ops.mv_fn rfl rfl rfl (Ops.n (d0 (by exact rfl)))
        · intro e1 w1 hb hp hun
          refine Ops.ms rfl rfl rfl (Ops.n (d0 (by exact rfl)))
        · intro e1 w1 hb hp hun
          refine Ops.mi rfl rfl rfl (Ops.n (d0 (by exact rfl)))
        · intro e1 w1 hb hp hun
          refine Ops.idx (hR1.later hb).2 rfl rfl rfl (by omega) (by omega) (Ops.n (d0 (by exact rfl)))
        · intro e1 w1 hb hp hun
          refine Ops.ld_sl (hR1.later hb) rfl (by omega) rfl rfl (Ops.n (d0 (by exact rfl)))
        · intro e1 w1 hb hp hun
          refine Ops.ms rfl rfl rfl (Ops.n (d0 (by exact rfl)))
        · intro e1 w1 hb hp hun
          refine Ops.mi rfl rfl rfl (Ops.n (d0 (by exact rfl)))
        · intro e1 w1 hb hp hun
          refine Ops.idx (hR1.later hb).2 rfl rfl rfl (by omega) (by omega) (Ops.n (d0 (by exact rfl)))
        · intro e1 w1 hb hp hun
          refine Ops.ld_sl (hR1.later hb) rfl (by omega) rfl rfl (Ops.n (d0 (by exact rfl)))
        · intro e1 w1 hb hp hun
          refine Ops.call (cmpG_c (gs ds m).a (gs ds m).n (gs ds m).c (gs ds h).a (gs ds h).n (gs ds h).c _ (hcap m) (hcap h)) rfl rfl rfl ?_
          rintro _ w9 ⟨rfl, rfl⟩
          refine Ops.n (d0 (by exact rfl))
        · intro e1 w1 hb hp hun
          refine Ops.lss rfl rfl rfl (Ops.n (d0 (by exact rfl)))
        · intro e1 w1 hb hp hun
          refine Ops.not_p rfl rfl (Ops.n (d0 (by exact rfl)))
        intro u w2 hb2 _
        have hS2 := hS1.later hb2
        refine tQ ?_
        refine Cd.cond_p _ rfl (fun h4 => ?_) (fun h4 => ?_)
        · refine Cd.region (Ops.mi rfl rfl rfl (Ops.add rfl rfl rfl (by omega) (Ops.mi rfl rfl rfl (Ops.n (blockQ_n (tQ ?_))))))
          refine ⟨(h + 1, j), by show j - (h + 1) < j - i; omega, ⟨rfl, rfl, rfl, rfl, rfl, rfl, rfl, trivial⟩, ⟨by show a ≤ h + 1; omega, by show h + 1 ≤ j; omega, hjb⟩, fun x hx1 hx2 => ?_, hR, hS2⟩
          have hx2 : x < h + 1 := hx2
          have k1 : knS (gs ds x) ≤ knS (gs ds h) := hA.le hx1 (by omega) (by omega)
          have k2 : knS (gs ds h) ≤ knS (gs ds m) := by unfold knS; omega
          omega
        · refine Cd.region (Ops.mi rfl rfl rfl (Ops.mi rfl rfl rfl (Ops.n (blockQ_n (tQ ?_)))))
          refine ⟨(i, h), by show h - i < j - i; omega, ⟨rfl, rfl, rfl, rfl, rfl, rfl, rfl, trivial⟩, ⟨hi0, by show i ≤ h; omega, by show h ≤ m; omega⟩, hL, fun x hx1 hx2 => ?_, hS2⟩
          have hx1 : h ≤ x := hx1
          have k1 : knS (gs ds h) ≤ knS (gs ds x) := hA.le (by omega) hx1 hx2
          have k2 : knS (gs ds m) ≤ knS (gs ds h) := by unfold knS; omega
          omega
      · have hije : i = j := by omega
        subst hije
        refine Cd.exit (thenQ_x (thenQ_x (blockQ_x (tQ (Cd.seq (Cd.seq (Cd.region (Ops.mi rfl rfl rfl (Ops.mi rfl rfl rfl ?_)))))))))
        refine Ops.n (tQ (Cd.block ?_))
        refine Cd.loop (α := Nat × List SlV) (fun z => [(0, .slice A n c), (4, .func (.func 104) #[] #[]), (14, .int .i64 (i : Int)), (17, .int .i64 (z.1 : Int))]) (fun z w' => (i ≤ z.1 ∧ z.1 ≤ m) ∧ RP ds z.2 a b ∧ MovD ds z.2 m z.1 ∧ St w0 w' (CkR t A n c z.2 :: ks)) (fun z => z.1) (m, ds) ⟨rfl, rfl, rfl, rfl, trivial⟩ ⟨⟨hjb, Nat.le_refl _⟩, RP.refl _ _ _, MovD.start _ _, hS1⟩ ?_
        rintro ⟨k, cu⟩ e w2 ⟨⟨hk1, hk2⟩, hp, hmv, hS2⟩
        dsimp only at hk1 hk2 hp hmv hS2 ⊢
        have hcl : cu.length = n := (hS2.rdR 0 rfl).1
        refine Cd.seq (Cd.seq (Cd.region (Ops.mi rfl rfl rfl (Ops.mi rfl rfl rfl (Ops.gtr rfl rfl rfl (Ops.n (tQ ?_)))))))
        refine Cd.cond_p _ rfl (fun h4 => ?_) (fun h4 => ?_)
        · have hR3 := hS2.rdR 0 rfl
          have ek : ((k : Int) - 1).toNat = k - 1 := by omega
          have g1 : rg cu (k : Int) = gs cu k := rfl
          have g2 : rg cu ((k : Int) - 1) = gs cu (k - 1) := by unfold rg gs; rw [ek]
          refine Cd.skip (tQ (Cd.seq (Cd.block ?_)))
          refine Cd.drawN [15, 17] [.ex (.slice (A) (n) (c)), .ex (.int .i64 ((k : Int))), .ex (.slice (A) (n) (c)), .ex (.int .i64 ((k : Int))), .ex (.int .i64 (((k : Int)) - ((1 : Int)))), .ex (.slice (A) (n) (c)), .ex (.int .i64 ((k : Int))), .ex (.int .i64 (((k : Int)) - ((1 : Int)))), .ex (.pointer (ptrAt (A) (((k : Int)) - ((1 : Int))).toNat)), .ex (.slice ((rg (cu) (((k : Int)) - ((1 : Int)))).a) ((rg (cu) (((k : Int)) - ((1 : Int)))).n) ((rg (cu) (((k : Int)) - ((1 : Int)))).c)), .ex (.slice (A) (n) (c)), .ex (.int .i64 ((k : Int))), .ex (.pointer (ptrAt (A) ((k : Int)).toNat)), .ex (.slice ((rg (cu) ((k : Int))).a) ((rg (cu) ((k : Int))).n) ((rg (cu) ((k : Int))).c)), .ex (.pointer (ptrAt (A) ((k : Int)).toNat)), .pr (fun _ w' => St w0 w' (CkR t A n c (cu.set k (gs cu (k - 1))) :: ks)), .ex (.pointer (ptrAt (A) (((k : Int)) - ((1 : Int))).toNat)), .pr (fun _ w' => St w0 w' (CkR t A n c (swp cu k (k - 1)) :: ks))] (by kernel_rfl) (by kernel_rfl) (lx (lx (lx (lx (lx (lx (lx (lx (lx (lx (lx (lx (lx (lx (lx (List.forall_mem_cons.2 ⟨Yd.lasts_pr (fun v w w' h hb => h.later hb), (lx (List.forall_mem_cons.2 ⟨Yd.lasts_pr (fun v w w' h hb => h.later hb), (fun _ h => by cases h)⟩))⟩)))))))))))))))) ⟨?_, ?_, ?_, ?_, ?_, ?_, ?_, ?_, ?_, ?_, ?_, ?_, ?_, ?_, ?_, ?_, ?_, ?_, trivial⟩ ?_
          · intro e1 w1 cc hlo hhi hb0 hp hun hq
            show Ops _ _ _ _ _ _ _
            refine Ops.ms rfl rfl rfl (Ops.n (n0 rfl (by exact rfl)))
          · intro e1 w1 cc hlo hhi hb0 hp hun hq
            show Ops _ _ _ _ _ _ _
            refine Ops.mi rfl rfl rfl (Ops.n (n0 rfl (by exact rfl)))
          · intro e1 w1 cc hlo hhi hb0 hp hun hq
            show Ops _ _ _ _ _ _ _
            refine Ops.ms rfl rfl rfl (Ops.n (n0 rfl (by exact rfl)))
          · intro e1 w1 cc hlo hhi hb0 hp hun hq
            show Ops _ _ _ _ _ _ _
            refine Ops.mi rfl rfl rfl (Ops.n (n0 rfl (by exact rfl)))
          · intro e1 w1 cc hlo hhi hb0 hp hun hq
            show Ops _ _ _ _ _ _ _
            refine Ops.sub rfl rfl rfl (by omega) (Ops.n (n0 rfl (by exact rfl)))
          · intro e1 w1 cc hlo hhi hb0 hp hun hq
            show Ops _ _ _ _ _ _ _
            refine Ops.ms rfl rfl rfl (Ops.n (n0 rfl (by exact rfl)))
          · intro e1 w1 cc hlo hhi hb0 hp hun hq
            show Ops _ _ _ _ _ _ _
            refine Ops.mi rfl rfl rfl (Ops.n (n0 rfl (by exact rfl)))
          · intro e1 w1 cc hlo hhi hb0 hp hun hq
            show Ops _ _ _ _ _ _ _
            refine Ops.sub rfl rfl rfl (by omega) (Ops.n (n0 rfl (by exact rfl)))
          · intro e1 w1 cc hlo hhi hb0 hp hun hq
            show Ops _ _ _ _ _ _ _
            obtain rfl := cc_of hlo hhi (b := 0) (by kernel_rfl) (by kernel_rfl)
            have hb := hb0 rfl
            refine Ops.idx (hR3.later hb).2 rfl rfl rfl (by omega) (by omega) (Ops.n (n0 rfl (by exact rfl)))
          · intro e1 w1 cc hlo hhi hb0 hp hun hq
            show Ops _ _ _ _ _ _ _
            obtain rfl := cc_of hlo hhi (b := 0) (by kernel_rfl) (by kernel_rfl)
            have hb := hb0 rfl
            refine Ops.ld_sl (hR3.later hb) rfl (by omega) rfl rfl (Ops.n (n0 rfl (by exact rfl)))
          · intro e1 w1 cc hlo hhi hb0 hp hun hq
            show Ops _ _ _ _ _ _ _
            refine Ops.ms rfl rfl rfl (Ops.n (n0 rfl (by exact rfl)))
          · intro e1 w1 cc hlo hhi hb0 hp hun hq
            show Ops _ _ _ _ _ _ _
            refine Ops.mi rfl rfl rfl (Ops.n (n0 rfl (by exact rfl)))
          · intro e1 w1 cc hlo hhi hb0 hp hun hq
            show Ops _ _ _ _ _ _ _
            obtain rfl := cc_of hlo hhi (b := 0) (by kernel_rfl) (by kernel_rfl)
            have hb := hb0 rfl
            refine Ops.idx (hR3.later hb).2 rfl rfl rfl (by omega) (by omega) (Ops.n (n0 rfl (by exact rfl)))
          · intro e1 w1 cc hlo hhi hb0 hp hun hq
            show Ops _ _ _ _ _ _ _
            obtain rfl := cc_of hlo hhi (b := 0) (by kernel_rfl) (by kernel_rfl)
            have hb := hb0 rfl
            refine Ops.ld_sl (hR3.later hb) rfl (by omega) rfl rfl (Ops.n (n0 rfl (by exact rfl)))
          · intro e1 w1 cc hlo hhi hb0 hp hun hq
            show Ops _ _ _ _ _ _ _
            obtain rfl := cc_of hlo hhi (b := 0) (by kernel_rfl) (by kernel_rfl)
            have hb := hb0 rfl
            refine Ops.idx (hR3.later hb).2 rfl rfl rfl (by omega) (by omega) (Ops.n (n0 rfl (by exact rfl)))
          · intro e1 w1 cc hlo hhi hb0 hp hun hq
            show Ops _ _ _ _ _ _ _
            obtain rfl := cc_of hlo hhi (b := 0) (by kernel_rfl) (by kernel_rfl)
            have hb := hb0 rfl
            refine Ops.st_sl 0 (hS2.later hb) rfl rfl rfl (by omega) ?_
            intro w6 hS6
            refine Ops.n ?_
            exact AfterT.st rfl (st_gs (i := (k : Int)) rfl g2 hS6)
          · intro e1 w1 cc hlo hhi hb0 hp hun hq
            show Ops _ _ _ _ _ _ _
            obtain rfl := cc_of hlo hhi (b := 1) (by kernel_rfl) (by kernel_rfl)
            have hph := hp 15 _ _ (by kernel_rfl) rfl rfl (by kernel_rfl)
            have hR6 := hph.rdR 0 rfl
            have hl6 : (cu.set k (gs cu (k - 1))).length = n := by rw [List.length_set]; exact hcl
            refine Ops.idx (hR6).2 rfl rfl rfl (by omega) (by omega) (Ops.n (n0 rfl (by exact rfl)))
          · intro e1 w1 cc hlo hhi hb0 hp hun hq
            show Ops _ _ _ _ _ _ _
            obtain rfl := cc_of hlo hhi (b := 1) (by kernel_rfl) (by kernel_rfl)
            have hph := hp 15 _ _ (by kernel_rfl) rfl rfl (by kernel_rfl)
            have hR6 := hph.rdR 0 rfl
            have hl6 : (cu.set k (gs cu (k - 1))).length = n := by rw [List.length_set]; exact hcl
            refine Ops.st_sl 0 hph rfl rfl rfl (by omega) ?_
            intro w7 hS7
            refine Ops.n ?_
            exact AfterT.st rfl (st_gs ek g1 hS7)
          intro u w5 _ hu
          have hS5 := hu 17 _ rfl (by kernel_rfl)
          refine blockQ_n (tQ (Cd.region (Ops.mi rfl rfl rfl (Ops.sub rfl rfl rfl (by omega) (Ops.mi rfl rfl rfl (Ops.n (tQ ?_)))))))
          exact ⟨(k - 1, swp cu k (k - 1)), by show k - 1 < k; omega, ⟨rfl, rfl, rfl, by show Value.int .i64 _ = .int .i64 _; congr 1; omega, trivial⟩, ⟨by show i ≤ k - 1; omega, by show k - 1 ≤ m; omega⟩, hp.trans (swp_RP (by omega) (by omega) (by omega) (by omega) (by omega) (by omega)) (Nat.le_refl _) (Nat.le_refl _), hmv.next (by omega) hk2 (by omega), hS5⟩
        · have hke : k = i := by omega
          subst hke
          refine Cd.exit (thenQ_x (thenQ_x (blockQ_x (tQ (Cd.ret (thenQ_r (ret0_r ?_)))))))
          exact ⟨rfl, cu, hp, hb1 ▸ hmv.sorted hA hi0 hjb hL hR, hS2⟩
    have h1 : a + 1 < m := by omega
    have h2 : m + 1 < b := by omega
    refine Cd.skip (tQ (Cd.seq (Cd.region (Ops.mi rfl rfl rfl (Ops.mi rfl rfl rfl (Ops.add rfl rfl rfl (by omega) (Ops.convK rfl rfl (wrap_u64_in _ (by omega)) (Ops.shr1 rfl rfl rfl (by omega) (Ops.convK rfl rfl (IntWalk.i64_in _ (by omega)) ?_)))))))))
    obtain ⟨mid, hmid⟩ : ∃ h : Nat, h = (a + b) / 2 := ⟨_, rfl⟩
    rw [show ((a : Int) + (b : Int)) / 2 = (mid : Int) by omega]
    have hm2 : 2 * mid ≤ a + b ∧ a + b ≤ 2 * mid + 1 := by omega
    have hlh := lo_hi ham hmb
    have hh0 : hi0 a m b ≤ m := by unfold hi0; split <;> omega
    have hrng := fun c => cut_rng ham hmb (c := c)
    rw [← hmid] at hrng
    refine Ops.mi rfl rfl rfl (Ops.n (tQ (Cd.seq (Cd.region (Ops.mi rfl rfl rfl (Ops.mi rfl rfl rfl (Ops.add rfl rfl rfl (by omega) (Ops.mi rfl rfl rfl (Ops.n ?_)))))))))
    refine tQ (Cd.seq (Cd.region (Ops.mi rfl rfl rfl (Ops.mi rfl rfl rfl (Ops.n (tQ ?_))))))
    refine Cd.join (α := Unit) (fun _ => [(0, .slice A n c), (1, .int .i64 (a : Int)), (2, .int .i64 (m : Int)), (3, .int .i64 (b : Int)), (4, .func (.func 104) #[] #[]), (18, .int .i64 (mid : Int)), (19, .int .i64 ((mid : Int) + (m : Int))), (20, .int .i64 ((lo0 a m b : Nat) : Int)), (21, .int .i64 ((hi0 a m b : Nat) : Int))]) (fun _ w' => w' = w) ?_ ?_
    · refine Cd.seq (Cd.region (Ops.mi rfl rfl rfl (Ops.mi rfl rfl rfl (Ops.gtr rfl rfl rfl (Ops.n (tQ ?_))))))
      refine Cd.cond_p _ rfl (fun h3 => ?_) (fun h3 => ?_)
      · have e1 : lo0 a m b = mid + m - b := by unfold lo0; rw [if_pos (by omega), ← hmid]
        have e2 : hi0 a m b = mid := by unfold hi0; rw [if_pos (by omega), ← hmid]
        rw [e1, e2]
        refine Cd.seq (Cd.region (Ops.mi rfl rfl rfl (Ops.mi rfl rfl rfl (Ops.sub rfl rfl rfl (by omega) (Ops.mi rfl rfl rfl (Ops.n (tQ (Cd.region (Ops.mi rfl rfl rfl ?_)))))))))
        refine Ops.mi rfl rfl rfl (Ops.n (tQ ?_))
        exact ⟨(), ⟨rfl, rfl, rfl, rfl, rfl, rfl, rfl, by show Value.int .i64 ((mid : Int) + (m : Int) - (b : Int)) = .int .i64 ((mid + m - b : Nat) : Int); congr 1; omega, rfl, trivial⟩, rfl⟩
      · have e1 : lo0 a m b = a := by unfold lo0; rw [if_neg (by omega)]
        have e2 : hi0 a m b = m := by unfold hi0; rw [if_neg (by omega)]
        rw [e1, e2]
        refine Cd.seq (Cd.region (Ops.mi rfl rfl rfl (Ops.mi rfl rfl rfl (Ops.n (tQ (Cd.region (Ops.mi rfl rfl rfl (Ops.mi rfl rfl rfl (Ops.n ?_)))))))))
        refine tQ ?_
        exact ⟨(), ⟨rfl, rfl, rfl, rfl, rfl, rfl, rfl, rfl, rfl, trivial⟩, rfl⟩
    rintro _ e w1 rfl
    refine Cd.seq (Cd.region (Ops.mi rfl rfl rfl (Ops.sub rfl rfl rfl (by omega) (Ops.mi rfl rfl rfl (Ops.n (tQ (Cd.seq (Cd.block ?_))))))))
    refine Cd.loop (α := Nat × Nat) (fun z => [(0, .slice A n c), (1, .int .i64 (a : Int)), (2, .int .i64 (m : Int)), (3, .int .i64 (b : Int)), (4, .func (.func 104) #[] #[]), (18, .int .i64 (mid : Int)), (19, .int .i64 ((mid : Int) + (m : Int))), (20, .int .i64 (z.1 : Int)), (21, .int .i64 (z.2 : Int)), (22, .int .i64 ((mid : Int) + (m : Int) - 1))])
      (fun z w' => (lo0 a m b ≤ z.1 ∧ z.1 ≤ z.2 ∧ z.2 ≤ hi0 a m b) ∧ (∀ x, lo0 a m b ≤ x → x < z.1 → knS (gs ds x) ≤ knS (gs ds (mid + m - 1 - x))) ∧ (∀ x, z.2 ≤ x → x < hi0 a m b → knS (gs ds (mid + m - 1 - x)) < knS (gs ds x)) ∧ St w0 w' (CkR t A n c ds :: ks)) (fun z => z.2 - z.1) (lo0 a m b, hi0 a m b) ⟨rfl, rfl, rfl, rfl, rfl, rfl, rfl, rfl, rfl, rfl, trivial⟩ ⟨⟨Nat.le_refl _, hlh, Nat.le_refl _⟩, fun x h h' => by omega, fun x h h' => by omega, hS⟩ ?_
    rintro ⟨i, j⟩ e w2 ⟨⟨hi0', hij, hjb⟩, hL, hR, hS1⟩
    dsimp only at hi0' hij hjb hL hR hS1 ⊢
    refine Cd.seq (Cd.seq (Cd.region (Ops.mi rfl rfl rfl (Ops.mi rfl rfl rfl (Ops.lss rfl rfl rfl (Ops.n (tQ ?_)))))))
    refine Cd.cond_p _ rfl (fun h3 => ?_) (fun h3 => ?_)
    · refine Cd.skip (tQ (Cd.block (Cd.seq (Cd.region (Ops.mi rfl rfl rfl (Ops.mi rfl rfl rfl (Ops.add rfl rfl rfl (by omega) (Ops.convK rfl rfl (wrap_u64_in _ (by omega)) (Ops.shr1 rfl rfl rfl (by omega) ?_)))))))))
      refine Ops.convK rfl rfl (IntWalk.i64_in _ (by omega)) (Ops.mi rfl rfl rfl (Ops.n (tQ (Cd.seq ?_))))
      obtain ⟨h, hh⟩ : ∃ h : Nat, h = (i + j) / 2 := ⟨_, rfl⟩
      rw [show ((i : Int) + (j : Int)) / 2 = (h : Int) by omega]
      have hr1 := hrng h (by omega) (by omega)
      have hR1 := hS1.rdR 0 rfl
      have ep : ((mid : Int) + (m : Int) - 1 - (h : Int)).toNat = mid + m - 1 - h := by omega
      have g1 : rg ds (h : Int) = gs ds h := rfl
      have g2 : rg ds ((mid : Int) + (m : Int) - 1 - (h : Int)) = gs ds (mid + m - 1 - h) := by unfold rg gs; rw [ep]
      refine Cd.draw [.ex (.func (.func 104) #[] #[]), .ex (.slice (A) (n) (c)), .ex (.int .i64 (((mid : Int) + (m : Int) - 1))), .ex (.int .i64 ((h : Int))), .ex (.int .i64 ((((mid : Int) + (m : Int) - 1)) - ((h : Int)))), .ex (.pointer (ptrAt (A) ((((mid : Int) + (m : Int) - 1)) - ((h : Int))).toNat)), .ex (.slice ((rg (ds) ((((mid : Int) + (m : Int) - 1)) - ((h : Int)))).a) ((rg (ds) ((((mid : Int) + (m : Int) - 1)) - ((h : Int)))).n) ((rg (ds) ((((mid : Int) + (m : Int) - 1)) - ((h : Int)))).c)), .ex (.slice (A) (n) (c)), .ex (.int .i64 ((h : Int))), .ex (.pointer (ptrAt (A) ((h : Int)).toNat)), .ex (.slice ((rg (ds) ((h : Int))).a) ((rg (ds) ((h : Int))).n) ((rg (ds) ((h : Int))).c)), .ex (.int .i64 (((gs ds h).n : Int) - (gs ds (mid + m - 1 - h)).n)), .ex (.bool (decide ((((gs ds h).n : Int) - (gs ds (mid + m - 1 - h)).n) < ((0 : Int))))), .ex (.bool (decide (¬ ((((gs ds h).n : Int) - (gs ds (mid + m - 1 - h)).n) < ((0 : Int))))))] (by kernel_rfl) (by kernel_rfl) rfl (lx (lx (lx (lx (lx (lx (lx (lx (lx (lx (lx (lx (lx (lx (fun _ h => by cases h))))))))))))))) ⟨?_, ?_, ?_, ?_, ?_, ?_, ?_, ?_, ?_, ?_, ?_, ?_, ?_, ?_, trivial⟩ ?_
      · intro e1 w1 hb hp hun
        refine Ops.mv_fn rfl rfl rfl (Ops.n (d0 (by exact rfl)))
      · intro e1 w1 hb hp hun
        refine Ops.ms rfl rfl rfl (Ops.n (d0 (by exact rfl)))
      · intro e1 w1 hb hp hun
        refine Ops.mi rfl rfl rfl (Ops.n (d0 (by exact rfl)))
      · intro e1 w1 hb hp hun
        refine Ops.mi rfl rfl rfl (Ops.n (d0 (by exact rfl)))
      · intro e1 w1 hb hp hun
        refine Ops.sub rfl rfl rfl (by omega) (Ops.n (d0 (by exact rfl)))
      · intro e1 w1 hb hp hun
        refine Ops.idx (hR1.later hb).2 rfl rfl rfl (by omega) (by omega) (Ops.n (d0 (by exact rfl)))
      · intro e1 w1 hb hp hun
        refine Ops.ld_sl (hR1.later hb) rfl (by omega) rfl rfl (Ops.n (d0 (by exact rfl)))
      · intro e1 w1 hb hp hun
        refine Ops.ms rfl rfl rfl (Ops.n (d0 (by exact rfl)))
      · intro e1 w1 hb hp hun
        refine Ops.mi rfl rfl rfl (Ops.n (d0 (by exact rfl)))
      · intro e1 w1 hb hp hun
        refine Ops.idx (hR1.later hb).2 rfl rfl rfl (by omega) (by omega) (Ops.n (d0 (by exact rfl)))
      · intro e1 w1 hb hp hun
        refine Ops.ld_sl (hR1.later hb) rfl (by omega) rfl rfl (Ops.n (d0 (by exact rfl)))
      · intro e1 w1 hb hp hun
        refine Ops.call (cmpG_c (gs ds (mid + m - 1 - h)).a (gs ds (mid + m - 1 - h)).n (gs ds (mid + m - 1 - h)).c (gs ds h).a (gs ds h).n (gs ds h).c _ (hcap _) (hcap h)) rfl (by rw [← g2]; rfl) rfl ?_
        rintro _ w9 ⟨rfl, rfl⟩
        refine Ops.n (d0 (by exact rfl))
      · intro e1 w1 hb hp hun
        refine Ops.lss rfl rfl rfl (Ops.n (d0 (by exact rfl)))
      · intro e1 w1 hb hp hun
        refine Ops.not_p rfl rfl (Ops.n (d0 (by exact rfl)))
      intro u w3 hb3 _
      have hS2 := hS1.later hb3
      refine tQ ?_
      refine Cd.cond_p _ rfl (fun h4 => ?_) (fun h4 => ?_)
      · refine Cd.region (Ops.mi rfl rfl rfl (Ops.add rfl rfl rfl (by omega) (Ops.mi rfl rfl rfl (Ops.n (blockQ_n (tQ ?_))))))
        refine ⟨(h + 1, j), by show j - (h + 1) < j - i; omega, ⟨rfl, rfl, rfl, rfl, rfl, rfl, rfl, rfl, rfl, rfl, trivial⟩, ⟨by show lo0 a m b ≤ h + 1; omega, by show h + 1 ≤ j; omega, hjb⟩, fun x hx1 hx2 => ?_, hR, hS2⟩
        have hx2 : x < h + 1 := hx2
        have hr2 := hrng x hx1 (by omega)
        have k1 : knS (gs ds x) ≤ knS (gs ds h) := hA.le (by omega) (by omega) (by omega)
        have k2 : knS (gs ds h) ≤ knS (gs ds (mid + m - 1 - h)) := by unfold knS; omega
        have k3 : knS (gs ds (mid + m - 1 - h)) ≤ knS (gs ds (mid + m - 1 - x)) := hB.le (by omega) (by omega) (by omega)
        omega
      · refine Cd.region (Ops.mi rfl rfl rfl (Ops.mi rfl rfl rfl (Ops.n (blockQ_n (tQ ?_)))))
        refine ⟨(i, h), by show h - i < j - i; omega, ⟨rfl, rfl, rfl, rfl, rfl, rfl, rfl, rfl, rfl, rfl, trivial⟩, ⟨hi0', by show i ≤ h; omega, by show h ≤ hi0 a m b; omega⟩, hL, fun x hx1 hx2 => ?_, hS2⟩
        have hx1 : h ≤ x := hx1
        have hr2 := hrng x (by omega) hx2
        have k1 : knS (gs ds h) ≤ knS (gs ds x) := hA.le (by omega) (by omega) (by omega)
        have k2 : knS (gs ds (mid + m - 1 - h)) < knS (gs ds h) := by unfold knS; omega
        have k3 : knS (gs ds (mid + m - 1 - x)) ≤ knS (gs ds (mid + m - 1 - h)) := hB.le (by omega) (by omega) (by omega)
        omega
    have hije : i = j := by omega
    subst hije
    have hcut : CutI knS ds a m b i := ⟨hi0', hjb, by rw [← hmid]; exact hL, by rw [← hmid]; exact hR⟩
    -- the rotation
    have hrot := fun l1 => cut_all (l1 := l1) h1 h2 hA hB hcut
    rw [← hmid] at hrot
    have b1 : a ≤ i := by have := hi0'; unfold lo0 at this; split at this <;> omega
    have b2 : i ≤ mid := by have := hjb; unfold hi0 at this; split at this <;> omega
    have b3 : i ≤ m := by have := hjb; unfold hi0 at this; split at this <;> omega
    have b4 : mid + m - i ≤ b := by have := hi0'; unfold lo0 at this; split at this <;> omega
    refine Cd.exit (thenQ_x (thenQ_x (blockQ_x (tQ (Cd.seq (Cd.region (Ops.mi rfl rfl rfl (Ops.mi rfl rfl rfl (Ops.sub rfl rfl rfl (by omega) ?_)))))))))
    refine Ops.mi rfl rfl rfl (Ops.n (tQ ?_))
    refine Cd.join (α := List SlV) (fun _ => [(0, .slice A n c), (1, .int .i64 (a : Int)), (3, .int .i64 (b : Int)), (4, .func (.func 104) #[] #[]), (18, .int .i64 (mid : Int)), (20, .int .i64 (i : Int)), (24, .int .i64 ((mid + m - i : Nat) : Int))]) (fun l1 w' => RotI ds l1 i m (mid + m - i) ∧ RP ds l1 a b ∧ St w0 w' (CkR t A n c l1 :: ks)) ?_ ?_
    · have e24 : ((mid : Int) + (m : Int) - (i : Int)) = ((mid + m - i : Nat) : Int) := by omega
      rw [e24]
      refine Cd.seq (Cd.region (Ops.mi rfl rfl rfl (Ops.mi rfl rfl rfl (Ops.lss rfl rfl rfl (Ops.mb rfl rfl rfl ?_)))))
      refine Ops.split_p 181 rfl (fun h4 => ?_) (fun h4 => ?_)
      · refine Ops.g rfl rfl rfl (Ops.mi rfl rfl rfl (Ops.g rfl rfl rfl (Ops.mi rfl rfl rfl (Ops.g rfl rfl rfl (Ops.lss rfl rfl rfl (Ops.pick_t rfl rfl rfl (Ops.n (tQ ?_))))))))
        refine Cd.cond_p _ rfl (fun h5 => ?_) (fun h5 => ?_)
        · obtain ⟨P, X, Y, S, hds, lP, lX, lY⟩ : ∃ P X Y S : List SlV, ds = P ++ (X ++ (Y ++ S)) ∧ P.length = i ∧ X.length = m - i ∧ Y.length = mid - i := by
            refine ⟨ds.take i, (ds.drop i).take (m - i), (ds.drop m).take (mid - i), (ds.drop m).drop (mid - i), ?_, by simp; omega, by simp; omega, by simp; omega⟩
            rw [List.take_append_drop, show ds.drop m = (ds.drop i).drop (m - i) by rw [List.drop_drop]; congr 1; omega, List.take_append_drop, List.take_append_drop]
          have hrotI : RotI ds (P ++ (Y ++ (X ++ S))) i m (mid + m - i) := by
            have := RotI.of P X Y S
            rw [← hds, lP, lX, lY] at this
            rwa [show i + (m - i) = m by omega, show m + (mid - i) = mid + m - i by omega] at this
          rw [hds] at hS1
          refine Cd.region (Ops.ms rfl rfl rfl (Ops.mi rfl rfl rfl (Ops.mi rfl rfl rfl (Ops.mi rfl rfl rfl (Ops.mv_fn rfl rfl rfl (Ops.call (rotate_c (P := P) (X := X) (Y := Y) (S := S) i m (mid + m - i) lP (by omega) (by omega) (by omega) (by omega) hn hS1) rfl rfl rfl ?_))))))
          rintro _ w4 ⟨rfl, hS4⟩
          refine Ops.n (tQ ?_)
          exact ⟨P ++ (Y ++ (X ++ S)), ⟨rfl, rfl, rfl, rfl, rfl, rfl, rfl, trivial⟩, hrotI, ⟨by rw [hds]; exact rot_perm P X Y S, fun x hx => hrotI.out x (by omega)⟩, hS4⟩
        · refine Cd.skip (tQ ?_)
          exact ⟨ds, ⟨rfl, rfl, rfl, rfl, rfl, rfl, rfl, trivial⟩, RotI.same ds (by omega) (by omega) (by omega), RP.refl _ _ _, hS1⟩
      · refine Ops.k rfl rfl rfl rfl rfl (Ops.k rfl rfl rfl rfl rfl (Ops.k rfl rfl rfl rfl rfl (Ops.pick_f rfl rfl rfl (Ops.n (tQ (Cd.cond_f rfl (Cd.skip (tQ ?_))))))))
        exact ⟨ds, ⟨rfl, rfl, rfl, rfl, rfl, rfl, rfl, trivial⟩, RotI.same ds (by omega) (by omega) (by omega), RP.refl _ _ _, hS1⟩
    rintro l1 e w4 ⟨hr, hp1, hS4⟩
    obtain ⟨_, s1, s2, s3, s4, hx⟩ := hrot l1 hr
    have hl1 := hp1.len
    skip
    refine Cd.join (α := List SlV) (fun _ => [(0, .slice A n c), (3, .int .i64 (b : Int)), (4, .func (.func 104) #[] #[]), (18, .int .i64 (mid : Int)), (24, .int .i64 ((mid + m - i : Nat) : Int))]) (fun l2 w' => RP l1 l2 a mid ∧ SR knS l2 a mid ∧ St w0 w' (CkR t A n c l2 :: ks)) ?_ ?_
    · refine Cd.seq (Cd.region (Ops.mi rfl rfl rfl (Ops.mi rfl rfl rfl (Ops.lss rfl rfl rfl (Ops.mb rfl rfl rfl ?_)))))
      refine Ops.split_p 195 rfl (fun h4 => ?_) (fun h4 => ?_)
      · refine Ops.g rfl rfl rfl (Ops.mi rfl rfl rfl (Ops.g rfl rfl rfl (Ops.mi rfl rfl rfl (Ops.g rfl rfl rfl (Ops.lss rfl rfl rfl (Ops.pick_t rfl rfl rfl (Ops.n (tQ ?_))))))))
        refine Cd.cond_p _ rfl (fun h5 => ?_) (fun h5 => ?_)
        · refine Cd.region (Ops.ms rfl rfl rfl (Ops.mi rfl rfl rfl (Ops.mi rfl rfl rfl (Ops.mi rfl rfl rfl (Ops.mv_fn rfl rfl rfl (Ops.call (ih a i mid (by omega) (by omega) (by omega) (by omega) l1 _ (hp1.cap hc) s1 s2 hS4) rfl rfl rfl ?_))))))
          rintro _ w5 ⟨rfl, l2, hp2, hs2, hS5⟩
          refine Ops.n (tQ ?_)
          exact ⟨l2, ⟨rfl, rfl, rfl, rfl, rfl, trivial⟩, hp2, hs2, hS5⟩
        · have hie : i = mid := by omega
          refine Cd.skip (tQ ?_)
          exact ⟨l1, ⟨rfl, rfl, rfl, rfl, rfl, trivial⟩, RP.refl _ _ _, hie ▸ s1, hS4⟩
      · have hie : a = i := by omega
        refine Ops.k rfl rfl rfl rfl rfl (Ops.k rfl rfl rfl rfl rfl (Ops.k rfl rfl rfl rfl rfl (Ops.pick_f rfl rfl rfl (Ops.n (tQ (Cd.cond_f rfl (Cd.skip (tQ ?_))))))))
        exact ⟨l1, ⟨rfl, rfl, rfl, rfl, rfl, trivial⟩, RP.refl _ _ _, hie ▸ s2, hS4⟩
    rintro l2 e w5 ⟨hp2, hs2, hS5⟩
    have hl2 := hp2.len
    have t3 : SR knS l2 mid (mid + m - i) := s3.congr fun x h h' => hp2.out x (.inr h)
    have t4 : SR knS l2 (mid + m - i) b := s4.congr fun x h h' => hp2.out x (.inr (by omega))
    have hfin : ∀ l3, RP l2 l3 mid b → SR knS l3 mid b → RP ds l3 a b ∧ SR knS l3 a b := fun l3 hp3 hs3 =>
      ⟨(hp1.trans hp2 (Nat.le_refl _) (by omega)).trans hp3 (by omega) (Nat.le_refl _), cut_join (by omega) (by omega) (by omega) hx hp2 hs2 hp3 hs3⟩
    refine Cd.seq (Cd.region (Ops.mi rfl rfl rfl (Ops.mi rfl rfl rfl (Ops.lss rfl rfl rfl (Ops.mb rfl rfl rfl ?_)))))
    refine Ops.split_p 209 rfl (fun h4 => ?_) (fun h4 => ?_)
    · refine Ops.g rfl rfl rfl (Ops.mi rfl rfl rfl (Ops.g rfl rfl rfl (Ops.mi rfl rfl rfl (Ops.g rfl rfl rfl (Ops.lss rfl rfl rfl (Ops.pick_t rfl rfl rfl (Ops.n (tQ ?_))))))))
      refine Cd.cond_p _ rfl (fun h5 => ?_) (fun h5 => ?_)
      · refine Cd.region (Ops.ms rfl rfl rfl (Ops.mi rfl rfl rfl (Ops.mi rfl rfl rfl (Ops.mi rfl rfl rfl (Ops.mv_fn rfl rfl rfl (Ops.call (ih mid (mid + m - i) b (by omega) (by omega) (by omega) hbn l2 _ (hp2.cap (hp1.cap hc)) t3 t4 hS5) rfl rfl rfl ?_))))))
        rintro _ w6 ⟨rfl, l3, hp3, hs3, hS6⟩
        have := hfin l3 hp3 hs3
        refine Ops.n (ret0_n ?_)
        exact ⟨rfl, l3, this.1, this.2, hS6⟩
      · have hie : mid + m - i = b := by omega
        have := hfin l2 (RP.refl _ _ _) (hie ▸ t3)
        refine Cd.skip (ret0_n ?_)
        exact ⟨rfl, l2, this.1, this.2, hS5⟩
    · have hie : mid = mid + m - i := by omega
      have := hfin l2 (RP.refl _ _ _) (hie ▸ t4)
      refine Ops.k rfl rfl rfl rfl rfl (Ops.k rfl rfl rfl rfl rfl (Ops.k rfl rfl rfl rfl rfl (Ops.pick_f rfl rfl rfl (Ops.n (tQ (Cd.cond_f rfl (Cd.skip (ret0_n ?_))))))))
      exact ⟨rfl, l2, this.1, this.2, hS5⟩
theorem stable_c {w0 w : World} {ks : List Ck} {t : TypeId} {A : Option Addr} {n c : Nat} {ds : List SlV} (hn : n ≤ 1000000000000) (hc : ∀ s ∈ ds, s.n ≤ 9223372036854775807) (hS : St w0 w (CkR t A n c ds :: ks)) :
  Ret Tryz.prog 122 [.slice A n c, .int .i64 (n : Int), .func (.func 104) #[] #[]] w (fun v w' => v = .tuple #[] ∧ ∃ ds', ds'.Perm ds ∧ SR knS ds' 0 n ∧ St w0 w' (CkR t A n c ds' :: ks)) := by
 have hln : ds.length = n := (hS.rdR 0 rfl).1
 refine Ret.of_cd Tryz.func122 rfl Tryz.ntmps122 rfl (post0 rfl) (Cd.seq (Cd.region (Ops.mi rfl rfl rfl (Ops.n (tQ (Cd.seq (Cd.region (Ops.mi rfl rfl rfl (Ops.mi rfl rfl rfl ?_)))))))))
 refine Ops.mi rfl rfl rfl (Ops.n (tQ (Cd.seq (Cd.block ?_))))
 refine Cd.loop (α := Nat × List SlV) (fun z => [(0, .slice A n c), (1, .int .i64 (n : Int)), (2, .func (.func 104) #[] #[]), (6, .int .i64 20), (7, .int .i64 ((z.1 * 20 : Nat) : Int)), (8, .int .i64 ((z.1 * 20 + 20 : Nat) : Int))]) (fun z w' => z.1 * 20 ≤ n ∧ z.2.Perm ds ∧ Blks knS z.2 n 20 0 (z.1 * 20) ∧ St w0 w' (CkR t A n c z.2 :: ks)) (fun z => n - z.1 * 20) (0, ds) ⟨rfl, rfl, rfl, rfl, rfl, rfl, trivial⟩ ⟨by omega, List.Perm.refl _, fun k h h' => by omega, hS⟩ ?_
 rintro ⟨k, cu⟩ e w1 ⟨hk, hp, hB, hS1⟩
 dsimp only at hk hp hB hS1 ⊢
 have hcc : ∀ s ∈ cu, s.n ≤ 9223372036854775807 := fun s hs => hc s (hp.mem_iff.1 hs)
 have sep : ∀ (j : Nat), j * 20 < k * 20 → min (j * 20 + 20) n ≤ k * 20 := fun j hj => by omega
 refine Cd.seq (Cd.seq (Cd.region (Ops.mi rfl rfl rfl (Ops.mi rfl rfl rfl (Ops.leq rfl rfl rfl (Ops.n (tQ ?_)))))))
 refine Cd.cond_p _ rfl (fun h1 => ?_) (fun h1 => ?_)
 ·refine Cd.skip (tQ (Cd.block (Cd.seq (Cd.region (Ops.ms rfl rfl rfl (Ops.mi rfl rfl rfl (Ops.mi rfl rfl rfl (Ops.mv_fn rfl rfl rfl (Ops.call (insertion_c (k * 20) (k * 20 + 20) (by omega) hk (by omega) hcc hS1) rfl rfl rfl ?_)))))))))
  rintro _ w2 ⟨rfl, cu2, hp2, hs2, hS2⟩
  refine Ops.n (tQ (Cd.seq (Cd.region (Ops.mi rfl rfl rfl (Ops.mi rfl rfl rfl (Ops.n (tQ (Cd.region (Ops.mi rfl rfl rfl ?_)))))))))
  refine Ops.mi rfl rfl rfl (Ops.add rfl rfl rfl (by omega) (Ops.mi rfl rfl rfl (Ops.n (blockQ_n (tQ ?_)))))
  refine ⟨(k + 1, cu2), by show n - (k + 1) * 20 < n - k * 20; omega, ⟨rfl, rfl, rfl, rfl, by show Value.int .i64 ((k * 20 + 20 : Nat) : Int) = .int .i64 (((k + 1) * 20 : Nat) : Int); congr 1; omega, by show Value.int .i64 (((k * 20 + 20 : Nat) : Int) + 20) = .int .i64 (((k + 1) * 20 + 20 : Nat) : Int); congr 1; omega, trivial⟩, by show (k + 1) * 20 ≤ n; omega, hp2.perm.trans hp, fun j hj hj2 => ?_, hS2⟩
  have hj2 : j * 20 < (k + 1) * 20 := hj2
  by_cases e : j = k
  ·subst e
   rw [Nat.min_eq_left (by omega)]
   exact hs2
  ·exact (hB j hj (by omega)).congr fun x h h' => hp2.out x (.inl (by omega))
 ·refine Cd.exit (thenQ_x (thenQ_x (blockQ_x (tQ (Cd.seq (Cd.region (Ops.ms rfl rfl rfl (Ops.mi rfl rfl rfl (Ops.mi rfl rfl rfl ?_)))))))))
  refine Ops.mv_fn rfl rfl rfl (Ops.call (insertion_c (k * 20) n (Nat.le_refl _) hk (by omega) hcc hS1) rfl rfl rfl ?_)
  rintro _ w2 ⟨rfl, cu2, hp2, hs2, hS2⟩
  have hB2 : Blks knS cu2 n 20 0 n := fun j hj hj2 => by
   by_cases e : j = k
   ·subst e
    rw [Nat.min_eq_right (by omega)]
    exact hs2
   ·exact (hB j hj (by omega)).congr fun x h h' => hp2.out x (.inl (by omega))
  refine Ops.n (tQ (Cd.block ?_))
  refine Cd.loop (α := Nat × List SlV) (fun z => [(0, .slice A n c), (1, .int .i64 (n : Int)), (2, .func (.func 104) #[] #[]), (6, .int .i64 (z.1 : Int))]) (fun z w' => (0 < z.1 ∧ z.1 ≤ 2 * n + 20) ∧ z.2.Perm ds ∧ Blks knS z.2 n z.1 0 n ∧ St w0 w' (CkR t A n c z.2 :: ks)) (fun z => 2 * n + 20 - z.1) (20, cu2) ⟨rfl, rfl, rfl, rfl, trivial⟩ ⟨⟨by show 0 < 20; omega, by show 20 ≤ 2 * n + 20; omega⟩, hp2.perm.trans hp, hB2, hS2⟩ ?_
  rintro ⟨s, c3⟩ e w3 ⟨⟨hs0, hsn⟩, hp3, hB3, hS3⟩
  dsimp only at hs0 hsn hp3 hB3 hS3 ⊢
  refine Cd.seq (Cd.seq (Cd.region (Ops.mi rfl rfl rfl (Ops.mi rfl rfl rfl (Ops.lss rfl rfl rfl (Ops.n (tQ ?_)))))))
  refine Cd.cond_p _ rfl (fun h2 => ?_) (fun h2 => ?_)
  ·refine Cd.skip (tQ (Cd.block (Cd.seq (Cd.region (Ops.mi rfl rfl rfl (Ops.mul rfl rfl rfl (by omega) (Ops.mi rfl rfl rfl (Ops.mi rfl rfl rfl (Ops.n ?_)))))))))
   refine tQ (Cd.seq (Cd.block ?_))
   obtain ⟨p, hp⟩ : ∃ p : Nat, p = 2 * s := ⟨_, rfl⟩
   have hcp : ((2 : Int) * (s : Int)) = (p : Int) := by omega
   rw [hcp]
   refine Cd.loop (α := Nat × Nat × List SlV) (fun z => [(0, .slice A n c), (1, .int .i64 (n : Int)), (2, .func (.func 104) #[] #[]), (6, .int .i64 (s : Int)), (7, .int .i64 (z.2.1 : Int)), (8, .int .i64 ((z.2.1 + p : Nat) : Int))]) (fun z w' => z.2.1 = z.1 * p ∧ z.2.1 ≤ n ∧ z.2.2.Perm ds ∧ Blks knS z.2.2 n p 0 z.2.1 ∧ Blks knS z.2.2 n s z.2.1 n ∧ St w0 w' (CkR t A n c z.2.2 :: ks)) (fun z => n - z.2.1) (0, 0, c3) ⟨rfl, rfl, rfl, rfl, rfl, by show Value.int .i64 (p : Int) = .int .i64 ((0 + p : Nat) : Int); rw [Nat.zero_add], trivial⟩ ⟨(Nat.zero_mul p).symm, Nat.zero_le _, hp3, fun k h h' => absurd h' (Nat.not_lt_zero _), hB3, hS3⟩ ?_
   rintro ⟨k, a, c4⟩ e w4 ⟨ha, han, hp4, hBp, hBs, hS4⟩
   dsimp only at ha han hp4 hBp hBs hS4 ⊢
   have hcc4 : ∀ s ∈ c4, s.n ≤ 9223372036854775807 := fun s hs => hc s (hp4.mem_iff.1 hs)
   have q1 : 2 * k * s = a := by rw [ha, hp, Nat.mul_comm 2 k, Nat.mul_assoc]
   have q2 : (2 * k + 1) * s = a + s := by rw [Nat.succ_mul, q1]
   have q3 : (k + 1) * p = a + p := by rw [Nat.succ_mul, ha]
   have hA1 : a < n → SR knS c4 a (min (a + s) n) := fun h => by
    have := hBs (2 * k) (by rw [q1]; exact Nat.le_refl _) (by rw [q1]; exact h)
    rwa [q1] at this
   have hA2 : a + s < n → SR knS c4 (a + s) (min (a + s + s) n) := fun h => by
    have := hBs (2 * k + 1) (by rw [q2]; omega) (by rw [q2]; exact h)
    rwa [q2] at this
   refine Cd.seq (Cd.seq (Cd.region (Ops.mi rfl rfl rfl (Ops.mi rfl rfl rfl (Ops.leq rfl rfl rfl (Ops.n (tQ ?_)))))))
   refine Cd.cond_p _ rfl (fun h3 => ?_) (fun h3 => ?_)
   ·have hap : a + p ≤ n := by omega
    have m1 := hA1 (by omega)
    have m2 := hA2 (by omega)
    rw [Nat.min_eq_left (by omega)] at m1 m2
    rw [show a + s + s = a + p by omega] at m2
    refine Cd.skip (tQ (Cd.block (Cd.seq (Cd.region (Ops.ms rfl rfl rfl (Ops.mi rfl rfl rfl (Ops.mi rfl rfl rfl (Ops.mi rfl rfl rfl (Ops.add rfl rfl rfl (by omega) ?_)))))))))
    refine Ops.mi rfl rfl rfl (Ops.mv_fn rfl rfl rfl (Ops.call (symMerge_c (by omega) p a (a + s) (a + p) (by omega) (by omega) (by omega) hap c4 _ hcc4 m1 m2 hS4) rfl rfl rfl ?_))
    rintro _ w5 ⟨rfl, c5, hp5, hs5, hS5⟩
    refine Ops.n (tQ (Cd.seq (Cd.region (Ops.mi rfl rfl rfl (Ops.mi rfl rfl rfl (Ops.n (tQ (Cd.region (Ops.mi rfl rfl rfl ?_)))))))))
    refine Ops.mi rfl rfl rfl (Ops.mul rfl rfl rfl (by omega) (Ops.add rfl rfl rfl (by omega) (Ops.mi rfl rfl rfl (Ops.n (blockQ_n (tQ ?_))))))
    refine ⟨(k + 1, a + p, c5), by show n - (a + p) < n - a; omega, ⟨rfl, rfl, rfl, rfl, rfl, by show Value.int .i64 (((a + p : Nat) : Int) + (2 : Int) * (s : Int)) = .int .i64 ((a + p + p : Nat) : Int); congr 1; omega, trivial⟩, q3.symm, hap, hp5.perm.trans hp4, fun j hj hj2 => ?_, fun j hj hj2 => ?_, hS5⟩
    ·have hj2 : j * p < a + p := hj2
     by_cases e : j = k
     ·subst e
      rw [← ha, Nat.min_eq_left hap]; exact hs5
     ·have hjk : j < k + 1 := by rw [← q3] at hj2; exact Nat.lt_of_mul_lt_mul_right hj2
      have h6 : j * p < k * p := Nat.mul_lt_mul_of_pos_right (by omega) (by omega)
      have h7 := mul_gap h6
      exact (hBp j (Nat.zero_le _) (by rw [ha]; exact h6)).congr fun x h h' => hp5.out x (.inl (by omega))
    ·have hj : a + p ≤ j * s := hj
     exact (hBs j (by omega) hj2).congr fun x h h' => hp5.out x (.inr (by omega))
   ·have hap : n < a + p := by omega
    have key : ∀ c5 : List SlV, RP c4 c5 a n → SR knS c5 a n → Blks knS c5 n p 0 n := fun c5 hp5 hs5 j hj hj2 => by
     by_cases e : j = k
     ·subst e
      rw [← ha, Nat.min_eq_right (by omega)]; exact hs5
     ·have hjk : j < k + 1 := by
       have : j * p < (k + 1) * p := by rw [q3]; omega
       exact Nat.lt_of_mul_lt_mul_right this
      have h6 : j * p < k * p := Nat.mul_lt_mul_of_pos_right (by omega) (by omega)
      have h7 := mul_gap h6
      exact (hBp j (Nat.zero_le _) (by rw [ha]; exact h6)).congr fun x h h' => hp5.out x (.inl (by omega))
    refine Cd.exit (thenQ_x (thenQ_x (blockQ_x (tQ (Cd.seq (Cd.seq (Cd.region (Ops.mi rfl rfl rfl (Ops.mi rfl rfl rfl ?_)))))))))
    refine Ops.add rfl rfl rfl (by omega) (Ops.mi rfl rfl rfl (Ops.n (tQ (Cd.seq (Cd.region (Ops.mi rfl rfl rfl (Ops.mi rfl rfl rfl (Ops.lss rfl rfl rfl (Ops.n ?_)))))))))
    refine tQ ?_
    refine Cd.cond_p _ rfl (fun h4 => ?_) (fun h4 => ?_)
    ·have m1 := hA1 (by omega)
     have m2 := hA2 (by omega)
     rw [Nat.min_eq_left (by omega)] at m1
     rw [Nat.min_eq_right (by omega)] at m2
     refine Cd.region (Ops.ms rfl rfl rfl (Ops.mi rfl rfl rfl (Ops.mi rfl rfl rfl (Ops.mi rfl rfl rfl (Ops.mv_fn rfl rfl rfl (Ops.call (symMerge_c (by omega) n a (a + s) n (by omega) (by omega) (by omega) (Nat.le_refl _) c4 _ hcc4 m1 m2 hS4) rfl rfl rfl ?_))))))
     rintro _ w5 ⟨rfl, c5, hp5, hs5, hS5⟩
     refine Ops.n (tQ (Cd.region (Ops.mi rfl rfl rfl (Ops.mul rfl rfl rfl (by omega) (Ops.mi rfl rfl rfl (Ops.n (blockQ_n (tQ ?_))))))))
     exact ⟨(p, c5), by show 2 * n + 20 - p < 2 * n + 20 - s; omega, ⟨rfl, rfl, rfl, by show Value.int .i64 ((s : Int) * 2) = .int .i64 (p : Int); congr 1; omega, trivial⟩, ⟨by show 0 < p; omega, by show p ≤ 2 * n + 20; omega⟩, hp5.perm.trans hp4, key c5 hp5 hs5, hS5⟩
    ·have hs4 : SR knS c4 a n := by
      by_cases h5 : a < n
      ·have := hA1 h5
       rwa [Nat.min_eq_right (by omega)] at this
      ·exact SR.one _ _ (by omega)
     refine Cd.skip (tQ (Cd.region (Ops.mi rfl rfl rfl (Ops.mul rfl rfl rfl (by omega) (Ops.mi rfl rfl rfl (Ops.n (blockQ_n (tQ ?_))))))))
     exact ⟨(p, c4), by show 2 * n + 20 - p < 2 * n + 20 - s; omega, ⟨rfl, rfl, rfl, by show Value.int .i64 ((s : Int) * 2) = .int .i64 (p : Int); congr 1; omega, trivial⟩, ⟨by show 0 < p; omega, by show p ≤ 2 * n + 20; omega⟩, hp4, key c4 (RP.refl _ _ _) hs4, hS4⟩
  ·refine Cd.exit (thenQ_x (thenQ_x (blockQ_x (ret0_n ?_))))
   exact ⟨rfl, c3, hp3, hB3.done (by omega), hS3⟩
theorem sortStable_c {w0 w : World} {ks : List Ck} {t : TypeId} {A : Option Addr} {n c : Nat} {ds : List SlV} (hn : n ≤ 1000000000000) (hc : ∀ s ∈ ds, s.n ≤ 9223372036854775807) (hS : St w0 w (CkR t A n c ds :: ks)) :
  Ret Tryz.prog 103 [.slice A n c, .func (.func 104) #[] #[]] w (fun v w' => v = .tuple #[] ∧ ∃ ds', ds'.Perm ds ∧ SR knS ds' 0 n ∧ St w0 w' (CkR t A n c ds' :: ks)) := by
 refine Ret.of_cd Tryz.func103 rfl Tryz.ntmps103 rfl (post0 rfl) (Cd.region (Ops.ms rfl rfl rfl (Ops.ms rfl rfl rfl (Ops.len rfl rfl (Ops.mv_fn rfl rfl rfl (Ops.call (stable_c hn hc hS) rfl rfl rfl ?_))))))
 rintro _ w1 ⟨rfl, ds', h1, h2, h3⟩
 refine Ops.n (ret0_n ?_)
 exact ⟨rfl, ds', h1, h2, h3⟩
/-
 Plain mathematics: turnings told by numbers, and some rows of one's own taken out.
-/
theorem perm_lift {α β : Type} (f : β → α) {l l' : List α} (h : l.Perm l') : ∀ q : List β, l = q.map f → ∃ q' : List β, q'.Perm q ∧ l' = q'.map f := by
 induction h with
 | nil => exact fun q e => ⟨[], by rw [List.map_eq_nil_iff.1 e.symm], rfl⟩
 | cons x _ ih =>
  intro q e
  match q, e with
  | b :: r, e =>
   simp only [List.map_cons, List.cons.injEq] at e
   obtain ⟨q', h1, h2⟩ := ih r e.2
   exact ⟨b :: q', h1.cons b, by rw [List.map_cons, e.1, h2]⟩
 | swap x y l =>
  intro q e
  match q, e with
  | b :: c :: r, e =>
   simp only [List.map_cons, List.cons.injEq] at e
   exact ⟨c :: b :: r, List.Perm.swap _ _ _, by simp [e.1, e.2.1, e.2.2]⟩
 | trans _ _ ih1 ih2 =>
  intro q e
  obtain ⟨q1, h1, e1⟩ := ih1 q e
  obtain ⟨q2, h2, e2⟩ := ih2 q1 e1
  exact ⟨q2, h2.trans h1, e2⟩
theorem map_range {α : Type} (d : α) (l : List α) : l = (List.range l.length).map fun i => l.getD i d := by
 apply List.ext_getElem
 ·simp
 ·intro i h1 h2
  simp [List.getD_eq_getElem?_getD, h1]
theorem perm_idx {α : Type} (d : α) {l l' : List α} (h : l'.Perm l) : ∃ q : List Nat, q.Perm (List.range l.length) ∧ l' = q.map fun i => l.getD i d :=
 perm_lift _ h.symm _ (map_range d l)
theorem sub_range {q : List Nat} {n : Nat} (hn : q.Nodup) (hq : ∀ i ∈ q, i < n) : ∃ s : List Nat, s.Sublist (List.range n) ∧ q.Perm s := by
 refine ⟨(List.range n).filter fun i => decide (i ∈ q), List.filter_sublist, ?_⟩
 refine (List.perm_ext_iff_of_nodup hn (List.nodup_range.filter _)).2 fun i => ?_
 simp only [List.mem_filter, List.mem_range, decide_eq_true_eq]
 exact ⟨fun h => ⟨hq i h, h⟩, fun h => h.2⟩
theorem rowsCk_map (t2 : TypeId) {rs : List SlV} {xss : List (List Int)} (h : rs.length = xss.length) : rowsCk t2 rs xss = (List.range rs.length).map fun i => CkI t2 (rs.getD i slNil).a (rs.getD i slNil).n (rs.getD i slNil).c (xss.getD i []) := by
 apply List.ext_getElem?
 intro i
 by_cases hi : i < rs.length
 ·rw [rowsCk_get h hi]
  simp [hi]
 ·rw [List.getElem?_eq_none (by rw [rowsCk_length h]; omega), List.getElem?_eq_none (by simp; omega)]
theorem St.pick {w0 w : World} {pre : List Ck} {t2 : TypeId} {rs : List SlV} {xss : List (List Int)} (h : St w0 w (pre ++ rowsCk t2 rs xss)) (hl : rs.length = xss.length) {q : List Nat} (hn : q.Nodup) (hq : ∀ i ∈ q, i < rs.length) :
  St w0 w (pre ++ rowsCk t2 (q.map fun i => rs.getD i slNil) (q.map fun i => xss.getD i [])) := by
 obtain ⟨s, hs, hp⟩ := sub_range hn hq
 have e : rowsCk t2 (q.map fun i => rs.getD i slNil) (q.map fun i => xss.getD i []) = q.map fun i => CkI t2 (rs.getD i slNil).a (rs.getD i slNil).n (rs.getD i slNil).c (xss.getD i []) := by
  rw [rowsCk_map t2 (by simp)]
  apply List.ext_getElem?
  intro i
  by_cases hi : i < q.length
  ·simp [hi]
  ·simp [hi]
 rw [e]
 have h1 := h
 rw [rowsCk_map t2 hl] at h1
 have h2 : (pre ++ s.map fun i => CkI t2 (rs.getD i slNil).a (rs.getD i slNil).n (rs.getD i slNil).c (xss.getD i [])).Sublist (pre ++ (List.range rs.length).map fun i => CkI t2 (rs.getD i slNil).a (rs.getD i slNil).n (rs.getD i slNil).c (xss.getD i [])) :=
  List.Sublist.append_left (hs.map _) _
 exact (h1.sub h2).perm ((List.perm_append_left_iff _).2 (hp.symm.map _))
def parA (z : List Int) (k : Nat) : List (List Int) := (List.range k).flatMap (ptsP z)
theorem parA_succ (z : List Int) (k : Nat) : parA z (k + 1) = parA z k ++ ptsP z k := by simp [parA, List.range_succ, List.flatMap_append]
theorem parA_all (z : List Int) : parA z (z.length + 1) = allP z := rfl
/-
 Faces: their numbers and lists, and the reference's walks of them.
-/
/-! labels: each lies below the count, and each below the count occurs -/
theorem lab_in {N : Nat} {xss : List (List Int)} (hs : Sys N xss) (hi' : Inj N xss) : ∀ i, i ≤ N → (∀ x : Int, 0 ≤ x → x < N → gi (lab N xss i).1 x = -1 ∨ (0 ≤ gi (lab N xss i).1 x ∧ gi (lab N xss i).1 x < (lab N xss i).2)) ∧ ∀ v : Int, 0 ≤ v → v < (lab N xss i).2 → ∃ x : Int, 0 ≤ x ∧ x < N ∧ gi (lab N xss i).1 x = v
 | 0, _ => ⟨fun x h0 h1 => .inl (by rw [show (lab N xss 0).1 = List.replicate N (-1) from rfl, gi_rep h0 h1]), fun v h0 h1 => by simp [lab] at h1; omega⟩
 | i + 1, hi => by
  obtain ⟨h1, h2⟩ := lab_in hs hi' i (by omega)
  by_cases hp : 0 ≤ gi (lab N xss i).1 i
  ·rw [lab_pos hp]; exact ⟨h1, h2⟩
  ·rw [lab_neg hp]
   obtain ⟨hg, hpre, hor⟩ := orbit_spec hs (pt := (i : Int)) (by omega) (by omega)
   have hc := (lab_count N xss i).1
   have hgp : ∀ x : Int, 0 ≤ x → gi (paint (lab N xss i).1 (lab N xss i).2 (orbit N xss i)) x = if x ∈ orbit N xss i then (lab N xss i).2 else gi (lab N xss i).1 x := fun x hx => gi_paint _ _ _ (lab_length N xss i) hg.range x hx
   have him : (i : Int) ∈ orbit N xss i := hpre.subset (by simp)
   refine ⟨fun x h0 hx => ?_, fun v h0 hv => ?_⟩
   ·rw [hgp x h0]
    dsimp only
    split
    ·exact .inr ⟨hc, by omega⟩
    ·rcases h1 x h0 hx with h | h
     ·exact .inl h
     ·exact .inr ⟨h.1, by omega⟩
   ·dsimp only at hv ⊢
    by_cases e : v = (lab N xss i).2
    ·exact ⟨i, by omega, by omega, by rw [hgp i (by omega), if_pos him, e]⟩
    ·obtain ⟨x, hx0, hx1, hx⟩ := h2 v h0 (by omega)
     refine ⟨x, hx0, hx1, ?_⟩
     rw [hgp x hx0, if_neg (fun hm => ?_), hx]
     -- what is painted was free
     obtain ⟨j, hj, hjx⟩ := (lab_mem hs i (by omega) x hx0 hx1).1 (by rw [hx]; exact h0)
     have hix := (hor x).1 hm
     exact hp ((lab_mem hs i (by omega) (i : Int) (by omega) (by omega)).2 ⟨j, hj, hjx.trans (Reach.symm hs hi' (by omega) (by omega) hix)⟩)
def grt (xs : List Int) : Int := xs.foldl (fun o x => if o ≤ x then x + 1 else o) 0
theorem grt_snoc (xs : List Int) (x : Int) : grt (xs ++ [x]) = if grt xs ≤ x then x + 1 else grt xs := by
 unfold grt
 rw [List.foldl_append]
 rfl
/-! faces -/
def facesL (xss : List (List Int)) (i : Nat) : List Int := (lab (gl xss 0).length (xss.eraseIdx i) (gl xss 0).length).1
def facesN (xss : List (List Int)) (i : Nat) : Int := (lab (gl xss 0).length (xss.eraseIdx i) (gl xss 0).length).2
theorem l01Index_c (A : Option Addr) (n c : Nat) (xs : List Int) (v : Int) (w : World) (hR : RdI w A n xs) (hn : n ≤ 9223372036854775807) :
  Ret Tryz.prog 84 [.slice A n c, .int .i64 v] w (fun r w' => (∃ i : Int, r = .int .i64 i ∧ (0 ≤ i ↔ v ∈ xs)) ∧ w' = w) := by
 have hxl := hR.1
 refine Ret.of_cd Tryz.func84 rfl Tryz.ntmps84 rfl (post1 rfl) (Cd.seq (Cd.region (Ops.mi rfl rfl rfl (Ops.n (tQ (Cd.seq (Cd.seq (Cd.region (Ops.mi rfl rfl rfl ?_)))))))))
 refine Ops.n (tQ (Cd.block ?_))
 refine Cd.loop (α := Nat) (fun k => [(0, .slice A n c), (1, .int .i64 v), (5, .int .i64 (k : Int))]) (fun k w' => w' = w ∧ k ≤ n ∧ ∀ j, j < k → gi xs (j : Nat) ≠ v) (fun k => n - k) 0 ⟨rfl, rfl, rfl, trivial⟩ ⟨rfl, Nat.zero_le _, fun j hj => by omega⟩ ?_
 rintro k e w ⟨rfl, hk, hK⟩
 refine Cd.seq (Cd.seq (Cd.region (Ops.mi rfl rfl rfl (Ops.ms rfl rfl rfl (Ops.len rfl rfl (Ops.lss rfl rfl rfl (Ops.n (tQ ?_))))))))
 refine Cd.cond_p _ rfl (fun h3 => ?_) (fun h3 => ?_)
 ·refine Cd.skip (tQ (Cd.seq (Cd.block (Cd.seq (Cd.region (Ops.ms rfl rfl rfl (Ops.mi rfl rfl rfl (Ops.idx hR.2 rfl rfl rfl (by omega) (by omega) (Ops.ld_int hR rfl (by omega) rfl rfl ?_)))))))))
  refine Ops.mi rfl rfl rfl (Ops.eql rfl rfl rfl (Ops.n (tQ ?_)))
  refine Cd.cond_p _ rfl (fun h4 => ?_) (fun h4 => ?_)
  ·refine Cd.seq (Cd.region (Ops.mi rfl rfl rfl (Ops.mi rfl rfl rfl (Ops.n (tQ (Cd.ret (blockQ_r (thenQ_r (thenQ_r ?_)))))))))
   refine blockQ_r (thenQ_r (ret1_i rfl ?_))
   exact ⟨⟨(k : Int), rfl, ⟨fun _ => by rw [← h4, gi_mem (by omega)]; exact List.getElem_mem _, fun _ => by omega⟩⟩, rfl⟩
  ·refine Cd.skip (blockQ_n (tQ (Cd.region (Ops.mi rfl rfl rfl (Ops.add rfl rfl rfl (by omega) (Ops.mi rfl rfl rfl (Ops.n (tQ ?_))))))))
   refine ⟨k + 1, by show n - (k + 1) < n - k; omega, ⟨rfl, rfl, rfl, trivial⟩, rfl, by omega, fun j hj => ?_⟩
   by_cases ej : j = k
   ·subst ej; exact h4
   ·exact hK j (by omega)
 ·refine Cd.exit (thenQ_x (thenQ_x (blockQ_x (tQ (Cd.seq (Cd.region (Ops.mi rfl rfl rfl (Ops.n (tQ ?_)))))))))
  refine Cd.ret (ret1_i rfl ?_)
  refine ⟨⟨-1, rfl, ⟨fun h => absurd h (by decide), fun h => ?_⟩⟩, rfl⟩
  obtain ⟨j, hj, hjv⟩ := List.mem_iff_getElem.1 h
  exact absurd (by rw [gi_mem hj]; exact hjv) (hK j (by omega))
theorem l01Has_c (A : Option Addr) (n c : Nat) (xs : List Int) (v : Int) (w : World) (hR : RdI w A n xs) (hn : n ≤ 9223372036854775807) :
  Ret Tryz.prog 88 [.slice A n c, .int .i64 v] w (fun r w' => r = .bool (decide (v ∈ xs)) ∧ w' = w) := by
 refine Ret.of_cd Tryz.func88 rfl Tryz.ntmps88 rfl (post1 rfl) (Cd.seq (Cd.region (Ops.mb rfl rfl rfl (Ops.n (tQ (Cd.seq (Cd.region (Ops.ms rfl rfl rfl (Ops.mi rfl rfl rfl ?_)))))))))
 refine Ops.call (l01Index_c A n c xs v _ hR hn) rfl rfl rfl ?_
 rintro _ w ⟨⟨i, rfl, hi⟩, rfl⟩
 refine Ops.geq rfl rfl rfl (Ops.mb rfl rfl rfl (Ops.n (tQ (Cd.ret (ret1_b rfl ?_)))))
 exact ⟨congrArg Value.bool (decide_eq_decide.2 hi), rfl⟩
/-
 The walks of the laws' marks, which tell memory apart.
-/
theorem set_id {α : Type} {l : List α} {i : Nat} {x : α} (h : l[i]? = some x) : l.set i x = l := by
 apply List.ext_getElem?
 intro j
 rw [List.getElem?_set]
 split
 ·rename_i e; subst e
  rw [if_pos (List.getElem?_eq_some_iff.1 h).1, h]
 ·rfl
theorem Rd.one {w : World} {A : Option Addr} {n : Nat} {f : Nat → Value} (h : Rd w A (n + 1) f) : Rd w A 1 (fun _ => f 0) := fun j hj => by
 obtain rfl : j = 0 := by omega
 exact h 0 (by omega)
def marks (k : Int) (n : Nat) : List Int := (List.range n).map fun j : Nat => k + (j : Int)
/-
 The walk of the law FnExactPetrieCycles: it returns true.
-/
/-
 The walk of slices.Repeat at a list of some numbers.
-/
def pow (xs : List Int) (n : Nat) : List Int := (List.replicate n xs).flatten
theorem pow_succ' (xs : List Int) (n : Nat) : pow xs (n + 1) = xs ++ pow xs n := by simp [pow, List.replicate_succ]
def part (T : List Int) (m : Nat) : List Int := T.take m ++ List.replicate (T.length - m) 0
/-
 The walks of holes and zigzags on both sides.
-/
def holeK (xss : List (List Int)) (j : Int) : Int := if ¬ Grph xss then 1 else if ¬ (1 ≤ j ∧ j ≤ 16) then 2 else if ¬ xss.length = 3 then 5 else 0
def zigW (n : Nat) : List Int := [0] ++ pow [1, 2] n
def holeW (n : Nat) : List Int := zigW n ++ [1]
/-
 Faces on the program's side; the ends of edges on the reference's.
-/
theorem put_cs {xs : List Int} {a : Nat} {v : Int} (h : SA xs) (hv : v ∉ xs) (ha : a ≤ xs.length) (hl : ∀ j : Nat, j < a → gi xs (j : Int) < v) (hg : a < xs.length → v ≤ gi xs (a : Int)) : xs.take a ++ (v :: xs.drop a) = cs (xs ++ [v]) := by
 have hp : (xs.take a ++ (v :: xs.drop a)).Perm (xs ++ [v]) := put_perm
 refine cs_eq ?_ fun x => hp.mem_iff
 have h1 := asc_put h.asc ha hl hg
 have h2 : (xs.take a ++ (v :: xs.drop a)).Nodup := hp.nodup_iff.2 (by
  rw [List.nodup_append]
  refine ⟨h.nodup, by simp, fun x hx y hy e => ?_⟩
  simp at hy
  subst hy
  exact hv (e ▸ hx))
 exact (List.Pairwise.and h1 h2).imp fun h => by have := h.1; have := h.2; omega
theorem l13Insert_c (A : Option Addr) (n c : Nat) (xs : List Int) (v : Int) (w : World) (hR : RdI w A n xs) (hc : n ≤ c) (hn : n ≤ 1000000) (hs : SA xs) (hv : v ∉ xs) :
    Ret Tryz.prog 117 [.slice A n c, .int .i64 v] w (fun r w' => ∃ A' c', r = .slice A' (cs (xs ++ [v])).length c' ∧ St w w' [CkI 2 A' (cs (xs ++ [v])).length c' (cs (xs ++ [v]))]) := by
  have hxl := hR.1
  refine Ret.of_cd Tryz.func117 rfl Tryz.ntmps117 rfl (post1 rfl) (Cd.seq (Cd.region (Ops.ms rfl rfl rfl (Ops.n (tQ (Cd.seq (Cd.region (Ops.mi rfl rfl rfl (Ops.n ?_)))))))))
  refine tQ ?_
  refine Cd.join (α := Nat) (fun a => [(0, .slice A n c), (1, .int .i64 v), (5, .int .i64 (a : Int))])
    (fun a w' => w' = w ∧ a ≤ xs.length ∧ (∀ j : Nat, j < a → gi xs (j : Int) < v) ∧ (a < xs.length → v ≤ gi xs (a : Int))) ?_ ?_
  · refine Cd.block ?_
    refine Cd.loop (α := Nat) (fun a => [(0, .slice A n c), (1, .int .i64 v), (5, .int .i64 (a : Int))]) (fun a w' => w' = w ∧ a ≤ xs.length ∧ ∀ j : Nat, j < a → gi xs (j : Int) < v) (fun a => xs.length - a) 0 ⟨rfl, rfl, rfl, trivial⟩ ⟨rfl, Nat.zero_le _, fun j hj => by omega⟩ ?_
    rintro a e w ⟨rfl, ha, hlt⟩
    refine Cd.seq (Cd.seq (Cd.region (Ops.mi rfl rfl rfl (Ops.ms rfl rfl rfl (Ops.len rfl rfl (Ops.lss rfl rfl rfl (Ops.mb rfl rfl rfl ?_)))))))
    refine Ops.split_p 11 rfl (fun h4 => ?_) (fun h4 => ?_)
    · refine Ops.g rfl rfl rfl (Ops.ms rfl rfl rfl (Ops.g rfl rfl rfl (Ops.mi rfl rfl rfl (Ops.g rfl rfl rfl (Ops.idx hR.2 rfl rfl rfl (by omega) (by omega) (Ops.g rfl rfl rfl (Ops.ld_int hR rfl (by omega) rfl rfl (Ops.g rfl rfl rfl (Ops.mi rfl rfl rfl ?_)))))))))
      refine Ops.g rfl rfl rfl (Ops.lss rfl rfl rfl (Ops.pick_t rfl rfl rfl (Ops.n (tQ ?_))))
      refine Cd.cond_p _ rfl (fun h5 => ?_) (fun h5 => ?_)
      · refine Cd.skip (tQ (Cd.block (Cd.region (Ops.mi rfl rfl rfl (Ops.add rfl rfl rfl (by omega) (Ops.mi rfl rfl rfl (Ops.n (blockQ_n (tQ ?_)))))))))
        refine ⟨a + 1, by show xs.length - (a + 1) < xs.length - a; omega, ⟨rfl, rfl, rfl, trivial⟩, rfl, by omega, fun j hj => ?_⟩
        by_cases ej : j = a
        · subst ej; exact h5
        · exact hlt j (by omega)
      · refine Cd.exit (thenQ_x (thenQ_x (blockQ_x (tQ ?_))))
        exact ⟨a, ⟨rfl, rfl, rfl, trivial⟩, rfl, ha, hlt, fun _ => by omega⟩
    · refine Ops.k rfl rfl rfl rfl rfl (Ops.k rfl rfl rfl rfl rfl (Ops.k rfl rfl rfl rfl rfl (Ops.k rfl rfl rfl rfl rfl (Ops.k rfl rfl rfl rfl rfl (Ops.k rfl rfl rfl rfl rfl (Ops.pick_f rfl rfl rfl (Ops.n (tQ (Cd.cond_f rfl ?_)))))))))
      refine Cd.exit (thenQ_x (thenQ_x (blockQ_x (tQ ?_))))
      exact ⟨a, ⟨rfl, rfl, rfl, trivial⟩, rfl, ha, hlt, fun h => absurd h (by omega)⟩
  · rintro a e w ⟨rfl, ha, hlt, hge⟩
    have hput := put_cs hs hv ha hlt hge
    refine Cd.seq (Cd.region (Ops.mi rfl rfl rfl (Ops.bs1I (St.refl w) rfl rfl rfl ?_)))
    intro A7 w7 hS7
    refine Ops.ms rfl rfl rfl (Ops.mi rfl rfl rfl (Ops.cut_l rfl rfl rfl (by omega) (Ops.appI 0 hS7 rfl ((hS7.oldI hR).drop (l := a) (by omega) hc) rfl rfl rfl (by omega) (by omega) rfl ?_)))
    intro A8 c8 w8 hS8
    refine Ops.ms rfl rfl rfl (Ops.n (tQ (Cd.seq (Cd.region (Ops.bs0 hS8 rfl ?_)))))
    intro A9 w9 hS9
    have hS9 : St w w9 (CkI 2 A9 0 0 [] :: CkI 2 A8 (1 + (n - a)) c8 ([v] ++ xs.drop a) :: []) := hS9
    refine Ops.ms rfl rfl rfl (Ops.mi rfl rfl rfl (Ops.cut_h rfl rfl rfl (by omega) (Ops.appI 0 hS9 rfl ((hS9.oldI hR).take (l := a) (by omega)) rfl rfl rfl (by omega) (by omega) rfl ?_)))
    intro A10 c10 w10 hS10
    refine Ops.ms rfl rfl rfl (Ops.appI 0 hS10 rfl (hS10.rdI 1 rfl) rfl rfl rfl (by omega) (by omega) rfl ?_)
    intro A11 c11 w11 hS11
    refine Ops.ms rfl rfl rfl (Ops.n (tQ (Cd.ret (ret1_s rfl ?_))))
    have hS11 : St w w11 (CkI 2 A11 (0 + a + (1 + (n - a))) c11 (([] ++ xs.take a) ++ ([v] ++ xs.drop a)) :: CkI 2 A8 (1 + (n - a)) c8 ([v] ++ xs.drop a) :: []) := hS11
    have hS12 := hS11.sub (List.Sublist.cons_cons _ (List.nil_sublist _))
    rw [List.nil_append, List.singleton_append, hput] at hS12
    have hlen' : (cs (xs ++ [v])).length = 0 + a + (1 + (n - a)) := by rw [← hput]; simp; omega
    exact ⟨A11, c11, by rw [hlen'], by rw [hlen']; exact hS12⟩
theorem l17Insert_c (A : Option Addr) (n c : Nat) (xs : List Int) (v : Int) (w : World) (hR : RdI w A n xs) (hc : n ≤ c) (hn : n ≤ 1000000) (hs : SA xs) :
  Ret Tryz.prog 83 [.slice A n c, .int .i64 v] w (fun r w' => ∃ A' c', r = .slice A' (cs (xs ++ [v])).length c' ∧ Below w.heap.size w w' ∧ ((A' = A ∧ c' = c ∧ cs (xs ++ [v]) = xs) ∨ St w w' [CkI 2 A' (cs (xs ++ [v])).length c' (cs (xs ++ [v]))])) := by
 have hxl := hR.1
 refine Ret.of_cd Tryz.func83 rfl Tryz.ntmps83 rfl (post1 rfl) (Cd.seq (Cd.region (Ops.ms rfl rfl rfl (Ops.n (tQ (Cd.seq (Cd.seq (Cd.region (Ops.ms rfl rfl rfl ?_)))))))))
 refine Ops.mi rfl rfl rfl (Ops.call (l01Has_c A n c xs v w hR (by omega)) rfl rfl rfl ?_)
 rintro _ w ⟨rfl, rfl⟩
 refine Ops.n (tQ ?_)
 refine Cd.cond_p _ rfl (fun h => ?_) (fun h => ?_)
 ·have e : cs (xs ++ [v]) = xs := (cs_eq hs fun x => by
   simp only [List.mem_append, List.mem_singleton]
   exact ⟨.inl, fun h2 => h2.elim id fun e => e ▸ h⟩).symm
  refine Cd.seq (Cd.region (Ops.ms rfl rfl rfl (Ops.ms rfl rfl rfl (Ops.n (tQ (Cd.ret (thenQ_r (ret1_s rfl ?_))))))))
  exact ⟨A, c, by rw [e, hxl], Below.refl _ _, .inl ⟨rfl, rfl, e⟩⟩
 ·refine Cd.skip (tQ (Cd.seq (Cd.region (Ops.ms rfl rfl rfl (Ops.mi rfl rfl rfl (Ops.call (l13Insert_c A n c xs v w hR hc hn hs h) rfl rfl rfl ?_))))))
  rintro _ w1 ⟨A1, c1, rfl, hst⟩
  refine Ops.ms rfl rfl rfl (Ops.n (tQ (Cd.ret (ret1_s rfl ?_))))
  exact ⟨A1, c1, rfl, hst.below, .inr hst⟩
/-! rows put anew -/
theorem cons_set_perm : ∀ (l : List Ck) (i : Nat) (x y : Ck), l[i]? = some y → (x :: l).Perm (y :: l.set i x)
 | [], i, x, y, h => by simp at h
 | u :: l, 0, x, y, h => by simp at h; subst h; exact List.Perm.swap _ _ _
 | u :: l, i + 1, x, y, h => by
  simp only [List.getElem?_cons_succ] at h
  simp only [List.set_cons_succ]
  exact (List.Perm.swap _ _ _).trans (((cons_set_perm l i x y h).cons u).trans (List.Perm.swap _ _ _))
theorem St.anew {w0 w : World} {ks : List Ck} {i : Nat} {k y : Ck} (h : St w0 w (k :: ks)) (hy : ks[i]? = some y) : St w0 w (ks.set i k) := (h.perm (cons_set_perm ks i k y hy)).tail
theorem St.insRow {w2 w1 w9 : World} {ks : List Ck} {i : Nat} {t : TypeId} {A A1 : Option Addr} {n c c1 : Nat} {xs ys : List Int} (h : St w2 w1 ks) (hk : ks[i]? = some (CkI t A n c xs)) (hbl : Below w1.heap.size w1 w9) (hor : (A1 = A ∧ c1 = c ∧ ys = xs) ∨ St w1 w9 [CkI t A1 ys.length c1 ys]) : St w2 w9 (ks.set i (CkI t A1 ys.length c1 ys)) := by
 rcases hor with ⟨rfl, rfl, rfl⟩ | hst
 ·have hl := h.lenI i hk
  rw [hl, set_id hk]
  exact h.later hbl
 ·exact (h.call hst).anew hk
theorem rowsCk_upd {t : TypeId} : ∀ {rs : List SlV} {xss : List (List Int)} {i : Nat} {s : SlV} {xs : List Int}, rs.length = xss.length → (rowsCk t rs xss).set i (CkI t s.a s.n s.c xs) = rowsCk t (rs.set i s) (xss.set i xs)
 | [], [], _, _, _, _ => rfl
 | [], _ :: _, _, _, _, h => by simp at h
 | _ :: _, [], _, _, _, h => by simp at h
 | r :: rs, x :: xss, 0, s, xs, _ => rfl
 | r :: rs, x :: xss, i + 1, s, xs, h => by
  have := rowsCk_upd (t := t) (rs := rs) (xss := xss) (i := i) (s := s) (xs := xs) (by simpa using h)
  simpa [rowsCk] using this
theorem nilRows {w0 w : World} {t : TypeId} : ∀ (n : Nat) {ks : List Ck}, St w0 w ks → St w0 w (ks ++ rowsCk t (List.replicate n slNil) (List.replicate n []))
 | 0, ks, h => by show St w0 w (ks ++ []); rwa [List.append_nil]
 | n + 1, ks, h => by
  have h1 := nilRows (t := t) n h
  have h2 := h1.nil t
  exact h2.perm (List.perm_middle.symm)
/-
 Parts of a list, walked; a row of rows copied.
-/
theorem CloneRR_c (A : Option Addr) (n c : Nat) (rs : List SlV) (w : World) (hR : RdR w A n rs) (hn : n ≤ 1000000000) : Ret Tryz.prog 102 [.slice A n c] w (fun v w' => ∃ A' c', v = .slice A' n c' ∧ St w w' [CkR 28 A' n c' rs]) := by
 cases hA : A with
 | none =>
  subst hA
  have hn0 : n = 0 := by
   apply Classical.byContradiction
   intro h
   obtain ⟨p, hp, _⟩ := hR.2 0 (by omega)
   simp [ptrAt] at hp
  subst hn0
  have hx : rs = [] := List.eq_nil_of_length_eq_zero hR.1
  subst hx
  refine Ret.of_cd Tryz.func102 rfl Tryz.ntmps102 rfl (post1 rfl) (Cd.seq (Cd.region (Ops.ms rfl rfl rfl (Ops.n (tQ (Cd.seq (Cd.seq (Cd.region (Ops.ms rfl rfl rfl ?_)))))))))
  refine Ops.eqNil rfl rfl rfl (Ops.n (tQ (Cd.cond_t rfl (Cd.seq (Cd.region (Ops.ms rfl rfl rfl (Ops.n (tQ (Cd.ret ?_)))))))))
  refine thenQ_r (ret1_s rfl ?_)
  exact ⟨none, 0, rfl, (St.refl w).nil _⟩
 | some a =>
  subst hA
  refine Ret.of_cd Tryz.func102 rfl Tryz.ntmps102 rfl (post1 rfl) (Cd.seq (Cd.region (Ops.ms rfl rfl rfl (Ops.n (tQ (Cd.seq (Cd.seq (Cd.region (Ops.ms rfl rfl rfl ?_)))))))))
  refine Ops.eqNil rfl rfl rfl (Ops.n (tQ (Cd.cond_f rfl (Cd.skip (tQ (Cd.seq (Cd.region (Ops.bs0 (St.refl w) rfl ?_))))))))
  intro A1 w1 hS1
  have hS1 : St w w1 [CkR 28 A1 0 0 []] := hS1
  refine Ops.ms rfl rfl rfl (Ops.appR 0 hS1 rfl (hS1.oldR hR) rfl rfl rfl (by omega) (by omega) rfl ?_)
  intro A2 c2 w2 hS2
  rw [Nat.zero_add] at hS2 ⊢
  refine Ops.ms rfl rfl rfl (Ops.n (tQ (Cd.ret (ret1_s rfl ?_))))
  exact ⟨A2, c2, rfl, hS2⟩
theorem ptsP_count : ∀ (l : List Int) (k : Nat), (ptsP l k).length ≤ 2 ^ l.length
 | l, 0 => by simpa [ptsP] using Nat.one_le_two_pow
 | [], k + 1 => by simp [ptsP]
 | x :: r, k + 1 => by
  have h1 := ptsP_count r k
  have h2 := ptsP_count r (k + 1)
  rw [ptsP, List.length_append, List.length_map, List.length_cons, Nat.pow_succ]
  omega
theorem ptsP_small {l : List Int} (k : Nat) (h : l.length ≤ 6) : (ptsP l k).length ≤ 64 := by
 have h1 := ptsP_count l k
 have h2 : 2 ^ l.length ≤ 2 ^ 6 := Nat.pow_le_pow_right (by decide) h
 have h3 : 2 ^ 6 = 64 := by decide
 omega
theorem partsOf_c : ∀ (k : Nat) (A : Option Addr) (n c : Nat) (xs : List Int) (w : World), RdI w A n xs → n ≤ c → n ≤ 6 → k ≤ 7 →
    Ret Tryz.prog 76 [.slice A n c, .int .i64 (k : Int)] w (fun v w' => ∃ A' c' rs', v = .slice A' (ptsP xs k).length c' ∧ rs'.length = (ptsP xs k).length ∧ St w w' (mat 28 2 A' (ptsP xs k).length c' rs' (ptsP xs k) ++ [])) := by
  intro k
  induction k with
  | zero =>
    intro A n c xs w hR hc hn hk
    refine Ret.of_cd Tryz.func76 rfl Tryz.ntmps76 rfl (post1 rfl) (Cd.seq (Cd.region (Ops.ms rfl rfl rfl (Ops.n (tQ (Cd.seq (Cd.seq (Cd.region (Ops.mi rfl rfl rfl ?_)))))))))
    refine Ops.eql rfl rfl rfl (Ops.n (tQ ?_))
    refine Cd.cond_p _ rfl (fun h1 => ?_) (fun h1 => absurd rfl h1)
    refine Cd.seq (Cd.region (Ops.bs1R (St.refl w) rfl rfl rfl ?_))
    intro A1 w1 hS1
    refine Ops.ms rfl rfl rfl (Ops.n (tQ (Cd.ret (thenQ_r (ret1_s rfl ?_)))))
    have e0 : ptsP xs 0 = [[]] := by cases xs <;> rfl
    rw [e0]
    exact ⟨A1, 1, [slNil], rfl, rfl, nilRows 1 hS1⟩
  | succ k ih =>
    intro A n c xs w hR hc hn hk
    have hxl : xs.length = n := hR.1
    have hsm := ptsP_small (l := xs) (k + 1) (by omega)
    refine Ret.of_cd Tryz.func76 rfl Tryz.ntmps76 rfl (post1 rfl) (Cd.seq (Cd.region (Ops.ms rfl rfl rfl (Ops.n (tQ (Cd.seq (Cd.seq (Cd.region (Ops.mi rfl rfl rfl ?_)))))))))
    refine Ops.eql rfl rfl rfl (Ops.n (tQ ?_))
    refine Cd.cond_pf rfl (fun h1 => absurd h1 (by omega)) ?_
    refine Cd.skip (tQ (Cd.seq (Cd.region (Ops.ms rfl rfl rfl (Ops.n (tQ (Cd.seq (Cd.seq (Cd.region ?_)))))))))
    refine Ops.ms rfl rfl rfl (Ops.len rfl rfl (Ops.mi rfl rfl rfl (Ops.sub rfl rfl rfl (by omega) (Ops.add rfl rfl rfl (by omega) (Ops.mi rfl rfl rfl (Ops.n (tQ (Cd.block ?_))))))))
    refine Cd.loop (α := Nat × Option Addr × Nat × List SlV × List (List Int)) (fun z => [(0, .slice A n c), (1, .int .i64 ((k + 1 : Nat) : Int)), (5, .slice z.2.1 z.2.2.2.2.length z.2.2.1), (16, .int .i64 ((n : Int) - ((k + 1 : Nat) : Int) + 1)), (17, .int .i64 (z.1 : Int))])
      (fun z w' => z.1 ≤ n + 1 ∧ z.2.2.2.2 ++ ptsP (xs.drop z.1) (k + 1) = ptsP xs (k + 1) ∧ z.2.2.2.1.length = z.2.2.2.2.length ∧ St w w' (mat 28 2 z.2.1 z.2.2.2.2.length z.2.2.1 z.2.2.2.1 z.2.2.2.2 ++ [])) (fun z => n + 1 - z.1) (0, none, 0, [], []) ⟨rfl, rfl, rfl, rfl, rfl, trivial⟩ ⟨Nat.zero_le _, by show [] ++ ptsP (xs.drop 0) (k + 1) = _; rw [List.drop_zero, List.nil_append], rfl, (St.refl w).nil _⟩ ?_
    rintro ⟨i, A5, c5, rs5, L⟩ e w1 ⟨hi, hL, hrl, hS1⟩
    dsimp only at hi hL hrl hS1 ⊢
    refine Cd.seq (Cd.region (Ops.lss rfl rfl rfl (Ops.n (tQ (Cd.seq ?_)))))
    refine Cd.cond_p _ rfl (fun h2 => ?_) (fun h2 => ?_)
    · have hin : i < xs.length := by omega
      have hLl : L.length ≤ 64 := by have := congrArg List.length hL; rw [List.length_append] at this; omega
      rw [ptsP_step hin, ← List.append_assoc] at hL
      have hd := (hR.later hS1.below).drop (l := i + 1) (by omega) hc
      have hdl : (xs.drop (i + 1)).length = n - (i + 1) := by rw [List.length_drop, hxl]
      refine Cd.skip (tQ (Cd.seq (Cd.block (Cd.seq (Cd.region (Ops.mi rfl rfl rfl (Ops.mi rfl rfl rfl (Ops.n (tQ ?_)))))))))
      refine Cd.seq (Cd.region (Ops.ms rfl rfl rfl (Ops.mi rfl rfl rfl (Ops.add rfl rfl rfl (by omega) (Ops.cut_l (l := ((i + 1 : Nat) : Int)) rfl rfl rfl (by omega) (Ops.mi rfl rfl rfl (Ops.sub rfl rfl rfl (by omega) ?_)))))))
      refine Ops.call (ih (cutAt A c (i + 1)) (n - (i + 1)) (c - (i + 1)) (xs.drop (i + 1)) _ hd (by omega) (by omega) (by omega)) rfl (by show [_, Value.int .i64 (((k + 1 : Nat) : Int) - 1)] = _; congr 3; omega) rfl ?_
      rintro _ w2 ⟨A6, c6, rs6, rfl, hrl6, hT2⟩
      have hNl := ptsP_small (l := xs.drop (i + 1)) k (by omega)
      have hNs : ∀ r ∈ ptsP (xs.drop (i + 1)) k, r.length ≤ 6 := fun r hr => by
        have := (ptsP_mem.1 hr).1.length_le
        omega
      generalize hN : ptsP (xs.drop (i + 1)) k = N at *
      have hS2 : St w w2 (mat 28 2 A5 L.length c5 rs5 L ++ (mat 28 2 A6 N.length c6 rs6 N ++ [])) := by
        have := (hS1.call hT2).perm List.perm_append_comm
        simpa using this
      refine Ops.len rfl rfl (Ops.mi rfl rfl rfl (Ops.n (tQ (Cd.block ?_))))
      refine Cd.loop (α := Nat × Option Addr × Nat × List SlV) (fun z => [(0, .slice A n c), (1, .int .i64 ((k + 1 : Nat) : Int)), (5, .slice z.2.1 (L.length + z.1) z.2.2.1), (6, .int .i64 (i : Int)), (16, .int .i64 ((n : Int) - ((k + 1 : Nat) : Int) + 1)), (17, .int .i64 (i : Int)), (26, .slice A6 N.length c6), (27, .int .i64 (N.length : Int)), (28, .int .i64 (z.1 : Int))])
        (fun z w' => z.1 ≤ N.length ∧ z.2.2.2.length = L.length + z.1 ∧ St w w' (mat 28 2 z.2.1 (L.length + z.1) z.2.2.1 z.2.2.2 (L ++ (N.take z.1).map (gi xs (i : Int) :: ·)) ++ (mat 28 2 A6 N.length c6 rs6 N ++ []))) (fun z => N.length - z.1) (0, A5, c5, rs5) ⟨rfl, rfl, rfl, rfl, rfl, rfl, rfl, rfl, rfl, trivial⟩ ⟨Nat.zero_le _, by show rs5.length = L.length + 0; omega, by show St w w2 (mat _ _ A5 (L.length + 0) c5 rs5 (L ++ (N.take 0).map _) ++ _); rw [List.take_zero, List.map_nil, List.append_nil]; exact hS2⟩ ?_
      rintro ⟨j, A7, c7, rs7⟩ e w3 ⟨hj, hr7, hS3⟩
      dsimp only at hj hr7 hS3 ⊢
      have hM3 : ∀ w', St w w' (mat 28 2 A7 (L.length + j) c7 rs7 (L ++ (N.take j).map (gi xs (i : Int) :: ·)) ++ (mat 28 2 A6 N.length c6 rs6 N ++ [])) → RowsI w' A6 N.length rs6 N := fun w' h => (h.sub (List.sublist_append_right _ _)).rowsI rfl
      have hLL : (L ++ (N.take j).map (gi xs (i : Int) :: ·)).length = L.length + j := by simp; omega
      refine Cd.seq (Cd.region (Ops.lss rfl rfl rfl (Ops.n (tQ (Cd.seq ?_)))))
      refine Cd.cond_p _ rfl (fun h3 => ?_) (fun h3 => ?_)
      · have hjN : j < N.length := by omega
        have hM := hM3 _ hS3
        have hrow := hM.at_ (i := (j : Int)) (by omega) (by omega)
        have hrl := hrow.1
        have hsm7 := hNs (gl N (j : Int)) (by rw [gl_mem hjN]; exact List.getElem_mem _)
        have hR3 := hR.later hS3.below
        have htk : L ++ (N.take (j + 1)).map (gi xs (i : Int) :: ·) = (L ++ (N.take j).map (gi xs (i : Int) :: ·)) ++ [gi xs (i : Int) :: gl N (j : Int)] := by rw [take_succ_gl hjN, List.map_append, List.append_assoc]; rfl
        generalize hL' : L ++ (N.take j).map (gi xs (i : Int) :: ·) = L' at *
        refine Cd.skip (tQ (Cd.seq (Cd.block (Cd.seq (Cd.region (Ops.idx hM.top.2 rfl rfl rfl (by omega) (by omega) (Ops.ld_sl hM.top rfl (by omega) rfl rfl (Ops.ms rfl rfl rfl (Ops.n ?_)))))))))
        refine tQ (Cd.region (Ops.ms rfl rfl rfl (Ops.ms rfl rfl rfl (Ops.mi rfl rfl rfl (Ops.idx hR3.2 rfl rfl rfl (by omega) (by omega) (Ops.ld_int hR3 rfl (by omega) rfl rfl (Ops.bs1I hS3 rfl rfl rfl ?_)))))))
        intro A8 w4 hS4
        refine Ops.ms rfl rfl rfl (Ops.appI 0 hS4 rfl ((hM3 _ hS4.tail).at_ (i := (j : Int)) (by omega) (by omega)) rfl rfl rfl (by omega) (by omega) rfl ?_)
        intro A9 c9 w5 hS5
        have hS5 : St w w5 (CkI 2 A9 (1 + (rg rs6 (j : Int)).n) c9 ([gi xs (i : Int)] ++ gl N (j : Int)) :: (mat 28 2 A7 (L.length + j) c7 rs7 L' ++ (mat 28 2 A6 N.length c6 rs6 N ++ []))) := hS5
        refine Ops.bs1R hS5 rfl rfl rfl ?_
        intro A10 w6 hS6
        refine Ops.appR 2 hS6 rfl (hS6.rdR 0 rfl) rfl rfl rfl (by omega) (by omega) rfl ?_
        intro A11 c11 w7 hS7
        have hS7 : St w w7 (CkR 28 A10 1 1 [⟨A9, 1 + (rg rs6 (j : Int)).n, c9⟩] :: CkI 2 A9 (1 + (rg rs6 (j : Int)).n) c9 ([gi xs (i : Int)] ++ gl N (j : Int)) :: CkR 28 A11 (L.length + j + 1) c11 (rs7 ++ [⟨A9, 1 + (rg rs6 (j : Int)).n, c9⟩]) :: (rowsCk 2 rs7 L' ++ (mat 28 2 A6 N.length c6 rs6 N ++ []))) := hS7
        have hS8 : St w w7 (mat 28 2 A11 (L.length + (j + 1)) c11 (rs7 ++ [⟨A9, 1 + (rg rs6 (j : Int)).n, c9⟩]) (L' ++ [gi xs (i : Int) :: gl N (j : Int)]) ++ (mat 28 2 A6 N.length c6 rs6 N ++ [])) := by
          refine hS7.tail.perm ?_
          unfold mat
          rw [rowsCk_append (by omega)]
          refine (List.Perm.swap _ _ _).trans (List.Perm.cons _ ?_)
          show (_ :: (rowsCk 2 rs7 L' ++ _)).Perm ((rowsCk 2 rs7 L' ++ [_]) ++ _)
          rw [List.append_assoc]
          exact List.perm_middle.symm
        refine Ops.ms rfl rfl rfl (Ops.n (blockQ_n (tQ (Cd.region (Ops.add rfl rfl rfl (by omega) (Ops.mi rfl rfl rfl (Ops.n (tQ ?_))))))))
        exact ⟨(j + 1, A11, c11, rs7 ++ [⟨A9, 1 + (rg rs6 (j : Int)).n, c9⟩]), by show N.length - (j + 1) < N.length - j; omega, ⟨rfl, rfl, rfl, rfl, rfl, rfl, rfl, rfl, rfl, trivial⟩, by show j + 1 ≤ N.length; omega, by show (rs7 ++ [_]).length = L.length + (j + 1); simp; omega, by rw [htk]; exact hS8⟩
      · have hje : j = N.length := by omega
        subst hje
        rw [List.take_length] at hS3 hLL
        refine Cd.exit (thenQ_x (thenQ_x (blockQ_x (blockQ_n (tQ (Cd.region (Ops.add rfl rfl rfl (by omega) (Ops.mi rfl rfl rfl (Ops.n ?_)))))))))
        refine tQ ?_
        refine ⟨(i + 1, A7, c7, rs7, L ++ N.map (gi xs (i : Int) :: ·)), by show n + 1 - (i + 1) < n + 1 - i; omega, ⟨rfl, rfl, by show Value.slice A7 (L.length + N.length) c7 = .slice A7 (L ++ N.map (gi xs (i : Int) :: ·)).length c7; rw [hLL], rfl, rfl, trivial⟩, by show i + 1 ≤ n + 1; omega, hL, by rw [hLL]; exact hr7, ?_⟩
        rw [hLL]
        have := hS3.sub (List.sublist_append_left _ _)
        rwa [List.append_nil]
    · have hend : ptsP (xs.drop i) (k + 1) = [] := ptsP_short (by rw [List.length_drop]; omega)
      rw [hend, List.append_nil] at hL
      subst hL
      refine Cd.exit (thenQ_x (thenQ_x (blockQ_x (tQ (Cd.seq (Cd.region (Ops.ms rfl rfl rfl (Ops.ms rfl rfl rfl (Ops.n ?_)))))))))
      refine tQ (Cd.ret (ret1_s rfl ?_))
      exact ⟨A5, c5, rs5, rfl, hrl, hS1⟩
end Go.Proofs.YtiblelgfkakmiaaGreatDoor.Vc
