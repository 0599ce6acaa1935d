/-
  The library's Compact of an ascending list of one's own, and its Delete in a list of lists of one's own; sets as ascending lists. Conditions: as each states them.
-/
import Derived.Test.YtpdhjnacnmfbjaaLayb
import Derived.Test.YtpdhjnacnmfbjaaSrt
import Derived.Shelf.SlicesE.Compact
import Derived.Shelf.SlicesE.Delete
import Derived.Test.YtpdhjnacnmfbjaaC5
namespace Go.Proofs.Ytpdhjnacnmfbjaa.Vc
open Go.RowKit Go.Sort

/-! what the library leaves in a row of one's own -/
theorem heap_put {α : Type} [Inhabited α] {enc : α → Value} {w : World} {g q off : Nat} {cur : Array Value} {e : TypeId} {fr : Nat × Nat} (d : Array α) (hb : w.heap[g]? = some (.cells cur e fr)) :
    (putRow enc (Sort.ahead w q) g off d).heap[g]? = some (.cells (putCells enc off d cur) e fr) := by
  simp [putRow, mapBlock, Sort.ahead, Array.getElem?_modify, hb, onCells]
theorem grownBy_put {α : Type} [Inhabited α] {enc : α → Value} {w : World} {g q off : Nat} (d : Array α) : w.grownBy (putRow enc (Sort.ahead w q) g off d) (some g) := by
  refine ⟨rfl, rfl, rfl, by simp [Sort.ahead], fun k hk hne => ?_⟩
  have : g ≠ k := fun e => hne (by rw [e])
  simp [putRow, mapBlock, Sort.ahead, Array.getElem?_modify, this]
theorem holds_own {α : Type} [Inhabited α] {enc : α → Value} {w : World} {g o : Nat} {cur : Array Value} {e : TypeId} {ds : List α} (hh : w.heap[g]? = some (.cells cur e (0, 0))) (hc : ∀ j, j < ds.length → cur[o + j]? = (ds.map enc)[j]?) : Holds enc w g o ds.toArray := fun j hj => by
  have hj' : j < ds.length := by simpa using hj
  refine ⟨?_, by simp [World.frozen?, hh]⟩
  simp only [World.cell?, hh]
  simp only [Option.isSome_none, Bool.false_eq_true, if_false]
  rw [hc j hj']
  simp [hj']
/-- a row of one's own, laid anew by the library, and cut -/
theorem St.laid {α : Type} [Inhabited α] {enc : α → Value} {w0 w : World} {ks : List Ck} {i : Nat} {k : Ck} {g o q m : Nat} {cur : Array Value} {ds : List α} (hS : St w0 w ks) (hk : ks[i]? = some k) (hA : k.A = some ⟨g, o, Option.none⟩) (hg : w0.heap.size ≤ g) (hh : w.heap[g]? = some (.cells cur k.e (0, 0))) (hs : o + k.c ≤ cur.size) (hm : m ≤ ds.length) (hd : ds.length ≤ k.c) (hc : k.c ≤ maxLen) :
    St w0 (putRow enc (Sort.ahead w q) g o ds.toArray) (ks.set i ⟨k.A, m, k.c, k.e, (ds.take m).map enc⟩) := by
  refine hS.turn hk (by simp [Ck.blk, hA]) (by simp [Ck.blk, hA]) (grownBy_put _) ⟨by simp; omega, by show m ≤ k.c; omega, hc, .inr ⟨g, o, _, hA, hg, heap_put _ hh, by simp only [putCells, Array.size_mapIdx]; exact hs, fun j hj => ?_⟩⟩
  have hj : j < m := hj
  show (putCells enc o ds.toArray cur)[o + j]? = ((ds.take m).map enc)[j]?
  have hlt2 : o + j < cur.size := by omega
  have hjd : j < ds.length := by omega
  simp [putCells, hlt2, hjd, List.getElem?_take, hj]

/-! ascending lists without twins -/
def SA (l : List Int) : Prop := l.Pairwise (· < ·)
theorem SA.asc {l : List Int} (h : SA l) : Asc l := h.imp fun h => by omega
theorem SA.nodup {l : List Int} (h : SA l) : l.Nodup := h.imp fun h => by omega
theorem SA.eq {l l' : List Int} (h : SA l) (h' : SA l') (hm : ∀ x, x ∈ l ↔ x ∈ l') : l = l' := asc_unique ((List.perm_ext_iff_of_nodup h.nodup h'.nodup).2 hm) h.asc h'.asc

def cmpL (xs : List Int) : List Int := Lib.compactUpTo xs.toArray xs.toArray.size
theorem arr_gi (xs : List Int) (j : Nat) : xs.toArray[j]! = gi xs (j : Int) := by
  by_cases h : j < xs.length
  · rw [gi_mem h]; simp [h]
  · have e : gi xs (j : Int) = 0 := by simp [gi, List.getD_eq_getElem?_getD, List.getElem?_eq_none (Nat.not_lt.1 h)]
    rw [e, getElem!_neg _ _ (by simpa using h)]; rfl
theorem cmpL_eq (xs : List Int) : cmpL xs = ((List.range xs.length).filter fun j : Nat => decide (j = 0 ∨ gi xs (j : Int) ≠ gi xs ((j - 1 : Nat) : Int))).map fun j : Nat => gi xs (j : Int) := by
  unfold cmpL Lib.compactUpTo
  rw [List.size_toArray]
  have e1 : Lib.keeps xs.toArray = fun j : Nat => decide (j = 0 ∨ gi xs (j : Int) ≠ gi xs ((j - 1 : Nat) : Int)) := by
    funext j
    unfold Lib.keeps
    rw [arr_gi, arr_gi]
  rw [e1]
  exact List.map_congr_left fun j _ => arr_gi xs j
theorem cmpL_len (xs : List Int) : (cmpL xs).length ≤ xs.length := by
  rw [cmpL_eq, List.length_map]
  have := List.length_filter_le (fun j : Nat => decide (j = 0 ∨ gi xs (j : Int) ≠ gi xs ((j - 1 : Nat) : Int))) (List.range xs.length)
  rwa [List.length_range] at this
theorem cmpL_mem (xs : List Int) (x : Int) : x ∈ cmpL xs ↔ x ∈ xs := by
  rw [cmpL_eq, List.mem_map]
  constructor
  · rintro ⟨j, hj, rfl⟩
    have := List.mem_range.1 (List.mem_filter.1 hj).1
    rw [gi_mem this]; exact List.getElem_mem _
  · intro hx
    obtain ⟨j, hj, hjx⟩ := List.mem_iff_getElem.1 hx
    rw [← gi_mem hj] at hjx
    clear hx
    induction j with
    | zero => exact ⟨0, List.mem_filter.2 ⟨List.mem_range.2 hj, by simp⟩, hjx⟩
    | succ j ih =>
      by_cases h : gi xs ((j + 1 : Nat) : Int) = gi xs ((j : Nat) : Int)
      · exact ih (by omega) (h ▸ hjx)
      · exact ⟨j + 1, List.mem_filter.2 ⟨List.mem_range.2 hj, by simp only [Nat.add_sub_cancel, decide_eq_true_eq]; exact .inr h⟩, hjx⟩
theorem cmpL_SA {xs : List Int} (h : Asc xs) : SA (cmpL xs) := by
  have mono : ∀ a b, a ≤ b → b < xs.length → gi xs (a : Int) ≤ gi xs (b : Int) := fun a b hab hb => by
    rw [gi_mem (by omega), gi_mem hb]
    by_cases e : a = b
    · subst e; exact Int.le_refl _
    · exact (List.pairwise_iff_getElem.1 h) a b (by omega) hb (by omega)
  rw [cmpL_eq]
  unfold SA
  rw [List.pairwise_map]
  have hr : (List.range xs.length).Pairwise (· < ·) := List.pairwise_lt_range
  refine (hr.filter _).imp_of_mem fun {a b} ha hb hab => ?_
  have hb1 := List.mem_range.1 (List.mem_filter.1 hb).1
  have hb2 := of_decide_eq_true (List.mem_filter.1 hb).2
  have h1 := mono a (b - 1) (by omega) (by omega)
  have h2 := mono (b - 1) b (by omega) hb1
  rcases hb2 with hb2 | hb2
  · omega
  · omega
/-- the elements of a list as an ascending list without twins -/
def cs (l : List Int) : List Int := cmpL (srt l)
theorem cs_mem (l : List Int) (x : Int) : x ∈ cs l ↔ x ∈ l := by rw [cs, cmpL_mem]; exact (srt_perm l).mem_iff
theorem cs_SA (l : List Int) : SA (cs l) := cmpL_SA (srt_asc l)
theorem cs_len (l : List Int) : (cs l).length ≤ l.length := by
  have h1 := cmpL_len (srt l)
  rw [(srt_perm l).length_eq] at h1
  exact h1
theorem cs_eq {l l' : List Int} (h : SA l) (hm : ∀ x, x ∈ l ↔ x ∈ l') : l = cs l' := h.eq (cs_SA l') fun x => by rw [hm, cs_mem]
theorem cs_cs (l : List Int) (v : Int) : cs (cs l ++ [v]) = cs (l ++ [v]) := cs_eq (cs_SA _) fun x => by simp [cs_mem]
theorem cs_nil : cs [] = [] := List.eq_nil_of_length_eq_zero (Nat.le_zero.1 (cs_len []))

theorem compact_c {w0 w : World} {ks : List Ck} (i : Nat) {t : TypeId} {A : Option Addr} {n c : Nat} {xs : List Int} (hS : St w0 w ks) (hk : ks[i]? = some (CkI t A n c xs)) (h0 : 0 < n) (hn : n ≤ 1000000000) :
    Ret Try.prog 110 [.slice A n c] w (fun v w' => v = .slice A (cmpL xs).length c ∧ St w0 w' (ks.set i (CkI t A (cmpL xs).length c (cmpL xs)))) := by
  obtain ⟨h1, h2, h3, h4⟩ := hS.get hk
  have hl : xs.length = n := hS.lenI i hk
  have h2 : n ≤ c := h2
  have h3 : c ≤ maxLen := h3
  rcases h4 with ⟨_, hc0⟩ | ⟨g, o, cur, hA, hg, hh, hs, hc⟩
  · have hc0 : c = 0 := hc0
    omega
  have hA : A = some ⟨g, o, none⟩ := hA
  have hs : o + c ≤ cur.size := hs
  have hc : ∀ j, j < n → cur[o + j]? = (xs.map (Value.int .i64))[j]? := hc
  subst hA
  subst hl
  have key := AnyE.slices_Compact lcomp (Value.int .i64) (fun _ => rfl) (EqlAt.intD _ _ .i64) (NeqAt.intD _ _ .i64) (0 : Int) (fun w => Try.zeroValue2 w) g o c xs.toArray w (holds_own hh hc) (by simp; omega) (by simpa using h2)
  refine Calls.mono key fun x w' ⟨hx, q, hw⟩ => ⟨_, hx, rfl, ?_⟩
  subst hw
  have hle := cmpL_len xs
  have h := hS.laid (q := q) (m := (cmpL xs).length) (enc := Value.int .i64) (ds := cmpL xs ++ List.replicate (xs.toArray.size - (cmpL xs).length) 0) hk rfl hg hh hs (by simp) (by simp; show _ ≤ c; omega) h3
  rw [List.take_append_of_le_length (Nat.le_refl _), List.take_length] at h
  exact h

instance : Inhabited SlV := ⟨slNil⟩
theorem delete_c {w0 w : World} {ks : List Ck} (i : Nat) {t : TypeId} {A : Option Addr} {n c a b : Nat} {xs : List SlV} (hS : St w0 w ks) (hk : ks[i]? = some (CkR t A n c xs)) (h0 : 0 < n) (hn : n ≤ 1000000000) (hab : a ≤ b) (hb : b ≤ n) :
    Ret Try.prog 143 [.slice A n c, .int .i64 (a : Int), .int .i64 (b : Int)] w (fun v w' => v = .slice A (n - (b - a)) c ∧ St w0 w' (ks.set i (CkR t A (n - (b - a)) c (xs.take a ++ xs.drop b)))) := by
  obtain ⟨h1, h2, h3, h4⟩ := hS.get hk
  have hl : xs.length = n := (hS.rdR i hk).1
  have h2 : n ≤ c := h2
  have h3 : c ≤ maxLen := h3
  rcases h4 with ⟨_, hc0⟩ | ⟨g, o, cur, hA, hg, hh, hs, hc⟩
  · have hc0 : c = 0 := hc0
    omega
  have hA : A = some ⟨g, o, none⟩ := hA
  have hs : o + c ≤ cur.size := hs
  have hc : ∀ j, j < n → cur[o + j]? = (xs.map SlV.v)[j]? := hc
  subst hA
  subst hl
  obtain ⟨i0, hi0, _, hz1, _⟩ := Inf.get Try.prog 39
  have key := AnyE.slices_Delete ldel SlV.v (fun _ => rfl) slNil (fun w => Try.zeroValue39 w) i0 hi0 hz1 g o c a b xs.toArray w (holds_own hh hc) (by simpa using h2) (by simpa [maxLen] using h3) hab (by simpa using hb)
  refine Calls.mono key fun x w' ⟨hx, q, hw⟩ => ⟨_, hx, by simp, ?_⟩
  subst hw
  have h := hS.laid (q := q) (m := xs.length - (b - a)) (enc := SlV.v) (ds := xs.toArray.toList.take a ++ xs.toArray.toList.drop b ++ List.replicate (b - a) slNil) hk rfl hg hh hs (by simp; omega) (by simp; omega) h3
  have e1 : (xs.toArray.toList.take a ++ xs.toArray.toList.drop b ++ List.replicate (b - a) slNil).take (xs.length - (b - a)) = xs.take a ++ xs.drop b := by
    have e2 : (xs.take a ++ xs.drop b).length = xs.length - (b - a) := by simp; omega
    show (xs.take a ++ xs.drop b ++ List.replicate (b - a) slNil).take _ = _
    rw [← e2, List.take_append_of_le_length (Nat.le_refl _), List.take_length]
  rw [e1] at h
  exact h
end Go.Proofs.Ytpdhjnacnmfbjaa.Vc
