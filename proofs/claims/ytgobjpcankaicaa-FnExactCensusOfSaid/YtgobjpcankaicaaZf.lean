/-
  The texts D2, C6, C7, Rpl, C8, D3, F4, N1, G1, G2 in one. Conditions: as each part states them.
-/
import Derived.Test.YtgobjpcankaicaaLayb
import Derived.Test.YtgobjpcankaicaaZe
import Derived.Shelf.SlicesE.Compact
import Derived.Shelf.SlicesE.Delete
import Derived.Test.YtgobjpcankaicaaZc
import Derived.Test.YtgobjpcankaicaaZb
import Derived.Test.YtgobjpcankaicaaZd
/-
  The library's Compact of an ascending list of one's own, and its Delete in a list of lists of one's own; sets as ascending lists. Conditions: as each states them.
-/
namespace Go.Proofs.Ytgobjpcankaicaa.Vc
open Go.RowKit Go.Sort

/-! what the library leaves in a row of one's own -/
theorem heap_put {α : Type} [Inhabited α] {enc : α → Value} {w : World} {g q off : Nat} {cur : Array Value} {e : TypeId} {fr : Nat × Nat} (d : Array α) (hb : w.heap[g]? = some (.cells cur e fr)) :
    (putRow enc (Sort.ahead w q) g off d).heap[g]? = some (.cells (putCells enc off d cur) e fr) := by
  simp [putRow, mapBlock, Sort.ahead, Array.getElem?_modify, hb, onCells]
theorem grownBy_put {α : Type} [Inhabited α] {enc : α → Value} {w : World} {g q off : Nat} (d : Array α) : GrB w (putRow enc (Sort.ahead w q) g off d) (some g) := by
  refine ⟨⟨rfl, rfl, rfl, by simp [Sort.ahead], fun k hk hne => ?_⟩, Nat.le_add_right _ _⟩
  have : g ≠ k := fun e => hne (by rw [e])
  simp [putRow, mapBlock, Sort.ahead, Array.getElem?_modify, this]
theorem holds_own {α : Type} [Inhabited α] {enc : α → Value} {w : World} {g o : Nat} {cur : Array Value} {e : TypeId} {ds : List α} (hh : w.heap[g]? = some (.cells cur e (0, 0))) (hc : ∀ j, j < ds.length → cur[o + j]? = (ds.map enc)[j]?) : Holds enc w g o ds.toArray := fun j hj => by
  have hj' : j < ds.length := by simpa using hj
  refine ⟨?_, by simp [World.frozen?, hh]⟩
  simp only [World.cell?, hh]
  simp only [Option.isSome_none, Bool.false_eq_true, if_false]
  rw [hc j hj']
  simp [hj']
/-- a row of one's own, laid anew by the library, and cut -/
theorem St.laid {α : Type} [Inhabited α] {enc : α → Value} {w0 w : World} {ks : List Ck} {i : Nat} {k : Ck} {g o q m : Nat} {cur : Array Value} {ds : List α} (hS : St w0 w ks) (hk : ks[i]? = some k) (hA : k.A = some ⟨g, o, Option.none⟩) (hg : w0.heap.size ≤ g) (hh : w.heap[g]? = some (.cells cur k.e (0, 0))) (hs : o + k.c ≤ cur.size) (hm : m ≤ ds.length) (hd : ds.length ≤ k.c) (hc : k.c ≤ maxLen) (he1 : ∀ x, (enc x).oneCell' = true := by intro _; rfl) :
    St w0 (putRow enc (Sort.ahead w q) g o ds.toArray) (ks.set i ⟨k.A, m, k.c, k.e, (ds.take m).map enc⟩) := by
  refine hS.turn hk (by simp [Ck.blk, hA]) (by simp [Ck.blk, hA]) (grownBy_put _) (.ofC (isM_all fun v hv => by obtain ⟨x, _, rfl⟩ := List.mem_map.1 hv; exact he1 x) ⟨by simp; omega, by show m ≤ k.c; omega, hc, .inr ⟨g, o, _, hA, hg, heap_put _ hh, by simp only [putCells, Array.size_mapIdx]; exact hs, fun j hj => ?_⟩⟩)
  have hj : j < m := hj
  show (putCells enc o ds.toArray cur)[o + j]? = ((ds.take m).map enc)[j]?
  have hlt2 : o + j < cur.size := by omega
  have hjd : j < ds.length := by omega
  simp [putCells, hlt2, hjd, List.getElem?_take, hj]

/-! ascending lists without twins -/
def SA (l : List Int) : Prop := l.Pairwise (· < ·)
theorem SA.asc {l : List Int} (h : SA l) : Asc l := h.imp fun h => by omega
theorem SA.nodup {l : List Int} (h : SA l) : l.Nodup := h.imp fun h => by omega
theorem SA.eq {l l' : List Int} (h : SA l) (h' : SA l') (hm : ∀ x, x ∈ l ↔ x ∈ l') : l = l' := asc_unique ((List.perm_ext_iff_of_nodup h.nodup h'.nodup).2 hm) h.asc h'.asc

def cmpL (xs : List Int) : List Int := Lib.compactUpTo xs.toArray xs.toArray.size
theorem arr_gi (xs : List Int) (j : Nat) : xs.toArray[j]! = gi xs (j : Int) := by
  by_cases h : j < xs.length
  · rw [gi_mem h]; simp [h]
  · have e : gi xs (j : Int) = 0 := by simp [gi, List.getD_eq_getElem?_getD, List.getElem?_eq_none (Nat.not_lt.1 h)]
    rw [e, getElem!_neg _ _ (by simpa using h)]; rfl
theorem cmpL_eq (xs : List Int) : cmpL xs = ((List.range xs.length).filter fun j : Nat => decide (j = 0 ∨ gi xs (j : Int) ≠ gi xs ((j - 1 : Nat) : Int))).map fun j : Nat => gi xs (j : Int) := by
  unfold cmpL Lib.compactUpTo
  rw [List.size_toArray]
  have e1 : Lib.keeps xs.toArray = fun j : Nat => decide (j = 0 ∨ gi xs (j : Int) ≠ gi xs ((j - 1 : Nat) : Int)) := by
    funext j
    unfold Lib.keeps
    rw [arr_gi, arr_gi]
  rw [e1]
  exact List.map_congr_left fun j _ => arr_gi xs j
theorem cmpL_len (xs : List Int) : (cmpL xs).length ≤ xs.length := by
  rw [cmpL_eq, List.length_map]
  have := List.length_filter_le (fun j : Nat => decide (j = 0 ∨ gi xs (j : Int) ≠ gi xs ((j - 1 : Nat) : Int))) (List.range xs.length)
  rwa [List.length_range] at this
theorem cmpL_mem (xs : List Int) (x : Int) : x ∈ cmpL xs ↔ x ∈ xs := by
  rw [cmpL_eq, List.mem_map]
  constructor
  · rintro ⟨j, hj, rfl⟩
    have := List.mem_range.1 (List.mem_filter.1 hj).1
    rw [gi_mem this]; exact List.getElem_mem _
  · intro hx
    obtain ⟨j, hj, hjx⟩ := List.mem_iff_getElem.1 hx
    rw [← gi_mem hj] at hjx
    clear hx
    induction j with
    | zero => exact ⟨0, List.mem_filter.2 ⟨List.mem_range.2 hj, by simp⟩, hjx⟩
    | succ j ih =>
      by_cases h : gi xs ((j + 1 : Nat) : Int) = gi xs ((j : Nat) : Int)
      · exact ih (by omega) (h ▸ hjx)
      · exact ⟨j + 1, List.mem_filter.2 ⟨List.mem_range.2 hj, by simp only [Nat.add_sub_cancel, decide_eq_true_eq]; exact .inr h⟩, hjx⟩
theorem cmpL_SA {xs : List Int} (h : Asc xs) : SA (cmpL xs) := by
  have mono : ∀ a b, a ≤ b → b < xs.length → gi xs (a : Int) ≤ gi xs (b : Int) := fun a b hab hb => by
    rw [gi_mem (by omega), gi_mem hb]
    by_cases e : a = b
    · subst e; exact Int.le_refl _
    · exact (List.pairwise_iff_getElem.1 h) a b (by omega) hb (by omega)
  rw [cmpL_eq]
  unfold SA
  rw [List.pairwise_map]
  have hr : (List.range xs.length).Pairwise (· < ·) := List.pairwise_lt_range
  refine (hr.filter _).imp_of_mem fun {a b} ha hb hab => ?_
  have hb1 := List.mem_range.1 (List.mem_filter.1 hb).1
  have hb2 := of_decide_eq_true (List.mem_filter.1 hb).2
  have h1 := mono a (b - 1) (by omega) (by omega)
  have h2 := mono (b - 1) b (by omega) hb1
  rcases hb2 with hb2 | hb2
  · omega
  · omega
/-- the elements of a list as an ascending list without twins -/
def cs (l : List Int) : List Int := cmpL (srt l)
theorem cs_mem (l : List Int) (x : Int) : x ∈ cs l ↔ x ∈ l := by rw [cs, cmpL_mem]; exact (srt_perm l).mem_iff
theorem cs_SA (l : List Int) : SA (cs l) := cmpL_SA (srt_asc l)
theorem cs_len (l : List Int) : (cs l).length ≤ l.length := by
  have h1 := cmpL_len (srt l)
  rw [(srt_perm l).length_eq] at h1
  exact h1
theorem cs_eq {l l' : List Int} (h : SA l) (hm : ∀ x, x ∈ l ↔ x ∈ l') : l = cs l' := h.eq (cs_SA l') fun x => by rw [hm, cs_mem]
theorem cs_cs (l : List Int) (v : Int) : cs (cs l ++ [v]) = cs (l ++ [v]) := cs_eq (cs_SA _) fun x => by simp [cs_mem]
theorem cs_nil : cs [] = [] := List.eq_nil_of_length_eq_zero (Nat.le_zero.1 (cs_len []))

theorem compact_c {w0 w : World} {ks : List Ck} (i : Nat) {t : TypeId} {A : Option Addr} {n c : Nat} {xs : List Int} (hS : St w0 w ks) (hk : ks[i]? = some (CkI t A n c xs)) (h0 : 0 < n) (hn : n ≤ 1000000000) :
    Ret Try.prog 148 [.slice A n c] w (fun v w' => v = .slice A (cmpL xs).length c ∧ St w0 w' (ks.set i (CkI t A (cmpL xs).length c (cmpL xs)))) := by
  obtain ⟨h1, h2, h3, h4⟩ := hS.getC hk (isM_I _)
  have hl : xs.length = n := hS.lenI i hk
  have h2 : n ≤ c := h2
  have h3 : c ≤ maxLen := h3
  rcases h4 with ⟨_, hc0⟩ | ⟨g, o, cur, hA, hg, hh, hs, hc⟩
  · have hc0 : c = 0 := hc0
    omega
  have hA : A = some ⟨g, o, none⟩ := hA
  have hs : o + c ≤ cur.size := hs
  have hc : ∀ j, j < n → cur[o + j]? = (xs.map (Value.int .i64))[j]? := hc
  subst hA
  subst hl
  have key := AnyE.slices_Compact lcomp (Value.int .i64) (fun _ => rfl) (EqlAt.intD _ _ .i64) (NeqAt.intD _ _ .i64) (0 : Int) (fun w => Try.zeroValue2 w) g o c xs.toArray w (holds_own hh hc) (by simp; omega) (by simpa using h2)
  refine Calls.mono key fun x w' ⟨hx, q, hw⟩ => ⟨_, hx, rfl, ?_⟩
  subst hw
  have hle := cmpL_len xs
  have h := hS.laid (q := q) (m := (cmpL xs).length) (enc := Value.int .i64) (ds := cmpL xs ++ List.replicate (xs.toArray.size - (cmpL xs).length) 0) hk rfl hg hh hs (by simp) (by simp; show _ ≤ c; omega) h3
  rw [List.take_append_of_le_length (Nat.le_refl _), List.take_length] at h
  exact h

instance : Inhabited SlV := ⟨slNil⟩
theorem delete_c {w0 w : World} {ks : List Ck} (i : Nat) {t : TypeId} {A : Option Addr} {n c a b : Nat} {xs : List SlV} (hS : St w0 w ks) (hk : ks[i]? = some (CkR t A n c xs)) (h0 : 0 < n) (hn : n ≤ 1000000000) (hab : a ≤ b) (hb : b ≤ n) :
    Ret Try.prog 203 [.slice A n c, .int .i64 (a : Int), .int .i64 (b : Int)] w (fun v w' => v = .slice A (n - (b - a)) c ∧ St w0 w' (ks.set i (CkR t A (n - (b - a)) c (xs.take a ++ xs.drop b)))) := by
  obtain ⟨h1, h2, h3, h4⟩ := hS.getC hk (isM_R _)
  have hl : xs.length = n := (hS.rdR i hk).1
  have h2 : n ≤ c := h2
  have h3 : c ≤ maxLen := h3
  rcases h4 with ⟨_, hc0⟩ | ⟨g, o, cur, hA, hg, hh, hs, hc⟩
  · have hc0 : c = 0 := hc0
    omega
  have hA : A = some ⟨g, o, none⟩ := hA
  have hs : o + c ≤ cur.size := hs
  have hc : ∀ j, j < n → cur[o + j]? = (xs.map SlV.v)[j]? := hc
  subst hA
  subst hl
  obtain ⟨i0, hi0, _, hz1, _⟩ := Inf.get Try.prog 33
  have key := AnyE.slices_Delete ldel SlV.v (fun _ => rfl) slNil (fun w => Try.zeroValue33 w) i0 hi0 hz1 g o c a b xs.toArray w (holds_own hh hc) (by simpa using h2) (by simpa [maxLen] using h3) hab (by simpa using hb)
  refine Calls.mono key fun x w' ⟨hx, q, hw⟩ => ⟨_, hx, by simp, ?_⟩
  subst hw
  have h := hS.laid (q := q) (m := xs.length - (b - a)) (enc := SlV.v) (ds := xs.toArray.toList.take a ++ xs.toArray.toList.drop b ++ List.replicate (b - a) slNil) hk rfl hg hh hs (by simp; omega) (by simp; omega) h3
  have e1 : (xs.toArray.toList.take a ++ xs.toArray.toList.drop b ++ List.replicate (b - a) slNil).take (xs.length - (b - a)) = xs.take a ++ xs.drop b := by
    have e2 : (xs.take a ++ xs.drop b).length = xs.length - (b - a) := by simp; omega
    show (xs.take a ++ xs.drop b ++ List.replicate (b - a) slNil).take _ = _
    rw [← e2, List.take_append_of_le_length (Nat.le_refl _), List.take_length]
  rw [e1] at h
  exact h
end Go.Proofs.Ytgobjpcankaicaa.Vc
/-
  The walks of the laws' marks, which tell memory apart. Conditions: as each states them.
-/
namespace Go.Proofs.Ytgobjpcankaicaa.Vc
open Go.RowKit

theorem set_id {α : Type} {l : List α} {i : Nat} {x : α} (h : l[i]? = some x) : l.set i x = l := by
  apply List.ext_getElem?
  intro j
  rw [List.getElem?_set]
  split
  · rename_i e; subst e
    rw [if_pos (List.getElem?_eq_some_iff.1 h).1, h]
  · rfl
theorem Rd.one {w : World} {A : Option Addr} {n : Nat} {f : Nat → Value} (h : Rd w A (n + 1) f) : Rd w A 1 (fun _ => f 0) := fun j hj => by
  obtain rfl : j = 0 := by omega
  exact h 0 (by omega)

theorem small_of {n : Nat} {rs : List SlV} (hl : rs.length = n) (h : 0 ≤ szSS (lens rs) 1048576) : n ≤ 1048576 ∧ ∀ i, i < n → (rs.getD i slNil).n ≤ 1048576 := by
  have h1 := szSS_fits (by omega) h
  refine ⟨by have := h1.2.1; simp [lens] at this; omega, fun i hi => ?_⟩
  have := h1.2.2 (rs.getD i slNil).n (by
    simp only [lens, List.mem_map]
    exact ⟨rs[i]'(by omega), List.getElem_mem _, by simp [List.getD_eq_getElem?_getD, List.getElem?_eq_getElem (show i < rs.length by omega)]⟩)
  omega

/-- the marks from k on -/
def marks (k : Int) (n : Nat) : List Int := (List.range n).map fun j : Nat => k + (j : Int)
theorem marks_len (k : Int) (n : Nat) : (marks k n).length = n := by simp [marks]
theorem marks_get {k : Int} {n j : Nat} (h : j < n) : gi (marks k n) (j : Int) = k + j := by simp [gi, marks, List.getD_eq_getElem?_getD, h]

theorem markInt64S_c {w0 w : World} {ks : List Ck} (i : Nat) {t : TypeId} {A : Option Addr} {n c : Nat} {xs : List Int} (k : Int) (hS : St w0 w ks) (hk : ks[i]? = some (CkI t A n c xs)) (hk0 : 0 ≤ k ∧ k + n ≤ 4611686018427387904) :
    Ret Try.prog 26 [.slice A n c, .int .i64 k] w (fun v w' => v = .int .i64 (k + n) ∧ St w0 w' (ks.set i (CkI t A n c (marks k n)))) := by
  have hil : i < ks.length := (List.getElem?_eq_some_iff.1 hk).1
  have hxl : xs.length = n := hS.lenI i hk
  have get : ∀ l, (ks.set i (CkI t A n c l))[i]? = some (CkI t A n c l) := fun l => by simp [hil]
  have hS0 : St w0 w (ks.set i (CkI t A n c xs)) := by rwa [set_id hk]
  refine Ret.of_cd Try.func26 rfl Try.ntmps26 rfl (post1 rfl) ?_
  refine Cd.seq ?_
  refine Cd.region ?_
  refine Ops.mv_int rfl rfl rfl ?_
  refine Ops.nil ?_
  refine thenQ_n ?_
  refine Cd.seq ?_
  refine Cd.seq ?_
  refine Cd.region ?_
  refine Ops.mv_int rfl rfl rfl ?_
  refine Ops.nil ?_
  refine thenQ_n ?_
  refine Cd.block ?_
  -- stop: loop
  refine Cd.loop (α := Nat × List Int) (fun z => [(0, .slice A n c), (1, .int .i64 (k + (z.1 : Int))), (5, .int .i64 (z.1 : Int))]) (fun z w' => St w0 w' (ks.set i (CkI t A n c z.2)) ∧ z.1 ≤ n ∧ z.2.length = n ∧ ∀ j, j < z.1 → z.2[j]? = some (k + (j : Int))) (fun z => n - z.1) (0, xs) ⟨rfl, by show Value.int .i64 _ = .int .i64 _; simp, rfl, trivial⟩ ⟨hS0, Nat.zero_le _, hxl, fun j hj => by omega⟩ ?_
  rintro ⟨m, l⟩ e w1 ⟨hS1, hm, hll, hK⟩
  dsimp only at hS1 hm hll hK ⊢
  refine Cd.seq ?_
  refine Cd.seq ?_
  refine Cd.region ?_
  refine Ops.mv_int rfl rfl rfl ?_
  refine Ops.mv_sl rfl rfl rfl ?_
  refine Ops.len rfl rfl ?_
  refine Ops.lss rfl rfl rfl ?_
  refine Ops.nil ?_
  refine thenQ_n ?_
  -- stop: cond
  refine Cd.cond_p _ rfl (fun h1 => ?_) (fun h1 => ?_)
  · refine Cd.skip ?_
    refine thenQ_n ?_
    refine Cd.seq ?_
    refine Cd.block ?_
    refine Cd.seq ?_
    refine Cd.region ?_
    refine Ops.mv_sl rfl rfl rfl ?_
    refine Ops.mv_int rfl rfl rfl ?_
    refine Ops.mv_int rfl rfl rfl ?_
    -- stop: INDEXADDR 33 t12 t13 -> 15
    refine Ops.idx (hS1.rdI i (get l)).2 rfl rfl rfl (by omega) (by omega) ?_
    refine Ops.st_int i hS1 (get l) rfl rfl (by omega) ?_
    intro w2 hS2
    rw [List.set_set] at hS2
    refine Ops.nil ?_
    refine thenQ_n ?_
    refine Cd.region ?_
    refine Ops.mv_int rfl rfl rfl ?_
    refine Ops.add rfl rfl rfl (by omega) ?_
    refine Ops.mv_int rfl rfl rfl ?_
    refine Ops.nil ?_
    refine blockQ_n ?_
    refine thenQ_n ?_
    refine Cd.region ?_
    refine Ops.mv_int rfl rfl rfl ?_
    refine Ops.add rfl rfl rfl (by omega) ?_
    refine Ops.mv_int rfl rfl rfl ?_
    refine Ops.nil ?_
    refine thenQ_n ?_
    -- stop: round
    refine ⟨(m + 1, l.set m (k + m)), by show n - (m + 1) < n - m; omega, ⟨rfl, by show Value.int .i64 _ = .int .i64 _; congr 1; show _ = k + ((m + 1 : Nat) : Int); omega, rfl, trivial⟩, hS2, by show m + 1 ≤ n; omega, by show (l.set m _).length = n; rw [List.length_set]; exact hll, fun j hj => ?_⟩
    show (l.set m (k + m))[j]? = _
    rw [List.getElem?_set]
    by_cases ej : m = j
    · subst ej; rw [if_pos rfl, if_pos (by omega)]
    · rw [if_neg ej]; exact hK j (by have : j < m + 1 := hj; omega)
  · refine Cd.exit ?_
    refine thenQ_x ?_
    refine thenQ_x ?_
    refine blockQ_x ?_
    refine thenQ_n ?_
    refine Cd.seq ?_
    refine Cd.region ?_
    refine Ops.mv_int rfl rfl rfl ?_
    refine Ops.mv_int rfl rfl rfl ?_
    refine Ops.nil ?_
    refine thenQ_n ?_
    refine Cd.ret ?_
    refine ret1_i rfl ?_
    -- stop: end
    have hmn : m = n := by omega
    subst hmn
    have he : l = marks k m := by
      apply List.ext_getElem?
      intro j
      by_cases hj : j < m
      · rw [hK j hj]; simp [marks, hj]
      · rw [List.getElem?_eq_none (by omega), List.getElem?_eq_none (by rw [marks_len]; omega)]
    subst he
    exact ⟨rfl, hS1⟩

theorem heldInt64S_c (A : Option Addr) (n c : Nat) (k : Int) (w : World) (hR : RdI w A n (marks k n)) (hk0 : 0 ≤ k ∧ k + n ≤ 4611686018427387904) :
    Ret Try.prog 27 [.slice A n c, .int .i64 k] w (fun v w' => v = .int .i64 (k + n) ∧ w' = w) := by
  refine Ret.of_cd Try.func27 rfl Try.ntmps27 rfl (post1 rfl) ?_
  refine Cd.seq ?_
  refine Cd.region ?_
  refine Ops.mv_int rfl rfl rfl ?_
  refine Ops.nil ?_
  refine thenQ_n ?_
  refine Cd.seq ?_
  refine Cd.seq ?_
  refine Cd.region ?_
  refine Ops.mv_int rfl rfl rfl ?_
  refine Ops.nil ?_
  refine thenQ_n ?_
  refine Cd.block ?_
  -- stop: loop
  refine Cd.loop (α := Nat) (fun z => [(0, .slice A n c), (1, .int .i64 (k + (z : Int))), (5, .int .i64 (z : Int))]) (fun z w' => w' = w ∧ z ≤ n) (fun z => n - z) 0 ⟨rfl, by show Value.int .i64 _ = .int .i64 _; simp, rfl, trivial⟩ ⟨rfl, Nat.zero_le _⟩ ?_
  rintro m e w ⟨rfl, hm⟩
  refine Cd.seq ?_
  refine Cd.seq ?_
  refine Cd.region ?_
  refine Ops.mv_int rfl rfl rfl ?_
  refine Ops.mv_sl rfl rfl rfl ?_
  refine Ops.len rfl rfl ?_
  refine Ops.lss rfl rfl rfl ?_
  refine Ops.nil ?_
  refine thenQ_n ?_
  -- stop: cond
  refine Cd.cond_p _ rfl (fun h1 => ?_) (fun h1 => ?_)
  · have hg := marks_get (k := k) (n := n) (j := m) (by omega)
    refine Cd.skip ?_
    refine thenQ_n ?_
    refine Cd.seq ?_
    refine Cd.block ?_
    refine Cd.seq ?_
    refine Cd.seq ?_
    refine Cd.region ?_
    refine Ops.mv_sl rfl rfl rfl ?_
    refine Ops.mv_int rfl rfl rfl ?_
    -- stop: INDEXADDR 33 t12 t13 -> 14
    refine Ops.idx hR.2 rfl rfl rfl (by omega) (by omega) ?_
    refine Ops.ld_int hR rfl (by omega) rfl rfl ?_
    rw [hg]
    refine Ops.mv_int rfl rfl rfl ?_
    refine Ops.neq rfl rfl rfl ?_
    refine Ops.nil ?_
    refine thenQ_n ?_
    -- stop: cond
    refine Cd.cond_pf rfl (fun h => h rfl) ?_
    refine Cd.skip ?_
    refine thenQ_n ?_
    refine Cd.region ?_
    refine Ops.mv_int rfl rfl rfl ?_
    refine Ops.add rfl rfl rfl (by omega) ?_
    refine Ops.mv_int rfl rfl rfl ?_
    refine Ops.nil ?_
    refine blockQ_n ?_
    refine thenQ_n ?_
    refine Cd.region ?_
    refine Ops.mv_int rfl rfl rfl ?_
    refine Ops.add rfl rfl rfl (by omega) ?_
    refine Ops.mv_int rfl rfl rfl ?_
    refine Ops.nil ?_
    refine thenQ_n ?_
    -- stop: round
    exact ⟨m + 1, by show n - (m + 1) < n - m; omega, ⟨rfl, by show Value.int .i64 _ = .int .i64 _; congr 1; show _ = k + ((m + 1 : Nat) : Int); omega, rfl, trivial⟩, rfl, by show m + 1 ≤ n; omega⟩
  · refine Cd.exit ?_
    refine thenQ_x ?_
    refine thenQ_x ?_
    refine blockQ_x ?_
    refine thenQ_n ?_
    refine Cd.seq ?_
    refine Cd.region ?_
    refine Ops.mv_int rfl rfl rfl ?_
    refine Ops.mv_int rfl rfl rfl ?_
    refine Ops.nil ?_
    refine thenQ_n ?_
    refine Cd.ret ?_
    refine ret1_i rfl ?_
    -- stop: end
    have hmn : m = n := by omega
    subst hmn
    exact ⟨rfl, rfl⟩

theorem markInt64SS_c {w0 w : World} {pre post : List Ck} {t1 t2 : TypeId} {A : Option Addr} {n c : Nat} {rs : List SlV} {xss : List (List Int)} (k : Int) (hS : St w0 w (pre ++ (mat t1 t2 A n c rs xss ++ post))) (hrl : rs.length = n) (hxl : xss.length = n) (hn : n ≤ 1048576) (hr : ∀ i, i < n → (rs.getD i slNil).n ≤ 1048576) (hk0 : 0 ≤ k ∧ k ≤ 1048576) :
    Ret Try.prog 63 [.slice A n c, .int .i64 k] w (fun v w' => ∃ (K : Int) (xss' : List (List Int)), v = .int .i64 K ∧ (0 ≤ K ∧ K ≤ 2199023255552) ∧ xss'.length = n ∧ St w0 w' (pre ++ (mat t1 t2 A n c rs xss' ++ post))) := by
  refine Ret.of_cd Try.func63 rfl Try.ntmps63 rfl (post1 rfl) ?_
  refine Cd.seq ?_
  refine Cd.region ?_
  refine Ops.mv_int rfl rfl rfl ?_
  refine Ops.nil ?_
  refine thenQ_n ?_
  refine Cd.seq ?_
  refine Cd.seq ?_
  refine Cd.region ?_
  refine Ops.mv_int rfl rfl rfl ?_
  refine Ops.nil ?_
  refine thenQ_n ?_
  refine Cd.block ?_
  -- stop: loop
  refine Cd.loop (α := Nat × Int × List (List Int)) (fun z => [(0, .slice A n c), (1, .int .i64 z.2.1), (5, .int .i64 (z.1 : Int))]) (fun z w' => St w0 w' (pre ++ (mat t1 t2 A n c rs z.2.2 ++ post)) ∧ z.1 ≤ n ∧ z.2.2.length = n ∧ 0 ≤ z.2.1 ∧ z.2.1 ≤ 1048576 + (z.1 : Int) * 1048576) (fun z => n - z.1) (0, k, xss) ⟨rfl, rfl, rfl, trivial⟩ ⟨hS, Nat.zero_le _, hxl, hk0.1, by simp; exact hk0.2⟩ ?_
  rintro ⟨i, K, ys⟩ e w1 ⟨hS1, hi, hyl, hK0, hK1⟩
  dsimp only at hS1 hi hyl hK0 hK1 ⊢
  have hM := (hS1.sub (List.sublist_append_right _ _)).rowsI hyl
  refine Cd.seq ?_
  refine Cd.seq ?_
  refine Cd.region ?_
  refine Ops.mv_int rfl rfl rfl ?_
  refine Ops.mv_sl rfl rfl rfl ?_
  refine Ops.len rfl rfl ?_
  refine Ops.lss rfl rfl rfl ?_
  refine Ops.nil ?_
  refine thenQ_n ?_
  -- stop: cond
  refine Cd.cond_p _ rfl (fun h1 => ?_) (fun h1 => ?_)
  · have hi' : i < n := by omega
    have hri := hr i hi'
    have hget := mat_get (t1 := t1) (t2 := t2) (A := A) (n := n) (c := c) (rs := rs) (xss := ys) (pre := pre) (ks := post) (i := i) (by omega) (by omega)
    have hset := fun l => mat_set (t1 := t1) (t2 := t2) (A := A) (n := n) (c := c) (rs := rs) (xss := ys) (pre := pre) (ks := post) (i := i) (xs := l) (by omega) (by omega)
    refine Cd.skip ?_
    refine thenQ_n ?_
    refine Cd.seq ?_
    refine Cd.block ?_
    refine Cd.region ?_
    refine Ops.mv_sl rfl rfl rfl ?_
    refine Ops.mv_int rfl rfl rfl ?_
    -- stop: INDEXADDR 22 t12 t13 -> 14
    refine Ops.idx hM.top.2 rfl rfl rfl (by omega) h1 ?_
    refine Ops.ld_sl hM.top rfl (by omega) rfl rfl ?_
    refine Ops.mv_int rfl rfl rfl ?_
    -- stop: CALL laws.markInt64S(t15, t16) -> 17
    refine Ops.call (markInt64S_c (pre.length + 1 + i) K hS1 hget ⟨hK0, by omega⟩) rfl rfl rfl ?_
    rintro _ w2 ⟨rfl, hS2⟩
    rw [hset] at hS2
    refine Ops.mv_int rfl rfl rfl ?_
    refine Ops.nil ?_
    refine blockQ_n ?_
    refine thenQ_n ?_
    refine Cd.region ?_
    refine Ops.mv_int rfl rfl rfl ?_
    refine Ops.add rfl rfl rfl (by omega) ?_
    refine Ops.mv_int rfl rfl rfl ?_
    refine Ops.nil ?_
    refine thenQ_n ?_
    -- stop: round
    exact ⟨(i + 1, K + ((rs.getD i slNil).n : Int), ys.set i (marks K (rs.getD i slNil).n)), by show n - (i + 1) < n - i; omega, ⟨rfl, rfl, rfl, trivial⟩, hS2, by show i + 1 ≤ n; omega, by show (ys.set i _).length = n; rw [List.length_set]; exact hyl, by show 0 ≤ K + _; omega, by show K + _ ≤ 1048576 + ((i + 1 : Nat) : Int) * 1048576; omega⟩
  · refine Cd.exit ?_
    refine thenQ_x ?_
    refine thenQ_x ?_
    refine blockQ_x ?_
    refine thenQ_n ?_
    refine Cd.seq ?_
    refine Cd.region ?_
    refine Ops.mv_int rfl rfl rfl ?_
    refine Ops.mv_int rfl rfl rfl ?_
    refine Ops.nil ?_
    refine thenQ_n ?_
    refine Cd.ret ?_
    refine ret1_i rfl ?_
    -- stop: end
    exact ⟨K, ys, rfl, ⟨hK0, by omega⟩, hyl, hS1⟩

theorem markManiplex_c {w0 w : World} {pre post : List Ck} {t1 t2 : TypeId} {A : Option Addr} {n c : Nat} {rs : List SlV} {xss : List (List Int)} (k : Int) (hS : St w0 w (pre ++ (mat t1 t2 A n c rs xss ++ post))) (hrl : rs.length = n) (hxl : xss.length = n) (hn : n ≤ 1048576) (hr : ∀ i, i < n → (rs.getD i slNil).n ≤ 1048576) (hk0 : 0 ≤ k ∧ k ≤ 1048576) :
    Ret Try.prog 25 [.agg #[.slice A n c], .int .i64 k] w (fun v w' => ∃ (K : Int) (xss' : List (List Int)), v = .int .i64 K ∧ (0 ≤ K ∧ K ≤ 2199023255552) ∧ xss'.length = n ∧ St w0 w' (pre ++ (mat t1 t2 A n c rs xss' ++ post))) := by
  refine Ret.of_cd Try.func25 rfl Try.ntmps25 rfl (post1 rfl) ?_
  refine Cd.seq ?_
  refine Cd.region ?_
  -- stop: BOX 24 t0=a -> 2
  refine Ops.box1 hS rfl rfl ?_
  intro Ab w1 hS1
  refine Ops.mv_int rfl rfl rfl ?_
  refine Ops.nil ?_
  refine thenQ_n ?_
  refine Cd.seq ?_
  refine Cd.region ?_
  -- stop: FIELDADDR 24 t2=a 0 -> 5
  refine Ops.fld (hS1.rd 0 rfl) rfl rfl rfl rfl inferInstance ?_
  refine Ops.ldf_s (hS1.rd 0 rfl) rfl rfl rfl rfl rfl ?_
  refine Ops.mv_int rfl rfl rfl ?_
  -- stop: CALL laws.markInt64SS(t6, t7) -> 8
  refine Ops.call (markInt64SS_c (pre := Bx 24 1 Ab [.slice A n c] :: pre) (post := post) (rs := rs) k hS1 hrl hxl hn hr hk0) rfl rfl rfl ?_
  rintro _ w2 ⟨K, ys, rfl, hK, hyl, hS2⟩
  refine Ops.mv_int rfl rfl rfl ?_
  refine Ops.nil ?_
  refine thenQ_n ?_
  refine Cd.seq ?_
  refine Cd.region ?_
  refine Ops.mv_int rfl rfl rfl ?_
  refine Ops.mv_int rfl rfl rfl ?_
  refine Ops.nil ?_
  refine thenQ_n ?_
  refine Cd.ret ?_
  refine ret1_i rfl ?_
  -- stop: end
  exact ⟨K, ys, rfl, hK, hyl, St.tail hS2⟩
end Go.Proofs.Ytgobjpcankaicaa.Vc
/-
  The walk of the law FnExactPetrieCycles: it returns true. Conditions: as it states them.
-/
namespace Go.Proofs.Ytgobjpcankaicaa.Vc
open Go.RowKit

theorem St.matNil {w0 w : World} {t1 t2 : TypeId} {A : Option Addr} {n c : Nat} {rs : List SlV} {xss : List (List Int)} {pre : List Ck} (h : St w0 w (pre ++ mat t1 t2 A n c rs xss)) : St w0 w (pre ++ (mat t1 t2 A n c rs xss ++ [])) := by rwa [List.append_nil]

end Go.Proofs.Ytgobjpcankaicaa.Vc
/-
  The walk of slices.Repeat at a list of some numbers. Conditions: as it states them.
-/
namespace Go.Proofs.Ytgobjpcankaicaa.Vc
open Go.RowKit

/-- n copies of a list, one behind the other -/
def pow (xs : List Int) (n : Nat) : List Int := (List.replicate n xs).flatten
theorem pow_len (xs : List Int) (n : Nat) : (pow xs n).length = xs.length * n := by simp [pow, Nat.mul_comm]
theorem pow_succ (xs : List Int) (n : Nat) : pow xs (n + 1) = pow xs n ++ xs := by simp [pow, List.replicate_succ']
theorem pow_succ' (xs : List Int) (n : Nat) : pow xs (n + 1) = xs ++ pow xs n := by simp [pow, List.replicate_succ]
theorem pow_get {xs : List Int} (h : 0 < xs.length) : ∀ (n j : Nat), j < xs.length * n → (pow xs n)[j]? = xs[j % xs.length]?
  | 0, j, hj => by simp at hj
  | n + 1, j, hj => by
    rw [pow_succ']
    by_cases hx : j < xs.length
    · rw [List.getElem?_append_left hx, Nat.mod_eq_of_lt hx]
    · rw [List.getElem?_append_right (by omega), pow_get h n _ (by rw [Nat.mul_succ] at hj; omega), ← Nat.mod_eq_sub_mod (by omega)]
theorem pow_shift {xs : List Int} (h : 0 < xs.length) {n m j : Nat} (hm : xs.length ∣ m) (hj : m + j < xs.length * n) : (pow xs n)[m + j]? = (pow xs n)[j]? := by
  rw [pow_get h n _ hj, pow_get h n _ (by omega)]
  obtain ⟨q, rfl⟩ := hm
  rw [Nat.add_comm, Nat.add_mul_mod_self_left]

/-- what a part of the copies looks like -/
def part (T : List Int) (m : Nat) : List Int := T.take m ++ List.replicate (T.length - m) 0
theorem part_len {T : List Int} {m : Nat} (h : m ≤ T.length) : (part T m).length = T.length := by simp [part]; omega
theorem part_get {T : List Int} {m j : Nat} (h : m ≤ T.length) (hj : j < T.length) : (part T m)[j]? = if j < m then T[j]? else some 0 := by
  unfold part
  by_cases hjm : j < m
  · rw [List.getElem?_append_left (by simp; omega), List.getElem?_take, if_pos hjm, if_pos hjm]
  · rw [List.getElem?_append_right (by simp; omega), if_neg hjm, List.getElem?_replicate, if_pos (by simp; omega)]
theorem part_copy {T : List Int} {m q : Nat} (hm : m ≤ T.length) (hq : q ≤ T.length - m) (hs : ∀ j, j < q → T[m + j]? = T[j]?) :
    ((part T m).map (Value.int .i64)).take m ++ (List.range q).map (fun j => Value.int .i64 (T.getD j 0)) ++ ((part T m).map (Value.int .i64)).drop (m + q) = (part T (m + q)).map (Value.int .i64) := by
  apply List.ext_getElem?
  intro j
  have hl := part_len hm
  have hl2 := part_len (T := T) (m := m + q) (by omega)
  by_cases h1 : j < m
  · rw [List.append_assoc, List.getElem?_append_left (by simp; omega), List.getElem?_take, if_pos h1, List.getElem?_map, List.getElem?_map, part_get hm (by omega), part_get (by omega) (by omega), if_pos h1, if_pos (by omega)]
  · by_cases h2 : j < m + q
    · obtain ⟨i, rfl⟩ : ∃ i, j = m + i := ⟨j - m, by omega⟩
      rw [List.append_assoc, List.getElem?_append_right (by simp; omega), List.getElem?_append_left (by simp; omega), List.getElem?_map, List.getElem?_map, part_get (by omega) (by omega), if_pos h2, hs i (by omega)]
      simp only [List.length_take, List.length_map, hl, show min m T.length = m by omega, Nat.add_sub_cancel_left]
      rw [List.getElem?_range (by omega)]
      simp [List.getD_eq_getElem?_getD, List.getElem?_eq_getElem (show i < T.length by omega)]
    · rw [List.getElem?_append_right (by simp; omega), List.getElem?_drop]
      simp only [List.length_append, List.length_take, List.length_map, List.length_range, hl, show min m T.length = m by omega]
      rw [show m + q + (j - (m + q)) = j by omega, List.getElem?_map, List.getElem?_map]
      by_cases h3 : j < T.length
      · rw [part_get hm h3, part_get (by omega) h3, if_neg h1, if_neg h2]
      · rw [List.getElem?_eq_none (by omega), List.getElem?_eq_none (by omega)]
theorem part_all (T : List Int) : part T T.length = T := by simp [part]

theorem RepeatL_c (A : Option Addr) (a c : Nat) (xs : List Int) (n : Nat) (w : World) (hR : RdI w A a xs) (ha : 0 < a ∧ a ≤ 1000) (hn : n ≤ 1000) :
    Ret Try.prog 106 [.slice A a c, .int .i64 (n : Int)] w (fun v w' => ∃ A', v = .slice A' (a * n) (a * n) ∧ St w w' [CkI 2 A' (a * n) (a * n) (pow xs n)]) := by
  have hxl := hR.1
  have hMn : ((a : Int) * (n : Int)) = ((a * n : Nat) : Int) := rfl
  have hN0 : a * n ≤ 1000000 := Nat.mul_le_mul ha.2 hn
  have hTl : (pow xs n).length = a * n := by rw [pow_len, hxl]
  have hz : n = 0 → a * n = 0 := fun h => by subst h; rfl
  have hnz : 0 < n → a ≤ a * n := fun h => Nat.le_mul_of_pos_right a h
  have hdv : a ∣ a * n := Nat.dvd_mul_right a n
  have hsh : ∀ m j, a ∣ m → m + j < a * n → (pow xs n)[m + j]? = (pow xs n)[j]? := fun m j hm hj => pow_shift (by omega) (by rw [hxl]; exact hm) (by rw [hxl]; exact hj)
  have hpre : ∀ j, j < min a (a * n) → xs[j]? = (pow xs n)[j]? := fun j hj => by rw [pow_get (by omega) n j (by rw [hxl]; omega), Nat.mod_eq_of_lt (by omega)]
  refine Ret.of_cd Try.func106 rfl Try.ntmps106 rfl (post1 rfl) ?_
  refine Cd.seq ?_
  refine Cd.region ?_
  refine Ops.mv_sl rfl rfl rfl ?_
  refine Ops.nil ?_
  refine thenQ_n ?_
  refine Cd.seq ?_
  refine Cd.seq ?_
  refine Cd.region ?_
  refine Ops.mv_int rfl rfl rfl ?_
  refine Ops.lss rfl rfl rfl ?_
  refine Ops.nil ?_
  refine thenQ_n ?_
  -- stop: cond
  refine Cd.cond_pf rfl (by omega) ?_
  refine Cd.skip ?_
  refine thenQ_n ?_
  refine Cd.seq ?_
  refine Cd.region ?_
  refine Ops.mv_sl rfl rfl rfl ?_
  refine Ops.len rfl rfl ?_
  -- stop: CONVERT 3 112 t14 -> 15
  refine Ops.convK (i := (a : Int)) rfl rfl (wrap_u64_in _ (by omega)) ?_
  refine Ops.mv_int rfl rfl rfl ?_
  -- stop: CONVERT 3 112 t16 -> 17
  refine Ops.convK (i := (n : Int)) rfl rfl (wrap_u64_in _ (by omega)) ?_
  refine Ops.call (Mul_c a n _ (by omega) (by omega)) rfl rfl rfl ?_
  rintro _ w ⟨rfl, rfl⟩
  rw [hMn]
  generalize hT : pow xs n = T at *
  generalize hNe : a * n = N at *
  subst hTl
  refine Ops.mv_tup rfl rfl rfl ?_
  refine Ops.extract rfl rfl rfl ?_
  refine Ops.extract rfl rfl rfl ?_
  refine Ops.mv_int rfl rfl rfl ?_
  refine Ops.mv_int rfl rfl rfl ?_
  refine Ops.nil ?_
  refine thenQ_n ?_
  refine Cd.seq ?_
  refine Cd.seq ?_
  refine Cd.region ?_
  refine Ops.mv_int rfl rfl rfl ?_
  refine Ops.gtr rfl rfl rfl ?_
  refine Ops.mv_bool rfl rfl rfl ?_
  -- stop: guard 23
  refine Ops.split_p 23 rfl (fun h => absurd h (by decide)) (fun _ => ?_) --f
  refine Ops.rung rfl rfl rfl ?_
  refine Ops.mv_int rfl rfl rfl ?_
  refine Ops.rung rfl rfl rfl ?_
  refine Ops.gtr rfl rfl rfl ?_
  refine Ops.pick_f rfl rfl rfl ?_
  refine Ops.nil ?_
  refine thenQ_n ?_
  -- stop: cond
  refine Cd.cond_pf rfl (by omega) ?_
  refine Cd.skip ?_
  refine thenQ_n ?_
  refine Cd.seq ?_
  refine Cd.region ?_
  refine Ops.mv_int rfl rfl rfl ?_
  -- stop: CONVERT 112 3 t28 -> 29
  refine Ops.convK (i := (T.length : Int)) rfl rfl (IntWalk.i64_in _ (by omega)) ?_
  refine Ops.mkI T.length (St.refl w) rfl rfl (by omega) ?_
  intro A1 w1 hS1
  refine Ops.mv_sl rfl rfl rfl ?_
  refine Ops.nil ?_
  refine thenQ_n ?_
  refine Cd.seq ?_
  refine Cd.region ?_
  refine Ops.mv_sl rfl rfl rfl ?_
  refine Ops.mv_sl rfl rfl rfl ?_
  -- stop: BUILTIN copy(t31, t32) -> 33
  refine Ops.cp 0 0 (min a T.length) hS1 rfl (hS1.oldI hR).2 (Nat.zero_le _) (by rw [cutAt_zero]; rfl) rfl (fun _ _ => rfl) rfl rfl ?_
  intro w2 hS2
  refine Ops.mv_int rfl rfl rfl ?_
  refine Ops.nil ?_
  refine thenQ_n ?_
  refine Cd.seq ?_
  refine Cd.block ?_
  -- stop: loop
  have h3 : St w w2 [CkI 2 A1 T.length T.length (part T (min a T.length))] := by
    have e := part_copy (T := T) (m := 0) (q := min a T.length) (Nat.zero_le _) (by omega) (fun j hj => by rw [Nat.zero_add])
    have e0 : part T 0 = List.replicate T.length 0 := by simp [part]
    have e1 : (List.range (min a T.length)).map (fun j => Value.int .i64 (xs.getD j 0)) = (List.range (min a T.length)).map (fun j => Value.int .i64 (T.getD j 0)) := by
      refine List.map_congr_left fun j hj => ?_
      rw [List.getD_eq_getElem?_getD, List.getD_eq_getElem?_getD, hpre j (List.mem_range.1 hj)]
    rw [e0, Nat.zero_add] at e
    have e2 : ([CkI 2 A1 T.length T.length (List.replicate T.length 0)].set 0 { CkI 2 A1 T.length T.length (List.replicate T.length 0) with vs := (CkI 2 A1 T.length T.length (List.replicate T.length 0)).vs.take 0 ++ (List.range (min a T.length)).map (fun j => Value.int .i64 (xs.getD j 0)) ++ (CkI 2 A1 T.length T.length (List.replicate T.length 0)).vs.drop (0 + min a T.length) }) = [CkI 2 A1 T.length T.length (part T (min a T.length))] := by
      rw [e1, Nat.zero_add]
      show [(⟨A1, T.length, T.length, _, _⟩ : Ck)] = [⟨A1, T.length, T.length, _, _⟩]
      rw [← e]
    rw [← e2]; exact hS2
  refine Cd.loop (α := Nat) (fun m => [(7, .slice A1 T.length T.length), (8, .int .i64 (m : Int))]) (fun m w' => St w w' [CkI 2 A1 T.length T.length (part T m)] ∧ m ≤ T.length ∧ a ∣ m ∧ (0 < T.length → 0 < m)) (fun m => T.length - m) (min a T.length) ⟨rfl, rfl, trivial⟩ ⟨h3, by omega, ?_, by omega⟩ ?_
  · by_cases h0 : a ≤ T.length
    · rw [Nat.min_eq_left h0]; exact Nat.dvd_refl a
    · rw [Nat.min_eq_right (by omega)]; exact hdv
  rintro m e w3 ⟨hS3, hm, hdm, hm0⟩
  refine Cd.seq ?_
  refine Cd.seq ?_
  refine Cd.region ?_
  refine Ops.mv_int rfl rfl rfl ?_
  refine Ops.mv_sl rfl rfl rfl ?_
  refine Ops.len rfl rfl ?_
  refine Ops.lss rfl rfl rfl ?_
  refine Ops.nil ?_
  refine thenQ_n ?_
  -- stop: cond
  refine Cd.cond_p _ rfl (fun h4 => ?_) (fun h4 => ?_)
  · refine Cd.skip ?_
    refine thenQ_n ?_
    refine Cd.block ?_
    -- stop: draw
    have hlen := part_len hm
    have hR2 : ∀ {w1 : World}, Below w3.heap.size w3 w1 → Rd w1 A1 m (fun j => .int .i64 (T.getD j 0)) := fun hb j hj => by
      have h5 := (hS3.later hb).rd 0 rfl j (by show j < T.length; omega)
      have h6 : ((part T m).map (Value.int .i64)).getD j undef = .int .i64 (T.getD j 0) := by
        rw [List.getD_eq_getElem?_getD, List.getElem?_map, part_get hm (by omega), if_pos hj]
        simp [List.getD_eq_getElem?_getD, List.getElem?_eq_getElem (show j < T.length by omega)]
      obtain ⟨p, hp, hc⟩ := h5
      exact ⟨p, hp, hc.trans (congrArg some h6)⟩
    have hR3 := part_copy (T := T) (m := m) (q := min m (T.length - m)) hm (by omega) (fun j hj => hsh m j hdm (by omega))
    refine Cd.drawM 7 (fun v w' => v = .int .i64 ((min m (T.length - m) : Nat) : Int) ∧ St w w' [CkI 2 A1 T.length T.length (part T (m + min m (T.length - m)))]) [.ex (.int .i64 ((m : Int))), .ex (.slice (A1) (T.length) (T.length)), .ex (.int .i64 ((m : Int))), .ex (.slice (cutAt A1 T.length m) (T.length - m) (T.length - m)), .ex (.slice (A1) (T.length) (T.length)), .ex (.int .i64 ((m : Int))), .ex (.slice (A1) (m) (T.length)), .pr (fun v w' => v = .int .i64 ((min m (T.length - m) : Nat) : Int) ∧ St w w' [CkI 2 A1 T.length T.length (part T (m + min m (T.length - m)))]), .ex (.int .i64 ((m : Int) + ((min m (T.length - m) : Nat) : Int))), .ex (.int .i64 ((m : Int) + ((min m (T.length - m) : Nat) : Int)))] (by kernel_rfl) (by kernel_rfl) rfl rfl (by kernel_rfl) (List.forall_mem_cons.2 ⟨Yd.lasts_ex _, (List.forall_mem_cons.2 ⟨Yd.lasts_ex _, (List.forall_mem_cons.2 ⟨Yd.lasts_ex _, (List.forall_mem_cons.2 ⟨Yd.lasts_ex _, (List.forall_mem_cons.2 ⟨Yd.lasts_ex _, (List.forall_mem_cons.2 ⟨Yd.lasts_ex _, (List.forall_mem_cons.2 ⟨Yd.lasts_ex _, (List.forall_mem_cons.2 ⟨Yd.lasts_pr (fun v w w' h hb => ⟨h.1, h.2.later hb⟩), (List.forall_mem_cons.2 ⟨Yd.lasts_ex _, (List.forall_mem_cons.2 ⟨Yd.lasts_ex _, (fun _ h => by cases h)⟩)⟩)⟩)⟩)⟩)⟩)⟩)⟩)⟩)⟩) ⟨?_, ?_, ?_, ?_, ?_, ?_, ?_, ?_, ?_, ?_, trivial⟩ ?_
    · intro e1 w1 hph hp hun
      show Ops _ _ _ _ _ _ _
      refine Ops.mv_int rfl (by exact hun 9 _ rfl (by kernel_rfl)) rfl ?_
      refine Ops.nil ?_
      exact After.dn (Below.refl _ _) (by exact rfl)
    · intro e1 w1 hph hp hun
      show Ops _ _ _ _ _ _ _
      refine Ops.mv_sl rfl rfl rfl ?_
      refine Ops.nil ?_
      exact After.dn (Below.refl _ _) (by exact rfl)
    · intro e1 w1 hph hp hun
      show Ops _ _ _ _ _ _ _
      refine Ops.mv_int rfl (by exact hun 9 _ rfl (by kernel_rfl)) rfl ?_
      refine Ops.nil ?_
      exact After.dn (Below.refl _ _) (by exact rfl)
    · intro e1 w1 hph hp hun
      show Ops _ _ _ _ _ _ _
      refine Ops.cut_l rfl rfl rfl (by omega) ?_
      refine Ops.nil ?_
      exact After.dn (Below.refl _ _) (by exact rfl)
    · intro e1 w1 hph hp hun
      show Ops _ _ _ _ _ _ _
      refine Ops.mv_sl rfl rfl rfl ?_
      refine Ops.nil ?_
      exact After.dn (Below.refl _ _) (by exact rfl)
    · intro e1 w1 hph hp hun
      show Ops _ _ _ _ _ _ _
      refine Ops.mv_int rfl (by exact hun 9 _ rfl (by kernel_rfl)) rfl ?_
      refine Ops.nil ?_
      exact After.dn (Below.refl _ _) (by exact rfl)
    · intro e1 w1 hph hp hun
      show Ops _ _ _ _ _ _ _
      refine Ops.cut_h rfl rfl rfl (by omega) ?_
      refine Ops.nil ?_
      exact After.dn (Below.refl _ _) (by exact rfl)
    · intro e1 w1 hph hp hun
      refine fun hb => ?_
      refine Ops.cp 0 m (min m (T.length - m)) (hS3.later hb) rfl (f := fun j => .int .i64 (T.getD j 0)) (hR2 hb) (by omega) rfl rfl (fun _ _ => rfl) rfl rfl ?_
      intro w5 hS5
      refine Ops.nil ?_
      exact AfterM.dn ⟨rfl, by show St w w5 [⟨A1, T.length, T.length, _, (part T (m + min m (T.length - m))).map (Value.int .i64)⟩]; rw [← hR3]; exact hS5⟩ --exact After
    · intro e1 w1 hph hp hun
      show Ops _ _ _ _ _ _ _
      have h45 : e1 45 = .int .i64 _ := (hp 7 (by decide) rfl _ _ rfl rfl).1
      refine Ops.add rfl (by exact h45) rfl (by omega) ?_
      refine Ops.nil ?_
      exact After.dn (Below.refl _ _) (by exact rfl)
    · intro e1 w1 hph hp hun
      show Ops _ _ _ _ _ _ _
      refine Ops.mv_int rfl rfl rfl ?_
      refine Ops.nil ?_
      exact After.dn (Below.refl _ _) (by exact rfl)
    intro u w5 hu
    have hS5 := (hu 7 _ rfl).2
    refine blockQ_n ?_
    refine thenQ_n ?_
    -- stop: round
    refine ⟨m + min m (T.length - m), by have := hm0 (by omega); omega, ⟨rfl, by show Value.int .i64 _ = Value.int .i64 _; congr 1, trivial⟩, hS5, by omega, ?_, by omega⟩
    by_cases h0 : m ≤ T.length - m
    · rw [Nat.min_eq_left h0]; exact Nat.dvd_add hdm hdm
    · rw [Nat.min_eq_right (by omega), show m + (T.length - m) = T.length by omega]; exact hdv
  · refine Cd.exit ?_
    refine thenQ_x ?_
    refine thenQ_x ?_
    refine blockQ_x ?_
    refine thenQ_n ?_
    refine Cd.seq ?_
    refine Cd.region ?_
    refine Ops.mv_sl rfl rfl rfl ?_
    refine Ops.mv_sl rfl rfl rfl ?_
    refine Ops.nil ?_
    refine thenQ_n ?_
    refine Cd.ret ?_
    refine ret1_s rfl ?_
    -- stop: end
    have : m = T.length := by omega
    subst this
    rw [part_all] at hS3
    exact ⟨A1, rfl, hS3⟩
end Go.Proofs.Ytgobjpcankaicaa.Vc
/-
  The walks of holes and zigzags on both sides. Conditions: as each states them.
-/
namespace Go.Proofs.Ytgobjpcankaicaa.Vc
open Go.RowKit

/-- the code of holes and zigzags -/
def holeK (xss : List (List Int)) (j : Int) : Int := if ¬ Grph xss then 1 else if ¬ (1 ≤ j ∧ j ≤ 16) then 2 else if ¬ xss.length = 3 then 5 else 0
theorem holeK_zero {xss : List (List Int)} {j : Int} (h : holeK xss j = 0) : Grph xss ∧ (1 ≤ j ∧ j ≤ 16) ∧ xss.length = 3 := by
  unfold holeK at h
  split at h
  · cases h
  · rename_i h1
    split at h
    · cases h
    · rename_i h2
      split at h
      · cases h
      · rename_i h3
        exact ⟨Classical.not_not.1 h1, Classical.not_not.1 h2, Classical.not_not.1 h3⟩

theorem l11Power_c (A : Option Addr) (a c : Nat) (xs : List Int) (n : Nat) (w : World) (hR : RdI w A a xs) (ha : a ≤ 1000) (hn : n ≤ 1000) :
    Ret Try.prog 178 [.slice A a c, .int .i64 (n : Int)] w (fun v w' => ∃ A' c', v = .slice A' (a * n) c' ∧ St w w' [CkI 2 A' (a * n) c' (pow xs n)]) := by
  have hxl := hR.1
  refine Ret.of_cd Try.func178 rfl Try.ntmps178 rfl (post1 rfl) ?_
  refine Cd.seq ?_
  refine Cd.region ?_
  refine Ops.mv_sl rfl rfl rfl ?_
  refine Ops.nil ?_
  refine thenQ_n ?_
  refine Cd.seq ?_
  refine Cd.region ?_
  -- stop: BUILDSLICE 33 0 [] -> 6
  refine Ops.bs0 (St.refl w) rfl ?_
  intro A5 w1 hS1
  have hS1 : St w w1 [CkI 2 A5 (a * 0) 0 (pow xs 0)] := hS1
  refine Ops.mv_sl rfl rfl rfl ?_
  refine Ops.nil ?_
  refine thenQ_n ?_
  refine Cd.seq ?_
  refine Cd.block ?_
  -- stop: loop
  refine Cd.loop (α := Nat × Option Addr × Nat) (fun z => [(0, .slice A a c), (1, .int .i64 ((n : Int) - (z.1 : Int))), (5, .slice z.2.1 (a * z.1) z.2.2)]) (fun z w' => St w w' [CkI 2 z.2.1 (a * z.1) z.2.2 (pow xs z.1)] ∧ z.1 ≤ n) (fun z => n - z.1) (0, A5, 0) ⟨rfl, by show Value.int .i64 _ = .int .i64 _; simp, rfl, trivial⟩ ⟨hS1, Nat.zero_le _⟩ ?_
  rintro ⟨k, A6, c6⟩ e w2 ⟨hS2, hk⟩
  dsimp only at hS2 hk ⊢
  have hb2 : a * k ≤ 1000000 := Nat.mul_le_mul ha (show k ≤ 1000 by omega)
  refine Cd.seq ?_
  refine Cd.seq ?_
  refine Cd.region ?_
  refine Ops.mv_int rfl rfl rfl ?_
  refine Ops.gtr rfl rfl rfl ?_
  refine Ops.nil ?_
  refine thenQ_n ?_
  -- stop: cond
  refine Cd.cond_p _ rfl (fun h1 => ?_) (fun h1 => ?_)
  · refine Cd.skip ?_
    refine thenQ_n ?_
    refine Cd.seq ?_
    refine Cd.block ?_
    refine Cd.region ?_
    refine Ops.mv_sl rfl rfl rfl ?_
    refine Ops.mv_sl rfl rfl rfl ?_
    -- stop: BUILTIN append(t11, t12) -> 13
    refine Ops.appI 0 hS2 rfl (hS2.oldI hR) rfl rfl rfl (by omega) (by omega) rfl ?_
    intro A7 c7 w3 hS3
    refine Ops.mv_sl rfl rfl rfl ?_
    refine Ops.nil ?_
    refine blockQ_n ?_
    refine thenQ_n ?_
    refine Cd.region ?_
    refine Ops.mv_int rfl rfl rfl ?_
    refine Ops.sub rfl rfl rfl (by omega) ?_
    refine Ops.mv_int rfl rfl rfl ?_
    refine Ops.nil ?_
    refine thenQ_n ?_
    -- stop: round
    have e1 : a * (k + 1) = a * k + a := Nat.mul_succ a k
    refine ⟨(k + 1, A7, c7), by show n - (k + 1) < n - k; omega, ⟨rfl, by show Value.int .i64 _ = .int .i64 _; congr 1; show _ = (n : Int) - ((k + 1 : Nat) : Int); omega, by show Value.slice _ _ _ = .slice _ _ _; rw [e1], trivial⟩, ?_, by show k + 1 ≤ n; omega⟩
    show St w w3 [CkI _ A7 (a * (k + 1)) c7 (pow xs (k + 1))]
    rw [e1, pow_succ]
    exact hS3
  · refine Cd.exit ?_
    refine thenQ_x ?_
    refine thenQ_x ?_
    refine blockQ_x ?_
    refine thenQ_n ?_
    refine Cd.seq ?_
    refine Cd.region ?_
    refine Ops.mv_sl rfl rfl rfl ?_
    refine Ops.mv_sl rfl rfl rfl ?_
    refine Ops.nil ?_
    refine thenQ_n ?_
    refine Cd.ret ?_
    refine ret1_s rfl ?_
    -- stop: end
    have hkn : k = n := by omega
    subst hkn
    exact ⟨A6, c6, rfl, hS2⟩

def zigW (n : Nat) : List Int := [0] ++ pow [1, 2] n
def holeW (n : Nat) : List Int := zigW n ++ [1]
theorem zigW_len (n : Nat) : (zigW n).length = 1 + 2 * n := by simp [zigW, pow_len]; omega
theorem holeW_len (n : Nat) : (holeW n).length = 1 + 2 * n + 1 := by rw [holeW, List.length_append, zigW_len]; rfl
theorem zigW_in (n : Nat) : ∀ i ∈ zigW n, 0 ≤ i ∧ i < 3 := fun i hi => by
  simp only [zigW, pow, List.mem_append, List.mem_singleton, List.mem_flatten, List.mem_replicate] at hi
  rcases hi with rfl | ⟨l, ⟨_, rfl⟩, hi⟩
  · omega
  · simp at hi; omega
theorem holeW_in (n : Nat) : ∀ i ∈ holeW n, 0 ≤ i ∧ i < 3 := fun i hi => by
  rcases List.mem_append.1 hi with h | h
  · exact zigW_in n i h
  · simp at h; omega
theorem in_gi {ws : List Int} {a b : Int} (h : ∀ i ∈ ws, a ≤ i ∧ i < b) : ∀ k : Nat, k < ws.length → a ≤ gi ws k ∧ gi ws k < b := fun k hk => by
  rw [gi_mem hk]; exact h _ (List.getElem_mem _)

end Go.Proofs.Ytgobjpcankaicaa.Vc
/-
  Faces on the program's side; the ends of edges on the reference's. Conditions: as each states them.
-/
namespace Go.Proofs.Ytgobjpcankaicaa.Vc
open Go.RowKit

theorem CloneR_c (A : Option Addr) (n c : Nat) (rs : List SlV) (w : World) (hR : RdR w A n rs) (hn : n ≤ 1000000) (h0 : 0 < n) : Ret Try.prog 204 [.slice A n c] w (fun v w' => ∃ A' c', v = .slice A' n c' ∧ St w w' [CkR 33 A' n c' rs]) := by
  cases hA : A with
  | none =>
    subst hA
    obtain ⟨p, hp, _⟩ := hR.2 0 h0
    simp [ptrAt] at hp
  | some a =>
    subst hA
    refine Ret.of_cd Try.func204 rfl Try.ntmps204 rfl (post1 rfl) ?_
    refine Cd.seq ?_
    refine Cd.region ?_
    refine Ops.mv_sl rfl rfl rfl ?_
    refine Ops.nil ?_
    refine thenQ_n ?_
    refine Cd.seq ?_
    refine Cd.seq ?_
    refine Cd.region ?_
    refine Ops.mv_sl rfl rfl rfl ?_
    -- stop: BINOP eql 22 t3 0 22 -> 4
    refine Ops.eqNil rfl rfl rfl ?_
    refine Ops.nil ?_
    refine thenQ_n ?_
    -- stop: cond
    refine Cd.cond_f rfl ?_
    refine Cd.skip ?_
    refine thenQ_n ?_
    refine Cd.seq ?_
    refine Cd.region ?_
    -- stop: BUILDSLICE 22 0 [] -> 5
    refine Ops.bs0 (St.refl w) rfl ?_
    intro A1 w1 hS1
    have hS1 : St w w1 [CkR 33 A1 0 0 []] := hS1
    refine Ops.mv_sl rfl rfl rfl ?_
    -- stop: BUILTIN append(t5, t6) -> 7
    refine Ops.appR 0 hS1 rfl (hS1.oldR hR) rfl rfl rfl (by omega) (by omega) rfl ?_
    intro A2 c2 w2 hS2
    rw [Nat.zero_add] at hS2 ⊢
    refine Ops.mv_sl rfl rfl rfl ?_
    refine Ops.nil ?_
    refine thenQ_n ?_
    refine Cd.ret ?_
    refine ret1_s rfl ?_
    -- stop: end
    exact ⟨A2, c2, rfl, hS2⟩

theorem without_c (Ab A : Option Addr) (n c : Nat) (rs : List SlV) (xss : List (List Int)) (i : Nat) (w : World) (hB : Rd w Ab 1 (fun _ => .slice A n c)) (hR : RowsI w A n rs xss) (hn : n ≤ 1000) (hi : i < n) :
    Ret Try.prog 175 [.pointer Ab, .int .i64 (i : Int)] w (fun v w' => ∃ A' c', v = .slice A' (n - 1) c' ∧ St w w' [CkR 33 A' (n - 1) c' (rs.eraseIdx i)]) := by
  refine Ret.of_cd Try.func175 rfl Try.ntmps175 rfl (post1 rfl) ?_
  refine Cd.seq ?_
  refine Cd.region ?_
  refine Ops.mv_sl rfl rfl rfl ?_
  refine Ops.nil ?_
  refine thenQ_n ?_
  refine Cd.seq ?_
  refine Cd.region ?_
  refine Ops.mv_ptr rfl rfl rfl ?_
  -- stop: NILCHECK t5 -> 6
  refine Ops.nilp hB (by decide) rfl rfl ?_
  refine Ops.fld hB rfl rfl rfl rfl inferInstance ?_
  refine Ops.ldf_s hB rfl rfl rfl rfl rfl ?_
  refine Ops.call (CloneR_c A n c rs _ hR.top (by omega) (by omega)) rfl rfl rfl ?_
  rintro _ w1 ⟨A1, c1, rfl, hS1⟩
  refine Ops.mv_int rfl rfl rfl ?_
  refine Ops.mv_int rfl rfl rfl ?_
  refine Ops.add rfl rfl rfl (by omega) ?_
  -- stop: CALL slices.Delete[[][]int64,[]int64](t9, t10, t12) -> 13
  have hi1 : ((i : Int) + 1) = ((i + 1 : Nat) : Int) := by omega
  rw [hi1]
  refine Ops.call (delete_c 0 hS1 rfl (by omega) (by omega) (show i ≤ i + 1 by omega) (by omega)) rfl rfl rfl ?_
  rintro _ w2 ⟨rfl, hS2⟩
  refine Ops.mv_sl rfl rfl rfl ?_
  refine Ops.nil ?_
  refine thenQ_n ?_
  refine Cd.ret ?_
  refine ret1_s rfl ?_
  -- stop: end
  have e : n - (i + 1 - i) = n - 1 := by omega
  rw [e]
  rw [e, ← List.eraseIdx_eq_take_drop_succ] at hS2
  exact ⟨A1, c1, rfl, hS2⟩

theorem faces_c (Ab A : Option Addr) (n c : Nat) (rs : List SlV) (xss : List (List Int)) (i : Nat) (w : World) (hB : Rd w Ab 1 (fun _ => .slice A n c)) (hR : RowsI w A n rs xss) (hM : Mani xss) (hi : i < n) :
    Ret Try.prog 128 [.pointer Ab, .int .i64 (i : Int)] w (fun v w' => ∃ A', v = .tuple #[.slice A' (gl xss 0).length (gl xss 0).length, .int .i64 (facesN xss i)] ∧ St w w' [CkI 2 A' (gl xss 0).length (gl xss 0).length (facesL xss i)]) := by
  have hl := hR.len
  have h1 := hM.1
  have h2 := hM.2.1
  have e0 : (rg rs 0).n = (gl xss 0).length := (hR.rowLen (by omega) (by omega)).symm
  refine Ret.of_cd Try.func128 rfl Try.ntmps128 rfl (post2 rfl) ?_
  refine Cd.seq ?_
  refine Cd.region ?_
  refine Ops.mv_sl rfl rfl rfl ?_
  refine Ops.mv_int rfl rfl rfl ?_
  refine Ops.nil ?_
  refine thenQ_n ?_
  refine Cd.seq ?_
  refine Cd.region ?_
  refine Ops.mv_ptr rfl rfl rfl ?_
  -- stop: CALL impl.Maniplex).flags(t6) -> 7
  refine Ops.call (flags_c Ab A n c rs xss _ w hB rfl hR (by omega)) rfl rfl rfl ?_
  rintro _ w ⟨rfl, rfl⟩
  rw [e0]
  refine Ops.mv_ptr rfl rfl rfl ?_
  refine Ops.mv_int rfl rfl rfl ?_
  -- stop: CALL impl.Maniplex).without(t8, t9) -> 10
  refine Ops.call (without_c Ab A n c rs xss i _ hB hR (by omega) hi) rfl rfl rfl ?_
  rintro _ w1 ⟨A1, c1, rfl, hS1⟩
  refine Ops.call (orbitLabels_c A1 (n - 1) c1 (rs.eraseIdx i) (xss.eraseIdx i) (gl xss 0).length _ ((hS1.oldRows hR).erase hi (hS1.rdR 0 rfl)) (by omega) (hM.2.2.1.sys.erase i) (hM.2.2.1.inj.erase i) (by omega)) rfl rfl rfl ?_
  rintro _ w2 ⟨A2, rfl, hst⟩
  have hS2 := hS1.call hst
  refine Ops.extract rfl rfl rfl ?_
  refine Ops.extract rfl rfl rfl ?_
  refine Ops.mv_sl rfl rfl rfl ?_
  refine Ops.mv_int rfl rfl rfl ?_
  refine Ops.nil ?_
  refine thenQ_n ?_
  refine Cd.ret ?_
  refine ret2_si rfl rfl ?_
  -- stop: end
  exact ⟨A2, rfl, hS2.sub (List.Sublist.cons_cons _ (List.nil_sublist _))⟩

theorem put_cs {xs : List Int} {a : Nat} {v : Int} (h : SA xs) (hv : v ∉ xs) (ha : a ≤ xs.length) (hl : ∀ j : Nat, j < a → gi xs (j : Int) < v) (hg : a < xs.length → v ≤ gi xs (a : Int)) : xs.take a ++ (v :: xs.drop a) = cs (xs ++ [v]) := by
  have hp : (xs.take a ++ (v :: xs.drop a)).Perm (xs ++ [v]) := put_perm
  refine cs_eq ?_ fun x => hp.mem_iff
  have h1 := asc_put h.asc ha hl hg
  have h2 : (xs.take a ++ (v :: xs.drop a)).Nodup := hp.nodup_iff.2 (by
    rw [List.nodup_append]
    refine ⟨h.nodup, by simp, fun x hx y hy e => ?_⟩
    simp at hy
    subst hy
    exact hv (e ▸ hx))
  exact (List.Pairwise.and h1 h2).imp fun h => by have := h.1; have := h.2; omega

theorem l13Insert_c (A : Option Addr) (n c : Nat) (xs : List Int) (v : Int) (w : World) (hR : RdI w A n xs) (hc : n ≤ c) (hn : n ≤ 1000000) (hs : SA xs) (hv : v ∉ xs) :
    Ret Try.prog 144 [.slice A n c, .int .i64 v] w (fun r w' => ∃ A' c', r = .slice A' (cs (xs ++ [v])).length c' ∧ St w w' [CkI 2 A' (cs (xs ++ [v])).length c' (cs (xs ++ [v]))]) := by
  have hxl := hR.1
  refine Ret.of_cd Try.func144 rfl Try.ntmps144 rfl (post1 rfl) ?_
  refine Cd.seq ?_
  refine Cd.region ?_
  refine Ops.mv_sl rfl rfl rfl ?_
  refine Ops.nil ?_
  refine thenQ_n ?_
  refine Cd.seq ?_
  refine Cd.region ?_
  refine Ops.mv_int rfl rfl rfl ?_
  refine Ops.nil ?_
  refine thenQ_n ?_
  -- stop: join
  refine Cd.join (α := Nat) (fun a => [(0, .slice A n c), (1, .int .i64 v), (5, .int .i64 (a : Int))])
    (fun a w' => w' = w ∧ a ≤ xs.length ∧ (∀ j : Nat, j < a → gi xs (j : Int) < v) ∧ (a < xs.length → v ≤ gi xs (a : Int))) ?_ ?_
  · refine Cd.block ?_
    -- stop: loop
    refine Cd.loop (α := Nat) (fun a => [(0, .slice A n c), (1, .int .i64 v), (5, .int .i64 (a : Int))]) (fun a w' => w' = w ∧ a ≤ xs.length ∧ ∀ j : Nat, j < a → gi xs (j : Int) < v) (fun a => xs.length - a) 0 ⟨rfl, rfl, rfl, trivial⟩ ⟨rfl, Nat.zero_le _, fun j hj => by omega⟩ ?_
    rintro a e w ⟨rfl, ha, hlt⟩
    refine Cd.seq ?_
    refine Cd.seq ?_
    refine Cd.region ?_
    refine Ops.mv_int rfl rfl rfl ?_
    refine Ops.mv_sl rfl rfl rfl ?_
    refine Ops.len rfl rfl ?_
    refine Ops.lss rfl rfl rfl ?_
    refine Ops.mv_bool rfl rfl rfl ?_
    -- stop: guard 11
    refine Ops.split_p 11 rfl (fun h4 => ?_) (fun h4 => ?_)
    · refine Ops.rung rfl rfl rfl ?_
      refine Ops.mv_sl rfl rfl rfl ?_
      refine Ops.rung rfl rfl rfl ?_
      refine Ops.mv_int rfl rfl rfl ?_
      refine Ops.rung rfl rfl rfl ?_
      -- stop: INDEXADDR 33 t12 t13 -> 14
      refine Ops.idx hR.2 rfl rfl rfl (by omega) (by omega) ?_
      refine Ops.rung rfl rfl rfl ?_
      -- stop: LOAD 2 t14 -> 15
      refine Ops.ld_int hR rfl (by omega) rfl rfl ?_
      refine Ops.rung rfl rfl rfl ?_
      refine Ops.mv_int rfl rfl rfl ?_
      refine Ops.rung rfl rfl rfl ?_
      refine Ops.lss rfl rfl rfl ?_
      refine Ops.pick_t rfl rfl rfl ?_
      refine Ops.nil ?_
      refine thenQ_n ?_
      -- stop: cond
      refine Cd.cond_p _ rfl (fun h5 => ?_) (fun h5 => ?_)
      · refine Cd.skip ?_
        refine thenQ_n ?_
        refine Cd.block ?_
        refine Cd.region ?_
        refine Ops.mv_int rfl rfl rfl ?_
        refine Ops.add rfl rfl rfl (by omega) ?_
        refine Ops.mv_int rfl rfl rfl ?_
        refine Ops.nil ?_
        refine blockQ_n ?_
        refine thenQ_n ?_
        -- stop: round
        refine ⟨a + 1, by show xs.length - (a + 1) < xs.length - a; omega, ⟨rfl, rfl, rfl, trivial⟩, rfl, by omega, fun j hj => ?_⟩
        by_cases ej : j = a
        · subst ej; exact h5
        · exact hlt j (by omega)
      · refine Cd.exit ?_
        refine thenQ_x ?_
        refine thenQ_x ?_
        refine blockQ_x ?_
        refine thenQ_n ?_
        -- stop: round
        exact ⟨a, ⟨rfl, rfl, rfl, trivial⟩, rfl, ha, hlt, fun _ => by omega⟩
    · refine Ops.skipg rfl rfl rfl rfl rfl ?_
      refine Ops.skipg rfl rfl rfl rfl rfl ?_
      refine Ops.skipg rfl rfl rfl rfl rfl ?_
      refine Ops.skipg rfl rfl rfl rfl rfl ?_
      refine Ops.skipg rfl rfl rfl rfl rfl ?_
      refine Ops.skipg rfl rfl rfl rfl rfl ?_
      refine Ops.pick_f rfl rfl rfl ?_
      refine Ops.nil ?_
      refine thenQ_n ?_
      -- stop: cond
      refine Cd.cond_f rfl ?_
      refine Cd.exit ?_
      refine thenQ_x ?_
      refine thenQ_x ?_
      refine blockQ_x ?_
      refine thenQ_n ?_
      -- stop: round
      exact ⟨a, ⟨rfl, rfl, rfl, trivial⟩, rfl, ha, hlt, fun h => absurd h (by omega)⟩
  · rintro a e w ⟨rfl, ha, hlt, hge⟩
    have hput := put_cs hs hv ha hlt hge
    refine Cd.seq ?_
    refine Cd.region ?_
    refine Ops.mv_int rfl rfl rfl ?_
    -- stop: BUILDSLICE 33 1 [('pair', [0, ('app', 'Go.Operand.tmp', [21])])] -> 22
    refine Ops.bs1I (St.refl w) rfl rfl rfl ?_
    intro A7 w7 hS7
    refine Ops.mv_sl rfl rfl rfl ?_
    refine Ops.mv_int rfl rfl rfl ?_
    -- stop: SLICE 33 t23 some t24 none none -> 25
    refine Ops.cut_l rfl rfl rfl (by omega) ?_
    refine Ops.appI 0 hS7 rfl ((hS7.oldI hR).drop (l := a) (by omega) hc) rfl rfl rfl (by omega) (by omega) rfl ?_
    intro A8 c8 w8 hS8
    refine Ops.mv_sl rfl rfl rfl ?_
    refine Ops.nil ?_
    refine thenQ_n ?_
    refine Cd.seq ?_
    refine Cd.region ?_
    -- stop: BUILDSLICE 33 0 [] -> 27
    refine Ops.bs0 hS8 rfl ?_
    intro A9 w9 hS9
    have hS9 : St w w9 (CkI 2 A9 0 0 [] :: CkI 2 A8 (1 + (n - a)) c8 ([v] ++ xs.drop a) :: []) := hS9
    refine Ops.mv_sl rfl rfl rfl ?_
    refine Ops.mv_int rfl rfl rfl ?_
    -- stop: SLICE 33 t28 none some t29 none -> 30
    refine Ops.cut_h rfl rfl rfl (by omega) ?_
    refine Ops.appI 0 hS9 rfl ((hS9.oldI hR).take (l := a) (by omega)) rfl rfl rfl (by omega) (by omega) rfl ?_
    intro A10 c10 w10 hS10
    refine Ops.mv_sl rfl rfl rfl ?_
    -- stop: BUILTIN append(t31, t32) -> 33
    refine Ops.appI 0 hS10 rfl (hS10.rdI 1 rfl) rfl rfl rfl (by omega) (by omega) rfl ?_
    intro A11 c11 w11 hS11
    refine Ops.mv_sl rfl rfl rfl ?_
    refine Ops.nil ?_
    refine thenQ_n ?_
    refine Cd.ret ?_
    refine ret1_s rfl ?_
    -- stop: end
    have hS11 : St w w11 (CkI 2 A11 (0 + a + (1 + (n - a))) c11 (([] ++ xs.take a) ++ ([v] ++ xs.drop a)) :: CkI 2 A8 (1 + (n - a)) c8 ([v] ++ xs.drop a) :: []) := hS11
    have hS12 := hS11.sub (List.Sublist.cons_cons _ (List.nil_sublist _))
    rw [List.nil_append, List.singleton_append, hput] at hS12
    have hlen' : (cs (xs ++ [v])).length = 0 + a + (1 + (n - a)) := by rw [← hput]; simp; omega
    exact ⟨A11, c11, by rw [hlen'], by rw [hlen']; exact hS12⟩

theorem l17Insert_c (A : Option Addr) (n c : Nat) (xs : List Int) (v : Int) (w : World) (hR : RdI w A n xs) (hc : n ≤ c) (hn : n ≤ 1000000) (hs : SA xs) :
    Ret Try.prog 95 [.slice A n c, .int .i64 v] w (fun r w' => ∃ A' c', r = .slice A' (cs (xs ++ [v])).length c' ∧ Below w.heap.size w w' ∧ ((A' = A ∧ c' = c ∧ cs (xs ++ [v]) = xs) ∨ St w w' [CkI 2 A' (cs (xs ++ [v])).length c' (cs (xs ++ [v]))])) := by
  have hxl := hR.1
  refine Ret.of_cd Try.func95 rfl Try.ntmps95 rfl (post1 rfl) ?_
  refine Cd.seq ?_
  refine Cd.region ?_
  refine Ops.mv_sl rfl rfl rfl ?_
  refine Ops.nil ?_
  refine thenQ_n ?_
  refine Cd.seq ?_
  refine Cd.seq ?_
  refine Cd.region ?_
  refine Ops.mv_sl rfl rfl rfl ?_
  refine Ops.mv_int rfl rfl rfl ?_
  -- stop: CALL spec.l01Has(t5, t6) -> 7
  refine Ops.call (l01Has_c A n c xs v w hR (by omega)) rfl rfl rfl ?_
  rintro _ w ⟨rfl, rfl⟩
  refine Ops.nil ?_
  refine thenQ_n ?_
  -- stop: cond
  refine Cd.cond_p _ rfl (fun h => ?_) (fun h => ?_)
  · have e : cs (xs ++ [v]) = xs := (cs_eq hs fun x => by
      simp only [List.mem_append, List.mem_singleton]
      exact ⟨.inl, fun h2 => h2.elim id fun e => e ▸ h⟩).symm
    refine Cd.seq ?_
    refine Cd.region ?_
    refine Ops.mv_sl rfl rfl rfl ?_
    refine Ops.mv_sl rfl rfl rfl ?_
    refine Ops.nil ?_
    refine thenQ_n ?_
    refine Cd.ret ?_
    refine thenQ_r ?_
    refine ret1_s rfl ?_
    -- stop: end
    exact ⟨A, c, by rw [e, hxl], Below.refl _ _, .inl ⟨rfl, rfl, e⟩⟩
  · refine Cd.skip ?_
    refine thenQ_n ?_
    refine Cd.seq ?_
    refine Cd.region ?_
    refine Ops.mv_sl rfl rfl rfl ?_
    refine Ops.mv_int rfl rfl rfl ?_
    -- stop: CALL spec.l13Insert(t9, t10) -> 11
    refine Ops.call (l13Insert_c A n c xs v w hR hc hn hs h) rfl rfl rfl ?_
    rintro _ w1 ⟨A1, c1, rfl, hst⟩
    refine Ops.mv_sl rfl rfl rfl ?_
    refine Ops.nil ?_
    refine thenQ_n ?_
    refine Cd.ret ?_
    refine ret1_s rfl ?_
    -- stop: end
    exact ⟨A1, c1, rfl, hst.below, .inr hst⟩

/-! rows put anew -/
theorem cons_set_perm : ∀ (l : List Ck) (i : Nat) (x y : Ck), l[i]? = some y → (x :: l).Perm (y :: l.set i x)
  | [], i, x, y, h => by simp at h
  | u :: l, 0, x, y, h => by simp at h; subst h; exact List.Perm.swap _ _ _
  | u :: l, i + 1, x, y, h => by
    simp only [List.getElem?_cons_succ] at h
    simp only [List.set_cons_succ]
    exact (List.Perm.swap _ _ _).trans (((cons_set_perm l i x y h).cons u).trans (List.Perm.swap _ _ _))
theorem St.anew {w0 w : World} {ks : List Ck} {i : Nat} {k y : Ck} (h : St w0 w (k :: ks)) (hy : ks[i]? = some y) : St w0 w (ks.set i k) := (h.perm (cons_set_perm ks i k y hy)).tail
theorem St.insRow {w2 w1 w9 : World} {ks : List Ck} {i : Nat} {t : TypeId} {A A1 : Option Addr} {n c c1 : Nat} {xs ys : List Int} (h : St w2 w1 ks) (hk : ks[i]? = some (CkI t A n c xs)) (hbl : Below w1.heap.size w1 w9) (hor : (A1 = A ∧ c1 = c ∧ ys = xs) ∨ St w1 w9 [CkI t A1 ys.length c1 ys]) : St w2 w9 (ks.set i (CkI t A1 ys.length c1 ys)) := by
  rcases hor with ⟨rfl, rfl, rfl⟩ | hst
  · have hl := h.lenI i hk
    rw [hl, set_id hk]
    exact h.later hbl
  · exact (h.call hst).anew hk
theorem rowsCk_upd {t : TypeId} : ∀ {rs : List SlV} {xss : List (List Int)} {i : Nat} {s : SlV} {xs : List Int}, rs.length = xss.length → (rowsCk t rs xss).set i (CkI t s.a s.n s.c xs) = rowsCk t (rs.set i s) (xss.set i xs)
  | [], [], _, _, _, _ => rfl
  | [], _ :: _, _, _, _, h => by simp at h
  | _ :: _, [], _, _, _, h => by simp at h
  | r :: rs, x :: xss, 0, s, xs, _ => rfl
  | r :: rs, x :: xss, i + 1, s, xs, h => by
    have := rowsCk_upd (t := t) (rs := rs) (xss := xss) (i := i) (s := s) (xs := xs) (by simpa using h)
    simpa [rowsCk] using this
theorem mat_upd {t1 t2 : TypeId} {A : Option Addr} {n c : Nat} {rs : List SlV} {xss : List (List Int)} {i : Nat} {s : SlV} {xs : List Int} (hr : rs.length = xss.length) (hi : i < rs.length) : CkR t1 A n c (rs.set i s) :: (rowsCk t2 rs xss ++ []).set i (CkI t2 s.a s.n s.c xs) = mat t1 t2 A n c (rs.set i s) (xss.set i xs) ++ [] := by
  rw [List.append_nil, List.append_nil, rowsCk_upd hr]; rfl
theorem nilRows {w0 w : World} {t : TypeId} : ∀ (n : Nat) {ks : List Ck}, St w0 w ks → St w0 w (ks ++ rowsCk t (List.replicate n slNil) (List.replicate n []))
  | 0, ks, h => by show St w0 w (ks ++ []); rwa [List.append_nil]
  | n + 1, ks, h => by
    have h1 := nilRows (t := t) n h
    have h2 := h1.nil t
    exact h2.perm (List.perm_middle.symm)
end Go.Proofs.Ytgobjpcankaicaa.Vc
/-
  The walks of comparisons on both sides. Conditions: as each states them.
-/
namespace Go.Proofs.Ytgobjpcankaicaa.Vc
open Go.RowKit

theorem lexC_step {a b : List Int} {k : Nat} (ha : k < a.length) (hb : k < b.length) : lexC (a.drop k) (b.drop k) = if cmpI (gi a (k : Int)) (gi b (k : Int)) = 0 then lexC (a.drop (k + 1)) (b.drop (k + 1)) else cmpI (gi a (k : Int)) (gi b (k : Int)) := by
  rw [List.drop_eq_getElem_cons ha, List.drop_eq_getElem_cons hb, gi_mem ha, gi_mem hb]
  rfl
theorem lexC_endR {a b : List Int} {k : Nat} (ha : k < a.length) (hb : b.length ≤ k) : lexC (a.drop k) (b.drop k) = 1 := by
  rw [List.drop_eq_getElem_cons ha, List.drop_of_length_le hb]
  rfl
theorem lexC_endL {a b : List Int} {k : Nat} (ha : a.length ≤ k) : lexC (a.drop k) (b.drop k) = if k < b.length then -1 else 0 := by
  rw [List.drop_of_length_le ha]
  split
  · rename_i h
    rw [List.drop_eq_getElem_cons h]
    rfl
  · rename_i h
    rw [List.drop_of_length_le (by omega)]
    rfl
theorem lexCC_step {a b : List (List Int)} {k : Nat} (ha : k < a.length) (hb : k < b.length) : lexCC (a.drop k) (b.drop k) = if lexC (gl a (k : Int)) (gl b (k : Int)) = 0 then lexCC (a.drop (k + 1)) (b.drop (k + 1)) else lexC (gl a (k : Int)) (gl b (k : Int)) := by
  rw [List.drop_eq_getElem_cons ha, List.drop_eq_getElem_cons hb, gl_mem ha, gl_mem hb]
  rfl
theorem lexCC_endR {a b : List (List Int)} {k : Nat} (ha : k < a.length) (hb : b.length ≤ k) : lexCC (a.drop k) (b.drop k) = 1 := by
  rw [List.drop_eq_getElem_cons ha, List.drop_of_length_le hb]
  rfl
theorem lexCC_endL {a b : List (List Int)} {k : Nat} (ha : a.length ≤ k) : lexCC (a.drop k) (b.drop k) = if k < b.length then -1 else 0 := by
  rw [List.drop_of_length_le ha]
  split
  · rename_i h
    rw [List.drop_eq_getElem_cons h]
    rfl
  · rename_i h
    rw [List.drop_of_length_le (by omega)]
    rfl

/-! the program's side -/
theorem isNaN_c (x : Int) (w : World) : Ret Try.prog 174 [.int .i64 x] w (fun v w' => v = .bool false ∧ w' = w) := by
  refine Ret.of_cd Try.func174 rfl Try.ntmps174 rfl (post1 rfl) ?_
  refine Cd.seq ?_
  refine Cd.region ?_
  refine Ops.mv_bool rfl rfl rfl ?_
  refine Ops.nil ?_
  refine thenQ_n ?_
  refine Cd.seq ?_
  refine Cd.region ?_
  refine Ops.mv_int rfl rfl rfl ?_
  refine Ops.mv_int rfl rfl rfl ?_
  refine Ops.neq rfl rfl rfl ?_
  refine Ops.mv_bool rfl rfl rfl ?_
  refine Ops.nil ?_
  refine thenQ_n ?_
  refine Cd.ret ?_
  refine ret1_b rfl ?_
  -- stop: end
  exact ⟨by simp, rfl⟩
theorem cmpCompare_c (x y : Int) (w : World) : Ret Try.prog 127 [.int .i64 x, .int .i64 y] w (fun v w' => v = .int .i64 (cmpI x y) ∧ w' = w) := by
  refine Ret.of_cd Try.func127 rfl Try.ntmps127 rfl (post1 rfl) ?_
  refine Cd.seq ?_
  refine Cd.region ?_
  refine Ops.mv_int rfl rfl rfl ?_
  refine Ops.nil ?_
  refine thenQ_n ?_
  refine Cd.seq ?_
  refine Cd.region ?_
  refine Ops.mv_int rfl rfl rfl ?_
  -- stop: CALL cmp.isNaN[int64](t7) -> 8
  refine Ops.call (isNaN_c _ _) rfl rfl rfl ?_
  rintro _ w ⟨rfl, rfl⟩
  refine Ops.mv_bool rfl rfl rfl ?_
  refine Ops.nil ?_
  refine thenQ_n ?_
  refine Cd.seq ?_
  refine Cd.region ?_
  refine Ops.mv_int rfl rfl rfl ?_
  -- stop: CALL cmp.isNaN[int64](t9) -> 10
  refine Ops.call (isNaN_c _ _) rfl rfl rfl ?_
  rintro _ w ⟨rfl, rfl⟩
  refine Ops.mv_bool rfl rfl rfl ?_
  refine Ops.nil ?_
  refine thenQ_n ?_
  refine Cd.seq ?_
  refine Cd.seq ?_
  refine Cd.region ?_
  refine Ops.mv_bool rfl rfl rfl ?_
  refine Ops.nil ?_
  refine thenQ_n ?_
  -- stop: cond
  refine Cd.cond_f rfl ?_
  refine Cd.skip ?_
  refine thenQ_n ?_
  refine Cd.seq ?_
  refine Cd.seq ?_
  refine Cd.region ?_
  refine Ops.mv_bool rfl rfl rfl ?_
  refine Ops.nil ?_
  refine thenQ_n ?_
  -- stop: cond
  refine Cd.cond_f rfl ?_
  refine Cd.skip ?_
  refine thenQ_n ?_
  refine Cd.seq ?_
  refine Cd.seq ?_
  refine Cd.region ?_
  refine Ops.mv_int rfl rfl rfl ?_
  refine Ops.mv_int rfl rfl rfl ?_
  refine Ops.lss rfl rfl rfl ?_
  refine Ops.nil ?_
  refine thenQ_n ?_
  -- stop: cond
  refine Cd.cond_p _ rfl (fun h1 => ?_) (fun h1 => ?_)
  · refine Cd.seq ?_
    refine Cd.region ?_
    refine Ops.mv_int rfl rfl rfl ?_
    refine Ops.nil ?_
    refine thenQ_n ?_
    refine Cd.ret ?_
    refine thenQ_r ?_
    refine ret1_i rfl ?_
    -- stop: end
    exact ⟨by rw [cmpI, if_pos h1], rfl⟩
  · refine Cd.skip ?_
    refine thenQ_n ?_
    refine Cd.seq ?_
    refine Cd.seq ?_
    refine Cd.region ?_
    refine Ops.mv_int rfl rfl rfl ?_
    refine Ops.mv_int rfl rfl rfl ?_
    refine Ops.gtr rfl rfl rfl ?_
    refine Ops.nil ?_
    refine thenQ_n ?_
    -- stop: cond
    refine Cd.cond_p _ rfl (fun h2 => ?_) (fun h2 => ?_)
    · refine Cd.seq ?_
      refine Cd.region ?_
      refine Ops.mv_int rfl rfl rfl ?_
      refine Ops.nil ?_
      refine thenQ_n ?_
      refine Cd.ret ?_
      refine thenQ_r ?_
      refine ret1_i rfl ?_
      -- stop: end
      exact ⟨by rw [cmpI, if_neg h1, if_pos h2], rfl⟩
    · refine Cd.skip ?_
      refine thenQ_n ?_
      refine Cd.seq ?_
      refine Cd.region ?_
      refine Ops.mv_int rfl rfl rfl ?_
      refine Ops.nil ?_
      refine thenQ_n ?_
      refine Cd.ret ?_
      refine ret1_i rfl ?_
      -- stop: end
      exact ⟨by rw [cmpI, if_neg h1, if_neg h2], rfl⟩

theorem Compare_c (A : Option Addr) (n c : Nat) (xs : List Int) (A' : Option Addr) (n' c' : Nat) (ys : List Int) (w : World) (hX : RdI w A n xs) (hY : RdI w A' n' ys) (hn : n ≤ 9223372036854775807) :
    Ret Try.prog 83 [.slice A n c, .slice A' n' c'] w (fun v w' => v = .int .i64 (lexC xs ys) ∧ w' = w) := by
  have hxl := hX.1
  have hyl := hY.1
  refine Ret.of_cd Try.func83 rfl Try.ntmps83 rfl (post1 rfl) ?_
  refine Cd.seq ?_
  refine Cd.region ?_
  refine Ops.mv_int rfl rfl rfl ?_
  refine Ops.nil ?_
  refine thenQ_n ?_
  refine Cd.seq ?_
  refine Cd.seq ?_
  refine Cd.region ?_
  refine Ops.mv_sl rfl rfl rfl ?_
  refine Ops.len rfl rfl ?_
  refine Ops.mv_int rfl rfl rfl ?_
  refine Ops.nil ?_
  refine thenQ_n ?_
  refine Cd.block ?_
  -- stop: loop
  refine Cd.loop (α := Nat) (fun k => [(0, .slice A n c), (1, .slice A' n' c'), (9, .slice A n c), (10, .int .i64 (n : Int)), (11, .int .i64 (k : Int))]) (fun k w' => w' = w ∧ k ≤ n ∧ k ≤ n' ∧ lexC xs ys = lexC (xs.drop k) (ys.drop k)) (fun k => n - k) 0 ⟨rfl, rfl, rfl, rfl, rfl, trivial⟩ ⟨rfl, Nat.zero_le _, Nat.zero_le _, rfl⟩ ?_
  rintro k e w ⟨rfl, hk, hk', hK⟩
  refine Cd.seq ?_
  refine Cd.region ?_
  refine Ops.lss rfl rfl rfl ?_
  refine Ops.nil ?_
  refine thenQ_n ?_
  refine Cd.seq ?_
  -- stop: cond
  refine Cd.cond_p _ rfl (fun h1 => ?_) (fun h1 => ?_)
  · refine Cd.skip ?_
    refine thenQ_n ?_
    refine Cd.seq ?_
    refine Cd.block ?_
    refine Cd.seq ?_
    refine Cd.region ?_
    refine Ops.mv_int rfl rfl rfl ?_
    -- stop: INDEXADDR 33 t9 t11 -> 14
    refine Ops.idx hX.2 rfl rfl rfl (by omega) (by omega) ?_
    refine Ops.ld_int hX rfl (by omega) rfl rfl ?_
    refine Ops.mv_int rfl rfl rfl ?_
    refine Ops.mv_int rfl rfl rfl ?_
    refine Ops.nil ?_
    refine thenQ_n ?_
    refine Cd.seq ?_
    refine Cd.seq ?_
    refine Cd.region ?_
    refine Ops.mv_int rfl rfl rfl ?_
    refine Ops.mv_sl rfl rfl rfl ?_
    refine Ops.len rfl rfl ?_
    refine Ops.geq rfl rfl rfl ?_
    refine Ops.nil ?_
    refine thenQ_n ?_
    -- stop: cond
    refine Cd.cond_p _ rfl (fun h2 => ?_) (fun h2 => ?_)
    · refine Cd.seq ?_
      refine Cd.region ?_
      refine Ops.mv_int rfl rfl rfl ?_
      refine Ops.nil ?_
      refine thenQ_n ?_
      refine Cd.ret ?_
      refine thenQ_r ?_
      refine blockQ_r ?_
      refine thenQ_r ?_
      refine thenQ_r ?_
      refine blockQ_r ?_
      refine thenQ_r ?_
      refine ret1_i rfl ?_
      -- stop: end
      exact ⟨by rw [hK, lexC_endR (by omega) (by omega)], rfl⟩
    · rw [lexC_step (by omega) (by omega)] at hK
      refine Cd.skip ?_
      refine thenQ_n ?_
      refine Cd.seq ?_
      refine Cd.region ?_
      refine Ops.mv_sl rfl rfl rfl ?_
      refine Ops.mv_int rfl rfl rfl ?_
      -- stop: INDEXADDR 33 t20 t21 -> 22
      refine Ops.idx hY.2 rfl rfl rfl (by omega) (by omega) ?_
      refine Ops.ld_int hY rfl (by omega) rfl rfl ?_
      refine Ops.mv_int rfl rfl rfl ?_
      refine Ops.nil ?_
      refine thenQ_n ?_
      refine Cd.seq ?_
      refine Cd.region ?_
      refine Ops.mv_int rfl rfl rfl ?_
      refine Ops.mv_int rfl rfl rfl ?_
      -- stop: CALL cmp.Compare[int64](t24, t25) -> 26
      refine Ops.call (cmpCompare_c _ _ _) rfl rfl rfl ?_
      rintro _ w ⟨rfl, rfl⟩
      refine Ops.mv_int rfl rfl rfl ?_
      refine Ops.nil ?_
      refine thenQ_n ?_
      refine Cd.seq ?_
      refine Cd.region ?_
      refine Ops.mv_int rfl rfl rfl ?_
      refine Ops.neq rfl rfl rfl ?_
      refine Ops.nil ?_
      refine thenQ_n ?_
      -- stop: cond
      refine Cd.cond_p _ rfl (fun h3 => ?_) (fun h3 => ?_)
      · refine Cd.seq ?_
        refine Cd.region ?_
        refine Ops.mv_int rfl rfl rfl ?_
        refine Ops.mv_int rfl rfl rfl ?_
        refine Ops.nil ?_
        refine thenQ_n ?_
        refine Cd.ret ?_
        refine blockQ_r ?_
        refine thenQ_r ?_
        refine thenQ_r ?_
        refine blockQ_r ?_
        refine thenQ_r ?_
        refine ret1_i rfl ?_
        -- stop: end
        exact ⟨by rw [hK, if_neg h3], rfl⟩
      · rw [if_pos (Classical.not_not.1 h3)] at hK
        refine Cd.skip ?_
        refine blockQ_n ?_
        refine thenQ_n ?_
        refine Cd.region ?_
        refine Ops.add rfl rfl rfl (by omega) ?_
        refine Ops.mv_int rfl rfl rfl ?_
        refine Ops.nil ?_
        refine thenQ_n ?_
        -- stop: round
        exact ⟨k + 1, by show n - (k + 1) < n - k; omega, ⟨rfl, rfl, rfl, rfl, rfl, trivial⟩, rfl, by omega, by omega, hK⟩
  · rw [lexC_endL (by omega)] at hK
    have hkn : k = n := by omega
    subst hkn
    refine Cd.exit ?_
    refine thenQ_x ?_
    refine thenQ_x ?_
    refine blockQ_x ?_
    refine thenQ_n ?_
    refine Cd.seq ?_
    refine Cd.seq ?_
    refine Cd.region ?_
    refine Ops.mv_sl rfl rfl rfl ?_
    refine Ops.len rfl rfl ?_
    refine Ops.mv_sl rfl rfl rfl ?_
    refine Ops.len rfl rfl ?_
    refine Ops.lss rfl rfl rfl ?_
    refine Ops.nil ?_
    refine thenQ_n ?_
    -- stop: cond
    refine Cd.cond_p _ rfl (fun h2 => ?_) (fun h2 => ?_)
    · refine Cd.seq ?_
      refine Cd.region ?_
      refine Ops.mv_int rfl rfl rfl ?_
      refine Ops.nil ?_
      refine thenQ_n ?_
      refine Cd.ret ?_
      refine thenQ_r ?_
      refine ret1_i rfl ?_
      -- stop: end
      exact ⟨by rw [hK, if_pos (by omega)], rfl⟩
    · refine Cd.skip ?_
      refine thenQ_n ?_
      refine Cd.seq ?_
      refine Cd.region ?_
      refine Ops.mv_int rfl rfl rfl ?_
      refine Ops.nil ?_
      refine thenQ_n ?_
      refine Cd.ret ?_
      refine ret1_i rfl ?_
      -- stop: end
      exact ⟨by rw [hK, if_neg (by omega)], rfl⟩

theorem CompareFunc_c (A : Option Addr) (n c : Nat) (rs : List SlV) (xss : List (List Int)) (A' : Option Addr) (n' c' : Nat) (rs' : List SlV) (yss : List (List Int)) (w : World) (hX : RowsI w A n rs xss) (hY : RowsI w A' n' rs' yss) (hn : n ≤ 9223372036854775807) :
    Ret Try.prog 158 [.slice A n c, .slice A' n' c', .func (.func 83) #[] #[]] w (fun v w' => v = .int .i64 (lexCC xss yss) ∧ w' = w) := by
  have hxl := hX.len
  have hyl := hY.len
  refine Ret.of_cd Try.func158 rfl Try.ntmps158 rfl (post1 rfl) ?_
  refine Cd.seq ?_
  refine Cd.region ?_
  refine Ops.mv_int rfl rfl rfl ?_
  refine Ops.nil ?_
  refine thenQ_n ?_
  refine Cd.seq ?_
  refine Cd.seq ?_
  refine Cd.region ?_
  refine Ops.mv_sl rfl rfl rfl ?_
  refine Ops.len rfl rfl ?_
  refine Ops.mv_int rfl rfl rfl ?_
  refine Ops.nil ?_
  refine thenQ_n ?_
  refine Cd.block ?_
  -- stop: loop
  refine Cd.loop (α := Nat) (fun k => [(0, .slice A n c), (1, .slice A' n' c'), (2, .func (.func 83) #[] #[]), (11, .slice A n c), (12, .int .i64 (n : Int)), (13, .int .i64 (k : Int))]) (fun k w' => w' = w ∧ k ≤ n ∧ k ≤ n' ∧ lexCC xss yss = lexCC (xss.drop k) (yss.drop k)) (fun k => n - k) 0 ⟨rfl, rfl, rfl, rfl, rfl, rfl, trivial⟩ ⟨rfl, Nat.zero_le _, Nat.zero_le _, rfl⟩ ?_
  rintro k e w ⟨rfl, hk, hk', hK⟩
  refine Cd.seq ?_
  refine Cd.region ?_
  refine Ops.lss rfl rfl rfl ?_
  refine Ops.nil ?_
  refine thenQ_n ?_
  refine Cd.seq ?_
  -- stop: cond
  refine Cd.cond_p _ rfl (fun h1 => ?_) (fun h1 => ?_)
  · have hrx := hX.at_ (i := (k : Int)) (by omega) h1
    have hlx := hX.rowLen (k := (k : Int)) (by omega) h1
    have hrk := hX.cap_ (i := (k : Int)) (by omega) h1
    refine Cd.skip ?_
    refine thenQ_n ?_
    refine Cd.seq ?_
    refine Cd.block ?_
    refine Cd.seq ?_
    refine Cd.region ?_
    refine Ops.mv_int rfl rfl rfl ?_
    -- stop: INDEXADDR 22 t11 t13 -> 16
    refine Ops.idx hX.top.2 rfl rfl rfl (by omega) (by omega) ?_
    refine Ops.ld_sl hX.top rfl (by omega) rfl rfl ?_
    refine Ops.mv_int rfl rfl rfl ?_
    refine Ops.mv_sl rfl rfl rfl ?_
    refine Ops.nil ?_
    refine thenQ_n ?_
    refine Cd.seq ?_
    refine Cd.seq ?_
    refine Cd.region ?_
    refine Ops.mv_int rfl rfl rfl ?_
    refine Ops.mv_sl rfl rfl rfl ?_
    refine Ops.len rfl rfl ?_
    refine Ops.geq rfl rfl rfl ?_
    refine Ops.nil ?_
    refine thenQ_n ?_
    -- stop: cond
    refine Cd.cond_p _ rfl (fun h2 => ?_) (fun h2 => ?_)
    · refine Cd.seq ?_
      refine Cd.region ?_
      refine Ops.mv_int rfl rfl rfl ?_
      refine Ops.nil ?_
      refine thenQ_n ?_
      refine Cd.ret ?_
      refine thenQ_r ?_
      refine blockQ_r ?_
      refine thenQ_r ?_
      refine thenQ_r ?_
      refine blockQ_r ?_
      refine thenQ_r ?_
      refine ret1_i rfl ?_
      -- stop: end
      exact ⟨by rw [hK, lexCC_endR (by omega) (by omega)], rfl⟩
    · rw [lexCC_step (by omega) (by omega)] at hK
      have hry := hY.at_ (i := (k : Int)) (by omega) (by omega)
      refine Cd.skip ?_
      refine thenQ_n ?_
      refine Cd.seq ?_
      refine Cd.region ?_
      refine Ops.mv_sl rfl rfl rfl ?_
      refine Ops.mv_int rfl rfl rfl ?_
      -- stop: INDEXADDR 22 t22 t23 -> 24
      refine Ops.idx hY.top.2 rfl rfl rfl (by omega) (by omega) ?_
      refine Ops.ld_sl hY.top rfl (by omega) rfl rfl ?_
      refine Ops.mv_sl rfl rfl rfl ?_
      refine Ops.nil ?_
      refine thenQ_n ?_
      refine Cd.seq ?_
      refine Cd.region ?_
      refine Ops.mv_fn rfl rfl rfl ?_
      refine Ops.mv_sl rfl rfl rfl ?_
      refine Ops.mv_sl rfl rfl rfl ?_
      -- stop: CALL t26(t27, t28) -> 29
      refine Ops.call (Compare_c _ _ _ _ _ _ _ _ _ hrx hry (by omega)) rfl rfl rfl ?_
      rintro _ w ⟨rfl, rfl⟩
      refine Ops.mv_int rfl rfl rfl ?_
      refine Ops.nil ?_
      refine thenQ_n ?_
      refine Cd.seq ?_
      refine Cd.region ?_
      refine Ops.mv_int rfl rfl rfl ?_
      refine Ops.neq rfl rfl rfl ?_
      refine Ops.nil ?_
      refine thenQ_n ?_
      -- stop: cond
      refine Cd.cond_p _ rfl (fun h3 => ?_) (fun h3 => ?_)
      · refine Cd.seq ?_
        refine Cd.region ?_
        refine Ops.mv_int rfl rfl rfl ?_
        refine Ops.mv_int rfl rfl rfl ?_
        refine Ops.nil ?_
        refine thenQ_n ?_
        refine Cd.ret ?_
        refine blockQ_r ?_
        refine thenQ_r ?_
        refine thenQ_r ?_
        refine blockQ_r ?_
        refine thenQ_r ?_
        refine ret1_i rfl ?_
        -- stop: end
        exact ⟨by rw [hK, if_neg h3], rfl⟩
      · rw [if_pos (Classical.not_not.1 h3)] at hK
        refine Cd.skip ?_
        refine blockQ_n ?_
        refine thenQ_n ?_
        refine Cd.region ?_
        refine Ops.add rfl rfl rfl (by omega) ?_
        refine Ops.mv_int rfl rfl rfl ?_
        refine Ops.nil ?_
        refine thenQ_n ?_
        -- stop: round
        exact ⟨k + 1, by show n - (k + 1) < n - k; omega, ⟨rfl, rfl, rfl, rfl, rfl, rfl, trivial⟩, rfl, by omega, by omega, hK⟩
  · rw [lexCC_endL (by omega)] at hK
    have hkn : k = n := by omega
    subst hkn
    refine Cd.exit ?_
    refine thenQ_x ?_
    refine thenQ_x ?_
    refine blockQ_x ?_
    refine thenQ_n ?_
    refine Cd.seq ?_
    refine Cd.seq ?_
    refine Cd.region ?_
    refine Ops.mv_sl rfl rfl rfl ?_
    refine Ops.len rfl rfl ?_
    refine Ops.mv_sl rfl rfl rfl ?_
    refine Ops.len rfl rfl ?_
    refine Ops.lss rfl rfl rfl ?_
    refine Ops.nil ?_
    refine thenQ_n ?_
    -- stop: cond
    refine Cd.cond_p _ rfl (fun h2 => ?_) (fun h2 => ?_)
    · refine Cd.seq ?_
      refine Cd.region ?_
      refine Ops.mv_int rfl rfl rfl ?_
      refine Ops.nil ?_
      refine thenQ_n ?_
      refine Cd.ret ?_
      refine thenQ_r ?_
      refine ret1_i rfl ?_
      -- stop: end
      exact ⟨by rw [hK, if_pos (by omega)], rfl⟩
    · refine Cd.skip ?_
      refine thenQ_n ?_
      refine Cd.seq ?_
      refine Cd.region ?_
      refine Ops.mv_int rfl rfl rfl ?_
      refine Ops.nil ?_
      refine thenQ_n ?_
      refine Cd.ret ?_
      refine ret1_i rfl ?_
      -- stop: end
      exact ⟨by rw [hK, if_neg (by omega)], rfl⟩

theorem compareManiplexes_c (A : Option Addr) (n c : Nat) (rs : List SlV) (xss : List (List Int)) (A' : Option Addr) (n' c' : Nat) (rs' : List SlV) (yss : List (List Int)) (w : World) (hX : RowsI w A n rs xss) (hY : RowsI w A' n' rs' yss) (hn : n ≤ 9223372036854775807) :
    Ret Try.prog 113 [.agg #[.slice A n c], .agg #[.slice A' n' c']] w (fun v w' => v = .int .i64 (lexCC xss yss) ∧ St w w' []) := by
  refine Ret.of_cd Try.func113 rfl Try.ntmps113 rfl (post1 rfl) ?_
  refine Cd.seq ?_
  refine Cd.region ?_
  -- stop: BOX 24 t0=a -> 2
  refine Ops.box1 (St.refl w) rfl rfl ?_
  intro Ab w1 hS1
  refine Ops.box1 hS1 rfl rfl ?_
  intro Ac w2 hS2
  refine Ops.mv_int rfl rfl rfl ?_
  refine Ops.nil ?_
  refine thenQ_n ?_
  refine Cd.seq ?_
  refine Cd.region ?_
  -- stop: FIELDADDR 24 t2=a 0 -> 5
  refine Ops.fld (hS2.rd 1 rfl) rfl rfl rfl rfl inferInstance ?_
  refine Ops.ldf_s (hS2.rd 1 rfl) rfl rfl rfl rfl rfl ?_
  refine Ops.fld (hS2.rd 0 rfl) rfl rfl rfl rfl inferInstance ?_
  refine Ops.ldf_s (hS2.rd 0 rfl) rfl rfl rfl rfl rfl ?_
  refine Ops.call (CompareFunc_c A n c rs xss A' n' c' rs' yss _ (hS2.oldRows hX) (hS2.oldRows hY) hn) rfl rfl rfl ?_
  rintro _ w3 ⟨rfl, rfl⟩
  refine Ops.mv_int rfl rfl rfl ?_
  refine Ops.nil ?_
  refine thenQ_n ?_
  refine Cd.ret ?_
  refine ret1_i rfl ?_
  -- stop: end
  exact ⟨rfl, hS2.none⟩

theorem Equal_c (A : Option Addr) (n c : Nat) (xs : List Int) (A' : Option Addr) (n' c' : Nat) (ys : List Int) (w : World) (hR : RdI w A n xs) (hR' : RdI w A' n' ys) (hn : n ≤ 9223372036854775807) :
    Ret Try.prog 85 [.slice A n c, .slice A' n' c'] w (fun v w' => v = .bool (decide (xs = ys)) ∧ St w w' []) := by
  have hl := hR.1
  have hl' := hR'.1
  subst hl
  subst hl'
  refine Ret.of_cd Try.func85 rfl Try.ntmps85 rfl (post1 rfl) ?_
  refine Cd.seq ?_
  refine Cd.region ?_
  refine Ops.mv_bool rfl rfl rfl ?_
  refine Ops.nil ?_
  refine thenQ_n ?_
  refine Cd.seq ?_
  refine Cd.seq ?_
  refine Cd.region ?_
  refine Ops.mv_sl rfl rfl rfl ?_
  refine Ops.len rfl rfl ?_
  refine Ops.mv_sl rfl rfl rfl ?_
  refine Ops.len rfl rfl ?_
  refine Ops.neq rfl rfl rfl ?_
  refine Ops.nil ?_
  refine thenQ_n ?_
  -- stop: cond
  refine Cd.cond_p _ rfl (fun h => ?_) (fun h => ?_)
  · refine Cd.seq ?_
    refine Cd.region ?_
    refine Ops.mv_bool rfl rfl rfl ?_
    refine Ops.nil ?_
    refine thenQ_n ?_
    refine Cd.ret ?_
    refine thenQ_r ?_
    refine ret1_b rfl ?_
    -- stop: end
    exact ⟨by rw [decide_eq_false (fun e : xs = ys => h (by rw [e]))], St.refl _⟩
  refine Cd.skip ?_
  refine thenQ_n ?_
  refine Cd.seq ?_
  refine Cd.seq ?_
  refine Cd.region ?_
  refine Ops.mv_sl rfl rfl rfl ?_
  refine Ops.len rfl rfl ?_
  refine Ops.mv_int rfl rfl rfl ?_
  refine Ops.nil ?_
  refine thenQ_n ?_
  refine Cd.block ?_
  -- stop: loop
  refine Cd.loop (α := Nat) (fun k => [(0, .slice A xs.length c), (1, .slice A' ys.length c'), (12, .int .i64 (xs.length : Int)), (13, .int .i64 (k : Int))]) (fun k w' => St w w' [] ∧ k ≤ xs.length ∧ xs.take k = ys.take k) (fun k => xs.length - k) 0 ⟨rfl, rfl, rfl, rfl, trivial⟩ ⟨St.refl w, Nat.zero_le _, rfl⟩ ?_
  rintro k e w2 ⟨hS2, hk, hI⟩
  have hle : xs.length = ys.length := by omega
  refine Cd.seq ?_
  refine Cd.region ?_
  refine Ops.lss rfl rfl rfl ?_
  refine Ops.nil ?_
  refine thenQ_n ?_
  refine Cd.seq ?_
  -- stop: cond
  refine Cd.cond_p _ rfl (fun h1 => ?_) (fun h1 => ?_)
  · have hA := hS2.oldI hR
    have hB := hS2.oldI hR'
    have h2 : (k : Int) < ys.length := by omega
    have hx := gi_mem (p := xs) (k := k) (by omega)
    have hy := gi_mem (p := ys) (k := k) (by omega)
    refine Cd.skip ?_
    refine thenQ_n ?_
    refine Cd.seq ?_
    refine Cd.block ?_
    refine Cd.seq ?_
    refine Cd.region ?_
    refine Ops.mv_int rfl rfl rfl ?_
    refine Ops.mv_int rfl rfl rfl ?_
    refine Ops.nil ?_
    refine thenQ_n ?_
    refine Cd.seq ?_
    -- stop: draw
    refine Cd.draw [.ex (.slice (A) (xs.length) (c)), .ex (.int .i64 ((k : Int))), .ex (.pointer (ptrAt (A) ((k : Int)).toNat)), .ex (.int .i64 (gi (xs) ((k : Int)))), .ex (.slice (A') (ys.length) (c')), .ex (.int .i64 ((k : Int))), .ex (.pointer (ptrAt (A') ((k : Int)).toNat)), .ex (.int .i64 (gi (ys) ((k : Int)))), .ex (.bool (decide (¬ (gi (xs) ((k : Int))) = (gi (ys) ((k : Int))))))] (by kernel_rfl) (by kernel_rfl) rfl (List.forall_mem_cons.2 ⟨Yd.lasts_ex _, (List.forall_mem_cons.2 ⟨Yd.lasts_ex _, (List.forall_mem_cons.2 ⟨Yd.lasts_ex _, (List.forall_mem_cons.2 ⟨Yd.lasts_ex _, (List.forall_mem_cons.2 ⟨Yd.lasts_ex _, (List.forall_mem_cons.2 ⟨Yd.lasts_ex _, (List.forall_mem_cons.2 ⟨Yd.lasts_ex _, (List.forall_mem_cons.2 ⟨Yd.lasts_ex _, (List.forall_mem_cons.2 ⟨Yd.lasts_ex _, (fun _ h => by cases h)⟩)⟩)⟩)⟩)⟩)⟩)⟩)⟩)⟩) ⟨?_, ?_, ?_, ?_, ?_, ?_, ?_, ?_, ?_, trivial⟩ ?_
    · intro e1 w1 hb hp hun
      refine Ops.mv_sl rfl rfl rfl ?_
      refine Ops.nil ?_
      exact After.dn (Below.refl _ _) (by exact rfl)
    · intro e1 w1 hb hp hun
      refine Ops.mv_int rfl rfl rfl ?_
      refine Ops.nil ?_
      exact After.dn (Below.refl _ _) (by exact rfl)
    · intro e1 w1 hb hp hun
      refine Ops.idx (hA.later hb).2 rfl rfl rfl (by omega) (by omega) ?_
      refine Ops.nil ?_
      exact After.dn (Below.refl _ _) (by exact rfl)
    · intro e1 w1 hb hp hun
      refine Ops.ld_int (hA.later hb) rfl (by omega) rfl rfl ?_
      refine Ops.nil ?_
      exact After.dn (Below.refl _ _) (by exact rfl)
    · intro e1 w1 hb hp hun
      refine Ops.mv_sl rfl rfl rfl ?_
      refine Ops.nil ?_
      exact After.dn (Below.refl _ _) (by exact rfl)
    · intro e1 w1 hb hp hun
      refine Ops.mv_int rfl rfl rfl ?_
      refine Ops.nil ?_
      exact After.dn (Below.refl _ _) (by exact rfl)
    · intro e1 w1 hb hp hun
      refine Ops.idx (hB.later hb).2 rfl rfl rfl (by omega) (by omega) ?_
      refine Ops.nil ?_
      exact After.dn (Below.refl _ _) (by exact rfl)
    · intro e1 w1 hb hp hun
      refine Ops.ld_int (hB.later hb) rfl (by omega) rfl rfl ?_
      refine Ops.nil ?_
      exact After.dn (Below.refl _ _) (by exact rfl)
    · intro e1 w1 hb hp hun
      refine Ops.neq rfl rfl rfl ?_
      refine Ops.nil ?_
      exact After.dn (Below.refl _ _) (by exact rfl)
    intro u w3 hb3 _
    have hS3 := hS2.later hb3
    refine thenQ_n ?_
    -- stop: cond
    refine Cd.cond_p _ rfl (fun h3 => ?_) (fun h3 => ?_)
    · refine Cd.seq ?_
      refine Cd.region ?_
      refine Ops.mv_bool rfl rfl rfl ?_
      refine Ops.nil ?_
      refine thenQ_n ?_
      refine Cd.ret ?_
      refine blockQ_r ?_
      refine thenQ_r ?_
      refine thenQ_r ?_
      refine blockQ_r ?_
      refine thenQ_r ?_
      refine ret1_b rfl ?_
      -- stop: end
      refine ⟨by rw [decide_eq_false (fun e : xs = ys => h3 (by rw [e]))], hS3⟩
    · refine Cd.skip ?_
      refine blockQ_n ?_
      refine thenQ_n ?_
      refine Cd.region ?_
      refine Ops.add rfl rfl rfl (by omega) ?_
      refine Ops.mv_int rfl rfl rfl ?_
      refine Ops.nil ?_
      refine thenQ_n ?_
      -- stop: round
      refine ⟨k + 1, by omega, ⟨rfl, rfl, rfl, rfl, trivial⟩, hS3, by omega, ?_⟩
      rw [take_succ_gi (by omega), take_succ_gi (by omega), hI, Classical.not_not.1 h3]
  · refine Cd.exit ?_
    refine thenQ_x ?_
    refine thenQ_x ?_
    refine blockQ_x ?_
    refine thenQ_n ?_
    refine Cd.seq ?_
    refine Cd.region ?_
    refine Ops.mv_bool rfl rfl rfl ?_
    refine Ops.nil ?_
    refine thenQ_n ?_
    refine Cd.ret ?_
    refine ret1_b rfl ?_
    -- stop: end
    refine ⟨?_, hS2⟩
    rw [List.take_of_length_le (by omega), List.take_of_length_le (by omega)] at hI
    rw [decide_eq_true hI]

theorem EqualFunc_c (A : Option Addr) (n c : Nat) (rs : List SlV) (xs : List (List Int)) (A' : Option Addr) (n' c' : Nat) (rs' : List SlV) (ys : List (List Int)) (w : World) (hR : RowsI w A n rs xs) (hR' : RowsI w A' n' rs' ys) (hn : n ≤ 9223372036854775807) :
    Ret Try.prog 156 [.slice A n c, .slice A' n' c', .func (.func 85) #[] #[]] w (fun v w' => v = .bool (decide (xs = ys)) ∧ St w w' []) := by
  have hl := hR.len
  have hl' := hR'.len
  subst hl
  subst hl'
  refine Ret.of_cd Try.func156 rfl Try.ntmps156 rfl (post1 rfl) ?_
  refine Cd.seq ?_
  refine Cd.region ?_
  refine Ops.mv_bool rfl rfl rfl ?_
  refine Ops.nil ?_
  refine thenQ_n ?_
  refine Cd.seq ?_
  refine Cd.seq ?_
  refine Cd.region ?_
  refine Ops.mv_sl rfl rfl rfl ?_
  refine Ops.len rfl rfl ?_
  refine Ops.mv_sl rfl rfl rfl ?_
  refine Ops.len rfl rfl ?_
  refine Ops.neq rfl rfl rfl ?_
  refine Ops.nil ?_
  refine thenQ_n ?_
  -- stop: cond
  refine Cd.cond_p _ rfl (fun h => ?_) (fun h => ?_)
  · refine Cd.seq ?_
    refine Cd.region ?_
    refine Ops.mv_bool rfl rfl rfl ?_
    refine Ops.nil ?_
    refine thenQ_n ?_
    refine Cd.ret ?_
    refine thenQ_r ?_
    refine ret1_b rfl ?_
    -- stop: end
    exact ⟨by rw [decide_eq_false (fun e : xs = ys => h (by rw [e]))], St.refl _⟩
  refine Cd.skip ?_
  refine thenQ_n ?_
  refine Cd.seq ?_
  refine Cd.seq ?_
  refine Cd.region ?_
  refine Ops.mv_sl rfl rfl rfl ?_
  refine Ops.len rfl rfl ?_
  refine Ops.mv_int rfl rfl rfl ?_
  refine Ops.nil ?_
  refine thenQ_n ?_
  refine Cd.block ?_
  -- stop: loop
  refine Cd.loop (α := Nat) (fun k => [(1, .slice A' ys.length c'), (2, .func (.func 85) #[] #[]), (15, .slice A xs.length c), (16, .int .i64 (xs.length : Int)), (17, .int .i64 (k : Int))]) (fun k w' => St w w' [] ∧ k ≤ xs.length ∧ xs.take k = ys.take k) (fun k => xs.length - k) 0 ⟨rfl, rfl, rfl, rfl, rfl, trivial⟩ ⟨St.refl w, Nat.zero_le _, rfl⟩ ?_
  rintro k e w2 ⟨hS2, hk, hI⟩
  have hle : xs.length = ys.length := by omega
  refine Cd.seq ?_
  refine Cd.region ?_
  refine Ops.lss rfl rfl rfl ?_
  refine Ops.nil ?_
  refine thenQ_n ?_
  refine Cd.seq ?_
  -- stop: cond
  refine Cd.cond_p _ rfl (fun h1 => ?_) (fun h1 => ?_)
  · have hA := hS2.oldRows hR
    have hB := hS2.oldRows hR'
    have h2 : (k : Int) < ys.length := by omega
    have hx := gl_mem (p := xs) (k := k) (by omega)
    have hy := gl_mem (p := ys) (k := k) (by omega)
    have ha := hA.at_ (i := k) (by omega) h1
    have hb' := hB.at_ (i := k) (by omega) h2
    have hc := hA.cap_ (i := k) (by omega) h1
    refine Cd.skip ?_
    refine thenQ_n ?_
    refine Cd.seq ?_
    refine Cd.block ?_
    refine Cd.seq ?_
    refine Cd.region ?_
    refine Ops.mv_int rfl rfl rfl ?_
    -- stop: INDEXADDR 22 t15 t17 -> 20
    refine Ops.idx hA.top.2 rfl rfl rfl (by omega) (by omega) ?_
    refine Ops.ld_sl hA.top rfl (by omega) rfl rfl ?_
    refine Ops.mv_int rfl rfl rfl ?_
    refine Ops.mv_sl rfl rfl rfl ?_
    refine Ops.nil ?_
    refine thenQ_n ?_
    refine Cd.seq ?_
    refine Cd.region ?_
    refine Ops.mv_sl rfl rfl rfl ?_
    refine Ops.mv_int rfl rfl rfl ?_
    -- stop: INDEXADDR 22 t22 t23 -> 24
    refine Ops.idx hB.top.2 rfl rfl rfl (by omega) (by omega) ?_
    refine Ops.ld_sl hB.top rfl (by omega) rfl rfl ?_
    refine Ops.mv_sl rfl rfl rfl ?_
    refine Ops.nil ?_
    refine thenQ_n ?_
    refine Cd.seq ?_
    refine Cd.region ?_
    refine Ops.mv_fn rfl rfl rfl ?_
    refine Ops.mv_sl rfl rfl rfl ?_
    refine Ops.mv_sl rfl rfl rfl ?_
    -- stop: CALL t26(t27, t28) -> 29
    refine Ops.call (Equal_c _ _ _ _ _ _ _ _ _ ha hb' (by omega)) rfl rfl rfl ?_
    rintro _ w3 ⟨rfl, hst⟩
    have hS3 := hS2.later hst.below
    first | refine Ops.not_p rfl rfl ?_ | refine Ops.not rfl rfl ?_
    refine Ops.nil ?_
    refine thenQ_n ?_
    -- stop: cond
    refine Cd.cond_p _ rfl (fun h3 => ?_) (fun h3 => ?_)
    · refine Cd.seq ?_
      refine Cd.region ?_
      refine Ops.mv_bool rfl rfl rfl ?_
      refine Ops.nil ?_
      refine thenQ_n ?_
      refine Cd.ret ?_
      refine blockQ_r ?_
      refine thenQ_r ?_
      refine thenQ_r ?_
      refine blockQ_r ?_
      refine thenQ_r ?_
      refine ret1_b rfl ?_
      -- stop: end
      refine ⟨by rw [decide_eq_false (fun e : xs = ys => h3 (by rw [e]))], hS3⟩
    · refine Cd.skip ?_
      refine blockQ_n ?_
      refine thenQ_n ?_
      refine Cd.region ?_
      refine Ops.add rfl rfl rfl (by omega) ?_
      refine Ops.mv_int rfl rfl rfl ?_
      refine Ops.nil ?_
      refine thenQ_n ?_
      -- stop: round
      refine ⟨k + 1, by omega, ⟨rfl, rfl, rfl, rfl, rfl, trivial⟩, hS3, by omega, ?_⟩
      rw [take_succ_gl (by omega), take_succ_gl (by omega), hI, Classical.not_not.1 h3]
  · refine Cd.exit ?_
    refine thenQ_x ?_
    refine thenQ_x ?_
    refine blockQ_x ?_
    refine thenQ_n ?_
    refine Cd.seq ?_
    refine Cd.region ?_
    refine Ops.mv_bool rfl rfl rfl ?_
    refine Ops.nil ?_
    refine thenQ_n ?_
    refine Cd.ret ?_
    refine ret1_b rfl ?_
    -- stop: end
    refine ⟨?_, hS2⟩
    rw [List.take_of_length_le (by omega), List.take_of_length_le (by omega)] at hI
    rw [decide_eq_true hI]

theorem sameManiplex_c (A : Option Addr) (n c : Nat) (rs : List SlV) (xss : List (List Int)) (A' : Option Addr) (n' c' : Nat) (rs' : List SlV) (yss : List (List Int)) (w : World) (hX : RowsI w A n rs xss) (hY : RowsI w A' n' rs' yss) (hn : n ≤ 9223372036854775807) :
    Ret Try.prog 111 [.agg #[.slice A n c], .agg #[.slice A' n' c']] w (fun v w' => v = .bool (decide (xss = yss)) ∧ St w w' []) := by
  refine Ret.of_cd Try.func111 rfl Try.ntmps111 rfl (post1 rfl) ?_
  refine Cd.seq ?_
  refine Cd.region ?_
  -- stop: BOX 24 t0=a -> 2
  refine Ops.box1 (St.refl w) rfl rfl ?_
  intro Ab w1 hS1
  refine Ops.box1 hS1 rfl rfl ?_
  intro Ac w2 hS2
  refine Ops.mv_bool rfl rfl rfl ?_
  refine Ops.nil ?_
  refine thenQ_n ?_
  refine Cd.seq ?_
  refine Cd.region ?_
  -- stop: FIELDADDR 24 t2=a 0 -> 5
  refine Ops.fld (hS2.rd 1 rfl) rfl rfl rfl rfl inferInstance ?_
  refine Ops.ldf_s (hS2.rd 1 rfl) rfl rfl rfl rfl rfl ?_
  refine Ops.fld (hS2.rd 0 rfl) rfl rfl rfl rfl inferInstance ?_
  refine Ops.ldf_s (hS2.rd 0 rfl) rfl rfl rfl rfl rfl ?_
  refine Ops.call (EqualFunc_c A n c rs xss A' n' c' rs' yss _ (hS2.oldRows hX) (hS2.oldRows hY) hn) rfl rfl rfl ?_
  rintro _ w3 ⟨rfl, hst⟩
  refine Ops.mv_bool rfl rfl rfl ?_
  refine Ops.nil ?_
  refine thenQ_n ?_
  refine Cd.ret ?_
  refine ret1_b rfl ?_
  -- stop: end
  exact ⟨rfl, (hS2.later hst.below).none⟩

/-! the reference's side -/
theorem l01Same_c (A : Option Addr) (n c : Nat) (xs : List Int) (A' : Option Addr) (n' c' : Nat) (ys : List Int) (w : World) (hR : RdI w A n xs) (hR' : RdI w A' n' ys) (hn : n ≤ 9223372036854775807) :
    Ret Try.prog 80 [.slice A n c, .slice A' n' c'] w (fun v w' => v = .bool (decide (xs = ys)) ∧ St w w' []) := by
  have hl := hR.1
  have hl' := hR'.1
  subst hl
  subst hl'
  refine Ret.of_cd Try.func80 rfl Try.ntmps80 rfl (post1 rfl) ?_
  refine Cd.seq ?_
  refine Cd.region ?_
  refine Ops.mv_bool rfl rfl rfl ?_
  refine Ops.nil ?_
  refine thenQ_n ?_
  refine Cd.seq ?_
  refine Cd.seq ?_
  refine Cd.region ?_
  refine Ops.mv_sl rfl rfl rfl ?_
  refine Ops.len rfl rfl ?_
  refine Ops.mv_sl rfl rfl rfl ?_
  refine Ops.len rfl rfl ?_
  refine Ops.neq rfl rfl rfl ?_
  refine Ops.nil ?_
  refine thenQ_n ?_
  -- stop: cond
  refine Cd.cond_p _ rfl (fun h => ?_) (fun h => ?_)
  · refine Cd.seq ?_
    refine Cd.region ?_
    refine Ops.mv_bool rfl rfl rfl ?_
    refine Ops.nil ?_
    refine thenQ_n ?_
    refine Cd.ret ?_
    refine thenQ_r ?_
    refine ret1_b rfl ?_
    -- stop: end
    exact ⟨by rw [decide_eq_false (fun e : xs = ys => h (by rw [e]))], St.refl _⟩
  refine Cd.skip ?_
  refine thenQ_n ?_
  refine Cd.seq ?_
  refine Cd.seq ?_
  refine Cd.region ?_
  refine Ops.mv_int rfl rfl rfl ?_
  refine Ops.nil ?_
  refine thenQ_n ?_
  refine Cd.block ?_
  -- stop: loop
  refine Cd.loop (α := Nat) (fun k => [(0, .slice A xs.length c), (1, .slice A' ys.length c'), (5, .int .i64 (k : Int))]) (fun k w' => St w w' [] ∧ k ≤ xs.length ∧ xs.take k = ys.take k) (fun k => xs.length - k) 0 ⟨rfl, rfl, rfl, trivial⟩ ⟨St.refl w, Nat.zero_le _, rfl⟩ ?_
  rintro k e w2 ⟨hS2, hk, hI⟩
  have hle : xs.length = ys.length := by omega
  refine Cd.seq ?_
  refine Cd.seq ?_
  refine Cd.region ?_
  refine Ops.mv_int rfl rfl rfl ?_
  refine Ops.mv_sl rfl rfl rfl ?_
  refine Ops.len rfl rfl ?_
  refine Ops.lss rfl rfl rfl ?_
  refine Ops.nil ?_
  refine thenQ_n ?_
  -- stop: cond
  refine Cd.cond_p _ rfl (fun h1 => ?_) (fun h1 => ?_)
  · have hA := hS2.oldI hR
    have hB := hS2.oldI hR'
    have h2 : (k : Int) < ys.length := by omega
    have hx := gi_mem (p := xs) (k := k) (by omega)
    have hy := gi_mem (p := ys) (k := k) (by omega)
    refine Cd.skip ?_
    refine thenQ_n ?_
    refine Cd.seq ?_
    refine Cd.block ?_
    refine Cd.seq ?_
    -- stop: draw
    refine Cd.draw [.ex (.slice (A) (xs.length) (c)), .ex (.int .i64 ((k : Int))), .ex (.pointer (ptrAt (A) ((k : Int)).toNat)), .ex (.int .i64 (gi (xs) ((k : Int)))), .ex (.slice (A') (ys.length) (c')), .ex (.int .i64 ((k : Int))), .ex (.pointer (ptrAt (A') ((k : Int)).toNat)), .ex (.int .i64 (gi (ys) ((k : Int)))), .ex (.bool (decide (¬ (gi (xs) ((k : Int))) = (gi (ys) ((k : Int))))))] (by kernel_rfl) (by kernel_rfl) rfl (List.forall_mem_cons.2 ⟨Yd.lasts_ex _, (List.forall_mem_cons.2 ⟨Yd.lasts_ex _, (List.forall_mem_cons.2 ⟨Yd.lasts_ex _, (List.forall_mem_cons.2 ⟨Yd.lasts_ex _, (List.forall_mem_cons.2 ⟨Yd.lasts_ex _, (List.forall_mem_cons.2 ⟨Yd.lasts_ex _, (List.forall_mem_cons.2 ⟨Yd.lasts_ex _, (List.forall_mem_cons.2 ⟨Yd.lasts_ex _, (List.forall_mem_cons.2 ⟨Yd.lasts_ex _, (fun _ h => by cases h)⟩)⟩)⟩)⟩)⟩)⟩)⟩)⟩)⟩) ⟨?_, ?_, ?_, ?_, ?_, ?_, ?_, ?_, ?_, trivial⟩ ?_
    · intro e1 w1 hb hp hun
      refine Ops.mv_sl rfl rfl rfl ?_
      refine Ops.nil ?_
      exact After.dn (Below.refl _ _) (by exact rfl)
    · intro e1 w1 hb hp hun
      refine Ops.mv_int rfl rfl rfl ?_
      refine Ops.nil ?_
      exact After.dn (Below.refl _ _) (by exact rfl)
    · intro e1 w1 hb hp hun
      refine Ops.idx (hA.later hb).2 rfl rfl rfl (by omega) (by omega) ?_
      refine Ops.nil ?_
      exact After.dn (Below.refl _ _) (by exact rfl)
    · intro e1 w1 hb hp hun
      refine Ops.ld_int (hA.later hb) rfl (by omega) rfl rfl ?_
      refine Ops.nil ?_
      exact After.dn (Below.refl _ _) (by exact rfl)
    · intro e1 w1 hb hp hun
      refine Ops.mv_sl rfl rfl rfl ?_
      refine Ops.nil ?_
      exact After.dn (Below.refl _ _) (by exact rfl)
    · intro e1 w1 hb hp hun
      refine Ops.mv_int rfl rfl rfl ?_
      refine Ops.nil ?_
      exact After.dn (Below.refl _ _) (by exact rfl)
    · intro e1 w1 hb hp hun
      refine Ops.idx (hB.later hb).2 rfl rfl rfl (by omega) (by omega) ?_
      refine Ops.nil ?_
      exact After.dn (Below.refl _ _) (by exact rfl)
    · intro e1 w1 hb hp hun
      refine Ops.ld_int (hB.later hb) rfl (by omega) rfl rfl ?_
      refine Ops.nil ?_
      exact After.dn (Below.refl _ _) (by exact rfl)
    · intro e1 w1 hb hp hun
      refine Ops.neq rfl rfl rfl ?_
      refine Ops.nil ?_
      exact After.dn (Below.refl _ _) (by exact rfl)
    intro u w3 hb3 _
    have hS3 := hS2.later hb3
    refine thenQ_n ?_
    -- stop: cond
    refine Cd.cond_p _ rfl (fun h3 => ?_) (fun h3 => ?_)
    · refine Cd.seq ?_
      refine Cd.region ?_
      refine Ops.mv_bool rfl rfl rfl ?_
      refine Ops.nil ?_
      refine thenQ_n ?_
      refine Cd.ret ?_
      refine blockQ_r ?_
      refine thenQ_r ?_
      refine thenQ_r ?_
      refine blockQ_r ?_
      refine thenQ_r ?_
      refine ret1_b rfl ?_
      -- stop: end
      refine ⟨by rw [decide_eq_false (fun e : xs = ys => h3 (by rw [e]))], hS3⟩
    · refine Cd.skip ?_
      refine blockQ_n ?_
      refine thenQ_n ?_
      refine Cd.region ?_
      refine Ops.mv_int rfl rfl rfl ?_
      refine Ops.add rfl rfl rfl (by omega) ?_
      refine Ops.mv_int rfl rfl rfl ?_
      refine Ops.nil ?_
      refine thenQ_n ?_
      -- stop: round
      refine ⟨k + 1, by omega, ⟨rfl, rfl, rfl, trivial⟩, hS3, by omega, ?_⟩
      rw [take_succ_gi (by omega), take_succ_gi (by omega), hI, Classical.not_not.1 h3]
  · refine Cd.exit ?_
    refine thenQ_x ?_
    refine thenQ_x ?_
    refine blockQ_x ?_
    refine thenQ_n ?_
    refine Cd.seq ?_
    refine Cd.region ?_
    refine Ops.mv_bool rfl rfl rfl ?_
    refine Ops.nil ?_
    refine thenQ_n ?_
    refine Cd.ret ?_
    refine ret1_b rfl ?_
    -- stop: end
    refine ⟨?_, hS2⟩
    rw [List.take_of_length_le (by omega), List.take_of_length_le (by omega)] at hI
    rw [decide_eq_true hI]

theorem l01Same2_c (A : Option Addr) (n c : Nat) (rs : List SlV) (xs : List (List Int)) (A' : Option Addr) (n' c' : Nat) (rs' : List SlV) (ys : List (List Int)) (w : World) (hR : RowsI w A n rs xs) (hR' : RowsI w A' n' rs' ys) (hn : n ≤ 9223372036854775807) :
    Ret Try.prog 162 [.slice A n c, .slice A' n' c'] w (fun v w' => v = .bool (decide (xs = ys)) ∧ St w w' []) := by
  have hl := hR.len
  have hl' := hR'.len
  subst hl
  subst hl'
  refine Ret.of_cd Try.func162 rfl Try.ntmps162 rfl (post1 rfl) ?_
  refine Cd.seq ?_
  refine Cd.region ?_
  refine Ops.mv_bool rfl rfl rfl ?_
  refine Ops.nil ?_
  refine thenQ_n ?_
  refine Cd.seq ?_
  refine Cd.seq ?_
  refine Cd.region ?_
  refine Ops.mv_sl rfl rfl rfl ?_
  refine Ops.len rfl rfl ?_
  refine Ops.mv_sl rfl rfl rfl ?_
  refine Ops.len rfl rfl ?_
  refine Ops.neq rfl rfl rfl ?_
  refine Ops.nil ?_
  refine thenQ_n ?_
  -- stop: cond
  refine Cd.cond_p _ rfl (fun h => ?_) (fun h => ?_)
  · refine Cd.seq ?_
    refine Cd.region ?_
    refine Ops.mv_bool rfl rfl rfl ?_
    refine Ops.nil ?_
    refine thenQ_n ?_
    refine Cd.ret ?_
    refine thenQ_r ?_
    refine ret1_b rfl ?_
    -- stop: end
    exact ⟨by rw [decide_eq_false (fun e : xs = ys => h (by rw [e]))], St.refl _⟩
  refine Cd.skip ?_
  refine thenQ_n ?_
  refine Cd.seq ?_
  refine Cd.seq ?_
  refine Cd.region ?_
  refine Ops.mv_int rfl rfl rfl ?_
  refine Ops.nil ?_
  refine thenQ_n ?_
  refine Cd.block ?_
  -- stop: loop
  refine Cd.loop (α := Nat) (fun k => [(0, .slice A xs.length c), (1, .slice A' ys.length c'), (5, .int .i64 (k : Int))]) (fun k w' => St w w' [] ∧ k ≤ xs.length ∧ xs.take k = ys.take k) (fun k => xs.length - k) 0 ⟨rfl, rfl, rfl, trivial⟩ ⟨St.refl w, Nat.zero_le _, rfl⟩ ?_
  rintro k e w2 ⟨hS2, hk, hI⟩
  have hle : xs.length = ys.length := by omega
  refine Cd.seq ?_
  refine Cd.seq ?_
  refine Cd.region ?_
  refine Ops.mv_int rfl rfl rfl ?_
  refine Ops.mv_sl rfl rfl rfl ?_
  refine Ops.len rfl rfl ?_
  refine Ops.lss rfl rfl rfl ?_
  refine Ops.nil ?_
  refine thenQ_n ?_
  -- stop: cond
  refine Cd.cond_p _ rfl (fun h1 => ?_) (fun h1 => ?_)
  · have hA := hS2.oldRows hR
    have hB := hS2.oldRows hR'
    have hAt := hA.top
    have hBt := hB.top
    have h2 : (k : Int) < ys.length := by omega
    have hx := gl_mem (p := xs) (k := k) (by omega)
    have hy := gl_mem (p := ys) (k := k) (by omega)
    have ha := hA.at_ (i := k) (by omega) h1
    have hb' := hB.at_ (i := k) (by omega) h2
    have hc := hA.cap_ (i := k) (by omega) h1
    refine Cd.skip ?_
    refine thenQ_n ?_
    refine Cd.seq ?_
    refine Cd.block ?_
    refine Cd.seq ?_
    -- stop: draw
    refine Cd.draw [.ex (.slice (A) (xs.length) (c)), .ex (.int .i64 ((k : Int))), .ex (.pointer (ptrAt (A) ((k : Int)).toNat)), .ex (.slice ((rg (rs) ((k : Int))).a) ((rg (rs) ((k : Int))).n) ((rg (rs) ((k : Int))).c)), .ex (.slice (A') (ys.length) (c')), .ex (.int .i64 ((k : Int))), .ex (.pointer (ptrAt (A') ((k : Int)).toNat)), .ex (.slice ((rg (rs') ((k : Int))).a) ((rg (rs') ((k : Int))).n) ((rg (rs') ((k : Int))).c)), .ex (.bool (decide (gl xs k = gl ys k))), .ex (.bool (decide (¬ (gl xs k = gl ys k))))] (by kernel_rfl) (by kernel_rfl) rfl (List.forall_mem_cons.2 ⟨Yd.lasts_ex _, (List.forall_mem_cons.2 ⟨Yd.lasts_ex _, (List.forall_mem_cons.2 ⟨Yd.lasts_ex _, (List.forall_mem_cons.2 ⟨Yd.lasts_ex _, (List.forall_mem_cons.2 ⟨Yd.lasts_ex _, (List.forall_mem_cons.2 ⟨Yd.lasts_ex _, (List.forall_mem_cons.2 ⟨Yd.lasts_ex _, (List.forall_mem_cons.2 ⟨Yd.lasts_ex _, (List.forall_mem_cons.2 ⟨Yd.lasts_ex _, (List.forall_mem_cons.2 ⟨Yd.lasts_ex _, (fun _ h => by cases h)⟩)⟩)⟩)⟩)⟩)⟩)⟩)⟩)⟩)⟩) ⟨?_, ?_, ?_, ?_, ?_, ?_, ?_, ?_, ?_, ?_, trivial⟩ ?_
    · intro e1 w1 hb hp hun
      refine Ops.mv_sl rfl rfl rfl ?_
      refine Ops.nil ?_
      exact After.dn (Below.refl _ _) (by exact rfl)
    · intro e1 w1 hb hp hun
      refine Ops.mv_int rfl rfl rfl ?_
      refine Ops.nil ?_
      exact After.dn (Below.refl _ _) (by exact rfl)
    · intro e1 w1 hb hp hun
      refine Ops.idx (hAt.later hb).2 rfl rfl rfl (by omega) (by omega) ?_
      refine Ops.nil ?_
      exact After.dn (Below.refl _ _) (by exact rfl)
    · intro e1 w1 hb hp hun
      refine Ops.ld_sl (hAt.later hb) rfl (by omega) rfl rfl ?_
      refine Ops.nil ?_
      exact After.dn (Below.refl _ _) (by exact rfl)
    · intro e1 w1 hb hp hun
      refine Ops.mv_sl rfl rfl rfl ?_
      refine Ops.nil ?_
      exact After.dn (Below.refl _ _) (by exact rfl)
    · intro e1 w1 hb hp hun
      refine Ops.mv_int rfl rfl rfl ?_
      refine Ops.nil ?_
      exact After.dn (Below.refl _ _) (by exact rfl)
    · intro e1 w1 hb hp hun
      refine Ops.idx (hBt.later hb).2 rfl rfl rfl (by omega) (by omega) ?_
      refine Ops.nil ?_
      exact After.dn (Below.refl _ _) (by exact rfl)
    · intro e1 w1 hb hp hun
      refine Ops.ld_sl (hBt.later hb) rfl (by omega) rfl rfl ?_
      refine Ops.nil ?_
      exact After.dn (Below.refl _ _) (by exact rfl)
    · intro e1 w1 hb hp hun
      refine Ops.call (l01Same_c _ _ _ _ _ _ _ _ _ (ha.later hb) (hb'.later hb) (by omega)) rfl rfl rfl ?_
      rintro _ w2 ⟨rfl, hst⟩
      refine Ops.nil ?_
      exact After.dn hst.below (by exact rfl)
    · intro e1 w1 hb hp hun
      refine Ops.not_p rfl rfl ?_
      refine Ops.nil ?_
      exact After.dn (Below.refl _ _) (by exact rfl)
    intro u w3 hb3 _
    have hS3 := hS2.later hb3
    refine thenQ_n ?_
    -- stop: cond
    refine Cd.cond_p _ rfl (fun h3 => ?_) (fun h3 => ?_)
    · refine Cd.seq ?_
      refine Cd.region ?_
      refine Ops.mv_bool rfl rfl rfl ?_
      refine Ops.nil ?_
      refine thenQ_n ?_
      refine Cd.ret ?_
      refine blockQ_r ?_
      refine thenQ_r ?_
      refine thenQ_r ?_
      refine blockQ_r ?_
      refine thenQ_r ?_
      refine ret1_b rfl ?_
      -- stop: end
      refine ⟨by rw [decide_eq_false (fun e : xs = ys => h3 (by rw [e]))], hS3⟩
    · refine Cd.skip ?_
      refine blockQ_n ?_
      refine thenQ_n ?_
      refine Cd.region ?_
      refine Ops.mv_int rfl rfl rfl ?_
      refine Ops.add rfl rfl rfl (by omega) ?_
      refine Ops.mv_int rfl rfl rfl ?_
      refine Ops.nil ?_
      refine thenQ_n ?_
      -- stop: round
      refine ⟨k + 1, by omega, ⟨rfl, rfl, rfl, trivial⟩, hS3, by omega, ?_⟩
      rw [take_succ_gl (by omega), take_succ_gl (by omega), hI, Classical.not_not.1 h3]
  · refine Cd.exit ?_
    refine thenQ_x ?_
    refine thenQ_x ?_
    refine blockQ_x ?_
    refine thenQ_n ?_
    refine Cd.seq ?_
    refine Cd.region ?_
    refine Ops.mv_bool rfl rfl rfl ?_
    refine Ops.nil ?_
    refine thenQ_n ?_
    refine Cd.ret ?_
    refine ret1_b rfl ?_
    -- stop: end
    refine ⟨?_, hS2⟩
    rw [List.take_of_length_le (by omega), List.take_of_length_le (by omega)] at hI
    rw [decide_eq_true hI]

theorem l02Same_c (A : Option Addr) (n c : Nat) (rs : List SlV) (xss : List (List Int)) (A' : Option Addr) (n' c' : Nat) (rs' : List SlV) (yss : List (List Int)) (w : World) (hX : RowsI w A n rs xss) (hY : RowsI w A' n' rs' yss) (hn : n ≤ 9223372036854775807) :
    Ret Try.prog 121 [.agg #[.slice A n c], .agg #[.slice A' n' c']] w (fun v w' => v = .bool (decide (xss = yss)) ∧ St w w' []) := by
  refine Ret.of_cd Try.func121 rfl Try.ntmps121 rfl (post1 rfl) ?_
  refine Cd.seq ?_
  refine Cd.region ?_
  -- stop: BOX 24 t0=m -> 2
  refine Ops.box1 (St.refl w) rfl rfl ?_
  intro Ab w1 hS1
  refine Ops.box1 hS1 rfl rfl ?_
  intro Ac w2 hS2
  refine Ops.mv_bool rfl rfl rfl ?_
  refine Ops.nil ?_
  refine thenQ_n ?_
  refine Cd.seq ?_
  refine Cd.region ?_
  -- stop: FIELDADDR 24 t2=m 0 -> 5
  refine Ops.fld (hS2.rd 1 rfl) rfl rfl rfl rfl inferInstance ?_
  refine Ops.ldf_s (hS2.rd 1 rfl) rfl rfl rfl rfl rfl ?_
  refine Ops.fld (hS2.rd 0 rfl) rfl rfl rfl rfl inferInstance ?_
  refine Ops.ldf_s (hS2.rd 0 rfl) rfl rfl rfl rfl rfl ?_
  refine Ops.call (l01Same2_c A n c rs xss A' n' c' rs' yss _ (hS2.oldRows hX) (hS2.oldRows hY) hn) rfl rfl rfl ?_
  rintro _ w3 ⟨rfl, hst⟩
  refine Ops.mv_bool rfl rfl rfl ?_
  refine Ops.nil ?_
  refine thenQ_n ?_
  refine Cd.ret ?_
  refine ret1_b rfl ?_
  -- stop: end
  exact ⟨rfl, (hS2.later hst.below).none⟩

theorem l01Less_c (A : Option Addr) (n c : Nat) (xs : List Int) (A' : Option Addr) (n' c' : Nat) (ys : List Int) (w : World) (hX : RdI w A n xs) (hY : RdI w A' n' ys) (hn : n ≤ 9223372036854775807) :
    Ret Try.prog 79 [.slice A n c, .slice A' n' c'] w (fun v w' => v = .bool (decide (lexC xs ys < 0)) ∧ St w w' []) := by
  have hxl := hX.1
  have hyl := hY.1
  refine Ret.of_cd Try.func79 rfl Try.ntmps79 rfl (post1 rfl) ?_
  refine Cd.seq ?_
  refine Cd.region ?_
  refine Ops.mv_bool rfl rfl rfl ?_
  refine Ops.nil ?_
  refine thenQ_n ?_
  refine Cd.seq ?_
  refine Cd.seq ?_
  refine Cd.region ?_
  refine Ops.mv_int rfl rfl rfl ?_
  refine Ops.nil ?_
  refine thenQ_n ?_
  refine Cd.block ?_
  -- stop: loop
  refine Cd.loop (α := Nat) (fun k => [(0, .slice A n c), (1, .slice A' n' c'), (5, .int .i64 (k : Int))]) (fun k w' => St w w' [] ∧ k ≤ n ∧ k ≤ n' ∧ lexC xs ys = lexC (xs.drop k) (ys.drop k)) (fun k => n - k) 0 ⟨rfl, rfl, rfl, trivial⟩ ⟨St.refl w, Nat.zero_le _, Nat.zero_le _, rfl⟩ ?_
  rintro k e w2 ⟨hS2, hk, hk', hK⟩
  have hX2 := hS2.oldI hX
  have hY2 := hS2.oldI hY
  refine Cd.seq ?_
  refine Cd.seq ?_
  refine Cd.region ?_
  refine Ops.mv_int rfl rfl rfl ?_
  refine Ops.mv_sl rfl rfl rfl ?_
  refine Ops.len rfl rfl ?_
  refine Ops.lss rfl rfl rfl ?_
  refine Ops.mv_bool rfl rfl rfl ?_
  -- stop: guard 10
  refine Ops.split_p 10 rfl (fun h1 => ?_) (fun h1 => ?_)
  · refine Ops.rung rfl rfl rfl ?_
    refine Ops.mv_int rfl rfl rfl ?_
    refine Ops.rung rfl rfl rfl ?_
    refine Ops.mv_sl rfl rfl rfl ?_
    refine Ops.rung rfl rfl rfl ?_
    refine Ops.len rfl rfl ?_
    refine Ops.rung rfl rfl rfl ?_
    refine Ops.lss rfl rfl rfl ?_
    refine Ops.pick_t rfl rfl rfl ?_
    refine Ops.nil ?_
    refine thenQ_n ?_
    -- stop: cond
    refine Cd.cond_p _ rfl (fun h2 => ?_) (fun h2 => ?_)
    · rw [lexC_step (by omega) (by omega)] at hK
      refine Cd.skip ?_
      refine thenQ_n ?_
      refine Cd.seq ?_
      refine Cd.block ?_
      refine Cd.seq ?_
      -- stop: draw
      refine Cd.draw [.ex (.slice (A) (n) (c)), .ex (.int .i64 ((k : Int))), .ex (.pointer (ptrAt (A) ((k : Int)).toNat)), .ex (.int .i64 (gi (xs) ((k : Int)))), .ex (.slice (A') (n') (c')), .ex (.int .i64 ((k : Int))), .ex (.pointer (ptrAt (A') ((k : Int)).toNat)), .ex (.int .i64 (gi (ys) ((k : Int)))), .ex (.bool (decide (¬ (gi (xs) ((k : Int))) = (gi (ys) ((k : Int))))))] (by kernel_rfl) (by kernel_rfl) rfl (List.forall_mem_cons.2 ⟨Yd.lasts_ex _, (List.forall_mem_cons.2 ⟨Yd.lasts_ex _, (List.forall_mem_cons.2 ⟨Yd.lasts_ex _, (List.forall_mem_cons.2 ⟨Yd.lasts_ex _, (List.forall_mem_cons.2 ⟨Yd.lasts_ex _, (List.forall_mem_cons.2 ⟨Yd.lasts_ex _, (List.forall_mem_cons.2 ⟨Yd.lasts_ex _, (List.forall_mem_cons.2 ⟨Yd.lasts_ex _, (List.forall_mem_cons.2 ⟨Yd.lasts_ex _, (fun _ h => by cases h)⟩)⟩)⟩)⟩)⟩)⟩)⟩)⟩)⟩) ⟨?_, ?_, ?_, ?_, ?_, ?_, ?_, ?_, ?_, trivial⟩ ?_
      · intro e1 w1 hb hp hun
        refine Ops.mv_sl rfl rfl rfl ?_
        refine Ops.nil ?_
        exact After.dn (Below.refl _ _) (by exact rfl)
      · intro e1 w1 hb hp hun
        refine Ops.mv_int rfl rfl rfl ?_
        refine Ops.nil ?_
        exact After.dn (Below.refl _ _) (by exact rfl)
      · intro e1 w1 hb hp hun
        refine Ops.idx (hX2.later hb).2 rfl rfl rfl (by omega) (by omega) ?_
        refine Ops.nil ?_
        exact After.dn (Below.refl _ _) (by exact rfl)
      · intro e1 w1 hb hp hun
        refine Ops.ld_int (hX2.later hb) rfl (by omega) rfl rfl ?_
        refine Ops.nil ?_
        exact After.dn (Below.refl _ _) (by exact rfl)
      · intro e1 w1 hb hp hun
        refine Ops.mv_sl rfl rfl rfl ?_
        refine Ops.nil ?_
        exact After.dn (Below.refl _ _) (by exact rfl)
      · intro e1 w1 hb hp hun
        refine Ops.mv_int rfl rfl rfl ?_
        refine Ops.nil ?_
        exact After.dn (Below.refl _ _) (by exact rfl)
      · intro e1 w1 hb hp hun
        refine Ops.idx (hY2.later hb).2 rfl rfl rfl (by omega) (by omega) ?_
        refine Ops.nil ?_
        exact After.dn (Below.refl _ _) (by exact rfl)
      · intro e1 w1 hb hp hun
        refine Ops.ld_int (hY2.later hb) rfl (by omega) rfl rfl ?_
        refine Ops.nil ?_
        exact After.dn (Below.refl _ _) (by exact rfl)
      · intro e1 w1 hb hp hun
        refine Ops.neq rfl rfl rfl ?_
        refine Ops.nil ?_
        exact After.dn (Below.refl _ _) (by exact rfl)
      intro u w3 hb3 _
      have hS3 := hS2.later hb3
      have hX3 := hS3.oldI hX
      have hY3 := hS3.oldI hY
      refine thenQ_n ?_
      -- stop: cond
      refine Cd.cond_p _ rfl (fun h3 => ?_) (fun h3 => ?_)
      · rw [if_neg (fun h => h3 (cmpI_zero.1 h))] at hK
        refine Cd.seq ?_
        -- stop: draw
        refine Cd.draw [.ex (.slice (A) (n) (c)), .ex (.int .i64 ((k : Int))), .ex (.pointer (ptrAt (A) ((k : Int)).toNat)), .ex (.int .i64 (gi (xs) ((k : Int)))), .ex (.slice (A') (n') (c')), .ex (.int .i64 ((k : Int))), .ex (.pointer (ptrAt (A') ((k : Int)).toNat)), .ex (.int .i64 (gi (ys) ((k : Int)))), .ex (.bool (decide ((gi (xs) ((k : Int))) < (gi (ys) ((k : Int)))))), .ex (.bool (decide ((gi (xs) ((k : Int))) < (gi (ys) ((k : Int))))))] (by kernel_rfl) (by kernel_rfl) rfl (List.forall_mem_cons.2 ⟨Yd.lasts_ex _, (List.forall_mem_cons.2 ⟨Yd.lasts_ex _, (List.forall_mem_cons.2 ⟨Yd.lasts_ex _, (List.forall_mem_cons.2 ⟨Yd.lasts_ex _, (List.forall_mem_cons.2 ⟨Yd.lasts_ex _, (List.forall_mem_cons.2 ⟨Yd.lasts_ex _, (List.forall_mem_cons.2 ⟨Yd.lasts_ex _, (List.forall_mem_cons.2 ⟨Yd.lasts_ex _, (List.forall_mem_cons.2 ⟨Yd.lasts_ex _, (List.forall_mem_cons.2 ⟨Yd.lasts_ex _, (fun _ h => by cases h)⟩)⟩)⟩)⟩)⟩)⟩)⟩)⟩)⟩)⟩) ⟨?_, ?_, ?_, ?_, ?_, ?_, ?_, ?_, ?_, ?_, trivial⟩ ?_
        · intro e1 w1 hb hp hun
          refine Ops.mv_sl rfl rfl rfl ?_
          refine Ops.nil ?_
          exact After.dn (Below.refl _ _) (by exact rfl)
        · intro e1 w1 hb hp hun
          refine Ops.mv_int rfl rfl rfl ?_
          refine Ops.nil ?_
          exact After.dn (Below.refl _ _) (by exact rfl)
        · intro e1 w1 hb hp hun
          refine Ops.idx (hX3.later hb).2 rfl rfl rfl (by omega) (by omega) ?_
          refine Ops.nil ?_
          exact After.dn (Below.refl _ _) (by exact rfl)
        · intro e1 w1 hb hp hun
          refine Ops.ld_int (hX3.later hb) rfl (by omega) rfl rfl ?_
          refine Ops.nil ?_
          exact After.dn (Below.refl _ _) (by exact rfl)
        · intro e1 w1 hb hp hun
          refine Ops.mv_sl rfl rfl rfl ?_
          refine Ops.nil ?_
          exact After.dn (Below.refl _ _) (by exact rfl)
        · intro e1 w1 hb hp hun
          refine Ops.mv_int rfl rfl rfl ?_
          refine Ops.nil ?_
          exact After.dn (Below.refl _ _) (by exact rfl)
        · intro e1 w1 hb hp hun
          refine Ops.idx (hY3.later hb).2 rfl rfl rfl (by omega) (by omega) ?_
          refine Ops.nil ?_
          exact After.dn (Below.refl _ _) (by exact rfl)
        · intro e1 w1 hb hp hun
          refine Ops.ld_int (hY3.later hb) rfl (by omega) rfl rfl ?_
          refine Ops.nil ?_
          exact After.dn (Below.refl _ _) (by exact rfl)
        · intro e1 w1 hb hp hun
          refine Ops.lss rfl rfl rfl ?_
          refine Ops.nil ?_
          exact After.dn (Below.refl _ _) (by exact rfl)
        · intro e1 w1 hb hp hun
          refine Ops.mv_bool rfl rfl rfl ?_
          refine Ops.nil ?_
          exact After.dn (Below.refl _ _) (by exact rfl)
        intro u2 w4 hb4 _
        have hS4 := hS3.later hb4
        refine thenQ_n ?_
        refine Cd.ret ?_
        refine blockQ_r ?_
        refine thenQ_r ?_
        refine thenQ_r ?_
        refine blockQ_r ?_
        refine thenQ_r ?_
        refine ret1_b rfl ?_
        -- stop: end
        exact ⟨congrArg Value.bool (decide_eq_decide.2 (by rw [hK, cmpI_neg])), hS4⟩
      · rw [if_pos (cmpI_zero.2 (Classical.not_not.1 h3))] at hK
        refine Cd.skip ?_
        refine blockQ_n ?_
        refine thenQ_n ?_
        refine Cd.region ?_
        refine Ops.mv_int rfl rfl rfl ?_
        refine Ops.add rfl rfl rfl (by omega) ?_
        refine Ops.mv_int rfl rfl rfl ?_
        refine Ops.nil ?_
        refine thenQ_n ?_
        -- stop: round
        exact ⟨k + 1, by show n - (k + 1) < n - k; omega, ⟨rfl, rfl, rfl, trivial⟩, hS3, by omega, by omega, hK⟩
    · rw [lexC_endR (by omega) (by omega)] at hK
      refine Cd.exit ?_
      refine thenQ_x ?_
      refine thenQ_x ?_
      refine blockQ_x ?_
      refine thenQ_n ?_
      refine Cd.seq ?_
      refine Cd.region ?_
      refine Ops.mv_sl rfl rfl rfl ?_
      refine Ops.len rfl rfl ?_
      refine Ops.mv_sl rfl rfl rfl ?_
      refine Ops.len rfl rfl ?_
      refine Ops.lss rfl rfl rfl ?_
      refine Ops.mv_bool rfl rfl rfl ?_
      refine Ops.nil ?_
      refine thenQ_n ?_
      refine Cd.ret ?_
      refine ret1_b rfl ?_
      -- stop: end
      exact ⟨congrArg Value.bool (decide_eq_decide.2 (by rw [hK]; omega)), hS2⟩
  · rw [lexC_endL (by omega)] at hK
    refine Ops.skipg rfl rfl rfl rfl rfl ?_
    refine Ops.skipg rfl rfl rfl rfl rfl ?_
    refine Ops.skipg rfl rfl rfl rfl rfl ?_
    refine Ops.skipg rfl rfl rfl rfl rfl ?_
    refine Ops.pick_f rfl rfl rfl ?_
    refine Ops.nil ?_
    refine thenQ_n ?_
    -- stop: cond
    refine Cd.cond_f rfl ?_
    refine Cd.exit ?_
    refine thenQ_x ?_
    refine thenQ_x ?_
    refine blockQ_x ?_
    refine thenQ_n ?_
    refine Cd.seq ?_
    refine Cd.region ?_
    refine Ops.mv_sl rfl rfl rfl ?_
    refine Ops.len rfl rfl ?_
    refine Ops.mv_sl rfl rfl rfl ?_
    refine Ops.len rfl rfl ?_
    refine Ops.lss rfl rfl rfl ?_
    refine Ops.mv_bool rfl rfl rfl ?_
    refine Ops.nil ?_
    refine thenQ_n ?_
    refine Cd.ret ?_
    refine ret1_b rfl ?_
    -- stop: end
    exact ⟨congrArg Value.bool (decide_eq_decide.2 (by rw [hK]; split <;> omega)), hS2⟩

theorem l19Less_c (A : Option Addr) (n c : Nat) (rs : List SlV) (xss : List (List Int)) (A' : Option Addr) (c' : Nat) (rs' : List SlV) (yss : List (List Int)) (w : World) (hX : RowsI w A n rs xss) (hY : RowsI w A' n rs' yss) (hn : n ≤ 9223372036854775807) :
    Ret Try.prog 109 [.agg #[.slice A n c], .agg #[.slice A' n c']] w (fun v w' => v = .bool (decide (lexCC xss yss < 0)) ∧ St w w' []) := by
  have hxl := hX.len
  have hyl := hY.len
  refine Ret.of_cd Try.func109 rfl Try.ntmps109 rfl (post1 rfl) ?_
  refine Cd.seq ?_
  refine Cd.region ?_
  -- stop: BOX 24 t0=m -> 2
  refine Ops.box1 (St.refl w) rfl rfl ?_
  intro Ab w1 hS1
  refine Ops.box1 hS1 rfl rfl ?_
  intro Ac w2 hS2
  refine Ops.mv_bool rfl rfl rfl ?_
  refine Ops.nil ?_
  refine thenQ_n ?_
  refine Cd.seq ?_
  refine Cd.seq ?_
  refine Cd.region ?_
  refine Ops.mv_int rfl rfl rfl ?_
  refine Ops.nil ?_
  refine thenQ_n ?_
  refine Cd.block ?_
  -- stop: loop
  refine Cd.loop (α := Nat) (fun k => [(2, .pointer Ab), (3, .pointer Ac), (5, .int .i64 (k : Int))]) (fun k w' => St w w' [Bx 24 1 Ac [.slice A' n c'], Bx 24 1 Ab [.slice A n c]] ∧ k ≤ n ∧ lexCC xss yss = lexCC (xss.drop k) (yss.drop k)) (fun k => n - k) 0 ⟨rfl, rfl, rfl, trivial⟩ ⟨hS2, Nat.zero_le _, rfl⟩ ?_
  rintro k e w3 ⟨hS3, hk, hK⟩
  refine Cd.seq ?_
  refine Cd.seq ?_
  refine Cd.region ?_
  refine Ops.mv_int rfl rfl rfl ?_
  -- stop: FIELDADDR 24 t2=m 0 -> 7
  refine Ops.fld (hS3.rd 1 rfl) rfl rfl rfl rfl inferInstance ?_
  refine Ops.ldf_s (hS3.rd 1 rfl) rfl rfl rfl rfl rfl ?_
  refine Ops.len rfl rfl ?_
  refine Ops.lss rfl rfl rfl ?_
  refine Ops.nil ?_
  refine thenQ_n ?_
  -- stop: cond
  refine Cd.cond_p _ rfl (fun h1 => ?_) (fun h1 => ?_)
  · rw [lexCC_step (by omega) (by omega)] at hK
    have hX3 := hS3.oldRows hX
    have hY3 := hS3.oldRows hY
    have hAt := hX3.top
    have hBt := hY3.top
    have ha := hX3.at_ (i := (k : Int)) (by omega) h1
    have hb' := hY3.at_ (i := (k : Int)) (by omega) (by omega)
    have hc := hX3.cap_ (i := (k : Int)) (by omega) h1
    have hBb := hS3.rd 1 rfl
    have hBc := hS3.rd 0 rfl
    refine Cd.skip ?_
    refine thenQ_n ?_
    refine Cd.seq ?_
    refine Cd.block ?_
    refine Cd.seq ?_
    -- stop: draw
    refine Cd.draw [.ex (.pointer (ptrAt (Ab) 0)), .ex (.slice (A) (n) (c)), .ex (.int .i64 ((k : Int))), .ex (.pointer (ptrAt (A) ((k : Int)).toNat)), .ex (.slice ((rg (rs) ((k : Int))).a) ((rg (rs) ((k : Int))).n) ((rg (rs) ((k : Int))).c)), .ex (.pointer (ptrAt (Ac) 0)), .ex (.slice (A') (n) (c')), .ex (.int .i64 ((k : Int))), .ex (.pointer (ptrAt (A') ((k : Int)).toNat)), .ex (.slice ((rg (rs') ((k : Int))).a) ((rg (rs') ((k : Int))).n) ((rg (rs') ((k : Int))).c)), .ex (.bool (decide (gl xss k = gl yss k))), .ex (.bool (decide (¬ (gl xss k = gl yss k))))] (by kernel_rfl) (by kernel_rfl) rfl (List.forall_mem_cons.2 ⟨Yd.lasts_ex _, (List.forall_mem_cons.2 ⟨Yd.lasts_ex _, (List.forall_mem_cons.2 ⟨Yd.lasts_ex _, (List.forall_mem_cons.2 ⟨Yd.lasts_ex _, (List.forall_mem_cons.2 ⟨Yd.lasts_ex _, (List.forall_mem_cons.2 ⟨Yd.lasts_ex _, (List.forall_mem_cons.2 ⟨Yd.lasts_ex _, (List.forall_mem_cons.2 ⟨Yd.lasts_ex _, (List.forall_mem_cons.2 ⟨Yd.lasts_ex _, (List.forall_mem_cons.2 ⟨Yd.lasts_ex _, (List.forall_mem_cons.2 ⟨Yd.lasts_ex _, (List.forall_mem_cons.2 ⟨Yd.lasts_ex _, (fun _ h => by cases h)⟩)⟩)⟩)⟩)⟩)⟩)⟩)⟩)⟩)⟩)⟩)⟩) ⟨?_, ?_, ?_, ?_, ?_, ?_, ?_, ?_, ?_, ?_, ?_, ?_, trivial⟩ ?_
    · intro e1 w1 hb hp hun
      refine Ops.fld (hBb.below hb) rfl rfl rfl rfl inferInstance ?_
      refine Ops.nil ?_
      exact After.dn (Below.refl _ _) (by exact rfl)
    · intro e1 w1 hb hp hun
      refine Ops.ldf_s (hBb.below hb) rfl rfl rfl rfl rfl ?_
      refine Ops.nil ?_
      exact After.dn (Below.refl _ _) (by exact rfl)
    · intro e1 w1 hb hp hun
      refine Ops.mv_int rfl rfl rfl ?_
      refine Ops.nil ?_
      exact After.dn (Below.refl _ _) (by exact rfl)
    · intro e1 w1 hb hp hun
      refine Ops.idx (hAt.later hb).2 rfl rfl rfl (by omega) (by omega) ?_
      refine Ops.nil ?_
      exact After.dn (Below.refl _ _) (by exact rfl)
    · intro e1 w1 hb hp hun
      refine Ops.ld_sl (hAt.later hb) rfl (by omega) rfl rfl ?_
      refine Ops.nil ?_
      exact After.dn (Below.refl _ _) (by exact rfl)
    · intro e1 w1 hb hp hun
      refine Ops.fld (hBc.below hb) rfl rfl rfl rfl inferInstance ?_
      refine Ops.nil ?_
      exact After.dn (Below.refl _ _) (by exact rfl)
    · intro e1 w1 hb hp hun
      refine Ops.ldf_s (hBc.below hb) rfl rfl rfl rfl rfl ?_
      refine Ops.nil ?_
      exact After.dn (Below.refl _ _) (by exact rfl)
    · intro e1 w1 hb hp hun
      refine Ops.mv_int rfl rfl rfl ?_
      refine Ops.nil ?_
      exact After.dn (Below.refl _ _) (by exact rfl)
    · intro e1 w1 hb hp hun
      refine Ops.idx (hBt.later hb).2 rfl rfl rfl (by omega) (by omega) ?_
      refine Ops.nil ?_
      exact After.dn (Below.refl _ _) (by exact rfl)
    · intro e1 w1 hb hp hun
      refine Ops.ld_sl (hBt.later hb) rfl (by omega) rfl rfl ?_
      refine Ops.nil ?_
      exact After.dn (Below.refl _ _) (by exact rfl)
    · intro e1 w1 hb hp hun
      refine Ops.call (l01Same_c _ _ _ _ _ _ _ _ _ (ha.later hb) (hb'.later hb) (by omega)) rfl rfl rfl ?_
      rintro _ w2 ⟨rfl, hst⟩
      refine Ops.nil ?_
      exact After.dn hst.below (by exact rfl)
    · intro e1 w1 hb hp hun
      refine Ops.not_p rfl rfl ?_
      refine Ops.nil ?_
      exact After.dn (Below.refl _ _) (by exact rfl)
    intro u w4 hb4 _
    have hS4 := hS3.later hb4
    have hX4 := hS4.oldRows hX
    have hY4 := hS4.oldRows hY
    have hAt4 := hX4.top
    have hBt4 := hY4.top
    have ha4 := hX4.at_ (i := (k : Int)) (by omega) h1
    have hb4' := hY4.at_ (i := (k : Int)) (by omega) (by omega)
    have hBb4 := hS4.rd 1 rfl
    have hBc4 := hS4.rd 0 rfl
    refine thenQ_n ?_
    -- stop: cond
    refine Cd.cond_p _ rfl (fun h3 => ?_) (fun h3 => ?_)
    · rw [if_neg (fun h => h3 (lexC_zero.1 h))] at hK
      refine Cd.seq ?_
      -- stop: draw
      refine Cd.draw [.ex (.pointer (ptrAt (Ab) 0)), .ex (.slice (A) (n) (c)), .ex (.int .i64 ((k : Int))), .ex (.pointer (ptrAt (A) ((k : Int)).toNat)), .ex (.slice ((rg (rs) ((k : Int))).a) ((rg (rs) ((k : Int))).n) ((rg (rs) ((k : Int))).c)), .ex (.pointer (ptrAt (Ac) 0)), .ex (.slice (A') (n) (c')), .ex (.int .i64 ((k : Int))), .ex (.pointer (ptrAt (A') ((k : Int)).toNat)), .ex (.slice ((rg (rs') ((k : Int))).a) ((rg (rs') ((k : Int))).n) ((rg (rs') ((k : Int))).c)), .ex (.bool (decide (lexC (gl xss k) (gl yss k) < 0))), .ex (.bool (decide (lexC (gl xss k) (gl yss k) < 0)))] (by kernel_rfl) (by kernel_rfl) rfl (List.forall_mem_cons.2 ⟨Yd.lasts_ex _, (List.forall_mem_cons.2 ⟨Yd.lasts_ex _, (List.forall_mem_cons.2 ⟨Yd.lasts_ex _, (List.forall_mem_cons.2 ⟨Yd.lasts_ex _, (List.forall_mem_cons.2 ⟨Yd.lasts_ex _, (List.forall_mem_cons.2 ⟨Yd.lasts_ex _, (List.forall_mem_cons.2 ⟨Yd.lasts_ex _, (List.forall_mem_cons.2 ⟨Yd.lasts_ex _, (List.forall_mem_cons.2 ⟨Yd.lasts_ex _, (List.forall_mem_cons.2 ⟨Yd.lasts_ex _, (List.forall_mem_cons.2 ⟨Yd.lasts_ex _, (List.forall_mem_cons.2 ⟨Yd.lasts_ex _, (fun _ h => by cases h)⟩)⟩)⟩)⟩)⟩)⟩)⟩)⟩)⟩)⟩)⟩)⟩) ⟨?_, ?_, ?_, ?_, ?_, ?_, ?_, ?_, ?_, ?_, ?_, ?_, trivial⟩ ?_
      · intro e1 w1 hb hp hun
        refine Ops.fld (hBb4.below hb) rfl rfl rfl rfl inferInstance ?_
        refine Ops.nil ?_
        exact After.dn (Below.refl _ _) (by exact rfl)
      · intro e1 w1 hb hp hun
        refine Ops.ldf_s (hBb4.below hb) rfl rfl rfl rfl rfl ?_
        refine Ops.nil ?_
        exact After.dn (Below.refl _ _) (by exact rfl)
      · intro e1 w1 hb hp hun
        refine Ops.mv_int rfl rfl rfl ?_
        refine Ops.nil ?_
        exact After.dn (Below.refl _ _) (by exact rfl)
      · intro e1 w1 hb hp hun
        refine Ops.idx (hAt4.later hb).2 rfl rfl rfl (by omega) (by omega) ?_
        refine Ops.nil ?_
        exact After.dn (Below.refl _ _) (by exact rfl)
      · intro e1 w1 hb hp hun
        refine Ops.ld_sl (hAt4.later hb) rfl (by omega) rfl rfl ?_
        refine Ops.nil ?_
        exact After.dn (Below.refl _ _) (by exact rfl)
      · intro e1 w1 hb hp hun
        refine Ops.fld (hBc4.below hb) rfl rfl rfl rfl inferInstance ?_
        refine Ops.nil ?_
        exact After.dn (Below.refl _ _) (by exact rfl)
      · intro e1 w1 hb hp hun
        refine Ops.ldf_s (hBc4.below hb) rfl rfl rfl rfl rfl ?_
        refine Ops.nil ?_
        exact After.dn (Below.refl _ _) (by exact rfl)
      · intro e1 w1 hb hp hun
        refine Ops.mv_int rfl rfl rfl ?_
        refine Ops.nil ?_
        exact After.dn (Below.refl _ _) (by exact rfl)
      · intro e1 w1 hb hp hun
        refine Ops.idx (hBt4.later hb).2 rfl rfl rfl (by omega) (by omega) ?_
        refine Ops.nil ?_
        exact After.dn (Below.refl _ _) (by exact rfl)
      · intro e1 w1 hb hp hun
        refine Ops.ld_sl (hBt4.later hb) rfl (by omega) rfl rfl ?_
        refine Ops.nil ?_
        exact After.dn (Below.refl _ _) (by exact rfl)
      · intro e1 w1 hb hp hun
        refine Ops.call (l01Less_c _ _ _ _ _ _ _ _ _ (ha4.later hb) (hb4'.later hb) (by omega)) rfl rfl rfl ?_
        rintro _ w2 ⟨rfl, hst⟩
        refine Ops.nil ?_
        exact After.dn hst.below (by exact rfl)
      · intro e1 w1 hb hp hun
        refine Ops.mv_bool rfl rfl rfl ?_
        refine Ops.nil ?_
        exact After.dn (Below.refl _ _) (by exact rfl)
      intro u2 w5 hb5 _
      have hS5 := hS4.later hb5
      refine thenQ_n ?_
      refine Cd.ret ?_
      refine blockQ_r ?_
      refine thenQ_r ?_
      refine thenQ_r ?_
      refine blockQ_r ?_
      refine thenQ_r ?_
      refine ret1_b rfl ?_
      -- stop: end
      exact ⟨congrArg Value.bool (decide_eq_decide.2 (by rw [hK])), hS5.none⟩
    · rw [if_pos (lexC_zero.2 (Classical.not_not.1 h3))] at hK
      refine Cd.skip ?_
      refine blockQ_n ?_
      refine thenQ_n ?_
      refine Cd.region ?_
      refine Ops.mv_int rfl rfl rfl ?_
      refine Ops.add rfl rfl rfl (by omega) ?_
      refine Ops.mv_int rfl rfl rfl ?_
      refine Ops.nil ?_
      refine thenQ_n ?_
      -- stop: round
      exact ⟨k + 1, by show n - (k + 1) < n - k; omega, ⟨rfl, rfl, rfl, trivial⟩, hS4, by omega, hK⟩
  · rw [lexCC_endL (by omega), if_neg (by omega)] at hK
    refine Cd.exit ?_
    refine thenQ_x ?_
    refine thenQ_x ?_
    refine blockQ_x ?_
    refine thenQ_n ?_
    refine Cd.seq ?_
    refine Cd.region ?_
    refine Ops.mv_bool rfl rfl rfl ?_
    refine Ops.nil ?_
    refine thenQ_n ?_
    refine Cd.ret ?_
    refine ret1_b rfl ?_
    -- stop: end
    exact ⟨congrArg Value.bool (by rw [hK]; rfl), hS3.none⟩
end Go.Proofs.Ytgobjpcankaicaa.Vc
/-
  The walks of the numbers of faces on both sides. Conditions: as each states them.
-/
namespace Go.Proofs.Ytgobjpcankaicaa.Vc
open Go.RowKit

/-- the numbers of faces -/
def cntF (xss : List (List Int)) : List Int := (List.range xss.length).map fun i => facesN xss i
theorem cntF_len (xss : List (List Int)) : (cntF xss).length = xss.length := by simp [cntF]
theorem cntF_take {xss : List (List Int)} {i : Nat} (h : i < xss.length) : (cntF xss).take (i + 1) = (cntF xss).take i ++ [facesN xss i] := by
  rw [List.take_succ_eq_append_getElem (by rw [cntF_len]; exact h)]
  simp [cntF]

theorem faceCounts_c (Ab A : Option Addr) (n c : Nat) (rs : List SlV) (xss : List (List Int)) (w : World) (hB : Rd w Ab 1 (fun _ => .slice A n c)) (hR : RowsI w A n rs xss) (hM : Mani xss) :
    Ret Try.prog 84 [.pointer Ab] w (fun v w' => ∃ A' c', v = .slice A' n c' ∧ St w w' [CkI 2 A' n c' (cntF xss)]) := by
  have hl := hR.len
  have h1 := hM.1
  have h2 := hM.2.1
  refine Ret.of_cd Try.func84 rfl Try.ntmps84 rfl (post1 rfl) ?_
  refine Cd.seq ?_
  refine Cd.region ?_
  refine Ops.mv_sl rfl rfl rfl ?_
  refine Ops.nil ?_
  refine thenQ_n ?_
  refine Cd.seq ?_
  refine Cd.region ?_
  refine Ops.mv_sl rfl rfl rfl ?_
  refine Ops.nil ?_
  refine thenQ_n ?_
  refine Cd.seq ?_
  refine Cd.seq ?_
  refine Cd.region ?_
  refine Ops.mv_ptr rfl rfl rfl ?_
  -- stop: CALL impl.Maniplex).rank(t7) -> 8
  refine Ops.call (rank_c Ab A n c _ _ hB rfl) rfl rfl rfl ?_
  rintro _ w ⟨rfl, rfl⟩
  refine Ops.mv_int rfl rfl rfl ?_
  refine Ops.nil ?_
  refine thenQ_n ?_
  refine Cd.block ?_
  -- stop: loop
  refine Cd.loop (α := Nat × Option Addr × Nat) (fun s => [(0, .pointer Ab), (3, .slice s.2.1 s.1 s.2.2), (8, .int .i64 (n : Int)), (9, .int .i64 (s.1 : Int))]) (fun s w' => St w w' [CkI 2 s.2.1 s.1 s.2.2 ((cntF xss).take s.1)] ∧ s.1 ≤ n) (fun s => n - s.1) (0, none, 0) ⟨rfl, rfl, rfl, rfl, trivial⟩ ⟨(St.refl w).nil _, Nat.zero_le _⟩ ?_
  rintro ⟨i, A3, c3⟩ e w1 ⟨hS1, hi⟩
  dsimp only at hS1 hi ⊢
  refine Cd.seq ?_
  refine Cd.region ?_
  refine Ops.lss rfl rfl rfl ?_
  refine Ops.nil ?_
  refine thenQ_n ?_
  refine Cd.seq ?_
  -- stop: cond
  refine Cd.cond_p _ rfl (fun h3 => ?_) (fun h3 => ?_)
  · have hi' : i < n := by omega
    have hfn := facesN_le xss i
    refine Cd.skip ?_
    refine thenQ_n ?_
    refine Cd.seq ?_
    refine Cd.block ?_
    refine Cd.seq ?_
    refine Cd.region ?_
    refine Ops.mv_int rfl rfl rfl ?_
    refine Ops.mv_int rfl rfl rfl ?_
    refine Ops.nil ?_
    refine thenQ_n ?_
    refine Cd.seq ?_
    refine Cd.region ?_
    refine Ops.mv_ptr rfl rfl rfl ?_
    refine Ops.mv_int rfl rfl rfl ?_
    -- stop: CALL impl.Maniplex).faces(t13, t14) -> 15
    refine Ops.call (faces_c Ab A n c rs xss i _ (hB.below hS1.below) (hS1.oldRows hR) hM hi') rfl rfl rfl ?_
    rintro _ w2 ⟨A5, rfl, hst2⟩
    have hS2 := (hS1.call hst2).tail
    refine Ops.mv_tup rfl rfl rfl ?_
    refine Ops.extract rfl rfl rfl ?_
    refine Ops.extract rfl rfl rfl ?_
    refine Ops.mv_sl rfl rfl rfl ?_
    refine Ops.mv_int rfl rfl rfl ?_
    refine Ops.nil ?_
    refine thenQ_n ?_
    refine Cd.region ?_
    refine Ops.mv_sl rfl rfl rfl ?_
    refine Ops.mv_int rfl rfl rfl ?_
    -- stop: BUILDSLICE 33 1 [('pair', [0, ('app', 'Go.Operand.tmp', [19])])] -> 20
    refine Ops.bs1I hS2 rfl rfl rfl ?_
    intro A6 w3 hS3
    refine Ops.appI 1 hS3 rfl (hS3.rdI 0 rfl) rfl rfl rfl (by omega) (by omega) rfl ?_
    intro A7 c7 w4 hS4
    refine Ops.mv_sl rfl rfl rfl ?_
    refine Ops.nil ?_
    refine blockQ_n ?_
    refine thenQ_n ?_
    refine Cd.region ?_
    refine Ops.add rfl rfl rfl (by omega) ?_
    refine Ops.mv_int rfl rfl rfl ?_
    refine Ops.nil ?_
    refine thenQ_n ?_
    -- stop: round
    refine ⟨(i + 1, A7, c7), by show n - (i + 1) < n - i; omega, ⟨rfl, rfl, rfl, rfl, trivial⟩, ?_, hi'⟩
    show St w w4 [CkI _ A7 (i + 1) c7 ((cntF xss).take (i + 1))]
    rw [cntF_take (by omega)]
    exact hS4.tail
  · refine Cd.exit ?_
    refine thenQ_x ?_
    refine thenQ_x ?_
    refine blockQ_x ?_
    refine thenQ_n ?_
    refine Cd.seq ?_
    refine Cd.region ?_
    refine Ops.mv_sl rfl rfl rfl ?_
    refine Ops.mv_sl rfl rfl rfl ?_
    refine Ops.nil ?_
    refine thenQ_n ?_
    refine Cd.ret ?_
    refine ret1_s rfl ?_
    -- stop: end
    have hin : i = n := by omega
    rw [hin, List.take_of_length_le (by rw [cntF_len]; omega)] at hS1
    rw [hin]
    exact ⟨A3, c3, rfl, hS1⟩

theorem l02Counts_c (A : Option Addr) (n c : Nat) (rs : List SlV) (xss : List (List Int)) (w : World) (hR : RowsI w A n rs xss) (hM : Mani xss) :
    Ret Try.prog 78 [.agg #[.slice A n c]] w (fun v w' => ∃ A' c', v = .slice A' n c' ∧ St w w' [CkI 2 A' n c' (cntF xss)]) := by
  have hl := hR.len
  have h1 := hM.1
  have h2 := hM.2.1
  refine Ret.of_cd Try.func78 rfl Try.ntmps78 rfl (post1 rfl) ?_
  refine Cd.seq ?_
  refine Cd.region ?_
  -- stop: BOX 24 t0=m -> 1
  refine Ops.box1 (St.refl w) rfl rfl ?_
  intro Ab w1 hS1
  refine Ops.mv_sl rfl rfl rfl ?_
  refine Ops.nil ?_
  refine thenQ_n ?_
  refine Cd.seq ?_
  refine Cd.region ?_
  -- stop: BUILDSLICE 33 0 [] -> 5
  refine Ops.bs0 hS1 rfl ?_
  intro A2 w2 hS2
  have hS2 : St w w2 [CkI 2 A2 0 0 ((cntF xss).take 0), Bx 24 1 Ab [.slice A n c]] := hS2
  refine Ops.mv_sl rfl rfl rfl ?_
  refine Ops.nil ?_
  refine thenQ_n ?_
  refine Cd.seq ?_
  refine Cd.seq ?_
  refine Cd.region ?_
  refine Ops.mv_int rfl rfl rfl ?_
  refine Ops.nil ?_
  refine thenQ_n ?_
  refine Cd.block ?_
  -- stop: loop
  refine Cd.loop (α := Nat × Option Addr × Nat) (fun s => [(1, .pointer Ab), (3, .slice s.2.1 s.1 s.2.2), (4, .int .i64 (s.1 : Int))]) (fun s w' => St w w' [CkI 2 s.2.1 s.1 s.2.2 ((cntF xss).take s.1), Bx 24 1 Ab [.slice A n c]] ∧ s.1 ≤ n) (fun s => n - s.1) (0, A2, 0) ⟨rfl, rfl, rfl, trivial⟩ ⟨hS2, Nat.zero_le _⟩ ?_
  rintro ⟨i, A3, c3⟩ e w3 ⟨hS3, hi⟩
  dsimp only at hS3 hi ⊢
  refine Cd.seq ?_
  refine Cd.seq ?_
  refine Cd.region ?_
  refine Ops.mv_int rfl rfl rfl ?_
  -- stop: FIELDADDR 24 t1=m 0 -> 7
  refine Ops.fld (hS3.rd 1 rfl) rfl rfl rfl rfl inferInstance ?_
  refine Ops.ldf_s (hS3.rd 1 rfl) rfl rfl rfl rfl rfl ?_
  refine Ops.len rfl rfl ?_
  refine Ops.lss rfl rfl rfl ?_
  refine Ops.nil ?_
  refine thenQ_n ?_
  -- stop: cond
  refine Cd.cond_p _ rfl (fun h3 => ?_) (fun h3 => ?_)
  · have hi' : i < n := by omega
    have hfn := facesN_le xss i
    have hgr := faces_grt hM i
    have hx : ∀ x ∈ facesL xss i, x ≤ 1000000 := fun x hx => by
      have := (grt_spec _ (facesL xss i) rfl).2.1 x hx
      omega
    refine Cd.skip ?_
    refine thenQ_n ?_
    refine Cd.seq ?_
    refine Cd.block ?_
    refine Cd.region ?_
    refine Ops.mv_sl rfl rfl rfl ?_
    -- stop: LOAD 24 t1=m -> 14
    refine Ops.ld_agg 0 (hS3.rd 1 rfl) rfl rfl rfl ?_
    refine Ops.mv_int rfl rfl rfl ?_
    -- stop: CALL spec.l02Faces(t14, t15) -> 16
    refine Ops.call (l02Faces_c A n c rs xss i _ (hS3.oldRows hR) hM hi') rfl rfl rfl ?_
    rintro _ w4 ⟨A5, c5, rfl, hst4⟩
    have hS4 := hS3.call hst4
    skip
    -- stop: CALL spec.l02Greatest(t16) -> 17
    refine Ops.call (l02Greatest_c A5 _ c5 (facesL xss i) _ (hS4.rdI 0 rfl) (by omega) hx) rfl rfl rfl ?_
    rintro _ w4 ⟨rfl, rfl⟩
    rw [hgr]
    have hS4 := hS4.tail
    skip
    -- stop: BUILDSLICE 33 1 [('pair', [0, ('app', 'Go.Operand.tmp', [17])])] -> 18
    refine Ops.bs1I hS4 rfl rfl rfl ?_
    intro A6 w5 hS5
    refine Ops.appI 1 hS5 rfl (hS5.rdI 0 rfl) rfl rfl rfl (by omega) (by omega) rfl ?_
    intro A7 c7 w6 hS6
    refine Ops.mv_sl rfl rfl rfl ?_
    refine Ops.nil ?_
    refine blockQ_n ?_
    refine thenQ_n ?_
    refine Cd.region ?_
    refine Ops.mv_int rfl rfl rfl ?_
    refine Ops.add rfl rfl rfl (by omega) ?_
    refine Ops.mv_int rfl rfl rfl ?_
    refine Ops.nil ?_
    refine thenQ_n ?_
    -- stop: round
    refine ⟨(i + 1, A7, c7), by show n - (i + 1) < n - i; omega, ⟨rfl, rfl, rfl, trivial⟩, ?_, hi'⟩
    show St w w6 [CkI _ A7 (i + 1) c7 ((cntF xss).take (i + 1)), _]
    rw [cntF_take (by omega)]
    exact hS6.tail
  · refine Cd.exit ?_
    refine thenQ_x ?_
    refine thenQ_x ?_
    refine blockQ_x ?_
    refine thenQ_n ?_
    refine Cd.seq ?_
    refine Cd.region ?_
    refine Ops.mv_sl rfl rfl rfl ?_
    refine Ops.mv_sl rfl rfl rfl ?_
    refine Ops.nil ?_
    refine thenQ_n ?_
    refine Cd.ret ?_
    refine ret1_s rfl ?_
    -- stop: end
    have hin : i = n := by omega
    rw [hin, List.take_of_length_le (by rw [cntF_len]; omega)] at hS3
    rw [hin]
    exact ⟨A3, c3, rfl, hS3.sub (List.Sublist.cons_cons _ (List.nil_sublist _))⟩

theorem censusOf1_c (A : Option Addr) (n c : Nat) (rs : List SlV) (xss : List (List Int)) (A' : Option Addr) (n' c' : Nat) (rs' : List SlV) (yss : List (List Int)) (w : World) (hX : RowsI w A n rs xss) (hY : RowsI w A' n' rs' yss) (hM : Mani xss) (hM' : Mani yss) :
    Ret Try.prog 82 [.agg #[.slice A n c], .agg #[.slice A' n' c']] w (fun v w' => v = .int .i64 (lexC (cntF xss) (cntF yss)) ∧ St w w' []) := by
  have hxl := hX.len
  have hyl := hY.len
  have h1 := hM.1
  have h1' := hM'.1
  refine Ret.of_cd Try.func82 rfl Try.ntmps82 rfl (post1 rfl) ?_
  refine Cd.seq ?_
  refine Cd.region ?_
  -- stop: BOX 24 t0=a -> 2
  refine Ops.box1 (St.refl w) rfl rfl ?_
  intro Ab w1 hS1
  refine Ops.box1 hS1 rfl rfl ?_
  intro Ac w2 hS2
  refine Ops.mv_int rfl rfl rfl ?_
  refine Ops.nil ?_
  refine thenQ_n ?_
  refine Cd.seq ?_
  refine Cd.region ?_
  -- stop: CALL impl.Maniplex).faceCounts(t2=a) -> 5
  refine Ops.call (faceCounts_c Ab A n c rs xss _ (Rd.one (hS2.rd 1 rfl)) (hS2.oldRows hX) hM) rfl rfl rfl ?_
  rintro _ w3 ⟨A5, c5, rfl, hst3⟩
  have hS3 := hS2.call hst3
  refine Ops.call (faceCounts_c Ac A' n' c' rs' yss _ (Rd.one (hS3.rd 1 rfl)) (hS3.oldRows hY) hM') rfl rfl rfl ?_
  rintro _ w4 ⟨A6, c6, rfl, hst4⟩
  have hS4 := hS3.call hst4
  refine Ops.call (Compare_c A5 n c5 (cntF xss) A6 n' c6 (cntF yss) _ (hS4.rdI 1 rfl) (hS4.rdI 0 rfl) (by omega)) rfl rfl rfl ?_
  rintro _ w4 ⟨rfl, rfl⟩
  refine Ops.mv_int rfl rfl rfl ?_
  refine Ops.nil ?_
  refine thenQ_n ?_
  refine Cd.ret ?_
  refine ret1_i rfl ?_
  -- stop: end
  exact ⟨rfl, hS4.none⟩
end Go.Proofs.Ytgobjpcankaicaa.Vc
/-
  The walks of copies and of the reference's tests of partial moves. Conditions: as each states them.
-/
namespace Go.Proofs.Ytgobjpcankaicaa.Vc
open Go.RowKit

theorem l01Own_c (A : Option Addr) (n c : Nat) (xs : List Int) (w : World) (hR : RdI w A n xs) (hn : n ≤ 1000000000) : Ret Try.prog 97 [.slice A n c] w (fun v w' => ∃ A' c', v = .slice A' n c' ∧ St w w' [CkI 2 A' n c' xs]) := by
  refine Ret.of_cd Try.func97 rfl Try.ntmps97 rfl (post1 rfl) ?_
  refine Cd.seq ?_
  refine Cd.region ?_
  refine Ops.mv_sl rfl rfl rfl ?_
  refine Ops.nil ?_
  refine thenQ_n ?_
  refine Cd.seq ?_
  refine Cd.region ?_
  -- stop: BUILDSLICE 33 0 [] -> 3
  refine Ops.bs0 (St.refl w) rfl ?_
  intro A1 w1 hS1
  have hS1 : St w w1 [CkI 2 A1 0 0 []] := hS1
  refine Ops.mv_sl rfl rfl rfl ?_
  -- stop: BUILTIN append(t3, t4) -> 5
  refine Ops.appI 0 hS1 rfl (hS1.oldI hR) rfl rfl rfl (by omega) (by omega) rfl ?_
  intro A2 c2 w2 hS2
  rw [Nat.zero_add] at hS2 ⊢
  refine Ops.mv_sl rfl rfl rfl ?_
  refine Ops.nil ?_
  refine thenQ_n ?_
  refine Cd.ret ?_
  refine ret1_s rfl ?_
  -- stop: end
  exact ⟨A2, c2, rfl, hS2⟩

theorem l01Own2_c (A : Option Addr) (n c : Nat) (rs : List SlV) (xss : List (List Int)) (w : World) (hR : RowsI w A n rs xss) (hn : n ≤ 1000000000) (hr : ∀ i, i < n → (rs.getD i slNil).n ≤ 1000000000) :
    Ret Try.prog 133 [.slice A n c] w (fun v w' => ∃ A' c' rs', v = .slice A' n c' ∧ rs'.length = n ∧ St w w' (mat 33 2 A' n c' rs' xss)) := by
  refine Ret.of_cd Try.func133 rfl Try.ntmps133 rfl (post1 rfl) ?_
  refine Cd.seq ?_
  refine Cd.region ?_
  refine Ops.mv_sl rfl rfl rfl ?_
  refine Ops.nil ?_
  refine thenQ_n ?_
  refine Cd.seq ?_
  refine Cd.region ?_
  -- stop: BUILDSLICE 22 0 [] -> 5
  refine Ops.bs0 (St.refl w) rfl ?_
  intro A1 w1 hS1
  have hS1 : St w w1 [CkR 33 A1 0 0 []] := hS1
  refine Ops.mv_sl rfl rfl rfl ?_
  refine Ops.nil ?_
  refine thenQ_n ?_
  refine Cd.seq ?_
  refine Cd.seq ?_
  refine Cd.region ?_
  refine Ops.mv_int rfl rfl rfl ?_
  refine Ops.nil ?_
  refine thenQ_n ?_
  refine Cd.block ?_
  -- stop: loop
  refine Cd.loop (α := Nat × Option Addr × Nat × List SlV) (fun s => [(0, .slice A n c), (3, .slice s.2.1 s.1 s.2.2.1), (4, .int .i64 (s.1 : Int))]) (fun s w' => St w w' (CkR 33 s.2.1 s.1 s.2.2.1 s.2.2.2 :: rowsCk 2 s.2.2.2 (xss.take s.1)) ∧ s.1 ≤ n ∧ s.2.2.2.length = s.1) (fun s => n - s.1) (0, A1, 0, []) ⟨rfl, rfl, rfl, trivial⟩ ⟨hS1, Nat.zero_le _, rfl⟩ ?_
  rintro ⟨k, A3, c3, rs1⟩ e w2 ⟨hS2, hk, hlen⟩
  dsimp only at hS2 hk hlen ⊢
  refine Cd.seq ?_
  refine Cd.seq ?_
  refine Cd.region ?_
  refine Ops.mv_int rfl rfl rfl ?_
  refine Ops.mv_sl rfl rfl rfl ?_
  refine Ops.len rfl rfl ?_
  refine Ops.lss rfl rfl rfl ?_
  refine Ops.nil ?_
  refine thenQ_n ?_
  -- stop: cond
  refine Cd.cond_p _ rfl (fun h1 => ?_) (fun h1 => ?_)
  · have hk' : k < n := by omega
    have hx : k < xss.length := by rw [hR.len]; exact hk'
    refine Cd.skip ?_
    refine thenQ_n ?_
    refine Cd.seq ?_
    refine Cd.block ?_
    refine Cd.region ?_
    refine Ops.mv_sl rfl rfl rfl ?_
    refine Ops.mv_sl rfl rfl rfl ?_
    refine Ops.mv_int rfl rfl rfl ?_
    -- stop: INDEXADDR 22 t13 t14 -> 15
    refine Ops.idx (hS2.oldR hR.top).2 rfl rfl rfl (by omega) h1 ?_
    refine Ops.ld_sl (hS2.oldR hR.top) rfl (by omega) rfl rfl ?_
    refine Ops.call (l01Own_c _ _ _ _ _ (hS2.oldI (hR.at_ (i := k) (by omega) h1)) (hr k hk')) rfl rfl rfl ?_
    rintro _ w3 ⟨A4, c4, rfl, hS3⟩
    have hS3 := hS2.call hS3
    refine Ops.bs1R hS3 rfl rfl rfl ?_
    intro A5 w4 hS4
    refine Ops.appR 2 hS4 rfl (hS4.rdR 0 rfl) rfl rfl rfl (by omega) (by omega) rfl ?_
    intro A6 c6 w5 hS5
    refine Ops.mv_sl rfl rfl rfl ?_
    refine Ops.nil ?_
    refine blockQ_n ?_
    refine thenQ_n ?_
    refine Cd.region ?_
    refine Ops.mv_int rfl rfl rfl ?_
    refine Ops.add rfl rfl rfl (by omega) ?_
    refine Ops.mv_int rfl rfl rfl ?_
    refine Ops.nil ?_
    refine thenQ_n ?_
    -- stop: round
    refine ⟨(k + 1, A6, c6, rs1 ++ [⟨A4, (rg rs k).n, c4⟩]), by show n - (k + 1) < n - k; omega, ⟨rfl, rfl, rfl, trivial⟩, ?_, hk', by simp [hlen]⟩
    have e2 : gl xss k = xss[k] := by simp [gl, List.getD_eq_getElem?_getD, List.getElem?_eq_getElem hx]
    show St w w5 (CkR _ A6 (k + 1) c6 (rs1 ++ [_]) :: rowsCk _ (rs1 ++ [_]) (xss.take (k + 1)))
    rw [List.take_succ_eq_append_getElem hx, rowsCk_append (by simp [hlen]; omega)]
    have h5 : St w w5 (CkI 2 A4 (rg rs k).n c4 (gl xss k) :: CkR 33 A6 (k + 1) c6 (rs1 ++ [⟨A4, (rg rs k).n, c4⟩]) :: rowsCk 2 rs1 (xss.take k)) := hS5.tail
    rw [e2] at h5
    refine h5.perm ?_
    refine (List.Perm.swap _ _ _).trans (List.Perm.cons _ ?_)
    exact List.perm_append_comm (l₁ := [_])
  · refine Cd.exit ?_
    refine thenQ_x ?_
    refine thenQ_x ?_
    refine blockQ_x ?_
    refine thenQ_n ?_
    refine Cd.seq ?_
    refine Cd.region ?_
    refine Ops.mv_sl rfl rfl rfl ?_
    refine Ops.mv_sl rfl rfl rfl ?_
    refine Ops.nil ?_
    refine thenQ_n ?_
    refine Cd.ret ?_
    refine ret1_s rfl ?_
    -- stop: end
    have : k = n := by omega
    subst this
    rw [← hR.len, List.take_length] at hS2
    exact ⟨A3, c3, rs1, rfl, hlen, by rw [← hR.len]; exact hS2⟩

theorem RowsI.shp {w : World} {A : Option Addr} {n F : Nat} {rs : List SlV} {M : List (List Int)} (hR : RowsI w A n rs M) (hs : Shp n F M) {k : Int} (h0 : 0 ≤ k) (h1 : k < n) : (rg rs k).n = F := by
  rw [← hR.rowLen h0 h1]
  exact hs.2 _ (gl_in h0 (by rw [hs.1]; exact h1))

theorem l19Known_c (A : Option Addr) (n c F : Nat) (rs : List SlV) (M : List (List Int)) (i : Nat) (f : Int) (w : World) (hR : RowsI w A n rs M) (hs : Shp n F M) (hi : i < n) (hf : f < F) :
    Ret Try.prog 224 [.slice A n c, .int .i64 (i : Int), .int .i64 f] w (fun v w' => v = .int .i64 (kn M i f) ∧ w' = w) := by
  have hn := hR.shp hs (k := (i : Int)) (by omega) (by omega)
  refine Ret.of_cd Try.func224 rfl Try.ntmps224 rfl (post1 rfl) ?_
  refine Cd.seq ?_
  refine Cd.region ?_
  refine Ops.mv_int rfl rfl rfl ?_
  refine Ops.nil ?_
  refine thenQ_n ?_
  refine Cd.seq ?_
  refine Cd.seq ?_
  refine Cd.region ?_
  refine Ops.mv_int rfl rfl rfl ?_
  refine Ops.lss rfl rfl rfl ?_
  refine Ops.nil ?_
  refine thenQ_n ?_
  -- stop: cond
  refine Cd.cond_p _ rfl (fun h => ?_) (fun h => ?_)
  · refine Cd.seq ?_
    refine Cd.region ?_
    refine Ops.mv_int rfl rfl rfl ?_
    refine Ops.nil ?_
    refine thenQ_n ?_
    refine Cd.ret ?_
    refine thenQ_r ?_
    refine ret1_i rfl ?_
    -- stop: end
    exact ⟨by unfold kn; rw [if_pos h], rfl⟩
  · refine Cd.skip ?_
    refine thenQ_n ?_
    refine Cd.seq ?_
    refine Cd.region ?_
    refine Ops.mv_sl rfl rfl rfl ?_
    refine Ops.mv_int rfl rfl rfl ?_
    -- stop: INDEXADDR 22 t9 t10 -> 11
    refine Ops.idx hR.top.2 rfl rfl rfl (by omega) (by omega) ?_
    refine Ops.ld_sl hR.top rfl (by omega) rfl rfl ?_
    refine Ops.mv_int rfl rfl rfl ?_
    -- stop: INDEXADDR 33 t12 t13 -> 14
    refine Ops.idx (hR.at_ (i := i) (by omega) (by omega)).2 rfl rfl rfl (by omega) (by omega) ?_
    refine Ops.ld_int (hR.at_ (i := i) (by omega) (by omega)) rfl (by omega) rfl rfl ?_
    refine Ops.mv_int rfl rfl rfl ?_
    refine Ops.nil ?_
    refine thenQ_n ?_
    refine Cd.ret ?_
    refine ret1_i rfl ?_
    -- stop: end
    exact ⟨by unfold kn; rw [if_neg h]; rfl, rfl⟩

/-- partial moves whose numbers are flags, or below 0 -/
def Rng (n F : Nat) (M : List (List Int)) : Prop := ∀ (i : Nat) (f : Int), i < n → 0 ≤ f → f < F → cell M i f < F
theorem Inv.rng {n F : Nat} {M : List (List Int)} {met at_ : Nat} (h : Inv n F M met at_) : Rng n F M := fun i f hi h0 hf => by
  have := h.metF
  rcases h.cells i f hi h0 hf with h1 | h1
  · omega
  · omega

theorem l19Fits_c (A : Option Addr) (n c F : Nat) (rs : List SlV) (M : List (List Int)) (f : Nat) (w : World) (hR : RowsI w A n rs M) (hs : Shp n F M) (hg : Rng n F M) (hn : n ≤ 1000) (hf : f < F) :
    Ret Try.prog 191 [.slice A n c, .int .i64 (f : Int)] w (fun v w' => v = .bool (decide (FitsAll M (f : Int))) ∧ St w w' []) := by
  have hlen := hs.1
  refine Ret.of_cd Try.func191 rfl Try.ntmps191 rfl (post1 rfl) ?_
  refine Cd.seq ?_
  refine Cd.region ?_
  refine Ops.mv_bool rfl rfl rfl ?_
  refine Ops.nil ?_
  refine thenQ_n ?_
  refine Cd.seq ?_
  refine Cd.region ?_
  refine Ops.mv_sl rfl rfl rfl ?_
  refine Ops.len rfl rfl ?_
  refine Ops.mv_int rfl rfl rfl ?_
  refine Ops.nil ?_
  refine thenQ_n ?_
  refine Cd.seq ?_
  refine Cd.seq ?_
  refine Cd.region ?_
  refine Ops.mv_int rfl rfl rfl ?_
  refine Ops.nil ?_
  refine thenQ_n ?_
  refine Cd.block ?_
  -- stop: loop
  refine Cd.loop (α := Nat) (fun i => [(0, .slice A n c), (1, .int .i64 (f : Int)), (5, .int .i64 (n : Int)), (6, .int .i64 (i : Int))]) (fun i w' => St w w' [] ∧ i ≤ n ∧ ∀ i', i' < i → ∀ k, k < n → i' + 2 ≤ k → FitsP M i' k f) (fun i => n - i) 0 ⟨rfl, rfl, rfl, rfl, trivial⟩ ⟨St.refl w, Nat.zero_le _, fun i' h => by omega⟩ ?_
  rintro i e w1 ⟨hS1, hi, hI⟩
  refine Cd.seq ?_
  refine Cd.seq ?_
  refine Cd.region ?_
  refine Ops.mv_int rfl rfl rfl ?_
  refine Ops.mv_int rfl rfl rfl ?_
  refine Ops.lss rfl rfl rfl ?_
  refine Ops.nil ?_
  refine thenQ_n ?_
  -- stop: cond
  refine Cd.cond_p _ rfl (fun h1 => ?_) (fun h1 => ?_)
  · refine Cd.skip ?_
    refine thenQ_n ?_
    refine Cd.seq ?_
    refine Cd.block ?_
    refine Cd.seq ?_
    refine Cd.region ?_
    refine Ops.mv_int rfl rfl rfl ?_
    refine Ops.add rfl rfl rfl (by omega) ?_
    refine Ops.mv_int rfl rfl rfl ?_
    refine Ops.nil ?_
    refine thenQ_n ?_
    refine Cd.block ?_
    -- stop: loop
    refine Cd.loop (α := Nat) (fun k => [(0, .slice A n c), (1, .int .i64 (f : Int)), (5, .int .i64 (n : Int)), (6, .int .i64 (i : Int)), (7, .int .i64 (k : Int))]) (fun k w' => St w w' [] ∧ i + 2 ≤ k ∧ ∀ k', k' < k → k' < n → i + 2 ≤ k' → FitsP M i k' f) (fun k => n + 1 - k) (i + 2) ⟨rfl, rfl, rfl, rfl, rfl, trivial⟩ ⟨hS1, Nat.le_refl _, fun k' _ _ _ => by omega⟩ ?_
    rintro k e w2 ⟨hS2, hik, hK⟩
    refine Cd.seq ?_
    refine Cd.seq ?_
    refine Cd.region ?_
    refine Ops.mv_int rfl rfl rfl ?_
    refine Ops.mv_int rfl rfl rfl ?_
    refine Ops.lss rfl rfl rfl ?_
    refine Ops.nil ?_
    refine thenQ_n ?_
    -- stop: cond
    refine Cd.cond_p _ rfl (fun h2 => ?_) (fun h2 => ?_)
    · have hM := hS2.oldRows hR
      have hri := hM.at_ (i := i) (by omega) h1
      have hrk := hM.at_ (i := k) (by omega) h2
      have ni := hM.shp hs (k := (i : Int)) (by omega) h1
      have nk := hM.shp hs (k := (k : Int)) (by omega) h2
      refine Cd.skip ?_
      refine thenQ_n ?_
      refine Cd.seq ?_
      refine Cd.block ?_
      refine Cd.seq ?_
      -- stop: draw
      refine Cd.draw [.ex (.slice (A) (n) (c)), .ex (.int .i64 ((i : Int))), .ex (.pointer (ptrAt (A) ((i : Int)).toNat)), .ex (.slice ((rg (rs) ((i : Int))).a) ((rg (rs) ((i : Int))).n) ((rg (rs) ((i : Int))).c)), .ex (.int .i64 ((f : Int))), .ex (.pointer (ptrAt ((rg (rs) ((i : Int))).a) ((f : Int)).toNat)), .ex (.int .i64 (gi (gl M i) ((f : Int)))), .ex (.slice (A) (n) (c)), .ex (.int .i64 ((k : Int))), .ex (.pointer (ptrAt (A) ((k : Int)).toNat)), .ex (.slice ((rg (rs) ((k : Int))).a) ((rg (rs) ((k : Int))).n) ((rg (rs) ((k : Int))).c)), .ex (.int .i64 ((f : Int))), .ex (.pointer (ptrAt ((rg (rs) ((k : Int))).a) ((f : Int)).toNat)), .ex (.int .i64 (gi (gl M k) ((f : Int)))), .ex (.int .i64 (gi (gl M i) ((f : Int)))), .ex (.int .i64 (gi (gl M k) ((f : Int))))] (by kernel_rfl) (by kernel_rfl) rfl (List.forall_mem_cons.2 ⟨Yd.lasts_ex _, (List.forall_mem_cons.2 ⟨Yd.lasts_ex _, (List.forall_mem_cons.2 ⟨Yd.lasts_ex _, (List.forall_mem_cons.2 ⟨Yd.lasts_ex _, (List.forall_mem_cons.2 ⟨Yd.lasts_ex _, (List.forall_mem_cons.2 ⟨Yd.lasts_ex _, (List.forall_mem_cons.2 ⟨Yd.lasts_ex _, (List.forall_mem_cons.2 ⟨Yd.lasts_ex _, (List.forall_mem_cons.2 ⟨Yd.lasts_ex _, (List.forall_mem_cons.2 ⟨Yd.lasts_ex _, (List.forall_mem_cons.2 ⟨Yd.lasts_ex _, (List.forall_mem_cons.2 ⟨Yd.lasts_ex _, (List.forall_mem_cons.2 ⟨Yd.lasts_ex _, (List.forall_mem_cons.2 ⟨Yd.lasts_ex _, (List.forall_mem_cons.2 ⟨Yd.lasts_ex _, (List.forall_mem_cons.2 ⟨Yd.lasts_ex _, (fun _ h => by cases h)⟩)⟩)⟩)⟩)⟩)⟩)⟩)⟩)⟩)⟩)⟩)⟩)⟩)⟩)⟩)⟩) ⟨?_, ?_, ?_, ?_, ?_, ?_, ?_, ?_, ?_, ?_, ?_, ?_, ?_, ?_, ?_, ?_, trivial⟩ ?_
      · intro e1 w1 hb hp hun
        refine Ops.mv_sl rfl rfl rfl ?_
        refine Ops.nil ?_
        exact After.dn (Below.refl _ _) (by exact rfl)
      · intro e1 w1 hb hp hun
        refine Ops.mv_int rfl rfl rfl ?_
        refine Ops.nil ?_
        exact After.dn (Below.refl _ _) (by exact rfl)
      · intro e1 w1 hb hp hun
        refine Ops.idx (hM.top.later hb).2 rfl rfl rfl (by omega) (by omega) ?_
        refine Ops.nil ?_
        exact After.dn (Below.refl _ _) (by exact rfl)
      · intro e1 w1 hb hp hun
        refine Ops.ld_sl (hM.top.later hb) rfl (by omega) rfl rfl ?_
        refine Ops.nil ?_
        exact After.dn (Below.refl _ _) (by exact rfl)
      · intro e1 w1 hb hp hun
        refine Ops.mv_int rfl rfl rfl ?_
        refine Ops.nil ?_
        exact After.dn (Below.refl _ _) (by exact rfl)
      · intro e1 w1 hb hp hun
        refine Ops.idx (hri.later hb).2 rfl rfl rfl (by omega) (by omega) ?_
        refine Ops.nil ?_
        exact After.dn (Below.refl _ _) (by exact rfl)
      · intro e1 w1 hb hp hun
        refine Ops.ld_int (hri.later hb) rfl (by omega) rfl rfl ?_
        refine Ops.nil ?_
        exact After.dn (Below.refl _ _) (by exact rfl)
      · intro e1 w1 hb hp hun
        refine Ops.mv_sl rfl rfl rfl ?_
        refine Ops.nil ?_
        exact After.dn (Below.refl _ _) (by exact rfl)
      · intro e1 w1 hb hp hun
        refine Ops.mv_int rfl rfl rfl ?_
        refine Ops.nil ?_
        exact After.dn (Below.refl _ _) (by exact rfl)
      · intro e1 w1 hb hp hun
        refine Ops.idx (hM.top.later hb).2 rfl rfl rfl (by omega) (by omega) ?_
        refine Ops.nil ?_
        exact After.dn (Below.refl _ _) (by exact rfl)
      · intro e1 w1 hb hp hun
        refine Ops.ld_sl (hM.top.later hb) rfl (by omega) rfl rfl ?_
        refine Ops.nil ?_
        exact After.dn (Below.refl _ _) (by exact rfl)
      · intro e1 w1 hb hp hun
        refine Ops.mv_int rfl rfl rfl ?_
        refine Ops.nil ?_
        exact After.dn (Below.refl _ _) (by exact rfl)
      · intro e1 w1 hb hp hun
        refine Ops.idx (hrk.later hb).2 rfl rfl rfl (by omega) (by omega) ?_
        refine Ops.nil ?_
        exact After.dn (Below.refl _ _) (by exact rfl)
      · intro e1 w1 hb hp hun
        refine Ops.ld_int (hrk.later hb) rfl (by omega) rfl rfl ?_
        refine Ops.nil ?_
        exact After.dn (Below.refl _ _) (by exact rfl)
      · intro e1 w1 hb hp hun
        refine Ops.mv_int rfl rfl rfl ?_
        refine Ops.nil ?_
        exact After.dn (Below.refl _ _) (by exact rfl)
      · intro e1 w1 hb hp hun
        refine Ops.mv_int rfl rfl rfl ?_
        refine Ops.nil ?_
        exact After.dn (Below.refl _ _) (by exact rfl)
      intro u w3 hb3 _
      have hS3 := hS2.later hb3
      have hM := hS3.oldRows hR
      refine thenQ_n ?_
      -- stop: join
      refine Cd.join (α := Unit) (fun _ => [(0, .slice A n c), (1, .int .i64 (f : Int)), (5, .int .i64 (n : Int)), (6, .int .i64 (i : Int)), (7, .int .i64 (k : Int)), (8, .int .i64 (cell M i f)), (9, .int .i64 (cell M k f))]) (fun _ w' => w' = w3 ∧ (0 ≤ cell M i f → cell M i f ≠ cell M k f)) ?_ ?_
      · refine Cd.seq ?_
        refine Cd.region ?_
        refine Ops.mv_int rfl rfl rfl ?_
        refine Ops.geq rfl rfl rfl ?_
        refine Ops.mv_bool rfl rfl rfl ?_
        -- stop: guard 42
        refine Ops.split_p 42 rfl (fun h3 => ?_) (fun h3 => ?_)
        · refine Ops.rung rfl rfl rfl ?_
          refine Ops.mv_int rfl rfl rfl ?_
          refine Ops.rung rfl rfl rfl ?_
          refine Ops.mv_int rfl rfl rfl ?_
          refine Ops.rung rfl rfl rfl ?_
          refine Ops.eql rfl rfl rfl ?_
          refine Ops.pick_t rfl rfl rfl ?_
          refine Ops.nil ?_
          refine thenQ_n ?_
          -- stop: cond
          refine Cd.cond_p _ rfl (fun h4 => ?_) (fun h4 => ?_)
          · refine Cd.seq ?_
            refine Cd.region ?_
            refine Ops.mv_bool rfl rfl rfl ?_
            refine Ops.nil ?_
            refine thenQ_n ?_
            refine Cd.ret ?_
            refine thenQ_r ?_
            refine blockQ_r ?_
            refine thenQ_r ?_
            refine thenQ_r ?_
            refine blockQ_r ?_
            refine blockQ_r ?_
            refine thenQ_r ?_
            refine thenQ_r ?_
            refine blockQ_r ?_
            refine thenQ_r ?_
            refine ret1_b rfl ?_
            -- stop: end
            exact ⟨by rw [decide_eq_false (fun hF : FitsAll M f => (hF i (by omega) k (by omega) hik).1 h3 h4)], hS3⟩
          · refine Cd.skip ?_
            refine thenQ_n ?_
            -- stop: round
            exact ⟨(), ⟨rfl, rfl, rfl, rfl, rfl, rfl, rfl, trivial⟩, rfl, fun _ => h4⟩
        · refine Ops.skipg rfl rfl rfl rfl rfl ?_
          refine Ops.skipg rfl rfl rfl rfl rfl ?_
          refine Ops.skipg rfl rfl rfl rfl rfl ?_
          refine Ops.pick_f rfl rfl rfl ?_
          refine Ops.nil ?_
          refine thenQ_n ?_
          -- stop: cond
          refine Cd.cond_f rfl ?_
          refine Cd.skip ?_
          refine thenQ_n ?_
          -- stop: round
          exact ⟨(), ⟨rfl, rfl, rfl, rfl, rfl, rfl, rfl, trivial⟩, rfl, fun h => absurd h h3⟩
      rintro _ e w3 ⟨rfl, hne⟩
      have gi1 := hg i f (by omega) (by omega) (by omega)
      have gk1 := hg k f (by omega) (by omega) (by omega)
      refine Cd.seq ?_
      refine Cd.region ?_
      refine Ops.mv_sl rfl rfl rfl ?_
      refine Ops.mv_int rfl rfl rfl ?_
      refine Ops.mv_int rfl rfl rfl ?_
      -- stop: CALL spec.l19Known(t47, t48, t49) -> 50
      refine Ops.call (l19Known_c A n c F rs M k _ _ hM hs (by omega) gi1) rfl rfl rfl ?_
      rintro _ w4 ⟨rfl, rfl⟩
      refine Ops.mv_sl rfl rfl rfl ?_
      refine Ops.mv_int rfl rfl rfl ?_
      refine Ops.mv_int rfl rfl rfl ?_
      -- stop: CALL spec.l19Known(t51, t52, t53) -> 54
      refine Ops.call (l19Known_c A n c F rs M i _ _ hM hs (by omega) gk1) rfl rfl rfl ?_
      rintro _ w5 ⟨rfl, rfl⟩
      have good : ∀ {w' : World} {e' : Env}, (0 ≤ kn M k (cell M i f) → 0 ≤ kn M i (cell M k f) → kn M k (cell M i f) = kn M i (cell M k f)) → ∀ k', k' < k + 1 → k' < n → i + 2 ≤ k' → FitsP M i k' f := fun hk k' hk' hkn hik' => by
        by_cases ek : k' = k
        · subst ek; exact ⟨hne, hk⟩
        · exact hK k' (by omega) hkn hik'
      refine Ops.mv_int rfl rfl rfl ?_
      refine Ops.mv_int rfl rfl rfl ?_
      refine Ops.nil ?_
      refine thenQ_n ?_
      refine Cd.seq ?_
      refine Cd.region ?_
      refine Ops.mv_int rfl rfl rfl ?_
      refine Ops.geq rfl rfl rfl ?_
      refine Ops.mv_bool rfl rfl rfl ?_
      -- stop: guard 57
      refine Ops.split_p 57 rfl (fun h3 => ?_) (fun h3 => ?_)
      · refine Ops.rung rfl rfl rfl ?_
        refine Ops.mv_int rfl rfl rfl ?_
        refine Ops.rung rfl rfl rfl ?_
        refine Ops.geq rfl rfl rfl ?_
        refine Ops.pick_t rfl rfl rfl ?_
        refine Ops.mv_bool rfl rfl rfl ?_
        -- stop: guard 61
        refine Ops.split_p 61 rfl (fun h4 => ?_) (fun h4 => ?_)
        · refine Ops.rung rfl rfl rfl ?_
          refine Ops.mv_int rfl rfl rfl ?_
          refine Ops.rung rfl rfl rfl ?_
          refine Ops.mv_int rfl rfl rfl ?_
          refine Ops.rung rfl rfl rfl ?_
          refine Ops.neq rfl rfl rfl ?_
          refine Ops.pick_t rfl rfl rfl ?_
          refine Ops.nil ?_
          refine thenQ_n ?_
          -- stop: cond
          refine Cd.cond_p _ rfl (fun h5 => ?_) (fun h5 => ?_)
          · refine Cd.seq ?_
            refine Cd.region ?_
            refine Ops.mv_bool rfl rfl rfl ?_
            refine Ops.nil ?_
            refine thenQ_n ?_
            refine Cd.ret ?_
            refine blockQ_r ?_
            refine thenQ_r ?_
            refine thenQ_r ?_
            refine blockQ_r ?_
            refine blockQ_r ?_
            refine thenQ_r ?_
            refine thenQ_r ?_
            refine blockQ_r ?_
            refine thenQ_r ?_
            refine ret1_b rfl ?_
            -- stop: end
            exact ⟨by rw [decide_eq_false (fun hF : FitsAll M f => h5 ((hF i (by omega) k (by omega) hik).2 h3 h4))], hS3⟩
          · refine Cd.skip ?_
            refine blockQ_n ?_
            refine thenQ_n ?_
            refine Cd.region ?_
            refine Ops.mv_int rfl rfl rfl ?_
            refine Ops.add rfl rfl rfl (by omega) ?_
            refine Ops.mv_int rfl rfl rfl ?_
            refine Ops.nil ?_
            refine thenQ_n ?_
            -- stop: round
            exact ⟨k + 1, by omega, ⟨rfl, rfl, rfl, rfl, rfl, trivial⟩, hS3, by omega, good (w' := w) (e' := e) (fun _ _ => Classical.not_not.1 h5)⟩
        · refine Ops.skipg rfl rfl rfl rfl rfl ?_
          refine Ops.skipg rfl rfl rfl rfl rfl ?_
          refine Ops.skipg rfl rfl rfl rfl rfl ?_
          refine Ops.pick_f rfl rfl rfl ?_
          refine Ops.nil ?_
          refine thenQ_n ?_
          -- stop: cond
          refine Cd.cond_f rfl ?_
          refine Cd.skip ?_
          refine blockQ_n ?_
          refine thenQ_n ?_
          refine Cd.region ?_
          refine Ops.mv_int rfl rfl rfl ?_
          refine Ops.add rfl rfl rfl (by omega) ?_
          refine Ops.mv_int rfl rfl rfl ?_
          refine Ops.nil ?_
          refine thenQ_n ?_
          -- stop: round
          exact ⟨k + 1, by omega, ⟨rfl, rfl, rfl, rfl, rfl, trivial⟩, hS3, by omega, good (w' := w) (e' := e) (fun _ h => absurd h h4)⟩
      · refine Ops.skipg rfl rfl rfl rfl rfl ?_
        refine Ops.skipg rfl rfl rfl rfl rfl ?_
        refine Ops.pick_f rfl rfl rfl ?_
        refine Ops.mv_bool rfl rfl rfl ?_
        refine Ops.skipg rfl rfl rfl rfl rfl ?_
        refine Ops.skipg rfl rfl rfl rfl rfl ?_
        refine Ops.skipg rfl rfl rfl rfl rfl ?_
        refine Ops.pick_f rfl rfl rfl ?_
        refine Ops.nil ?_
        refine thenQ_n ?_
        -- stop: cond
        refine Cd.cond_f rfl ?_
        refine Cd.skip ?_
        refine blockQ_n ?_
        refine thenQ_n ?_
        refine Cd.region ?_
        refine Ops.mv_int rfl rfl rfl ?_
        refine Ops.add rfl rfl rfl (by omega) ?_
        refine Ops.mv_int rfl rfl rfl ?_
        refine Ops.nil ?_
        refine thenQ_n ?_
        -- stop: round
        exact ⟨k + 1, by omega, ⟨rfl, rfl, rfl, rfl, rfl, trivial⟩, hS3, by omega, good (w' := w) (e' := e) (fun h => absurd h h3)⟩
    · refine Cd.exit ?_
      refine thenQ_x ?_
      refine thenQ_x ?_
      refine blockQ_x ?_
      refine blockQ_n ?_
      refine thenQ_n ?_
      refine Cd.region ?_
      refine Ops.mv_int rfl rfl rfl ?_
      refine Ops.add rfl rfl rfl (by omega) ?_
      refine Ops.mv_int rfl rfl rfl ?_
      refine Ops.nil ?_
      refine thenQ_n ?_
      -- stop: round
      refine ⟨i + 1, by omega, ⟨rfl, rfl, rfl, rfl, trivial⟩, hS2, by omega, fun i' hi' k' hk' hik' => ?_⟩
      by_cases ei : i' = i
      · subst ei; exact hK k' (by omega) hk' hik'
      · exact hI i' (by omega) k' hk' hik'
  · refine Cd.exit ?_
    refine thenQ_x ?_
    refine thenQ_x ?_
    refine blockQ_x ?_
    refine thenQ_n ?_
    refine Cd.seq ?_
    refine Cd.region ?_
    refine Ops.mv_bool rfl rfl rfl ?_
    refine Ops.nil ?_
    refine thenQ_n ?_
    refine Cd.ret ?_
    refine ret1_b rfl ?_
    -- stop: end
    exact ⟨by rw [decide_eq_true (show FitsAll M f from fun i' hi' k' hk' hik' => hI i' (by omega) k' (by omega) hik')], hS1⟩
end Go.Proofs.Ytgobjpcankaicaa.Vc
/-
  The walk of the reference's search for rooted forms. Conditions: as each states them.
-/
namespace Go.Proofs.Ytgobjpcankaicaa.Vc
open Go.RowKit

theorem perm_mid {α : Type} (a b c : List α) (x : α) : (a ++ (x :: (b ++ c))).Perm (x :: (b ++ (a ++ c))) :=
  List.perm_middle.trans (List.Perm.cons _ (by rw [← List.append_assoc, ← List.append_assoc]; exact List.Perm.append_right c List.perm_append_comm))

theorem perm_four {α : Type} (a b c d : List α) : (a ++ (b ++ (c ++ d))).Perm (b ++ ((c ++ a) ++ d)) := by
  have h1 := List.Perm.append_right (c ++ d) (List.perm_append_comm (l₁ := a) (l₂ := b))
  rw [List.append_assoc, List.append_assoc] at h1
  have h2 := List.Perm.append_right d (List.perm_append_comm (l₁ := a) (l₂ := c))
  rw [List.append_assoc] at h2
  exact h1.trans (List.Perm.append_left _ h2)

/-- known places are passed -/
theorem grow_skip {n F : Nat} {ok : List (List Int) → Nat → Nat → Bool} {fin : List (List Int) → Bool} {M : List (List Int)} {met : Nat} : ∀ (s fuel at_ : Nat), at_ + s ≤ met * n → (∀ a, at_ ≤ a → a < at_ + s → 0 ≤ cell M (a % n) (a / n : Nat)) → grow n F ok fin (fuel + s) at_ met M = grow n F ok fin fuel (at_ + s) met M
  | 0, fuel, at_, _, _ => rfl
  | s + 1, fuel, at_, hle, hk => by
    rw [← Nat.add_assoc]
    show (if _ then _ else _) = _
    rw [if_neg (by omega), if_pos (hk at_ (Nat.le_refl _) (by omega)), grow_skip s fuel (at_ + 1) (by omega) (fun a h1 h2 => hk a (by omega) (by omega))]
    congr 1; omega
theorem Inv.upto {n F : Nat} {M : List (List Int)} {met at_ : Nat} (h : Inv n F M met at_) : ∀ (b : Nat), at_ ≤ b → b ≤ met * n → (∀ a, a < b → 0 ≤ cell M (a % n) (a / n : Nat)) → Inv n F M met b := fun b _ hb hk =>
  ⟨h.shp, h.n0, h.met1, h.metF, h.cells, hk, h.con, hb⟩

/-- what the loop over g has found -/
def body (n F : Nat) (ok : List (List Int) → Nat → Nat → Bool) (fin : List (List Int) → Bool) (k at_ met : Nat) (M : List (List Int)) (g : Nat) : List (List (List Int)) :=
  if 0 ≤ cell M (at_ % n) (g : Nat) then [] else if ok (put M (at_ % n) (at_ / n) g) (at_ % n) (at_ / n) = true then grow n F ok fin k (at_ + 1) (max met (g + 1)) (put M (at_ % n) (at_ / n) g) else []
theorem grow_body {n F : Nat} {ok : List (List Int) → Nat → Nat → Bool} {fin : List (List Int) → Bool} {k at_ met : Nat} {M : List (List Int)} (ha : at_ ≠ met * n) (hk : ¬ 0 ≤ cell M (at_ % n) (at_ / n : Nat)) :
    grow n F ok fin (k + 1) at_ met M = (List.range' (at_ / n + 1) (min met (F - 1) - at_ / n)).flatMap (body n F ok fin k at_ met M) := by
  show (if _ then _ else _) = _
  rw [if_neg ha, if_neg hk]; rfl
theorem range_step {α : Type} (f : Nat → List α) {s c g : Nat} (h1 : s ≤ g) (h2 : g < s + c) : (List.range' s (g + 1 - s)).flatMap f = (List.range' s (g - s)).flatMap f ++ f g := by
  rw [show g + 1 - s = (g - s) + 1 by omega, List.range'_concat, List.flatMap_append]
  simp [show s + (g - s) = g by omega]
theorem range_rest {α : Type} (f : Nat → List α) {s c g : Nat} (h1 : s ≤ g) (h2 : g < s + c) : ((List.range' s (g - s)).flatMap f).length + (f g).length ≤ ((List.range' s c).flatMap f).length := by
  have e : List.range' s c = List.range' s (g + 1 - s) ++ List.range' (g + 1) (c - (g + 1 - s)) := by
    rw [show c = (g + 1 - s) + (c - (g + 1 - s)) by omega, ← List.range'_append_1]
    congr 2 <;> omega
  rw [e, List.flatMap_append, range_step f h1 h2]
  simp only [List.length_append]
  omega
end Go.Proofs.Ytgobjpcankaicaa.Vc
