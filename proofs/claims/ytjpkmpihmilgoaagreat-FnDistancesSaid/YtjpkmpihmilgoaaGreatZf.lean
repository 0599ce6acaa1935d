/-
  The texts D2, C7, Rpl, C8, D3, D4, D5, D8, D9, Cs1, Cs2, Cs3 in one. Conditions: as each part states them.
-/
import Derived.Test.YtjpkmpihmilgoaaGreatLayb
import Derived.Test.YtjpkmpihmilgoaaGreatZe
import Derived.Shelf.SlicesE.Compact
import Derived.Shelf.SlicesE.Delete
import Derived.Test.YtjpkmpihmilgoaaGreatZb
import Derived.Shelf.SortM.SortNone
import Derived.Test.YtjpkmpihmilgoaaGreatZc
/-
 The library's Compact of an ascending list of one's own, and its Delete in a list of lists of one's own; sets as ascending lists. Conditions: as each states them.
-/
namespace Go.Proofs.YtjpkmpihmilgoaaGreat.Vc
open Go.RowKit Go.Sort

/-! what the library leaves in a row of one's own -/
theorem heap_put {α : Type} [Inhabited α] {enc : α → Value} {w : World} {g q off : Nat} {cur : Array Value} {e : TypeId} {fr : Nat × Nat} (d : Array α) (hb : w.heap[g]? = some (.cells cur e fr)) :
    (putRow enc (Sort.ahead w q) g off d).heap[g]? = some (.cells (putCells enc off d cur) e fr) := by
  simp [putRow, mapBlock, Sort.ahead, Array.getElem?_modify, hb, onCells]
theorem grownBy_put {α : Type} [Inhabited α] {enc : α → Value} {w : World} {g q off : Nat} (d : Array α) : GrB w (putRow enc (Sort.ahead w q) g off d) (some g) := by
 refine ⟨⟨rfl, rfl, rfl, by simp [Sort.ahead], fun k hk hne => ?_⟩, Nat.le_add_right _ _⟩
 have : g ≠ k := fun e => hne (by rw [e])
 simp [putRow, mapBlock, Sort.ahead, Array.getElem?_modify, this]
theorem holds_own {α : Type} [Inhabited α] {enc : α → Value} {w : World} {g o : Nat} {cur : Array Value} {e : TypeId} {ds : List α} (hh : w.heap[g]? = some (.cells cur e (0, 0))) (hc : ∀ j, j < ds.length → cur[o + j]? = (ds.map enc)[j]?) : Holds enc w g o ds.toArray := fun j hj => by
 have hj' : j < ds.length := by simpa using hj
 refine ⟨?_, by simp [World.frozen?, hh]⟩
 simp only [World.cell?, hh]
 simp only [Option.isSome_none, Bool.false_eq_true, if_false]
 rw [hc j hj']
 simp [hj']
/-- a row of one's own, laid anew by the library, and cut -/
theorem St.laid {α : Type} [Inhabited α] {enc : α → Value} {w0 w : World} {ks : List Ck} {i : Nat} {k : Ck} {g o q m : Nat} {cur : Array Value} {ds : List α} (hS : St w0 w ks) (hk : ks[i]? = some k) (hA : k.A = some ⟨g, o, Option.none⟩) (hg : w0.heap.size ≤ g) (hh : w.heap[g]? = some (.cells cur k.e (0, 0))) (hs : o + k.c ≤ cur.size) (hm : m ≤ ds.length) (hd : ds.length ≤ k.c) (hc : k.c ≤ maxLen) (he1 : ∀ x, (enc x).oneCell' = true := by intro _; rfl) :
  St w0 (putRow enc (Sort.ahead w q) g o ds.toArray) (ks.set i ⟨k.A, m, k.c, k.e, (ds.take m).map enc⟩) := by
 refine hS.turn hk (by simp [Ck.blk, hA]) (by simp [Ck.blk, hA]) (grownBy_put _) (.ofC (isM_all fun v hv => by obtain ⟨x, _, rfl⟩ := List.mem_map.1 hv; exact he1 x) ⟨by simp; omega, by show m ≤ k.c; omega, hc, .inr ⟨g, o, _, hA, hg, heap_put _ hh, by simp only [putCells, Array.size_mapIdx]; exact hs, fun j hj => ?_⟩⟩)
 have hj : j < m := hj
 show (putCells enc o ds.toArray cur)[o + j]? = ((ds.take m).map enc)[j]?
 have hlt2 : o + j < cur.size := by omega
 have hjd : j < ds.length := by omega
 simp [putCells, hlt2, hjd, List.getElem?_take, hj]

/-! ascending lists without twins -/
def SA (l : List Int) : Prop := l.Pairwise (· < ·)
theorem SA.asc {l : List Int} (h : SA l) : Asc l := h.imp fun h => by omega
theorem SA.nodup {l : List Int} (h : SA l) : l.Nodup := h.imp fun h => by omega
theorem SA.eq {l l' : List Int} (h : SA l) (h' : SA l') (hm : ∀ x, x ∈ l ↔ x ∈ l') : l = l' := asc_unique ((List.perm_ext_iff_of_nodup h.nodup h'.nodup).2 hm) h.asc h'.asc

def cmpL (xs : List Int) : List Int := Lib.compactUpTo xs.toArray xs.toArray.size
theorem arr_gi (xs : List Int) (j : Nat) : xs.toArray[j]! = gi xs (j : Int) := by
 by_cases h : j < xs.length
 ·rw [gi_mem h]; simp [h]
 ·have e : gi xs (j : Int) = 0 := by simp [gi, List.getD_eq_getElem?_getD, List.getElem?_eq_none (Nat.not_lt.1 h)]
  rw [e, getElem!_neg _ _ (by simpa using h)]; rfl
theorem cmpL_eq (xs : List Int) : cmpL xs = ((List.range xs.length).filter fun j : Nat => decide (j = 0 ∨ gi xs (j : Int) ≠ gi xs ((j - 1 : Nat) : Int))).map fun j : Nat => gi xs (j : Int) := by
 unfold cmpL Lib.compactUpTo
 rw [List.size_toArray]
 have e1 : Lib.keeps xs.toArray = fun j : Nat => decide (j = 0 ∨ gi xs (j : Int) ≠ gi xs ((j - 1 : Nat) : Int)) := by
  funext j
  unfold Lib.keeps
  rw [arr_gi, arr_gi]
 rw [e1]
 exact List.map_congr_left fun j _ => arr_gi xs j
theorem cmpL_len (xs : List Int) : (cmpL xs).length ≤ xs.length := by
 rw [cmpL_eq, List.length_map]
 have := List.length_filter_le (fun j : Nat => decide (j = 0 ∨ gi xs (j : Int) ≠ gi xs ((j - 1 : Nat) : Int))) (List.range xs.length)
 rwa [List.length_range] at this
theorem cmpL_mem (xs : List Int) (x : Int) : x ∈ cmpL xs ↔ x ∈ xs := by
 rw [cmpL_eq, List.mem_map]
 constructor
 ·rintro ⟨j, hj, rfl⟩
  have := List.mem_range.1 (List.mem_filter.1 hj).1
  rw [gi_mem this]; exact List.getElem_mem _
 ·intro hx
  obtain ⟨j, hj, hjx⟩ := List.mem_iff_getElem.1 hx
  rw [← gi_mem hj] at hjx
  clear hx
  induction j with
  | zero => exact ⟨0, List.mem_filter.2 ⟨List.mem_range.2 hj, by simp⟩, hjx⟩
  | succ j ih =>
   by_cases h : gi xs ((j + 1 : Nat) : Int) = gi xs ((j : Nat) : Int)
   ·exact ih (by omega) (h ▸ hjx)
   ·exact ⟨j + 1, List.mem_filter.2 ⟨List.mem_range.2 hj, by simp only [Nat.add_sub_cancel, decide_eq_true_eq]; exact .inr h⟩, hjx⟩
theorem cmpL_SA {xs : List Int} (h : Asc xs) : SA (cmpL xs) := by
 have mono : ∀ a b, a ≤ b → b < xs.length → gi xs (a : Int) ≤ gi xs (b : Int) := fun a b hab hb => by
  rw [gi_mem (by omega), gi_mem hb]
  by_cases e : a = b
  ·subst e; exact Int.le_refl _
  ·exact (List.pairwise_iff_getElem.1 h) a b (by omega) hb (by omega)
 rw [cmpL_eq]
 unfold SA
 rw [List.pairwise_map]
 have hr : (List.range xs.length).Pairwise (· < ·) := List.pairwise_lt_range
 refine (hr.filter _).imp_of_mem fun {a b} ha hb hab => ?_
 have hb1 := List.mem_range.1 (List.mem_filter.1 hb).1
 have hb2 := of_decide_eq_true (List.mem_filter.1 hb).2
 have h1 := mono a (b - 1) (by omega) (by omega)
 have h2 := mono (b - 1) b (by omega) hb1
 rcases hb2 with hb2 | hb2
 ·omega
 ·omega
/-- the elements of a list as an ascending list without twins -/
def cs (l : List Int) : List Int := cmpL (srt l)
theorem cs_mem (l : List Int) (x : Int) : x ∈ cs l ↔ x ∈ l := by rw [cs, cmpL_mem]; exact (srt_perm l).mem_iff
theorem cs_SA (l : List Int) : SA (cs l) := cmpL_SA (srt_asc l)
theorem cs_len (l : List Int) : (cs l).length ≤ l.length := by
 have h1 := cmpL_len (srt l)
 rw [(srt_perm l).length_eq] at h1
 exact h1
theorem cs_eq {l l' : List Int} (h : SA l) (hm : ∀ x, x ∈ l ↔ x ∈ l') : l = cs l' := h.eq (cs_SA l') fun x => by rw [hm, cs_mem]
theorem cs_cs (l : List Int) (v : Int) : cs (cs l ++ [v]) = cs (l ++ [v]) := cs_eq (cs_SA _) fun x => by simp [cs_mem]
theorem cs_nil : cs [] = [] := List.eq_nil_of_length_eq_zero (Nat.le_zero.1 (cs_len []))

theorem compact_c {w0 w : World} {ks : List Ck} (i : Nat) {t : TypeId} {A : Option Addr} {n c : Nat} {xs : List Int} (hS : St w0 w ks) (hk : ks[i]? = some (CkI t A n c xs)) (h0 : 0 < n) (hn : n ≤ 1000000000) :
  Ret Tryz.prog 129 [.slice A n c] w (fun v w' => v = .slice A (cmpL xs).length c ∧ St w0 w' (ks.set i (CkI t A (cmpL xs).length c (cmpL xs)))) := by
 obtain ⟨h1, h2, h3, h4⟩ := hS.getC hk (isM_I _)
 have hl : xs.length = n := hS.lenI i hk
 have h2 : n ≤ c := h2
 have h3 : c ≤ maxLen := h3
 rcases h4 with ⟨_, hc0⟩ | ⟨g, o, cur, hA, hg, hh, hs, hc⟩
 ·have hc0 : c = 0 := hc0
  omega
 have hA : A = some ⟨g, o, none⟩ := hA
 have hs : o + c ≤ cur.size := hs
 have hc : ∀ j, j < n → cur[o + j]? = (xs.map (Value.int .i64))[j]? := hc
 subst hA
 subst hl
 have key := AnyE.slices_Compact lcomp (Value.int .i64) (fun _ => rfl) (EqlAt.intD _ _ .i64) (NeqAt.intD _ _ .i64) (0 : Int) (fun w => Tryz.zeroValue2 w) g o c xs.toArray w (holds_own hh hc) (by simp; omega) (by simpa using h2)
 refine Calls.mono key fun x w' ⟨hx, q, hw⟩ => ⟨_, hx, rfl, ?_⟩
 subst hw
 have hle := cmpL_len xs
 have h := hS.laid (q := q) (m := (cmpL xs).length) (enc := Value.int .i64) (ds := cmpL xs ++ List.replicate (xs.toArray.size - (cmpL xs).length) 0) hk rfl hg hh hs (by simp) (by simp; show _ ≤ c; omega) h3
 rw [List.take_append_of_le_length (Nat.le_refl _), List.take_length] at h
 exact h

instance : Inhabited SlV := ⟨slNil⟩
theorem delete_c {w0 w : World} {ks : List Ck} (i : Nat) {t : TypeId} {A : Option Addr} {n c a b : Nat} {xs : List SlV} (hS : St w0 w ks) (hk : ks[i]? = some (CkR t A n c xs)) (h0 : 0 < n) (hn : n ≤ 1000000000) (hab : a ≤ b) (hb : b ≤ n) :
  Ret Tryz.prog 165 [.slice A n c, .int .i64 (a : Int), .int .i64 (b : Int)] w (fun v w' => v = .slice A (n - (b - a)) c ∧ St w0 w' (ks.set i (CkR t A (n - (b - a)) c (xs.take a ++ xs.drop b)))) := by
 obtain ⟨h1, h2, h3, h4⟩ := hS.getC hk (isM_R _)
 have hl : xs.length = n := (hS.rdR i hk).1
 have h2 : n ≤ c := h2
 have h3 : c ≤ maxLen := h3
 rcases h4 with ⟨_, hc0⟩ | ⟨g, o, cur, hA, hg, hh, hs, hc⟩
 ·have hc0 : c = 0 := hc0
  omega
 have hA : A = some ⟨g, o, none⟩ := hA
 have hs : o + c ≤ cur.size := hs
 have hc : ∀ j, j < n → cur[o + j]? = (xs.map SlV.v)[j]? := hc
 subst hA
 subst hl
 obtain ⟨i0, hi0, _, hz1, _⟩ := Inf.get Tryz.prog 34
 have key := AnyE.slices_Delete ldel SlV.v (fun _ => rfl) slNil (fun w => Tryz.zeroValue34 w) i0 hi0 hz1 g o c a b xs.toArray w (holds_own hh hc) (by simpa using h2) (by simpa [maxLen] using h3) hab (by simpa using hb)
 refine Calls.mono key fun x w' ⟨hx, q, hw⟩ => ⟨_, hx, by simp, ?_⟩
 subst hw
 have h := hS.laid (q := q) (m := xs.length - (b - a)) (enc := SlV.v) (ds := xs.toArray.toList.take a ++ xs.toArray.toList.drop b ++ List.replicate (b - a) slNil) hk rfl hg hh hs (by simp; omega) (by simp; omega) h3
 have e1 : (xs.toArray.toList.take a ++ xs.toArray.toList.drop b ++ List.replicate (b - a) slNil).take (xs.length - (b - a)) = xs.take a ++ xs.drop b := by
  have e2 : (xs.take a ++ xs.drop b).length = xs.length - (b - a) := by simp; omega
  show (xs.take a ++ xs.drop b ++ List.replicate (b - a) slNil).take _ = _
  rw [← e2, List.take_append_of_le_length (Nat.le_refl _), List.take_length]
 rw [e1] at h
 exact h
end Go.Proofs.YtjpkmpihmilgoaaGreat.Vc
/-
 The walk of the law FnExactPetrieCycles: it returns true. Conditions: as it states them.
-/
namespace Go.Proofs.YtjpkmpihmilgoaaGreat.Vc
open Go.RowKit

end Go.Proofs.YtjpkmpihmilgoaaGreat.Vc
/-
 The walk of slices.Repeat at a list of some numbers. Conditions: as it states them.
-/
namespace Go.Proofs.YtjpkmpihmilgoaaGreat.Vc
open Go.RowKit

/-- n copies of a list, one behind the other -/
def pow (xs : List Int) (n : Nat) : List Int := (List.replicate n xs).flatten
theorem pow_succ (xs : List Int) (n : Nat) : pow xs (n + 1) = pow xs n ++ xs := by simp [pow, List.replicate_succ']
theorem pow_succ' (xs : List Int) (n : Nat) : pow xs (n + 1) = xs ++ pow xs n := by simp [pow, List.replicate_succ]
/-- what a part of the copies looks like -/
def part (T : List Int) (m : Nat) : List Int := T.take m ++ List.replicate (T.length - m) 0
end Go.Proofs.YtjpkmpihmilgoaaGreat.Vc
/-
 The walks of holes and zigzags on both sides. Conditions: as each states them.
-/
namespace Go.Proofs.YtjpkmpihmilgoaaGreat.Vc
open Go.RowKit

/-- the code of holes and zigzags -/
def holeK (xss : List (List Int)) (j : Int) : Int := if ¬ Grph xss then 1 else if ¬ (1 ≤ j ∧ j ≤ 16) then 2 else if ¬ xss.length = 3 then 5 else 0
theorem l11Power_c (A : Option Addr) (a c : Nat) (xs : List Int) (n : Nat) (w : World) (hR : RdI w A a xs) (ha : a ≤ 1000) (hn : n ≤ 1000) :
  Ret Tryz.prog 78 [.slice A a c, .int .i64 (n : Int)] w (fun v w' => ∃ A' c', v = .slice A' (a * n) c' ∧ St w w' [CkI 2 A' (a * n) c' (pow xs n)]) := by
 have hxl := hR.1
 refine Ret.of_cd Tryz.func78 rfl Tryz.ntmps78 rfl (post1 rfl) ?_
 refine Cd.seq ?_
 refine Cd.region ?_
 refine Ops.mv_sl rfl rfl rfl ?_
 refine Ops.nil ?_
 refine thenQ_n ?_
 refine Cd.seq ?_
 refine Cd.region ?_
 refine Ops.bs0 (St.refl w) rfl ?_
 intro A5 w1 hS1
 have hS1 : St w w1 [CkI 2 A5 (a * 0) 0 (pow xs 0)] := hS1
 refine Ops.mv_sl rfl rfl rfl ?_
 refine Ops.nil ?_
 refine thenQ_n ?_
 refine Cd.seq ?_
 refine Cd.block ?_
 refine Cd.loop (α := Nat × Option Addr × Nat) (fun z => [(0, .slice A a c), (1, .int .i64 ((n : Int) - (z.1 : Int))), (5, .slice z.2.1 (a * z.1) z.2.2)]) (fun z w' => St w w' [CkI 2 z.2.1 (a * z.1) z.2.2 (pow xs z.1)] ∧ z.1 ≤ n) (fun z => n - z.1) (0, A5, 0) ⟨rfl, by show Value.int .i64 _ = .int .i64 _; simp, rfl, trivial⟩ ⟨hS1, Nat.zero_le _⟩ ?_
 rintro ⟨k, A6, c6⟩ e w2 ⟨hS2, hk⟩
 dsimp only at hS2 hk ⊢
 have hb2 : a * k ≤ 1000000 := Nat.mul_le_mul ha (show k ≤ 1000 by omega)
 refine Cd.seq ?_
 refine Cd.seq ?_
 refine Cd.region ?_
 refine Ops.mv_int rfl rfl rfl ?_
 refine Ops.gtr rfl rfl rfl ?_
 refine Ops.nil ?_
 refine thenQ_n ?_
 refine Cd.cond_p _ rfl (fun h1 => ?_) (fun h1 => ?_)
 ·refine Cd.skip ?_
  refine thenQ_n ?_
  refine Cd.seq ?_
  refine Cd.block ?_
  refine Cd.region ?_
  refine Ops.mv_sl rfl rfl rfl ?_
  refine Ops.mv_sl rfl rfl rfl ?_
  refine Ops.appI 0 hS2 rfl (hS2.oldI hR) rfl rfl rfl (by omega) (by omega) rfl ?_
  intro A7 c7 w3 hS3
  refine Ops.mv_sl rfl rfl rfl ?_
  refine Ops.nil ?_
  refine blockQ_n ?_
  refine thenQ_n ?_
  refine Cd.region ?_
  refine Ops.mv_int rfl rfl rfl ?_
  refine Ops.sub rfl rfl rfl (by omega) ?_
  refine Ops.mv_int rfl rfl rfl ?_
  refine Ops.nil ?_
  refine thenQ_n ?_
  have e1 : a * (k + 1) = a * k + a := Nat.mul_succ a k
  refine ⟨(k + 1, A7, c7), by show n - (k + 1) < n - k; omega, ⟨rfl, by show Value.int .i64 _ = .int .i64 _; congr 1; show _ = (n : Int) - ((k + 1 : Nat) : Int); omega, by show Value.slice _ _ _ = .slice _ _ _; rw [e1], trivial⟩, ?_, by show k + 1 ≤ n; omega⟩
  show St w w3 [CkI _ A7 (a * (k + 1)) c7 (pow xs (k + 1))]
  rw [e1, pow_succ]
  exact hS3
 ·refine Cd.exit ?_
  refine thenQ_x ?_
  refine thenQ_x ?_
  refine blockQ_x ?_
  refine thenQ_n ?_
  refine Cd.seq ?_
  refine Cd.region ?_
  refine Ops.mv_sl rfl rfl rfl ?_
  refine Ops.mv_sl rfl rfl rfl ?_
  refine Ops.nil ?_
  refine thenQ_n ?_
  refine Cd.ret ?_
  refine ret1_s rfl ?_
  have hkn : k = n := by omega
  subst hkn
  exact ⟨A6, c6, rfl, hS2⟩

def zigW (n : Nat) : List Int := [0] ++ pow [1, 2] n
def holeW (n : Nat) : List Int := zigW n ++ [1]
end Go.Proofs.YtjpkmpihmilgoaaGreat.Vc
/-
 Faces on the program's side; the ends of edges on the reference's. Conditions: as each states them.
-/
namespace Go.Proofs.YtjpkmpihmilgoaaGreat.Vc
open Go.RowKit

theorem CloneR_c (A : Option Addr) (n c : Nat) (rs : List SlV) (w : World) (hR : RdR w A n rs) (hn : n ≤ 1000000) (h0 : 0 < n) : Ret Tryz.prog 166 [.slice A n c] w (fun v w' => ∃ A' c', v = .slice A' n c' ∧ St w w' [CkR 34 A' n c' rs]) := by
 cases hA : A with
 | none =>
  subst hA
  obtain ⟨p, hp, _⟩ := hR.2 0 h0
  simp [ptrAt] at hp
 | some a =>
  subst hA
  refine Ret.of_cd Tryz.func166 rfl Tryz.ntmps166 rfl (post1 rfl) ?_
  refine Cd.seq ?_
  refine Cd.region ?_
  refine Ops.mv_sl rfl rfl rfl ?_
  refine Ops.nil ?_
  refine thenQ_n ?_
  refine Cd.seq ?_
  refine Cd.seq ?_
  refine Cd.region ?_
  refine Ops.mv_sl rfl rfl rfl ?_
  refine Ops.eqNil rfl rfl rfl ?_
  refine Ops.nil ?_
  refine thenQ_n ?_
  refine Cd.cond_f rfl ?_
  refine Cd.skip ?_
  refine thenQ_n ?_
  refine Cd.seq ?_
  refine Cd.region ?_
  refine Ops.bs0 (St.refl w) rfl ?_
  intro A1 w1 hS1
  have hS1 : St w w1 [CkR 34 A1 0 0 []] := hS1
  refine Ops.mv_sl rfl rfl rfl ?_
  refine Ops.appR 0 hS1 rfl (hS1.oldR hR) rfl rfl rfl (by omega) (by omega) rfl ?_
  intro A2 c2 w2 hS2
  rw [Nat.zero_add] at hS2 ⊢
  refine Ops.mv_sl rfl rfl rfl ?_
  refine Ops.nil ?_
  refine thenQ_n ?_
  refine Cd.ret ?_
  refine ret1_s rfl ?_
  exact ⟨A2, c2, rfl, hS2⟩

theorem without_c (Ab A : Option Addr) (n c : Nat) (rs : List SlV) (xss : List (List Int)) (i : Nat) (w : World) (hB : Rd w Ab 1 (fun _ => .slice A n c)) (hR : RowsI w A n rs xss) (hn : n ≤ 1000) (hi : i < n) :
  Ret Tryz.prog 123 [.pointer Ab, .int .i64 (i : Int)] w (fun v w' => ∃ A' c', v = .slice A' (n - 1) c' ∧ St w w' [CkR 34 A' (n - 1) c' (rs.eraseIdx i)]) := by
 refine Ret.of_cd Tryz.func123 rfl Tryz.ntmps123 rfl (post1 rfl) ?_
 refine Cd.seq ?_
 refine Cd.region ?_
 refine Ops.mv_sl rfl rfl rfl ?_
 refine Ops.nil ?_
 refine thenQ_n ?_
 refine Cd.seq ?_
 refine Cd.region ?_
 refine Ops.mv_ptr rfl rfl rfl ?_
 refine Ops.nilp hB (by decide) rfl rfl ?_
 refine Ops.fld hB rfl rfl rfl rfl inferInstance ?_
 refine Ops.ldf_s hB rfl rfl rfl rfl rfl ?_
 refine Ops.call (CloneR_c A n c rs _ hR.top (by omega) (by omega)) rfl rfl rfl ?_
 rintro _ w1 ⟨A1, c1, rfl, hS1⟩
 refine Ops.mv_int rfl rfl rfl ?_
 refine Ops.mv_int rfl rfl rfl ?_
 refine Ops.add rfl rfl rfl (by omega) ?_
 have hi1 : ((i : Int) + 1) = ((i + 1 : Nat) : Int) := by omega
 rw [hi1]
 refine Ops.call (delete_c 0 hS1 rfl (by omega) (by omega) (show i ≤ i + 1 by omega) (by omega)) rfl rfl rfl ?_
 rintro _ w2 ⟨rfl, hS2⟩
 refine Ops.mv_sl rfl rfl rfl ?_
 refine Ops.nil ?_
 refine thenQ_n ?_
 refine Cd.ret ?_
 refine ret1_s rfl ?_
 have e : n - (i + 1 - i) = n - 1 := by omega
 rw [e]
 rw [e, ← List.eraseIdx_eq_take_drop_succ] at hS2
 exact ⟨A1, c1, rfl, hS2⟩

theorem faces_c (Ab A : Option Addr) (n c : Nat) (rs : List SlV) (xss : List (List Int)) (i : Nat) (w : World) (hB : Rd w Ab 1 (fun _ => .slice A n c)) (hR : RowsI w A n rs xss) (hM : Mani xss) (hi : i < n) :
  Ret Tryz.prog 106 [.pointer Ab, .int .i64 (i : Int)] w (fun v w' => ∃ A', v = .tuple #[.slice A' (gl xss 0).length (gl xss 0).length, .int .i64 (facesN xss i)] ∧ St w w' [CkI 2 A' (gl xss 0).length (gl xss 0).length (facesL xss i)]) := by
 have hl := hR.len
 have h1 := hM.1
 have h2 := hM.2.1
 have e0 : (rg rs 0).n = (gl xss 0).length := (hR.rowLen (by omega) (by omega)).symm
 refine Ret.of_cd Tryz.func106 rfl Tryz.ntmps106 rfl (post2 rfl) ?_
 refine Cd.seq ?_
 refine Cd.region ?_
 refine Ops.mv_sl rfl rfl rfl ?_
 refine Ops.mv_int rfl rfl rfl ?_
 refine Ops.nil ?_
 refine thenQ_n ?_
 refine Cd.seq ?_
 refine Cd.region ?_
 refine Ops.mv_ptr rfl rfl rfl ?_
 refine Ops.call (flags_c Ab A n c rs xss _ w hB rfl hR (by omega)) rfl rfl rfl ?_
 rintro _ w ⟨rfl, rfl⟩
 rw [e0]
 refine Ops.mv_ptr rfl rfl rfl ?_
 refine Ops.mv_int rfl rfl rfl ?_
 refine Ops.call (without_c Ab A n c rs xss i _ hB hR (by omega) hi) rfl rfl rfl ?_
 rintro _ w1 ⟨A1, c1, rfl, hS1⟩
 refine Ops.call (orbitLabels_c A1 (n - 1) c1 (rs.eraseIdx i) (xss.eraseIdx i) (gl xss 0).length _ ((hS1.oldRows hR).erase hi (hS1.rdR 0 rfl)) (by omega) (hM.2.2.1.sys.erase i) (hM.2.2.1.inj.erase i) (by omega)) rfl rfl rfl ?_
 rintro _ w2 ⟨A2, rfl, hst⟩
 have hS2 := hS1.call hst
 refine Ops.extract rfl rfl rfl ?_
 refine Ops.extract rfl rfl rfl ?_
 refine Ops.mv_sl rfl rfl rfl ?_
 refine Ops.mv_int rfl rfl rfl ?_
 refine Ops.nil ?_
 refine thenQ_n ?_
 refine Cd.ret ?_
 refine ret2_si rfl rfl ?_
 exact ⟨A2, rfl, hS2.sub (List.Sublist.cons_cons _ (List.nil_sublist _))⟩

theorem put_cs {xs : List Int} {a : Nat} {v : Int} (h : SA xs) (hv : v ∉ xs) (ha : a ≤ xs.length) (hl : ∀ j : Nat, j < a → gi xs (j : Int) < v) (hg : a < xs.length → v ≤ gi xs (a : Int)) : xs.take a ++ (v :: xs.drop a) = cs (xs ++ [v]) := by
 have hp : (xs.take a ++ (v :: xs.drop a)).Perm (xs ++ [v]) := put_perm
 refine cs_eq ?_ fun x => hp.mem_iff
 have h1 := asc_put h.asc ha hl hg
 have h2 : (xs.take a ++ (v :: xs.drop a)).Nodup := hp.nodup_iff.2 (by
  rw [List.nodup_append]
  refine ⟨h.nodup, by simp, fun x hx y hy e => ?_⟩
  simp at hy
  subst hy
  exact hv (e ▸ hx))
 exact (List.Pairwise.and h1 h2).imp fun h => by have := h.1; have := h.2; omega

theorem l13Insert_c (A : Option Addr) (n c : Nat) (xs : List Int) (v : Int) (w : World) (hR : RdI w A n xs) (hc : n ≤ c) (hn : n ≤ 1000000) (hs : SA xs) (hv : v ∉ xs) :
    Ret Tryz.prog 170 [.slice A n c, .int .i64 v] w (fun r w' => ∃ A' c', r = .slice A' (cs (xs ++ [v])).length c' ∧ St w w' [CkI 2 A' (cs (xs ++ [v])).length c' (cs (xs ++ [v]))]) := by
  have hxl := hR.1
  refine Ret.of_cd Tryz.func170 rfl Tryz.ntmps170 rfl (post1 rfl) ?_
  refine Cd.seq ?_
  refine Cd.region ?_
  refine Ops.mv_sl rfl rfl rfl ?_
  refine Ops.nil ?_
  refine thenQ_n ?_
  refine Cd.seq ?_
  refine Cd.region ?_
  refine Ops.mv_int rfl rfl rfl ?_
  refine Ops.nil ?_
  refine thenQ_n ?_
  refine Cd.join (α := Nat) (fun a => [(0, .slice A n c), (1, .int .i64 v), (5, .int .i64 (a : Int))])
    (fun a w' => w' = w ∧ a ≤ xs.length ∧ (∀ j : Nat, j < a → gi xs (j : Int) < v) ∧ (a < xs.length → v ≤ gi xs (a : Int))) ?_ ?_
  · refine Cd.block ?_
    refine Cd.loop (α := Nat) (fun a => [(0, .slice A n c), (1, .int .i64 v), (5, .int .i64 (a : Int))]) (fun a w' => w' = w ∧ a ≤ xs.length ∧ ∀ j : Nat, j < a → gi xs (j : Int) < v) (fun a => xs.length - a) 0 ⟨rfl, rfl, rfl, trivial⟩ ⟨rfl, Nat.zero_le _, fun j hj => by omega⟩ ?_
    rintro a e w ⟨rfl, ha, hlt⟩
    refine Cd.seq ?_
    refine Cd.seq ?_
    refine Cd.region ?_
    refine Ops.mv_int rfl rfl rfl ?_
    refine Ops.mv_sl rfl rfl rfl ?_
    refine Ops.len rfl rfl ?_
    refine Ops.lss rfl rfl rfl ?_
    refine Ops.mv_bool rfl rfl rfl ?_
    refine Ops.split_p 11 rfl (fun h4 => ?_) (fun h4 => ?_)
    · refine Ops.rung rfl rfl rfl ?_
      refine Ops.mv_sl rfl rfl rfl ?_
      refine Ops.rung rfl rfl rfl ?_
      refine Ops.mv_int rfl rfl rfl ?_
      refine Ops.rung rfl rfl rfl ?_
      refine Ops.idx hR.2 rfl rfl rfl (by omega) (by omega) ?_
      refine Ops.rung rfl rfl rfl ?_
      refine Ops.ld_int hR rfl (by omega) rfl rfl ?_
      refine Ops.rung rfl rfl rfl ?_
      refine Ops.mv_int rfl rfl rfl ?_
      refine Ops.rung rfl rfl rfl ?_
      refine Ops.lss rfl rfl rfl ?_
      refine Ops.pick_t rfl rfl rfl ?_
      refine Ops.nil ?_
      refine thenQ_n ?_
      refine Cd.cond_p _ rfl (fun h5 => ?_) (fun h5 => ?_)
      · refine Cd.skip ?_
        refine thenQ_n ?_
        refine Cd.block ?_
        refine Cd.region ?_
        refine Ops.mv_int rfl rfl rfl ?_
        refine Ops.add rfl rfl rfl (by omega) ?_
        refine Ops.mv_int rfl rfl rfl ?_
        refine Ops.nil ?_
        refine blockQ_n ?_
        refine thenQ_n ?_
        refine ⟨a + 1, by show xs.length - (a + 1) < xs.length - a; omega, ⟨rfl, rfl, rfl, trivial⟩, rfl, by omega, fun j hj => ?_⟩
        by_cases ej : j = a
        · subst ej; exact h5
        · exact hlt j (by omega)
      · refine Cd.exit ?_
        refine thenQ_x ?_
        refine thenQ_x ?_
        refine blockQ_x ?_
        refine thenQ_n ?_
        exact ⟨a, ⟨rfl, rfl, rfl, trivial⟩, rfl, ha, hlt, fun _ => by omega⟩
    · refine Ops.skipg rfl rfl rfl rfl rfl ?_
      refine Ops.skipg rfl rfl rfl rfl rfl ?_
      refine Ops.skipg rfl rfl rfl rfl rfl ?_
      refine Ops.skipg rfl rfl rfl rfl rfl ?_
      refine Ops.skipg rfl rfl rfl rfl rfl ?_
      refine Ops.skipg rfl rfl rfl rfl rfl ?_
      refine Ops.pick_f rfl rfl rfl ?_
      refine Ops.nil ?_
      refine thenQ_n ?_
      refine Cd.cond_f rfl ?_
      refine Cd.exit ?_
      refine thenQ_x ?_
      refine thenQ_x ?_
      refine blockQ_x ?_
      refine thenQ_n ?_
      exact ⟨a, ⟨rfl, rfl, rfl, trivial⟩, rfl, ha, hlt, fun h => absurd h (by omega)⟩
  · rintro a e w ⟨rfl, ha, hlt, hge⟩
    have hput := put_cs hs hv ha hlt hge
    refine Cd.seq ?_
    refine Cd.region ?_
    refine Ops.mv_int rfl rfl rfl ?_
    refine Ops.bs1I (St.refl w) rfl rfl rfl ?_
    intro A7 w7 hS7
    refine Ops.mv_sl rfl rfl rfl ?_
    refine Ops.mv_int rfl rfl rfl ?_
    refine Ops.cut_l rfl rfl rfl (by omega) ?_
    refine Ops.appI 0 hS7 rfl ((hS7.oldI hR).drop (l := a) (by omega) hc) rfl rfl rfl (by omega) (by omega) rfl ?_
    intro A8 c8 w8 hS8
    refine Ops.mv_sl rfl rfl rfl ?_
    refine Ops.nil ?_
    refine thenQ_n ?_
    refine Cd.seq ?_
    refine Cd.region ?_
    refine Ops.bs0 hS8 rfl ?_
    intro A9 w9 hS9
    have hS9 : St w w9 (CkI 2 A9 0 0 [] :: CkI 2 A8 (1 + (n - a)) c8 ([v] ++ xs.drop a) :: []) := hS9
    refine Ops.mv_sl rfl rfl rfl ?_
    refine Ops.mv_int rfl rfl rfl ?_
    refine Ops.cut_h rfl rfl rfl (by omega) ?_
    refine Ops.appI 0 hS9 rfl ((hS9.oldI hR).take (l := a) (by omega)) rfl rfl rfl (by omega) (by omega) rfl ?_
    intro A10 c10 w10 hS10
    refine Ops.mv_sl rfl rfl rfl ?_
    refine Ops.appI 0 hS10 rfl (hS10.rdI 1 rfl) rfl rfl rfl (by omega) (by omega) rfl ?_
    intro A11 c11 w11 hS11
    refine Ops.mv_sl rfl rfl rfl ?_
    refine Ops.nil ?_
    refine thenQ_n ?_
    refine Cd.ret ?_
    refine ret1_s rfl ?_
    have hS11 : St w w11 (CkI 2 A11 (0 + a + (1 + (n - a))) c11 (([] ++ xs.take a) ++ ([v] ++ xs.drop a)) :: CkI 2 A8 (1 + (n - a)) c8 ([v] ++ xs.drop a) :: []) := hS11
    have hS12 := hS11.sub (List.Sublist.cons_cons _ (List.nil_sublist _))
    rw [List.nil_append, List.singleton_append, hput] at hS12
    have hlen' : (cs (xs ++ [v])).length = 0 + a + (1 + (n - a)) := by rw [← hput]; simp; omega
    exact ⟨A11, c11, by rw [hlen'], by rw [hlen']; exact hS12⟩

theorem l17Insert_c (A : Option Addr) (n c : Nat) (xs : List Int) (v : Int) (w : World) (hR : RdI w A n xs) (hc : n ≤ c) (hn : n ≤ 1000000) (hs : SA xs) :
  Ret Tryz.prog 127 [.slice A n c, .int .i64 v] w (fun r w' => ∃ A' c', r = .slice A' (cs (xs ++ [v])).length c' ∧ Below w.heap.size w w' ∧ ((A' = A ∧ c' = c ∧ cs (xs ++ [v]) = xs) ∨ St w w' [CkI 2 A' (cs (xs ++ [v])).length c' (cs (xs ++ [v]))])) := by
 have hxl := hR.1
 refine Ret.of_cd Tryz.func127 rfl Tryz.ntmps127 rfl (post1 rfl) ?_
 refine Cd.seq ?_
 refine Cd.region ?_
 refine Ops.mv_sl rfl rfl rfl ?_
 refine Ops.nil ?_
 refine thenQ_n ?_
 refine Cd.seq ?_
 refine Cd.seq ?_
 refine Cd.region ?_
 refine Ops.mv_sl rfl rfl rfl ?_
 refine Ops.mv_int rfl rfl rfl ?_
 refine Ops.call (l01Has_c A n c xs v w hR (by omega)) rfl rfl rfl ?_
 rintro _ w ⟨rfl, rfl⟩
 refine Ops.nil ?_
 refine thenQ_n ?_
 refine Cd.cond_p _ rfl (fun h => ?_) (fun h => ?_)
 ·have e : cs (xs ++ [v]) = xs := (cs_eq hs fun x => by
   simp only [List.mem_append, List.mem_singleton]
   exact ⟨.inl, fun h2 => h2.elim id fun e => e ▸ h⟩).symm
  refine Cd.seq ?_
  refine Cd.region ?_
  refine Ops.mv_sl rfl rfl rfl ?_
  refine Ops.mv_sl rfl rfl rfl ?_
  refine Ops.nil ?_
  refine thenQ_n ?_
  refine Cd.ret ?_
  refine thenQ_r ?_
  refine ret1_s rfl ?_
  exact ⟨A, c, by rw [e, hxl], Below.refl _ _, .inl ⟨rfl, rfl, e⟩⟩
 ·refine Cd.skip ?_
  refine thenQ_n ?_
  refine Cd.seq ?_
  refine Cd.region ?_
  refine Ops.mv_sl rfl rfl rfl ?_
  refine Ops.mv_int rfl rfl rfl ?_
  refine Ops.call (l13Insert_c A n c xs v w hR hc hn hs h) rfl rfl rfl ?_
  rintro _ w1 ⟨A1, c1, rfl, hst⟩
  refine Ops.mv_sl rfl rfl rfl ?_
  refine Ops.nil ?_
  refine thenQ_n ?_
  refine Cd.ret ?_
  refine ret1_s rfl ?_
  exact ⟨A1, c1, rfl, hst.below, .inr hst⟩

/-! rows put anew -/
theorem cons_set_perm : ∀ (l : List Ck) (i : Nat) (x y : Ck), l[i]? = some y → (x :: l).Perm (y :: l.set i x)
 | [], i, x, y, h => by simp at h
 | u :: l, 0, x, y, h => by simp at h; subst h; exact List.Perm.swap _ _ _
 | u :: l, i + 1, x, y, h => by
  simp only [List.getElem?_cons_succ] at h
  simp only [List.set_cons_succ]
  exact (List.Perm.swap _ _ _).trans (((cons_set_perm l i x y h).cons u).trans (List.Perm.swap _ _ _))
theorem St.anew {w0 w : World} {ks : List Ck} {i : Nat} {k y : Ck} (h : St w0 w (k :: ks)) (hy : ks[i]? = some y) : St w0 w (ks.set i k) := (h.perm (cons_set_perm ks i k y hy)).tail
theorem St.insRow {w2 w1 w9 : World} {ks : List Ck} {i : Nat} {t : TypeId} {A A1 : Option Addr} {n c c1 : Nat} {xs ys : List Int} (h : St w2 w1 ks) (hk : ks[i]? = some (CkI t A n c xs)) (hbl : Below w1.heap.size w1 w9) (hor : (A1 = A ∧ c1 = c ∧ ys = xs) ∨ St w1 w9 [CkI t A1 ys.length c1 ys]) : St w2 w9 (ks.set i (CkI t A1 ys.length c1 ys)) := by
 rcases hor with ⟨rfl, rfl, rfl⟩ | hst
 ·have hl := h.lenI i hk
  rw [hl, set_id hk]
  exact h.later hbl
 ·exact (h.call hst).anew hk
theorem rowsCk_upd {t : TypeId} : ∀ {rs : List SlV} {xss : List (List Int)} {i : Nat} {s : SlV} {xs : List Int}, rs.length = xss.length → (rowsCk t rs xss).set i (CkI t s.a s.n s.c xs) = rowsCk t (rs.set i s) (xss.set i xs)
 | [], [], _, _, _, _ => rfl
 | [], _ :: _, _, _, _, h => by simp at h
 | _ :: _, [], _, _, _, h => by simp at h
 | r :: rs, x :: xss, 0, s, xs, _ => rfl
 | r :: rs, x :: xss, i + 1, s, xs, h => by
  have := rowsCk_upd (t := t) (rs := rs) (xss := xss) (i := i) (s := s) (xs := xs) (by simpa using h)
  simpa [rowsCk] using this
theorem mat_upd {t1 t2 : TypeId} {A : Option Addr} {n c : Nat} {rs : List SlV} {xss : List (List Int)} {i : Nat} {s : SlV} {xs : List Int} (hr : rs.length = xss.length) (hi : i < rs.length) : CkR t1 A n c (rs.set i s) :: (rowsCk t2 rs xss ++ []).set i (CkI t2 s.a s.n s.c xs) = mat t1 t2 A n c (rs.set i s) (xss.set i xs) ++ [] := by
 rw [List.append_nil, List.append_nil, rowsCk_upd hr]; rfl
theorem nilRows {w0 w : World} {t : TypeId} : ∀ (n : Nat) {ks : List Ck}, St w0 w ks → St w0 w (ks ++ rowsCk t (List.replicate n slNil) (List.replicate n []))
 | 0, ks, h => by show St w0 w (ks ++ []); rwa [List.append_nil]
 | n + 1, ks, h => by
  have h1 := nilRows (t := t) n h
  have h2 := h1.nil t
  exact h2.perm (List.perm_middle.symm)
end Go.Proofs.YtjpkmpihmilgoaaGreat.Vc
/-
 The ends of edges on both sides. Conditions: as each states them.
-/
namespace Go.Proofs.YtjpkmpihmilgoaaGreat.Vc
open Go.RowKit

/-- what is put for f flags, with twins: for each edge the vertices, as they come -/
def bag (Vl El : List Int) (m : Nat) : Nat → List (List Int)
 | 0 => List.replicate m []
 | f + 1 => (bag Vl El m f).set (gi El f).toNat (gl (bag Vl El m f) (gi El f) ++ [gi Vl f])
theorem bag_len (Vl El : List Int) (m : Nat) : ∀ f, (bag Vl El m f).length = m
 | 0 => by simp [bag]
 | f + 1 => by rw [bag, List.length_set, bag_len Vl El m f]
theorem gl_set2 {L : List (List Int)} {i : Nat} {l : List Int} (e : Int) (he : 0 ≤ e) (hi : i < L.length) : gl (L.set i l) e = if (i : Int) = e then l else gl L e := by
 obtain ⟨j, rfl⟩ : ∃ j : Nat, e = j := ⟨e.toNat, by omega⟩
 simp only [gl, Int.toNat_natCast, List.getD_eq_getElem?_getD, List.getElem?_set]
 by_cases h : i = j
 ·subst h; rw [if_pos rfl, if_pos rfl, if_pos hi]; rfl
 ·rw [if_neg h, if_neg (by omega)]
theorem bag_row {Vl El : List Int} {m : Nat} : ∀ f, (∀ k : Nat, k < f → 0 ≤ gi El k ∧ gi El k < m) → ∀ e : Int, 0 ≤ e → (gl (bag Vl El m f) e).length ≤ f
 | 0, _, e, he => by
  show (gl (List.replicate m []) e).length ≤ 0
  simp only [gl, List.getD_eq_getElem?_getD, List.getElem?_replicate]
  split <;> simp
 | f + 1, h, e, he => by
  have ih := bag_row (Vl := Vl) f (fun k hk => h k (by omega))
  have hf := h f (by omega)
  rw [bag, gl_set2 e he (by rw [bag_len]; omega)]
  split
  ·have := ih (gi El f) hf.1
   simp; omega
  ·have := ih e he; omega
/-- the same as ascending lists without twins -/
def ends (Vl El : List Int) (m f : Nat) : List (List Int) := (bag Vl El m f).map cs
theorem ends_len (Vl El : List Int) (m f : Nat) : (ends Vl El m f).length = m := by rw [ends, List.length_map, bag_len]
theorem gl_ends (Vl El : List Int) (m f : Nat) (e : Int) : gl (ends Vl El m f) e = cs (gl (bag Vl El m f) e) := by
 simp only [gl, ends, List.getD_eq_getElem?_getD, List.getElem?_map]
 cases (bag Vl El m f)[e.toNat]? with
 | none => exact cs_nil.symm
 | some l => rfl
theorem ends_zero (Vl El : List Int) (m : Nat) : ends Vl El m 0 = List.replicate m [] := by
 rw [ends, bag, List.map_replicate, cs_nil]
theorem ends_step (Vl El : List Int) (m f : Nat) : ends Vl El m (f + 1) = (ends Vl El m f).set (gi El f).toNat (cs (gl (ends Vl El m f) (gi El f) ++ [gi Vl f])) := by
 rw [gl_ends, cs_cs, ends, bag, List.map_set]
 rfl
theorem ends_SA (Vl El : List Int) (m f : Nat) (e : Int) : SA (gl (ends Vl El m f) e) := by rw [gl_ends]; exact cs_SA _
theorem ends_row {Vl El : List Int} {m f : Nat} (h : ∀ k : Nat, k < f → 0 ≤ gi El k ∧ gi El k < m) (e : Int) (he : 0 ≤ e) : (gl (ends Vl El m f) e).length ≤ f := by
 rw [gl_ends]
 exact Nat.le_trans (cs_len _) (bag_row f h e he)
def edgesN (xss : List (List Int)) : Nat := (facesN xss 1).toNat
def endsL (xss : List (List Int)) : List (List Int) := ends (facesL xss 0) (facesL xss 1) (edgesN xss) (gl xss 0).length
theorem endsL_len (xss : List (List Int)) : (endsL xss).length = edgesN xss := ends_len _ _ _ _

theorem l18Ends_c (A : Option Addr) (n c : Nat) (rs : List SlV) (xss : List (List Int)) (w : World) (hR : RowsI w A n rs xss) (hG : Grph xss) :
  Ret Tryz.prog 126 [.agg #[.slice A n c]] w (fun v w' => ∃ A' rs', v = .slice A' (edgesN xss) (edgesN xss) ∧ rs'.length = edgesN xss ∧ St w w' (mat 34 2 A' (edgesN xss) (edgesN xss) rs' (endsL xss) ++ [])) := by
 have hl := hR.len
 have hM := hG.1
 have hn2 := hG.2
 have h5 := hM.1
 have h40 := hM.2.1
 have hfn := facesN_le xss 1
 have hgr := faces_grt hM 1
 have hVl := facesL_len xss 0
 have hEl := facesL_len xss 1
 have hE : ∀ f : Nat, f < (gl xss 0).length → 0 ≤ gi (facesL xss 1) f ∧ gi (facesL xss 1) f < (edgesN xss : Int) := fun f hf => by
  have := faces_in hM 1 f hf
  unfold edgesN
  omega
 have hmN : ((edgesN xss : Nat) : Int) = facesN xss 1 := by unfold edgesN; omega
 have hm4 : edgesN xss ≤ 400 := by omega
 have hEx : ∀ x ∈ facesL xss 1, x ≤ 1000000 := fun x hx => by
  obtain ⟨k, hk, rfl⟩ := List.mem_iff_getElem.1 hx
  have := hE k (by omega)
  rw [gi_mem hk] at this
  omega
 have hend : endsL xss = ends (facesL xss 0) (facesL xss 1) (edgesN xss) (gl xss 0).length := rfl
 rw [hend]
 generalize hm : edgesN xss = m at *
 refine Ret.of_cd Tryz.func126 rfl Tryz.ntmps126 rfl (post1 rfl) ?_
 refine Cd.seq ?_
 refine Cd.region ?_
 refine Ops.box1 (St.refl w) rfl rfl ?_
 intro Ab w1 hS1
 refine Ops.mv_sl rfl rfl rfl ?_
 refine Ops.nil ?_
 refine thenQ_n ?_
 refine Cd.seq ?_
 refine Cd.draw [.ex (.agg #[.slice (A) (n) (c)]), .pr (fun v w' => ∃ A1 c1, v = .slice A1 (gl xss 0).length c1 ∧ RdI w' A1 (gl xss 0).length (facesL xss 0)), .ex (.agg #[.slice (A) (n) (c)]), .pr (fun v w' => ∃ A1 c1, v = .slice A1 (gl xss 0).length c1 ∧ RdI w' A1 (gl xss 0).length (facesL xss 1)), .pr (fun v w' => ∃ A1 c1, v = .slice A1 (gl xss 0).length c1 ∧ RdI w' A1 (gl xss 0).length (facesL xss 0)), .pr (fun v w' => ∃ A1 c1, v = .slice A1 (gl xss 0).length c1 ∧ RdI w' A1 (gl xss 0).length (facesL xss 1))] (by kernel_rfl) (by kernel_rfl) rfl (List.forall_mem_cons.2 ⟨Yd.lasts_ex _, (List.forall_mem_cons.2 ⟨Yd.lasts_pr (fun v w w' h hb => by obtain ⟨A1, c1, hv, hT⟩ := h; exact ⟨A1, c1, hv, hT.later hb⟩), (List.forall_mem_cons.2 ⟨Yd.lasts_ex _, (List.forall_mem_cons.2 ⟨Yd.lasts_pr (fun v w w' h hb => by obtain ⟨A1, c1, hv, hT⟩ := h; exact ⟨A1, c1, hv, hT.later hb⟩), (List.forall_mem_cons.2 ⟨Yd.lasts_pr (fun v w w' h hb => by obtain ⟨A1, c1, hv, hT⟩ := h; exact ⟨A1, c1, hv, hT.later hb⟩), (List.forall_mem_cons.2 ⟨Yd.lasts_pr (fun v w w' h hb => by obtain ⟨A1, c1, hv, hT⟩ := h; exact ⟨A1, c1, hv, hT.later hb⟩), (fun _ h => by cases h)⟩)⟩)⟩)⟩)⟩)⟩) ⟨?_, ?_, ?_, ?_, ?_, ?_, trivial⟩ ?_
 ·intro e1 w1 hb hp hun
  refine Ops.ld_agg 0 ((hS1.rd 0 rfl).below hb) rfl rfl rfl ?_
  refine Ops.nil ?_
  exact After.dn (Below.refl _ _) (by exact rfl)
 ·intro e1 w1 hb hp hun
  refine Ops.call (l02Faces_c A n c rs xss 0 _ ((hS1.later hb).oldRows hR) hM (by omega)) rfl rfl rfl ?_
  rintro _ w9 ⟨A1, c1, rfl, hst⟩
  refine Ops.nil ?_
  exact After.dn hst.below ⟨A1, c1, rfl, hst.rdI 0 rfl⟩
 ·intro e1 w1 hb hp hun
  refine Ops.ld_agg 0 ((hS1.rd 0 rfl).below hb) rfl rfl rfl ?_
  refine Ops.nil ?_
  exact After.dn (Below.refl _ _) (by exact rfl)
 ·intro e1 w1 hb hp hun
  refine Ops.call (l02Faces_c A n c rs xss 1 _ ((hS1.later hb).oldRows hR) hM (by omega)) rfl rfl rfl ?_
  rintro _ w9 ⟨A1, c1, rfl, hst⟩
  refine Ops.nil ?_
  exact After.dn hst.below ⟨A1, c1, rfl, hst.rdI 0 rfl⟩
 ·intro e1 w1 hb hp hun
  obtain ⟨A1, c1, h8, hT⟩ := (hp 1 (by decide) rfl _ _ rfl rfl)
  refine Ops.mv_sl rfl (by exact h8) rfl ?_
  refine Ops.nil ?_
  exact After.dn (Below.refl _ _) ⟨A1, c1, rfl, hT⟩
 ·intro e1 w1 hb hp hun
  obtain ⟨A1, c1, h10, hT⟩ := (hp 3 (by decide) rfl _ _ rfl rfl)
  refine Ops.mv_sl rfl (by exact h10) rfl ?_
  refine Ops.nil ?_
  exact After.dn (Below.refl _ _) ⟨A1, c1, rfl, hT⟩
 intro u w2 hb2 hu
 obtain ⟨A3, c3, h3, hV⟩ := hu 4 _ rfl
 obtain ⟨A4, c4, h4, hW⟩ := hu 5 _ rfl
 have hS2 := (hS1.later hb2).none
 generalize hF : (gl xss 0).length = F at *
 generalize hVe : facesL xss 0 = Vl at *
 generalize hEe : facesL xss 1 = El at *
 rw [pin2 u h3 h4]
 refine thenQ_n ?_
 refine Cd.seq ?_
 refine Cd.region ?_
 refine Ops.mv_sl rfl rfl rfl ?_
 refine Ops.call (l02Greatest_c A4 F c4 El w2 hW (by omega) hEx) rfl rfl rfl ?_
 rintro _ w2 ⟨rfl, rfl⟩
 rw [hgr, ← hmN]
 refine Ops.mkR m (St.refl w2) rfl rfl (by omega) ?_
 intro A5 w3 hS3
 have hS3 : St w2 w3 (mat 34 2 A5 m m (List.replicate m slNil) (ends Vl El m 0) ++ []) := by
  rw [ends_zero, List.append_nil]
  exact nilRows m hS3
 refine Ops.mv_sl rfl rfl rfl ?_
 refine Ops.nil ?_
 refine thenQ_n ?_
 refine Cd.seq ?_
 refine Cd.seq ?_
 refine Cd.region ?_
 refine Ops.mv_int rfl rfl rfl ?_
 refine Ops.nil ?_
 refine thenQ_n ?_
 refine Cd.block ?_
 refine Cd.loop (α := Nat × List SlV) (fun z => [(3, .slice A3 F c3), (4, .slice A4 F c4), (5, .slice A5 m m), (6, .int .i64 (z.1 : Int))]) (fun z w' => St w2 w' (mat 34 2 A5 m m z.2 (ends Vl El m z.1) ++ []) ∧ z.1 ≤ F ∧ z.2.length = m) (fun z => F - z.1) (0, List.replicate m slNil) ⟨rfl, rfl, rfl, rfl, trivial⟩ ⟨hS3, Nat.zero_le _, by simp⟩ ?_
 rintro ⟨f, rs5⟩ e w4 ⟨hS4, hf, hrl⟩
 dsimp only at hS4 hf hrl ⊢
 refine Cd.seq ?_
 refine Cd.seq ?_
 refine Cd.region ?_
 refine Ops.mv_int rfl rfl rfl ?_
 refine Ops.mv_sl rfl rfl rfl ?_
 refine Ops.len rfl rfl ?_
 refine Ops.lss rfl rfl rfl ?_
 refine Ops.nil ?_
 refine thenQ_n ?_
 refine Cd.cond_p _ rfl (fun h1 => ?_) (fun h1 => ?_)
 ·have hf' : f < F := by omega
  have hEf := hE f hf'
  have hV4 := hS4.oldI hV
  have hW4 := hS4.oldI hW
  have hel := ends_len Vl El m f
  have hM4 := hS4.rowsI hel
  have hrow := hM4.at_ (i := gi El f) hEf.1 hEf.2
  have hcap := hM4.cap_ (i := gi El f) hEf.1 hEf.2
  have hrn := hM4.rowLen hEf.1 hEf.2
  have hrl2 := ends_row (Vl := Vl) (El := El) (m := m) (f := f) (fun k hk => hE k (by omega)) (gi El f) hEf.1
  have hget : (mat 34 2 A5 m m rs5 (ends Vl El m f) ++ [])[(gi El f).toNat + 1]? = some (CkI 2 (rg rs5 (gi El f)).a (rg rs5 (gi El f)).n (rg rs5 (gi El f)).c (gl (ends Vl El m f) (gi El f))) := by
   have := mat_get (t1 := 34) (t2 := 2) (A := A5) (n := m) (c := m) (rs := rs5) (xss := ends Vl El m f) (pre := []) (ks := []) (i := (gi El f).toNat) (by omega) (by omega)
   rw [show ([] : List Ck).length + 1 + (gi El f).toNat = (gi El f).toNat + 1 by simp; omega] at this
   exact this
  have hstep := ends_step Vl El m f
  have hlt : (gi El f).toNat < m := by omega
  refine Cd.skip ?_
  refine thenQ_n ?_
  refine Cd.seq ?_
  refine Cd.block ?_
  refine Cd.drawN [18] [.ex (.slice (A5) (m) (m)), .ex (.slice (A4) (F) (c4)), .ex (.int .i64 ((f : Int))), .ex (.pointer (ptrAt (A4) ((f : Int)).toNat)), .ex (.int .i64 (gi (El) ((f : Int)))), .ex (.slice (A5) (m) (m)), .ex (.slice (A4) (F) (c4)), .ex (.int .i64 ((f : Int))), .ex (.pointer (ptrAt (A4) ((f : Int)).toNat)), .ex (.int .i64 (gi (El) ((f : Int)))), .ex (.pointer (ptrAt (A5) (gi (El) ((f : Int))).toNat)), .ex (.slice ((rg (rs5) (gi (El) ((f : Int)))).a) ((rg (rs5) (gi (El) ((f : Int)))).n) ((rg (rs5) (gi (El) ((f : Int)))).c)), .ex (.slice (A3) (F) (c3)), .ex (.int .i64 ((f : Int))), .ex (.pointer (ptrAt (A3) ((f : Int)).toNat)), .ex (.int .i64 (gi (Vl) ((f : Int)))), .pr (fun v w' => ∃ A1 c1, v = .slice A1 (cs (gl (ends Vl El m f) (gi El f) ++ [gi Vl f])).length c1 ∧ St w2 w' ((mat 34 2 A5 m m rs5 (ends Vl El m f) ++ []).set ((gi El f).toNat + 1) (CkI 2 A1 (cs (gl (ends Vl El m f) (gi El f) ++ [gi Vl f])).length c1 (cs (gl (ends Vl El m f) (gi El f) ++ [gi Vl f]))))), .ex (.pointer (ptrAt (A5) (gi (El) ((f : Int))).toNat)), .pr (fun _ w' => ∃ s : SlV, St w2 w' (mat 34 2 A5 m m (rs5.set (gi El f).toNat s) (ends Vl El m (f + 1)) ++ []))] (by kernel_rfl) (by kernel_rfl) (List.forall_mem_cons.2 ⟨Yd.lasts_ex _, (List.forall_mem_cons.2 ⟨Yd.lasts_ex _, (List.forall_mem_cons.2 ⟨Yd.lasts_ex _, (List.forall_mem_cons.2 ⟨Yd.lasts_ex _, (List.forall_mem_cons.2 ⟨Yd.lasts_ex _, (List.forall_mem_cons.2 ⟨Yd.lasts_ex _, (List.forall_mem_cons.2 ⟨Yd.lasts_ex _, (List.forall_mem_cons.2 ⟨Yd.lasts_ex _, (List.forall_mem_cons.2 ⟨Yd.lasts_ex _, (List.forall_mem_cons.2 ⟨Yd.lasts_ex _, (List.forall_mem_cons.2 ⟨Yd.lasts_ex _, (List.forall_mem_cons.2 ⟨Yd.lasts_ex _, (List.forall_mem_cons.2 ⟨Yd.lasts_ex _, (List.forall_mem_cons.2 ⟨Yd.lasts_ex _, (List.forall_mem_cons.2 ⟨Yd.lasts_ex _, (List.forall_mem_cons.2 ⟨Yd.lasts_ex _, (List.forall_mem_cons.2 ⟨Yd.lasts_pr (fun v w w' h hb => by obtain ⟨A1, c1, hv, hT⟩ := h; exact ⟨A1, c1, hv, hT.later hb⟩), (List.forall_mem_cons.2 ⟨Yd.lasts_ex _, (List.forall_mem_cons.2 ⟨Yd.lasts_pr (fun v w w' h hb => by obtain ⟨s, hT⟩ := h; exact ⟨s, hT.later hb⟩), (fun _ h => by cases h)⟩)⟩)⟩)⟩)⟩)⟩)⟩)⟩)⟩)⟩)⟩)⟩)⟩)⟩)⟩)⟩)⟩)⟩)⟩) ⟨?_, ?_, ?_, ?_, ?_, ?_, ?_, ?_, ?_, ?_, ?_, ?_, ?_, ?_, ?_, ?_, ?_, ?_, ?_, trivial⟩ ?_
  ·intro e1 w1 cc hlo hhi hb0 hp hun hq
   show Ops _ _ _ _ _ _ _
   refine Ops.mv_sl rfl rfl rfl ?_
   refine Ops.nil ?_
   exact AfterN.dn rfl (Below.refl _ _) (by exact rfl)
  ·intro e1 w1 cc hlo hhi hb0 hp hun hq
   show Ops _ _ _ _ _ _ _
   refine Ops.mv_sl rfl rfl rfl ?_
   refine Ops.nil ?_
   exact AfterN.dn rfl (Below.refl _ _) (by exact rfl)
  ·intro e1 w1 cc hlo hhi hb0 hp hun hq
   show Ops _ _ _ _ _ _ _
   refine Ops.mv_int rfl rfl rfl ?_
   refine Ops.nil ?_
   exact AfterN.dn rfl (Below.refl _ _) (by exact rfl)
  ·intro e1 w1 cc hlo hhi hb0 hp hun hq
   show Ops _ _ _ _ _ _ _
   replace hlo := le_of_lo hlo (b := 0) (by kernel_rfl)
   replace hhi := le_of_hi hhi (b := 0) (by kernel_rfl)
   obtain rfl : cc = 0 := by omega
   have hb := hb0 rfl
   refine Ops.idx (hW4.later hb).2 rfl rfl rfl (by omega) (by omega) ?_
   refine Ops.nil ?_
   exact AfterN.dn rfl (Below.refl _ _) (by exact rfl)
  ·intro e1 w1 cc hlo hhi hb0 hp hun hq
   show Ops _ _ _ _ _ _ _
   replace hlo := le_of_lo hlo (b := 0) (by kernel_rfl)
   replace hhi := le_of_hi hhi (b := 0) (by kernel_rfl)
   obtain rfl : cc = 0 := by omega
   have hb := hb0 rfl
   refine Ops.ld_int (hW4.later hb) rfl (by omega) rfl rfl ?_
   refine Ops.nil ?_
   exact AfterN.dn rfl (Below.refl _ _) (by exact rfl)
  ·intro e1 w1 cc hlo hhi hb0 hp hun hq
   show Ops _ _ _ _ _ _ _
   refine Ops.mv_sl rfl rfl rfl ?_
   refine Ops.nil ?_
   exact AfterN.dn rfl (Below.refl _ _) (by exact rfl)
  ·intro e1 w1 cc hlo hhi hb0 hp hun hq
   show Ops _ _ _ _ _ _ _
   refine Ops.mv_sl rfl rfl rfl ?_
   refine Ops.nil ?_
   exact AfterN.dn rfl (Below.refl _ _) (by exact rfl)
  ·intro e1 w1 cc hlo hhi hb0 hp hun hq
   show Ops _ _ _ _ _ _ _
   refine Ops.mv_int rfl rfl rfl ?_
   refine Ops.nil ?_
   exact AfterN.dn rfl (Below.refl _ _) (by exact rfl)
  ·intro e1 w1 cc hlo hhi hb0 hp hun hq
   show Ops _ _ _ _ _ _ _
   replace hlo := le_of_lo hlo (b := 0) (by kernel_rfl)
   replace hhi := le_of_hi hhi (b := 0) (by kernel_rfl)
   obtain rfl : cc = 0 := by omega
   have hb := hb0 rfl
   refine Ops.idx (hW4.later hb).2 rfl rfl rfl (by omega) (by omega) ?_
   refine Ops.nil ?_
   exact AfterN.dn rfl (Below.refl _ _) (by exact rfl)
  ·intro e1 w1 cc hlo hhi hb0 hp hun hq
   show Ops _ _ _ _ _ _ _
   replace hlo := le_of_lo hlo (b := 0) (by kernel_rfl)
   replace hhi := le_of_hi hhi (b := 0) (by kernel_rfl)
   obtain rfl : cc = 0 := by omega
   have hb := hb0 rfl
   refine Ops.ld_int (hW4.later hb) rfl (by omega) rfl rfl ?_
   refine Ops.nil ?_
   exact AfterN.dn rfl (Below.refl _ _) (by exact rfl)
  ·intro e1 w1 cc hlo hhi hb0 hp hun hq
   show Ops _ _ _ _ _ _ _
   replace hlo := le_of_lo hlo (b := 0) (by kernel_rfl)
   replace hhi := le_of_hi hhi (b := 0) (by kernel_rfl)
   obtain rfl : cc = 0 := by omega
   have hb := hb0 rfl
   refine Ops.idx (hM4.top.later hb).2 rfl rfl rfl (by omega) (by omega) ?_
   refine Ops.nil ?_
   exact AfterN.dn rfl (Below.refl _ _) (by exact rfl)
  ·intro e1 w1 cc hlo hhi hb0 hp hun hq
   show Ops _ _ _ _ _ _ _
   replace hlo := le_of_lo hlo (b := 0) (by kernel_rfl)
   replace hhi := le_of_hi hhi (b := 0) (by kernel_rfl)
   obtain rfl : cc = 0 := by omega
   have hb := hb0 rfl
   refine Ops.ld_sl (hM4.top.later hb) rfl (by omega) rfl rfl ?_
   refine Ops.nil ?_
   exact AfterN.dn rfl (Below.refl _ _) (by exact rfl)
  ·intro e1 w1 cc hlo hhi hb0 hp hun hq
   show Ops _ _ _ _ _ _ _
   refine Ops.mv_sl rfl rfl rfl ?_
   refine Ops.nil ?_
   exact AfterN.dn rfl (Below.refl _ _) (by exact rfl)
  ·intro e1 w1 cc hlo hhi hb0 hp hun hq
   show Ops _ _ _ _ _ _ _
   refine Ops.mv_int rfl rfl rfl ?_
   refine Ops.nil ?_
   exact AfterN.dn rfl (Below.refl _ _) (by exact rfl)
  ·intro e1 w1 cc hlo hhi hb0 hp hun hq
   show Ops _ _ _ _ _ _ _
   replace hlo := le_of_lo hlo (b := 0) (by kernel_rfl)
   replace hhi := le_of_hi hhi (b := 0) (by kernel_rfl)
   obtain rfl : cc = 0 := by omega
   have hb := hb0 rfl
   refine Ops.idx (hV4.later hb).2 rfl rfl rfl (by omega) (by omega) ?_
   refine Ops.nil ?_
   exact AfterN.dn rfl (Below.refl _ _) (by exact rfl)
  ·intro e1 w1 cc hlo hhi hb0 hp hun hq
   show Ops _ _ _ _ _ _ _
   replace hlo := le_of_lo hlo (b := 0) (by kernel_rfl)
   replace hhi := le_of_hi hhi (b := 0) (by kernel_rfl)
   obtain rfl : cc = 0 := by omega
   have hb := hb0 rfl
   refine Ops.ld_int (hV4.later hb) rfl (by omega) rfl rfl ?_
   refine Ops.nil ?_
   exact AfterN.dn rfl (Below.refl _ _) (by exact rfl)
  ·intro e1 w1 cc hlo hhi hb0 hp hun hq
   show Ops _ _ _ _ _ _ _
   replace hlo := le_of_lo hlo (b := 0) (by kernel_rfl)
   replace hhi := le_of_hi hhi (b := 0) (by kernel_rfl)
   obtain rfl : cc = 0 := by omega
   have hb := hb0 rfl
   refine Ops.call (l17Insert_c _ _ (rg rs5 (gi El f)).c _ (gi Vl f) _ (hrow.later hb) hcap.1 (by omega) (ends_SA _ _ _ _ _)) rfl rfl rfl ?_
   rintro _ w9 ⟨A1, c1, rfl, hbl, hor⟩
   refine Ops.nil ?_
   exact AfterN.dn rfl hbl ⟨A1, c1, rfl, (hS4.later hb).insRow hget hbl hor⟩
  ·intro e1 w1 cc hlo hhi hb0 hp hun hq
   show Ops _ _ _ _ _ _ _
   replace hlo := le_of_lo hlo (b := 0) (by kernel_rfl)
   replace hhi := le_of_hi hhi (b := 0) (by kernel_rfl)
   obtain rfl : cc = 0 := by omega
   have hb := hb0 rfl
   refine Ops.idx (hM4.top.later hb).2 rfl rfl rfl (by omega) (by omega) ?_
   refine Ops.nil ?_
   exact AfterN.dn rfl (Below.refl _ _) (by exact rfl)
  ·intro e1 w1 cc hlo hhi hb0 hp hun hq
   show Ops _ _ _ _ _ _ _
   replace hlo := le_of_lo hlo (b := 0) (by kernel_rfl)
   replace hhi := le_of_hi hhi (b := 0) (by kernel_rfl)
   obtain rfl : cc = 0 := by omega
   have hb := hb0 rfl
   obtain ⟨A1, c1, h36, hT⟩ := (hp 16 _ _ (by kernel_rfl) rfl rfl (by kernel_rfl))
   refine Ops.st_sl 0 hT rfl rfl (by exact h36) hlt ?_
   intro w9 hst
   refine Ops.nil ?_
   exact AfterT.st rfl ⟨⟨A1, _, c1⟩, by rw [hstep, ← mat_upd (by omega) (by omega)]; exact hst⟩
  intro u w5 _ hu
  obtain ⟨s, hS5⟩ := hu 18 _ rfl (by kernel_rfl)
  refine blockQ_n ?_
  refine thenQ_n ?_
  refine Cd.region ?_
  refine Ops.mv_int rfl rfl rfl ?_
  refine Ops.add rfl rfl rfl (by omega) ?_
  refine Ops.mv_int rfl rfl rfl ?_
  refine Ops.nil ?_
  refine thenQ_n ?_
  exact ⟨(f + 1, rs5.set (gi El f).toNat s), by show F - (f + 1) < F - f; omega, ⟨rfl, rfl, rfl, rfl, trivial⟩, hS5, hf', by show (rs5.set _ s).length = m; rw [List.length_set]; exact hrl⟩
 ·refine Cd.exit ?_
  refine thenQ_x ?_
  refine thenQ_x ?_
  refine blockQ_x ?_
  refine thenQ_n ?_
  refine Cd.seq ?_
  refine Cd.region ?_
  refine Ops.mv_sl rfl rfl rfl ?_
  refine Ops.mv_sl rfl rfl rfl ?_
  refine Ops.nil ?_
  refine thenQ_n ?_
  refine Cd.ret ?_
  refine ret1_s rfl ?_
  have hfF : f = F := by omega
  subst hfF
  refine ⟨A5, rs5, rfl, hrl, ?_⟩
  have := hS2.call hS4
  rwa [List.append_nil] at this
end Go.Proofs.YtjpkmpihmilgoaaGreat.Vc
/-
 The ends of edges on the program's side, and the answers on both. Conditions: as each states them.
-/
namespace Go.Proofs.YtjpkmpihmilgoaaGreat.Vc
open Go.RowKit

/-- the answer: a list of lists in memory of its own, and a code -/
def AnsSS (L : List (List Int)) (K : Int) (w : World) (v : Value) (w' : World) : Prop := ∃ A' c' rs', v = .tuple #[.slice A' L.length c', .int .i64 K] ∧ rs'.length = L.length ∧ St w w' (mat 34 2 A' L.length c' rs' L ++ [])
theorem AnsSS.none {w w' : World} {ks : List Ck} {K : Int} (h : St w w' ks) : AnsSS [] K w (.tuple #[.slice Option.none 0 0, .int .i64 K]) w' := ⟨Option.none, 0, [], rfl, rfl, h.none.nil _⟩

def eoeL (xss : List (List Int)) : List (List Int) := if Grph xss then endsL xss else []

theorem bag_pos {Vl El : List Int} {m : Nat} : ∀ f, (∀ k : Nat, k < f → 0 ≤ gi El k ∧ gi El k < m) → ∀ e : Int, 0 ≤ e → (∃ k : Nat, k < f ∧ gi El k = e) → 0 < (gl (bag Vl El m f) e).length
 | 0, _, e, _, ⟨k, hk, _⟩ => by omega
 | f + 1, h, e, he, ⟨k, hk, hke⟩ => by
  have hf := h f (by omega)
  rw [bag, gl_set2 e he (by rw [bag_len]; omega)]
  split
  ·simp
  ·rename_i hne
   refine bag_pos f (fun k hk => h k (by omega)) e he ⟨k, ?_, hke⟩
   by_cases ek : k = f
   ·subst ek; omega
   ·omega

/-- some rows turned, the others not yet -/
def mixL (B : List (List Int)) (e : Nat) : List (List Int) := (B.take e).map cs ++ B.drop e
theorem mixL_len (B : List (List Int)) (e : Nat) : (mixL B e).length = B.length := by simp [mixL]; omega
theorem mixL_zero (B : List (List Int)) : mixL B 0 = B := by simp [mixL]
theorem mixL_all (B : List (List Int)) : mixL B B.length = B.map cs := by simp [mixL]
theorem mixL_get {B : List (List Int)} {e : Nat} (h : e < B.length) : gl (mixL B e) (e : Int) = gl B (e : Int) := by
 simp only [gl, mixL, Int.toNat_natCast, List.getD_eq_getElem?_getD]
 rw [List.getElem?_append_right (by simp; omega)]
 simp [Nat.min_eq_left (Nat.le_of_lt h)]
theorem mixL_step {B : List (List Int)} {e : Nat} (h : e < B.length) : (mixL B e).set e (cs (gl B (e : Int))) = mixL B (e + 1) := by
 rw [gl_mem h]
 unfold mixL
 rw [List.set_append_right _ _ (by simp; omega), List.take_succ_eq_append_getElem h, List.map_append, List.append_assoc]
 have e1 : e - ((B.take e).map cs).length = 0 := by simp; omega
 rw [e1, List.drop_eq_getElem_cons h]
 rfl

theorem endsOf_c (A : Option Addr) (n c : Nat) (rs : List SlV) (xss : List (List Int)) (w : World) (hR : RowsI w A n rs xss) (hG : Grph xss) :
  Ret Tryz.prog 128 [.agg #[.slice A n c]] w (fun v w' => ∃ A' rs', v = .slice A' (edgesN xss) (edgesN xss) ∧ rs'.length = edgesN xss ∧ St w w' (mat 34 2 A' (edgesN xss) (edgesN xss) rs' (endsL xss) ++ [])) := by
 have hl := hR.len
 have hM := hG.1
 have hn2 := hG.2
 have h5 := hM.1
 have h40 := hM.2.1
 have hfn := facesN_le xss 1
 have hVl := facesL_len xss 0
 have hEl := facesL_len xss 1
 have hE : ∀ f : Nat, f < (gl xss 0).length → 0 ≤ gi (facesL xss 1) f ∧ gi (facesL xss 1) f < (edgesN xss : Int) := fun f hf => by
  have := faces_in hM 1 f hf
  unfold edgesN
  omega
 have hmN : ((edgesN xss : Nat) : Int) = facesN xss 1 := by unfold edgesN; omega
 have hhit : ∀ e : Nat, e < edgesN xss → ∃ f : Nat, f < (gl xss 0).length ∧ gi (facesL xss 1) f = (e : Int) := fun e he => faces_hit hM 1 e (by omega) (by omega)
 have hm4 : edgesN xss ≤ 400 := by omega
 have hend : endsL xss = ends (facesL xss 0) (facesL xss 1) (edgesN xss) (gl xss 0).length := rfl
 rw [hend]
 refine Ret.of_cd Tryz.func128 rfl Tryz.ntmps128 rfl (post1 rfl) ?_
 refine Cd.seq ?_
 refine Cd.region ?_
 refine Ops.box1 (St.refl w) rfl rfl ?_
 intro Ab w1 hS1
 refine Ops.mv_sl rfl rfl rfl ?_
 refine Ops.nil ?_
 refine thenQ_n ?_
 refine Cd.seq ?_
 refine Cd.region ?_
 refine Ops.call (faces_c Ab A n c rs xss 0 _ (Rd.one (hS1.rd 0 rfl)) (hS1.oldRows hR) hM (by omega)) rfl rfl rfl ?_
 rintro _ w2 ⟨A3, rfl, hst⟩
 have hS2 := hS1.call hst
 refine Ops.mv_tup rfl rfl rfl ?_
 refine Ops.extract rfl rfl rfl ?_
 refine Ops.extract rfl rfl rfl ?_
 refine Ops.mv_sl rfl rfl rfl ?_
 refine Ops.mv_int rfl rfl rfl ?_
 refine Ops.nil ?_
 refine thenQ_n ?_
 refine Cd.seq ?_
 refine Cd.region ?_
 refine Ops.call (faces_c Ab A n c rs xss 1 _ (Rd.one (hS2.rd 1 rfl)) (hS2.oldRows hR) hM (by omega)) rfl rfl rfl ?_
 rintro _ w3 ⟨A5, rfl, hst⟩
 have hS3 := hS2.call hst
 have hV := hS3.rdI 1 rfl
 have hW := hS3.rdI 0 rfl
 have hB3 := hS3.none
 rw [← hmN]
 generalize hm : edgesN xss = m at *
 generalize hF : (gl xss 0).length = F at *
 generalize hVe : facesL xss 0 = Vl at *
 generalize hEe : facesL xss 1 = El at *
 refine Ops.mv_tup rfl rfl rfl ?_
 refine Ops.extract rfl rfl rfl ?_
 refine Ops.extract rfl rfl rfl ?_
 refine Ops.mv_sl rfl rfl rfl ?_
 refine Ops.mv_int rfl rfl rfl ?_
 refine Ops.nil ?_
 refine thenQ_n ?_
 refine Cd.seq ?_
 refine Cd.region ?_
 refine Ops.mv_int rfl rfl rfl ?_
 refine Ops.mkR m (St.refl w3) rfl rfl (by omega) ?_
 intro A7 w4 hS4
 have hS4 : St w3 w4 (mat 34 2 A7 m m (List.replicate m slNil) (bag Vl El m 0) ++ []) := by
  rw [List.append_nil]
  exact nilRows m hS4
 refine Ops.mv_sl rfl rfl rfl ?_
 refine Ops.nil ?_
 refine thenQ_n ?_
 refine Cd.seq ?_
 refine Cd.seq ?_
 refine Cd.region ?_
 refine Ops.mv_sl rfl rfl rfl ?_
 refine Ops.len rfl rfl ?_
 refine Ops.mv_int rfl rfl rfl ?_
 refine Ops.nil ?_
 refine thenQ_n ?_
 refine Cd.block ?_
 refine Cd.loop (α := Nat × List SlV) (fun z => [(3, .slice A3 F F), (7, .slice A7 m m), (21, .slice A5 F F), (22, .int .i64 (F : Int)), (23, .int .i64 (z.1 : Int))]) (fun z w' => St w3 w' (mat 34 2 A7 m m z.2 (bag Vl El m z.1) ++ []) ∧ z.1 ≤ F ∧ z.2.length = m) (fun z => F - z.1) (0, List.replicate m slNil) ⟨rfl, rfl, rfl, rfl, rfl, trivial⟩ ⟨hS4, Nat.zero_le _, by simp⟩ ?_
 rintro ⟨f, rs5⟩ e w5 ⟨hS5, hf, hrl⟩
 dsimp only at hS5 hf hrl ⊢
 refine Cd.seq ?_
 refine Cd.region ?_
 refine Ops.lss rfl rfl rfl ?_
 refine Ops.nil ?_
 refine thenQ_n ?_
 refine Cd.seq ?_
 refine Cd.cond_p _ rfl (fun h1 => ?_) (fun h1 => ?_)
 ·have hf' : f < F := by omega
  have hEf := hE f hf'
  have hV5 := hS5.oldI hV
  have hW5 := hS5.oldI hW
  have hbl := bag_len Vl El m f
  have hM5 := hS5.rowsI hbl
  have hrn := hM5.rowLen hEf.1 hEf.2
  have hrl2 := bag_row (Vl := Vl) (El := El) (m := m) f (fun k hk => hE k (by omega)) (gi El f) hEf.1
  have hget : (mat 34 2 A7 m m rs5 (bag Vl El m f) ++ [])[(gi El f).toNat + 1]? = some (CkI 2 (rg rs5 (gi El f)).a (rg rs5 (gi El f)).n (rg rs5 (gi El f)).c (gl (bag Vl El m f) (gi El f))) := by
   have := mat_get (t1 := 34) (t2 := 2) (A := A7) (n := m) (c := m) (rs := rs5) (xss := bag Vl El m f) (pre := []) (ks := []) (i := (gi El f).toNat) (by omega) (by omega)
   rw [show ([] : List Ck).length + 1 + (gi El f).toNat = (gi El f).toNat + 1 by simp; omega] at this
   exact this
  have hlt : (gi El f).toNat < m := by omega
  refine Cd.skip ?_
  refine thenQ_n ?_
  refine Cd.seq ?_
  refine Cd.block ?_
  refine Cd.seq ?_
  refine Cd.region ?_
  refine Ops.mv_int rfl rfl rfl ?_
  refine Ops.idx hW5.2 rfl rfl rfl (by omega) (by omega) ?_
  refine Ops.ld_int hW5 rfl (by omega) rfl rfl ?_
  refine Ops.mv_int rfl rfl rfl ?_
  refine Ops.mv_int rfl rfl rfl ?_
  refine Ops.nil ?_
  refine thenQ_n ?_
  refine Cd.drawN [11, 13] [.ex (.slice (A7) (m) (m)), .ex (.int .i64 (gi El (f : Int))), .ex (.slice (A7) (m) (m)), .ex (.int .i64 (gi El (f : Int))), .ex (.pointer (ptrAt (A7) (gi El (f : Int)).toNat)), .ex (.slice ((rg (rs5) (gi El (f : Int))).a) ((rg (rs5) (gi El (f : Int))).n) ((rg (rs5) (gi El (f : Int))).c)), .ex (.slice (A3) (F) (F)), .ex (.int .i64 ((f : Int))), .ex (.pointer (ptrAt (A3) ((f : Int)).toNat)), .ex (.int .i64 (gi (Vl) ((f : Int)))), .pr (fun v w' => ∃ A1, v = .slice A1 1 1 ∧ RdI w' A1 1 [gi Vl f]), .pr (fun v w' => ∃ A1 c1, v = .slice A1 ((rg rs5 (gi El f)).n + 1) c1 ∧ St w3 w' ((mat 34 2 A7 m m rs5 (bag Vl El m f) ++ []).set ((gi El f).toNat + 1) (CkI 2 A1 ((rg rs5 (gi El f)).n + 1) c1 (gl (bag Vl El m f) (gi El f) ++ [gi Vl f])))), .ex (.pointer (ptrAt (A7) (gi El (f : Int)).toNat)), .pr (fun _ w' => ∃ s : SlV, St w3 w' (mat 34 2 A7 m m (rs5.set (gi El f).toNat s) (bag Vl El m (f + 1)) ++ []))] (by kernel_rfl) (by kernel_rfl) (List.forall_mem_cons.2 ⟨Yd.lasts_ex _, (List.forall_mem_cons.2 ⟨Yd.lasts_ex _, (List.forall_mem_cons.2 ⟨Yd.lasts_ex _, (List.forall_mem_cons.2 ⟨Yd.lasts_ex _, (List.forall_mem_cons.2 ⟨Yd.lasts_ex _, (List.forall_mem_cons.2 ⟨Yd.lasts_ex _, (List.forall_mem_cons.2 ⟨Yd.lasts_ex _, (List.forall_mem_cons.2 ⟨Yd.lasts_ex _, (List.forall_mem_cons.2 ⟨Yd.lasts_ex _, (List.forall_mem_cons.2 ⟨Yd.lasts_ex _, (List.forall_mem_cons.2 ⟨Yd.lasts_pr (fun v w w' h hb => by obtain ⟨A1, hv, hT⟩ := h; exact ⟨A1, hv, hT.later hb⟩), (List.forall_mem_cons.2 ⟨Yd.lasts_pr (fun v w w' h hb => by obtain ⟨A1, c1, hv, hT⟩ := h; exact ⟨A1, c1, hv, hT.later hb⟩), (List.forall_mem_cons.2 ⟨Yd.lasts_ex _, (List.forall_mem_cons.2 ⟨Yd.lasts_pr (fun v w w' h hb => by obtain ⟨s, hT⟩ := h; exact ⟨s, hT.later hb⟩), (fun _ h => by cases h)⟩)⟩)⟩)⟩)⟩)⟩)⟩)⟩)⟩)⟩)⟩)⟩)⟩)⟩) ⟨?_, ?_, ?_, ?_, ?_, ?_, ?_, ?_, ?_, ?_, ?_, ?_, ?_, ?_, trivial⟩ ?_
  ·intro e1 w1 cc hlo hhi hb0 hp hun hq
   show Ops _ _ _ _ _ _ _
   refine Ops.mv_sl rfl rfl rfl ?_
   refine Ops.nil ?_
   exact AfterN.dn rfl (Below.refl _ _) (by exact rfl)
  ·intro e1 w1 cc hlo hhi hb0 hp hun hq
   show Ops _ _ _ _ _ _ _
   refine Ops.mv_int rfl rfl rfl ?_
   refine Ops.nil ?_
   exact AfterN.dn rfl (Below.refl _ _) (by exact rfl)
  ·intro e1 w1 cc hlo hhi hb0 hp hun hq
   show Ops _ _ _ _ _ _ _
   refine Ops.mv_sl rfl rfl rfl ?_
   refine Ops.nil ?_
   exact AfterN.dn rfl (Below.refl _ _) (by exact rfl)
  ·intro e1 w1 cc hlo hhi hb0 hp hun hq
   show Ops _ _ _ _ _ _ _
   refine Ops.mv_int rfl rfl rfl ?_
   refine Ops.nil ?_
   exact AfterN.dn rfl (Below.refl _ _) (by exact rfl)
  ·intro e1 w1 cc hlo hhi hb0 hp hun hq
   show Ops _ _ _ _ _ _ _
   replace hlo := le_of_lo hlo (b := 0) (by kernel_rfl)
   replace hhi := le_of_hi hhi (b := 0) (by kernel_rfl)
   obtain rfl : cc = 0 := by omega
   have hb := hb0 rfl
   refine Ops.idx (hM5.top.later hb).2 rfl rfl rfl (by omega) (by omega) ?_
   refine Ops.nil ?_
   exact AfterN.dn rfl (Below.refl _ _) (by exact rfl)
  ·intro e1 w1 cc hlo hhi hb0 hp hun hq
   show Ops _ _ _ _ _ _ _
   replace hlo := le_of_lo hlo (b := 0) (by kernel_rfl)
   replace hhi := le_of_hi hhi (b := 0) (by kernel_rfl)
   obtain rfl : cc = 0 := by omega
   have hb := hb0 rfl
   refine Ops.ld_sl (hM5.top.later hb) rfl (by omega) rfl rfl ?_
   refine Ops.nil ?_
   exact AfterN.dn rfl (Below.refl _ _) (by exact rfl)
  ·intro e1 w1 cc hlo hhi hb0 hp hun hq
   show Ops _ _ _ _ _ _ _
   refine Ops.mv_sl rfl rfl rfl ?_
   refine Ops.nil ?_
   exact AfterN.dn rfl (Below.refl _ _) (by exact rfl)
  ·intro e1 w1 cc hlo hhi hb0 hp hun hq
   show Ops _ _ _ _ _ _ _
   refine Ops.mv_int rfl rfl rfl ?_
   refine Ops.nil ?_
   exact AfterN.dn rfl (Below.refl _ _) (by exact rfl)
  ·intro e1 w1 cc hlo hhi hb0 hp hun hq
   show Ops _ _ _ _ _ _ _
   replace hlo := le_of_lo hlo (b := 0) (by kernel_rfl)
   replace hhi := le_of_hi hhi (b := 0) (by kernel_rfl)
   obtain rfl : cc = 0 := by omega
   have hb := hb0 rfl
   refine Ops.idx (hV5.later hb).2 rfl rfl rfl (by omega) (by omega) ?_
   refine Ops.nil ?_
   exact AfterN.dn rfl (Below.refl _ _) (by exact rfl)
  ·intro e1 w1 cc hlo hhi hb0 hp hun hq
   show Ops _ _ _ _ _ _ _
   replace hlo := le_of_lo hlo (b := 0) (by kernel_rfl)
   replace hhi := le_of_hi hhi (b := 0) (by kernel_rfl)
   obtain rfl : cc = 0 := by omega
   have hb := hb0 rfl
   refine Ops.ld_int (hV5.later hb) rfl (by omega) rfl rfl ?_
   refine Ops.nil ?_
   exact AfterN.dn rfl (Below.refl _ _) (by exact rfl)
  ·intro e1 w1 cc hlo hhi hb0 hp hun hq
   show Ops _ _ _ _ _ _ _
   refine Ops.bs1I (St.refl _) rfl rfl rfl ?_
   intro A1 w9 hst
   refine Ops.nil ?_
   exact AfterN.dn rfl hst.below ⟨A1, rfl, hst.rdI 0 rfl⟩
  ·intro e1 w1 cc hlo hhi hb0 hp hun hq
   show Ops _ _ _ _ _ _ _
   replace hlo := le_of_lo hlo (b := 0) (by kernel_rfl)
   replace hhi := le_of_hi hhi (b := 0) (by kernel_rfl)
   obtain rfl : cc = 0 := by omega
   have hb := hb0 rfl
   obtain ⟨A0, h38, hT0⟩ := (hp 10 _ _ (by kernel_rfl) rfl rfl (by kernel_rfl))
   refine Ops.appI ((gi El f).toNat + 1) (hS5.later hb) hget hT0 rfl (by exact h38) rfl (by omega) (by omega) rfl ?_
   intro A1 c1 w9 hst
   refine Ops.nil ?_
   exact AfterT.dn rfl ⟨A1, c1, rfl, hst⟩
  ·intro e1 w1 cc hlo hhi hb0 hp hun hq
   show Ops _ _ _ _ _ _ _
   replace hlo := le_of_lo hlo (b := 1) (by kernel_rfl)
   replace hhi := le_of_hi hhi (b := 1) (by kernel_rfl)
   obtain rfl : cc = 1 := by omega
   have hph := hp 11 _ _ (by kernel_rfl) rfl rfl (by kernel_rfl)
   obtain ⟨A1, c1, h39, hT⟩ := hph
   have hTop := hT.rdR 0 rfl
   refine Ops.idx (hTop).2 rfl rfl rfl (by omega) (by omega) ?_
   refine Ops.nil ?_
   exact AfterN.dn rfl (Below.refl _ _) (by exact rfl)
  ·intro e1 w1 cc hlo hhi hb0 hp hun hq
   show Ops _ _ _ _ _ _ _
   replace hlo := le_of_lo hlo (b := 1) (by kernel_rfl)
   replace hhi := le_of_hi hhi (b := 1) (by kernel_rfl)
   obtain rfl : cc = 1 := by omega
   have hph := hp 11 _ _ (by kernel_rfl) rfl rfl (by kernel_rfl)
   obtain ⟨A1, c1, h39, hT⟩ := hph
   have hTop := hT.rdR 0 rfl
   refine Ops.st_sl 0 hT rfl rfl (by exact h39) hlt ?_
   intro w9 hst
   refine Ops.nil ?_
   exact AfterT.st rfl ⟨⟨A1, _, c1⟩, by rw [bag, ← mat_upd (by omega) (by omega)]; exact hst⟩
  intro u w6 _ hu
  obtain ⟨s, hS6⟩ := hu 13 _ rfl (by kernel_rfl)
  refine blockQ_n ?_
  refine thenQ_n ?_
  refine Cd.region ?_
  refine Ops.add rfl rfl rfl (by omega) ?_
  refine Ops.mv_int rfl rfl rfl ?_
  refine Ops.nil ?_
  refine thenQ_n ?_
  exact ⟨(f + 1, rs5.set (gi El f).toNat s), by show F - (f + 1) < F - f; omega, ⟨rfl, rfl, rfl, rfl, rfl, trivial⟩, hS6, hf', by show (rs5.set _ s).length = m; rw [List.length_set]; exact hrl⟩
 ·refine Cd.exit ?_
  refine thenQ_x ?_
  refine thenQ_x ?_
  refine blockQ_x ?_
  refine thenQ_n ?_
  refine Cd.seq ?_
  refine Cd.seq ?_
  refine Cd.region ?_
  refine Ops.mv_sl rfl rfl rfl ?_
  refine Ops.len rfl rfl ?_
  refine Ops.mv_int rfl rfl rfl ?_
  refine Ops.nil ?_
  refine thenQ_n ?_
  refine Cd.block ?_
  have hfF : f = F := by omega
  subst hfF
  have hpos : ∀ e : Nat, e < m → 0 < (gl (bag Vl El m f) (e : Int)).length := fun e he => bag_pos f (fun k hk => hE k hk) e (by omega) (hhit e he)
  have hlen : ∀ e : Nat, e < m → (gl (bag Vl El m f) (e : Int)).length ≤ f := fun e he => bag_row f (fun k hk => hE k hk) e (by omega)
  have hBl := bag_len Vl El m f
  have hfin : ends Vl El m f = mixL (bag Vl El m f) m := by
   have := mixL_all (bag Vl El m f)
   rw [hBl] at this
   rw [this]; rfl
  rw [hfin]
  generalize hB : bag Vl El m f = B at *
  refine Cd.loop (α := Nat × List SlV) (fun z => [(7, .slice A7 m m), (43, .int .i64 (m : Int)), (44, .int .i64 (z.1 : Int))]) (fun z w' => St w3 w' (mat 34 2 A7 m m z.2 (mixL B z.1) ++ []) ∧ z.1 ≤ m ∧ z.2.length = m) (fun z => m - z.1) (0, rs5) ⟨rfl, rfl, rfl, trivial⟩ ⟨by rw [mixL_zero]; exact hS5, Nat.zero_le _, hrl⟩ ?_
  rintro ⟨e', rs6⟩ e w6 ⟨hS6, he, hrl6⟩
  dsimp only at hS6 he hrl6 ⊢
  refine Cd.seq ?_
  refine Cd.region ?_
  refine Ops.lss rfl rfl rfl ?_
  refine Ops.nil ?_
  refine thenQ_n ?_
  refine Cd.seq ?_
  refine Cd.cond_p _ rfl (fun h2 => ?_) (fun h2 => ?_)
  ·have he' : e' < m := by omega
   have hml := mixL_len B e'
   have hM6 := hS6.rowsI (by omega)
   have hrn := hM6.rowLen (k := (e' : Int)) (by omega) h2
   have hmg := mixL_get (B := B) (e := e') (by omega)
   have hstep := mixL_step (B := B) (e := e') (by omega)
   have hp := hpos e' he'
   have hq := hlen e' he'
   rw [hmg] at hrn
   have hget : (mat 34 2 A7 m m rs6 (mixL B e') ++ [])[e' + 1]? = some (CkI 2 (rg rs6 (e' : Int)).a (rg rs6 (e' : Int)).n (rg rs6 (e' : Int)).c (gl B (e' : Int))) := by
    have := mat_get (t1 := 34) (t2 := 2) (A := A7) (n := m) (c := m) (rs := rs6) (xss := mixL B e') (pre := []) (ks := []) (i := e') (by omega) (by omega)
    rw [show ([] : List Ck).length + 1 + e' = e' + 1 by simp; omega] at this
    rw [← hmg]
    exact this
   have hlt1 : e' + 1 < (mat 34 2 A7 m m rs6 (mixL B e') ++ []).length := (List.getElem?_eq_some_iff.1 hget).1
   refine Cd.skip ?_
   refine thenQ_n ?_
   refine Cd.seq ?_
   refine Cd.block ?_
   refine Cd.seq ?_
   refine Cd.region ?_
   refine Ops.mv_int rfl rfl rfl ?_
   refine Ops.mv_int rfl rfl rfl ?_
   refine Ops.nil ?_
   refine thenQ_n ?_
   refine Cd.seq ?_
   refine Cd.region ?_
   refine Ops.mv_sl rfl rfl rfl ?_
   refine Ops.mv_int rfl rfl rfl ?_
   refine Ops.idx hM6.top.2 rfl rfl rfl (by omega) h2 ?_
   refine Ops.ld_sl hM6.top rfl (by omega) rfl rfl ?_
   refine Ops.call (sort_c (e' + 1) hS6 hget (by omega) (by omega)) rfl rfl rfl ?_
   rintro _ w7 ⟨rfl, hS7⟩
   have hT7 := hS7.rdR 0 rfl
   refine Ops.nil ?_
   refine thenQ_n ?_
   refine Cd.region ?_
   refine Ops.mv_sl rfl rfl rfl ?_
   refine Ops.mv_int rfl rfl rfl ?_
   refine Ops.mv_sl rfl rfl rfl ?_
   refine Ops.mv_int rfl rfl rfl ?_
   refine Ops.idx hT7.2 rfl rfl rfl (by omega) h2 ?_
   refine Ops.ld_sl hT7 rfl (by omega) rfl rfl ?_
   refine Ops.call (compact_c (e' + 1) hS7 (by rw [List.getElem?_set, if_pos rfl, if_pos hlt1]) (by omega) (by omega)) rfl rfl rfl ?_
   rintro _ w8 ⟨rfl, hS8⟩
   rw [List.set_set] at hS8
   have hT8 := hS8.rdR 0 rfl
   refine Ops.idx hT8.2 rfl rfl rfl (by omega) h2 ?_
   refine Ops.st_sl 0 hS8 rfl rfl rfl (by omega) ?_
   intro w9 hS9
   refine Ops.nil ?_
   refine blockQ_n ?_
   refine thenQ_n ?_
   refine Cd.region ?_
   refine Ops.add rfl rfl rfl (by omega) ?_
   refine Ops.mv_int rfl rfl rfl ?_
   refine Ops.nil ?_
   refine thenQ_n ?_
   refine ⟨(e' + 1, rs6.set e' ⟨(rg rs6 (e' : Int)).a, (cmpL (srt (gl B (e' : Int)))).length, (rg rs6 (e' : Int)).c⟩), by show m - (e' + 1) < m - e'; omega, ⟨rfl, rfl, rfl, trivial⟩, ?_, he', by show (rs6.set _ _).length = m; rw [List.length_set]; exact hrl6⟩
   rw [← hstep, ← mat_upd (by omega) (by omega)]
   exact hS9
  ·refine Cd.exit ?_
   refine thenQ_x ?_
   refine thenQ_x ?_
   refine blockQ_x ?_
   refine thenQ_n ?_
   refine Cd.seq ?_
   refine Cd.region ?_
   refine Ops.mv_sl rfl rfl rfl ?_
   refine Ops.mv_sl rfl rfl rfl ?_
   refine Ops.nil ?_
   refine thenQ_n ?_
   refine Cd.ret ?_
   refine ret1_s rfl ?_
   have hem : e' = m := by omega
   subst hem
   refine ⟨A7, rs6, rfl, hrl6, ?_⟩
   have := hB3.call hS6
   rwa [List.append_nil] at this

end Go.Proofs.YtjpkmpihmilgoaaGreat.Vc
/-
 Neighbours: what they are, and the reference's walk. Conditions: as each states them.
-/
namespace Go.Proofs.YtjpkmpihmilgoaaGreat.Vc
open Go.RowKit

theorem sort0_c {w0 w : World} {ks : List Ck} (i : Nat) {t : TypeId} {A : Option Addr} {n c : Nat} {xs : List Int} (hS : St w0 w ks) (hk : ks[i]? = some (CkI t A n c xs)) (hn : n ≤ 1000000000) :
  Ret Tryz.prog 116 [.slice A n c] w (fun v w' => v = .tuple #[] ∧ St w0 w' (ks.set i (CkI t A n c (srt xs)))) := by
 by_cases h0 : 0 < n
 ·exact sort_c i hS hk h0 hn
 ·obtain rfl : n = 0 := by omega
  have hxl := hS.lenI i hk
  obtain rfl := List.eq_nil_of_length_eq_zero hxl
  refine Calls.mono (AnyM.slices_Sort_int_none lsort A c w) fun x w' ⟨hx, hw⟩ => ⟨_, hx, rfl, ?_⟩
  subst hw
  have e : srt [] = [] := List.eq_nil_of_length_eq_zero (srt_perm []).length_eq
  rw [e, set_id hk]
  exact hS
theorem compact0_c {w0 w : World} {ks : List Ck} (i : Nat) {t : TypeId} {A : Option Addr} {n c : Nat} {xs : List Int} (hS : St w0 w ks) (hk : ks[i]? = some (CkI t A n c xs)) (hn : n ≤ 1000000000) :
  Ret Tryz.prog 129 [.slice A n c] w (fun v w' => v = .slice A (cmpL xs).length c ∧ St w0 w' (ks.set i (CkI t A (cmpL xs).length c (cmpL xs)))) := by
 by_cases h0 : 0 < n
 ·exact compact_c i hS hk h0 hn
 ·obtain rfl : n = 0 := by omega
  have hxl := hS.lenI i hk
  obtain rfl := List.eq_nil_of_length_eq_zero hxl
  have e : cmpL [] = [] := List.eq_nil_of_length_eq_zero (Nat.le_zero.1 (cmpL_len []))
  rw [e]
  refine Ret.of_cd Tryz.func129 rfl Tryz.ntmps129 rfl (post1 rfl) ?_
  refine Cd.seq ?_
  refine Cd.region ?_
  refine Ops.mv_sl rfl rfl rfl ?_
  refine Ops.nil ?_
  refine thenQ_n ?_
  refine Cd.seq ?_
  refine Cd.seq ?_
  refine Cd.region ?_
  refine Ops.mv_sl rfl rfl rfl ?_
  refine Ops.len rfl rfl ?_
  refine Ops.lss rfl rfl rfl ?_
  refine Ops.nil ?_
  refine thenQ_n ?_
  refine Cd.cond_pt rfl (by decide) ?_
  refine Cd.seq ?_
  refine Cd.region ?_
  refine Ops.mv_sl rfl rfl rfl ?_
  refine Ops.mv_sl rfl rfl rfl ?_
  refine Ops.nil ?_
  refine thenQ_n ?_
  refine Cd.ret ?_
  refine thenQ_r ?_
  refine ret1_s rfl ?_
  exact ⟨rfl, by rw [show ([] : List Int).length = 0 from rfl, set_id hk]; exact hS⟩

/-! lists filled by pairs: a place, and what is put there -/
def bagP (m : Nat) (ps : List (Int × Int)) : List (List Int) := ps.foldl (fun B p => B.set p.1.toNat (gl B p.1 ++ [p.2])) (List.replicate m [])
theorem bagP_snoc (m : Nat) (ps : List (Int × Int)) (p : Int × Int) : bagP m (ps ++ [p]) = (bagP m ps).set p.1.toNat (gl (bagP m ps) p.1 ++ [p.2]) := by
 unfold bagP
 rw [List.foldl_append]; rfl
theorem snoc_ind {α : Type} {P : List α → Prop} (h0 : P []) (h1 : ∀ l a, P l → P (l ++ [a])) (l : List α) : P l := by
 have : ∀ (n : Nat) (l : List α), l.length = n → P l := by
  intro n
  induction n with
  | zero => intro l hl; rw [List.eq_nil_of_length_eq_zero hl]; exact h0
  | succ n ih =>
   intro l hl
   have hne : l ≠ [] := by intro e; rw [e] at hl; simp at hl
   rw [← List.dropLast_concat_getLast hne]
   exact h1 _ _ (ih _ (by simp [hl]))
 exact this _ l rfl
theorem bagP_len (m : Nat) (ps : List (Int × Int)) : (bagP m ps).length = m := by
 induction ps using snoc_ind with
 | h0 => simp [bagP]
 | h1 l a ih => rw [bagP_snoc, List.length_set, ih]
theorem gl_blank (m : Nat) (e : Int) : gl (List.replicate m ([] : List Int)) e = [] := by
 simp only [gl, List.getD_eq_getElem?_getD, List.getElem?_replicate]
 split <;> rfl
theorem bagP_row {m : Nat} (ps : List (Int × Int)) : (∀ p ∈ ps, 0 ≤ p.1 ∧ p.1 < m) → ∀ e : Int, 0 ≤ e → (gl (bagP m ps) e).length ≤ ps.length := by
 induction ps using snoc_ind with
 | h0 => intro _ e _; rw [show bagP m [] = List.replicate m [] from rfl, gl_blank]; exact Nat.zero_le _
 | h1 l a ih =>
  intro h e he
  have ha := h a (by simp)
  have ih := ih (fun p hp => h p (by simp [hp]))
  rw [bagP_snoc, gl_set2 e he (by rw [bagP_len]; omega)]
  split
  ·have := ih a.1 ha.1; simp; omega
  ·have := ih e he; simp; omega
theorem bagP_mem {m : Nat} {b : Int} (ps : List (Int × Int)) : (∀ p ∈ ps, (0 ≤ p.1 ∧ p.1 < m) ∧ 0 ≤ p.2 ∧ p.2 < b) → ∀ e : Int, 0 ≤ e → ∀ x ∈ gl (bagP m ps) e, 0 ≤ x ∧ x < b := by
 induction ps using snoc_ind with
 | h0 => intro _ e _ x hx; rw [show bagP m [] = List.replicate m [] from rfl, gl_blank] at hx; cases hx
 | h1 l a ih =>
  intro h e he x hx
  have ha := h a (by simp)
  have ih := ih (fun p hp => h p (by simp [hp]))
  rw [bagP_snoc, gl_set2 e he (by rw [bagP_len]; omega)] at hx
  split at hx
  ·rcases List.mem_append.1 hx with hx | hx
   ·exact ih a.1 ha.1.1 x hx
   ·simp at hx; subst hx; exact ha.2
  ·exact ih e he x hx
def endsP (m : Nat) (ps : List (Int × Int)) : List (List Int) := (bagP m ps).map cs
theorem endsP_len (m : Nat) (ps : List (Int × Int)) : (endsP m ps).length = m := by rw [endsP, List.length_map, bagP_len]
theorem gl_endsP (m : Nat) (ps : List (Int × Int)) (e : Int) : gl (endsP m ps) e = cs (gl (bagP m ps) e) := by
 simp only [gl, endsP, List.getD_eq_getElem?_getD, List.getElem?_map]
 cases (bagP m ps)[e.toNat]? with
 | none => exact cs_nil.symm
 | some l => rfl
theorem endsP_nil (m : Nat) : endsP m [] = List.replicate m [] := by
 rw [endsP, show bagP m [] = List.replicate m [] from rfl, List.map_replicate, cs_nil]
theorem endsP_snoc (m : Nat) (ps : List (Int × Int)) (p : Int × Int) : endsP m (ps ++ [p]) = (endsP m ps).set p.1.toNat (cs (gl (endsP m ps) p.1 ++ [p.2])) := by
 rw [gl_endsP, cs_cs, endsP, bagP_snoc, List.map_set]
 rfl
theorem endsP_SA (m : Nat) (ps : List (Int × Int)) (e : Int) : SA (gl (endsP m ps) e) := by rw [gl_endsP]; exact cs_SA _
theorem endsP_row {m : Nat} {ps : List (Int × Int)} (h : ∀ p ∈ ps, 0 ≤ p.1 ∧ p.1 < m) (e : Int) (he : 0 ≤ e) : (gl (endsP m ps) e).length ≤ ps.length := by
 rw [gl_endsP]
 exact Nat.le_trans (cs_len _) (bagP_row ps h e he)

/-! the vertices at an edge's ends -/
theorem bag_mem {Vl El : List Int} {m : Nat} {b : Int} : ∀ f, (∀ k : Nat, k < f → (0 ≤ gi El k ∧ gi El k < m) ∧ 0 ≤ gi Vl k ∧ gi Vl k < b) → ∀ e : Int, 0 ≤ e → ∀ x ∈ gl (bag Vl El m f) e, 0 ≤ x ∧ x < b
 | 0, _, e, he, x, hx => by rw [show bag Vl El m 0 = List.replicate m [] from rfl, gl_blank] at hx; cases hx
 | f + 1, h, e, he, x, hx => by
  have hf := h f (by omega)
  have ih := bag_mem (Vl := Vl) f (fun k hk => h k (by omega))
  rw [bag, gl_set2 e he (by rw [bag_len]; omega)] at hx
  split at hx
  ·rcases List.mem_append.1 hx with hx | hx
   ·exact ih _ hf.1.1 x hx
   ·simp at hx; subst hx; exact hf.2
  ·exact ih e he x hx
def vertsN (xss : List (List Int)) : Nat := (facesN xss 0).toNat
theorem endsL_mem {xss : List (List Int)} (hM : Mani xss) (e : Int) (he : 0 ≤ e) : ∀ x ∈ gl (endsL xss) e, 0 ≤ x ∧ x < (vertsN xss : Int) := fun x hx => by
 rw [endsL, gl_ends, cs_mem] at hx
 exact bag_mem (gl xss 0).length (fun k hk => by
  have h0 := faces_in hM 0 k hk
  have h1 := faces_in hM 1 k hk
  unfold vertsN edgesN
  omega) e he x hx
/-- the pairs that the first e edges give -/
def arcs (En : List (List Int)) : Nat → List (Int × Int)
 | 0 => []
 | e + 1 => if (gl En e).length = 2 then (arcs En e ++ [(gi (gl En e) 0, gi (gl En e) 1)]) ++ [(gi (gl En e) 1, gi (gl En e) 0)] else arcs En e
theorem arcs_len (En : List (List Int)) : ∀ e, (arcs En e).length ≤ 2 * e
 | 0 => Nat.le_refl _
 | e + 1 => by
  have := arcs_len En e
  unfold arcs
  split
  ·simp; omega
  ·omega
theorem two_in {l : List Int} {b : Int} (h : ∀ x ∈ l, 0 ≤ x ∧ x < b) (h2 : l.length = 2) : (0 ≤ gi l 0 ∧ gi l 0 < b) ∧ 0 ≤ gi l 1 ∧ gi l 1 < b :=
 ⟨by rw [show (0 : Int) = ((0 : Nat) : Int) from rfl, gi_mem (by omega)]; exact h _ (List.getElem_mem _), by rw [show (1 : Int) = ((1 : Nat) : Int) from rfl, gi_mem (by omega)]; exact h _ (List.getElem_mem _)⟩
theorem arcs_in {En : List (List Int)} {b : Int} (h : ∀ e : Nat, ∀ x ∈ gl En e, 0 ≤ x ∧ x < b) : ∀ e, ∀ p ∈ arcs En e, (0 ≤ p.1 ∧ p.1 < b) ∧ 0 ≤ p.2 ∧ p.2 < b
 | 0, p, hp => by cases hp
 | e + 1, p, hp => by
  unfold arcs at hp
  split at hp
  ·rename_i h2
   have ht := two_in (h e) h2
   rcases List.mem_append.1 hp with hp | hp
   ·rcases List.mem_append.1 hp with hp | hp
    ·exact arcs_in h e p hp
    ·simp at hp; subst hp; exact ht
   ·simp at hp; subst hp; exact ⟨ht.2, ht.1⟩
  ·exact arcs_in h e p hp
def nbL (xss : List (List Int)) : List (List Int) := endsP (vertsN xss) (arcs (endsL xss) (edgesN xss))
theorem nbL_len (xss : List (List Int)) : (nbL xss).length = vertsN xss := endsP_len _ _
theorem nb_small {xss : List (List Int)} (hM : Mani xss) : edgesN xss ≤ 400 ∧ vertsN xss ≤ 400 ∧ (gl xss 0).length ≤ 400 := by
 have h0 := facesN_le xss 0
 have h1 := facesN_le xss 1
 have h2 := hM.2.1
 unfold edgesN vertsN
 omega

theorem l18Neighbours_c (A : Option Addr) (n c : Nat) (rs : List SlV) (xss : List (List Int)) (w : World) (hR : RowsI w A n rs xss) (hG : Grph xss) :
  Ret Tryz.prog 86 [.agg #[.slice A n c]] w (fun v w' => ∃ A' rs', v = .slice A' (vertsN xss) (vertsN xss) ∧ rs'.length = vertsN xss ∧ St w w' (mat 34 2 A' (vertsN xss) (vertsN xss) rs' (nbL xss) ++ [])) := by
 have hl := hR.len
 have hM := hG.1
 have hn2 := hG.2
 have h5 := hM.1
 have hsm := nb_small hM
 have hgr := faces_grt hM 0
 have hmN : ((vertsN xss : Nat) : Int) = facesN xss 0 := by have := facesN_le xss 0; unfold vertsN; omega
 have hEx : ∀ x ∈ facesL xss 0, x ≤ 1000000 := fun x hx => by
  obtain ⟨k, hk, rfl⟩ := List.mem_iff_getElem.1 hx
  have := faces_in hM 0 k (by rw [← facesL_len xss 0]; exact hk)
  rw [gi_mem hk] at this
  omega
 have hmem : ∀ e : Nat, ∀ x ∈ gl (endsL xss) e, 0 ≤ x ∧ x < (vertsN xss : Int) := fun e => endsL_mem hM e (by omega)
 have harc := arcs_in hmem
 have hal := arcs_len (endsL xss)
 have hEl := endsL_len xss
 have hnb : nbL xss = endsP (vertsN xss) (arcs (endsL xss) (edgesN xss)) := rfl
 rw [hnb]
 refine Ret.of_cd Tryz.func86 rfl Tryz.ntmps86 rfl (post1 rfl) ?_
 refine Cd.seq ?_
 refine Cd.region ?_
 refine Ops.box1 (St.refl w) rfl rfl ?_
 intro Ab w1 hS1
 refine Ops.mv_sl rfl rfl rfl ?_
 refine Ops.nil ?_
 refine thenQ_n ?_
 refine Cd.seq ?_
 refine Cd.region ?_
 refine Ops.ld_agg 0 (hS1.rd 0 rfl) rfl rfl rfl ?_
 refine Ops.call (l18Ends_c A n c rs xss _ (hS1.oldRows hR) hG) rfl rfl rfl ?_
 rintro _ w2 ⟨A3, rs3, rfl, hrl3, hst⟩
 have hS2 := hS1.call2 hst
 have hP2 := hst.rowsI hEl
 refine Ops.mv_sl rfl rfl rfl ?_
 refine Ops.nil ?_
 refine thenQ_n ?_
 refine Cd.seq ?_
 refine Cd.region ?_
 refine Ops.ld_agg 0 (hS2.rd 0 rfl) rfl rfl rfl ?_
 refine Ops.call (l02Faces_c A n c rs xss 0 _ (hS2.oldRows hR) hM (by omega)) rfl rfl rfl ?_
 rintro _ w3 ⟨A4, c4, rfl, hst4⟩
 have hP3 := hP2.later hst4.below
 have hS3 := (hS2.later hst4.below).none
 refine Ops.call (l02Greatest_c A4 _ c4 (facesL xss 0) w3 (hst4.rdI 0 rfl) (by omega) hEx) rfl rfl rfl ?_
 rintro _ w3 ⟨rfl, rfl⟩
 rw [hgr, ← hmN]
 generalize hv : vertsN xss = vN at *
 generalize hm : edgesN xss = m at *
 generalize hEn : endsL xss = En at *
 refine Ops.mkR vN (St.refl w3) rfl rfl (by omega) ?_
 intro A5 w4 hS4
 have hS4 : St w3 w4 (mat 34 2 A5 vN vN (List.replicate vN slNil) (endsP vN (arcs En 0)) ++ []) := by
  rw [show arcs En 0 = [] from rfl, endsP_nil, List.append_nil]
  exact nilRows vN hS4
 refine Ops.mv_sl rfl rfl rfl ?_
 refine Ops.nil ?_
 refine thenQ_n ?_
 refine Cd.seq ?_
 refine Cd.seq ?_
 refine Cd.region ?_
 refine Ops.mv_int rfl rfl rfl ?_
 refine Ops.nil ?_
 refine thenQ_n ?_
 refine Cd.block ?_
 refine Cd.loop (α := Nat × List SlV) (fun z => [(3, .slice A3 m m), (4, .slice A5 vN vN), (5, .int .i64 (z.1 : Int))]) (fun z w' => St w3 w' (mat 34 2 A5 vN vN z.2 (endsP vN (arcs En z.1)) ++ []) ∧ z.1 ≤ m ∧ z.2.length = vN) (fun z => m - z.1) (0, List.replicate vN slNil) ⟨rfl, rfl, rfl, trivial⟩ ⟨hS4, Nat.zero_le _, by simp⟩ ?_
 rintro ⟨e', rs5⟩ e w5 ⟨hS5, he, hrl⟩
 dsimp only at hS5 he hrl ⊢
 have hP5 := hS5.oldRows hP3
 refine Cd.seq ?_
 refine Cd.seq ?_
 refine Cd.region ?_
 refine Ops.mv_int rfl rfl rfl ?_
 refine Ops.mv_sl rfl rfl rfl ?_
 refine Ops.len rfl rfl ?_
 refine Ops.lss rfl rfl rfl ?_
 refine Ops.nil ?_
 refine thenQ_n ?_
 refine Cd.cond_p _ rfl (fun h1 => ?_) (fun h1 => ?_)
 ·have he' : e' < m := by omega
  have hrow := hP5.at_ (i := (e' : Int)) (by omega) h1
  have hrn := hP5.rowLen (k := (e' : Int)) (by omega) h1
  refine Cd.skip ?_
  refine thenQ_n ?_
  refine Cd.seq ?_
  refine Cd.block ?_
  refine Cd.seq ?_
  refine Cd.region ?_
  refine Ops.mv_sl rfl rfl rfl ?_
  refine Ops.mv_int rfl rfl rfl ?_
  refine Ops.idx hP5.top.2 rfl rfl rfl (by omega) h1 ?_
  refine Ops.ld_sl hP5.top rfl (by omega) rfl rfl ?_
  refine Ops.len rfl rfl ?_
  refine Ops.eql rfl rfl rfl ?_
  refine Ops.nil ?_
  refine thenQ_n ?_
  refine Cd.cond_p _ rfl (fun h2 => ?_) (fun h2 => ?_)
  ·have h22 : (gl En (e' : Int)).length = 2 := by omega
   have hn2 : (rg rs3 (e' : Int)).n = 2 := by omega
   have htw := two_in (hmem e') h22
   have hst2 : arcs En (e' + 1) = (arcs En e' ++ [(gi (gl En e') 0, gi (gl En e') 1)]) ++ [(gi (gl En e') 1, gi (gl En e') 0)] := by
    show (if _ then _ else _) = _
    rw [if_pos h22]
   have hps1 : ∀ p ∈ arcs En e', 0 ≤ p.1 ∧ p.1 < (vN : Int) := fun p hp => (harc e' p hp).1
   have hps2 : ∀ p ∈ arcs En e' ++ [(gi (gl En e') 0, gi (gl En e') 1)], 0 ≤ p.1 ∧ p.1 < (vN : Int) := fun p hp => by
    rcases List.mem_append.1 hp with hp | hp
    ·exact hps1 p hp
    ·simp at hp; subst hp; exact htw.1
   have hl1 := hal e'
   have hl2 : (arcs En e' ++ [(gi (gl En e') 0, gi (gl En e') 1)]).length ≤ 2 * e' + 1 := by simp; omega
   refine Cd.seq ?_
   refine Cd.draw [.ex (.slice (A3) (m) (m)), .ex (.int .i64 ((e' : Int))), .ex (.pointer (ptrAt (A3) ((e' : Int)).toNat)), .ex (.slice ((rg (rs3) ((e' : Int))).a) ((rg (rs3) ((e' : Int))).n) ((rg (rs3) ((e' : Int))).c)), .ex (.pointer (ptrAt ((rg (rs3) ((e' : Int))).a) ((0 : Int)).toNat)), .ex (.int .i64 (gi (gl En (e' : Int)) ((0 : Int)))), .ex (.slice (A3) (m) (m)), .ex (.int .i64 ((e' : Int))), .ex (.pointer (ptrAt (A3) ((e' : Int)).toNat)), .ex (.slice ((rg (rs3) ((e' : Int))).a) ((rg (rs3) ((e' : Int))).n) ((rg (rs3) ((e' : Int))).c)), .ex (.pointer (ptrAt ((rg (rs3) ((e' : Int))).a) ((1 : Int)).toNat)), .ex (.int .i64 (gi (gl En (e' : Int)) ((1 : Int)))), .ex (.int .i64 (gi (gl En (e' : Int)) ((0 : Int)))), .ex (.int .i64 (gi (gl En (e' : Int)) ((1 : Int))))] (by kernel_rfl) (by kernel_rfl) rfl (List.forall_mem_cons.2 ⟨Yd.lasts_ex _, (List.forall_mem_cons.2 ⟨Yd.lasts_ex _, (List.forall_mem_cons.2 ⟨Yd.lasts_ex _, (List.forall_mem_cons.2 ⟨Yd.lasts_ex _, (List.forall_mem_cons.2 ⟨Yd.lasts_ex _, (List.forall_mem_cons.2 ⟨Yd.lasts_ex _, (List.forall_mem_cons.2 ⟨Yd.lasts_ex _, (List.forall_mem_cons.2 ⟨Yd.lasts_ex _, (List.forall_mem_cons.2 ⟨Yd.lasts_ex _, (List.forall_mem_cons.2 ⟨Yd.lasts_ex _, (List.forall_mem_cons.2 ⟨Yd.lasts_ex _, (List.forall_mem_cons.2 ⟨Yd.lasts_ex _, (List.forall_mem_cons.2 ⟨Yd.lasts_ex _, (List.forall_mem_cons.2 ⟨Yd.lasts_ex _, (fun _ h => by cases h)⟩)⟩)⟩)⟩)⟩)⟩)⟩)⟩)⟩)⟩)⟩)⟩)⟩)⟩) ⟨?_, ?_, ?_, ?_, ?_, ?_, ?_, ?_, ?_, ?_, ?_, ?_, ?_, ?_, trivial⟩ ?_
   ·intro e1 w1 hb hp hun
    refine Ops.mv_sl rfl rfl rfl ?_
    refine Ops.nil ?_
    exact After.dn (Below.refl _ _) (by exact rfl)
   ·intro e1 w1 hb hp hun
    refine Ops.mv_int rfl rfl rfl ?_
    refine Ops.nil ?_
    exact After.dn (Below.refl _ _) (by exact rfl)
   ·intro e1 w1 hb hp hun
    refine Ops.idx (hP5.top.later hb).2 rfl rfl rfl (by omega) (by omega) ?_
    refine Ops.nil ?_
    exact After.dn (Below.refl _ _) (by exact rfl)
   ·intro e1 w1 hb hp hun
    refine Ops.ld_sl (hP5.top.later hb) rfl (by omega) rfl rfl ?_
    refine Ops.nil ?_
    exact After.dn (Below.refl _ _) (by exact rfl)
   ·intro e1 w1 hb hp hun
    refine Ops.idx (hrow.later hb).2 rfl rfl rfl (by omega) (by omega) ?_
    refine Ops.nil ?_
    exact After.dn (Below.refl _ _) (by exact rfl)
   ·intro e1 w1 hb hp hun
    refine Ops.ld_int (hrow.later hb) rfl (by omega) rfl rfl ?_
    refine Ops.nil ?_
    exact After.dn (Below.refl _ _) (by exact rfl)
   ·intro e1 w1 hb hp hun
    refine Ops.mv_sl rfl rfl rfl ?_
    refine Ops.nil ?_
    exact After.dn (Below.refl _ _) (by exact rfl)
   ·intro e1 w1 hb hp hun
    refine Ops.mv_int rfl rfl rfl ?_
    refine Ops.nil ?_
    exact After.dn (Below.refl _ _) (by exact rfl)
   ·intro e1 w1 hb hp hun
    refine Ops.idx (hP5.top.later hb).2 rfl rfl rfl (by omega) (by omega) ?_
    refine Ops.nil ?_
    exact After.dn (Below.refl _ _) (by exact rfl)
   ·intro e1 w1 hb hp hun
    refine Ops.ld_sl (hP5.top.later hb) rfl (by omega) rfl rfl ?_
    refine Ops.nil ?_
    exact After.dn (Below.refl _ _) (by exact rfl)
   ·intro e1 w1 hb hp hun
    refine Ops.idx (hrow.later hb).2 rfl rfl rfl (by omega) (by omega) ?_
    refine Ops.nil ?_
    exact After.dn (Below.refl _ _) (by exact rfl)
   ·intro e1 w1 hb hp hun
    refine Ops.ld_int (hrow.later hb) rfl (by omega) rfl rfl ?_
    refine Ops.nil ?_
    exact After.dn (Below.refl _ _) (by exact rfl)
   ·intro e1 w1 hb hp hun
    refine Ops.mv_int rfl rfl rfl ?_
    refine Ops.nil ?_
    exact After.dn (Below.refl _ _) (by exact rfl)
   ·intro e1 w1 hb hp hun
    refine Ops.mv_int rfl rfl rfl ?_
    refine Ops.nil ?_
    exact After.dn (Below.refl _ _) (by exact rfl)
   intro u w6 hb6 _
   have hS6 := hS5.later hb6
   generalize hu0 : gi (gl En (e' : Int)) 0 = a at *
   generalize hu1 : gi (gl En (e' : Int)) 1 = b at *
   generalize hps : arcs En e' = ps at *
   have hel6 := endsP_len vN ps
   have hM6 := hS6.rowsI hel6
   have hrow6 := hM6.at_ (i := a) htw.1.1 htw.1.2
   have hcap6 := hM6.cap_ (i := a) htw.1.1 htw.1.2
   have hrn6 := hM6.rowLen htw.1.1 htw.1.2
   have hrl6 := endsP_row hps1 a htw.1.1
   have hget6 : (mat 34 2 A5 vN vN rs5 (endsP vN ps) ++ [])[a.toNat + 1]? = some (CkI 2 (rg rs5 a).a (rg rs5 a).n (rg rs5 a).c (gl (endsP vN ps) a)) := by
    have := mat_get (t1 := 34) (t2 := 2) (A := A5) (n := vN) (c := vN) (rs := rs5) (xss := endsP vN ps) (pre := []) (ks := []) (i := a.toNat) (by omega) (by omega)
    rw [show ([] : List Ck).length + 1 + a.toNat = a.toNat + 1 by simp; omega] at this
    exact this
   refine thenQ_n ?_
   refine Cd.seq ?_
   refine Cd.region ?_
   refine Ops.mv_sl rfl rfl rfl ?_
   refine Ops.mv_int rfl rfl rfl ?_
   refine Ops.mv_sl rfl rfl rfl ?_
   refine Ops.mv_int rfl rfl rfl ?_
   refine Ops.idx hM6.top.2 rfl rfl rfl htw.1.1 htw.1.2 ?_
   refine Ops.ld_sl hM6.top rfl (by omega) rfl rfl ?_
   refine Ops.mv_int rfl rfl rfl ?_
   refine Ops.call (l17Insert_c _ _ (rg rs5 a).c _ b _ hrow6 hcap6.1 (by omega) (endsP_SA _ _ _)) rfl rfl rfl ?_
   rintro _ w7 ⟨A7, c7, rfl, hbl7, hor7⟩
   have hS7 := hS6.insRow hget6 hbl7 hor7
   have hT7 := hS7.rdR 0 rfl
   refine Ops.idx hT7.2 rfl rfl rfl htw.1.1 htw.1.2 ?_
   refine Ops.st_sl 0 hS7 rfl rfl rfl (by omega) ?_
   intro w8 hS8
   have hS8 : St w3 w8 (mat 34 2 A5 vN vN (rs5.set a.toNat ⟨A7, (cs (gl (endsP vN ps) a ++ [b])).length, c7⟩) (endsP vN (ps ++ [(a, b)])) ++ []) := by
    rw [endsP_snoc vN ps (a, b), ← mat_upd (by omega) (by omega)]
    exact hS8
   have hel8 := endsP_len vN (ps ++ [(a, b)])
   have hM8 := hS8.rowsI hel8
   generalize hrs8 : rs5.set a.toNat ⟨A7, (cs (gl (endsP vN ps) a ++ [b])).length, c7⟩ = rs8 at *
   have hrl8 : rs8.length = vN := by rw [← hrs8, List.length_set]; exact hrl
   have hrow8 := hM8.at_ (i := b) htw.2.1 htw.2.2
   have hcap8 := hM8.cap_ (i := b) htw.2.1 htw.2.2
   have hrn8 := hM8.rowLen htw.2.1 htw.2.2
   have hrl28 := endsP_row hps2 b htw.2.1
   have hget8 : (mat 34 2 A5 vN vN rs8 (endsP vN (ps ++ [(a, b)])) ++ [])[b.toNat + 1]? = some (CkI 2 (rg rs8 b).a (rg rs8 b).n (rg rs8 b).c (gl (endsP vN (ps ++ [(a, b)])) b)) := by
    have := mat_get (t1 := 34) (t2 := 2) (A := A5) (n := vN) (c := vN) (rs := rs8) (xss := endsP vN (ps ++ [(a, b)])) (pre := []) (ks := []) (i := b.toNat) (by omega) (by omega)
    rw [show ([] : List Ck).length + 1 + b.toNat = b.toNat + 1 by simp; omega] at this
    exact this
   refine Ops.nil ?_
   refine thenQ_n ?_
   refine Cd.region ?_
   refine Ops.mv_sl rfl rfl rfl ?_
   refine Ops.mv_int rfl rfl rfl ?_
   refine Ops.mv_sl rfl rfl rfl ?_
   refine Ops.mv_int rfl rfl rfl ?_
   refine Ops.idx hM8.top.2 rfl rfl rfl htw.2.1 htw.2.2 ?_
   refine Ops.ld_sl hM8.top rfl (by omega) rfl rfl ?_
   refine Ops.mv_int rfl rfl rfl ?_
   refine Ops.call (l17Insert_c _ _ (rg rs8 b).c _ a _ hrow8 hcap8.1 (by omega) (endsP_SA _ _ _)) rfl rfl rfl ?_
   rintro _ w9 ⟨A9, c9, rfl, hbl9, hor9⟩
   have hS9 := hS8.insRow hget8 hbl9 hor9
   have hT9 := hS9.rdR 0 rfl
   refine Ops.idx hT9.2 rfl rfl rfl htw.2.1 htw.2.2 ?_
   refine Ops.st_sl 0 hS9 rfl rfl rfl (by omega) ?_
   intro w10 hS10
   refine Ops.nil ?_
   refine blockQ_n ?_
   refine thenQ_n ?_
   refine Cd.region ?_
   refine Ops.mv_int rfl rfl rfl ?_
   refine Ops.add rfl rfl rfl (by omega) ?_
   refine Ops.mv_int rfl rfl rfl ?_
   refine Ops.nil ?_
   refine thenQ_n ?_
   refine ⟨(e' + 1, rs8.set b.toNat ⟨A9, (cs (gl (endsP vN (ps ++ [(a, b)])) b ++ [a])).length, c9⟩), by show m - (e' + 1) < m - e'; omega, ⟨rfl, rfl, rfl, trivial⟩, ?_, he', by show (rs8.set _ _).length = vN; rw [List.length_set]; exact hrl8⟩
   show St w3 w10 (mat _ _ A5 vN vN _ (endsP vN (arcs En (e' + 1))) ++ [])
   rw [hst2, endsP_snoc vN (ps ++ [(a, b)]) (b, a), ← mat_upd (by omega) (by omega)]
   exact hS10
  ·have hst2 : arcs En (e' + 1) = arcs En e' := by
    show (if _ then _ else _) = _
    rw [if_neg (by omega)]
   refine Cd.skip ?_
   refine blockQ_n ?_
   refine thenQ_n ?_
   refine Cd.region ?_
   refine Ops.mv_int rfl rfl rfl ?_
   refine Ops.add rfl rfl rfl (by omega) ?_
   refine Ops.mv_int rfl rfl rfl ?_
   refine Ops.nil ?_
   refine thenQ_n ?_
   exact ⟨(e' + 1, rs5), by show m - (e' + 1) < m - e'; omega, ⟨rfl, rfl, rfl, trivial⟩, by show St w3 w5 (mat _ _ A5 vN vN rs5 (endsP vN (arcs En (e' + 1))) ++ []); rw [hst2]; exact hS5, he', hrl⟩
 ·refine Cd.exit ?_
  refine thenQ_x ?_
  refine thenQ_x ?_
  refine blockQ_x ?_
  refine thenQ_n ?_
  refine Cd.seq ?_
  refine Cd.region ?_
  refine Ops.mv_sl rfl rfl rfl ?_
  refine Ops.mv_sl rfl rfl rfl ?_
  refine Ops.nil ?_
  refine thenQ_n ?_
  refine Cd.ret ?_
  refine ret1_s rfl ?_
  have hem : e' = m := by omega
  subst hem
  refine ⟨A5, rs5, rfl, hrl, ?_⟩
  have := hS3.call hS5
  rwa [List.append_nil] at this
end Go.Proofs.YtjpkmpihmilgoaaGreat.Vc
/-
 Neighbours on the program's side, and the answers on both. Conditions: as each states them.
-/
namespace Go.Proofs.YtjpkmpihmilgoaaGreat.Vc
open Go.RowKit

theorem mat_updk {t1 t2 : TypeId} {A : Option Addr} {n c : Nat} {rs : List SlV} {xss : List (List Int)} {i : Nat} {s : SlV} {xs : List Int} {ks : List Ck} (hr : rs.length = xss.length) (hi : i < rs.length) : CkR t1 A n c (rs.set i s) :: (rowsCk t2 rs xss ++ ks).set i (CkI t2 s.a s.n s.c xs) = mat t1 t2 A n c (rs.set i s) (xss.set i xs) ++ ks := by
 rw [List.set_append_left _ _ (by rw [rowsCk_length hr]; exact hi), rowsCk_upd hr]; rfl

theorem mat_len {t1 t2 : TypeId} {A : Option Addr} {n c : Nat} {rs : List SlV} {xss : List (List Int)} (h : rs.length = xss.length) : (mat t1 t2 A n c rs xss).length = rs.length + 1 := by simp [mat, rowsCk_length h]
theorem St.setTail {w0 w : World} {a k : List Ck} {i : Nat} {x : Ck} (h : St w0 w ((a ++ k).set i x)) (hi : i < a.length) : St w0 w k := by
 rw [List.set_append_left _ _ hi] at h
 exact h.sub (List.sublist_append_right _ _)

theorem neighboursOf_c (A : Option Addr) (n c : Nat) (rs : List SlV) (xss : List (List Int)) (w : World) (hR : RowsI w A n rs xss) (hG : Grph xss) :
  Ret Tryz.prog 88 [.agg #[.slice A n c]] w (fun v w' => ∃ A' rs', v = .slice A' (vertsN xss) (vertsN xss) ∧ rs'.length = vertsN xss ∧ St w w' (mat 34 2 A' (vertsN xss) (vertsN xss) rs' (nbL xss) ++ [])) := by
 have hl := hR.len
 have hM := hG.1
 have hn2 := hG.2
 have h5 := hM.1
 have hsm := nb_small hM
 have hmN : ((vertsN xss : Nat) : Int) = facesN xss 0 := by have := facesN_le xss 0; unfold vertsN; omega
 have hmem : ∀ e : Nat, ∀ x ∈ gl (endsL xss) e, 0 ≤ x ∧ x < (vertsN xss : Int) := fun e => endsL_mem hM e (by omega)
 have harc := arcs_in hmem
 have hal := arcs_len (endsL xss)
 have hEl := endsL_len xss
 have hnb : nbL xss = endsP (vertsN xss) (arcs (endsL xss) (edgesN xss)) := rfl
 rw [hnb]
 refine Ret.of_cd Tryz.func88 rfl Tryz.ntmps88 rfl (post1 rfl) ?_
 refine Cd.seq ?_
 refine Cd.region ?_
 refine Ops.box1 (St.refl w) rfl rfl ?_
 intro Ab w1 hS1
 refine Ops.mv_sl rfl rfl rfl ?_
 refine Ops.nil ?_
 refine thenQ_n ?_
 refine Cd.seq ?_
 refine Cd.region ?_
 refine Ops.call (faces_c Ab A n c rs xss 0 _ (Rd.one (hS1.rd 0 rfl)) (hS1.oldRows hR) hM (by omega)) rfl rfl rfl ?_
 rintro _ w2 ⟨A3, rfl, hst⟩
 have hS2 := hS1.later hst.below
 rw [← hmN]
 refine Ops.mv_tup rfl rfl rfl ?_
 refine Ops.extract rfl rfl rfl ?_
 refine Ops.extract rfl rfl rfl ?_
 refine Ops.mv_sl rfl rfl rfl ?_
 refine Ops.mv_int rfl rfl rfl ?_
 refine Ops.nil ?_
 refine thenQ_n ?_
 refine Cd.seq ?_
 refine Cd.region ?_
 refine Ops.mv_int rfl rfl rfl ?_
 refine Ops.mkR (vertsN xss) hS2 rfl rfl (by omega) ?_
 intro A5 w3 hS3
 have hS3 : St w w3 ([Bx 32 1 Ab [.slice A n c]] ++ mat 34 2 A5 (vertsN xss) (vertsN xss) (List.replicate (vertsN xss) slNil) (bagP (vertsN xss) (arcs (endsL xss) 0))) := by
  have := nilRows (t := 2) (vertsN xss) hS3
  exact this.perm (List.Perm.swap _ _ _)
 refine Ops.mv_sl rfl rfl rfl ?_
 refine Ops.nil ?_
 refine thenQ_n ?_
 refine Cd.seq ?_
 refine Cd.seq ?_
 refine Cd.region ?_
 refine Ops.ld_agg 0 (hS3.rd 0 rfl) rfl rfl rfl ?_
 refine Ops.call (endsOf_c A n c rs xss _ (hS3.oldRows hR) hG) rfl rfl rfl ?_
 rintro _ w4 ⟨A16, rs3, rfl, hrl3, hst4⟩
 have hEl4 : (endsL xss).length = edgesN xss := hEl
 obtain ⟨k16, hk16⟩ : ∃ k, k = mat 34 2 A16 (edgesN xss) (edgesN xss) rs3 (endsL xss) ++ [] := ⟨_, rfl⟩
 have hS4 : St w w4 (mat 34 2 A5 (vertsN xss) (vertsN xss) (List.replicate (vertsN xss) slNil) (bagP (vertsN xss) (arcs (endsL xss) 0)) ++ k16) := by
  have := hS3.call2 hst4
  rw [← hk16, List.append_assoc] at this
  exact this.tail
 have hEnK : ∀ {w' : World}, St w w' k16 → RowsI w' A16 (edgesN xss) rs3 (endsL xss) := fun h => by
  rw [hk16] at h
  exact h.rowsI hEl4
 have hEnR : ∀ {w' : World} {rs5 : List SlV} {B : List (List Int)}, St w w' (mat 34 2 A5 (vertsN xss) (vertsN xss) rs5 B ++ k16) → RowsI w' A16 (edgesN xss) rs3 (endsL xss) := fun h => hEnK h.unmat
 clear hk16 hst4 hS3 hS2
 generalize hv : vertsN xss = vN at *
 generalize hm : edgesN xss = m at *
 generalize hEn : endsL xss = En at *
 refine Ops.len rfl rfl ?_
 refine Ops.mv_int rfl rfl rfl ?_
 refine Ops.nil ?_
 refine thenQ_n ?_
 refine Cd.block ?_
 refine Cd.loop (α := Nat × List SlV) (fun z => [(5, .slice A5 vN vN), (16, .slice A16 m m), (17, .int .i64 (m : Int)), (18, .int .i64 (z.1 : Int))]) (fun z w' => St w w' (mat 34 2 A5 vN vN z.2 (bagP vN (arcs En z.1)) ++ k16) ∧ z.1 ≤ m ∧ z.2.length = vN) (fun z => m - z.1) (0, List.replicate vN slNil) ⟨rfl, rfl, rfl, rfl, trivial⟩ ⟨hS4, Nat.zero_le _, by simp⟩ ?_
 rintro ⟨e', rs5⟩ e w5 ⟨hS5, he, hrl⟩
 dsimp only at hS5 he hrl ⊢
 have hP5 := hEnR hS5
 refine Cd.seq ?_
 refine Cd.region ?_
 refine Ops.lss rfl rfl rfl ?_
 refine Ops.nil ?_
 refine thenQ_n ?_
 refine Cd.seq ?_
 refine Cd.cond_p _ rfl (fun h1 => ?_) (fun h1 => ?_)
 ·have he' : e' < m := by omega
  have hrn := hP5.rowLen (k := (e' : Int)) (by omega) h1
  refine Cd.skip ?_
  refine thenQ_n ?_
  refine Cd.seq ?_
  refine Cd.block ?_
  refine Cd.seq ?_
  refine Cd.region ?_
  refine Ops.idx hP5.top.2 rfl rfl rfl (by omega) h1 ?_
  refine Ops.ld_sl hP5.top rfl (by omega) rfl rfl ?_
  refine Ops.mv_sl rfl rfl rfl ?_
  refine Ops.nil ?_
  refine thenQ_n ?_
  refine Cd.seq ?_
  refine Cd.region ?_
  refine Ops.mv_sl rfl rfl rfl ?_
  refine Ops.len rfl rfl ?_
  refine Ops.eql rfl rfl rfl ?_
  refine Ops.nil ?_
  refine thenQ_n ?_
  refine Cd.cond_p _ rfl (fun h2 => ?_) (fun h2 => ?_)
  ·have h22 : (gl En (e' : Int)).length = 2 := by omega
   have hn2 : (rg rs3 (e' : Int)).n = 2 := by omega
   have htw := two_in (hmem e') h22
   have hst2 : arcs En (e' + 1) = (arcs En e' ++ [(gi (gl En (e' : Int)) 0, gi (gl En (e' : Int)) 1)]) ++ [(gi (gl En (e' : Int)) 1, gi (gl En (e' : Int)) 0)] := by
    show (if _ then _ else _) = _
    rw [if_pos h22]
   have hps1 : ∀ p ∈ arcs En e', 0 ≤ p.1 ∧ p.1 < (vN : Int) := fun p hp => (harc e' p hp).1
   have hps2 : ∀ p ∈ arcs En e' ++ [(gi (gl En (e' : Int)) 0, gi (gl En (e' : Int)) 1)], 0 ≤ p.1 ∧ p.1 < (vN : Int) := fun p hp => by
    rcases List.mem_append.1 hp with hp | hp
    ·exact hps1 p hp
    ·simp at hp; subst hp; exact htw.1
   have hl1 := hal e'
   have hl2 : (arcs En e' ++ [(gi (gl En (e' : Int)) 0, gi (gl En (e' : Int)) 1)]).length ≤ 2 * e' + 1 := by simp; omega
   have hbl5 := bagP_len vN (arcs En e')
   have hM5 := hS5.rowsI hbl5
   have hrn5 := hM5.rowLen htw.1.1 htw.1.2
   have hrl5 := bagP_row _ hps1 (gi (gl En (e' : Int)) 0) htw.1.1
   have hlt5 : (gi (gl En (e' : Int)) 0).toNat < vN := by omega
   have hrow5 := (hEnR hS5).at_ (i := (e' : Int)) (by omega) h1
   have hget5 : (mat 34 2 A5 vN vN rs5 (bagP vN (arcs En e')) ++ k16)[(gi (gl En (e' : Int)) 0).toNat + 1]? = some (CkI 2 (rg rs5 (gi (gl En (e' : Int)) 0)).a (rg rs5 (gi (gl En (e' : Int)) 0)).n (rg rs5 (gi (gl En (e' : Int)) 0)).c (gl (bagP vN (arcs En e')) (gi (gl En (e' : Int)) 0))) := by
    have := mat_get (t1 := 34) (t2 := 2) (A := A5) (n := vN) (c := vN) (rs := rs5) (xss := bagP vN (arcs En e')) (pre := []) (ks := k16) (i := (gi (gl En (e' : Int)) 0).toNat) (by omega) (by omega)
    rw [show ([] : List Ck).length + 1 + (gi (gl En (e' : Int)) 0).toNat = (gi (gl En (e' : Int)) 0).toNat + 1 by simp; omega] at this
    exact this
   refine Cd.seq ?_
   refine Cd.drawN [14, 16] [.ex (.slice (A5) (vN) (vN)), .ex (.slice ((rg rs3 (e' : Int)).a) ((rg rs3 (e' : Int)).n) ((rg rs3 (e' : Int)).c)), .ex (.pointer (ptrAt (rg rs3 (e' : Int)).a (0 : Int).toNat)), .ex (.int .i64 (gi (gl En (e' : Int)) 0)), .ex (.slice (A5) (vN) (vN)), .ex (.slice ((rg rs3 (e' : Int)).a) ((rg rs3 (e' : Int)).n) ((rg rs3 (e' : Int)).c)), .ex (.pointer (ptrAt ((rg rs3 (e' : Int)).a) ((0 : Int)).toNat)), .ex (.int .i64 (gi (gl En (e' : Int)) ((0 : Int)))), .ex (.pointer (ptrAt (A5) (gi (gl En (e' : Int)) ((0 : Int))).toNat)), .ex (.slice ((rg (rs5) (gi (gl En (e' : Int)) ((0 : Int)))).a) ((rg (rs5) (gi (gl En (e' : Int)) ((0 : Int)))).n) ((rg (rs5) (gi (gl En (e' : Int)) ((0 : Int)))).c)), .ex (.slice ((rg rs3 (e' : Int)).a) ((rg rs3 (e' : Int)).n) ((rg rs3 (e' : Int)).c)), .ex (.pointer (ptrAt ((rg rs3 (e' : Int)).a) ((1 : Int)).toNat)), .ex (.int .i64 (gi (gl En (e' : Int)) ((1 : Int)))), .pr (fun v w' => ∃ A1, v = .slice A1 1 1 ∧ RdI w' A1 1 [gi (gl En (e' : Int)) 1]), .pr (fun v w' => ∃ A1 c1, v = .slice A1 ((rg rs5 (gi (gl En (e' : Int)) 0)).n + 1) c1 ∧ St w w' ((mat 34 2 A5 vN vN rs5 (bagP vN (arcs En e')) ++ k16).set ((gi (gl En (e' : Int)) 0).toNat + 1) (CkI 2 A1 ((rg rs5 (gi (gl En (e' : Int)) 0)).n + 1) c1 (gl (bagP vN (arcs En e')) (gi (gl En (e' : Int)) 0) ++ [gi (gl En (e' : Int)) 1]))) ∧ RowsI w' A16 m rs3 En), .ex (.pointer (ptrAt (A5) (gi (gl En (e' : Int)) 0).toNat)), .pr (fun _ w' => ∃ s : SlV, St w w' (mat 34 2 A5 vN vN (rs5.set (gi (gl En (e' : Int)) 0).toNat s) (bagP vN ((arcs En e') ++ [(gi (gl En (e' : Int)) 0, gi (gl En (e' : Int)) 1)])) ++ k16))] (by kernel_rfl) (by kernel_rfl) (List.forall_mem_cons.2 ⟨Yd.lasts_ex _, (List.forall_mem_cons.2 ⟨Yd.lasts_ex _, (List.forall_mem_cons.2 ⟨Yd.lasts_ex _, (List.forall_mem_cons.2 ⟨Yd.lasts_ex _, (List.forall_mem_cons.2 ⟨Yd.lasts_ex _, (List.forall_mem_cons.2 ⟨Yd.lasts_ex _, (List.forall_mem_cons.2 ⟨Yd.lasts_ex _, (List.forall_mem_cons.2 ⟨Yd.lasts_ex _, (List.forall_mem_cons.2 ⟨Yd.lasts_ex _, (List.forall_mem_cons.2 ⟨Yd.lasts_ex _, (List.forall_mem_cons.2 ⟨Yd.lasts_ex _, (List.forall_mem_cons.2 ⟨Yd.lasts_ex _, (List.forall_mem_cons.2 ⟨Yd.lasts_ex _, (List.forall_mem_cons.2 ⟨Yd.lasts_pr (fun v w w' h hb => by obtain ⟨A1, hv, hT⟩ := h; exact ⟨A1, hv, hT.later hb⟩), (List.forall_mem_cons.2 ⟨Yd.lasts_pr (fun v w w' h hb => by obtain ⟨A1, c1, hv, hT, hE⟩ := h; exact ⟨A1, c1, hv, hT.later hb, hE.later hb⟩), (List.forall_mem_cons.2 ⟨Yd.lasts_ex _, (List.forall_mem_cons.2 ⟨Yd.lasts_pr (fun v w w' h hb => by obtain ⟨s, hT⟩ := h; exact ⟨s, hT.later hb⟩), (fun _ h => by cases h)⟩)⟩)⟩)⟩)⟩)⟩)⟩)⟩)⟩)⟩)⟩)⟩)⟩)⟩)⟩)⟩)⟩) ⟨?_, ?_, ?_, ?_, ?_, ?_, ?_, ?_, ?_, ?_, ?_, ?_, ?_, ?_, ?_, ?_, ?_, trivial⟩ ?_
   ·intro e1 w1 cc hlo hhi hb0 hp hun hq
    show Ops _ _ _ _ _ _ _
    refine Ops.mv_sl rfl rfl rfl ?_
    refine Ops.nil ?_
    exact AfterN.dn rfl (Below.refl _ _) (by exact rfl)
   ·intro e1 w1 cc hlo hhi hb0 hp hun hq
    show Ops _ _ _ _ _ _ _
    refine Ops.mv_sl rfl rfl rfl ?_
    refine Ops.nil ?_
    exact AfterN.dn rfl (Below.refl _ _) (by exact rfl)
   ·intro e1 w1 cc hlo hhi hb0 hp hun hq
    show Ops _ _ _ _ _ _ _
    have hE : RdI w1 (rg rs3 (e' : Int)).a (rg rs3 (e' : Int)).n (gl En (e' : Int)) := by { have hhi := le_of_hi hhi (b := 1) (by kernel_rfl); rcases (show cc = 0 ∨ cc = 1 by omega) with h | h; { exact (hEnR (hS5.later (hb0 h))).at_ (i := (e' : Int)) (by omega) h1 }; { subst h; obtain ⟨A0, c0, _, _, hE1⟩ := hq 14 _ _ (by kernel_rfl) (by kernel_rfl) (by kernel_rfl) rfl rfl (by kernel_rfl); exact hE1.at_ (i := (e' : Int)) (by omega) h1 } }
    refine Ops.idx hE.2 rfl rfl rfl (by omega) (by omega) ?_
    refine Ops.nil ?_
    exact AfterN.dn rfl (Below.refl _ _) (by exact rfl)
   ·intro e1 w1 cc hlo hhi hb0 hp hun hq
    show Ops _ _ _ _ _ _ _
    have hE : RdI w1 (rg rs3 (e' : Int)).a (rg rs3 (e' : Int)).n (gl En (e' : Int)) := by { have hhi := le_of_hi hhi (b := 1) (by kernel_rfl); rcases (show cc = 0 ∨ cc = 1 by omega) with h | h; { exact (hEnR (hS5.later (hb0 h))).at_ (i := (e' : Int)) (by omega) h1 }; { subst h; obtain ⟨A0, c0, _, _, hE1⟩ := hq 14 _ _ (by kernel_rfl) (by kernel_rfl) (by kernel_rfl) rfl rfl (by kernel_rfl); exact hE1.at_ (i := (e' : Int)) (by omega) h1 } }
    refine Ops.ld_int hE rfl (by omega) rfl rfl ?_
    refine Ops.nil ?_
    exact AfterN.dn rfl (Below.refl _ _) (by exact rfl)
   ·intro e1 w1 cc hlo hhi hb0 hp hun hq
    show Ops _ _ _ _ _ _ _
    refine Ops.mv_sl rfl rfl rfl ?_
    refine Ops.nil ?_
    exact AfterN.dn rfl (Below.refl _ _) (by exact rfl)
   ·intro e1 w1 cc hlo hhi hb0 hp hun hq
    show Ops _ _ _ _ _ _ _
    refine Ops.mv_sl rfl rfl rfl ?_
    refine Ops.nil ?_
    exact AfterN.dn rfl (Below.refl _ _) (by exact rfl)
   ·intro e1 w1 cc hlo hhi hb0 hp hun hq
    show Ops _ _ _ _ _ _ _
    replace hlo := le_of_lo hlo (b := 0) (by kernel_rfl)
    replace hhi := le_of_hi hhi (b := 0) (by kernel_rfl)
    obtain rfl : cc = 0 := by omega
    have hb := hb0 rfl
    refine Ops.idx (hrow5.later hb).2 rfl rfl rfl (by omega) (by omega) ?_
    refine Ops.nil ?_
    exact AfterN.dn rfl (Below.refl _ _) (by exact rfl)
   ·intro e1 w1 cc hlo hhi hb0 hp hun hq
    show Ops _ _ _ _ _ _ _
    replace hlo := le_of_lo hlo (b := 0) (by kernel_rfl)
    replace hhi := le_of_hi hhi (b := 0) (by kernel_rfl)
    obtain rfl : cc = 0 := by omega
    have hb := hb0 rfl
    refine Ops.ld_int (hrow5.later hb) rfl (by omega) rfl rfl ?_
    refine Ops.nil ?_
    exact AfterN.dn rfl (Below.refl _ _) (by exact rfl)
   ·intro e1 w1 cc hlo hhi hb0 hp hun hq
    show Ops _ _ _ _ _ _ _
    replace hlo := le_of_lo hlo (b := 0) (by kernel_rfl)
    replace hhi := le_of_hi hhi (b := 0) (by kernel_rfl)
    obtain rfl : cc = 0 := by omega
    have hb := hb0 rfl
    refine Ops.idx (hM5.top.later hb).2 rfl rfl rfl (by omega) (by omega) ?_
    refine Ops.nil ?_
    exact AfterN.dn rfl (Below.refl _ _) (by exact rfl)
   ·intro e1 w1 cc hlo hhi hb0 hp hun hq
    show Ops _ _ _ _ _ _ _
    replace hlo := le_of_lo hlo (b := 0) (by kernel_rfl)
    replace hhi := le_of_hi hhi (b := 0) (by kernel_rfl)
    obtain rfl : cc = 0 := by omega
    have hb := hb0 rfl
    refine Ops.ld_sl (hM5.top.later hb) rfl (by omega) rfl rfl ?_
    refine Ops.nil ?_
    exact AfterN.dn rfl (Below.refl _ _) (by exact rfl)
   ·intro e1 w1 cc hlo hhi hb0 hp hun hq
    show Ops _ _ _ _ _ _ _
    refine Ops.mv_sl rfl rfl rfl ?_
    refine Ops.nil ?_
    exact AfterN.dn rfl (Below.refl _ _) (by exact rfl)
   ·intro e1 w1 cc hlo hhi hb0 hp hun hq
    show Ops _ _ _ _ _ _ _
    replace hlo := le_of_lo hlo (b := 0) (by kernel_rfl)
    replace hhi := le_of_hi hhi (b := 0) (by kernel_rfl)
    obtain rfl : cc = 0 := by omega
    have hb := hb0 rfl
    refine Ops.idx (hrow5.later hb).2 rfl rfl rfl (by omega) (by omega) ?_
    refine Ops.nil ?_
    exact AfterN.dn rfl (Below.refl _ _) (by exact rfl)
   ·intro e1 w1 cc hlo hhi hb0 hp hun hq
    show Ops _ _ _ _ _ _ _
    replace hlo := le_of_lo hlo (b := 0) (by kernel_rfl)
    replace hhi := le_of_hi hhi (b := 0) (by kernel_rfl)
    obtain rfl : cc = 0 := by omega
    have hb := hb0 rfl
    refine Ops.ld_int (hrow5.later hb) rfl (by omega) rfl rfl ?_
    refine Ops.nil ?_
    exact AfterN.dn rfl (Below.refl _ _) (by exact rfl)
   ·intro e1 w1 cc hlo hhi hb0 hp hun hq
    show Ops _ _ _ _ _ _ _
    refine Ops.bs1I (St.refl _) rfl rfl rfl ?_
    intro A1 w9 hst
    refine Ops.nil ?_
    exact AfterN.dn rfl hst.below ⟨A1, rfl, hst.rdI 0 rfl⟩
   ·intro e1 w1 cc hlo hhi hb0 hp hun hq
    show Ops _ _ _ _ _ _ _
    replace hlo := le_of_lo hlo (b := 0) (by kernel_rfl)
    replace hhi := le_of_hi hhi (b := 0) (by kernel_rfl)
    obtain rfl : cc = 0 := by omega
    have hb := hb0 rfl
    obtain ⟨A0, h38, hT0⟩ := (hp 13 _ _ (by kernel_rfl) rfl rfl (by kernel_rfl))
    refine Ops.appI ((gi (gl En (e' : Int)) 0).toNat + 1) (hS5.later hb) hget5 hT0 rfl (by exact h38) rfl (by omega) (by omega) rfl ?_
    intro A1 c1 w9 hst
    refine Ops.nil ?_
    exact AfterT.dn rfl ⟨A1, c1, rfl, hst, hEnK (hst.setTail (by rw [mat_len (by omega)]; omega))⟩
   ·intro e1 w1 cc hlo hhi hb0 hp hun hq
    show Ops _ _ _ _ _ _ _
    replace hlo := le_of_lo hlo (b := 1) (by kernel_rfl)
    replace hhi := le_of_hi hhi (b := 1) (by kernel_rfl)
    obtain rfl : cc = 1 := by omega
    have hph := hp 14 _ _ (by kernel_rfl) rfl rfl (by kernel_rfl)
    obtain ⟨A1, c1, h39, hT, _⟩ := hph
    have hTop := hT.rdR 0 rfl
    refine Ops.idx (hTop).2 rfl rfl rfl (by omega) (by omega) ?_
    refine Ops.nil ?_
    exact AfterN.dn rfl (Below.refl _ _) (by exact rfl)
   ·intro e1 w1 cc hlo hhi hb0 hp hun hq
    show Ops _ _ _ _ _ _ _
    replace hlo := le_of_lo hlo (b := 1) (by kernel_rfl)
    replace hhi := le_of_hi hhi (b := 1) (by kernel_rfl)
    obtain rfl : cc = 1 := by omega
    have hph := hp 14 _ _ (by kernel_rfl) rfl rfl (by kernel_rfl)
    obtain ⟨A1, c1, h39, hT, _⟩ := hph
    have hTop := hT.rdR 0 rfl
    refine Ops.st_sl 0 hT rfl rfl (by exact h39) hlt5 ?_
    intro w9 hst
    refine Ops.nil ?_
    exact AfterT.st rfl ⟨⟨A1, _, c1⟩, by rw [bagP_snoc vN (arcs En e') (gi (gl En (e' : Int)) 0, gi (gl En (e' : Int)) 1), ← mat_updk (by omega) (by omega)]; exact hst⟩
   intro u w6 _ hu
   obtain ⟨s6, hS6⟩ := hu 16 _ rfl (by kernel_rfl)
   generalize hrs6 : rs5.set (gi (gl En (e' : Int)) 0).toNat s6 = rs6 at *
   have hrl66 : rs6.length = vN := by rw [← hrs6, List.length_set]; exact hrl
   have hbl6 := bagP_len vN (arcs En e' ++ [(gi (gl En (e' : Int)) 0, gi (gl En (e' : Int)) 1)])
   have hM6 := hS6.rowsI hbl6
   have hrn6 := hM6.rowLen htw.2.1 htw.2.2
   have hrl6 := bagP_row _ hps2 (gi (gl En (e' : Int)) 1) htw.2.1
   have hlt6 : (gi (gl En (e' : Int)) 1).toNat < vN := by omega
   have hrow6 := (hEnR hS6).at_ (i := (e' : Int)) (by omega) h1
   have hget6 : (mat 34 2 A5 vN vN rs6 (bagP vN (arcs En e' ++ [(gi (gl En (e' : Int)) 0, gi (gl En (e' : Int)) 1)])) ++ k16)[(gi (gl En (e' : Int)) 1).toNat + 1]? = some (CkI 2 (rg rs6 (gi (gl En (e' : Int)) 1)).a (rg rs6 (gi (gl En (e' : Int)) 1)).n (rg rs6 (gi (gl En (e' : Int)) 1)).c (gl (bagP vN (arcs En e' ++ [(gi (gl En (e' : Int)) 0, gi (gl En (e' : Int)) 1)])) (gi (gl En (e' : Int)) 1))) := by
    have := mat_get (t1 := 34) (t2 := 2) (A := A5) (n := vN) (c := vN) (rs := rs6) (xss := bagP vN (arcs En e' ++ [(gi (gl En (e' : Int)) 0, gi (gl En (e' : Int)) 1)])) (pre := []) (ks := k16) (i := (gi (gl En (e' : Int)) 1).toNat) (by omega) (by omega)
    rw [show ([] : List Ck).length + 1 + (gi (gl En (e' : Int)) 1).toNat = (gi (gl En (e' : Int)) 1).toNat + 1 by simp; omega] at this
    exact this
   refine thenQ_n ?_
   refine Cd.drawN [14, 16] [.ex (.slice (A5) (vN) (vN)), .ex (.slice ((rg rs3 (e' : Int)).a) ((rg rs3 (e' : Int)).n) ((rg rs3 (e' : Int)).c)), .ex (.pointer (ptrAt (rg rs3 (e' : Int)).a (1 : Int).toNat)), .ex (.int .i64 (gi (gl En (e' : Int)) 1)), .ex (.slice (A5) (vN) (vN)), .ex (.slice ((rg rs3 (e' : Int)).a) ((rg rs3 (e' : Int)).n) ((rg rs3 (e' : Int)).c)), .ex (.pointer (ptrAt ((rg rs3 (e' : Int)).a) ((1 : Int)).toNat)), .ex (.int .i64 (gi (gl En (e' : Int)) ((1 : Int)))), .ex (.pointer (ptrAt (A5) (gi (gl En (e' : Int)) ((1 : Int))).toNat)), .ex (.slice ((rg (rs6) (gi (gl En (e' : Int)) ((1 : Int)))).a) ((rg (rs6) (gi (gl En (e' : Int)) ((1 : Int)))).n) ((rg (rs6) (gi (gl En (e' : Int)) ((1 : Int)))).c)), .ex (.slice ((rg rs3 (e' : Int)).a) ((rg rs3 (e' : Int)).n) ((rg rs3 (e' : Int)).c)), .ex (.pointer (ptrAt ((rg rs3 (e' : Int)).a) ((0 : Int)).toNat)), .ex (.int .i64 (gi (gl En (e' : Int)) ((0 : Int)))), .pr (fun v w' => ∃ A1, v = .slice A1 1 1 ∧ RdI w' A1 1 [gi (gl En (e' : Int)) 0]), .pr (fun v w' => ∃ A1 c1, v = .slice A1 ((rg rs6 (gi (gl En (e' : Int)) 1)).n + 1) c1 ∧ St w w' ((mat 34 2 A5 vN vN rs6 (bagP vN (arcs En e' ++ [(gi (gl En (e' : Int)) 0, gi (gl En (e' : Int)) 1)])) ++ k16).set ((gi (gl En (e' : Int)) 1).toNat + 1) (CkI 2 A1 ((rg rs6 (gi (gl En (e' : Int)) 1)).n + 1) c1 (gl (bagP vN (arcs En e' ++ [(gi (gl En (e' : Int)) 0, gi (gl En (e' : Int)) 1)])) (gi (gl En (e' : Int)) 1) ++ [gi (gl En (e' : Int)) 0]))) ∧ RowsI w' A16 m rs3 En), .ex (.pointer (ptrAt (A5) (gi (gl En (e' : Int)) 1).toNat)), .pr (fun _ w' => ∃ s : SlV, St w w' (mat 34 2 A5 vN vN (rs6.set (gi (gl En (e' : Int)) 1).toNat s) (bagP vN ((arcs En e' ++ [(gi (gl En (e' : Int)) 0, gi (gl En (e' : Int)) 1)]) ++ [(gi (gl En (e' : Int)) 1, gi (gl En (e' : Int)) 0)])) ++ k16))] (by kernel_rfl) (by kernel_rfl) (List.forall_mem_cons.2 ⟨Yd.lasts_ex _, (List.forall_mem_cons.2 ⟨Yd.lasts_ex _, (List.forall_mem_cons.2 ⟨Yd.lasts_ex _, (List.forall_mem_cons.2 ⟨Yd.lasts_ex _, (List.forall_mem_cons.2 ⟨Yd.lasts_ex _, (List.forall_mem_cons.2 ⟨Yd.lasts_ex _, (List.forall_mem_cons.2 ⟨Yd.lasts_ex _, (List.forall_mem_cons.2 ⟨Yd.lasts_ex _, (List.forall_mem_cons.2 ⟨Yd.lasts_ex _, (List.forall_mem_cons.2 ⟨Yd.lasts_ex _, (List.forall_mem_cons.2 ⟨Yd.lasts_ex _, (List.forall_mem_cons.2 ⟨Yd.lasts_ex _, (List.forall_mem_cons.2 ⟨Yd.lasts_ex _, (List.forall_mem_cons.2 ⟨Yd.lasts_pr (fun v w w' h hb => by obtain ⟨A1, hv, hT⟩ := h; exact ⟨A1, hv, hT.later hb⟩), (List.forall_mem_cons.2 ⟨Yd.lasts_pr (fun v w w' h hb => by obtain ⟨A1, c1, hv, hT, hE⟩ := h; exact ⟨A1, c1, hv, hT.later hb, hE.later hb⟩), (List.forall_mem_cons.2 ⟨Yd.lasts_ex _, (List.forall_mem_cons.2 ⟨Yd.lasts_pr (fun v w w' h hb => by obtain ⟨s, hT⟩ := h; exact ⟨s, hT.later hb⟩), (fun _ h => by cases h)⟩)⟩)⟩)⟩)⟩)⟩)⟩)⟩)⟩)⟩)⟩)⟩)⟩)⟩)⟩)⟩)⟩) ⟨?_, ?_, ?_, ?_, ?_, ?_, ?_, ?_, ?_, ?_, ?_, ?_, ?_, ?_, ?_, ?_, ?_, trivial⟩ ?_
   ·intro e1 w1 cc hlo hhi hb0 hp hun hq
    show Ops _ _ _ _ _ _ _
    refine Ops.mv_sl rfl rfl rfl ?_
    refine Ops.nil ?_
    exact AfterN.dn rfl (Below.refl _ _) (by exact rfl)
   ·intro e1 w1 cc hlo hhi hb0 hp hun hq
    show Ops _ _ _ _ _ _ _
    refine Ops.mv_sl rfl rfl rfl ?_
    refine Ops.nil ?_
    exact AfterN.dn rfl (Below.refl _ _) (by exact rfl)
   ·intro e1 w1 cc hlo hhi hb0 hp hun hq
    show Ops _ _ _ _ _ _ _
    have hE : RdI w1 (rg rs3 (e' : Int)).a (rg rs3 (e' : Int)).n (gl En (e' : Int)) := by { have hhi := le_of_hi hhi (b := 1) (by kernel_rfl); rcases (show cc = 0 ∨ cc = 1 by omega) with h | h; { exact (hEnR (hS6.later (hb0 h))).at_ (i := (e' : Int)) (by omega) h1 }; { subst h; obtain ⟨A0, c0, _, _, hE1⟩ := hq 14 _ _ (by kernel_rfl) (by kernel_rfl) (by kernel_rfl) rfl rfl (by kernel_rfl); exact hE1.at_ (i := (e' : Int)) (by omega) h1 } }
    refine Ops.idx hE.2 rfl rfl rfl (by omega) (by omega) ?_
    refine Ops.nil ?_
    exact AfterN.dn rfl (Below.refl _ _) (by exact rfl)
   ·intro e1 w1 cc hlo hhi hb0 hp hun hq
    show Ops _ _ _ _ _ _ _
    have hE : RdI w1 (rg rs3 (e' : Int)).a (rg rs3 (e' : Int)).n (gl En (e' : Int)) := by { have hhi := le_of_hi hhi (b := 1) (by kernel_rfl); rcases (show cc = 0 ∨ cc = 1 by omega) with h | h; { exact (hEnR (hS6.later (hb0 h))).at_ (i := (e' : Int)) (by omega) h1 }; { subst h; obtain ⟨A0, c0, _, _, hE1⟩ := hq 14 _ _ (by kernel_rfl) (by kernel_rfl) (by kernel_rfl) rfl rfl (by kernel_rfl); exact hE1.at_ (i := (e' : Int)) (by omega) h1 } }
    refine Ops.ld_int hE rfl (by omega) rfl rfl ?_
    refine Ops.nil ?_
    exact AfterN.dn rfl (Below.refl _ _) (by exact rfl)
   ·intro e1 w1 cc hlo hhi hb0 hp hun hq
    show Ops _ _ _ _ _ _ _
    refine Ops.mv_sl rfl rfl rfl ?_
    refine Ops.nil ?_
    exact AfterN.dn rfl (Below.refl _ _) (by exact rfl)
   ·intro e1 w1 cc hlo hhi hb0 hp hun hq
    show Ops _ _ _ _ _ _ _
    refine Ops.mv_sl rfl rfl rfl ?_
    refine Ops.nil ?_
    exact AfterN.dn rfl (Below.refl _ _) (by exact rfl)
   ·intro e1 w1 cc hlo hhi hb0 hp hun hq
    show Ops _ _ _ _ _ _ _
    replace hlo := le_of_lo hlo (b := 0) (by kernel_rfl)
    replace hhi := le_of_hi hhi (b := 0) (by kernel_rfl)
    obtain rfl : cc = 0 := by omega
    have hb := hb0 rfl
    refine Ops.idx (hrow6.later hb).2 rfl rfl rfl (by omega) (by omega) ?_
    refine Ops.nil ?_
    exact AfterN.dn rfl (Below.refl _ _) (by exact rfl)
   ·intro e1 w1 cc hlo hhi hb0 hp hun hq
    show Ops _ _ _ _ _ _ _
    replace hlo := le_of_lo hlo (b := 0) (by kernel_rfl)
    replace hhi := le_of_hi hhi (b := 0) (by kernel_rfl)
    obtain rfl : cc = 0 := by omega
    have hb := hb0 rfl
    refine Ops.ld_int (hrow6.later hb) rfl (by omega) rfl rfl ?_
    refine Ops.nil ?_
    exact AfterN.dn rfl (Below.refl _ _) (by exact rfl)
   ·intro e1 w1 cc hlo hhi hb0 hp hun hq
    show Ops _ _ _ _ _ _ _
    replace hlo := le_of_lo hlo (b := 0) (by kernel_rfl)
    replace hhi := le_of_hi hhi (b := 0) (by kernel_rfl)
    obtain rfl : cc = 0 := by omega
    have hb := hb0 rfl
    refine Ops.idx (hM6.top.later hb).2 rfl rfl rfl (by omega) (by omega) ?_
    refine Ops.nil ?_
    exact AfterN.dn rfl (Below.refl _ _) (by exact rfl)
   ·intro e1 w1 cc hlo hhi hb0 hp hun hq
    show Ops _ _ _ _ _ _ _
    replace hlo := le_of_lo hlo (b := 0) (by kernel_rfl)
    replace hhi := le_of_hi hhi (b := 0) (by kernel_rfl)
    obtain rfl : cc = 0 := by omega
    have hb := hb0 rfl
    refine Ops.ld_sl (hM6.top.later hb) rfl (by omega) rfl rfl ?_
    refine Ops.nil ?_
    exact AfterN.dn rfl (Below.refl _ _) (by exact rfl)
   ·intro e1 w1 cc hlo hhi hb0 hp hun hq
    show Ops _ _ _ _ _ _ _
    refine Ops.mv_sl rfl rfl rfl ?_
    refine Ops.nil ?_
    exact AfterN.dn rfl (Below.refl _ _) (by exact rfl)
   ·intro e1 w1 cc hlo hhi hb0 hp hun hq
    show Ops _ _ _ _ _ _ _
    replace hlo := le_of_lo hlo (b := 0) (by kernel_rfl)
    replace hhi := le_of_hi hhi (b := 0) (by kernel_rfl)
    obtain rfl : cc = 0 := by omega
    have hb := hb0 rfl
    refine Ops.idx (hrow6.later hb).2 rfl rfl rfl (by omega) (by omega) ?_
    refine Ops.nil ?_
    exact AfterN.dn rfl (Below.refl _ _) (by exact rfl)
   ·intro e1 w1 cc hlo hhi hb0 hp hun hq
    show Ops _ _ _ _ _ _ _
    replace hlo := le_of_lo hlo (b := 0) (by kernel_rfl)
    replace hhi := le_of_hi hhi (b := 0) (by kernel_rfl)
    obtain rfl : cc = 0 := by omega
    have hb := hb0 rfl
    refine Ops.ld_int (hrow6.later hb) rfl (by omega) rfl rfl ?_
    refine Ops.nil ?_
    exact AfterN.dn rfl (Below.refl _ _) (by exact rfl)
   ·intro e1 w1 cc hlo hhi hb0 hp hun hq
    show Ops _ _ _ _ _ _ _
    refine Ops.bs1I (St.refl _) rfl rfl rfl ?_
    intro A1 w9 hst
    refine Ops.nil ?_
    exact AfterN.dn rfl hst.below ⟨A1, rfl, hst.rdI 0 rfl⟩
   ·intro e1 w1 cc hlo hhi hb0 hp hun hq
    show Ops _ _ _ _ _ _ _
    replace hlo := le_of_lo hlo (b := 0) (by kernel_rfl)
    replace hhi := le_of_hi hhi (b := 0) (by kernel_rfl)
    obtain rfl : cc = 0 := by omega
    have hb := hb0 rfl
    obtain ⟨A0, h54, hT0⟩ := (hp 13 _ _ (by kernel_rfl) rfl rfl (by kernel_rfl))
    refine Ops.appI ((gi (gl En (e' : Int)) 1).toNat + 1) (hS6.later hb) hget6 hT0 rfl (by exact h54) rfl (by omega) (by omega) rfl ?_
    intro A1 c1 w9 hst
    refine Ops.nil ?_
    exact AfterT.dn rfl ⟨A1, c1, rfl, hst, hEnK (hst.setTail (by rw [mat_len (by omega)]; omega))⟩
   ·intro e1 w1 cc hlo hhi hb0 hp hun hq
    show Ops _ _ _ _ _ _ _
    replace hlo := le_of_lo hlo (b := 1) (by kernel_rfl)
    replace hhi := le_of_hi hhi (b := 1) (by kernel_rfl)
    obtain rfl : cc = 1 := by omega
    have hph := hp 14 _ _ (by kernel_rfl) rfl rfl (by kernel_rfl)
    obtain ⟨A1, c1, h39, hT, _⟩ := hph
    have hTop := hT.rdR 0 rfl
    refine Ops.idx (hTop).2 rfl rfl rfl (by omega) (by omega) ?_
    refine Ops.nil ?_
    exact AfterN.dn rfl (Below.refl _ _) (by exact rfl)
   ·intro e1 w1 cc hlo hhi hb0 hp hun hq
    show Ops _ _ _ _ _ _ _
    replace hlo := le_of_lo hlo (b := 1) (by kernel_rfl)
    replace hhi := le_of_hi hhi (b := 1) (by kernel_rfl)
    obtain rfl : cc = 1 := by omega
    have hph := hp 14 _ _ (by kernel_rfl) rfl rfl (by kernel_rfl)
    obtain ⟨A1, c1, h39, hT, _⟩ := hph
    have hTop := hT.rdR 0 rfl
    refine Ops.st_sl 0 hT rfl rfl (by exact h39) hlt6 ?_
    intro w9 hst
    refine Ops.nil ?_
    exact AfterT.st rfl ⟨⟨A1, _, c1⟩, by rw [bagP_snoc vN (arcs En e' ++ [(gi (gl En (e' : Int)) 0, gi (gl En (e' : Int)) 1)]) (gi (gl En (e' : Int)) 1, gi (gl En (e' : Int)) 0), ← mat_updk (by omega) (by omega)]; exact hst⟩
   intro u7 w7 _ hu7
   obtain ⟨s7, hS7⟩ := hu7 16 _ rfl (by kernel_rfl)
   refine blockQ_n ?_
   refine thenQ_n ?_
   refine Cd.region ?_
   refine Ops.add rfl rfl rfl (by omega) ?_
   refine Ops.mv_int rfl rfl rfl ?_
   refine Ops.nil ?_
   refine thenQ_n ?_
   refine ⟨(e' + 1, rs6.set (gi (gl En (e' : Int)) 1).toNat s7), by show m - (e' + 1) < m - e'; omega, ⟨rfl, rfl, rfl, rfl, trivial⟩, ?_, he', by show (rs6.set _ _).length = vN; rw [List.length_set]; exact hrl66⟩
   show St w w7 (mat _ _ A5 vN vN _ (bagP vN (arcs En (e' + 1))) ++ k16)
   rw [hst2]
   exact hS7
  ·have hst2 : arcs En (e' + 1) = arcs En e' := by
    show (if _ then _ else _) = _
    rw [if_neg (by omega)]
   refine Cd.skip ?_
   refine blockQ_n ?_
   refine thenQ_n ?_
   refine Cd.region ?_
   refine Ops.add rfl rfl rfl (by omega) ?_
   refine Ops.mv_int rfl rfl rfl ?_
   refine Ops.nil ?_
   refine thenQ_n ?_
   exact ⟨(e' + 1, rs5), by show m - (e' + 1) < m - e'; omega, ⟨rfl, rfl, rfl, rfl, trivial⟩, by show St w w5 (mat _ _ A5 vN vN rs5 (bagP vN (arcs En (e' + 1))) ++ k16); rw [hst2]; exact hS5, he', hrl⟩
 ·refine Cd.exit ?_
  refine thenQ_x ?_
  refine thenQ_x ?_
  refine blockQ_x ?_
  refine thenQ_n ?_
  refine Cd.seq ?_
  refine Cd.seq ?_
  refine Cd.region ?_
  refine Ops.mv_sl rfl rfl rfl ?_
  refine Ops.len rfl rfl ?_
  refine Ops.mv_int rfl rfl rfl ?_
  refine Ops.nil ?_
  refine thenQ_n ?_
  refine Cd.block ?_
  have hem : e' = m := by omega
  subst hem
  have hlen : ∀ v : Nat, v < vN → (gl (bagP vN (arcs En e')) (v : Int)).length ≤ 2 * e' := fun v hv => Nat.le_trans (bagP_row _ (fun p hp => (harc e' p hp).1) (v : Int) (by omega)) (hal e')
  have hBl := bagP_len vN (arcs En e')
  have hfin : endsP vN (arcs En e') = mixL (bagP vN (arcs En e')) vN := by
   have := mixL_all (bagP vN (arcs En e'))
   rw [hBl] at this
   rw [this]; rfl
  rw [hfin]
  generalize hB : bagP vN (arcs En e') = B at *
  refine Cd.loop (α := Nat × List SlV) (fun z => [(5, .slice A5 vN vN), (59, .int .i64 (vN : Int)), (60, .int .i64 (z.1 : Int))]) (fun z w' => St w w' (mat 34 2 A5 vN vN z.2 (mixL B z.1) ++ k16) ∧ z.1 ≤ vN ∧ z.2.length = vN) (fun z => vN - z.1) (0, rs5) ⟨rfl, rfl, rfl, trivial⟩ ⟨by rw [mixL_zero]; exact hS5, Nat.zero_le _, hrl⟩ ?_
  rintro ⟨v', rs6⟩ e w6 ⟨hS6, hv', hrl6⟩
  dsimp only at hS6 hv' hrl6 ⊢
  refine Cd.seq ?_
  refine Cd.region ?_
  refine Ops.lss rfl rfl rfl ?_
  refine Ops.nil ?_
  refine thenQ_n ?_
  refine Cd.seq ?_
  refine Cd.cond_p _ rfl (fun h2 => ?_) (fun h2 => ?_)
  ·have hv2 : v' < vN := by omega
   have hml := mixL_len B v'
   have hM6 := hS6.rowsI (by omega)
   have hrn := hM6.rowLen (k := (v' : Int)) (by omega) h2
   have hmg := mixL_get (B := B) (e := v') (by omega)
   have hstep := mixL_step (B := B) (e := v') (by omega)
   have hq := hlen v' hv2
   rw [hmg] at hrn
   have hget : (mat 34 2 A5 vN vN rs6 (mixL B v') ++ k16)[v' + 1]? = some (CkI 2 (rg rs6 (v' : Int)).a (rg rs6 (v' : Int)).n (rg rs6 (v' : Int)).c (gl B (v' : Int))) := by
    have := mat_get (t1 := 34) (t2 := 2) (A := A5) (n := vN) (c := vN) (rs := rs6) (xss := mixL B v') (pre := []) (ks := k16) (i := v') (by omega) (by omega)
    rw [show ([] : List Ck).length + 1 + v' = v' + 1 by simp; omega] at this
    rw [← hmg]
    exact this
   have hlt1 : v' + 1 < (mat 34 2 A5 vN vN rs6 (mixL B v') ++ k16).length := (List.getElem?_eq_some_iff.1 hget).1
   refine Cd.skip ?_
   refine thenQ_n ?_
   refine Cd.seq ?_
   refine Cd.block ?_
   refine Cd.seq ?_
   refine Cd.region ?_
   refine Ops.mv_int rfl rfl rfl ?_
   refine Ops.mv_int rfl rfl rfl ?_
   refine Ops.nil ?_
   refine thenQ_n ?_
   refine Cd.seq ?_
   refine Cd.region ?_
   refine Ops.mv_sl rfl rfl rfl ?_
   refine Ops.mv_int rfl rfl rfl ?_
   refine Ops.idx hM6.top.2 rfl rfl rfl (by omega) h2 ?_
   refine Ops.ld_sl hM6.top rfl (by omega) rfl rfl ?_
   refine Ops.call (sort0_c (v' + 1) hS6 hget (by omega)) rfl rfl rfl ?_
   rintro _ w7 ⟨rfl, hS7⟩
   have hT7 := hS7.rdR 0 rfl
   refine Ops.nil ?_
   refine thenQ_n ?_
   refine Cd.region ?_
   refine Ops.mv_sl rfl rfl rfl ?_
   refine Ops.mv_int rfl rfl rfl ?_
   refine Ops.mv_sl rfl rfl rfl ?_
   refine Ops.mv_int rfl rfl rfl ?_
   refine Ops.idx hT7.2 rfl rfl rfl (by omega) h2 ?_
   refine Ops.ld_sl hT7 rfl (by omega) rfl rfl ?_
   refine Ops.call (compact0_c (v' + 1) hS7 (by rw [List.getElem?_set, if_pos rfl, if_pos hlt1]) (by omega)) rfl rfl rfl ?_
   rintro _ w8 ⟨rfl, hS8⟩
   rw [List.set_set] at hS8
   have hT8 := hS8.rdR 0 rfl
   refine Ops.idx hT8.2 rfl rfl rfl (by omega) h2 ?_
   refine Ops.st_sl 0 hS8 rfl rfl rfl (by omega) ?_
   intro w9 hS9
   refine Ops.nil ?_
   refine blockQ_n ?_
   refine thenQ_n ?_
   refine Cd.region ?_
   refine Ops.add rfl rfl rfl (by omega) ?_
   refine Ops.mv_int rfl rfl rfl ?_
   refine Ops.nil ?_
   refine thenQ_n ?_
   refine ⟨(v' + 1, rs6.set v' ⟨(rg rs6 (v' : Int)).a, (cmpL (srt (gl B (v' : Int)))).length, (rg rs6 (v' : Int)).c⟩), by show vN - (v' + 1) < vN - v'; omega, ⟨rfl, rfl, rfl, trivial⟩, ?_, hv2, by show (rs6.set _ _).length = vN; rw [List.length_set]; exact hrl6⟩
   rw [← hstep, ← mat_updk (by omega) (by omega)]
   exact hS9
  ·refine Cd.exit ?_
   refine thenQ_x ?_
   refine thenQ_x ?_
   refine blockQ_x ?_
   refine thenQ_n ?_
   refine Cd.seq ?_
   refine Cd.region ?_
   refine Ops.mv_sl rfl rfl rfl ?_
   refine Ops.mv_sl rfl rfl rfl ?_
   refine Ops.nil ?_
   refine thenQ_n ?_
   refine Cd.ret ?_
   refine ret1_s rfl ?_
   have hem : v' = vN := by omega
   subst hem
   refine ⟨A5, rs6, rfl, hrl6, ?_⟩
   rw [List.append_nil]
   exact hS6.sub (List.sublist_append_left _ _)

def nboL (xss : List (List Int)) : List (List Int) := if Grph xss then nbL xss else []
theorem implNeighboursOf_c (A : Option Addr) (n c : Nat) (rs : List SlV) (xss : List (List Int)) (w : World) (hR : RowsI w A n rs xss) (hn : n ≤ c) (hc : c ≤ 9223372036854775807) :
  Ret Tryz.prog 39 [.agg #[.slice A n c]] w (AnsSS (nboL xss) (petrieK xss) w) := by
 have hl := hR.len
 refine Ret.of_cd Tryz.func39 rfl Tryz.ntmps39 rfl (post2 rfl) ?_
 refine Cd.seq ?_
 refine Cd.region ?_
 refine Ops.box1 (St.refl w) rfl rfl ?_
 intro Ab w1 hS1
 refine Ops.mv_sl rfl rfl rfl ?_
 refine Ops.mv_int rfl rfl rfl ?_
 refine Ops.nil ?_
 refine thenQ_n ?_
 refine Cd.seq ?_
 refine Cd.seq ?_
 refine Cd.region ?_
 refine Ops.ld_agg 0 (hS1.rd 0 rfl) rfl rfl rfl ?_
 refine Ops.call (isGraphed_c A n c rs xss _ (hS1.oldRows hR) hn hc) rfl rfl rfl ?_
 rintro _ w2 ⟨rfl, hst⟩
 have hS2 := hS1.later hst.below
 first | refine Ops.not_p rfl rfl ?_ | refine Ops.not rfl rfl ?_
 refine Ops.nil ?_
 refine thenQ_n ?_
 refine Cd.cond_p _ rfl (fun h => ?_) (fun h => ?_)
 ·refine Cd.seq ?_
  refine Cd.region ?_
  refine Ops.mv_sl rfl rfl rfl ?_
  refine Ops.mv_int rfl rfl rfl ?_
  refine Ops.nil ?_
  refine thenQ_n ?_
  refine Cd.ret ?_
  refine thenQ_r ?_
  refine ret2_si rfl rfl ?_
  rw [petrieK, if_neg h, nboL, if_neg h]
  exact AnsSS.none hS2
 ·have hG : Grph xss := Classical.not_not.1 h
  refine Cd.skip ?_
  refine thenQ_n ?_
  refine Cd.seq ?_
  refine Cd.region ?_
  refine Ops.ld_agg 0 (hS2.rd 0 rfl) rfl rfl rfl ?_
  refine Ops.call (neighboursOf_c A n c rs xss _ (hS2.oldRows hR) hG) rfl rfl rfl ?_
  rintro _ w3 ⟨A3, rs3, rfl, hrl, hst⟩
  have hS3 := hS2.none.call hst
  refine Ops.mv_sl rfl rfl rfl ?_
  refine Ops.mv_int rfl rfl rfl ?_
  refine Ops.nil ?_
  refine thenQ_n ?_
  refine Cd.ret ?_
  refine ret2_si rfl rfl ?_
  rw [petrieK, if_pos hG, nboL, if_pos hG]
  refine ⟨A3, vertsN xss, rs3, by rw [nbL_len], by rw [nbL_len]; exact hrl, ?_⟩
  rw [nbL_len]
  rwa [List.append_nil] at hS3

end Go.Proofs.YtjpkmpihmilgoaaGreat.Vc
/-
 The reference's coset enumeration, walked: what its functions return if the plain functions do (they have a bound on their steps and say none beyond it). Conditions: as each states them.
-/
namespace Go.Proofs.YtjpkmpihmilgoaaGreat.Vc
open Go.RowKit

section
variable {P : Program} {N : Nat} {ops : Array Oper} {K : Env → World → Prop} {rest : List Oper} {e : Env} {w0 w w' : World} {ks : List Ck} {d : Nat} {ty : TypeId} {pos : String} {af : Array Edge}
theorem Ops.box3 {el : TypeId} {x : Operand} {v0 v1 v2 : Value} (hS : St w0 w ks) (hx : ev e x = .agg #[v0, v1, v2]) (hb : Nat.blt d N = true)
    (hK : ∀ A w', St w0 w' (Bx el 3 A [v0, v1, v2] :: ks) → Ops P N ops K rest (upd e d (.pointer A)) w') (hM : isM [v0, v1, v2] = false := by rfl) : Ops P N ops K (⟨some d, .box el x, ty, pos, af, none⟩ :: rest) e w := .box_agg hS hx hb rfl hK hM
theorem Ops.new3 {el : TypeId} {v0 v1 v2 : Value} {s b : Nat} [Inf P el (.agg #[v0, v1, v2]) s b] (hS : St w0 w ks) (hb : Nat.blt d N = true)
    (hK : ∀ A w', St w0 w' (Bx el 3 A [v0, v1, v2] :: ks) → Ops P N ops K rest (upd e d (.pointer A)) w') (hM : isM [v0, v1, v2] = false := by rfl) : Ops P N ops K (⟨some d, .alloc el, ty, pos, af, none⟩ :: rest) e w := .new (el := el) (z := .agg #[v0, v1, v2]) (s := s) (b := b) hS hb rfl hK hM
end

/-! plain -/
structure PS where
 im : List (List Int)
 ls : List Int
def findP (ls : List Int) : Nat → Int → Option Int
 | 0, _ => none
 | k + 1, c => if 0 ≤ c ∧ c < (ls.length : Int) then (if gi ls c = c then some c else findP ls k (gi ls c)) else none
def imageP (x : PS) (c g : Int) : Option Int :=
 if 0 ≤ c ∧ c < (x.im.length : Int) ∧ 0 ≤ g ∧ g < ((gl x.im c).length : Int) then (if gi (gl x.im c) g < 0 then some (-1) else findP x.ls 2000 (gi (gl x.im c) g)) else none
def defP (x : PS) (gens : Nat) : Option PS :=
 if x.ls.length = x.im.length ∧ x.ls.length < 2000 ∧ gens ≤ 100 then some ⟨x.im ++ [List.replicate gens (-1)], x.ls ++ [(x.ls.length : Int)]⟩ else none

/-! memory -/
structure LS where
 A : Option Addr
 n : Nat
 c : Nat
 rs : List SlV
 im : List (List Int)
 B : Option Addr
 m : Nat
 cB : Nat
 ls : List Int
def LS.ok (x : LS) : Prop := x.rs.length = x.n ∧ x.im.length = x.n ∧ x.ls.length = x.m
abbrev LS.cks (x : LS) : List Ck := CkI 2 x.B x.m x.cB x.ls :: mat 34 2 x.A x.n x.c x.rs x.im
abbrev LS.cells (x : LS) : List Value := [.slice x.A x.n x.c, .slice x.B x.m x.cB, .bool false]
abbrev LS.val (x : LS) : Value := .agg #[.slice x.A x.n x.c, .slice x.B x.m x.cB, .bool false]
def LS.p (x : LS) : PS := ⟨x.im, x.ls⟩

theorem l11Find_c {A B : Option Addr} {n c m cB : Nat} {b : Bool} (ls : List Int) (k0 : Nat) (c0 d : Int) (w : World) (hR : RdI w B m ls) (hf : findP ls k0 c0 = some d) :
  Ret Tryz.prog 225 [.agg #[.slice A n c, .slice B m cB, .bool b], .int .i64 c0] w (fun v w' => v = .int .i64 d ∧ St w w' []) := by
 have hl := hR.1
 refine Ret.of_cd Tryz.func225 rfl Tryz.ntmps225 rfl (post1 rfl) ?_
 refine Cd.seq ?_
 refine Cd.region ?_
 refine Ops.box3 (St.refl w) rfl rfl ?_
 intro Ab w1 hS
 refine Ops.mv_int rfl rfl rfl ?_
 refine Ops.nil ?_
 refine thenQ_n ?_
 refine Cd.seq ?_
 refine Cd.block ?_
 refine Cd.loop (α := Int × Nat) (fun s => [(1, .int .i64 s.1), (2, .pointer Ab)]) (fun s w' => St w w' [Bx 202 3 Ab [.slice A n c, .slice B m cB, .bool b]] ∧ findP ls s.2 s.1 = some d) (fun s => s.2) (c0, k0) ⟨rfl, rfl, trivial⟩ ⟨hS, hf⟩ ?_
 rintro ⟨c, k⟩ e w1 ⟨hS, hf⟩
 obtain ⟨q, rfl⟩ : ∃ q, k = q + 1 := by cases k with | zero => cases hf | succ q => exact ⟨q, rfl⟩
 have hf : (if 0 ≤ c ∧ c < (ls.length : Int) then (if gi ls c = c then some c else findP ls q (gi ls c)) else none) = some d := hf
 split at hf
 case isFalse => cases hf
 rename_i hc
 have hR1 := hS.oldI hR
 refine Cd.seq ?_
 refine Cd.seq ?_
 refine Cd.region ?_
 refine Ops.fld (hS.rd 0 rfl) rfl rfl rfl rfl inferInstance ?_
 refine Ops.ldf_s (hS.rd 0 rfl) rfl rfl rfl rfl rfl ?_
 refine Ops.mv_int rfl rfl rfl ?_
 refine Ops.idx hR1.2 rfl rfl rfl (by omega) (by omega) ?_
 refine Ops.ld_int hR1 rfl (by omega) rfl rfl ?_
 refine Ops.mv_int rfl rfl rfl ?_
 refine Ops.neq rfl rfl rfl ?_
 refine Ops.nil ?_
 refine thenQ_n ?_
 refine Cd.cond_p _ rfl (fun h1 => ?_) (fun h1 => ?_)
 ·rw [if_neg h1] at hf
  refine Cd.skip ?_
  refine thenQ_n ?_
  refine Cd.block ?_
  refine Cd.region ?_
  refine Ops.fld (hS.rd 0 rfl) rfl rfl rfl rfl inferInstance ?_
  refine Ops.ldf_s (hS.rd 0 rfl) rfl rfl rfl rfl rfl ?_
  refine Ops.mv_int rfl rfl rfl ?_
  refine Ops.idx hR1.2 rfl rfl rfl (by omega) (by omega) ?_
  refine Ops.ld_int hR1 rfl (by omega) rfl rfl ?_
  refine Ops.mv_int rfl rfl rfl ?_
  refine Ops.nil ?_
  refine blockQ_n ?_
  refine thenQ_n ?_
  exact ⟨(gi ls c, q), Nat.lt_succ_self q, ⟨rfl, rfl, trivial⟩, hS, hf⟩
 ·have h1 : gi ls c = c := Decidable.not_not.1 h1
  rw [if_pos h1] at hf
  obtain rfl := Option.some.inj hf
  refine Cd.exit ?_
  refine thenQ_x ?_
  refine thenQ_x ?_
  refine blockQ_x ?_
  refine thenQ_n ?_
  refine Cd.seq ?_
  refine Cd.region ?_
  refine Ops.mv_int rfl rfl rfl ?_
  refine Ops.mv_int rfl rfl rfl ?_
  refine Ops.nil ?_
  refine thenQ_n ?_
  refine Cd.ret ?_
  refine ret1_i rfl ?_
  exact ⟨rfl, hS.none⟩

theorem l11Image_c {A B : Option Addr} {n c m cB : Nat} {b : Bool} (rs : List SlV) (im : List (List Int)) (ls : List Int) (c0 g d : Int) (w : World) (hI : RowsI w A n rs im) (hR : RdI w B m ls) (hf : imageP ⟨im, ls⟩ c0 g = some d) :
  Ret Tryz.prog 220 [.agg #[.slice A n c, .slice B m cB, .bool b], .int .i64 c0, .int .i64 g] w (fun v w' => v = .int .i64 d ∧ St w w' []) := by
 have hl := hI.len
 have hf : (if 0 ≤ c0 ∧ c0 < (im.length : Int) ∧ 0 ≤ g ∧ g < ((gl im c0).length : Int) then (if gi (gl im c0) g < 0 then some (-1) else findP ls 2000 (gi (gl im c0) g)) else none) = some d := hf
 split at hf
 case isFalse => cases hf
 rename_i hc
 have hrow := hI.at_ (i := c0) hc.1 (by omega)
 have hrl := hrow.1
 refine Ret.of_cd Tryz.func220 rfl Tryz.ntmps220 rfl (post1 rfl) ?_
 refine Cd.seq ?_
 refine Cd.region ?_
 refine Ops.box3 (St.refl w) rfl rfl ?_
 intro Ab w1 hS
 have hI1 := hS.oldRows hI
 have hrow1 := hS.oldI hrow
 have hR1 := hS.oldI hR
 refine Ops.mv_int rfl rfl rfl ?_
 refine Ops.nil ?_
 refine thenQ_n ?_
 refine Cd.seq ?_
 refine Cd.region ?_
 refine Ops.fld (hS.rd 0 rfl) rfl rfl rfl rfl inferInstance ?_
 refine Ops.ldf_s (hS.rd 0 rfl) rfl rfl rfl rfl rfl ?_
 refine Ops.mv_int rfl rfl rfl ?_
 refine Ops.idx hI1.top.2 rfl rfl rfl (by omega) (by omega) ?_
 refine Ops.ld_sl hI1.top rfl (by omega) rfl rfl ?_
 refine Ops.mv_int rfl rfl rfl ?_
 refine Ops.idx hrow1.2 rfl rfl rfl (by omega) (by omega) ?_
 refine Ops.ld_int hrow1 rfl (by omega) rfl rfl ?_
 refine Ops.mv_int rfl rfl rfl ?_
 refine Ops.nil ?_
 refine thenQ_n ?_
 refine Cd.seq ?_
 refine Cd.seq ?_
 refine Cd.region ?_
 refine Ops.mv_int rfl rfl rfl ?_
 refine Ops.lss rfl rfl rfl ?_
 refine Ops.nil ?_
 refine thenQ_n ?_
 refine Cd.cond_p _ rfl (fun h1 => ?_) (fun h1 => ?_)
 ·rw [if_pos h1] at hf
  obtain rfl := Option.some.inj hf
  refine Cd.seq ?_
  refine Cd.region ?_
  refine Ops.mv_int rfl rfl rfl ?_
  refine Ops.nil ?_
  refine thenQ_n ?_
  refine Cd.ret ?_
  refine thenQ_r ?_
  refine ret1_i rfl ?_
  exact ⟨rfl, hS.none⟩
 ·rw [if_neg h1] at hf
  refine Cd.skip ?_
  refine thenQ_n ?_
  refine Cd.seq ?_
  refine Cd.region ?_
  refine Ops.ld_agg 2 (hS.rd 0 rfl) rfl rfl rfl ?_
  refine Ops.mv_int rfl rfl rfl ?_
  refine Ops.call (l11Find_c ls 2000 _ d _ hR1 hf) rfl rfl rfl ?_
  rintro _ w2 ⟨rfl, hst⟩
  refine Ops.mv_int rfl rfl rfl ?_
  refine Ops.nil ?_
  refine thenQ_n ?_
  refine Cd.ret ?_
  refine ret1_i rfl ?_
  exact ⟨rfl, (hS.later hst.below).none⟩

theorem l11Define_c {w0 w : World} {ks : List Ck} (x : LS) (gens : Nat) (y : PS) (hok : x.ok) (hS : St w0 w (x.cks ++ ks)) (hp : defP x.p gens = some y) :
  Ret Tryz.prog 222 [x.val, .int .i64 (gens : Int)] w (fun v w' => ∃ x' : LS, x'.ok ∧ x'.p = y ∧ v = .tuple #[x'.val, .int .i64 (x.m : Int)] ∧ St w0 w' (x'.cks ++ ks)) := by
 obtain ⟨A, n, c, rs, im, B, m, cB, ls⟩ := x
 obtain ⟨h1, h2, h3⟩ := hok
 have h1 : rs.length = n := h1
 have h2 : im.length = n := h2
 have h3 : ls.length = m := h3
 have hp : (if ls.length = im.length ∧ ls.length < 2000 ∧ gens ≤ 100 then some (⟨im ++ [List.replicate gens (-1)], ls ++ [(ls.length : Int)]⟩ : PS) else none) = some y := hp
 split at hp
 case isFalse => cases hp
 rename_i hc
 have hp := Option.some.inj hp
 have hS : St w0 w (CkI 2 B m cB ls :: CkR 34 A n c rs :: (rowsCk 2 rs im ++ ks)) := hS
 refine Ret.of_cd Tryz.func222 rfl Tryz.ntmps222 rfl (postc2 rfl rfl) ?_
 refine Cd.seq ?_
 refine Cd.region ?_
 refine Ops.box3 hS rfl rfl ?_
 intro Ab w1 hS1
 skip
 refine Ops.new3 hS1 rfl ?_
 intro Ac w2 hS2
 have hS2 : St w0 w2 (Bx 202 3 Ac [.slice none 0 0, .slice none 0 0, .bool false] :: Bx 202 3 Ab [.slice A n c, .slice B m cB, .bool false] :: CkI 2 B m cB ls :: CkR 34 A n c rs :: (rowsCk 2 rs im ++ ks)) := hS2
 refine Ops.mv_int rfl rfl rfl ?_
 refine Ops.nil ?_
 refine thenQ_n ?_
 refine Cd.seq ?_
 refine Cd.region ?_
 refine Ops.fld (hS2.rd 1 rfl) rfl rfl rfl rfl inferInstance ?_
 refine Ops.ldf_s (hS2.rd 1 rfl) rfl rfl rfl rfl rfl ?_
 refine Ops.len rfl rfl ?_
 refine Ops.mv_int rfl rfl rfl ?_
 refine Ops.nil ?_
 refine thenQ_n ?_
 refine Cd.seq ?_
 refine Cd.seq ?_
 refine Cd.region ?_
 refine Ops.mv_int rfl rfl rfl ?_
 refine Ops.eql rfl rfl rfl ?_
 refine Ops.nil ?_
 refine thenQ_n ?_
 refine Cd.cond_pf rfl (by omega) ?_
 refine Cd.skip ?_
 refine thenQ_n ?_
 refine Cd.seq ?_
 refine Cd.region ?_
 refine Ops.bs0 hS2 rfl ?_
 intro A3 w3 hS3
 refine Ops.mv_sl rfl rfl rfl ?_
 refine Ops.nil ?_
 refine thenQ_n ?_
 refine Cd.seq ?_
 refine Cd.seq ?_
 refine Cd.region ?_
 refine Ops.mv_int rfl rfl rfl ?_
 refine Ops.nil ?_
 refine thenQ_n ?_
 refine Cd.block ?_
 refine Cd.loop (α := Nat × Option Addr × Nat) (fun s => [(1, .int .i64 (gens : Int)), (2, .pointer Ab), (4, .pointer Ac), (6, .int .i64 (m : Int)), (7, .slice s.2.1 s.1 s.2.2), (8, .int .i64 (s.1 : Int))]) (fun s w' => St w0 w' (CkI 2 s.2.1 s.1 s.2.2 (List.replicate s.1 (-1)) :: Bx 202 3 Ac [.slice none 0 0, .slice none 0 0, .bool false] :: Bx 202 3 Ab [.slice A n c, .slice B m cB, .bool false] :: CkI 2 B m cB ls :: CkR 34 A n c rs :: (rowsCk 2 rs im ++ ks)) ∧ s.1 ≤ gens) (fun s => gens - s.1) (0, A3, 0) ⟨rfl, rfl, rfl, rfl, rfl, rfl, trivial⟩ ⟨hS3, Nat.zero_le _⟩ ?_
 rintro ⟨k, A4, c4⟩ e w4 ⟨hS4, hk⟩
 dsimp only at hS4 hk
 refine Cd.seq ?_
 refine Cd.seq ?_
 refine Cd.region ?_
 refine Ops.mv_int rfl rfl rfl ?_
 refine Ops.mv_int rfl rfl rfl ?_
 refine Ops.lss rfl rfl rfl ?_
 refine Ops.nil ?_
 refine thenQ_n ?_
 refine Cd.cond_p _ rfl (fun h4 => ?_) (fun h4 => ?_)
 ·refine Cd.skip ?_
  refine thenQ_n ?_
  refine Cd.seq ?_
  refine Cd.block ?_
  refine Cd.region ?_
  refine Ops.mv_sl rfl rfl rfl ?_
  refine Ops.bs1I hS4 rfl rfl rfl ?_
  intro A5 w5 hS5
  refine Ops.appI 1 hS5 rfl (hS5.rdI 0 rfl) rfl rfl rfl (by omega) (by omega) rfl ?_
  intro A6 c6 w6 hS6
  refine Ops.mv_sl rfl rfl rfl ?_
  refine Ops.nil ?_
  refine blockQ_n ?_
  refine thenQ_n ?_
  refine Cd.region ?_
  refine Ops.mv_int rfl rfl rfl ?_
  refine Ops.add rfl rfl rfl (by omega) ?_
  refine Ops.mv_int rfl rfl rfl ?_
  refine Ops.nil ?_
  refine thenQ_n ?_
  refine ⟨(k + 1, A6, c6), by show gens - (k + 1) < gens - k; omega, ⟨rfl, rfl, rfl, rfl, rfl, rfl, trivial⟩, ?_, by show k + 1 ≤ gens; omega⟩
  have h5 := hS6.tail
  rw [← List.replicate_succ'] at h5
  exact h5
 ·have hkg : k = gens := by omega
  subst hkg
  refine Cd.exit ?_
  refine thenQ_x ?_
  refine thenQ_x ?_
  refine blockQ_x ?_
  refine thenQ_n ?_
  refine Cd.seq ?_
  refine Cd.region ?_
  refine Ops.fld (hS4.rd 2 rfl) rfl rfl rfl rfl inferInstance ?_
  refine Ops.ldf_s (hS4.rd 2 rfl) rfl rfl rfl rfl rfl ?_
  refine Ops.mv_sl rfl rfl rfl ?_
  refine Ops.bs1R hS4 rfl rfl rfl ?_
  intro A5 w5 hS5
  refine Ops.appR 5 hS5 rfl (hS5.rdR 0 rfl) rfl rfl rfl (by omega) (by omega) rfl ?_
  intro A6 c6 w6 hS6
  have hS6 : St w0 w6 (CkI 2 A4 k c4 (List.replicate k (-1)) :: Bx 202 3 Ac [.slice none 0 0, .slice none 0 0, .bool false] :: Bx 202 3 Ab [.slice A n c, .slice B m cB, .bool false] :: CkI 2 B m cB ls :: CkR 34 A6 (n + 1) c6 (rs ++ [⟨A4, k, c4⟩]) :: (rowsCk 2 rs im ++ ks)) := hS6.tail
  skip
  refine Ops.fld (hS6.rd 2 rfl) rfl rfl rfl rfl inferInstance ?_
  refine Ops.stf 2 hS6 rfl rfl rfl rfl rfl ?_
  intro w7 hS7
  have hS7 : St w0 w7 (CkI 2 A4 k c4 (List.replicate k (-1)) :: Bx 202 3 Ac [.slice none 0 0, .slice none 0 0, .bool false] :: Bx 202 3 Ab [.slice A6 (n + 1) c6, .slice B m cB, .bool false] :: CkI 2 B m cB ls :: CkR 34 A6 (n + 1) c6 (rs ++ [⟨A4, k, c4⟩]) :: (rowsCk 2 rs im ++ ks)) := hS7
  refine Ops.nil ?_
  refine thenQ_n ?_
  refine Cd.seq ?_
  refine Cd.region ?_
  refine Ops.fld (hS7.rd 2 rfl) rfl rfl rfl rfl inferInstance ?_
  refine Ops.ldf_s (hS7.rd 2 rfl) rfl rfl rfl rfl rfl ?_
  refine Ops.mv_int rfl rfl rfl ?_
  refine Ops.bs1I hS7 rfl rfl rfl ?_
  intro A8 w8 hS8
  refine Ops.appI 4 hS8 rfl (hS8.rdI 0 rfl) rfl rfl rfl (by omega) (by omega) rfl ?_
  intro A9 c9 w9 hS9
  have hS9 : St w0 w9 (CkI 2 A4 k c4 (List.replicate k (-1)) :: Bx 202 3 Ac [.slice none 0 0, .slice none 0 0, .bool false] :: Bx 202 3 Ab [.slice A6 (n + 1) c6, .slice B m cB, .bool false] :: CkI 2 A9 (m + 1) c9 (ls ++ [(m : Int)]) :: CkR 34 A6 (n + 1) c6 (rs ++ [⟨A4, k, c4⟩]) :: (rowsCk 2 rs im ++ ks)) := hS9.tail
  skip
  refine Ops.fld (hS9.rd 2 rfl) rfl rfl rfl rfl inferInstance ?_
  refine Ops.stf 2 hS9 rfl rfl rfl rfl rfl ?_
  intro w10 hS10
  have hS10 : St w0 w10 (CkI 2 A4 k c4 (List.replicate k (-1)) :: Bx 202 3 Ac [.slice none 0 0, .slice none 0 0, .bool false] :: Bx 202 3 Ab [.slice A6 (n + 1) c6, .slice A9 (m + 1) c9, .bool false] :: CkI 2 A9 (m + 1) c9 (ls ++ [(m : Int)]) :: CkR 34 A6 (n + 1) c6 (rs ++ [⟨A4, k, c4⟩]) :: (rowsCk 2 rs im ++ ks)) := hS10
  refine Ops.nil ?_
  refine thenQ_n ?_
  refine Cd.seq ?_
  refine Cd.region ?_
  refine Ops.ld_agg 2 (hS10.rd 2 rfl) rfl rfl rfl ?_
  refine Ops.mv_int rfl rfl rfl ?_
  refine Ops.st_agg 3 1 hS10 rfl rfl rfl rfl rfl rfl rfl ?_
  intro w11 hS11
  have hS11 : St w0 w11 (CkI 2 A4 k c4 (List.replicate k (-1)) :: Bx 202 3 Ac [.slice A6 (n + 1) c6, .slice A9 (m + 1) c9, .bool false] :: Bx 202 3 Ab [.slice A6 (n + 1) c6, .slice A9 (m + 1) c9, .bool false] :: CkI 2 A9 (m + 1) c9 (ls ++ [(m : Int)]) :: CkR 34 A6 (n + 1) c6 (rs ++ [⟨A4, k, c4⟩]) :: (rowsCk 2 rs im ++ ks)) := hS11
  refine Ops.mv_int rfl rfl rfl ?_
  refine Ops.nil ?_
  refine thenQ_n ?_
  refine Cd.ret ?_
  skip
  refine retc2_r rfl (hS11.rd 1 rfl) rfl ?_
  refine ⟨⟨A6, n + 1, c6, rs ++ [⟨A4, k, c4⟩], im ++ [List.replicate k (-1)], A9, m + 1, c9, ls ++ [(m : Int)]⟩, ⟨by simp [h1], by simp [h2], by simp [h3]⟩, ?_, rfl, ?_⟩
  ·rw [← hp, h3]; rfl
  ·have h5 := (hS11.sub ((((List.Sublist.refl _).cons _).cons _).cons_cons _))
   show St w0 w11 (CkI 2 A9 (m + 1) c9 (ls ++ [(m : Int)]) :: CkR 34 A6 (n + 1) c6 (rs ++ [⟨A4, k, c4⟩]) :: (rowsCk 2 (rs ++ [⟨A4, k, c4⟩]) (im ++ [List.replicate k (-1)]) ++ ks))
   rw [rowsCk_append (by omega), List.append_assoc]
   refine h5.perm ?_
   refine (List.perm_middle (l₁ := [_, _]) (a := CkI 2 A4 k c4 (List.replicate k (-1)))).symm.trans ?_
   refine List.Perm.cons _ (List.Perm.cons _ ?_)
   exact List.perm_middle.symm
end Go.Proofs.YtjpkmpihmilgoaaGreat.Vc
/-
 The reference's coset enumeration, walked: the next image. Conditions: as each states them.
-/
namespace Go.Proofs.YtjpkmpihmilgoaaGreat.Vc
open Go.RowKit

def setI (M : List (List Int)) (c g v : Int) : List (List Int) := M.set c.toNat ((gl M c).set g.toNat v)
def nextP (x : PS) (c g : Int) : Option (PS × Int) :=
 match imageP x c g with
 | none => none
 | some d => if 0 ≤ d then some (x, d) else
  match defP x (gl x.im 0).length with
  | none => none
  | some y => if g < ((gl x.im 0).length : Int) then some (⟨setI (setI y.im c g (x.ls.length : Int)) (x.ls.length : Int) g c, y.ls⟩, (x.ls.length : Int)) else none

theorem St.toBack {w0 w : World} {pre a ks : List Ck} (h : St w0 w (pre ++ (a ++ ks))) : St w0 w (a ++ (pre ++ ks)) := h.perm (by
 rw [← List.append_assoc, ← List.append_assoc]
 exact List.perm_append_comm.append_right ks)
/-- the state of a struct with its memory -/
def LSt (w0 : World) (pre : List Ck) (ks : List Ck) (y : PS) (x : LS) (w : World) : Prop := x.ok ∧ x.p = y ∧ St w0 w (pre ++ (x.cks ++ ks))
theorem LS.rowsI {w0 w : World} {pre ks : List Ck} {x : LS} (hok : x.ok) (h : St w0 w (pre ++ (x.cks ++ ks))) : RowsI w x.A x.n x.rs x.im := by
 have h1 : St w0 w (x.cks ++ (pre ++ ks)) := h.toBack
 have h2 : St w0 w (mat 34 2 x.A x.n x.c x.rs x.im ++ (pre ++ ks)) := h1.tail
 exact h2.rowsI hok.2.1
theorem LS.rdI {w0 w : World} {pre ks : List Ck} {x : LS} (h : St w0 w (pre ++ (x.cks ++ ks))) : RdI w x.B x.m x.ls := by
 have h1 : St w0 w (x.cks ++ (pre ++ ks)) := h.toBack
 exact h1.rdI 0 rfl
theorem l11Next_c {w0 w : World} {ks : List Ck} (x : LS) (c g : Int) (y : PS) (d : Int) (hok : x.ok) (hS : St w0 w (x.cks ++ ks)) (hp : nextP x.p c g = some (y, d)) :
  Ret Tryz.prog 224 [x.val, .int .i64 c, .int .i64 g] w (fun v w' => ∃ x' : LS, x'.ok ∧ x'.p = y ∧ v = .tuple #[x'.val, .int .i64 d] ∧ St w0 w' (x'.cks ++ ks)) := by
 unfold nextP at hp
 split at hp
 case h_1 => cases hp
 rename_i d0 hd0
 have hcc : 0 ≤ c ∧ c < (x.im.length : Int) ∧ 0 ≤ g ∧ g < ((gl x.im c).length : Int) := by
  have hd1 : (if 0 ≤ c ∧ c < (x.im.length : Int) ∧ 0 ≤ g ∧ g < ((gl x.im c).length : Int) then (if gi (gl x.im c) g < 0 then some (-1) else findP x.ls 2000 (gi (gl x.im c) g)) else none) = some d0 := hd0
  split at hd1
  case isFalse => cases hd1
  rename_i h; exact h
 obtain ⟨ci, rfl⟩ : ∃ ci : Nat, c = ci := ⟨c.toNat, by omega⟩
 have hR0 := LS.rdI (pre := []) hS
 have hI0 := LS.rowsI (pre := []) hok hS
 refine Ret.of_cd Tryz.func224 rfl Tryz.ntmps224 rfl (postc2 rfl rfl) ?_
 refine Cd.seq ?_
 refine Cd.region ?_
 refine Ops.box3 hS rfl rfl ?_
 intro Ab w1 hS1
 skip
 refine Ops.new3 hS1 rfl ?_
 intro Ac w2 hS2
 have hS2 : St w0 w2 ([Bx 202 3 Ac [.slice none 0 0, .slice none 0 0, .bool false], Bx 202 3 Ab x.cells] ++ (x.cks ++ ks)) := hS2
 have hR2 := LS.rdI hS2
 have hI2 := LS.rowsI hok hS2
 refine Ops.mv_int rfl rfl rfl ?_
 refine Ops.nil ?_
 refine thenQ_n ?_
 refine Cd.seq ?_
 refine Cd.seq ?_
 refine Cd.region ?_
 refine Ops.ld_agg 2 (hS2.rd 1 rfl) rfl rfl rfl ?_
 refine Ops.mv_int rfl rfl rfl ?_
 refine Ops.mv_int rfl rfl rfl ?_
 refine Ops.call (l11Image_c x.rs x.im x.ls (ci : Int) g d0 _ hI2 hR2 hd0) rfl rfl rfl ?_
 rintro _ w3 ⟨rfl, hst⟩
 have hS3 := hS2.later hst.below
 refine Ops.mv_int rfl rfl rfl ?_
 refine Ops.nil ?_
 refine thenQ_n ?_
 refine Cd.seq ?_
 refine Cd.region ?_
 refine Ops.mv_int rfl rfl rfl ?_
 refine Ops.geq rfl rfl rfl ?_
 refine Ops.nil ?_
 refine thenQ_n ?_
 refine Cd.cond_p _ rfl (fun h1 => ?_) (fun h1 => ?_)
 ·rw [if_pos h1] at hp
  obtain ⟨rfl, rfl⟩ := Prod.mk.inj (Option.some.inj hp)
  refine Cd.seq ?_
  refine Cd.region ?_
  refine Ops.ld_agg 2 (hS3.rd 1 rfl) rfl rfl rfl ?_
  refine Ops.mv_int rfl rfl rfl ?_
  refine Ops.st_agg 3 0 hS3 rfl rfl rfl rfl rfl rfl rfl ?_
  intro w4 hS4
  refine Ops.mv_int rfl rfl rfl ?_
  refine Ops.nil ?_
  refine thenQ_n ?_
  refine Cd.ret ?_
  refine thenQ_r ?_
  skip
  refine retc2_r rfl (hS4.rd 0 rfl) rfl ?_
  exact ⟨x, hok, rfl, rfl, (hS4.sub ((List.Sublist.refl _).cons _)).sub ((List.Sublist.refl _).cons _)⟩
 ·rw [if_neg h1] at hp
  split at hp
  case h_1 => cases hp
  rename_i y1 hy1
  split at hp
  case isFalse => cases hp
  rename_i hg
  obtain ⟨e1, e2⟩ := Prod.mk.inj (Option.some.inj hp)
  have hI3 := hI2.later hst.below
  have hn : 0 < x.n := by have := hok.2.1; omega
  have hrow := hI3.at_ (i := 0) (Int.le_refl _) (by omega)
  have hrl : (rg x.rs 0).n = (gl x.im 0).length := hrow.1.symm
  refine Cd.skip ?_
  refine thenQ_n ?_
  refine Cd.seq ?_
  refine Cd.drawP [6, 10] [.ex (.agg #[.slice (x.A) (x.n) (x.c), .slice (x.B) (x.m) (x.cB), .bool (false)]), .ex (.pointer (ptrAt (Ab) 0)), .ex (.slice (x.A) (x.n) (x.c)), .ex (.pointer (ptrAt (x.A) ((0 : Int)).toNat)), .ex (.slice ((rg (x.rs) ((0 : Int))).a) ((rg (x.rs) ((0 : Int))).n) ((rg (x.rs) ((0 : Int))).c)), .ex (.int .i64 ((((rg (x.rs) ((0 : Int))).n : Nat) : Int))), .pr (fun v w' => ∃ x' : LS, v = .tuple #[x'.val, .int .i64 (x.m : Int)] ∧ LSt w0 [Bx 202 3 Ac [.slice none 0 0, .slice none 0 0, .bool false], Bx 202 3 Ab x.cells] ks y1 x' w'), .al (fun v => ∃ u0, v = .tuple #[u0, .int .i64 (x.m : Int)]) (fun v w' => ∃ x' : LS, v = .tuple #[x'.val, .int .i64 (x.m : Int)] ∧ LSt w0 [Bx 202 3 Ac [.slice none 0 0, .slice none 0 0, .bool false], Bx 202 3 Ab x.cells] ks y1 x' w'), .pr (fun v w' => ∃ x' : LS, v = x'.val ∧ LSt w0 [Bx 202 3 Ac [.slice none 0 0, .slice none 0 0, .bool false], Bx 202 3 Ab x.cells] ks y1 x' w'), .ex (.int .i64 (x.m : Int)), .pr (fun _ w' => ∃ x' : LS, LSt w0 [Bx 202 3 Ac [.slice none 0 0, .slice none 0 0, .bool false], Bx 202 3 Ab x'.cells] ks y1 x' w'), .ex (.int .i64 (x.m : Int))] (by kernel_rfl) (by kernel_rfl) (List.forall_mem_cons.2 ⟨Ye.lasts_ex _, (List.forall_mem_cons.2 ⟨Ye.lasts_ex _, (List.forall_mem_cons.2 ⟨Ye.lasts_ex _, (List.forall_mem_cons.2 ⟨Ye.lasts_ex _, (List.forall_mem_cons.2 ⟨Ye.lasts_ex _, (List.forall_mem_cons.2 ⟨Ye.lasts_ex _, (List.forall_mem_cons.2 ⟨Ye.lasts_pr (fun v w w' h hb => by obtain ⟨x', hv, h1, h2, h3⟩ := h; exact ⟨x', hv, h1, h2, h3.later hb⟩), (List.forall_mem_cons.2 ⟨Ye.lasts_al (fun v w w' h hb => by obtain ⟨x', hv, h1, h2, h3⟩ := h; exact ⟨x', hv, h1, h2, h3.later hb⟩), (List.forall_mem_cons.2 ⟨Ye.lasts_pr (fun v w w' h hb => by obtain ⟨x', hv, h1, h2, h3⟩ := h; exact ⟨x', hv, h1, h2, h3.later hb⟩), (List.forall_mem_cons.2 ⟨Ye.lasts_ex _, (List.forall_mem_cons.2 ⟨Ye.lasts_pr (fun v w w' h hb => by obtain ⟨x', h1, h2, h3⟩ := h; exact ⟨x', h1, h2, h3.later hb⟩), (List.forall_mem_cons.2 ⟨Ye.lasts_ex _, (fun _ h => by cases h)⟩)⟩)⟩)⟩)⟩)⟩)⟩)⟩)⟩)⟩)⟩)⟩) ⟨?_, ?_, ?_, ?_, ?_, ?_, ?_, ?_, ?_, ?_, ?_, ?_, trivial⟩ ?_
  ·intro e1 w1 cc hlo hhi hb0 hp hun hq
   show Ops _ _ _ _ _ _ _
   replace hlo := le_of_lo hlo (b := 0) (by kernel_rfl)
   replace hhi := le_of_hi hhi (b := 0) (by kernel_rfl)
   obtain rfl : cc = 0 := by omega
   have hb := hb0 rfl
   refine Ops.ld_agg 2 ((hS3.rd 1 rfl).below hb) rfl rfl rfl ?_
   refine Ops.nil ?_
   exact AfterP.dn rfl (Below.refl _ _) (by exact rfl)
  ·intro e1 w1 cc hlo hhi hb0 hp hun hq
   show Ops _ _ _ _ _ _ _
   replace hlo := le_of_lo hlo (b := 0) (by kernel_rfl)
   replace hhi := le_of_hi hhi (b := 0) (by kernel_rfl)
   obtain rfl : cc = 0 := by omega
   have hb := hb0 rfl
   refine Ops.fld ((hS3.rd 1 rfl).below hb) rfl rfl rfl rfl inferInstance ?_
   refine Ops.nil ?_
   exact AfterP.dn rfl (Below.refl _ _) (by exact rfl)
  ·intro e1 w1 cc hlo hhi hb0 hp hun hq
   show Ops _ _ _ _ _ _ _
   replace hlo := le_of_lo hlo (b := 0) (by kernel_rfl)
   replace hhi := le_of_hi hhi (b := 0) (by kernel_rfl)
   obtain rfl : cc = 0 := by omega
   have hb := hb0 rfl
   refine Ops.ldf_s ((hS3.rd 1 rfl).below hb) rfl rfl rfl rfl rfl ?_
   refine Ops.nil ?_
   exact AfterP.dn rfl (Below.refl _ _) (by exact rfl)
  ·intro e1 w1 cc hlo hhi hb0 hp hun hq
   show Ops _ _ _ _ _ _ _
   replace hlo := le_of_lo hlo (b := 0) (by kernel_rfl)
   replace hhi := le_of_hi hhi (b := 0) (by kernel_rfl)
   obtain rfl : cc = 0 := by omega
   have hb := hb0 rfl
   refine Ops.idx (hI3.top.later hb).2 rfl rfl rfl (by omega) (by omega) ?_
   refine Ops.nil ?_
   exact AfterP.dn rfl (Below.refl _ _) (by exact rfl)
  ·intro e1 w1 cc hlo hhi hb0 hp hun hq
   show Ops _ _ _ _ _ _ _
   replace hlo := le_of_lo hlo (b := 0) (by kernel_rfl)
   replace hhi := le_of_hi hhi (b := 0) (by kernel_rfl)
   obtain rfl : cc = 0 := by omega
   have hb := hb0 rfl
   refine Ops.ld_sl (hI3.top.later hb) rfl (by omega) rfl rfl ?_
   refine Ops.nil ?_
   exact AfterP.dn rfl (Below.refl _ _) (by exact rfl)
  ·intro e1 w1 cc hlo hhi hb0 hp hun hq
   show Ops _ _ _ _ _ _ _
   refine Ops.len rfl rfl ?_
   refine Ops.nil ?_
   exact AfterP.dn rfl (Below.refl _ _) (by exact rfl)
  ·intro e1 w1 cc hlo hhi hb0 hp hun hq
   show Ops _ _ _ _ _ _ _
   replace hlo := le_of_lo hlo (b := 0) (by kernel_rfl)
   replace hhi := le_of_hi hhi (b := 0) (by kernel_rfl)
   obtain rfl : cc = 0 := by omega
   have hb := hb0 rfl
   refine Ops.call (l11Define_c x (gl x.im 0).length y1 hok ((hS3.later (hb0 rfl)).toBack (pre := [_, _])) hy1) rfl (by rw [← hrl]; rfl) rfl ?_
   rintro _ w4 ⟨x', hok', hp', rfl, hT⟩
   refine Ops.nil ?_
   exact AfterU.dn rfl ⟨x', rfl, hok', hp', hT.toBack⟩
  ·intro e1 w1 cc hlo hhi hb0 hp hun hq
   show Ops _ _ _ _ _ _ _
   replace hlo := le_of_lo hlo (b := 1) (by kernel_rfl)
   replace hhi := le_of_hi hhi (b := 1) (by kernel_rfl)
   obtain rfl : cc = 1 := by omega
   have hph := hp 6 _ _ (by kernel_rfl) rfl rfl (by kernel_rfl)
   obtain ⟨x', hv, hT⟩ := (hp 6 _ _ (by kernel_rfl) rfl rfl (by kernel_rfl))
   refine Ops.mv_tup rfl (by exact hv) rfl ?_
   refine Ops.nil ?_
   exact AfterP.dn rfl (Below.refl _ _) ⟨⟨_, rfl⟩, x', rfl, hT⟩
  ·intro e1 w1 cc hlo hhi hb0 hp hun hq
   show Ops _ _ _ _ _ _ _
   replace hlo := le_of_lo hlo (b := 1) (by kernel_rfl)
   replace hhi := le_of_hi hhi (b := 1) (by kernel_rfl)
   obtain rfl : cc = 1 := by omega
   have hph := hp 6 _ _ (by kernel_rfl) rfl rfl (by kernel_rfl)
   obtain ⟨x', hv, hT⟩ := ((hp 7 _ _ (by kernel_rfl) rfl rfl).2 (by kernel_rfl))
   refine Ops.extract (by exact hv) rfl rfl ?_
   refine Ops.nil ?_
   exact AfterP.dn rfl (Below.refl _ _) ⟨x', rfl, hT⟩
  ·intro e1 w1 cc hlo hhi hb0 hp hun hq
   show Ops _ _ _ _ _ _ _
   obtain ⟨u0, hv⟩ := (hp 7 _ _ (by kernel_rfl) rfl rfl).1
   refine Ops.extract (by exact hv) rfl rfl ?_
   refine Ops.nil ?_
   exact AfterP.dn rfl (Below.refl _ _) rfl
  ·intro e1 w1 cc hlo hhi hb0 hp hun hq
   show Ops _ _ _ _ _ _ _
   replace hlo := le_of_lo hlo (b := 1) (by kernel_rfl)
   replace hhi := le_of_hi hhi (b := 1) (by kernel_rfl)
   obtain rfl : cc = 1 := by omega
   have hph := hp 6 _ _ (by kernel_rfl) rfl rfl (by kernel_rfl)
   obtain ⟨x', hv, h1, h2, h3⟩ := (hp 8 _ _ (by kernel_rfl) rfl rfl (by kernel_rfl))
   refine Ops.st_agg 3 1 h3 rfl rfl (by exact hv) rfl rfl rfl rfl ?_
   intro w11 hT11
   refine Ops.nil ?_
   exact AfterU.st rfl ⟨x', h1, h2, hT11⟩
  ·intro e1 w1 cc hlo hhi hb0 hp hun hq
   show Ops _ _ _ _ _ _ _
   refine Ops.mv_int rfl rfl rfl ?_
   refine Ops.nil ?_
   exact AfterP.dn rfl (Below.refl _ _) (by exact rfl)
  intro u w5 _ hu _ _
  obtain ⟨x', hok', hp', hT⟩ := hu 10 _ rfl (by kernel_rfl)
  have hxm : x.ls.length = x.m := hok.2.2
  have hy2 := hy1
  have hy1 : (if x.ls.length = x.im.length ∧ x.ls.length < 2000 ∧ (gl x.im 0).length ≤ 100 then some (⟨x.im ++ [List.replicate (gl x.im 0).length (-1)], x.ls ++ [(x.ls.length : Int)]⟩ : PS) else none) = some y1 := hy1
  split at hy1
  case isFalse => cases hy1
  rename_i hb1
  obtain rfl := Option.some.inj hy1
  have him : x'.im = x.im ++ [List.replicate (gl x.im 0).length (-1)] := congrArg PS.im hp'
  have hls : x'.ls = x.ls ++ [(x.ls.length : Int)] := congrArg PS.ls hp'
  have hgg : g < ((gl x.im 0).length : Int) := hg
  have hn' : x'.n = x.n + 1 := by have := hok'.2.1; rw [him, List.length_append] at this; have h5 := hok.2.1; simp at this; omega
  have hT0 : St w0 w5 ([Bx 202 3 Ac [.slice none 0 0, .slice none 0 0, .bool false], Bx 202 3 Ab x'.cells] ++ (x'.cks ++ ks)) := hT
  have hT5 : St w0 w5 ([Bx 202 3 Ac [.slice none 0 0, .slice none 0 0, .bool false], Bx 202 3 Ab x'.cells, CkI 2 x'.B x'.m x'.cB x'.ls] ++ (mat 34 2 x'.A x'.n x'.c x'.rs x'.im ++ ks)) := hT
  have hI5 := LS.rowsI hok' hT0
  have hin : x.im.length = x.n := hok.2.1
  have hrow5 := hI5.at_ (i := (ci : Int)) hcc.1 (by omega)
  have egl : gl x'.im (ci : Int) = gl x.im (ci : Int) := by
   rw [him]
   simp only [gl, Int.toNat_natCast, List.getD_eq_getElem?_getD]
   rw [List.getElem?_append_left (by omega)]
  have egm : gl x'.im (x.m : Int) = List.replicate (gl x.im 0).length (-1) := by
   rw [him]
   simp only [gl, Int.toNat_natCast, List.getD_eq_getElem?_getD]
   rw [List.getElem?_append_right (by omega)]
   simp [show x.m - x.im.length = 0 by omega]
  have hr5 : (rg x'.rs (ci : Int)).n = (gl x.im (ci : Int)).length := by rw [← hrow5.1, egl]
  have hrl' : x'.rs.length = x'.im.length := by rw [hok'.1, hok'.2.1]
  refine thenQ_n ?_
  refine Cd.seq ?_
  refine Cd.seq ?_
  refine Cd.region ?_
  refine Ops.fld (hT5.rd 1 rfl) rfl rfl rfl rfl inferInstance ?_
  refine Ops.ldf_b (hT5.rd 1 rfl) rfl rfl rfl rfl rfl ?_
  refine Ops.nil ?_
  refine thenQ_n ?_
  refine Cd.cond_f rfl ?_
  refine Cd.skip ?_
  refine thenQ_n ?_
  refine Cd.seq ?_
  refine Cd.region ?_
  refine Ops.fld (hT5.rd 1 rfl) rfl rfl rfl rfl inferInstance ?_
  refine Ops.ldf_s (hT5.rd 1 rfl) rfl rfl rfl rfl rfl ?_
  refine Ops.mv_int rfl rfl rfl ?_
  refine Ops.idx hI5.top.2 rfl rfl rfl (by omega) (by omega) ?_
  refine Ops.ld_sl hI5.top rfl (by omega) rfl rfl ?_
  refine Ops.mv_int rfl rfl rfl ?_
  refine Ops.mv_int rfl rfl rfl ?_
  refine Ops.idx hrow5.2 rfl rfl rfl (by omega) (by omega) ?_
  skip
  refine Ops.st_row ci hT5 hrl' (by rw [hok'.1]; omega) rfl rfl (by omega) ?_
  intro w6 hT6
  have hok6 : ({ x' with im := x'.im.set ci ((gl x'.im (ci : Int)).set g.toNat (x.m : Int)) } : LS).ok := ⟨hok'.1, by show (x'.im.set _ _).length = _; rw [List.length_set]; exact hok'.2.1, hok'.2.2⟩
  generalize hx6 : ({ x' with im := x'.im.set ci ((gl x'.im (ci : Int)).set g.toNat (x.m : Int)) } : LS) = x6 at hok6
  have hA6 : x6.A = x'.A ∧ x6.n = x'.n ∧ x6.c = x'.c ∧ x6.rs = x'.rs ∧ x6.B = x'.B ∧ x6.m = x'.m ∧ x6.cB = x'.cB ∧ x6.ls = x'.ls ∧ x6.im = x'.im.set ci ((gl x'.im (ci : Int)).set g.toNat (x.m : Int)) := by subst hx6; exact ⟨rfl, rfl, rfl, rfl, rfl, rfl, rfl, rfl, rfl⟩
  obtain ⟨q1, q2, q3, q4, q5, q6, q7, q8, q9⟩ := hA6
  have hT6' : St w0 w6 ([Bx 202 3 Ac [.slice none 0 0, .slice none 0 0, .bool false], Bx 202 3 Ab x'.cells] ++ (x6.cks ++ ks)) := by
   show St w0 w6 ([Bx _ 3 Ac _, Bx _ 3 Ab x'.cells] ++ ((CkI _ x6.B x6.m x6.cB x6.ls :: mat _ _ x6.A x6.n x6.c x6.rs x6.im) ++ ks))
   rw [q1, q2, q3, q4, q5, q6, q7, q8, q9]
   exact hT6
  have hI6 := LS.rowsI hok6 hT6'
  have hrow6 := hI6.at_ (i := (x.m : Int)) (by omega) (by omega)
  have eg6 : gl x6.im (x.m : Int) = List.replicate (gl x.im 0).length (-1) := by
   rw [q9, gl_set (by rw [him, List.length_append]; omega), if_neg (by omega), egm]
  have hr6 : (rg x6.rs (x.m : Int)).n = (gl x.im 0).length := by rw [← hrow6.1, eg6, List.length_replicate]
  refine Ops.nil ?_
  refine thenQ_n ?_
  refine Cd.seq ?_
  refine Cd.region ?_
  refine Ops.fld (hT6'.rd 1 rfl) rfl rfl rfl rfl inferInstance ?_
  refine Ops.ldf_s (hT6'.rd 1 rfl) rfl rfl rfl rfl rfl ?_
  refine Ops.mv_int rfl rfl rfl ?_
  rw [q1, q2, q4] at hI6
  rw [q4] at hrow6 hr6
  refine Ops.idx hI6.top.2 rfl rfl rfl (by omega) (by omega) ?_
  refine Ops.ld_sl hI6.top rfl (by omega) rfl rfl ?_
  refine Ops.mv_int rfl rfl rfl ?_
  refine Ops.mv_int rfl rfl rfl ?_
  refine Ops.idx hrow6.2 rfl rfl rfl (by omega) (by omega) ?_
  skip
  have hT7 : St w0 w6 ([Bx 202 3 Ac [.slice none 0 0, .slice none 0 0, .bool false], Bx 202 3 Ab x'.cells, CkI 2 x'.B x'.m x'.cB x'.ls] ++ (mat 34 2 x'.A x'.n x'.c x'.rs x6.im ++ ks)) := by
   rw [q9]; exact hT6
  refine Ops.st_row x.m hT7 (by rw [q9, List.length_set]; exact hrl') (by rw [hok'.1]; omega) rfl rfl (by omega) ?_
  intro w8 hT8
  refine Ops.nil ?_
  refine thenQ_n ?_
  refine Cd.seq ?_
  refine Cd.region ?_
  refine Ops.ld_agg 2 (hT8.rd 1 rfl) rfl rfl rfl ?_
  refine Ops.mv_int rfl rfl rfl ?_
  refine Ops.st_agg 3 0 hT8 rfl rfl rfl rfl rfl rfl rfl ?_
  intro w9 hT9
  refine Ops.mv_int rfl rfl rfl ?_
  refine Ops.nil ?_
  refine thenQ_n ?_
  refine Cd.ret ?_
  skip
  refine retc2_r rfl (hT9.rd 0 rfl) rfl ?_
  refine ⟨{ x' with im := x6.im.set x.m ((gl x6.im (x.m : Int)).set g.toNat (ci : Int)) }, ⟨hok'.1, by show (x6.im.set _ _).length = _; rw [List.length_set, q9, List.length_set]; exact hok'.2.1, hok'.2.2⟩, ?_, ?_, (hT9.sub ((List.Sublist.refl _).cons _)).sub ((List.Sublist.refl _).cons _)⟩
  ·rw [← e1]
   show (⟨x6.im.set x.m ((gl x6.im (x.m : Int)).set g.toNat (ci : Int)), x'.ls⟩ : PS) = _
   rw [q9, him, hls]
   unfold setI
   simp only [Int.toNat_natCast]
   have e9 : x.p.ls.length = x.m := hxm
   rw [e9]
  ·rw [← e2]
   have e9 : x.p.ls.length = x.m := hxm
   rw [e9]
   rfl
end Go.Proofs.YtjpkmpihmilgoaaGreat.Vc
/-
 The reference's coset enumeration, walked: cosets identified. Conditions: as each states them.
-/
namespace Go.Proofs.YtjpkmpihmilgoaaGreat.Vc
open Go.RowKit

/-- one row's images given over -/
def idRowP (lo hi : Int) : Nat → Nat → List (List Int) → List Int → List Int → Option (List (List Int) × List Int × List Int)
 | 0, _, _, _, _ => none
 | k + 1, g, im, one, two =>
  if g < (gl im hi).length then
   if gi (gl im hi) g < 0 then idRowP lo hi k (g + 1) im one two
   else if g < (gl im lo).length then
    if 0 ≤ gi (gl im lo) g then (if one.length < 1000000 ∧ two.length < 1000000 then idRowP lo hi k (g + 1) im (one ++ [gi (gl im hi) g]) (two ++ [gi (gl im lo) g]) else none)
    else idRowP lo hi k (g + 1) (setI im lo g (gi (gl im hi) g)) one two
   else none
  else some (im, one, two)
def identP : Nat → Nat → PS → List Int → List Int → Option PS
 | 0, _, _, _, _ => none
 | k + 1, i, x, one, two =>
  if i < one.length then
   if i < two.length then
    match findP x.ls 2000 (gi one i), findP x.ls 2000 (gi two i) with
    | some a, some b =>
     if a = b then identP k (i + 1) x one two
     else
      if 0 ≤ (if b < a then b else a) ∧ (if b < a then a else b) < (x.im.length : Int) ∧ (if b < a then a else b) < (x.ls.length : Int) ∧ x.im.length ≤ 2000 then
       match idRowP (if b < a then b else a) (if b < a then a else b) 1000 0 x.im one two with
       | some (im, one', two') => identP k (i + 1) ⟨im, x.ls.set (if b < a then a else b).toNat (if b < a then b else a)⟩ one' two'
       | none => none
      else none
    | _, _ => none
   else none
  else some x
structure IdS where
 i : Nat
 k : Nat
 A7 : Option Addr
 c7 : Nat
 one : List Int
 A8 : Option Addr
 c8 : Nat
 two : List Int
 im : List (List Int)
 ls : List Int

theorem l11Identify_c {w0 w : World} {ks : List Ck} (x : LS) (c d : Int) (y : PS) (k0 : Nat) (hok : x.ok) (hS : St w0 w (x.cks ++ ks)) (hp : identP k0 0 x.p [c] [d] = some y) :
    Ret Tryz.prog 226 [x.val, .int .i64 c, .int .i64 d] w (fun v w' => ∃ x' : LS, x'.ok ∧ x'.p = y ∧ v = x'.val ∧ St w0 w' (x'.cks ++ ks)) := by
  obtain ⟨A, n, cc, rs, im, B, m, cB, ls⟩ := x
  obtain ⟨h1, h2, h3⟩ := hok
  have h1 : rs.length = n := h1
  have h2 : im.length = n := h2
  have h3 : ls.length = m := h3
  refine Ret.of_cd Tryz.func226 rfl Tryz.ntmps226 rfl (postc rfl rfl) ?_
  refine Cd.seq ?_
  refine Cd.region ?_
  refine Ops.box3 hS rfl rfl ?_
  intro Ab w1 hS1
  skip
  refine Ops.new3 hS1 rfl ?_
  intro Ac w2 hS2
  refine Ops.nil ?_
  refine thenQ_n ?_
  refine Cd.seq ?_
  refine Cd.region ?_
  refine Ops.mv_int rfl rfl rfl ?_
  refine Ops.bs1I hS2 rfl rfl rfl ?_
  intro A7 w3 hS3
  refine Ops.mv_int rfl rfl rfl ?_
  refine Ops.bs1I hS3 rfl rfl rfl ?_
  intro A8 w4 hS4
  have hS4 : St w0 w4 ([CkI 2 A8 1 1 [d], CkI 2 A7 1 1 [c], Bx 202 3 Ac [.slice none 0 0, .slice none 0 0, .bool false], Bx 202 3 Ab [.slice A n cc, .slice B m cB, .bool false], CkI 2 B m cB ls] ++ (mat 34 2 A n cc rs im ++ ks)) := hS4
  refine Ops.mv_sl rfl rfl rfl ?_
  refine Ops.mv_sl rfl rfl rfl ?_
  refine Ops.nil ?_
  refine thenQ_n ?_
  refine Cd.seq ?_
  refine Cd.seq ?_
  refine Cd.region ?_
  refine Ops.mv_int rfl rfl rfl ?_
  refine Ops.nil ?_
  refine thenQ_n ?_
  refine Cd.block ?_
  refine Cd.loop (α := IdS) (fun s => [(3, .pointer Ab), (6, .pointer Ac), (7, .slice s.A7 s.one.length s.c7), (8, .slice s.A8 s.two.length s.c8), (9, .int .i64 (s.i : Int))])
    (fun s w' => St w0 w' ([CkI 2 s.A8 s.two.length s.c8 s.two, CkI 2 s.A7 s.one.length s.c7 s.one, Bx 202 3 Ac [.slice none 0 0, .slice none 0 0, .bool false], Bx 202 3 Ab [.slice A n cc, .slice B m cB, .bool false], CkI 2 B m cB s.ls] ++ (mat 34 2 A n cc rs s.im ++ ks)) ∧ s.im.length = n ∧ s.ls.length = m ∧ identP s.k s.i ⟨s.im, s.ls⟩ s.one s.two = some y) (fun s => s.k)
    ⟨0, k0, A7, 1, [c], A8, 1, [d], im, ls⟩ ⟨rfl, rfl, rfl, rfl, rfl, trivial⟩ ⟨hS4, h2, h3, hp⟩ ?_
  rintro ⟨i, k, A7, c7, one, A8, c8, two, im, ls⟩ e w5 ⟨hS5, h2, h3, hf⟩
  dsimp only at hS5 h2 h3 hf ⊢
  obtain ⟨q, rfl⟩ : ∃ q, k = q + 1 := by cases k with | zero => cases hf | succ q => exact ⟨q, rfl⟩
  rw [identP] at hf
  have hc1 := hS5.cap 1 rfl
  dsimp only [CkI] at hc1
  simp only [maxLen] at hc1
  refine Cd.seq ?_
  refine Cd.seq ?_
  refine Cd.region ?_
  refine Ops.mv_int rfl rfl rfl ?_
  refine Ops.mv_sl rfl rfl rfl ?_
  refine Ops.len rfl rfl ?_
  refine Ops.lss rfl rfl rfl ?_
  refine Ops.nil ?_
  refine thenQ_n ?_
  refine Cd.cond_p _ rfl (fun hi => ?_) (fun hi => ?_)
  · rw [if_pos (by omega)] at hf
    split at hf
    case isFalse => cases hf
    rename_i hi2
    split at hf
    case h_2 => cases hf
    rename_i a b hfa hfb
    have hR5 : RdI w5 B m ls := hS5.rdI 4 rfl
    refine Cd.skip ?_
    refine thenQ_n ?_
    refine Cd.seq ?_
    refine Cd.block ?_
    refine Cd.seq ?_
    refine Cd.draw [.ex (.agg #[.slice (A) (n) (cc), .slice (B) (m) (cB), .bool (false)]), .ex (.slice (A7) (one.length) (c7)), .ex (.int .i64 ((i : Int))), .ex (.pointer (ptrAt (A7) ((i : Int)).toNat)), .ex (.int .i64 (gi (one) ((i : Int)))), .ex (.int .i64 (a)), .ex (.agg #[.slice (A) (n) (cc), .slice (B) (m) (cB), .bool (false)]), .ex (.slice (A8) (two.length) (c8)), .ex (.int .i64 ((i : Int))), .ex (.pointer (ptrAt (A8) ((i : Int)).toNat)), .ex (.int .i64 (gi (two) ((i : Int)))), .ex (.int .i64 (b)), .ex (.int .i64 (a)), .ex (.int .i64 (b))] (by kernel_rfl) (by kernel_rfl) rfl (List.forall_mem_cons.2 ⟨Yd.lasts_ex _, (List.forall_mem_cons.2 ⟨Yd.lasts_ex _, (List.forall_mem_cons.2 ⟨Yd.lasts_ex _, (List.forall_mem_cons.2 ⟨Yd.lasts_ex _, (List.forall_mem_cons.2 ⟨Yd.lasts_ex _, (List.forall_mem_cons.2 ⟨Yd.lasts_ex _, (List.forall_mem_cons.2 ⟨Yd.lasts_ex _, (List.forall_mem_cons.2 ⟨Yd.lasts_ex _, (List.forall_mem_cons.2 ⟨Yd.lasts_ex _, (List.forall_mem_cons.2 ⟨Yd.lasts_ex _, (List.forall_mem_cons.2 ⟨Yd.lasts_ex _, (List.forall_mem_cons.2 ⟨Yd.lasts_ex _, (List.forall_mem_cons.2 ⟨Yd.lasts_ex _, (List.forall_mem_cons.2 ⟨Yd.lasts_ex _, (fun _ h => by cases h)⟩)⟩)⟩)⟩)⟩)⟩)⟩)⟩)⟩)⟩)⟩)⟩)⟩)⟩) ⟨?_, ?_, ?_, ?_, ?_, ?_, ?_, ?_, ?_, ?_, ?_, ?_, ?_, ?_, trivial⟩ ?_
    · intro e1 w1 hb hp hun
      refine Ops.ld_agg 2 ((hS5.rd 3 rfl).below hb) rfl rfl rfl ?_
      refine Ops.nil ?_
      exact After.dn (Below.refl _ _) (by exact rfl)
    · intro e1 w1 hb hp hun
      refine Ops.mv_sl rfl rfl rfl ?_
      refine Ops.nil ?_
      exact After.dn (Below.refl _ _) (by exact rfl)
    · intro e1 w1 hb hp hun
      refine Ops.mv_int rfl rfl rfl ?_
      refine Ops.nil ?_
      exact After.dn (Below.refl _ _) (by exact rfl)
    · intro e1 w1 hb hp hun
      refine Ops.idx ((hS5.rdI 1 rfl).later hb).2 rfl rfl rfl (by omega) (by omega) ?_
      refine Ops.nil ?_
      exact After.dn (Below.refl _ _) (by exact rfl)
    · intro e1 w1 hb hp hun
      refine Ops.ld_int ((hS5.rdI 1 rfl).later hb) rfl (by omega) rfl rfl ?_
      refine Ops.nil ?_
      exact After.dn (Below.refl _ _) (by exact rfl)
    · intro e1 w1 hb hp hun
      refine Ops.call (l11Find_c ls 2000 _ a _ (hR5.later hb) hfa) rfl rfl rfl ?_
      rintro _ w2 ⟨rfl, hst⟩
      refine Ops.nil ?_
      exact After.dn hst.below (by exact rfl)
    · intro e1 w1 hb hp hun
      refine Ops.ld_agg 2 ((hS5.rd 3 rfl).below hb) rfl rfl rfl ?_
      refine Ops.nil ?_
      exact After.dn (Below.refl _ _) (by exact rfl)
    · intro e1 w1 hb hp hun
      refine Ops.mv_sl rfl rfl rfl ?_
      refine Ops.nil ?_
      exact After.dn (Below.refl _ _) (by exact rfl)
    · intro e1 w1 hb hp hun
      refine Ops.mv_int rfl rfl rfl ?_
      refine Ops.nil ?_
      exact After.dn (Below.refl _ _) (by exact rfl)
    · intro e1 w1 hb hp hun
      refine Ops.idx ((hS5.rdI 0 rfl).later hb).2 rfl rfl rfl (by omega) (by omega) ?_
      refine Ops.nil ?_
      exact After.dn (Below.refl _ _) (by exact rfl)
    · intro e1 w1 hb hp hun
      refine Ops.ld_int ((hS5.rdI 0 rfl).later hb) rfl (by omega) rfl rfl ?_
      refine Ops.nil ?_
      exact After.dn (Below.refl _ _) (by exact rfl)
    · intro e1 w1 hb hp hun
      refine Ops.call (l11Find_c ls 2000 _ b _ (hR5.later hb) hfb) rfl rfl rfl ?_
      rintro _ w2 ⟨rfl, hst⟩
      refine Ops.nil ?_
      exact After.dn hst.below (by exact rfl)
    · intro e1 w1 hb hp hun
      refine Ops.mv_int rfl rfl rfl ?_
      refine Ops.nil ?_
      exact After.dn (Below.refl _ _) (by exact rfl)
    · intro e1 w1 hb hp hun
      refine Ops.mv_int rfl rfl rfl ?_
      refine Ops.nil ?_
      exact After.dn (Below.refl _ _) (by exact rfl)
    intro u w6 hb6 _
    have hS6 := hS5.later hb6
    refine thenQ_n ?_
    refine Cd.seq ?_
    refine Cd.seq ?_
    refine Cd.region ?_
    refine Ops.mv_int rfl rfl rfl ?_
    refine Ops.mv_int rfl rfl rfl ?_
    refine Ops.eql rfl rfl rfl ?_
    refine Ops.nil ?_
    refine thenQ_n ?_
    refine Cd.cond_p _ rfl (fun hab => ?_) (fun hab => ?_)
    · rw [if_pos hab] at hf
      refine Cd.exit ?_
      refine thenQ_x ?_
      refine blockQ_x ?_
      refine thenQ_n ?_
      refine Cd.region ?_
      refine Ops.mv_int rfl rfl rfl ?_
      refine Ops.add rfl rfl rfl (by omega) ?_
      refine Ops.mv_int rfl rfl rfl ?_
      refine Ops.nil ?_
      refine thenQ_n ?_
      exact ⟨⟨i + 1, q, A7, c7, one, A8, c8, two, im, ls⟩, Nat.lt_succ_self q, ⟨rfl, rfl, rfl, rfl, rfl, trivial⟩, hS6, h2, h3, hf⟩
    · rw [if_neg hab] at hf
      refine Cd.skip ?_
      refine thenQ_n ?_
      refine Cd.join (α := Unit) (fun _ => [(3, .pointer Ab), (6, .pointer Ac), (7, .slice A7 one.length c7), (8, .slice A8 two.length c8), (9, .int .i64 (i : Int)), (10, .int .i64 (if b < a then b else a)), (11, .int .i64 (if b < a then a else b))]) (fun _ w' => w' = w6) ?_ ?_
      · refine Cd.seq ?_
        refine Cd.region ?_
        refine Ops.mv_int rfl rfl rfl ?_
        refine Ops.mv_int rfl rfl rfl ?_
        refine Ops.gtr rfl rfl rfl ?_
        refine Ops.nil ?_
        refine thenQ_n ?_
        refine Cd.cond_p _ rfl (fun hlt => ?_) (fun hlt => ?_)
        · refine Cd.region ?_
          refine Ops.mv_int rfl rfl rfl ?_
          refine Ops.mv_int rfl rfl rfl ?_
          refine Ops.mv_int rfl rfl rfl ?_
          refine Ops.mv_int rfl rfl rfl ?_
          refine Ops.nil ?_
          refine thenQ_n ?_
          exact ⟨(), ⟨rfl, rfl, rfl, rfl, rfl, by show Value.int .i64 _ = .int .i64 _; rw [if_pos hlt], by show Value.int .i64 _ = .int .i64 _; rw [if_pos hlt], trivial⟩, rfl⟩
        · refine Cd.skip ?_
          refine thenQ_n ?_
          exact ⟨(), ⟨rfl, rfl, rfl, rfl, rfl, by show Value.int .i64 _ = .int .i64 _; rw [if_neg hlt], by show Value.int .i64 _ = .int .i64 _; rw [if_neg hlt], trivial⟩, rfl⟩
      · rintro _ e w7 rfl
        have hlh : (if b < a then b else a) < (if b < a then a else b) := by split <;> omega
        generalize (if b < a then b else a) = lo at hf hlh ⊢
        generalize (if b < a then a else b) = hi' at hf hlh ⊢
        split at hf
        case isFalse => cases hf
        rename_i hbd
        dsimp only at hbd
        split at hf
        case h_2 => cases hf
        rename_i im' one' two' hrowp
        obtain ⟨loN, rfl⟩ : ∃ q : Nat, lo = q := ⟨lo.toNat, by omega⟩
        obtain ⟨hiN, rfl⟩ : ∃ q : Nat, hi' = q := ⟨hi'.toNat, by omega⟩
        rw [Int.toNat_natCast] at hf
        have hRr := hS6.rdI 4 rfl
        refine Cd.seq ?_
        refine Cd.region ?_
        refine Ops.fld (hS6.rd 3 rfl) rfl rfl rfl rfl inferInstance ?_
        refine Ops.ldf_s (hS6.rd 3 rfl) rfl rfl rfl rfl rfl ?_
        refine Ops.mv_int rfl rfl rfl ?_
        refine Ops.mv_int rfl rfl rfl ?_
        refine Ops.idx hRr.2 rfl rfl rfl (by omega) (by omega) ?_
        skip
        refine Ops.st_int 4 hS6 rfl rfl rfl (by omega) ?_
        intro w8 hS8
        have hS8 : St w0 w8 ([CkI 2 A8 two.length c8 two, CkI 2 A7 one.length c7 one, Bx 202 3 Ac [.slice none 0 0, .slice none 0 0, .bool false], Bx 202 3 Ab [.slice A n cc, .slice B m cB, .bool false], CkI 2 B m cB (ls.set hiN (loN : Int))] ++ (mat 34 2 A n cc rs im ++ ks)) := hS8
        refine Ops.nil ?_
        refine thenQ_n ?_
        refine Cd.seq ?_
        refine Cd.region ?_
        refine Ops.mv_int rfl rfl rfl ?_
        refine Ops.nil ?_
        refine thenQ_n ?_
        refine Cd.block ?_
        refine Cd.loop (α := IdS) (fun s => [(3, .pointer Ab), (6, .pointer Ac), (7, .slice s.A7 s.one.length s.c7), (8, .slice s.A8 s.two.length s.c8), (9, .int .i64 (i : Int)), (10, .int .i64 (loN : Int)), (11, .int .i64 (hiN : Int)), (12, .int .i64 (s.i : Int))])
          (fun s w' => St w0 w' ([CkI 2 s.A8 s.two.length s.c8 s.two, CkI 2 s.A7 s.one.length s.c7 s.one, Bx 202 3 Ac [.slice none 0 0, .slice none 0 0, .bool false], Bx 202 3 Ab [.slice A n cc, .slice B m cB, .bool false], CkI 2 B m cB (ls.set hiN (loN : Int))] ++ (mat 34 2 A n cc rs s.im ++ ks)) ∧ s.im.length = n ∧ idRowP (loN : Int) (hiN : Int) s.k s.i s.im s.one s.two = some (im', one', two') ∧ s.i + s.k ≤ 1000) (fun s => s.k)
          ⟨0, 1000, A7, c7, one, A8, c8, two, im, ls⟩ ⟨rfl, rfl, rfl, rfl, rfl, rfl, rfl, rfl, trivial⟩ ⟨hS8, h2, hrowp, Nat.le_refl _⟩ ?_
        rintro ⟨g, k, A7, c7, one, A8, c8, two, im, ls0⟩ e w9 ⟨hS9, h2, hg, hgk⟩
        dsimp only at hS9 h2 hg hgk ⊢
        obtain ⟨r, rfl⟩ : ∃ q, k = q + 1 := by cases k with | zero => cases hg | succ q => exact ⟨q, rfl⟩
        rw [idRowP] at hg
        have hI9 : RowsI w9 A n rs im := LS.rowsI (x := ⟨A, n, cc, rs, im, B, m, cB, ls.set hiN (loN : Int)⟩) ⟨h1, h2, by rw [List.length_set]; exact h3⟩ (pre := [CkI 2 A8 two.length c8 two, CkI 2 A7 one.length c7 one, Bx 202 3 Ac [.slice none 0 0, .slice none 0 0, .bool false], Bx 202 3 Ab [.slice A n cc, .slice B m cB, .bool false]]) hS9
        have hrh := hI9.at_ (i := (hiN : Int)) (by omega) (by omega)
        have hrlo := hI9.at_ (i := (loN : Int)) (by omega) (by omega)
        have hh1 := hrh.1
        have hl1 := hrlo.1
        refine Cd.seq ?_
        refine Cd.seq ?_
        refine Cd.region ?_
        refine Ops.mv_int rfl rfl rfl ?_
        refine Ops.fld (hS9.rd 3 rfl) rfl rfl rfl rfl inferInstance ?_
        refine Ops.ldf_s (hS9.rd 3 rfl) rfl rfl rfl rfl rfl ?_
        refine Ops.mv_int rfl rfl rfl ?_
        refine Ops.idx hI9.top.2 rfl rfl rfl (by omega) (by omega) ?_
        refine Ops.ld_sl hI9.top rfl (by omega) rfl rfl ?_
        refine Ops.len rfl rfl ?_
        refine Ops.lss rfl rfl rfl ?_
        refine Ops.nil ?_
        refine thenQ_n ?_
        refine Cd.cond_p _ rfl (fun hgl => ?_) (fun hgl => ?_)
        · rw [if_pos (by omega)] at hg
          refine Cd.skip ?_
          refine thenQ_n ?_
          refine Cd.seq ?_
          refine Cd.block ?_
          refine Cd.seq ?_
          refine Cd.region ?_
          refine Ops.fld (hS9.rd 3 rfl) rfl rfl rfl rfl inferInstance ?_
          refine Ops.ldf_s (hS9.rd 3 rfl) rfl rfl rfl rfl rfl ?_
          refine Ops.mv_int rfl rfl rfl ?_
          refine Ops.idx hI9.top.2 rfl rfl rfl (by omega) (by omega) ?_
          refine Ops.ld_sl hI9.top rfl (by omega) rfl rfl ?_
          refine Ops.mv_int rfl rfl rfl ?_
          refine Ops.idx hrh.2 rfl rfl rfl (by omega) (by omega) ?_
          refine Ops.ld_int hrh rfl (by omega) rfl rfl ?_
          refine Ops.mv_int rfl rfl rfl ?_
          refine Ops.nil ?_
          refine thenQ_n ?_
          refine Cd.seq ?_
          refine Cd.seq ?_
          refine Cd.region ?_
          refine Ops.mv_int rfl rfl rfl ?_
          refine Ops.lss rfl rfl rfl ?_
          refine Ops.nil ?_
          refine thenQ_n ?_
          refine Cd.cond_p _ rfl (fun he => ?_) (fun he => ?_)
          · rw [if_pos he] at hg
            refine Cd.exit ?_
            refine thenQ_x ?_
            refine blockQ_x ?_
            refine thenQ_n ?_
            refine Cd.region ?_
            refine Ops.mv_int rfl rfl rfl ?_
            refine Ops.add rfl rfl rfl (by omega) ?_
            refine Ops.mv_int rfl rfl rfl ?_
            refine Ops.nil ?_
            refine thenQ_n ?_
            exact ⟨⟨g + 1, r, A7, c7, one, A8, c8, two, im, ls0⟩, Nat.lt_succ_self r, ⟨rfl, rfl, rfl, rfl, rfl, rfl, rfl, rfl, trivial⟩, hS9, h2, hg, by show g + 1 + r ≤ 1000; omega⟩
          · rw [if_neg he] at hg
            split at hg
            case isFalse => cases hg
            rename_i hgl2
            refine Cd.skip ?_
            refine thenQ_n ?_
            refine Cd.seq ?_
            refine Cd.region ?_
            refine Ops.fld (hS9.rd 3 rfl) rfl rfl rfl rfl inferInstance ?_
            refine Ops.ldf_s (hS9.rd 3 rfl) rfl rfl rfl rfl rfl ?_
            refine Ops.mv_int rfl rfl rfl ?_
            refine Ops.idx hI9.top.2 rfl rfl rfl (by omega) (by omega) ?_
            refine Ops.ld_sl hI9.top rfl (by omega) rfl rfl ?_
            refine Ops.mv_int rfl rfl rfl ?_
            refine Ops.idx hrlo.2 rfl rfl rfl (by omega) (by omega) ?_
            refine Ops.ld_int hrlo rfl (by omega) rfl rfl ?_
            refine Ops.mv_int rfl rfl rfl ?_
            refine Ops.nil ?_
            refine thenQ_n ?_
            refine Cd.seq ?_
            refine Cd.region ?_
            refine Ops.mv_int rfl rfl rfl ?_
            refine Ops.geq rfl rfl rfl ?_
            refine Ops.nil ?_
            refine thenQ_n ?_
            refine Cd.cond_p _ rfl (fun hf0 => ?_) (fun hf0 => ?_)
            · rw [if_pos hf0] at hg
              split at hg
              case isFalse => cases hg
              rename_i hlen
              refine Cd.seq ?_
              refine Cd.region ?_
              refine Ops.mv_sl rfl rfl rfl ?_
              refine Ops.mv_int rfl rfl rfl ?_
              refine Ops.bs1I hS9 rfl rfl rfl ?_
              intro A10 w10 hS10
              refine Ops.appI 2 hS10 rfl (hS10.rdI 0 rfl) rfl rfl rfl (by omega) (by omega) rfl ?_
              intro A11 c11 w11 hS11
              have hS11 : St w0 w11 ([CkI 2 A8 two.length c8 two, CkI 2 A11 (one.length + 1) c11 (one ++ [gi (gl im (hiN : Int)) (g : Int)]), Bx 202 3 Ac [.slice none 0 0, .slice none 0 0, .bool false], Bx 202 3 Ab [.slice A n cc, .slice B m cB, .bool false], CkI 2 B m cB (ls.set hiN (loN : Int))] ++ (mat 34 2 A n cc rs im ++ ks)) := hS11.tail
              refine Ops.mv_sl rfl rfl rfl ?_
              refine Ops.nil ?_
              refine thenQ_n ?_
              refine Cd.region ?_
              refine Ops.mv_sl rfl rfl rfl ?_
              refine Ops.mv_int rfl rfl rfl ?_
              refine Ops.bs1I hS11 rfl rfl rfl ?_
              intro A12 w12 hS12
              refine Ops.appI 1 hS12 rfl (hS12.rdI 0 rfl) rfl rfl rfl (by omega) (by omega) rfl ?_
              intro A13 c13 w13 hS13
              have hS13 : St w0 w13 ([CkI 2 A13 (two.length + 1) c13 (two ++ [gi (gl im (loN : Int)) (g : Int)]), CkI 2 A11 (one.length + 1) c11 (one ++ [gi (gl im (hiN : Int)) (g : Int)]), Bx 202 3 Ac [.slice none 0 0, .slice none 0 0, .bool false], Bx 202 3 Ab [.slice A n cc, .slice B m cB, .bool false], CkI 2 B m cB (ls.set hiN (loN : Int))] ++ (mat 34 2 A n cc rs im ++ ks)) := hS13.tail
              refine Ops.mv_sl rfl rfl rfl ?_
              refine Ops.nil ?_
              refine blockQ_n ?_
              refine thenQ_n ?_
              refine Cd.region ?_
              refine Ops.mv_int rfl rfl rfl ?_
              refine Ops.add rfl rfl rfl (by omega) ?_
              refine Ops.mv_int rfl rfl rfl ?_
              refine Ops.nil ?_
              refine thenQ_n ?_
              refine ⟨⟨g + 1, r, A11, c11, one ++ [gi (gl im (hiN : Int)) (g : Int)], A13, c13, two ++ [gi (gl im (loN : Int)) (g : Int)], im, ls0⟩, Nat.lt_succ_self r, ⟨rfl, rfl, by show Value.slice _ _ _ = .slice _ _ _; rw [List.length_append]; rfl, by show Value.slice _ _ _ = .slice _ _ _; rw [List.length_append]; rfl, rfl, rfl, rfl, rfl, trivial⟩, ?_, h2, hg, by show g + 1 + r ≤ 1000; omega⟩
              dsimp only
              rw [List.length_append, List.length_append]
              exact hS13
            · rw [if_neg hf0] at hg
              refine Cd.region ?_
              refine Ops.fld (hS9.rd 3 rfl) rfl rfl rfl rfl inferInstance ?_
              refine Ops.ldf_s (hS9.rd 3 rfl) rfl rfl rfl rfl rfl ?_
              refine Ops.mv_int rfl rfl rfl ?_
              refine Ops.idx hI9.top.2 rfl rfl rfl (by omega) (by omega) ?_
              refine Ops.ld_sl hI9.top rfl (by omega) rfl rfl ?_
              refine Ops.mv_int rfl rfl rfl ?_
              refine Ops.mv_int rfl rfl rfl ?_
              refine Ops.idx hrlo.2 rfl rfl rfl (by omega) (by omega) ?_
              skip
              refine Ops.st_row loN hS9 (by omega) (by omega) rfl rfl (by omega) ?_
              intro w10 hS10
              refine Ops.nil ?_
              refine blockQ_n ?_
              refine thenQ_n ?_
              refine Cd.region ?_
              refine Ops.mv_int rfl rfl rfl ?_
              refine Ops.add rfl rfl rfl (by omega) ?_
              refine Ops.mv_int rfl rfl rfl ?_
              refine Ops.nil ?_
              refine thenQ_n ?_
              exact ⟨⟨g + 1, r, A7, c7, one, A8, c8, two, im.set loN ((gl im (loN : Int)).set g (gi (gl im (hiN : Int)) (g : Int))), ls0⟩, Nat.lt_succ_self r, ⟨rfl, rfl, rfl, rfl, rfl, rfl, rfl, rfl, trivial⟩, hS10, by show (im.set _ _).length = n; rw [List.length_set]; exact h2, hg, by show g + 1 + r ≤ 1000; omega⟩
        · rw [if_neg (by omega)] at hg
          have hg := Option.some.inj hg
          simp only [Prod.mk.injEq] at hg
          obtain ⟨rfl, rfl, rfl⟩ := hg
          refine Cd.exit ?_
          refine thenQ_x ?_
          refine thenQ_x ?_
          refine blockQ_x ?_
          refine blockQ_n ?_
          refine thenQ_n ?_
          refine Cd.region ?_
          refine Ops.mv_int rfl rfl rfl ?_
          refine Ops.add rfl rfl rfl (by omega) ?_
          refine Ops.mv_int rfl rfl rfl ?_
          refine Ops.nil ?_
          refine thenQ_n ?_
          exact ⟨⟨i + 1, q, A7, c7, one, A8, c8, two, im, ls.set hiN (loN : Int)⟩, Nat.lt_succ_self q, ⟨rfl, rfl, rfl, rfl, rfl, trivial⟩, hS9, h2, by show (ls.set _ _).length = m; rw [List.length_set]; exact h3, hf⟩
  · rw [if_neg (by omega)] at hf
    obtain rfl := Option.some.inj hf
    refine Cd.exit ?_
    refine thenQ_x ?_
    refine thenQ_x ?_
    refine blockQ_x ?_
    refine thenQ_n ?_
    refine Cd.seq ?_
    refine Cd.region ?_
    refine Ops.ld_agg 2 (hS5.rd 3 rfl) rfl rfl rfl ?_
    skip
    refine Ops.st_agg 3 2 hS5 rfl rfl rfl rfl rfl rfl rfl ?_
    intro w6 hS6
    refine Ops.nil ?_
    refine thenQ_n ?_
    refine Cd.ret ?_
    skip
    refine retc_r rfl (hS6.rd 2 rfl) ?_
    exact ⟨⟨A, n, cc, rs, im, B, m, cB, ls⟩, ⟨h1, h2, h3⟩, rfl, rfl, hS6.sub (((((List.Sublist.refl _).cons _).cons _).cons _).cons _)⟩
end Go.Proofs.YtjpkmpihmilgoaaGreat.Vc
