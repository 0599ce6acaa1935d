/-
  The texts D2, C7, Rpl, C8, D3, D4, D5, D8, D9, C9, C11, E1, E2, E3, Dst, Gpl, F3, F4, L02, Lst, F5, Del, Hm, E5 in one. Conditions: as each part states them.
-/
import Derived.Test.YtbhnfehcpnnjcaaGreatDoorLayb
import Derived.Test.YtbhnfehcpnnjcaaGreatDoorZd
import Derived.Shelf.SlicesE.Compact
import Derived.Shelf.SlicesE.Delete
import Derived.Test.YtbhnfehcpnnjcaaGreatDoorZb
import Derived.Shelf.SortM.SortNone
import Derived.Test.YtbhnfehcpnnjcaaGreatDoorZc
/-
 The library's Compact of an ascending list of one's own, and its Delete in a list of lists of one's own; sets as ascending lists. Conditions: as each states them.
-/
namespace Go.Proofs.YtbhnfehcpnnjcaaGreatDoor.Vc
open Go.RowKit Go.Sort

/-! what the library leaves in a row of one's own -/
theorem heap_put {α : Type} [Inhabited α] {enc : α → Value} {w : World} {g q off : Nat} {cur : Array Value} {e : TypeId} {fr : Nat × Nat} (d : Array α) (hb : w.heap[g]? = some (.cells cur e fr)) :
    (putRow enc (Sort.ahead w q) g off d).heap[g]? = some (.cells (putCells enc off d cur) e fr) := by
  simp [putRow, mapBlock, Sort.ahead, Array.getElem?_modify, hb, onCells]
theorem grownBy_put {α : Type} [Inhabited α] {enc : α → Value} {w : World} {g q off : Nat} (d : Array α) : GrB w (putRow enc (Sort.ahead w q) g off d) (some g) := by
 refine ⟨⟨rfl, rfl, rfl, by simp [Sort.ahead], fun k hk hne => ?_⟩, Nat.le_add_right _ _⟩
 have : g ≠ k := fun e => hne (by rw [e])
 simp [putRow, mapBlock, Sort.ahead, Array.getElem?_modify, this]
theorem holds_own {α : Type} [Inhabited α] {enc : α → Value} {w : World} {g o : Nat} {cur : Array Value} {e : TypeId} {ds : List α} (hh : w.heap[g]? = some (.cells cur e (0, 0))) (hc : ∀ j, j < ds.length → cur[o + j]? = (ds.map enc)[j]?) : Holds enc w g o ds.toArray := fun j hj => by
 have hj' : j < ds.length := by simpa using hj
 refine ⟨?_, by simp [World.frozen?, hh]⟩
 simp only [World.cell?, hh]
 simp only [Option.isSome_none, Bool.false_eq_true, if_false]
 rw [hc j hj']
 simp [hj']
/-- a row of one's own, laid anew by the library, and cut -/
theorem St.laid {α : Type} [Inhabited α] {enc : α → Value} {w0 w : World} {ks : List Ck} {i : Nat} {k : Ck} {g o q m : Nat} {cur : Array Value} {ds : List α} (hS : St w0 w ks) (hk : ks[i]? = some k) (hA : k.A = some ⟨g, o, Option.none⟩) (hg : w0.heap.size ≤ g) (hh : w.heap[g]? = some (.cells cur k.e (0, 0))) (hs : o + k.c ≤ cur.size) (hm : m ≤ ds.length) (hd : ds.length ≤ k.c) (hc : k.c ≤ maxLen) (he1 : ∀ x, (enc x).oneCell' = true := by intro _; rfl) :
  St w0 (putRow enc (Sort.ahead w q) g o ds.toArray) (ks.set i ⟨k.A, m, k.c, k.e, (ds.take m).map enc⟩) := by
 refine hS.turn hk (by simp [Ck.blk, hA]) (by simp [Ck.blk, hA]) (grownBy_put _) (.ofC (isM_all fun v hv => by obtain ⟨x, _, rfl⟩ := List.mem_map.1 hv; exact he1 x) ⟨by simp; omega, by show m ≤ k.c; omega, hc, .inr ⟨g, o, _, hA, hg, heap_put _ hh, by simp only [putCells, Array.size_mapIdx]; exact hs, fun j hj => ?_⟩⟩)
 have hj : j < m := hj
 show (putCells enc o ds.toArray cur)[o + j]? = ((ds.take m).map enc)[j]?
 have hlt2 : o + j < cur.size := by omega
 have hjd : j < ds.length := by omega
 simp [putCells, hlt2, hjd, List.getElem?_take, hj]

/-! ascending lists without twins -/
def SA (l : List Int) : Prop := l.Pairwise (· < ·)
theorem SA.asc {l : List Int} (h : SA l) : Asc l := h.imp fun h => by omega
theorem SA.nodup {l : List Int} (h : SA l) : l.Nodup := h.imp fun h => by omega
theorem SA.eq {l l' : List Int} (h : SA l) (h' : SA l') (hm : ∀ x, x ∈ l ↔ x ∈ l') : l = l' := asc_unique ((List.perm_ext_iff_of_nodup h.nodup h'.nodup).2 hm) h.asc h'.asc

def cmpL (xs : List Int) : List Int := Lib.compactUpTo xs.toArray xs.toArray.size
theorem arr_gi (xs : List Int) (j : Nat) : xs.toArray[j]! = gi xs (j : Int) := by
 by_cases h : j < xs.length
 ·rw [gi_mem h]; simp [h]
 ·have e : gi xs (j : Int) = 0 := by simp [gi, List.getD_eq_getElem?_getD, List.getElem?_eq_none (Nat.not_lt.1 h)]
  rw [e, getElem!_neg _ _ (by simpa using h)]; rfl
theorem cmpL_eq (xs : List Int) : cmpL xs = ((List.range xs.length).filter fun j : Nat => decide (j = 0 ∨ gi xs (j : Int) ≠ gi xs ((j - 1 : Nat) : Int))).map fun j : Nat => gi xs (j : Int) := by
 unfold cmpL Lib.compactUpTo
 rw [List.size_toArray]
 have e1 : Lib.keeps xs.toArray = fun j : Nat => decide (j = 0 ∨ gi xs (j : Int) ≠ gi xs ((j - 1 : Nat) : Int)) := by
  funext j
  unfold Lib.keeps
  rw [arr_gi, arr_gi]
 rw [e1]
 exact List.map_congr_left fun j _ => arr_gi xs j
theorem cmpL_len (xs : List Int) : (cmpL xs).length ≤ xs.length := by
 rw [cmpL_eq, List.length_map]
 have := List.length_filter_le (fun j : Nat => decide (j = 0 ∨ gi xs (j : Int) ≠ gi xs ((j - 1 : Nat) : Int))) (List.range xs.length)
 rwa [List.length_range] at this
theorem cmpL_mem (xs : List Int) (x : Int) : x ∈ cmpL xs ↔ x ∈ xs := by
 rw [cmpL_eq, List.mem_map]
 constructor
 ·rintro ⟨j, hj, rfl⟩
  have := List.mem_range.1 (List.mem_filter.1 hj).1
  rw [gi_mem this]; exact List.getElem_mem _
 ·intro hx
  obtain ⟨j, hj, hjx⟩ := List.mem_iff_getElem.1 hx
  rw [← gi_mem hj] at hjx
  clear hx
  induction j with
  | zero => exact ⟨0, List.mem_filter.2 ⟨List.mem_range.2 hj, by simp⟩, hjx⟩
  | succ j ih =>
   by_cases h : gi xs ((j + 1 : Nat) : Int) = gi xs ((j : Nat) : Int)
   ·exact ih (by omega) (h ▸ hjx)
   ·exact ⟨j + 1, List.mem_filter.2 ⟨List.mem_range.2 hj, by simp only [Nat.add_sub_cancel, decide_eq_true_eq]; exact .inr h⟩, hjx⟩
theorem cmpL_SA {xs : List Int} (h : Asc xs) : SA (cmpL xs) := by
 have mono : ∀ a b, a ≤ b → b < xs.length → gi xs (a : Int) ≤ gi xs (b : Int) := fun a b hab hb => by
  rw [gi_mem (by omega), gi_mem hb]
  by_cases e : a = b
  ·subst e; exact Int.le_refl _
  ·exact (List.pairwise_iff_getElem.1 h) a b (by omega) hb (by omega)
 rw [cmpL_eq]
 unfold SA
 rw [List.pairwise_map]
 have hr : (List.range xs.length).Pairwise (· < ·) := List.pairwise_lt_range
 refine (hr.filter _).imp_of_mem fun {a b} ha hb hab => ?_
 have hb1 := List.mem_range.1 (List.mem_filter.1 hb).1
 have hb2 := of_decide_eq_true (List.mem_filter.1 hb).2
 have h1 := mono a (b - 1) (by omega) (by omega)
 have h2 := mono (b - 1) b (by omega) hb1
 rcases hb2 with hb2 | hb2
 ·omega
 ·omega
/-- the elements of a list as an ascending list without twins -/
def cs (l : List Int) : List Int := cmpL (srt l)
theorem cs_mem (l : List Int) (x : Int) : x ∈ cs l ↔ x ∈ l := by rw [cs, cmpL_mem]; exact (srt_perm l).mem_iff
theorem cs_SA (l : List Int) : SA (cs l) := cmpL_SA (srt_asc l)
theorem cs_len (l : List Int) : (cs l).length ≤ l.length := by
 have h1 := cmpL_len (srt l)
 rw [(srt_perm l).length_eq] at h1
 exact h1
theorem cs_eq {l l' : List Int} (h : SA l) (hm : ∀ x, x ∈ l ↔ x ∈ l') : l = cs l' := h.eq (cs_SA l') fun x => by rw [hm, cs_mem]
theorem cs_cs (l : List Int) (v : Int) : cs (cs l ++ [v]) = cs (l ++ [v]) := cs_eq (cs_SA _) fun x => by simp [cs_mem]
theorem cs_nil : cs [] = [] := List.eq_nil_of_length_eq_zero (Nat.le_zero.1 (cs_len []))

theorem compact_c {w0 w : World} {ks : List Ck} (i : Nat) {t : TypeId} {A : Option Addr} {n c : Nat} {xs : List Int} (hS : St w0 w ks) (hk : ks[i]? = some (CkI t A n c xs)) (h0 : 0 < n) (hn : n ≤ 1000000000) :
  Ret Tryz.prog 52 [.slice A n c] w (fun v w' => v = .slice A (cmpL xs).length c ∧ St w0 w' (ks.set i (CkI t A (cmpL xs).length c (cmpL xs)))) := by
 obtain ⟨h1, h2, h3, h4⟩ := hS.getC hk (isM_I _)
 have hl : xs.length = n := hS.lenI i hk
 have h2 : n ≤ c := h2
 have h3 : c ≤ maxLen := h3
 rcases h4 with ⟨_, hc0⟩ | ⟨g, o, cur, hA, hg, hh, hs, hc⟩
 ·have hc0 : c = 0 := hc0
  omega
 have hA : A = some ⟨g, o, none⟩ := hA
 have hs : o + c ≤ cur.size := hs
 have hc : ∀ j, j < n → cur[o + j]? = (xs.map (Value.int .i64))[j]? := hc
 subst hA
 subst hl
 have key := AnyE.slices_Compact lcomp (Value.int .i64) (fun _ => rfl) (EqlAt.intD _ _ .i64) (NeqAt.intD _ _ .i64) (0 : Int) (fun w => Tryz.zeroValue2 w) g o c xs.toArray w (holds_own hh hc) (by simp; omega) (by simpa using h2)
 refine Calls.mono key fun x w' ⟨hx, q, hw⟩ => ⟨_, hx, rfl, ?_⟩
 subst hw
 have hle := cmpL_len xs
 have h := hS.laid (q := q) (m := (cmpL xs).length) (enc := Value.int .i64) (ds := cmpL xs ++ List.replicate (xs.toArray.size - (cmpL xs).length) 0) hk rfl hg hh hs (by simp) (by simp; show _ ≤ c; omega) h3
 rw [List.take_append_of_le_length (Nat.le_refl _), List.take_length] at h
 exact h

instance : Inhabited SlV := ⟨slNil⟩
theorem delete_c {w0 w : World} {ks : List Ck} (i : Nat) {t : TypeId} {A : Option Addr} {n c a b : Nat} {xs : List SlV} (hS : St w0 w ks) (hk : ks[i]? = some (CkR t A n c xs)) (h0 : 0 < n) (hn : n ≤ 1000000000) (hab : a ≤ b) (hb : b ≤ n) :
  Ret Tryz.prog 91 [.slice A n c, .int .i64 (a : Int), .int .i64 (b : Int)] w (fun v w' => v = .slice A (n - (b - a)) c ∧ St w0 w' (ks.set i (CkR t A (n - (b - a)) c (xs.take a ++ xs.drop b)))) := by
 obtain ⟨h1, h2, h3, h4⟩ := hS.getC hk (isM_R _)
 have hl : xs.length = n := (hS.rdR i hk).1
 have h2 : n ≤ c := h2
 have h3 : c ≤ maxLen := h3
 rcases h4 with ⟨_, hc0⟩ | ⟨g, o, cur, hA, hg, hh, hs, hc⟩
 ·have hc0 : c = 0 := hc0
  omega
 have hA : A = some ⟨g, o, none⟩ := hA
 have hs : o + c ≤ cur.size := hs
 have hc : ∀ j, j < n → cur[o + j]? = (xs.map SlV.v)[j]? := hc
 subst hA
 subst hl
 obtain ⟨i0, hi0, _, hz1, _⟩ := Inf.get Tryz.prog 28
 have key := AnyE.slices_Delete ldel SlV.v (fun _ => rfl) slNil (fun w => Tryz.zeroValue28 w) i0 hi0 hz1 g o c a b xs.toArray w (holds_own hh hc) (by simpa using h2) (by simpa [maxLen] using h3) hab (by simpa using hb)
 refine Calls.mono key fun x w' ⟨hx, q, hw⟩ => ⟨_, hx, by simp, ?_⟩
 subst hw
 have h := hS.laid (q := q) (m := xs.length - (b - a)) (enc := SlV.v) (ds := xs.toArray.toList.take a ++ xs.toArray.toList.drop b ++ List.replicate (b - a) slNil) hk rfl hg hh hs (by simp; omega) (by simp; omega) h3
 have e1 : (xs.toArray.toList.take a ++ xs.toArray.toList.drop b ++ List.replicate (b - a) slNil).take (xs.length - (b - a)) = xs.take a ++ xs.drop b := by
  have e2 : (xs.take a ++ xs.drop b).length = xs.length - (b - a) := by simp; omega
  show (xs.take a ++ xs.drop b ++ List.replicate (b - a) slNil).take _ = _
  rw [← e2, List.take_append_of_le_length (Nat.le_refl _), List.take_length]
 rw [e1] at h
 exact h
end Go.Proofs.YtbhnfehcpnnjcaaGreatDoor.Vc
/-
 The walk of the law FnExactPetrieCycles: it returns true. Conditions: as it states them.
-/
namespace Go.Proofs.YtbhnfehcpnnjcaaGreatDoor.Vc
open Go.RowKit

end Go.Proofs.YtbhnfehcpnnjcaaGreatDoor.Vc
/-
 The walk of slices.Repeat at a list of some numbers. Conditions: as it states them.
-/
namespace Go.Proofs.YtbhnfehcpnnjcaaGreatDoor.Vc
open Go.RowKit

/-- n copies of a list, one behind the other -/
def pow (xs : List Int) (n : Nat) : List Int := (List.replicate n xs).flatten
theorem pow_succ (xs : List Int) (n : Nat) : pow xs (n + 1) = pow xs n ++ xs := by simp [pow, List.replicate_succ']
theorem pow_succ' (xs : List Int) (n : Nat) : pow xs (n + 1) = xs ++ pow xs n := by simp [pow, List.replicate_succ]
/-- what a part of the copies looks like -/
def part (T : List Int) (m : Nat) : List Int := T.take m ++ List.replicate (T.length - m) 0
end Go.Proofs.YtbhnfehcpnnjcaaGreatDoor.Vc
/-
 The walks of holes and zigzags on both sides. Conditions: as each states them.
-/
namespace Go.Proofs.YtbhnfehcpnnjcaaGreatDoor.Vc
open Go.RowKit

/-- the code of holes and zigzags -/
def holeK (xss : List (List Int)) (j : Int) : Int := if ¬ Grph xss then 1 else if ¬ (1 ≤ j ∧ j ≤ 16) then 2 else if ¬ xss.length = 3 then 5 else 0
theorem l11Power_c (A : Option Addr) (a c : Nat) (xs : List Int) (n : Nat) (w : World) (hR : RdI w A a xs) (ha : a ≤ 1000) (hn : n ≤ 1000) :
  Ret Tryz.prog 136 [.slice A a c, .int .i64 (n : Int)] w (fun v w' => ∃ A' c', v = .slice A' (a * n) c' ∧ St w w' [CkI 2 A' (a * n) c' (pow xs n)]) := by
 have hxl := hR.1
 refine Ret.of_cd Tryz.func136 rfl Tryz.ntmps136 rfl (post1 rfl) (Cd.seq (Cd.region (Ops.ms rfl rfl rfl (Ops.n (tQ (Cd.seq (Cd.region (Ops.bs0 (St.refl w) rfl ?_))))))))
 intro A5 w1 hS1
 have hS1 : St w w1 [CkI 2 A5 (a * 0) 0 (pow xs 0)] := hS1
 refine Ops.ms rfl rfl rfl (Ops.n (tQ (Cd.seq (Cd.block ?_))))
 refine Cd.loop (α := Nat × Option Addr × Nat) (fun z => [(0, .slice A a c), (1, .int .i64 ((n : Int) - (z.1 : Int))), (5, .slice z.2.1 (a * z.1) z.2.2)]) (fun z w' => St w w' [CkI 2 z.2.1 (a * z.1) z.2.2 (pow xs z.1)] ∧ z.1 ≤ n) (fun z => n - z.1) (0, A5, 0) ⟨rfl, by show Value.int .i64 _ = .int .i64 _; simp, rfl, trivial⟩ ⟨hS1, Nat.zero_le _⟩ ?_
 rintro ⟨k, A6, c6⟩ e w2 ⟨hS2, hk⟩
 dsimp only at hS2 hk ⊢
 have hb2 : a * k ≤ 1000000 := Nat.mul_le_mul ha (show k ≤ 1000 by omega)
 refine Cd.seq (Cd.seq (Cd.region (Ops.mi rfl rfl rfl (Ops.gtr rfl rfl rfl (Ops.n (tQ ?_))))))
 refine Cd.cond_p _ rfl (fun h1 => ?_) (fun h1 => ?_)
 ·refine Cd.skip (tQ (Cd.seq (Cd.block (Cd.region (Ops.ms rfl rfl rfl (Ops.ms rfl rfl rfl (Ops.appI 0 hS2 rfl (hS2.oldI hR) rfl rfl rfl (by omega) (by omega) rfl ?_)))))))
  intro A7 c7 w3 hS3
  refine Ops.ms rfl rfl rfl (Ops.n (blockQ_n (tQ (Cd.region (Ops.mi rfl rfl rfl (Ops.sub rfl rfl rfl (by omega) (Ops.mi rfl rfl rfl (Ops.n (tQ ?_)))))))))
  have e1 : a * (k + 1) = a * k + a := Nat.mul_succ a k
  refine ⟨(k + 1, A7, c7), by show n - (k + 1) < n - k; omega, ⟨rfl, by show Value.int .i64 _ = .int .i64 _; congr 1; show _ = (n : Int) - ((k + 1 : Nat) : Int); omega, by show Value.slice _ _ _ = .slice _ _ _; rw [e1], trivial⟩, ?_, by show k + 1 ≤ n; omega⟩
  show St w w3 [CkI _ A7 (a * (k + 1)) c7 (pow xs (k + 1))]
  rw [e1, pow_succ]
  exact hS3
 ·refine Cd.exit (thenQ_x (thenQ_x (blockQ_x (tQ (Cd.seq (Cd.region (Ops.ms rfl rfl rfl (Ops.ms rfl rfl rfl (Ops.n ?_)))))))))
  refine tQ (Cd.ret (ret1_s rfl ?_))
  have hkn : k = n := by omega
  subst hkn
  exact ⟨A6, c6, rfl, hS2⟩

def zigW (n : Nat) : List Int := [0] ++ pow [1, 2] n
def holeW (n : Nat) : List Int := zigW n ++ [1]
end Go.Proofs.YtbhnfehcpnnjcaaGreatDoor.Vc
/-
 Faces on the program's side; the ends of edges on the reference's. Conditions: as each states them.
-/
namespace Go.Proofs.YtbhnfehcpnnjcaaGreatDoor.Vc
open Go.RowKit

theorem CloneR_c (A : Option Addr) (n c : Nat) (rs : List SlV) (w : World) (hR : RdR w A n rs) (hn : n ≤ 1000000) (h0 : 0 < n) : Ret Tryz.prog 55 [.slice A n c] w (fun v w' => ∃ A' c', v = .slice A' n c' ∧ St w w' [CkR 28 A' n c' rs]) := by
 cases hA : A with
 | none =>
  subst hA
  obtain ⟨p, hp, _⟩ := hR.2 0 h0
  simp [ptrAt] at hp
 | some a =>
  subst hA
  refine Ret.of_cd Tryz.func55 rfl Tryz.ntmps55 rfl (post1 rfl) (Cd.seq (Cd.region (Ops.ms rfl rfl rfl (Ops.n (tQ (Cd.seq (Cd.seq (Cd.region (Ops.ms rfl rfl rfl ?_)))))))))
  refine Ops.eqNil rfl rfl rfl (Ops.n (tQ (Cd.cond_f rfl (Cd.skip (tQ (Cd.seq (Cd.region (Ops.bs0 (St.refl w) rfl ?_))))))))
  intro A1 w1 hS1
  have hS1 : St w w1 [CkR 28 A1 0 0 []] := hS1
  refine Ops.ms rfl rfl rfl (Ops.appR 0 hS1 rfl (hS1.oldR hR) rfl rfl rfl (by omega) (by omega) rfl ?_)
  intro A2 c2 w2 hS2
  rw [Nat.zero_add] at hS2 ⊢
  refine Ops.ms rfl rfl rfl (Ops.n (tQ (Cd.ret (ret1_s rfl ?_))))
  exact ⟨A2, c2, rfl, hS2⟩

theorem without_c (Ab A : Option Addr) (n c : Nat) (rs : List SlV) (xss : List (List Int)) (i : Nat) (w : World) (hB : Rd w Ab 1 (fun _ => .slice A n c)) (hR : RowsI w A n rs xss) (hn : n ≤ 1000) (hi : i < n) :
  Ret Tryz.prog 77 [.pointer Ab, .int .i64 (i : Int)] w (fun v w' => ∃ A' c', v = .slice A' (n - 1) c' ∧ St w w' [CkR 28 A' (n - 1) c' (rs.eraseIdx i)]) := by
 refine Ret.of_cd Tryz.func77 rfl Tryz.ntmps77 rfl (post1 rfl) (Cd.seq (Cd.region (Ops.ms rfl rfl rfl (Ops.n (tQ (Cd.seq (Cd.region (Ops.mv_ptr rfl rfl rfl ?_))))))))
 refine Ops.nilp hB (by decide) rfl rfl ?_
 refine Ops.fld hB rfl rfl rfl rfl inferInstance (Ops.ldf_s hB rfl rfl rfl rfl rfl (Ops.call (CloneR_c A n c rs _ hR.top (by omega) (by omega)) rfl rfl rfl ?_))
 rintro _ w1 ⟨A1, c1, rfl, hS1⟩
 refine Ops.mi rfl rfl rfl (Ops.mi rfl rfl rfl (Ops.add rfl rfl rfl (by omega) ?_))
 have hi1 : ((i : Int) + 1) = ((i + 1 : Nat) : Int) := by omega
 rw [hi1]
 refine Ops.call (delete_c 0 hS1 rfl (by omega) (by omega) (show i ≤ i + 1 by omega) (by omega)) rfl rfl rfl ?_
 rintro _ w2 ⟨rfl, hS2⟩
 refine Ops.ms rfl rfl rfl (Ops.n (tQ (Cd.ret (ret1_s rfl ?_))))
 have e : n - (i + 1 - i) = n - 1 := by omega
 rw [e]
 rw [e, ← List.eraseIdx_eq_take_drop_succ] at hS2
 exact ⟨A1, c1, rfl, hS2⟩

theorem faces_c (Ab A : Option Addr) (n c : Nat) (rs : List SlV) (xss : List (List Int)) (i : Nat) (w : World) (hB : Rd w Ab 1 (fun _ => .slice A n c)) (hR : RowsI w A n rs xss) (hM : Mani xss) (hi : i < n) :
  Ret Tryz.prog 50 [.pointer Ab, .int .i64 (i : Int)] w (fun v w' => ∃ A', v = .tuple #[.slice A' (gl xss 0).length (gl xss 0).length, .int .i64 (facesN xss i)] ∧ St w w' [CkI 2 A' (gl xss 0).length (gl xss 0).length (facesL xss i)]) := by
 have hl := hR.len
 have h1 := hM.1
 have h2 := hM.2.1
 have e0 : (rg rs 0).n = (gl xss 0).length := (hR.rowLen (by omega) (by omega)).symm
 refine Ret.of_cd Tryz.func50 rfl Tryz.ntmps50 rfl (post2 rfl) (Cd.seq (Cd.region (Ops.ms rfl rfl rfl (Ops.mi rfl rfl rfl (Ops.n (tQ (Cd.seq (Cd.region (Ops.mv_ptr rfl rfl rfl ?_)))))))))
 refine Ops.call (flags_c Ab A n c rs xss _ w hB rfl hR (by omega)) rfl rfl rfl ?_
 rintro _ w ⟨rfl, rfl⟩
 rw [e0]
 refine Ops.mv_ptr rfl rfl rfl (Ops.mi rfl rfl rfl (Ops.call (without_c Ab A n c rs xss i _ hB hR (by omega) hi) rfl rfl rfl ?_))
 rintro _ w1 ⟨A1, c1, rfl, hS1⟩
 refine Ops.call (orbitLabels_c A1 (n - 1) c1 (rs.eraseIdx i) (xss.eraseIdx i) (gl xss 0).length _ ((hS1.oldRows hR).erase hi (hS1.rdR 0 rfl)) (by omega) (hM.2.2.1.sys.erase i) (hM.2.2.1.inj.erase i) (by omega)) rfl rfl rfl ?_
 rintro _ w2 ⟨A2, rfl, hst⟩
 have hS2 := hS1.call hst
 refine Ops.extract rfl rfl rfl (Ops.extract rfl rfl rfl (Ops.ms rfl rfl rfl (Ops.mi rfl rfl rfl (Ops.n (tQ (Cd.ret (ret2_si rfl rfl ?_)))))))
 exact ⟨A2, rfl, hS2.sub (List.Sublist.cons_cons _ (List.nil_sublist _))⟩

theorem put_cs {xs : List Int} {a : Nat} {v : Int} (h : SA xs) (hv : v ∉ xs) (ha : a ≤ xs.length) (hl : ∀ j : Nat, j < a → gi xs (j : Int) < v) (hg : a < xs.length → v ≤ gi xs (a : Int)) : xs.take a ++ (v :: xs.drop a) = cs (xs ++ [v]) := by
 have hp : (xs.take a ++ (v :: xs.drop a)).Perm (xs ++ [v]) := put_perm
 refine cs_eq ?_ fun x => hp.mem_iff
 have h1 := asc_put h.asc ha hl hg
 have h2 : (xs.take a ++ (v :: xs.drop a)).Nodup := hp.nodup_iff.2 (by
  rw [List.nodup_append]
  refine ⟨h.nodup, by simp, fun x hx y hy e => ?_⟩
  simp at hy
  subst hy
  exact hv (e ▸ hx))
 exact (List.Pairwise.and h1 h2).imp fun h => by have := h.1; have := h.2; omega

theorem l13Insert_c (A : Option Addr) (n c : Nat) (xs : List Int) (v : Int) (w : World) (hR : RdI w A n xs) (hc : n ≤ c) (hn : n ≤ 1000000) (hs : SA xs) (hv : v ∉ xs) :
    Ret Tryz.prog 70 [.slice A n c, .int .i64 v] w (fun r w' => ∃ A' c', r = .slice A' (cs (xs ++ [v])).length c' ∧ St w w' [CkI 2 A' (cs (xs ++ [v])).length c' (cs (xs ++ [v]))]) := by
  have hxl := hR.1
  refine Ret.of_cd Tryz.func70 rfl Tryz.ntmps70 rfl (post1 rfl) (Cd.seq (Cd.region (Ops.ms rfl rfl rfl (Ops.n (tQ (Cd.seq (Cd.region (Ops.mi rfl rfl rfl (Ops.n ?_)))))))))
  refine tQ ?_
  refine Cd.join (α := Nat) (fun a => [(0, .slice A n c), (1, .int .i64 v), (5, .int .i64 (a : Int))])
    (fun a w' => w' = w ∧ a ≤ xs.length ∧ (∀ j : Nat, j < a → gi xs (j : Int) < v) ∧ (a < xs.length → v ≤ gi xs (a : Int))) ?_ ?_
  · refine Cd.block ?_
    refine Cd.loop (α := Nat) (fun a => [(0, .slice A n c), (1, .int .i64 v), (5, .int .i64 (a : Int))]) (fun a w' => w' = w ∧ a ≤ xs.length ∧ ∀ j : Nat, j < a → gi xs (j : Int) < v) (fun a => xs.length - a) 0 ⟨rfl, rfl, rfl, trivial⟩ ⟨rfl, Nat.zero_le _, fun j hj => by omega⟩ ?_
    rintro a e w ⟨rfl, ha, hlt⟩
    refine Cd.seq (Cd.seq (Cd.region (Ops.mi rfl rfl rfl (Ops.ms rfl rfl rfl (Ops.len rfl rfl (Ops.lss rfl rfl rfl (Ops.mb rfl rfl rfl ?_)))))))
    refine Ops.split_p 11 rfl (fun h4 => ?_) (fun h4 => ?_)
    · refine Ops.g rfl rfl rfl (Ops.ms rfl rfl rfl (Ops.g rfl rfl rfl (Ops.mi rfl rfl rfl (Ops.g rfl rfl rfl (Ops.idx hR.2 rfl rfl rfl (by omega) (by omega) (Ops.g rfl rfl rfl (Ops.ld_int hR rfl (by omega) rfl rfl (Ops.g rfl rfl rfl (Ops.mi rfl rfl rfl ?_)))))))))
      refine Ops.g rfl rfl rfl (Ops.lss rfl rfl rfl (Ops.pick_t rfl rfl rfl (Ops.n (tQ ?_))))
      refine Cd.cond_p _ rfl (fun h5 => ?_) (fun h5 => ?_)
      · refine Cd.skip (tQ (Cd.block (Cd.region (Ops.mi rfl rfl rfl (Ops.add rfl rfl rfl (by omega) (Ops.mi rfl rfl rfl (Ops.n (blockQ_n (tQ ?_)))))))))
        refine ⟨a + 1, by show xs.length - (a + 1) < xs.length - a; omega, ⟨rfl, rfl, rfl, trivial⟩, rfl, by omega, fun j hj => ?_⟩
        by_cases ej : j = a
        · subst ej; exact h5
        · exact hlt j (by omega)
      · refine Cd.exit (thenQ_x (thenQ_x (blockQ_x (tQ ?_))))
        exact ⟨a, ⟨rfl, rfl, rfl, trivial⟩, rfl, ha, hlt, fun _ => by omega⟩
    · refine Ops.k rfl rfl rfl rfl rfl (Ops.k rfl rfl rfl rfl rfl (Ops.k rfl rfl rfl rfl rfl (Ops.k rfl rfl rfl rfl rfl (Ops.k rfl rfl rfl rfl rfl (Ops.k rfl rfl rfl rfl rfl (Ops.pick_f rfl rfl rfl (Ops.n (tQ (Cd.cond_f rfl ?_)))))))))
      refine Cd.exit (thenQ_x (thenQ_x (blockQ_x (tQ ?_))))
      exact ⟨a, ⟨rfl, rfl, rfl, trivial⟩, rfl, ha, hlt, fun h => absurd h (by omega)⟩
  · rintro a e w ⟨rfl, ha, hlt, hge⟩
    have hput := put_cs hs hv ha hlt hge
    refine Cd.seq (Cd.region (Ops.mi rfl rfl rfl (Ops.bs1I (St.refl w) rfl rfl rfl ?_)))
    intro A7 w7 hS7
    refine Ops.ms rfl rfl rfl (Ops.mi rfl rfl rfl (Ops.cut_l rfl rfl rfl (by omega) (Ops.appI 0 hS7 rfl ((hS7.oldI hR).drop (l := a) (by omega) hc) rfl rfl rfl (by omega) (by omega) rfl ?_)))
    intro A8 c8 w8 hS8
    refine Ops.ms rfl rfl rfl (Ops.n (tQ (Cd.seq (Cd.region (Ops.bs0 hS8 rfl ?_)))))
    intro A9 w9 hS9
    have hS9 : St w w9 (CkI 2 A9 0 0 [] :: CkI 2 A8 (1 + (n - a)) c8 ([v] ++ xs.drop a) :: []) := hS9
    refine Ops.ms rfl rfl rfl (Ops.mi rfl rfl rfl (Ops.cut_h rfl rfl rfl (by omega) (Ops.appI 0 hS9 rfl ((hS9.oldI hR).take (l := a) (by omega)) rfl rfl rfl (by omega) (by omega) rfl ?_)))
    intro A10 c10 w10 hS10
    refine Ops.ms rfl rfl rfl (Ops.appI 0 hS10 rfl (hS10.rdI 1 rfl) rfl rfl rfl (by omega) (by omega) rfl ?_)
    intro A11 c11 w11 hS11
    refine Ops.ms rfl rfl rfl (Ops.n (tQ (Cd.ret (ret1_s rfl ?_))))
    have hS11 : St w w11 (CkI 2 A11 (0 + a + (1 + (n - a))) c11 (([] ++ xs.take a) ++ ([v] ++ xs.drop a)) :: CkI 2 A8 (1 + (n - a)) c8 ([v] ++ xs.drop a) :: []) := hS11
    have hS12 := hS11.sub (List.Sublist.cons_cons _ (List.nil_sublist _))
    rw [List.nil_append, List.singleton_append, hput] at hS12
    have hlen' : (cs (xs ++ [v])).length = 0 + a + (1 + (n - a)) := by rw [← hput]; simp; omega
    exact ⟨A11, c11, by rw [hlen'], by rw [hlen']; exact hS12⟩

theorem l17Insert_c (A : Option Addr) (n c : Nat) (xs : List Int) (v : Int) (w : World) (hR : RdI w A n xs) (hc : n ≤ c) (hn : n ≤ 1000000) (hs : SA xs) :
  Ret Tryz.prog 46 [.slice A n c, .int .i64 v] w (fun r w' => ∃ A' c', r = .slice A' (cs (xs ++ [v])).length c' ∧ Below w.heap.size w w' ∧ ((A' = A ∧ c' = c ∧ cs (xs ++ [v]) = xs) ∨ St w w' [CkI 2 A' (cs (xs ++ [v])).length c' (cs (xs ++ [v]))])) := by
 have hxl := hR.1
 refine Ret.of_cd Tryz.func46 rfl Tryz.ntmps46 rfl (post1 rfl) (Cd.seq (Cd.region (Ops.ms rfl rfl rfl (Ops.n (tQ (Cd.seq (Cd.seq (Cd.region (Ops.ms rfl rfl rfl ?_)))))))))
 refine Ops.mi rfl rfl rfl (Ops.call (l01Has_c A n c xs v w hR (by omega)) rfl rfl rfl ?_)
 rintro _ w ⟨rfl, rfl⟩
 refine Ops.n (tQ ?_)
 refine Cd.cond_p _ rfl (fun h => ?_) (fun h => ?_)
 ·have e : cs (xs ++ [v]) = xs := (cs_eq hs fun x => by
   simp only [List.mem_append, List.mem_singleton]
   exact ⟨.inl, fun h2 => h2.elim id fun e => e ▸ h⟩).symm
  refine Cd.seq (Cd.region (Ops.ms rfl rfl rfl (Ops.ms rfl rfl rfl (Ops.n (tQ (Cd.ret (thenQ_r (ret1_s rfl ?_))))))))
  exact ⟨A, c, by rw [e, hxl], Below.refl _ _, .inl ⟨rfl, rfl, e⟩⟩
 ·refine Cd.skip (tQ (Cd.seq (Cd.region (Ops.ms rfl rfl rfl (Ops.mi rfl rfl rfl (Ops.call (l13Insert_c A n c xs v w hR hc hn hs h) rfl rfl rfl ?_))))))
  rintro _ w1 ⟨A1, c1, rfl, hst⟩
  refine Ops.ms rfl rfl rfl (Ops.n (tQ (Cd.ret (ret1_s rfl ?_))))
  exact ⟨A1, c1, rfl, hst.below, .inr hst⟩

/-! rows put anew -/
theorem cons_set_perm : ∀ (l : List Ck) (i : Nat) (x y : Ck), l[i]? = some y → (x :: l).Perm (y :: l.set i x)
 | [], i, x, y, h => by simp at h
 | u :: l, 0, x, y, h => by simp at h; subst h; exact List.Perm.swap _ _ _
 | u :: l, i + 1, x, y, h => by
  simp only [List.getElem?_cons_succ] at h
  simp only [List.set_cons_succ]
  exact (List.Perm.swap _ _ _).trans (((cons_set_perm l i x y h).cons u).trans (List.Perm.swap _ _ _))
theorem St.anew {w0 w : World} {ks : List Ck} {i : Nat} {k y : Ck} (h : St w0 w (k :: ks)) (hy : ks[i]? = some y) : St w0 w (ks.set i k) := (h.perm (cons_set_perm ks i k y hy)).tail
theorem St.insRow {w2 w1 w9 : World} {ks : List Ck} {i : Nat} {t : TypeId} {A A1 : Option Addr} {n c c1 : Nat} {xs ys : List Int} (h : St w2 w1 ks) (hk : ks[i]? = some (CkI t A n c xs)) (hbl : Below w1.heap.size w1 w9) (hor : (A1 = A ∧ c1 = c ∧ ys = xs) ∨ St w1 w9 [CkI t A1 ys.length c1 ys]) : St w2 w9 (ks.set i (CkI t A1 ys.length c1 ys)) := by
 rcases hor with ⟨rfl, rfl, rfl⟩ | hst
 ·have hl := h.lenI i hk
  rw [hl, set_id hk]
  exact h.later hbl
 ·exact (h.call hst).anew hk
theorem rowsCk_upd {t : TypeId} : ∀ {rs : List SlV} {xss : List (List Int)} {i : Nat} {s : SlV} {xs : List Int}, rs.length = xss.length → (rowsCk t rs xss).set i (CkI t s.a s.n s.c xs) = rowsCk t (rs.set i s) (xss.set i xs)
 | [], [], _, _, _, _ => rfl
 | [], _ :: _, _, _, _, h => by simp at h
 | _ :: _, [], _, _, _, h => by simp at h
 | r :: rs, x :: xss, 0, s, xs, _ => rfl
 | r :: rs, x :: xss, i + 1, s, xs, h => by
  have := rowsCk_upd (t := t) (rs := rs) (xss := xss) (i := i) (s := s) (xs := xs) (by simpa using h)
  simpa [rowsCk] using this
theorem mat_upd {t1 t2 : TypeId} {A : Option Addr} {n c : Nat} {rs : List SlV} {xss : List (List Int)} {i : Nat} {s : SlV} {xs : List Int} (hr : rs.length = xss.length) (hi : i < rs.length) : CkR t1 A n c (rs.set i s) :: (rowsCk t2 rs xss ++ []).set i (CkI t2 s.a s.n s.c xs) = mat t1 t2 A n c (rs.set i s) (xss.set i xs) ++ [] := by
 rw [List.append_nil, List.append_nil, rowsCk_upd hr]; rfl
theorem nilRows {w0 w : World} {t : TypeId} : ∀ (n : Nat) {ks : List Ck}, St w0 w ks → St w0 w (ks ++ rowsCk t (List.replicate n slNil) (List.replicate n []))
 | 0, ks, h => by show St w0 w (ks ++ []); rwa [List.append_nil]
 | n + 1, ks, h => by
  have h1 := nilRows (t := t) n h
  have h2 := h1.nil t
  exact h2.perm (List.perm_middle.symm)
end Go.Proofs.YtbhnfehcpnnjcaaGreatDoor.Vc
/-
 The ends of edges on both sides. Conditions: as each states them.
-/
namespace Go.Proofs.YtbhnfehcpnnjcaaGreatDoor.Vc
open Go.RowKit

/-- what is put for f flags, with twins: for each edge the vertices, as they come -/
def bag (Vl El : List Int) (m : Nat) : Nat → List (List Int)
 | 0 => List.replicate m []
 | f + 1 => (bag Vl El m f).set (gi El f).toNat (gl (bag Vl El m f) (gi El f) ++ [gi Vl f])
theorem bag_len (Vl El : List Int) (m : Nat) : ∀ f, (bag Vl El m f).length = m
 | 0 => by simp [bag]
 | f + 1 => by rw [bag, List.length_set, bag_len Vl El m f]
theorem gl_set2 {L : List (List Int)} {i : Nat} {l : List Int} (e : Int) (he : 0 ≤ e) (hi : i < L.length) : gl (L.set i l) e = if (i : Int) = e then l else gl L e := by
 obtain ⟨j, rfl⟩ : ∃ j : Nat, e = j := ⟨e.toNat, by omega⟩
 simp only [gl, Int.toNat_natCast, List.getD_eq_getElem?_getD, List.getElem?_set]
 by_cases h : i = j
 ·subst h; rw [if_pos rfl, if_pos rfl, if_pos hi]; rfl
 ·rw [if_neg h, if_neg (by omega)]
theorem bag_row {Vl El : List Int} {m : Nat} : ∀ f, (∀ k : Nat, k < f → 0 ≤ gi El k ∧ gi El k < m) → ∀ e : Int, 0 ≤ e → (gl (bag Vl El m f) e).length ≤ f
 | 0, _, e, he => by
  show (gl (List.replicate m []) e).length ≤ 0
  simp only [gl, List.getD_eq_getElem?_getD, List.getElem?_replicate]
  split <;> simp
 | f + 1, h, e, he => by
  have ih := bag_row (Vl := Vl) f (fun k hk => h k (by omega))
  have hf := h f (by omega)
  rw [bag, gl_set2 e he (by rw [bag_len]; omega)]
  split
  ·have := ih (gi El f) hf.1
   simp; omega
  ·have := ih e he; omega
/-- the same as ascending lists without twins -/
def ends (Vl El : List Int) (m f : Nat) : List (List Int) := (bag Vl El m f).map cs
theorem ends_len (Vl El : List Int) (m f : Nat) : (ends Vl El m f).length = m := by rw [ends, List.length_map, bag_len]
theorem gl_ends (Vl El : List Int) (m f : Nat) (e : Int) : gl (ends Vl El m f) e = cs (gl (bag Vl El m f) e) := by
 simp only [gl, ends, List.getD_eq_getElem?_getD, List.getElem?_map]
 cases (bag Vl El m f)[e.toNat]? with
 | none => exact cs_nil.symm
 | some l => rfl
theorem ends_zero (Vl El : List Int) (m : Nat) : ends Vl El m 0 = List.replicate m [] := by
 rw [ends, bag, List.map_replicate, cs_nil]
theorem ends_step (Vl El : List Int) (m f : Nat) : ends Vl El m (f + 1) = (ends Vl El m f).set (gi El f).toNat (cs (gl (ends Vl El m f) (gi El f) ++ [gi Vl f])) := by
 rw [gl_ends, cs_cs, ends, bag, List.map_set]
 rfl
theorem ends_SA (Vl El : List Int) (m f : Nat) (e : Int) : SA (gl (ends Vl El m f) e) := by rw [gl_ends]; exact cs_SA _
theorem ends_row {Vl El : List Int} {m f : Nat} (h : ∀ k : Nat, k < f → 0 ≤ gi El k ∧ gi El k < m) (e : Int) (he : 0 ≤ e) : (gl (ends Vl El m f) e).length ≤ f := by
 rw [gl_ends]
 exact Nat.le_trans (cs_len _) (bag_row f h e he)
def edgesN (xss : List (List Int)) : Nat := (facesN xss 1).toNat
def endsL (xss : List (List Int)) : List (List Int) := ends (facesL xss 0) (facesL xss 1) (edgesN xss) (gl xss 0).length
theorem endsL_len (xss : List (List Int)) : (endsL xss).length = edgesN xss := ends_len _ _ _ _

theorem l18Ends_c (A : Option Addr) (n c : Nat) (rs : List SlV) (xss : List (List Int)) (w : World) (hR : RowsI w A n rs xss) (hG : Grph xss) :
  Ret Tryz.prog 28 [.agg #[.slice A n c]] w (fun v w' => ∃ A' rs', v = .slice A' (edgesN xss) (edgesN xss) ∧ rs'.length = edgesN xss ∧ St w w' (mat 28 2 A' (edgesN xss) (edgesN xss) rs' (endsL xss) ++ [])) := by
 have hl := hR.len
 have hM := hG.1
 have hn2 := hG.2
 have h5 := hM.1
 have h40 := hM.2.1
 have hfn := facesN_le xss 1
 have hgr := faces_grt hM 1
 have hVl := facesL_len xss 0
 have hEl := facesL_len xss 1
 have hE : ∀ f : Nat, f < (gl xss 0).length → 0 ≤ gi (facesL xss 1) f ∧ gi (facesL xss 1) f < (edgesN xss : Int) := fun f hf => by
  have := faces_in hM 1 f hf
  unfold edgesN
  omega
 have hmN : ((edgesN xss : Nat) : Int) = facesN xss 1 := by unfold edgesN; omega
 have hm4 : edgesN xss ≤ 400 := by omega
 have hEx : ∀ x ∈ facesL xss 1, x ≤ 1000000 := fun x hx => by
  obtain ⟨k, hk, rfl⟩ := List.mem_iff_getElem.1 hx
  have := hE k (by omega)
  rw [gi_mem hk] at this
  omega
 have hend : endsL xss = ends (facesL xss 0) (facesL xss 1) (edgesN xss) (gl xss 0).length := rfl
 rw [hend]
 generalize hm : edgesN xss = m at *
 refine Ret.of_cd Tryz.func28 rfl Tryz.ntmps28 rfl (post1 rfl) (Cd.seq (Cd.region (Ops.box1 (St.refl w) rfl rfl ?_)))
 intro Ab w1 hS1
 refine Ops.ms rfl rfl rfl (Ops.n (tQ (Cd.seq ?_)))
 refine Cd.draw [.ex (.agg #[.slice (A) (n) (c)]), .pr (fun v w' => ∃ A1 c1, v = .slice A1 (gl xss 0).length c1 ∧ RdI w' A1 (gl xss 0).length (facesL xss 0)), .ex (.agg #[.slice (A) (n) (c)]), .pr (fun v w' => ∃ A1 c1, v = .slice A1 (gl xss 0).length c1 ∧ RdI w' A1 (gl xss 0).length (facesL xss 1)), .pr (fun v w' => ∃ A1 c1, v = .slice A1 (gl xss 0).length c1 ∧ RdI w' A1 (gl xss 0).length (facesL xss 0)), .pr (fun v w' => ∃ A1 c1, v = .slice A1 (gl xss 0).length c1 ∧ RdI w' A1 (gl xss 0).length (facesL xss 1))] (by kernel_rfl) (by kernel_rfl) rfl (lx (List.forall_mem_cons.2 ⟨Yd.lasts_pr (fun v w w' h hb => by obtain ⟨A1, c1, hv, hT⟩ := h; exact ⟨A1, c1, hv, hT.later hb⟩), (lx (List.forall_mem_cons.2 ⟨Yd.lasts_pr (fun v w w' h hb => by obtain ⟨A1, c1, hv, hT⟩ := h; exact ⟨A1, c1, hv, hT.later hb⟩), (List.forall_mem_cons.2 ⟨Yd.lasts_pr (fun v w w' h hb => by obtain ⟨A1, c1, hv, hT⟩ := h; exact ⟨A1, c1, hv, hT.later hb⟩), (List.forall_mem_cons.2 ⟨Yd.lasts_pr (fun v w w' h hb => by obtain ⟨A1, c1, hv, hT⟩ := h; exact ⟨A1, c1, hv, hT.later hb⟩), (fun _ h => by cases h)⟩)⟩)⟩))⟩)) ⟨?_, ?_, ?_, ?_, ?_, ?_, trivial⟩ ?_
 ·intro e1 w1 hb hp hun
  refine Ops.ld_agg 0 ((hS1.rd 0 rfl).below hb) rfl rfl rfl (Ops.n (d0 (by exact rfl)))
 ·intro e1 w1 hb hp hun
  refine Ops.call (l02Faces_c A n c rs xss 0 _ ((hS1.later hb).oldRows hR) hM (by omega)) rfl rfl rfl ?_
  rintro _ w9 ⟨A1, c1, rfl, hst⟩
  refine Ops.n ?_
  exact After.dn hst.below ⟨A1, c1, rfl, hst.rdI 0 rfl⟩
 ·intro e1 w1 hb hp hun
  refine Ops.ld_agg 0 ((hS1.rd 0 rfl).below hb) rfl rfl rfl (Ops.n (d0 (by exact rfl)))
 ·intro e1 w1 hb hp hun
  refine Ops.call (l02Faces_c A n c rs xss 1 _ ((hS1.later hb).oldRows hR) hM (by omega)) rfl rfl rfl ?_
  rintro _ w9 ⟨A1, c1, rfl, hst⟩
  refine Ops.n ?_
  exact After.dn hst.below ⟨A1, c1, rfl, hst.rdI 0 rfl⟩
 ·intro e1 w1 hb hp hun
  obtain ⟨A1, c1, h8, hT⟩ := (hp 1 (by decide) rfl _ _ rfl rfl)
  refine Ops.ms rfl (by exact h8) rfl (Ops.n ?_)
  exact After.dn (Below.refl _ _) ⟨A1, c1, rfl, hT⟩
 ·intro e1 w1 hb hp hun
  obtain ⟨A1, c1, h10, hT⟩ := (hp 3 (by decide) rfl _ _ rfl rfl)
  refine Ops.ms rfl (by exact h10) rfl (Ops.n ?_)
  exact After.dn (Below.refl _ _) ⟨A1, c1, rfl, hT⟩
 intro u w2 hb2 hu
 obtain ⟨A3, c3, h3, hV⟩ := hu 4 _ rfl
 obtain ⟨A4, c4, h4, hW⟩ := hu 5 _ rfl
 have hS2 := (hS1.later hb2).none
 generalize hF : (gl xss 0).length = F at *
 generalize hVe : facesL xss 0 = Vl at *
 generalize hEe : facesL xss 1 = El at *
 rw [pin2 u h3 h4]
 refine tQ (Cd.seq (Cd.region (Ops.ms rfl rfl rfl (Ops.call (l02Greatest_c A4 F c4 El w2 hW (by omega) hEx) rfl rfl rfl ?_))))
 rintro _ w2 ⟨rfl, rfl⟩
 rw [hgr, ← hmN]
 refine Ops.mkR m (St.refl w2) rfl rfl (by omega) ?_
 intro A5 w3 hS3
 have hS3 : St w2 w3 (mat 28 2 A5 m m (List.replicate m slNil) (ends Vl El m 0) ++ []) := by
  rw [ends_zero, List.append_nil]
  exact nilRows m hS3
 refine Ops.ms rfl rfl rfl (Ops.n (tQ (Cd.seq (Cd.seq (Cd.region (Ops.mi rfl rfl rfl (Ops.n (tQ (Cd.block ?_)))))))))
 refine Cd.loop (α := Nat × List SlV) (fun z => [(3, .slice A3 F c3), (4, .slice A4 F c4), (5, .slice A5 m m), (6, .int .i64 (z.1 : Int))]) (fun z w' => St w2 w' (mat 28 2 A5 m m z.2 (ends Vl El m z.1) ++ []) ∧ z.1 ≤ F ∧ z.2.length = m) (fun z => F - z.1) (0, List.replicate m slNil) ⟨rfl, rfl, rfl, rfl, trivial⟩ ⟨hS3, Nat.zero_le _, by simp⟩ ?_
 rintro ⟨f, rs5⟩ e w4 ⟨hS4, hf, hrl⟩
 dsimp only at hS4 hf hrl ⊢
 refine Cd.seq (Cd.seq (Cd.region (Ops.mi rfl rfl rfl (Ops.ms rfl rfl rfl (Ops.len rfl rfl (Ops.lss rfl rfl rfl (Ops.n (tQ ?_))))))))
 refine Cd.cond_p _ rfl (fun h1 => ?_) (fun h1 => ?_)
 ·have hf' : f < F := by omega
  have hEf := hE f hf'
  have hV4 := hS4.oldI hV
  have hW4 := hS4.oldI hW
  have hel := ends_len Vl El m f
  have hM4 := hS4.rowsI hel
  have hrow := hM4.at_ (i := gi El f) hEf.1 hEf.2
  have hcap := hM4.cap_ (i := gi El f) hEf.1 hEf.2
  have hrn := hM4.rowLen hEf.1 hEf.2
  have hrl2 := ends_row (Vl := Vl) (El := El) (m := m) (f := f) (fun k hk => hE k (by omega)) (gi El f) hEf.1
  have hget : (mat 28 2 A5 m m rs5 (ends Vl El m f) ++ [])[(gi El f).toNat + 1]? = some (CkI 2 (rg rs5 (gi El f)).a (rg rs5 (gi El f)).n (rg rs5 (gi El f)).c (gl (ends Vl El m f) (gi El f))) := by
   have := mat_get (t1 := 28) (t2 := 2) (A := A5) (n := m) (c := m) (rs := rs5) (xss := ends Vl El m f) (pre := []) (ks := []) (i := (gi El f).toNat) (by omega) (by omega)
   rw [show ([] : List Ck).length + 1 + (gi El f).toNat = (gi El f).toNat + 1 by simp; omega] at this
   exact this
  have hstep := ends_step Vl El m f
  have hlt : (gi El f).toNat < m := by omega
  refine Cd.skip (tQ (Cd.seq (Cd.block ?_)))
  refine Cd.drawN [18] [.ex (.slice (A5) (m) (m)), .ex (.slice (A4) (F) (c4)), .ex (.int .i64 ((f : Int))), .ex (.pointer (ptrAt (A4) ((f : Int)).toNat)), .ex (.int .i64 (gi (El) ((f : Int)))), .ex (.slice (A5) (m) (m)), .ex (.slice (A4) (F) (c4)), .ex (.int .i64 ((f : Int))), .ex (.pointer (ptrAt (A4) ((f : Int)).toNat)), .ex (.int .i64 (gi (El) ((f : Int)))), .ex (.pointer (ptrAt (A5) (gi (El) ((f : Int))).toNat)), .ex (.slice ((rg (rs5) (gi (El) ((f : Int)))).a) ((rg (rs5) (gi (El) ((f : Int)))).n) ((rg (rs5) (gi (El) ((f : Int)))).c)), .ex (.slice (A3) (F) (c3)), .ex (.int .i64 ((f : Int))), .ex (.pointer (ptrAt (A3) ((f : Int)).toNat)), .ex (.int .i64 (gi (Vl) ((f : Int)))), .pr (fun v w' => ∃ A1 c1, v = .slice A1 (cs (gl (ends Vl El m f) (gi El f) ++ [gi Vl f])).length c1 ∧ St w2 w' ((mat 28 2 A5 m m rs5 (ends Vl El m f) ++ []).set ((gi El f).toNat + 1) (CkI 2 A1 (cs (gl (ends Vl El m f) (gi El f) ++ [gi Vl f])).length c1 (cs (gl (ends Vl El m f) (gi El f) ++ [gi Vl f]))))), .ex (.pointer (ptrAt (A5) (gi (El) ((f : Int))).toNat)), .pr (fun _ w' => ∃ s : SlV, St w2 w' (mat 28 2 A5 m m (rs5.set (gi El f).toNat s) (ends Vl El m (f + 1)) ++ []))] (by kernel_rfl) (by kernel_rfl) (lx (lx (lx (lx (lx (lx (lx (lx (lx (lx (lx (lx (lx (lx (lx (lx (List.forall_mem_cons.2 ⟨Yd.lasts_pr (fun v w w' h hb => by obtain ⟨A1, c1, hv, hT⟩ := h; exact ⟨A1, c1, hv, hT.later hb⟩), (lx (List.forall_mem_cons.2 ⟨Yd.lasts_pr (fun v w w' h hb => by obtain ⟨s, hT⟩ := h; exact ⟨s, hT.later hb⟩), (fun _ h => by cases h)⟩))⟩))))))))))))))))) ⟨?_, ?_, ?_, ?_, ?_, ?_, ?_, ?_, ?_, ?_, ?_, ?_, ?_, ?_, ?_, ?_, ?_, ?_, ?_, trivial⟩ ?_
  ·intro e1 w1 cc hlo hhi hb0 hp hun hq
   show Ops _ _ _ _ _ _ _
   refine Ops.ms rfl rfl rfl (Ops.n (n0 rfl (by exact rfl)))
  ·intro e1 w1 cc hlo hhi hb0 hp hun hq
   show Ops _ _ _ _ _ _ _
   refine Ops.ms rfl rfl rfl (Ops.n (n0 rfl (by exact rfl)))
  ·intro e1 w1 cc hlo hhi hb0 hp hun hq
   show Ops _ _ _ _ _ _ _
   refine Ops.mi rfl rfl rfl (Ops.n (n0 rfl (by exact rfl)))
  ·intro e1 w1 cc hlo hhi hb0 hp hun hq
   show Ops _ _ _ _ _ _ _
   obtain rfl := cc_of hlo hhi (b := 0) (by kernel_rfl) (by kernel_rfl); clear hlo hhi
   have hb := hb0 rfl
   refine Ops.idx (hW4.later hb).2 rfl rfl rfl (by omega) (by omega) (Ops.n (n0 rfl (by exact rfl)))
  ·intro e1 w1 cc hlo hhi hb0 hp hun hq
   show Ops _ _ _ _ _ _ _
   obtain rfl := cc_of hlo hhi (b := 0) (by kernel_rfl) (by kernel_rfl); clear hlo hhi
   have hb := hb0 rfl
   refine Ops.ld_int (hW4.later hb) rfl (by omega) rfl rfl (Ops.n (n0 rfl (by exact rfl)))
  ·intro e1 w1 cc hlo hhi hb0 hp hun hq
   show Ops _ _ _ _ _ _ _
   refine Ops.ms rfl rfl rfl (Ops.n (n0 rfl (by exact rfl)))
  ·intro e1 w1 cc hlo hhi hb0 hp hun hq
   show Ops _ _ _ _ _ _ _
   refine Ops.ms rfl rfl rfl (Ops.n (n0 rfl (by exact rfl)))
  ·intro e1 w1 cc hlo hhi hb0 hp hun hq
   show Ops _ _ _ _ _ _ _
   refine Ops.mi rfl rfl rfl (Ops.n (n0 rfl (by exact rfl)))
  ·intro e1 w1 cc hlo hhi hb0 hp hun hq
   show Ops _ _ _ _ _ _ _
   obtain rfl := cc_of hlo hhi (b := 0) (by kernel_rfl) (by kernel_rfl); clear hlo hhi
   have hb := hb0 rfl
   refine Ops.idx (hW4.later hb).2 rfl rfl rfl (by omega) (by omega) (Ops.n (n0 rfl (by exact rfl)))
  ·intro e1 w1 cc hlo hhi hb0 hp hun hq
   show Ops _ _ _ _ _ _ _
   obtain rfl := cc_of hlo hhi (b := 0) (by kernel_rfl) (by kernel_rfl); clear hlo hhi
   have hb := hb0 rfl
   refine Ops.ld_int (hW4.later hb) rfl (by omega) rfl rfl (Ops.n (n0 rfl (by exact rfl)))
  ·intro e1 w1 cc hlo hhi hb0 hp hun hq
   show Ops _ _ _ _ _ _ _
   obtain rfl := cc_of hlo hhi (b := 0) (by kernel_rfl) (by kernel_rfl); clear hlo hhi
   have hb := hb0 rfl
   refine Ops.idx (hM4.top.later hb).2 rfl rfl rfl (by omega) (by omega) (Ops.n (n0 rfl (by exact rfl)))
  ·intro e1 w1 cc hlo hhi hb0 hp hun hq
   show Ops _ _ _ _ _ _ _
   obtain rfl := cc_of hlo hhi (b := 0) (by kernel_rfl) (by kernel_rfl); clear hlo hhi
   have hb := hb0 rfl
   refine Ops.ld_sl (hM4.top.later hb) rfl (by omega) rfl rfl (Ops.n (n0 rfl (by exact rfl)))
  ·intro e1 w1 cc hlo hhi hb0 hp hun hq
   show Ops _ _ _ _ _ _ _
   refine Ops.ms rfl rfl rfl (Ops.n (n0 rfl (by exact rfl)))
  ·intro e1 w1 cc hlo hhi hb0 hp hun hq
   show Ops _ _ _ _ _ _ _
   refine Ops.mi rfl rfl rfl (Ops.n (n0 rfl (by exact rfl)))
  ·intro e1 w1 cc hlo hhi hb0 hp hun hq
   show Ops _ _ _ _ _ _ _
   obtain rfl := cc_of hlo hhi (b := 0) (by kernel_rfl) (by kernel_rfl); clear hlo hhi
   have hb := hb0 rfl
   refine Ops.idx (hV4.later hb).2 rfl rfl rfl (by omega) (by omega) (Ops.n (n0 rfl (by exact rfl)))
  ·intro e1 w1 cc hlo hhi hb0 hp hun hq
   show Ops _ _ _ _ _ _ _
   obtain rfl := cc_of hlo hhi (b := 0) (by kernel_rfl) (by kernel_rfl); clear hlo hhi
   have hb := hb0 rfl
   refine Ops.ld_int (hV4.later hb) rfl (by omega) rfl rfl (Ops.n (n0 rfl (by exact rfl)))
  ·intro e1 w1 cc hlo hhi hb0 hp hun hq
   show Ops _ _ _ _ _ _ _
   obtain rfl := cc_of hlo hhi (b := 0) (by kernel_rfl) (by kernel_rfl); clear hlo hhi
   have hb := hb0 rfl
   refine Ops.call (l17Insert_c _ _ (rg rs5 (gi El f)).c _ (gi Vl f) _ (hrow.later hb) hcap.1 (by omega) (ends_SA _ _ _ _ _)) rfl rfl rfl ?_
   rintro _ w9 ⟨A1, c1, rfl, hbl, hor⟩
   refine Ops.n ?_
   exact AfterN.dn rfl hbl ⟨A1, c1, rfl, (hS4.later hb).insRow hget hbl hor⟩
  ·intro e1 w1 cc hlo hhi hb0 hp hun hq
   show Ops _ _ _ _ _ _ _
   obtain rfl := cc_of hlo hhi (b := 0) (by kernel_rfl) (by kernel_rfl); clear hlo hhi
   have hb := hb0 rfl
   refine Ops.idx (hM4.top.later hb).2 rfl rfl rfl (by omega) (by omega) (Ops.n (n0 rfl (by exact rfl)))
  ·intro e1 w1 cc hlo hhi hb0 hp hun hq
   show Ops _ _ _ _ _ _ _
   obtain rfl := cc_of hlo hhi (b := 0) (by kernel_rfl) (by kernel_rfl); clear hlo hhi
   have hb := hb0 rfl
   obtain ⟨A1, c1, h36, hT⟩ := (hp 16 _ _ (by kernel_rfl) rfl rfl (by kernel_rfl))
   refine Ops.st_sl 0 hT rfl rfl (by exact h36) hlt ?_
   intro w9 hst
   refine Ops.n ?_
   exact AfterT.st rfl ⟨⟨A1, _, c1⟩, by rw [hstep, ← mat_upd (by omega) (by omega)]; exact hst⟩
  intro u w5 _ hu
  obtain ⟨s, hS5⟩ := hu 18 _ rfl (by kernel_rfl)
  refine blockQ_n (tQ (Cd.region (Ops.mi rfl rfl rfl (Ops.add rfl rfl rfl (by omega) (Ops.mi rfl rfl rfl (Ops.n (tQ ?_)))))))
  exact ⟨(f + 1, rs5.set (gi El f).toNat s), by show F - (f + 1) < F - f; omega, ⟨rfl, rfl, rfl, rfl, trivial⟩, hS5, hf', by show (rs5.set _ s).length = m; rw [List.length_set]; exact hrl⟩
 ·refine Cd.exit (thenQ_x (thenQ_x (blockQ_x (tQ (Cd.seq (Cd.region (Ops.ms rfl rfl rfl (Ops.ms rfl rfl rfl (Ops.n ?_)))))))))
  refine tQ (Cd.ret (ret1_s rfl ?_))
  have hfF : f = F := by omega
  subst hfF
  refine ⟨A5, rs5, rfl, hrl, ?_⟩
  have := hS2.call hS4
  rwa [List.append_nil] at this
end Go.Proofs.YtbhnfehcpnnjcaaGreatDoor.Vc
/-
 The ends of edges on the program's side, and the answers on both. Conditions: as each states them.
-/
namespace Go.Proofs.YtbhnfehcpnnjcaaGreatDoor.Vc
open Go.RowKit

/-- the answer: a list of lists in memory of its own, and a code -/
def AnsSS (L : List (List Int)) (K : Int) (w : World) (v : Value) (w' : World) : Prop := ∃ A' c' rs', v = .tuple #[.slice A' L.length c', .int .i64 K] ∧ rs'.length = L.length ∧ St w w' (mat 28 2 A' L.length c' rs' L ++ [])
theorem AnsSS.none {w w' : World} {ks : List Ck} {K : Int} (h : St w w' ks) : AnsSS [] K w (.tuple #[.slice Option.none 0 0, .int .i64 K]) w' := ⟨Option.none, 0, [], rfl, rfl, h.none.nil _⟩

def eoeL (xss : List (List Int)) : List (List Int) := if Grph xss then endsL xss else []

theorem specEndsOfEdges_c (A : Option Addr) (n c : Nat) (rs : List SlV) (xss : List (List Int)) (w : World) (hR : RowsI w A n rs xss) (hn : n ≤ 9223372036854775807) :
  Ret Tryz.prog 10 [.agg #[.slice A n c]] w (AnsSS (eoeL xss) (petrieK xss) w) := by
 have hl := hR.len
 refine Ret.of_cd Tryz.func10 rfl Tryz.ntmps10 rfl (post2 rfl) (Cd.seq (Cd.region (Ops.box1 (St.refl w) rfl rfl ?_)))
 intro Ab w1 hS1
 refine Ops.ms rfl rfl rfl (Ops.mi rfl rfl rfl (Ops.n (tQ (Cd.seq (Cd.seq (Cd.region (Ops.ld_agg 0 (hS1.rd 0 rfl) rfl rfl rfl (Ops.call (l18Is_c A n c rs xss _ (hS1.oldRows hR) hn) rfl rfl rfl ?_))))))))
 rintro _ w2 ⟨rfl, hst⟩
 have hS2 := hS1.later hst.below
 first | refine Ops.not_p rfl rfl ?_ | refine Ops.not rfl rfl ?_
 refine Ops.n (tQ ?_)
 refine Cd.cond_p _ rfl (fun h => ?_) (fun h => ?_)
 ·refine Cd.seq (Cd.region (Ops.ms rfl rfl rfl (Ops.mi rfl rfl rfl (Ops.n (tQ (Cd.ret (thenQ_r (ret2_si rfl rfl ?_))))))))
  rw [petrieK, if_neg h, eoeL, if_neg h]
  exact AnsSS.none hS2
 ·have hG : Grph xss := Classical.not_not.1 h
  refine Cd.skip (tQ (Cd.seq (Cd.region (Ops.ld_agg 0 (hS2.rd 0 rfl) rfl rfl rfl (Ops.call (l18Ends_c A n c rs xss _ (hS2.oldRows hR) hG) rfl rfl rfl ?_)))))
  rintro _ w3 ⟨A3, rs3, rfl, hrl, hst⟩
  have hS3 := hS2.none.call hst
  refine Ops.ms rfl rfl rfl (Ops.mi rfl rfl rfl (Ops.n (tQ (Cd.ret (ret2_si rfl rfl ?_)))))
  rw [petrieK, if_pos hG, eoeL, if_pos hG]
  refine ⟨A3, edgesN xss, rs3, by rw [endsL_len], by rw [endsL_len]; exact hrl, ?_⟩
  rw [endsL_len]
  rwa [List.append_nil] at hS3

theorem bag_pos {Vl El : List Int} {m : Nat} : ∀ f, (∀ k : Nat, k < f → 0 ≤ gi El k ∧ gi El k < m) → ∀ e : Int, 0 ≤ e → (∃ k : Nat, k < f ∧ gi El k = e) → 0 < (gl (bag Vl El m f) e).length
 | 0, _, e, _, ⟨k, hk, _⟩ => by omega
 | f + 1, h, e, he, ⟨k, hk, hke⟩ => by
  have hf := h f (by omega)
  rw [bag, gl_set2 e he (by rw [bag_len]; omega)]
  split
  ·simp
  ·rename_i hne
   refine bag_pos f (fun k hk => h k (by omega)) e he ⟨k, ?_, hke⟩
   by_cases ek : k = f
   ·subst ek; omega
   ·omega

/-- some rows turned, the others not yet -/
def mixL (B : List (List Int)) (e : Nat) : List (List Int) := (B.take e).map cs ++ B.drop e
theorem mixL_len (B : List (List Int)) (e : Nat) : (mixL B e).length = B.length := by simp [mixL]; omega
theorem mixL_zero (B : List (List Int)) : mixL B 0 = B := by simp [mixL]
theorem mixL_all (B : List (List Int)) : mixL B B.length = B.map cs := by simp [mixL]
theorem mixL_get {B : List (List Int)} {e : Nat} (h : e < B.length) : gl (mixL B e) (e : Int) = gl B (e : Int) := by
 simp only [gl, mixL, Int.toNat_natCast, List.getD_eq_getElem?_getD]
 rw [List.getElem?_append_right (by simp; omega)]
 simp [Nat.min_eq_left (Nat.le_of_lt h)]
theorem mixL_step {B : List (List Int)} {e : Nat} (h : e < B.length) : (mixL B e).set e (cs (gl B (e : Int))) = mixL B (e + 1) := by
 rw [gl_mem h]
 unfold mixL
 rw [List.set_append_right _ _ (by simp; omega), List.take_succ_eq_append_getElem h, List.map_append, List.append_assoc]
 have e1 : e - ((B.take e).map cs).length = 0 := by simp; omega
 rw [e1, List.drop_eq_getElem_cons h]
 rfl

theorem endsOf_c (A : Option Addr) (n c : Nat) (rs : List SlV) (xss : List (List Int)) (w : World) (hR : RowsI w A n rs xss) (hG : Grph xss) :
  Ret Tryz.prog 27 [.agg #[.slice A n c]] w (fun v w' => ∃ A' rs', v = .slice A' (edgesN xss) (edgesN xss) ∧ rs'.length = edgesN xss ∧ St w w' (mat 28 2 A' (edgesN xss) (edgesN xss) rs' (endsL xss) ++ [])) := by
 have hl := hR.len
 have hM := hG.1
 have hn2 := hG.2
 have h5 := hM.1
 have h40 := hM.2.1
 have hfn := facesN_le xss 1
 have hVl := facesL_len xss 0
 have hEl := facesL_len xss 1
 have hE : ∀ f : Nat, f < (gl xss 0).length → 0 ≤ gi (facesL xss 1) f ∧ gi (facesL xss 1) f < (edgesN xss : Int) := fun f hf => by
  have := faces_in hM 1 f hf
  unfold edgesN
  omega
 have hmN : ((edgesN xss : Nat) : Int) = facesN xss 1 := by unfold edgesN; omega
 have hhit : ∀ e : Nat, e < edgesN xss → ∃ f : Nat, f < (gl xss 0).length ∧ gi (facesL xss 1) f = (e : Int) := fun e he => faces_hit hM 1 e (by omega) (by omega)
 have hm4 : edgesN xss ≤ 400 := by omega
 have hend : endsL xss = ends (facesL xss 0) (facesL xss 1) (edgesN xss) (gl xss 0).length := rfl
 rw [hend]
 refine Ret.of_cd Tryz.func27 rfl Tryz.ntmps27 rfl (post1 rfl) (Cd.seq (Cd.region (Ops.box1 (St.refl w) rfl rfl ?_)))
 intro Ab w1 hS1
 refine Ops.ms rfl rfl rfl (Ops.n (tQ (Cd.seq (Cd.region (Ops.call (faces_c Ab A n c rs xss 0 _ (Rd.one (hS1.rd 0 rfl)) (hS1.oldRows hR) hM (by omega)) rfl rfl rfl ?_)))))
 rintro _ w2 ⟨A3, rfl, hst⟩
 have hS2 := hS1.call hst
 refine Ops.mv_tup rfl rfl rfl (Ops.extract rfl rfl rfl (Ops.extract rfl rfl rfl (Ops.ms rfl rfl rfl (Ops.mi rfl rfl rfl (Ops.n (tQ (Cd.seq (Cd.region (Ops.call (faces_c Ab A n c rs xss 1 _ (Rd.one (hS2.rd 1 rfl)) (hS2.oldRows hR) hM (by omega)) rfl rfl rfl ?_)))))))))
 rintro _ w3 ⟨A5, rfl, hst⟩
 have hS3 := hS2.call hst
 have hV := hS3.rdI 1 rfl
 have hW := hS3.rdI 0 rfl
 have hB3 := hS3.none
 rw [← hmN]
 generalize hm : edgesN xss = m at *
 generalize hF : (gl xss 0).length = F at *
 generalize hVe : facesL xss 0 = Vl at *
 generalize hEe : facesL xss 1 = El at *
 refine Ops.mv_tup rfl rfl rfl (Ops.extract rfl rfl rfl (Ops.extract rfl rfl rfl (Ops.ms rfl rfl rfl (Ops.mi rfl rfl rfl (Ops.n (tQ (Cd.seq (Cd.region (Ops.mi rfl rfl rfl ?_)))))))))
 refine Ops.mkR m (St.refl w3) rfl rfl (by omega) ?_
 intro A7 w4 hS4
 have hS4 : St w3 w4 (mat 28 2 A7 m m (List.replicate m slNil) (bag Vl El m 0) ++ []) := by
  rw [List.append_nil]
  exact nilRows m hS4
 refine Ops.ms rfl rfl rfl (Ops.n (tQ (Cd.seq (Cd.seq (Cd.region (Ops.ms rfl rfl rfl (Ops.len rfl rfl (Ops.mi rfl rfl rfl (Ops.n ?_)))))))))
 refine tQ (Cd.block ?_)
 refine Cd.loop (α := Nat × List SlV) (fun z => [(3, .slice A3 F F), (7, .slice A7 m m), (21, .slice A5 F F), (22, .int .i64 (F : Int)), (23, .int .i64 (z.1 : Int))]) (fun z w' => St w3 w' (mat 28 2 A7 m m z.2 (bag Vl El m z.1) ++ []) ∧ z.1 ≤ F ∧ z.2.length = m) (fun z => F - z.1) (0, List.replicate m slNil) ⟨rfl, rfl, rfl, rfl, rfl, trivial⟩ ⟨hS4, Nat.zero_le _, by simp⟩ ?_
 rintro ⟨f, rs5⟩ e w5 ⟨hS5, hf, hrl⟩
 dsimp only at hS5 hf hrl ⊢
 refine Cd.seq (Cd.region (Ops.lss rfl rfl rfl (Ops.n (tQ (Cd.seq ?_)))))
 refine Cd.cond_p _ rfl (fun h1 => ?_) (fun h1 => ?_)
 ·have hf' : f < F := by omega
  have hEf := hE f hf'
  have hV5 := hS5.oldI hV
  have hW5 := hS5.oldI hW
  have hbl := bag_len Vl El m f
  have hM5 := hS5.rowsI hbl
  have hrn := hM5.rowLen hEf.1 hEf.2
  have hrl2 := bag_row (Vl := Vl) (El := El) (m := m) f (fun k hk => hE k (by omega)) (gi El f) hEf.1
  have hget : (mat 28 2 A7 m m rs5 (bag Vl El m f) ++ [])[(gi El f).toNat + 1]? = some (CkI 2 (rg rs5 (gi El f)).a (rg rs5 (gi El f)).n (rg rs5 (gi El f)).c (gl (bag Vl El m f) (gi El f))) := by
   have := mat_get (t1 := 28) (t2 := 2) (A := A7) (n := m) (c := m) (rs := rs5) (xss := bag Vl El m f) (pre := []) (ks := []) (i := (gi El f).toNat) (by omega) (by omega)
   rw [show ([] : List Ck).length + 1 + (gi El f).toNat = (gi El f).toNat + 1 by simp; omega] at this
   exact this
  have hlt : (gi El f).toNat < m := by omega
  refine Cd.skip (tQ (Cd.seq (Cd.block (Cd.seq (Cd.region (Ops.mi rfl rfl rfl (Ops.idx hW5.2 rfl rfl rfl (by omega) (by omega) (Ops.ld_int hW5 rfl (by omega) rfl rfl (Ops.mi rfl rfl rfl ?_)))))))))
  refine Ops.mi rfl rfl rfl (Ops.n (tQ ?_))
  refine Cd.drawN [11, 13] [.ex (.slice (A7) (m) (m)), .ex (.int .i64 (gi El (f : Int))), .ex (.slice (A7) (m) (m)), .ex (.int .i64 (gi El (f : Int))), .ex (.pointer (ptrAt (A7) (gi El (f : Int)).toNat)), .ex (.slice ((rg (rs5) (gi El (f : Int))).a) ((rg (rs5) (gi El (f : Int))).n) ((rg (rs5) (gi El (f : Int))).c)), .ex (.slice (A3) (F) (F)), .ex (.int .i64 ((f : Int))), .ex (.pointer (ptrAt (A3) ((f : Int)).toNat)), .ex (.int .i64 (gi (Vl) ((f : Int)))), .pr (fun v w' => ∃ A1, v = .slice A1 1 1 ∧ RdI w' A1 1 [gi Vl f]), .pr (fun v w' => ∃ A1 c1, v = .slice A1 ((rg rs5 (gi El f)).n + 1) c1 ∧ St w3 w' ((mat 28 2 A7 m m rs5 (bag Vl El m f) ++ []).set ((gi El f).toNat + 1) (CkI 2 A1 ((rg rs5 (gi El f)).n + 1) c1 (gl (bag Vl El m f) (gi El f) ++ [gi Vl f])))), .ex (.pointer (ptrAt (A7) (gi El (f : Int)).toNat)), .pr (fun _ w' => ∃ s : SlV, St w3 w' (mat 28 2 A7 m m (rs5.set (gi El f).toNat s) (bag Vl El m (f + 1)) ++ []))] (by kernel_rfl) (by kernel_rfl) (lx (lx (lx (lx (lx (lx (lx (lx (lx (lx (List.forall_mem_cons.2 ⟨Yd.lasts_pr (fun v w w' h hb => by obtain ⟨A1, hv, hT⟩ := h; exact ⟨A1, hv, hT.later hb⟩), (List.forall_mem_cons.2 ⟨Yd.lasts_pr (fun v w w' h hb => by obtain ⟨A1, c1, hv, hT⟩ := h; exact ⟨A1, c1, hv, hT.later hb⟩), (lx (List.forall_mem_cons.2 ⟨Yd.lasts_pr (fun v w w' h hb => by obtain ⟨s, hT⟩ := h; exact ⟨s, hT.later hb⟩), (fun _ h => by cases h)⟩))⟩)⟩))))))))))) ⟨?_, ?_, ?_, ?_, ?_, ?_, ?_, ?_, ?_, ?_, ?_, ?_, ?_, ?_, trivial⟩ ?_
  ·intro e1 w1 cc hlo hhi hb0 hp hun hq
   show Ops _ _ _ _ _ _ _
   refine Ops.ms rfl rfl rfl (Ops.n (n0 rfl (by exact rfl)))
  ·intro e1 w1 cc hlo hhi hb0 hp hun hq
   show Ops _ _ _ _ _ _ _
   refine Ops.mi rfl rfl rfl (Ops.n (n0 rfl (by exact rfl)))
  ·intro e1 w1 cc hlo hhi hb0 hp hun hq
   show Ops _ _ _ _ _ _ _
   refine Ops.ms rfl rfl rfl (Ops.n (n0 rfl (by exact rfl)))
  ·intro e1 w1 cc hlo hhi hb0 hp hun hq
   show Ops _ _ _ _ _ _ _
   refine Ops.mi rfl rfl rfl (Ops.n (n0 rfl (by exact rfl)))
  ·intro e1 w1 cc hlo hhi hb0 hp hun hq
   show Ops _ _ _ _ _ _ _
   obtain rfl := cc_of hlo hhi (b := 0) (by kernel_rfl) (by kernel_rfl); clear hlo hhi
   have hb := hb0 rfl
   refine Ops.idx (hM5.top.later hb).2 rfl rfl rfl (by omega) (by omega) (Ops.n (n0 rfl (by exact rfl)))
  ·intro e1 w1 cc hlo hhi hb0 hp hun hq
   show Ops _ _ _ _ _ _ _
   obtain rfl := cc_of hlo hhi (b := 0) (by kernel_rfl) (by kernel_rfl); clear hlo hhi
   have hb := hb0 rfl
   refine Ops.ld_sl (hM5.top.later hb) rfl (by omega) rfl rfl (Ops.n (n0 rfl (by exact rfl)))
  ·intro e1 w1 cc hlo hhi hb0 hp hun hq
   show Ops _ _ _ _ _ _ _
   refine Ops.ms rfl rfl rfl (Ops.n (n0 rfl (by exact rfl)))
  ·intro e1 w1 cc hlo hhi hb0 hp hun hq
   show Ops _ _ _ _ _ _ _
   refine Ops.mi rfl rfl rfl (Ops.n (n0 rfl (by exact rfl)))
  ·intro e1 w1 cc hlo hhi hb0 hp hun hq
   show Ops _ _ _ _ _ _ _
   obtain rfl := cc_of hlo hhi (b := 0) (by kernel_rfl) (by kernel_rfl); clear hlo hhi
   have hb := hb0 rfl
   refine Ops.idx (hV5.later hb).2 rfl rfl rfl (by omega) (by omega) (Ops.n (n0 rfl (by exact rfl)))
  ·intro e1 w1 cc hlo hhi hb0 hp hun hq
   show Ops _ _ _ _ _ _ _
   obtain rfl := cc_of hlo hhi (b := 0) (by kernel_rfl) (by kernel_rfl); clear hlo hhi
   have hb := hb0 rfl
   refine Ops.ld_int (hV5.later hb) rfl (by omega) rfl rfl (Ops.n (n0 rfl (by exact rfl)))
  ·intro e1 w1 cc hlo hhi hb0 hp hun hq
   show Ops _ _ _ _ _ _ _
   refine Ops.bs1I (St.refl _) rfl rfl rfl ?_
   intro A1 w9 hst
   refine Ops.n ?_
   exact AfterN.dn rfl hst.below ⟨A1, rfl, hst.rdI 0 rfl⟩
  ·intro e1 w1 cc hlo hhi hb0 hp hun hq
   show Ops _ _ _ _ _ _ _
   obtain rfl := cc_of hlo hhi (b := 0) (by kernel_rfl) (by kernel_rfl); clear hlo hhi
   have hb := hb0 rfl
   obtain ⟨A0, h38, hT0⟩ := (hp 10 _ _ (by kernel_rfl) rfl rfl (by kernel_rfl))
   refine Ops.appI ((gi El f).toNat + 1) (hS5.later hb) hget hT0 rfl (by exact h38) rfl (by omega) (by omega) rfl ?_
   intro A1 c1 w9 hst
   refine Ops.n ?_
   exact AfterT.dn rfl ⟨A1, c1, rfl, hst⟩
  ·intro e1 w1 cc hlo hhi hb0 hp hun hq
   show Ops _ _ _ _ _ _ _
   obtain rfl := cc_of hlo hhi (b := 1) (by kernel_rfl) (by kernel_rfl); clear hlo hhi
   have hph := hp 11 _ _ (by kernel_rfl) rfl rfl (by kernel_rfl)
   obtain ⟨A1, c1, h39, hT⟩ := hph
   have hTop := hT.rdR 0 rfl
   refine Ops.idx (hTop).2 rfl rfl rfl (by omega) (by omega) (Ops.n (n0 rfl (by exact rfl)))
  ·intro e1 w1 cc hlo hhi hb0 hp hun hq
   show Ops _ _ _ _ _ _ _
   obtain rfl := cc_of hlo hhi (b := 1) (by kernel_rfl) (by kernel_rfl); clear hlo hhi
   have hph := hp 11 _ _ (by kernel_rfl) rfl rfl (by kernel_rfl)
   obtain ⟨A1, c1, h39, hT⟩ := hph
   have hTop := hT.rdR 0 rfl
   refine Ops.st_sl 0 hT rfl rfl (by exact h39) hlt ?_
   intro w9 hst
   refine Ops.n ?_
   exact AfterT.st rfl ⟨⟨A1, _, c1⟩, by rw [bag, ← mat_upd (by omega) (by omega)]; exact hst⟩
  intro u w6 _ hu
  obtain ⟨s, hS6⟩ := hu 13 _ rfl (by kernel_rfl)
  refine blockQ_n (tQ (Cd.region (Ops.add rfl rfl rfl (by omega) (Ops.mi rfl rfl rfl (Ops.n (tQ ?_))))))
  exact ⟨(f + 1, rs5.set (gi El f).toNat s), by show F - (f + 1) < F - f; omega, ⟨rfl, rfl, rfl, rfl, rfl, trivial⟩, hS6, hf', by show (rs5.set _ s).length = m; rw [List.length_set]; exact hrl⟩
 ·refine Cd.exit (thenQ_x (thenQ_x (blockQ_x (tQ (Cd.seq (Cd.seq (Cd.region (Ops.ms rfl rfl rfl (Ops.len rfl rfl ?_)))))))))
  refine Ops.mi rfl rfl rfl (Ops.n (tQ (Cd.block ?_)))
  have hfF : f = F := by omega
  subst hfF
  have hpos : ∀ e : Nat, e < m → 0 < (gl (bag Vl El m f) (e : Int)).length := fun e he => bag_pos f (fun k hk => hE k hk) e (by omega) (hhit e he)
  have hlen : ∀ e : Nat, e < m → (gl (bag Vl El m f) (e : Int)).length ≤ f := fun e he => bag_row f (fun k hk => hE k hk) e (by omega)
  have hBl := bag_len Vl El m f
  have hfin : ends Vl El m f = mixL (bag Vl El m f) m := by
   have := mixL_all (bag Vl El m f)
   rw [hBl] at this
   rw [this]; rfl
  rw [hfin]
  generalize hB : bag Vl El m f = B at *
  refine Cd.loop (α := Nat × List SlV) (fun z => [(7, .slice A7 m m), (43, .int .i64 (m : Int)), (44, .int .i64 (z.1 : Int))]) (fun z w' => St w3 w' (mat 28 2 A7 m m z.2 (mixL B z.1) ++ []) ∧ z.1 ≤ m ∧ z.2.length = m) (fun z => m - z.1) (0, rs5) ⟨rfl, rfl, rfl, trivial⟩ ⟨by rw [mixL_zero]; exact hS5, Nat.zero_le _, hrl⟩ ?_
  rintro ⟨e', rs6⟩ e w6 ⟨hS6, he, hrl6⟩
  dsimp only at hS6 he hrl6 ⊢
  refine Cd.seq (Cd.region (Ops.lss rfl rfl rfl (Ops.n (tQ (Cd.seq ?_)))))
  refine Cd.cond_p _ rfl (fun h2 => ?_) (fun h2 => ?_)
  ·have he' : e' < m := by omega
   have hml := mixL_len B e'
   have hM6 := hS6.rowsI (by omega)
   have hrn := hM6.rowLen (k := (e' : Int)) (by omega) h2
   have hmg := mixL_get (B := B) (e := e') (by omega)
   have hstep := mixL_step (B := B) (e := e') (by omega)
   have hp := hpos e' he'
   have hq := hlen e' he'
   rw [hmg] at hrn
   have hget : (mat 28 2 A7 m m rs6 (mixL B e') ++ [])[e' + 1]? = some (CkI 2 (rg rs6 (e' : Int)).a (rg rs6 (e' : Int)).n (rg rs6 (e' : Int)).c (gl B (e' : Int))) := by
    have := mat_get (t1 := 28) (t2 := 2) (A := A7) (n := m) (c := m) (rs := rs6) (xss := mixL B e') (pre := []) (ks := []) (i := e') (by omega) (by omega)
    rw [show ([] : List Ck).length + 1 + e' = e' + 1 by simp; omega] at this
    rw [← hmg]
    exact this
   have hlt1 : e' + 1 < (mat 28 2 A7 m m rs6 (mixL B e') ++ []).length := (List.getElem?_eq_some_iff.1 hget).1
   refine Cd.skip (tQ (Cd.seq (Cd.block (Cd.seq (Cd.region (Ops.mi rfl rfl rfl (Ops.mi rfl rfl rfl (Ops.n (tQ ?_)))))))))
   refine Cd.seq (Cd.region (Ops.ms rfl rfl rfl (Ops.mi rfl rfl rfl (Ops.idx hM6.top.2 rfl rfl rfl (by omega) h2 (Ops.ld_sl hM6.top rfl (by omega) rfl rfl (Ops.call (sort_c (e' + 1) hS6 hget (by omega) (by omega)) rfl rfl rfl ?_))))))
   rintro _ w7 ⟨rfl, hS7⟩
   have hT7 := hS7.rdR 0 rfl
   refine Ops.n (tQ (Cd.region (Ops.ms rfl rfl rfl (Ops.mi rfl rfl rfl (Ops.ms rfl rfl rfl (Ops.mi rfl rfl rfl (Ops.idx hT7.2 rfl rfl rfl (by omega) h2 (Ops.ld_sl hT7 rfl (by omega) rfl rfl ?_))))))))
   refine Ops.call (compact_c (e' + 1) hS7 (by rw [List.getElem?_set, if_pos rfl, if_pos hlt1]) (by omega) (by omega)) rfl rfl rfl ?_
   rintro _ w8 ⟨rfl, hS8⟩
   rw [List.set_set] at hS8
   have hT8 := hS8.rdR 0 rfl
   refine Ops.idx hT8.2 rfl rfl rfl (by omega) h2 (Ops.st_sl 0 hS8 rfl rfl rfl (by omega) ?_)
   intro w9 hS9
   refine Ops.n (blockQ_n (tQ (Cd.region (Ops.add rfl rfl rfl (by omega) (Ops.mi rfl rfl rfl (Ops.n (tQ ?_)))))))
   refine ⟨(e' + 1, rs6.set e' ⟨(rg rs6 (e' : Int)).a, (cmpL (srt (gl B (e' : Int)))).length, (rg rs6 (e' : Int)).c⟩), by show m - (e' + 1) < m - e'; omega, ⟨rfl, rfl, rfl, trivial⟩, ?_, he', by show (rs6.set _ _).length = m; rw [List.length_set]; exact hrl6⟩
   rw [← hstep, ← mat_upd (by omega) (by omega)]
   exact hS9
  ·refine Cd.exit (thenQ_x (thenQ_x (blockQ_x (tQ (Cd.seq (Cd.region (Ops.ms rfl rfl rfl (Ops.ms rfl rfl rfl (Ops.n ?_)))))))))
   refine tQ (Cd.ret (ret1_s rfl ?_))
   have hem : e' = m := by omega
   subst hem
   refine ⟨A7, rs6, rfl, hrl6, ?_⟩
   have := hB3.call hS6
   rwa [List.append_nil] at this

theorem eoe_bd (xss : List (List Int)) : (eoeL xss).length ≤ 1000 ∧ ∀ x ∈ eoeL xss, x.length ≤ 1000 := by
 unfold eoeL
 split
 ·rename_i hG
  have hM := hG.1
  have h40 := hM.2.1
  have hfn := facesN_le xss 1
  refine ⟨by rw [endsL_len]; unfold edgesN; omega, fun x hx => ?_⟩
  obtain ⟨k, hk, rfl⟩ := List.mem_iff_getElem.1 hx
  rw [← gl_mem hk]
  have := ends_row (Vl := facesL xss 0) (El := facesL xss 1) (m := edgesN xss) (f := (gl xss 0).length) (fun f hf => by have := faces_in hM 1 f hf; unfold edgesN; omega) (k : Int) (by omega)
  show (gl (ends _ _ _ _) _).length ≤ _
  omega
 ·exact ⟨Nat.zero_le _, fun x hx => by cases hx⟩

theorem implEndsOfEdges_c (A : Option Addr) (n c : Nat) (rs : List SlV) (xss : List (List Int)) (w : World) (hR : RowsI w A n rs xss) (hn : n ≤ c) (hc : c ≤ 9223372036854775807) :
  Ret Tryz.prog 9 [.agg #[.slice A n c]] w (AnsSS (eoeL xss) (petrieK xss) w) := by
 have hl := hR.len
 refine Ret.of_cd Tryz.func9 rfl Tryz.ntmps9 rfl (post2 rfl) (Cd.seq (Cd.region (Ops.box1 (St.refl w) rfl rfl ?_)))
 intro Ab w1 hS1
 refine Ops.ms rfl rfl rfl (Ops.mi rfl rfl rfl (Ops.n (tQ (Cd.seq (Cd.seq (Cd.region (Ops.ld_agg 0 (hS1.rd 0 rfl) rfl rfl rfl (Ops.call (isGraphed_c A n c rs xss _ (hS1.oldRows hR) hn hc) rfl rfl rfl ?_))))))))
 rintro _ w2 ⟨rfl, hst⟩
 have hS2 := hS1.later hst.below
 first | refine Ops.not_p rfl rfl ?_ | refine Ops.not rfl rfl ?_
 refine Ops.n (tQ ?_)
 refine Cd.cond_p _ rfl (fun h => ?_) (fun h => ?_)
 ·refine Cd.seq (Cd.region (Ops.ms rfl rfl rfl (Ops.mi rfl rfl rfl (Ops.n (tQ (Cd.ret (thenQ_r (ret2_si rfl rfl ?_))))))))
  rw [petrieK, if_neg h, eoeL, if_neg h]
  exact AnsSS.none hS2
 ·have hG : Grph xss := Classical.not_not.1 h
  refine Cd.skip (tQ (Cd.seq (Cd.region (Ops.ld_agg 0 (hS2.rd 0 rfl) rfl rfl rfl (Ops.call (endsOf_c A n c rs xss _ (hS2.oldRows hR) hG) rfl rfl rfl ?_)))))
  rintro _ w3 ⟨A3, rs3, rfl, hrl, hst⟩
  have hS3 := hS2.none.call hst
  refine Ops.ms rfl rfl rfl (Ops.mi rfl rfl rfl (Ops.n (tQ (Cd.ret (ret2_si rfl rfl ?_)))))
  rw [petrieK, if_pos hG, eoeL, if_pos hG]
  refine ⟨A3, edgesN xss, rs3, by rw [endsL_len], by rw [endsL_len]; exact hrl, ?_⟩
  rw [endsL_len]
  rwa [List.append_nil] at hS3
end Go.Proofs.YtbhnfehcpnnjcaaGreatDoor.Vc
/-
 Neighbours: what they are, and the reference's walk. Conditions: as each states them.
-/
namespace Go.Proofs.YtbhnfehcpnnjcaaGreatDoor.Vc
open Go.RowKit

theorem sort0_c {w0 w : World} {ks : List Ck} (i : Nat) {t : TypeId} {A : Option Addr} {n c : Nat} {xs : List Int} (hS : St w0 w ks) (hk : ks[i]? = some (CkI t A n c xs)) (hn : n ≤ 1000000000) :
  Ret Tryz.prog 51 [.slice A n c] w (fun v w' => v = .tuple #[] ∧ St w0 w' (ks.set i (CkI t A n c (srt xs)))) := by
 by_cases h0 : 0 < n
 ·exact sort_c i hS hk h0 hn
 ·obtain rfl : n = 0 := by omega
  have hxl := hS.lenI i hk
  obtain rfl := List.eq_nil_of_length_eq_zero hxl
  refine Calls.mono (AnyM.slices_Sort_int_none lsort A c w) fun x w' ⟨hx, hw⟩ => ⟨_, hx, rfl, ?_⟩
  subst hw
  have e : srt [] = [] := List.eq_nil_of_length_eq_zero (srt_perm []).length_eq
  rw [e, set_id hk]
  exact hS
theorem compact0_c {w0 w : World} {ks : List Ck} (i : Nat) {t : TypeId} {A : Option Addr} {n c : Nat} {xs : List Int} (hS : St w0 w ks) (hk : ks[i]? = some (CkI t A n c xs)) (hn : n ≤ 1000000000) :
  Ret Tryz.prog 52 [.slice A n c] w (fun v w' => v = .slice A (cmpL xs).length c ∧ St w0 w' (ks.set i (CkI t A (cmpL xs).length c (cmpL xs)))) := by
 by_cases h0 : 0 < n
 ·exact compact_c i hS hk h0 hn
 ·obtain rfl : n = 0 := by omega
  have hxl := hS.lenI i hk
  obtain rfl := List.eq_nil_of_length_eq_zero hxl
  have e : cmpL [] = [] := List.eq_nil_of_length_eq_zero (Nat.le_zero.1 (cmpL_len []))
  rw [e]
  refine Ret.of_cd Tryz.func52 rfl Tryz.ntmps52 rfl (post1 rfl) (Cd.seq (Cd.region (Ops.ms rfl rfl rfl (Ops.n (tQ (Cd.seq (Cd.seq (Cd.region (Ops.ms rfl rfl rfl ?_)))))))))
  refine Ops.len rfl rfl (Ops.lss rfl rfl rfl (Ops.n (tQ ?_)))
  refine Cd.cond_pt rfl (by decide) ?_
  refine Cd.seq (Cd.region (Ops.ms rfl rfl rfl (Ops.ms rfl rfl rfl (Ops.n (tQ (Cd.ret (thenQ_r (ret1_s rfl ?_))))))))
  exact ⟨rfl, by rw [show ([] : List Int).length = 0 from rfl, set_id hk]; exact hS⟩

/-! lists filled by pairs: a place, and what is put there -/
def bagP (m : Nat) (ps : List (Int × Int)) : List (List Int) := ps.foldl (fun B p => B.set p.1.toNat (gl B p.1 ++ [p.2])) (List.replicate m [])
theorem bagP_snoc (m : Nat) (ps : List (Int × Int)) (p : Int × Int) : bagP m (ps ++ [p]) = (bagP m ps).set p.1.toNat (gl (bagP m ps) p.1 ++ [p.2]) := by
 unfold bagP
 rw [List.foldl_append]; rfl
theorem snoc_ind {α : Type} {P : List α → Prop} (h0 : P []) (h1 : ∀ l a, P l → P (l ++ [a])) (l : List α) : P l := by
 have : ∀ (n : Nat) (l : List α), l.length = n → P l := by
  intro n
  induction n with
  | zero => intro l hl; rw [List.eq_nil_of_length_eq_zero hl]; exact h0
  | succ n ih =>
   intro l hl
   have hne : l ≠ [] := by intro e; rw [e] at hl; simp at hl
   rw [← List.dropLast_concat_getLast hne]
   exact h1 _ _ (ih _ (by simp [hl]))
 exact this _ l rfl
theorem bagP_len (m : Nat) (ps : List (Int × Int)) : (bagP m ps).length = m := by
 induction ps using snoc_ind with
 | h0 => simp [bagP]
 | h1 l a ih => rw [bagP_snoc, List.length_set, ih]
theorem gl_blank (m : Nat) (e : Int) : gl (List.replicate m ([] : List Int)) e = [] := by
 simp only [gl, List.getD_eq_getElem?_getD, List.getElem?_replicate]
 split <;> rfl
theorem bagP_row {m : Nat} (ps : List (Int × Int)) : (∀ p ∈ ps, 0 ≤ p.1 ∧ p.1 < m) → ∀ e : Int, 0 ≤ e → (gl (bagP m ps) e).length ≤ ps.length := by
 induction ps using snoc_ind with
 | h0 => intro _ e _; rw [show bagP m [] = List.replicate m [] from rfl, gl_blank]; exact Nat.zero_le _
 | h1 l a ih =>
  intro h e he
  have ha := h a (by simp)
  have ih := ih (fun p hp => h p (by simp [hp]))
  rw [bagP_snoc, gl_set2 e he (by rw [bagP_len]; omega)]
  split
  ·have := ih a.1 ha.1; simp; omega
  ·have := ih e he; simp; omega
theorem bagP_mem {m : Nat} {b : Int} (ps : List (Int × Int)) : (∀ p ∈ ps, (0 ≤ p.1 ∧ p.1 < m) ∧ 0 ≤ p.2 ∧ p.2 < b) → ∀ e : Int, 0 ≤ e → ∀ x ∈ gl (bagP m ps) e, 0 ≤ x ∧ x < b := by
 induction ps using snoc_ind with
 | h0 => intro _ e _ x hx; rw [show bagP m [] = List.replicate m [] from rfl, gl_blank] at hx; cases hx
 | h1 l a ih =>
  intro h e he x hx
  have ha := h a (by simp)
  have ih := ih (fun p hp => h p (by simp [hp]))
  rw [bagP_snoc, gl_set2 e he (by rw [bagP_len]; omega)] at hx
  split at hx
  ·rcases List.mem_append.1 hx with hx | hx
   ·exact ih a.1 ha.1.1 x hx
   ·simp at hx; subst hx; exact ha.2
  ·exact ih e he x hx
def endsP (m : Nat) (ps : List (Int × Int)) : List (List Int) := (bagP m ps).map cs
theorem endsP_len (m : Nat) (ps : List (Int × Int)) : (endsP m ps).length = m := by rw [endsP, List.length_map, bagP_len]
theorem gl_endsP (m : Nat) (ps : List (Int × Int)) (e : Int) : gl (endsP m ps) e = cs (gl (bagP m ps) e) := by
 simp only [gl, endsP, List.getD_eq_getElem?_getD, List.getElem?_map]
 cases (bagP m ps)[e.toNat]? with
 | none => exact cs_nil.symm
 | some l => rfl
theorem endsP_nil (m : Nat) : endsP m [] = List.replicate m [] := by
 rw [endsP, show bagP m [] = List.replicate m [] from rfl, List.map_replicate, cs_nil]
theorem endsP_snoc (m : Nat) (ps : List (Int × Int)) (p : Int × Int) : endsP m (ps ++ [p]) = (endsP m ps).set p.1.toNat (cs (gl (endsP m ps) p.1 ++ [p.2])) := by
 rw [gl_endsP, cs_cs, endsP, bagP_snoc, List.map_set]
 rfl
theorem endsP_SA (m : Nat) (ps : List (Int × Int)) (e : Int) : SA (gl (endsP m ps) e) := by rw [gl_endsP]; exact cs_SA _
theorem endsP_row {m : Nat} {ps : List (Int × Int)} (h : ∀ p ∈ ps, 0 ≤ p.1 ∧ p.1 < m) (e : Int) (he : 0 ≤ e) : (gl (endsP m ps) e).length ≤ ps.length := by
 rw [gl_endsP]
 exact Nat.le_trans (cs_len _) (bagP_row ps h e he)

/-! the vertices at an edge's ends -/
theorem bag_mem {Vl El : List Int} {m : Nat} {b : Int} : ∀ f, (∀ k : Nat, k < f → (0 ≤ gi El k ∧ gi El k < m) ∧ 0 ≤ gi Vl k ∧ gi Vl k < b) → ∀ e : Int, 0 ≤ e → ∀ x ∈ gl (bag Vl El m f) e, 0 ≤ x ∧ x < b
 | 0, _, e, he, x, hx => by rw [show bag Vl El m 0 = List.replicate m [] from rfl, gl_blank] at hx; cases hx
 | f + 1, h, e, he, x, hx => by
  have hf := h f (by omega)
  have ih := bag_mem (Vl := Vl) f (fun k hk => h k (by omega))
  rw [bag, gl_set2 e he (by rw [bag_len]; omega)] at hx
  split at hx
  ·rcases List.mem_append.1 hx with hx | hx
   ·exact ih _ hf.1.1 x hx
   ·simp at hx; subst hx; exact hf.2
  ·exact ih e he x hx
def vertsN (xss : List (List Int)) : Nat := (facesN xss 0).toNat
theorem endsL_mem {xss : List (List Int)} (hM : Mani xss) (e : Int) (he : 0 ≤ e) : ∀ x ∈ gl (endsL xss) e, 0 ≤ x ∧ x < (vertsN xss : Int) := fun x hx => by
 rw [endsL, gl_ends, cs_mem] at hx
 exact bag_mem (gl xss 0).length (fun k hk => by
  have h0 := faces_in hM 0 k hk
  have h1 := faces_in hM 1 k hk
  unfold vertsN edgesN
  omega) e he x hx
/-- the pairs that the first e edges give -/
def arcs (En : List (List Int)) : Nat → List (Int × Int)
 | 0 => []
 | e + 1 => if (gl En e).length = 2 then (arcs En e ++ [(gi (gl En e) 0, gi (gl En e) 1)]) ++ [(gi (gl En e) 1, gi (gl En e) 0)] else arcs En e
theorem arcs_len (En : List (List Int)) : ∀ e, (arcs En e).length ≤ 2 * e
 | 0 => Nat.le_refl _
 | e + 1 => by
  have := arcs_len En e
  unfold arcs
  split
  ·simp; omega
  ·omega
theorem two_in {l : List Int} {b : Int} (h : ∀ x ∈ l, 0 ≤ x ∧ x < b) (h2 : l.length = 2) : (0 ≤ gi l 0 ∧ gi l 0 < b) ∧ 0 ≤ gi l 1 ∧ gi l 1 < b :=
 ⟨by rw [show (0 : Int) = ((0 : Nat) : Int) from rfl, gi_mem (by omega)]; exact h _ (List.getElem_mem _), by rw [show (1 : Int) = ((1 : Nat) : Int) from rfl, gi_mem (by omega)]; exact h _ (List.getElem_mem _)⟩
theorem arcs_in {En : List (List Int)} {b : Int} (h : ∀ e : Nat, ∀ x ∈ gl En e, 0 ≤ x ∧ x < b) : ∀ e, ∀ p ∈ arcs En e, (0 ≤ p.1 ∧ p.1 < b) ∧ 0 ≤ p.2 ∧ p.2 < b
 | 0, p, hp => by cases hp
 | e + 1, p, hp => by
  unfold arcs at hp
  split at hp
  ·rename_i h2
   have ht := two_in (h e) h2
   rcases List.mem_append.1 hp with hp | hp
   ·rcases List.mem_append.1 hp with hp | hp
    ·exact arcs_in h e p hp
    ·simp at hp; subst hp; exact ht
   ·simp at hp; subst hp; exact ⟨ht.2, ht.1⟩
  ·exact arcs_in h e p hp
def nbL (xss : List (List Int)) : List (List Int) := endsP (vertsN xss) (arcs (endsL xss) (edgesN xss))
theorem nbL_len (xss : List (List Int)) : (nbL xss).length = vertsN xss := endsP_len _ _
theorem nb_small {xss : List (List Int)} (hM : Mani xss) : edgesN xss ≤ 400 ∧ vertsN xss ≤ 400 ∧ (gl xss 0).length ≤ 400 := by
 have h0 := facesN_le xss 0
 have h1 := facesN_le xss 1
 have h2 := hM.2.1
 unfold edgesN vertsN
 omega

theorem l18Neighbours_c (A : Option Addr) (n c : Nat) (rs : List SlV) (xss : List (List Int)) (w : World) (hR : RowsI w A n rs xss) (hG : Grph xss) :
  Ret Tryz.prog 24 [.agg #[.slice A n c]] w (fun v w' => ∃ A' rs', v = .slice A' (vertsN xss) (vertsN xss) ∧ rs'.length = vertsN xss ∧ St w w' (mat 28 2 A' (vertsN xss) (vertsN xss) rs' (nbL xss) ++ [])) := by
 have hl := hR.len
 have hM := hG.1
 have hn2 := hG.2
 have h5 := hM.1
 have hsm := nb_small hM
 have hgr := faces_grt hM 0
 have hmN : ((vertsN xss : Nat) : Int) = facesN xss 0 := by have := facesN_le xss 0; unfold vertsN; omega
 have hEx : ∀ x ∈ facesL xss 0, x ≤ 1000000 := fun x hx => by
  obtain ⟨k, hk, rfl⟩ := List.mem_iff_getElem.1 hx
  have := faces_in hM 0 k (by rw [← facesL_len xss 0]; exact hk)
  rw [gi_mem hk] at this
  omega
 have hmem : ∀ e : Nat, ∀ x ∈ gl (endsL xss) e, 0 ≤ x ∧ x < (vertsN xss : Int) := fun e => endsL_mem hM e (by omega)
 have harc := arcs_in hmem
 have hal := arcs_len (endsL xss)
 have hEl := endsL_len xss
 have hnb : nbL xss = endsP (vertsN xss) (arcs (endsL xss) (edgesN xss)) := rfl
 rw [hnb]
 refine Ret.of_cd Tryz.func24 rfl Tryz.ntmps24 rfl (post1 rfl) (Cd.seq (Cd.region (Ops.box1 (St.refl w) rfl rfl ?_)))
 intro Ab w1 hS1
 refine Ops.ms rfl rfl rfl (Ops.n (tQ (Cd.seq (Cd.region (Ops.ld_agg 0 (hS1.rd 0 rfl) rfl rfl rfl (Ops.call (l18Ends_c A n c rs xss _ (hS1.oldRows hR) hG) rfl rfl rfl ?_))))))
 rintro _ w2 ⟨A3, rs3, rfl, hrl3, hst⟩
 have hS2 := hS1.call2 hst
 have hP2 := hst.rowsI hEl
 refine Ops.ms rfl rfl rfl (Ops.n (tQ (Cd.seq (Cd.region (Ops.ld_agg 0 (hS2.rd 0 rfl) rfl rfl rfl (Ops.call (l02Faces_c A n c rs xss 0 _ (hS2.oldRows hR) hM (by omega)) rfl rfl rfl ?_))))))
 rintro _ w3 ⟨A4, c4, rfl, hst4⟩
 have hP3 := hP2.later hst4.below
 have hS3 := (hS2.later hst4.below).none
 refine Ops.call (l02Greatest_c A4 _ c4 (facesL xss 0) w3 (hst4.rdI 0 rfl) (by omega) hEx) rfl rfl rfl ?_
 rintro _ w3 ⟨rfl, rfl⟩
 rw [hgr, ← hmN]
 generalize hv : vertsN xss = vN at *
 generalize hm : edgesN xss = m at *
 generalize hEn : endsL xss = En at *
 refine Ops.mkR vN (St.refl w3) rfl rfl (by omega) ?_
 intro A5 w4 hS4
 have hS4 : St w3 w4 (mat 28 2 A5 vN vN (List.replicate vN slNil) (endsP vN (arcs En 0)) ++ []) := by
  rw [show arcs En 0 = [] from rfl, endsP_nil, List.append_nil]
  exact nilRows vN hS4
 refine Ops.ms rfl rfl rfl (Ops.n (tQ (Cd.seq (Cd.seq (Cd.region (Ops.mi rfl rfl rfl (Ops.n (tQ (Cd.block ?_)))))))))
 refine Cd.loop (α := Nat × List SlV) (fun z => [(3, .slice A3 m m), (4, .slice A5 vN vN), (5, .int .i64 (z.1 : Int))]) (fun z w' => St w3 w' (mat 28 2 A5 vN vN z.2 (endsP vN (arcs En z.1)) ++ []) ∧ z.1 ≤ m ∧ z.2.length = vN) (fun z => m - z.1) (0, List.replicate vN slNil) ⟨rfl, rfl, rfl, trivial⟩ ⟨hS4, Nat.zero_le _, by simp⟩ ?_
 rintro ⟨e', rs5⟩ e w5 ⟨hS5, he, hrl⟩
 dsimp only at hS5 he hrl ⊢
 have hP5 := hS5.oldRows hP3
 refine Cd.seq (Cd.seq (Cd.region (Ops.mi rfl rfl rfl (Ops.ms rfl rfl rfl (Ops.len rfl rfl (Ops.lss rfl rfl rfl (Ops.n (tQ ?_))))))))
 refine Cd.cond_p _ rfl (fun h1 => ?_) (fun h1 => ?_)
 ·have he' : e' < m := by omega
  have hrow := hP5.at_ (i := (e' : Int)) (by omega) h1
  have hrn := hP5.rowLen (k := (e' : Int)) (by omega) h1
  refine Cd.skip (tQ (Cd.seq (Cd.block (Cd.seq (Cd.region (Ops.ms rfl rfl rfl (Ops.mi rfl rfl rfl (Ops.idx hP5.top.2 rfl rfl rfl (by omega) h1 (Ops.ld_sl hP5.top rfl (by omega) rfl rfl ?_)))))))))
  refine Ops.len rfl rfl (Ops.eql rfl rfl rfl (Ops.n (tQ ?_)))
  refine Cd.cond_p _ rfl (fun h2 => ?_) (fun h2 => ?_)
  ·have h22 : (gl En (e' : Int)).length = 2 := by omega
   have hn2 : (rg rs3 (e' : Int)).n = 2 := by omega
   have htw := two_in (hmem e') h22
   have hst2 : arcs En (e' + 1) = (arcs En e' ++ [(gi (gl En e') 0, gi (gl En e') 1)]) ++ [(gi (gl En e') 1, gi (gl En e') 0)] := by
    show (if _ then _ else _) = _
    rw [if_pos h22]
   have hps1 : ∀ p ∈ arcs En e', 0 ≤ p.1 ∧ p.1 < (vN : Int) := fun p hp => (harc e' p hp).1
   have hps2 : ∀ p ∈ arcs En e' ++ [(gi (gl En e') 0, gi (gl En e') 1)], 0 ≤ p.1 ∧ p.1 < (vN : Int) := fun p hp => by
    rcases List.mem_append.1 hp with hp | hp
    ·exact hps1 p hp
    ·simp at hp; subst hp; exact htw.1
   have hl1 := hal e'
   have hl2 : (arcs En e' ++ [(gi (gl En e') 0, gi (gl En e') 1)]).length ≤ 2 * e' + 1 := by simp; omega
   refine Cd.seq ?_
   refine Cd.draw [.ex (.slice (A3) (m) (m)), .ex (.int .i64 ((e' : Int))), .ex (.pointer (ptrAt (A3) ((e' : Int)).toNat)), .ex (.slice ((rg (rs3) ((e' : Int))).a) ((rg (rs3) ((e' : Int))).n) ((rg (rs3) ((e' : Int))).c)), .ex (.pointer (ptrAt ((rg (rs3) ((e' : Int))).a) ((0 : Int)).toNat)), .ex (.int .i64 (gi (gl En (e' : Int)) ((0 : Int)))), .ex (.slice (A3) (m) (m)), .ex (.int .i64 ((e' : Int))), .ex (.pointer (ptrAt (A3) ((e' : Int)).toNat)), .ex (.slice ((rg (rs3) ((e' : Int))).a) ((rg (rs3) ((e' : Int))).n) ((rg (rs3) ((e' : Int))).c)), .ex (.pointer (ptrAt ((rg (rs3) ((e' : Int))).a) ((1 : Int)).toNat)), .ex (.int .i64 (gi (gl En (e' : Int)) ((1 : Int)))), .ex (.int .i64 (gi (gl En (e' : Int)) ((0 : Int)))), .ex (.int .i64 (gi (gl En (e' : Int)) ((1 : Int))))] (by kernel_rfl) (by kernel_rfl) rfl (lx (lx (lx (lx (lx (lx (lx (lx (lx (lx (lx (lx (lx (lx (fun _ h => by cases h))))))))))))))) ⟨?_, ?_, ?_, ?_, ?_, ?_, ?_, ?_, ?_, ?_, ?_, ?_, ?_, ?_, trivial⟩ ?_
   ·intro e1 w1 hb hp hun
    refine Ops.ms rfl rfl rfl (Ops.n (d0 (by exact rfl)))
   ·intro e1 w1 hb hp hun
    refine Ops.mi rfl rfl rfl (Ops.n (d0 (by exact rfl)))
   ·intro e1 w1 hb hp hun
    refine Ops.idx (hP5.top.later hb).2 rfl rfl rfl (by omega) (by omega) (Ops.n (d0 (by exact rfl)))
   ·intro e1 w1 hb hp hun
    refine Ops.ld_sl (hP5.top.later hb) rfl (by omega) rfl rfl (Ops.n (d0 (by exact rfl)))
   ·intro e1 w1 hb hp hun
    refine Ops.idx (hrow.later hb).2 rfl rfl rfl (by omega) (by omega) (Ops.n (d0 (by exact rfl)))
   ·intro e1 w1 hb hp hun
    refine Ops.ld_int (hrow.later hb) rfl (by omega) rfl rfl (Ops.n (d0 (by exact rfl)))
   ·intro e1 w1 hb hp hun
    refine Ops.ms rfl rfl rfl (Ops.n (d0 (by exact rfl)))
   ·intro e1 w1 hb hp hun
    refine Ops.mi rfl rfl rfl (Ops.n (d0 (by exact rfl)))
   ·intro e1 w1 hb hp hun
    refine Ops.idx (hP5.top.later hb).2 rfl rfl rfl (by omega) (by omega) (Ops.n (d0 (by exact rfl)))
   ·intro e1 w1 hb hp hun
    refine Ops.ld_sl (hP5.top.later hb) rfl (by omega) rfl rfl (Ops.n (d0 (by exact rfl)))
   ·intro e1 w1 hb hp hun
    refine Ops.idx (hrow.later hb).2 rfl rfl rfl (by omega) (by omega) (Ops.n (d0 (by exact rfl)))
   ·intro e1 w1 hb hp hun
    refine Ops.ld_int (hrow.later hb) rfl (by omega) rfl rfl (Ops.n (d0 (by exact rfl)))
   ·intro e1 w1 hb hp hun
    refine Ops.mi rfl rfl rfl (Ops.n (d0 (by exact rfl)))
   ·intro e1 w1 hb hp hun
    refine Ops.mi rfl rfl rfl (Ops.n (d0 (by exact rfl)))
   intro u w6 hb6 _
   have hS6 := hS5.later hb6
   generalize hu0 : gi (gl En (e' : Int)) 0 = a at *
   generalize hu1 : gi (gl En (e' : Int)) 1 = b at *
   generalize hps : arcs En e' = ps at *
   have hel6 := endsP_len vN ps
   have hM6 := hS6.rowsI hel6
   have hrow6 := hM6.at_ (i := a) htw.1.1 htw.1.2
   have hcap6 := hM6.cap_ (i := a) htw.1.1 htw.1.2
   have hrn6 := hM6.rowLen htw.1.1 htw.1.2
   have hrl6 := endsP_row hps1 a htw.1.1
   have hget6 : (mat 28 2 A5 vN vN rs5 (endsP vN ps) ++ [])[a.toNat + 1]? = some (CkI 2 (rg rs5 a).a (rg rs5 a).n (rg rs5 a).c (gl (endsP vN ps) a)) := by
    have := mat_get (t1 := 28) (t2 := 2) (A := A5) (n := vN) (c := vN) (rs := rs5) (xss := endsP vN ps) (pre := []) (ks := []) (i := a.toNat) (by omega) (by omega)
    rw [show ([] : List Ck).length + 1 + a.toNat = a.toNat + 1 by simp; omega] at this
    exact this
   refine tQ (Cd.seq (Cd.region (Ops.ms rfl rfl rfl (Ops.mi rfl rfl rfl (Ops.ms rfl rfl rfl (Ops.mi rfl rfl rfl (Ops.idx hM6.top.2 rfl rfl rfl htw.1.1 htw.1.2 (Ops.ld_sl hM6.top rfl (by omega) rfl rfl (Ops.mi rfl rfl rfl ?_)))))))))
   refine Ops.call (l17Insert_c _ _ (rg rs5 a).c _ b _ hrow6 hcap6.1 (by omega) (endsP_SA _ _ _)) rfl rfl rfl ?_
   rintro _ w7 ⟨A7, c7, rfl, hbl7, hor7⟩
   have hS7 := hS6.insRow hget6 hbl7 hor7
   have hT7 := hS7.rdR 0 rfl
   refine Ops.idx hT7.2 rfl rfl rfl htw.1.1 htw.1.2 (Ops.st_sl 0 hS7 rfl rfl rfl (by omega) ?_)
   intro w8 hS8
   have hS8 : St w3 w8 (mat 28 2 A5 vN vN (rs5.set a.toNat ⟨A7, (cs (gl (endsP vN ps) a ++ [b])).length, c7⟩) (endsP vN (ps ++ [(a, b)])) ++ []) := by
    rw [endsP_snoc vN ps (a, b), ← mat_upd (by omega) (by omega)]
    exact hS8
   have hel8 := endsP_len vN (ps ++ [(a, b)])
   have hM8 := hS8.rowsI hel8
   generalize hrs8 : rs5.set a.toNat ⟨A7, (cs (gl (endsP vN ps) a ++ [b])).length, c7⟩ = rs8 at *
   have hrl8 : rs8.length = vN := by rw [← hrs8, List.length_set]; exact hrl
   have hrow8 := hM8.at_ (i := b) htw.2.1 htw.2.2
   have hcap8 := hM8.cap_ (i := b) htw.2.1 htw.2.2
   have hrn8 := hM8.rowLen htw.2.1 htw.2.2
   have hrl28 := endsP_row hps2 b htw.2.1
   have hget8 : (mat 28 2 A5 vN vN rs8 (endsP vN (ps ++ [(a, b)])) ++ [])[b.toNat + 1]? = some (CkI 2 (rg rs8 b).a (rg rs8 b).n (rg rs8 b).c (gl (endsP vN (ps ++ [(a, b)])) b)) := by
    have := mat_get (t1 := 28) (t2 := 2) (A := A5) (n := vN) (c := vN) (rs := rs8) (xss := endsP vN (ps ++ [(a, b)])) (pre := []) (ks := []) (i := b.toNat) (by omega) (by omega)
    rw [show ([] : List Ck).length + 1 + b.toNat = b.toNat + 1 by simp; omega] at this
    exact this
   refine Ops.n (tQ (Cd.region (Ops.ms rfl rfl rfl (Ops.mi rfl rfl rfl (Ops.ms rfl rfl rfl (Ops.mi rfl rfl rfl (Ops.idx hM8.top.2 rfl rfl rfl htw.2.1 htw.2.2 (Ops.ld_sl hM8.top rfl (by omega) rfl rfl (Ops.mi rfl rfl rfl ?_)))))))))
   refine Ops.call (l17Insert_c _ _ (rg rs8 b).c _ a _ hrow8 hcap8.1 (by omega) (endsP_SA _ _ _)) rfl rfl rfl ?_
   rintro _ w9 ⟨A9, c9, rfl, hbl9, hor9⟩
   have hS9 := hS8.insRow hget8 hbl9 hor9
   have hT9 := hS9.rdR 0 rfl
   refine Ops.idx hT9.2 rfl rfl rfl htw.2.1 htw.2.2 (Ops.st_sl 0 hS9 rfl rfl rfl (by omega) ?_)
   intro w10 hS10
   refine Ops.n (blockQ_n (tQ (Cd.region (Ops.mi rfl rfl rfl (Ops.add rfl rfl rfl (by omega) (Ops.mi rfl rfl rfl (Ops.n (tQ ?_))))))))
   refine ⟨(e' + 1, rs8.set b.toNat ⟨A9, (cs (gl (endsP vN (ps ++ [(a, b)])) b ++ [a])).length, c9⟩), by show m - (e' + 1) < m - e'; omega, ⟨rfl, rfl, rfl, trivial⟩, ?_, he', by show (rs8.set _ _).length = vN; rw [List.length_set]; exact hrl8⟩
   show St w3 w10 (mat _ _ A5 vN vN _ (endsP vN (arcs En (e' + 1))) ++ [])
   rw [hst2, endsP_snoc vN (ps ++ [(a, b)]) (b, a), ← mat_upd (by omega) (by omega)]
   exact hS10
  ·have hst2 : arcs En (e' + 1) = arcs En e' := by
    show (if _ then _ else _) = _
    rw [if_neg (by omega)]
   refine Cd.skip (blockQ_n (tQ (Cd.region (Ops.mi rfl rfl rfl (Ops.add rfl rfl rfl (by omega) (Ops.mi rfl rfl rfl (Ops.n (tQ ?_))))))))
   exact ⟨(e' + 1, rs5), by show m - (e' + 1) < m - e'; omega, ⟨rfl, rfl, rfl, trivial⟩, by show St w3 w5 (mat _ _ A5 vN vN rs5 (endsP vN (arcs En (e' + 1))) ++ []); rw [hst2]; exact hS5, he', hrl⟩
 ·refine Cd.exit (thenQ_x (thenQ_x (blockQ_x (tQ (Cd.seq (Cd.region (Ops.ms rfl rfl rfl (Ops.ms rfl rfl rfl (Ops.n ?_)))))))))
  refine tQ (Cd.ret (ret1_s rfl ?_))
  have hem : e' = m := by omega
  subst hem
  refine ⟨A5, rs5, rfl, hrl, ?_⟩
  have := hS3.call hS5
  rwa [List.append_nil] at this
end Go.Proofs.YtbhnfehcpnnjcaaGreatDoor.Vc
/-
 Neighbours on the program's side, and the answers on both. Conditions: as each states them.
-/
namespace Go.Proofs.YtbhnfehcpnnjcaaGreatDoor.Vc
open Go.RowKit

theorem mat_updk {t1 t2 : TypeId} {A : Option Addr} {n c : Nat} {rs : List SlV} {xss : List (List Int)} {i : Nat} {s : SlV} {xs : List Int} {ks : List Ck} (hr : rs.length = xss.length) (hi : i < rs.length) : CkR t1 A n c (rs.set i s) :: (rowsCk t2 rs xss ++ ks).set i (CkI t2 s.a s.n s.c xs) = mat t1 t2 A n c (rs.set i s) (xss.set i xs) ++ ks := by
 rw [List.set_append_left _ _ (by rw [rowsCk_length hr]; exact hi), rowsCk_upd hr]; rfl

theorem mat_len {t1 t2 : TypeId} {A : Option Addr} {n c : Nat} {rs : List SlV} {xss : List (List Int)} (h : rs.length = xss.length) : (mat t1 t2 A n c rs xss).length = rs.length + 1 := by simp [mat, rowsCk_length h]
theorem St.setTail {w0 w : World} {a k : List Ck} {i : Nat} {x : Ck} (h : St w0 w ((a ++ k).set i x)) (hi : i < a.length) : St w0 w k := by
 rw [List.set_append_left _ _ hi] at h
 exact h.sub (List.sublist_append_right _ _)

theorem neighboursOf_c (A : Option Addr) (n c : Nat) (rs : List SlV) (xss : List (List Int)) (w : World) (hR : RowsI w A n rs xss) (hG : Grph xss) :
  Ret Tryz.prog 37 [.agg #[.slice A n c]] w (fun v w' => ∃ A' rs', v = .slice A' (vertsN xss) (vertsN xss) ∧ rs'.length = vertsN xss ∧ St w w' (mat 28 2 A' (vertsN xss) (vertsN xss) rs' (nbL xss) ++ [])) := by
 have hl := hR.len
 have hM := hG.1
 have hn2 := hG.2
 have h5 := hM.1
 have hsm := nb_small hM
 have hmN : ((vertsN xss : Nat) : Int) = facesN xss 0 := by have := facesN_le xss 0; unfold vertsN; omega
 have hmem : ∀ e : Nat, ∀ x ∈ gl (endsL xss) e, 0 ≤ x ∧ x < (vertsN xss : Int) := fun e => endsL_mem hM e (by omega)
 have harc := arcs_in hmem
 have hal := arcs_len (endsL xss)
 have hEl := endsL_len xss
 have hnb : nbL xss = endsP (vertsN xss) (arcs (endsL xss) (edgesN xss)) := rfl
 rw [hnb]
 refine Ret.of_cd Tryz.func37 rfl Tryz.ntmps37 rfl (post1 rfl) (Cd.seq (Cd.region (Ops.box1 (St.refl w) rfl rfl ?_)))
 intro Ab w1 hS1
 refine Ops.ms rfl rfl rfl (Ops.n (tQ (Cd.seq (Cd.region (Ops.call (faces_c Ab A n c rs xss 0 _ (Rd.one (hS1.rd 0 rfl)) (hS1.oldRows hR) hM (by omega)) rfl rfl rfl ?_)))))
 rintro _ w2 ⟨A3, rfl, hst⟩
 have hS2 := hS1.later hst.below
 rw [← hmN]
 refine Ops.mv_tup rfl rfl rfl (Ops.extract rfl rfl rfl (Ops.extract rfl rfl rfl (Ops.ms rfl rfl rfl (Ops.mi rfl rfl rfl (Ops.n (tQ (Cd.seq (Cd.region (Ops.mi rfl rfl rfl ?_)))))))))
 refine Ops.mkR (vertsN xss) hS2 rfl rfl (by omega) ?_
 intro A5 w3 hS3
 have hS3 : St w w3 ([Bx 26 1 Ab [.slice A n c]] ++ mat 28 2 A5 (vertsN xss) (vertsN xss) (List.replicate (vertsN xss) slNil) (bagP (vertsN xss) (arcs (endsL xss) 0))) := by
  have := nilRows (t := 2) (vertsN xss) hS3
  exact this.perm (List.Perm.swap _ _ _)
 refine Ops.ms rfl rfl rfl (Ops.n (tQ (Cd.seq (Cd.seq (Cd.region (Ops.ld_agg 0 (hS3.rd 0 rfl) rfl rfl rfl (Ops.call (endsOf_c A n c rs xss _ (hS3.oldRows hR) hG) rfl rfl rfl ?_)))))))
 rintro _ w4 ⟨A16, rs3, rfl, hrl3, hst4⟩
 have hEl4 : (endsL xss).length = edgesN xss := hEl
 obtain ⟨k16, hk16⟩ : ∃ k, k = mat 28 2 A16 (edgesN xss) (edgesN xss) rs3 (endsL xss) ++ [] := ⟨_, rfl⟩
 have hS4 : St w w4 (mat 28 2 A5 (vertsN xss) (vertsN xss) (List.replicate (vertsN xss) slNil) (bagP (vertsN xss) (arcs (endsL xss) 0)) ++ k16) := by
  have := hS3.call2 hst4
  rw [← hk16, List.append_assoc] at this
  exact this.tail
 have hEnK : ∀ {w' : World}, St w w' k16 → RowsI w' A16 (edgesN xss) rs3 (endsL xss) := fun h => by
  rw [hk16] at h
  exact h.rowsI hEl4
 have hEnR : ∀ {w' : World} {rs5 : List SlV} {B : List (List Int)}, St w w' (mat 28 2 A5 (vertsN xss) (vertsN xss) rs5 B ++ k16) → RowsI w' A16 (edgesN xss) rs3 (endsL xss) := fun h => hEnK h.unmat
 clear hk16 hst4 hS3 hS2
 generalize hv : vertsN xss = vN at *
 generalize hm : edgesN xss = m at *
 generalize hEn : endsL xss = En at *
 refine Ops.len rfl rfl (Ops.mi rfl rfl rfl (Ops.n (tQ (Cd.block ?_))))
 refine Cd.loop (α := Nat × List SlV) (fun z => [(5, .slice A5 vN vN), (16, .slice A16 m m), (17, .int .i64 (m : Int)), (18, .int .i64 (z.1 : Int))]) (fun z w' => St w w' (mat 28 2 A5 vN vN z.2 (bagP vN (arcs En z.1)) ++ k16) ∧ z.1 ≤ m ∧ z.2.length = vN) (fun z => m - z.1) (0, List.replicate vN slNil) ⟨rfl, rfl, rfl, rfl, trivial⟩ ⟨hS4, Nat.zero_le _, by simp⟩ ?_
 rintro ⟨e', rs5⟩ e w5 ⟨hS5, he, hrl⟩
 dsimp only at hS5 he hrl ⊢
 have hP5 := hEnR hS5
 refine Cd.seq (Cd.region (Ops.lss rfl rfl rfl (Ops.n (tQ (Cd.seq ?_)))))
 refine Cd.cond_p _ rfl (fun h1 => ?_) (fun h1 => ?_)
 ·have he' : e' < m := by omega
  have hrn := hP5.rowLen (k := (e' : Int)) (by omega) h1
  refine Cd.skip (tQ (Cd.seq (Cd.block (Cd.seq (Cd.region (Ops.idx hP5.top.2 rfl rfl rfl (by omega) h1 (Ops.ld_sl hP5.top rfl (by omega) rfl rfl (Ops.ms rfl rfl rfl (Ops.n ?_)))))))))
  refine tQ (Cd.seq (Cd.region (Ops.ms rfl rfl rfl (Ops.len rfl rfl (Ops.eql rfl rfl rfl (Ops.n (tQ ?_)))))))
  refine Cd.cond_p _ rfl (fun h2 => ?_) (fun h2 => ?_)
  ·have h22 : (gl En (e' : Int)).length = 2 := by omega
   have hn2 : (rg rs3 (e' : Int)).n = 2 := by omega
   have htw := two_in (hmem e') h22
   have hst2 : arcs En (e' + 1) = (arcs En e' ++ [(gi (gl En (e' : Int)) 0, gi (gl En (e' : Int)) 1)]) ++ [(gi (gl En (e' : Int)) 1, gi (gl En (e' : Int)) 0)] := by
    show (if _ then _ else _) = _
    rw [if_pos h22]
   have hps1 : ∀ p ∈ arcs En e', 0 ≤ p.1 ∧ p.1 < (vN : Int) := fun p hp => (harc e' p hp).1
   have hps2 : ∀ p ∈ arcs En e' ++ [(gi (gl En (e' : Int)) 0, gi (gl En (e' : Int)) 1)], 0 ≤ p.1 ∧ p.1 < (vN : Int) := fun p hp => by
    rcases List.mem_append.1 hp with hp | hp
    ·exact hps1 p hp
    ·simp at hp; subst hp; exact htw.1
   have hl1 := hal e'
   have hl2 : (arcs En e' ++ [(gi (gl En (e' : Int)) 0, gi (gl En (e' : Int)) 1)]).length ≤ 2 * e' + 1 := by simp; omega
   have hbl5 := bagP_len vN (arcs En e')
   have hM5 := hS5.rowsI hbl5
   have hrn5 := hM5.rowLen htw.1.1 htw.1.2
   have hrl5 := bagP_row _ hps1 (gi (gl En (e' : Int)) 0) htw.1.1
   have hlt5 : (gi (gl En (e' : Int)) 0).toNat < vN := by omega
   have hrow5 := (hEnR hS5).at_ (i := (e' : Int)) (by omega) h1
   have hget5 : (mat 28 2 A5 vN vN rs5 (bagP vN (arcs En e')) ++ k16)[(gi (gl En (e' : Int)) 0).toNat + 1]? = some (CkI 2 (rg rs5 (gi (gl En (e' : Int)) 0)).a (rg rs5 (gi (gl En (e' : Int)) 0)).n (rg rs5 (gi (gl En (e' : Int)) 0)).c (gl (bagP vN (arcs En e')) (gi (gl En (e' : Int)) 0))) := by
    have := mat_get (t1 := 28) (t2 := 2) (A := A5) (n := vN) (c := vN) (rs := rs5) (xss := bagP vN (arcs En e')) (pre := []) (ks := k16) (i := (gi (gl En (e' : Int)) 0).toNat) (by omega) (by omega)
    rw [show ([] : List Ck).length + 1 + (gi (gl En (e' : Int)) 0).toNat = (gi (gl En (e' : Int)) 0).toNat + 1 by simp; omega] at this
    exact this
   refine Cd.seq ?_
   refine Cd.drawN [14, 16] [.ex (.slice (A5) (vN) (vN)), .ex (.slice ((rg rs3 (e' : Int)).a) ((rg rs3 (e' : Int)).n) ((rg rs3 (e' : Int)).c)), .ex (.pointer (ptrAt (rg rs3 (e' : Int)).a (0 : Int).toNat)), .ex (.int .i64 (gi (gl En (e' : Int)) 0)), .ex (.slice (A5) (vN) (vN)), .ex (.slice ((rg rs3 (e' : Int)).a) ((rg rs3 (e' : Int)).n) ((rg rs3 (e' : Int)).c)), .ex (.pointer (ptrAt ((rg rs3 (e' : Int)).a) ((0 : Int)).toNat)), .ex (.int .i64 (gi (gl En (e' : Int)) ((0 : Int)))), .ex (.pointer (ptrAt (A5) (gi (gl En (e' : Int)) ((0 : Int))).toNat)), .ex (.slice ((rg (rs5) (gi (gl En (e' : Int)) ((0 : Int)))).a) ((rg (rs5) (gi (gl En (e' : Int)) ((0 : Int)))).n) ((rg (rs5) (gi (gl En (e' : Int)) ((0 : Int)))).c)), .ex (.slice ((rg rs3 (e' : Int)).a) ((rg rs3 (e' : Int)).n) ((rg rs3 (e' : Int)).c)), .ex (.pointer (ptrAt ((rg rs3 (e' : Int)).a) ((1 : Int)).toNat)), .ex (.int .i64 (gi (gl En (e' : Int)) ((1 : Int)))), .pr (fun v w' => ∃ A1, v = .slice A1 1 1 ∧ RdI w' A1 1 [gi (gl En (e' : Int)) 1]), .pr (fun v w' => ∃ A1 c1, v = .slice A1 ((rg rs5 (gi (gl En (e' : Int)) 0)).n + 1) c1 ∧ St w w' ((mat 28 2 A5 vN vN rs5 (bagP vN (arcs En e')) ++ k16).set ((gi (gl En (e' : Int)) 0).toNat + 1) (CkI 2 A1 ((rg rs5 (gi (gl En (e' : Int)) 0)).n + 1) c1 (gl (bagP vN (arcs En e')) (gi (gl En (e' : Int)) 0) ++ [gi (gl En (e' : Int)) 1]))) ∧ RowsI w' A16 m rs3 En), .ex (.pointer (ptrAt (A5) (gi (gl En (e' : Int)) 0).toNat)), .pr (fun _ w' => ∃ s : SlV, St w w' (mat 28 2 A5 vN vN (rs5.set (gi (gl En (e' : Int)) 0).toNat s) (bagP vN ((arcs En e') ++ [(gi (gl En (e' : Int)) 0, gi (gl En (e' : Int)) 1)])) ++ k16))] (by kernel_rfl) (by kernel_rfl) (lx (lx (lx (lx (lx (lx (lx (lx (lx (lx (lx (lx (lx (List.forall_mem_cons.2 ⟨Yd.lasts_pr (fun v w w' h hb => by obtain ⟨A1, hv, hT⟩ := h; exact ⟨A1, hv, hT.later hb⟩), (List.forall_mem_cons.2 ⟨Yd.lasts_pr (fun v w w' h hb => by obtain ⟨A1, c1, hv, hT, hE⟩ := h; exact ⟨A1, c1, hv, hT.later hb, hE.later hb⟩), (lx (List.forall_mem_cons.2 ⟨Yd.lasts_pr (fun v w w' h hb => by obtain ⟨s, hT⟩ := h; exact ⟨s, hT.later hb⟩), (fun _ h => by cases h)⟩))⟩)⟩)))))))))))))) ⟨?_, ?_, ?_, ?_, ?_, ?_, ?_, ?_, ?_, ?_, ?_, ?_, ?_, ?_, ?_, ?_, ?_, trivial⟩ ?_
   ·intro e1 w1 cc hlo hhi hb0 hp hun hq
    show Ops _ _ _ _ _ _ _
    refine Ops.ms rfl rfl rfl (Ops.n (n0 rfl (by exact rfl)))
   ·intro e1 w1 cc hlo hhi hb0 hp hun hq
    show Ops _ _ _ _ _ _ _
    refine Ops.ms rfl rfl rfl (Ops.n (n0 rfl (by exact rfl)))
   ·intro e1 w1 cc hlo hhi hb0 hp hun hq
    show Ops _ _ _ _ _ _ _
    have hE : RdI w1 (rg rs3 (e' : Int)).a (rg rs3 (e' : Int)).n (gl En (e' : Int)) := by { have hhi := le_of_hi hhi (b := 1) (by kernel_rfl); rcases (show cc = 0 ∨ cc = 1 by omega) with h | h; { exact (hEnR (hS5.later (hb0 h))).at_ (i := (e' : Int)) (by omega) h1 }; { subst h; obtain ⟨A0, c0, _, _, hE1⟩ := hq 14 _ _ (by kernel_rfl) (by kernel_rfl) (by kernel_rfl) rfl rfl (by kernel_rfl); exact hE1.at_ (i := (e' : Int)) (by omega) h1 } }
    refine Ops.idx hE.2 rfl rfl rfl (by omega) (by omega) (Ops.n (n0 rfl (by exact rfl)))
   ·intro e1 w1 cc hlo hhi hb0 hp hun hq
    show Ops _ _ _ _ _ _ _
    have hE : RdI w1 (rg rs3 (e' : Int)).a (rg rs3 (e' : Int)).n (gl En (e' : Int)) := by { have hhi := le_of_hi hhi (b := 1) (by kernel_rfl); rcases (show cc = 0 ∨ cc = 1 by omega) with h | h; { exact (hEnR (hS5.later (hb0 h))).at_ (i := (e' : Int)) (by omega) h1 }; { subst h; obtain ⟨A0, c0, _, _, hE1⟩ := hq 14 _ _ (by kernel_rfl) (by kernel_rfl) (by kernel_rfl) rfl rfl (by kernel_rfl); exact hE1.at_ (i := (e' : Int)) (by omega) h1 } }
    refine Ops.ld_int hE rfl (by omega) rfl rfl (Ops.n (n0 rfl (by exact rfl)))
   ·intro e1 w1 cc hlo hhi hb0 hp hun hq
    show Ops _ _ _ _ _ _ _
    refine Ops.ms rfl rfl rfl (Ops.n (n0 rfl (by exact rfl)))
   ·intro e1 w1 cc hlo hhi hb0 hp hun hq
    show Ops _ _ _ _ _ _ _
    refine Ops.ms rfl rfl rfl (Ops.n (n0 rfl (by exact rfl)))
   ·intro e1 w1 cc hlo hhi hb0 hp hun hq
    show Ops _ _ _ _ _ _ _
    obtain rfl := cc_of hlo hhi (b := 0) (by kernel_rfl) (by kernel_rfl); clear hlo hhi
    have hb := hb0 rfl
    refine Ops.idx (hrow5.later hb).2 rfl rfl rfl (by omega) (by omega) (Ops.n (n0 rfl (by exact rfl)))
   ·intro e1 w1 cc hlo hhi hb0 hp hun hq
    show Ops _ _ _ _ _ _ _
    obtain rfl := cc_of hlo hhi (b := 0) (by kernel_rfl) (by kernel_rfl); clear hlo hhi
    have hb := hb0 rfl
    refine Ops.ld_int (hrow5.later hb) rfl (by omega) rfl rfl (Ops.n (n0 rfl (by exact rfl)))
   ·intro e1 w1 cc hlo hhi hb0 hp hun hq
    show Ops _ _ _ _ _ _ _
    obtain rfl := cc_of hlo hhi (b := 0) (by kernel_rfl) (by kernel_rfl); clear hlo hhi
    have hb := hb0 rfl
    refine Ops.idx (hM5.top.later hb).2 rfl rfl rfl (by omega) (by omega) (Ops.n (n0 rfl (by exact rfl)))
   ·intro e1 w1 cc hlo hhi hb0 hp hun hq
    show Ops _ _ _ _ _ _ _
    obtain rfl := cc_of hlo hhi (b := 0) (by kernel_rfl) (by kernel_rfl); clear hlo hhi
    have hb := hb0 rfl
    refine Ops.ld_sl (hM5.top.later hb) rfl (by omega) rfl rfl (Ops.n (n0 rfl (by exact rfl)))
   ·intro e1 w1 cc hlo hhi hb0 hp hun hq
    show Ops _ _ _ _ _ _ _
    refine Ops.ms rfl rfl rfl (Ops.n (n0 rfl (by exact rfl)))
   ·intro e1 w1 cc hlo hhi hb0 hp hun hq
    show Ops _ _ _ _ _ _ _
    obtain rfl := cc_of hlo hhi (b := 0) (by kernel_rfl) (by kernel_rfl); clear hlo hhi
    have hb := hb0 rfl
    refine Ops.idx (hrow5.later hb).2 rfl rfl rfl (by omega) (by omega) (Ops.n (n0 rfl (by exact rfl)))
   ·intro e1 w1 cc hlo hhi hb0 hp hun hq
    show Ops _ _ _ _ _ _ _
    obtain rfl := cc_of hlo hhi (b := 0) (by kernel_rfl) (by kernel_rfl); clear hlo hhi
    have hb := hb0 rfl
    refine Ops.ld_int (hrow5.later hb) rfl (by omega) rfl rfl (Ops.n (n0 rfl (by exact rfl)))
   ·intro e1 w1 cc hlo hhi hb0 hp hun hq
    show Ops _ _ _ _ _ _ _
    refine Ops.bs1I (St.refl _) rfl rfl rfl ?_
    intro A1 w9 hst
    refine Ops.n ?_
    exact AfterN.dn rfl hst.below ⟨A1, rfl, hst.rdI 0 rfl⟩
   ·intro e1 w1 cc hlo hhi hb0 hp hun hq
    show Ops _ _ _ _ _ _ _
    obtain rfl := cc_of hlo hhi (b := 0) (by kernel_rfl) (by kernel_rfl); clear hlo hhi
    have hb := hb0 rfl
    obtain ⟨A0, h38, hT0⟩ := (hp 13 _ _ (by kernel_rfl) rfl rfl (by kernel_rfl))
    refine Ops.appI ((gi (gl En (e' : Int)) 0).toNat + 1) (hS5.later hb) hget5 hT0 rfl (by exact h38) rfl (by omega) (by omega) rfl ?_
    intro A1 c1 w9 hst
    refine Ops.n ?_
    exact AfterT.dn rfl ⟨A1, c1, rfl, hst, hEnK (hst.setTail (by rw [mat_len (by omega)]; omega))⟩
   ·intro e1 w1 cc hlo hhi hb0 hp hun hq
    show Ops _ _ _ _ _ _ _
    obtain rfl := cc_of hlo hhi (b := 1) (by kernel_rfl) (by kernel_rfl); clear hlo hhi
    have hph := hp 14 _ _ (by kernel_rfl) rfl rfl (by kernel_rfl)
    obtain ⟨A1, c1, h39, hT, _⟩ := hph
    have hTop := hT.rdR 0 rfl
    refine Ops.idx (hTop).2 rfl rfl rfl (by omega) (by omega) (Ops.n (n0 rfl (by exact rfl)))
   ·intro e1 w1 cc hlo hhi hb0 hp hun hq
    show Ops _ _ _ _ _ _ _
    obtain rfl := cc_of hlo hhi (b := 1) (by kernel_rfl) (by kernel_rfl); clear hlo hhi
    have hph := hp 14 _ _ (by kernel_rfl) rfl rfl (by kernel_rfl)
    obtain ⟨A1, c1, h39, hT, _⟩ := hph
    have hTop := hT.rdR 0 rfl
    refine Ops.st_sl 0 hT rfl rfl (by exact h39) hlt5 ?_
    intro w9 hst
    refine Ops.n ?_
    exact AfterT.st rfl ⟨⟨A1, _, c1⟩, by rw [bagP_snoc vN (arcs En e') (gi (gl En (e' : Int)) 0, gi (gl En (e' : Int)) 1), ← mat_updk (by omega) (by omega)]; exact hst⟩
   intro u w6 _ hu
   obtain ⟨s6, hS6⟩ := hu 16 _ rfl (by kernel_rfl)
   generalize hrs6 : rs5.set (gi (gl En (e' : Int)) 0).toNat s6 = rs6 at *
   have hrl66 : rs6.length = vN := by rw [← hrs6, List.length_set]; exact hrl
   have hbl6 := bagP_len vN (arcs En e' ++ [(gi (gl En (e' : Int)) 0, gi (gl En (e' : Int)) 1)])
   have hM6 := hS6.rowsI hbl6
   have hrn6 := hM6.rowLen htw.2.1 htw.2.2
   have hrl6 := bagP_row _ hps2 (gi (gl En (e' : Int)) 1) htw.2.1
   have hlt6 : (gi (gl En (e' : Int)) 1).toNat < vN := by omega
   have hrow6 := (hEnR hS6).at_ (i := (e' : Int)) (by omega) h1
   have hget6 : (mat 28 2 A5 vN vN rs6 (bagP vN (arcs En e' ++ [(gi (gl En (e' : Int)) 0, gi (gl En (e' : Int)) 1)])) ++ k16)[(gi (gl En (e' : Int)) 1).toNat + 1]? = some (CkI 2 (rg rs6 (gi (gl En (e' : Int)) 1)).a (rg rs6 (gi (gl En (e' : Int)) 1)).n (rg rs6 (gi (gl En (e' : Int)) 1)).c (gl (bagP vN (arcs En e' ++ [(gi (gl En (e' : Int)) 0, gi (gl En (e' : Int)) 1)])) (gi (gl En (e' : Int)) 1))) := by
    have := mat_get (t1 := 28) (t2 := 2) (A := A5) (n := vN) (c := vN) (rs := rs6) (xss := bagP vN (arcs En e' ++ [(gi (gl En (e' : Int)) 0, gi (gl En (e' : Int)) 1)])) (pre := []) (ks := k16) (i := (gi (gl En (e' : Int)) 1).toNat) (by omega) (by omega)
    rw [show ([] : List Ck).length + 1 + (gi (gl En (e' : Int)) 1).toNat = (gi (gl En (e' : Int)) 1).toNat + 1 by simp; omega] at this
    exact this
   refine tQ ?_
   refine Cd.drawN [14, 16] [.ex (.slice (A5) (vN) (vN)), .ex (.slice ((rg rs3 (e' : Int)).a) ((rg rs3 (e' : Int)).n) ((rg rs3 (e' : Int)).c)), .ex (.pointer (ptrAt (rg rs3 (e' : Int)).a (1 : Int).toNat)), .ex (.int .i64 (gi (gl En (e' : Int)) 1)), .ex (.slice (A5) (vN) (vN)), .ex (.slice ((rg rs3 (e' : Int)).a) ((rg rs3 (e' : Int)).n) ((rg rs3 (e' : Int)).c)), .ex (.pointer (ptrAt ((rg rs3 (e' : Int)).a) ((1 : Int)).toNat)), .ex (.int .i64 (gi (gl En (e' : Int)) ((1 : Int)))), .ex (.pointer (ptrAt (A5) (gi (gl En (e' : Int)) ((1 : Int))).toNat)), .ex (.slice ((rg (rs6) (gi (gl En (e' : Int)) ((1 : Int)))).a) ((rg (rs6) (gi (gl En (e' : Int)) ((1 : Int)))).n) ((rg (rs6) (gi (gl En (e' : Int)) ((1 : Int)))).c)), .ex (.slice ((rg rs3 (e' : Int)).a) ((rg rs3 (e' : Int)).n) ((rg rs3 (e' : Int)).c)), .ex (.pointer (ptrAt ((rg rs3 (e' : Int)).a) ((0 : Int)).toNat)), .ex (.int .i64 (gi (gl En (e' : Int)) ((0 : Int)))), .pr (fun v w' => ∃ A1, v = .slice A1 1 1 ∧ RdI w' A1 1 [gi (gl En (e' : Int)) 0]), .pr (fun v w' => ∃ A1 c1, v = .slice A1 ((rg rs6 (gi (gl En (e' : Int)) 1)).n + 1) c1 ∧ St w w' ((mat 28 2 A5 vN vN rs6 (bagP vN (arcs En e' ++ [(gi (gl En (e' : Int)) 0, gi (gl En (e' : Int)) 1)])) ++ k16).set ((gi (gl En (e' : Int)) 1).toNat + 1) (CkI 2 A1 ((rg rs6 (gi (gl En (e' : Int)) 1)).n + 1) c1 (gl (bagP vN (arcs En e' ++ [(gi (gl En (e' : Int)) 0, gi (gl En (e' : Int)) 1)])) (gi (gl En (e' : Int)) 1) ++ [gi (gl En (e' : Int)) 0]))) ∧ RowsI w' A16 m rs3 En), .ex (.pointer (ptrAt (A5) (gi (gl En (e' : Int)) 1).toNat)), .pr (fun _ w' => ∃ s : SlV, St w w' (mat 28 2 A5 vN vN (rs6.set (gi (gl En (e' : Int)) 1).toNat s) (bagP vN ((arcs En e' ++ [(gi (gl En (e' : Int)) 0, gi (gl En (e' : Int)) 1)]) ++ [(gi (gl En (e' : Int)) 1, gi (gl En (e' : Int)) 0)])) ++ k16))] (by kernel_rfl) (by kernel_rfl) (lx (lx (lx (lx (lx (lx (lx (lx (lx (lx (lx (lx (lx (List.forall_mem_cons.2 ⟨Yd.lasts_pr (fun v w w' h hb => by obtain ⟨A1, hv, hT⟩ := h; exact ⟨A1, hv, hT.later hb⟩), (List.forall_mem_cons.2 ⟨Yd.lasts_pr (fun v w w' h hb => by obtain ⟨A1, c1, hv, hT, hE⟩ := h; exact ⟨A1, c1, hv, hT.later hb, hE.later hb⟩), (lx (List.forall_mem_cons.2 ⟨Yd.lasts_pr (fun v w w' h hb => by obtain ⟨s, hT⟩ := h; exact ⟨s, hT.later hb⟩), (fun _ h => by cases h)⟩))⟩)⟩)))))))))))))) ⟨?_, ?_, ?_, ?_, ?_, ?_, ?_, ?_, ?_, ?_, ?_, ?_, ?_, ?_, ?_, ?_, ?_, trivial⟩ ?_
   ·intro e1 w1 cc hlo hhi hb0 hp hun hq
    show Ops _ _ _ _ _ _ _
    refine Ops.ms rfl rfl rfl (Ops.n (n0 rfl (by exact rfl)))
   ·intro e1 w1 cc hlo hhi hb0 hp hun hq
    show Ops _ _ _ _ _ _ _
    refine Ops.ms rfl rfl rfl (Ops.n (n0 rfl (by exact rfl)))
   ·intro e1 w1 cc hlo hhi hb0 hp hun hq
    show Ops _ _ _ _ _ _ _
    have hE : RdI w1 (rg rs3 (e' : Int)).a (rg rs3 (e' : Int)).n (gl En (e' : Int)) := by { have hhi := le_of_hi hhi (b := 1) (by kernel_rfl); rcases (show cc = 0 ∨ cc = 1 by omega) with h | h; { exact (hEnR (hS6.later (hb0 h))).at_ (i := (e' : Int)) (by omega) h1 }; { subst h; obtain ⟨A0, c0, _, _, hE1⟩ := hq 14 _ _ (by kernel_rfl) (by kernel_rfl) (by kernel_rfl) rfl rfl (by kernel_rfl); exact hE1.at_ (i := (e' : Int)) (by omega) h1 } }
    refine Ops.idx hE.2 rfl rfl rfl (by omega) (by omega) (Ops.n (n0 rfl (by exact rfl)))
   ·intro e1 w1 cc hlo hhi hb0 hp hun hq
    show Ops _ _ _ _ _ _ _
    have hE : RdI w1 (rg rs3 (e' : Int)).a (rg rs3 (e' : Int)).n (gl En (e' : Int)) := by { have hhi := le_of_hi hhi (b := 1) (by kernel_rfl); rcases (show cc = 0 ∨ cc = 1 by omega) with h | h; { exact (hEnR (hS6.later (hb0 h))).at_ (i := (e' : Int)) (by omega) h1 }; { subst h; obtain ⟨A0, c0, _, _, hE1⟩ := hq 14 _ _ (by kernel_rfl) (by kernel_rfl) (by kernel_rfl) rfl rfl (by kernel_rfl); exact hE1.at_ (i := (e' : Int)) (by omega) h1 } }
    refine Ops.ld_int hE rfl (by omega) rfl rfl (Ops.n (n0 rfl (by exact rfl)))
   ·intro e1 w1 cc hlo hhi hb0 hp hun hq
    show Ops _ _ _ _ _ _ _
    refine Ops.ms rfl rfl rfl (Ops.n (n0 rfl (by exact rfl)))
   ·intro e1 w1 cc hlo hhi hb0 hp hun hq
    show Ops _ _ _ _ _ _ _
    refine Ops.ms rfl rfl rfl (Ops.n (n0 rfl (by exact rfl)))
   ·intro e1 w1 cc hlo hhi hb0 hp hun hq
    show Ops _ _ _ _ _ _ _
    obtain rfl := cc_of hlo hhi (b := 0) (by kernel_rfl) (by kernel_rfl); clear hlo hhi
    have hb := hb0 rfl
    refine Ops.idx (hrow6.later hb).2 rfl rfl rfl (by omega) (by omega) (Ops.n (n0 rfl (by exact rfl)))
   ·intro e1 w1 cc hlo hhi hb0 hp hun hq
    show Ops _ _ _ _ _ _ _
    obtain rfl := cc_of hlo hhi (b := 0) (by kernel_rfl) (by kernel_rfl); clear hlo hhi
    have hb := hb0 rfl
    refine Ops.ld_int (hrow6.later hb) rfl (by omega) rfl rfl (Ops.n (n0 rfl (by exact rfl)))
   ·intro e1 w1 cc hlo hhi hb0 hp hun hq
    show Ops _ _ _ _ _ _ _
    obtain rfl := cc_of hlo hhi (b := 0) (by kernel_rfl) (by kernel_rfl); clear hlo hhi
    have hb := hb0 rfl
    refine Ops.idx (hM6.top.later hb).2 rfl rfl rfl (by omega) (by omega) (Ops.n (n0 rfl (by exact rfl)))
   ·intro e1 w1 cc hlo hhi hb0 hp hun hq
    show Ops _ _ _ _ _ _ _
    obtain rfl := cc_of hlo hhi (b := 0) (by kernel_rfl) (by kernel_rfl); clear hlo hhi
    have hb := hb0 rfl
    refine Ops.ld_sl (hM6.top.later hb) rfl (by omega) rfl rfl (Ops.n (n0 rfl (by exact rfl)))
   ·intro e1 w1 cc hlo hhi hb0 hp hun hq
    show Ops _ _ _ _ _ _ _
    refine Ops.ms rfl rfl rfl (Ops.n (n0 rfl (by exact rfl)))
   ·intro e1 w1 cc hlo hhi hb0 hp hun hq
    show Ops _ _ _ _ _ _ _
    obtain rfl := cc_of hlo hhi (b := 0) (by kernel_rfl) (by kernel_rfl); clear hlo hhi
    have hb := hb0 rfl
    refine Ops.idx (hrow6.later hb).2 rfl rfl rfl (by omega) (by omega) (Ops.n (n0 rfl (by exact rfl)))
   ·intro e1 w1 cc hlo hhi hb0 hp hun hq
    show Ops _ _ _ _ _ _ _
    obtain rfl := cc_of hlo hhi (b := 0) (by kernel_rfl) (by kernel_rfl); clear hlo hhi
    have hb := hb0 rfl
    refine Ops.ld_int (hrow6.later hb) rfl (by omega) rfl rfl (Ops.n (n0 rfl (by exact rfl)))
   ·intro e1 w1 cc hlo hhi hb0 hp hun hq
    show Ops _ _ _ _ _ _ _
    refine Ops.bs1I (St.refl _) rfl rfl rfl ?_
    intro A1 w9 hst
    refine Ops.n ?_
    exact AfterN.dn rfl hst.below ⟨A1, rfl, hst.rdI 0 rfl⟩
   ·intro e1 w1 cc hlo hhi hb0 hp hun hq
    show Ops _ _ _ _ _ _ _
    obtain rfl := cc_of hlo hhi (b := 0) (by kernel_rfl) (by kernel_rfl); clear hlo hhi
    have hb := hb0 rfl
    obtain ⟨A0, h54, hT0⟩ := (hp 13 _ _ (by kernel_rfl) rfl rfl (by kernel_rfl))
    refine Ops.appI ((gi (gl En (e' : Int)) 1).toNat + 1) (hS6.later hb) hget6 hT0 rfl (by exact h54) rfl (by omega) (by omega) rfl ?_
    intro A1 c1 w9 hst
    refine Ops.n ?_
    exact AfterT.dn rfl ⟨A1, c1, rfl, hst, hEnK (hst.setTail (by rw [mat_len (by omega)]; omega))⟩
   ·intro e1 w1 cc hlo hhi hb0 hp hun hq
    show Ops _ _ _ _ _ _ _
    obtain rfl := cc_of hlo hhi (b := 1) (by kernel_rfl) (by kernel_rfl); clear hlo hhi
    have hph := hp 14 _ _ (by kernel_rfl) rfl rfl (by kernel_rfl)
    obtain ⟨A1, c1, h39, hT, _⟩ := hph
    have hTop := hT.rdR 0 rfl
    refine Ops.idx (hTop).2 rfl rfl rfl (by omega) (by omega) (Ops.n (n0 rfl (by exact rfl)))
   ·intro e1 w1 cc hlo hhi hb0 hp hun hq
    show Ops _ _ _ _ _ _ _
    obtain rfl := cc_of hlo hhi (b := 1) (by kernel_rfl) (by kernel_rfl); clear hlo hhi
    have hph := hp 14 _ _ (by kernel_rfl) rfl rfl (by kernel_rfl)
    obtain ⟨A1, c1, h39, hT, _⟩ := hph
    have hTop := hT.rdR 0 rfl
    refine Ops.st_sl 0 hT rfl rfl (by exact h39) hlt6 ?_
    intro w9 hst
    refine Ops.n ?_
    exact AfterT.st rfl ⟨⟨A1, _, c1⟩, by rw [bagP_snoc vN (arcs En e' ++ [(gi (gl En (e' : Int)) 0, gi (gl En (e' : Int)) 1)]) (gi (gl En (e' : Int)) 1, gi (gl En (e' : Int)) 0), ← mat_updk (by omega) (by omega)]; exact hst⟩
   intro u7 w7 _ hu7
   obtain ⟨s7, hS7⟩ := hu7 16 _ rfl (by kernel_rfl)
   refine blockQ_n (tQ (Cd.region (Ops.add rfl rfl rfl (by omega) (Ops.mi rfl rfl rfl (Ops.n (tQ ?_))))))
   refine ⟨(e' + 1, rs6.set (gi (gl En (e' : Int)) 1).toNat s7), by show m - (e' + 1) < m - e'; omega, ⟨rfl, rfl, rfl, rfl, trivial⟩, ?_, he', by show (rs6.set _ _).length = vN; rw [List.length_set]; exact hrl66⟩
   show St w w7 (mat _ _ A5 vN vN _ (bagP vN (arcs En (e' + 1))) ++ k16)
   rw [hst2]
   exact hS7
  ·have hst2 : arcs En (e' + 1) = arcs En e' := by
    show (if _ then _ else _) = _
    rw [if_neg (by omega)]
   refine Cd.skip (blockQ_n (tQ (Cd.region (Ops.add rfl rfl rfl (by omega) (Ops.mi rfl rfl rfl (Ops.n (tQ ?_)))))))
   exact ⟨(e' + 1, rs5), by show m - (e' + 1) < m - e'; omega, ⟨rfl, rfl, rfl, rfl, trivial⟩, by show St w w5 (mat _ _ A5 vN vN rs5 (bagP vN (arcs En (e' + 1))) ++ k16); rw [hst2]; exact hS5, he', hrl⟩
 ·refine Cd.exit (thenQ_x (thenQ_x (blockQ_x (tQ (Cd.seq (Cd.seq (Cd.region (Ops.ms rfl rfl rfl (Ops.len rfl rfl ?_)))))))))
  refine Ops.mi rfl rfl rfl (Ops.n (tQ (Cd.block ?_)))
  have hem : e' = m := by omega
  subst hem
  have hlen : ∀ v : Nat, v < vN → (gl (bagP vN (arcs En e')) (v : Int)).length ≤ 2 * e' := fun v hv => Nat.le_trans (bagP_row _ (fun p hp => (harc e' p hp).1) (v : Int) (by omega)) (hal e')
  have hBl := bagP_len vN (arcs En e')
  have hfin : endsP vN (arcs En e') = mixL (bagP vN (arcs En e')) vN := by
   have := mixL_all (bagP vN (arcs En e'))
   rw [hBl] at this
   rw [this]; rfl
  rw [hfin]
  generalize hB : bagP vN (arcs En e') = B at *
  refine Cd.loop (α := Nat × List SlV) (fun z => [(5, .slice A5 vN vN), (59, .int .i64 (vN : Int)), (60, .int .i64 (z.1 : Int))]) (fun z w' => St w w' (mat 28 2 A5 vN vN z.2 (mixL B z.1) ++ k16) ∧ z.1 ≤ vN ∧ z.2.length = vN) (fun z => vN - z.1) (0, rs5) ⟨rfl, rfl, rfl, trivial⟩ ⟨by rw [mixL_zero]; exact hS5, Nat.zero_le _, hrl⟩ ?_
  rintro ⟨v', rs6⟩ e w6 ⟨hS6, hv', hrl6⟩
  dsimp only at hS6 hv' hrl6 ⊢
  refine Cd.seq (Cd.region (Ops.lss rfl rfl rfl (Ops.n (tQ (Cd.seq ?_)))))
  refine Cd.cond_p _ rfl (fun h2 => ?_) (fun h2 => ?_)
  ·have hv2 : v' < vN := by omega
   have hml := mixL_len B v'
   have hM6 := hS6.rowsI (by omega)
   have hrn := hM6.rowLen (k := (v' : Int)) (by omega) h2
   have hmg := mixL_get (B := B) (e := v') (by omega)
   have hstep := mixL_step (B := B) (e := v') (by omega)
   have hq := hlen v' hv2
   rw [hmg] at hrn
   have hget : (mat 28 2 A5 vN vN rs6 (mixL B v') ++ k16)[v' + 1]? = some (CkI 2 (rg rs6 (v' : Int)).a (rg rs6 (v' : Int)).n (rg rs6 (v' : Int)).c (gl B (v' : Int))) := by
    have := mat_get (t1 := 28) (t2 := 2) (A := A5) (n := vN) (c := vN) (rs := rs6) (xss := mixL B v') (pre := []) (ks := k16) (i := v') (by omega) (by omega)
    rw [show ([] : List Ck).length + 1 + v' = v' + 1 by simp; omega] at this
    rw [← hmg]
    exact this
   have hlt1 : v' + 1 < (mat 28 2 A5 vN vN rs6 (mixL B v') ++ k16).length := (List.getElem?_eq_some_iff.1 hget).1
   refine Cd.skip (tQ (Cd.seq (Cd.block (Cd.seq (Cd.region (Ops.mi rfl rfl rfl (Ops.mi rfl rfl rfl (Ops.n (tQ ?_)))))))))
   refine Cd.seq (Cd.region (Ops.ms rfl rfl rfl (Ops.mi rfl rfl rfl (Ops.idx hM6.top.2 rfl rfl rfl (by omega) h2 (Ops.ld_sl hM6.top rfl (by omega) rfl rfl (Ops.call (sort0_c (v' + 1) hS6 hget (by omega)) rfl rfl rfl ?_))))))
   rintro _ w7 ⟨rfl, hS7⟩
   have hT7 := hS7.rdR 0 rfl
   refine Ops.n (tQ (Cd.region (Ops.ms rfl rfl rfl (Ops.mi rfl rfl rfl (Ops.ms rfl rfl rfl (Ops.mi rfl rfl rfl (Ops.idx hT7.2 rfl rfl rfl (by omega) h2 (Ops.ld_sl hT7 rfl (by omega) rfl rfl ?_))))))))
   refine Ops.call (compact0_c (v' + 1) hS7 (by rw [List.getElem?_set, if_pos rfl, if_pos hlt1]) (by omega)) rfl rfl rfl ?_
   rintro _ w8 ⟨rfl, hS8⟩
   rw [List.set_set] at hS8
   have hT8 := hS8.rdR 0 rfl
   refine Ops.idx hT8.2 rfl rfl rfl (by omega) h2 (Ops.st_sl 0 hS8 rfl rfl rfl (by omega) ?_)
   intro w9 hS9
   refine Ops.n (blockQ_n (tQ (Cd.region (Ops.add rfl rfl rfl (by omega) (Ops.mi rfl rfl rfl (Ops.n (tQ ?_)))))))
   refine ⟨(v' + 1, rs6.set v' ⟨(rg rs6 (v' : Int)).a, (cmpL (srt (gl B (v' : Int)))).length, (rg rs6 (v' : Int)).c⟩), by show vN - (v' + 1) < vN - v'; omega, ⟨rfl, rfl, rfl, trivial⟩, ?_, hv2, by show (rs6.set _ _).length = vN; rw [List.length_set]; exact hrl6⟩
   rw [← hstep, ← mat_updk (by omega) (by omega)]
   exact hS9
  ·refine Cd.exit (thenQ_x (thenQ_x (blockQ_x (tQ (Cd.seq (Cd.region (Ops.ms rfl rfl rfl (Ops.ms rfl rfl rfl (Ops.n ?_)))))))))
   refine tQ (Cd.ret (ret1_s rfl ?_))
   have hem : v' = vN := by omega
   subst hem
   refine ⟨A5, rs6, rfl, hrl6, ?_⟩
   rw [List.append_nil]
   exact hS6.sub (List.sublist_append_left _ _)

def nboL (xss : List (List Int)) : List (List Int) := if Grph xss then nbL xss else []
theorem nbo_bd (xss : List (List Int)) : (nboL xss).length ≤ 1000 ∧ ∀ x ∈ nboL xss, x.length ≤ 1000 := by
 unfold nboL
 split
 ·rename_i hG
  have hM := hG.1
  have hsm := nb_small hM
  refine ⟨by rw [nbL_len]; omega, fun x hx => ?_⟩
  obtain ⟨k, hk, rfl⟩ := List.mem_iff_getElem.1 hx
  rw [← gl_mem hk]
  have h1 := endsP_row (m := vertsN xss) (ps := arcs (endsL xss) (edgesN xss)) (fun p hp => (arcs_in (fun e => endsL_mem hM e (by omega)) _ p hp).1) (k : Int) (by omega)
  have h2 := arcs_len (endsL xss) (edgesN xss)
  show (gl (endsP _ _) _).length ≤ _
  omega
 ·exact ⟨Nat.zero_le _, fun x hx => by cases hx⟩

theorem implNeighboursOf_c (A : Option Addr) (n c : Nat) (rs : List SlV) (xss : List (List Int)) (w : World) (hR : RowsI w A n rs xss) (hn : n ≤ c) (hc : c ≤ 9223372036854775807) :
  Ret Tryz.prog 18 [.agg #[.slice A n c]] w (AnsSS (nboL xss) (petrieK xss) w) := by
 have hl := hR.len
 refine Ret.of_cd Tryz.func18 rfl Tryz.ntmps18 rfl (post2 rfl) (Cd.seq (Cd.region (Ops.box1 (St.refl w) rfl rfl ?_)))
 intro Ab w1 hS1
 refine Ops.ms rfl rfl rfl (Ops.mi rfl rfl rfl (Ops.n (tQ (Cd.seq (Cd.seq (Cd.region (Ops.ld_agg 0 (hS1.rd 0 rfl) rfl rfl rfl (Ops.call (isGraphed_c A n c rs xss _ (hS1.oldRows hR) hn hc) rfl rfl rfl ?_))))))))
 rintro _ w2 ⟨rfl, hst⟩
 have hS2 := hS1.later hst.below
 first | refine Ops.not_p rfl rfl ?_ | refine Ops.not rfl rfl ?_
 refine Ops.n (tQ ?_)
 refine Cd.cond_p _ rfl (fun h => ?_) (fun h => ?_)
 ·refine Cd.seq (Cd.region (Ops.ms rfl rfl rfl (Ops.mi rfl rfl rfl (Ops.n (tQ (Cd.ret (thenQ_r (ret2_si rfl rfl ?_))))))))
  rw [petrieK, if_neg h, nboL, if_neg h]
  exact AnsSS.none hS2
 ·have hG : Grph xss := Classical.not_not.1 h
  refine Cd.skip (tQ (Cd.seq (Cd.region (Ops.ld_agg 0 (hS2.rd 0 rfl) rfl rfl rfl (Ops.call (neighboursOf_c A n c rs xss _ (hS2.oldRows hR) hG) rfl rfl rfl ?_)))))
  rintro _ w3 ⟨A3, rs3, rfl, hrl, hst⟩
  have hS3 := hS2.none.call hst
  refine Ops.ms rfl rfl rfl (Ops.mi rfl rfl rfl (Ops.n (tQ (Cd.ret (ret2_si rfl rfl ?_)))))
  rw [petrieK, if_pos hG, nboL, if_pos hG]
  refine ⟨A3, vertsN xss, rs3, by rw [nbL_len], by rw [nbL_len]; exact hrl, ?_⟩
  rw [nbL_len]
  rwa [List.append_nil] at hS3

end Go.Proofs.YtbhnfehcpnnjcaaGreatDoor.Vc
/-
 The walks of the lengths of holes and zigzags on both sides. Conditions: as each states them.
-/
namespace Go.Proofs.YtbhnfehcpnnjcaaGreatDoor.Vc
open Go.RowKit

def holeL (xss : List (List Int)) (j : Int) : List Int := if holeK xss j = 0 then wordL xss (holeW (j - 1).toNat) else []
def zigL (xss : List (List Int)) (j : Int) : List Int := if holeK xss j = 0 then wordL xss (zigW j.toNat) else []

end Go.Proofs.YtbhnfehcpnnjcaaGreatDoor.Vc
/-
 The walks of the lengths of a word on both sides. Conditions: as each states them.
-/
namespace Go.Proofs.YtbhnfehcpnnjcaaGreatDoor.Vc
open Go.RowKit
section
variable {P : Program} {N : Nat} {ops : Array Oper} {K : Env → World → Prop} {rest : List Oper} {e : Env} {w : World} {d : Nat} {ty : TypeId} {pos : String} {af : Array Edge}
theorem Ops.fn2 {F : FuncId} {x y : Operand} {v1 v2 : Value} (hx : ev e x = v1) (hy : ev e y = v2) (hb : Nat.blt d N = true) (hK : Ops P N ops K rest (upd e d (.func (.func F) #[] #[v1, v2])) w) :
  Ops P N ops K (⟨some d, .makeFunc (.func F) #[] #[x, y], ty, pos, af, none⟩ :: rest) e w :=
 .val (by simp [execOp, Instr.makeFunc, hx, hy]) hb hK
end

def allIn (lo hi : Int) (xs : List Int) : Prop := ∀ x ∈ xs, lo ≤ x ∧ x ≤ hi
instance (lo hi : Int) (xs : List Int) : Decidable (allIn lo hi xs) := by unfold allIn; exact inferInstance

theorem areWithin1_c (x lo hi : Int) (P1 P2 : Option Addr) (w : World) (h1 : Rd w P1 1 (fun _ => .int .i64 lo)) (h2 : Rd w P2 1 (fun _ => .int .i64 hi)) :
  Ret Tryz.prog 61 [.int .i64 x, .pointer P1, .pointer P2] w (fun v w' => v = .bool (decide (¬ (lo ≤ x ∧ x ≤ hi))) ∧ w' = w) := by
 refine Ret.of_cd Tryz.func61 rfl Tryz.ntmps61 rfl (post1 rfl) (Cd.seq (Cd.region (Ops.mb rfl rfl rfl (Ops.n (tQ (Cd.seq (Cd.region (Ops.mi rfl rfl rfl ?_))))))))
 refine Ops.ld h1 (by exact congrArg Value.pointer (ptrAt_zero P1).symm) (by decide) rfl rfl rfl ?_
 refine Ops.ld h2 (by exact congrArg Value.pointer (ptrAt_zero P2).symm) (by decide) rfl rfl rfl ?_
 refine Ops.call (within_c _ _ _ _) rfl rfl rfl ?_
 rintro _ w ⟨rfl, rfl⟩
 first | refine Ops.not_p rfl rfl ?_ | refine Ops.not rfl rfl ?_
 refine Ops.mb rfl rfl rfl (Ops.n (tQ (Cd.ret (ret1_b rfl ?_))))
 exact ⟨rfl, rfl⟩

theorem IndexFunc_c (A : Option Addr) (n c : Nat) (xs : List Int) (lo hi : Int) (P1 P2 : Option Addr) (w : World) (hR : RdI w A n xs) (hn : n ≤ 9223372036854775807) (h1 : Rd w P1 1 (fun _ => .int .i64 lo)) (h2 : Rd w P2 1 (fun _ => .int .i64 hi)) :
  Ret Tryz.prog 88 [.slice A n c, .func (.func 61) #[] #[.pointer P1, .pointer P2]] w (fun v w' => (∃ i : Int, v = .int .i64 i ∧ (0 ≤ i ↔ ¬ allIn lo hi xs)) ∧ w' = w) := by
 have hxl := hR.1
 refine Ret.of_cd Tryz.func88 rfl Tryz.ntmps88 rfl (post1 rfl) (Cd.seq (Cd.region (Ops.mi rfl rfl rfl (Ops.n (tQ (Cd.seq (Cd.seq (Cd.region (Ops.ms rfl rfl rfl ?_)))))))))
 refine Ops.len rfl rfl (Ops.mi rfl rfl rfl (Ops.n (tQ (Cd.block ?_))))
 refine Cd.loop (α := Nat) (fun k => [(0, .slice A n c), (1, .func (.func 61) #[] #[.pointer P1, .pointer P2]), (7, .int .i64 (n : Int)), (8, .int .i64 (k : Int))]) (fun k w' => w' = w ∧ k ≤ n ∧ ∀ j, j < k → lo ≤ gi xs (j : Nat) ∧ gi xs (j : Nat) ≤ hi) (fun k => n - k) 0 ⟨rfl, rfl, rfl, rfl, trivial⟩ ⟨rfl, Nat.zero_le _, fun j hj => by omega⟩ ?_
 rintro k e w ⟨rfl, hk, hK⟩
 refine Cd.seq (Cd.region (Ops.lss rfl rfl rfl (Ops.n (tQ (Cd.seq ?_)))))
 refine Cd.cond_p _ rfl (fun h3 => ?_) (fun h3 => ?_)
 ·refine Cd.skip (tQ (Cd.seq (Cd.block (Cd.seq (Cd.region (Ops.mi rfl rfl rfl (Ops.mi rfl rfl rfl (Ops.n (tQ ?_)))))))))
  refine Cd.seq (Cd.region (Ops.mv_fn rfl rfl rfl (Ops.ms rfl rfl rfl (Ops.mi rfl rfl rfl (Ops.idx hR.2 rfl rfl rfl (by omega) (by omega) (Ops.ld_int hR rfl (by omega) rfl rfl (Ops.call (areWithin1_c _ lo hi P1 P2 _ h1 h2) rfl rfl rfl ?_)))))))
  rintro _ w ⟨rfl, rfl⟩
  refine Ops.n (tQ ?_)
  refine Cd.cond_p _ rfl (fun h4 => ?_) (fun h4 => ?_)
  ·refine Cd.seq (Cd.region (Ops.mi rfl rfl rfl (Ops.mi rfl rfl rfl (Ops.n (tQ (Cd.ret (blockQ_r (thenQ_r (thenQ_r ?_)))))))))
   refine blockQ_r (thenQ_r (ret1_i rfl ?_))
   exact ⟨⟨(k : Int), rfl, ⟨fun _ ha => h4 (by rw [gi_mem (by omega)]; exact ha _ (List.getElem_mem _)), fun _ => by omega⟩⟩, rfl⟩
  ·refine Cd.skip (blockQ_n (tQ (Cd.region (Ops.add rfl rfl rfl (by omega) (Ops.mi rfl rfl rfl (Ops.n (tQ ?_)))))))
   refine ⟨k + 1, by show n - (k + 1) < n - k; omega, ⟨rfl, rfl, rfl, rfl, trivial⟩, rfl, by omega, fun j hj => ?_⟩
   by_cases ej : j = k
   ·subst ej; exact Classical.not_not.1 h4
   ·exact hK j (by omega)
 ·refine Cd.exit (thenQ_x (thenQ_x (blockQ_x (tQ (Cd.seq (Cd.region (Ops.mi rfl rfl rfl (Ops.n (tQ ?_)))))))))
  refine Cd.ret (ret1_i rfl ?_)
  refine ⟨⟨-1, rfl, ⟨fun h => absurd h (by decide), fun h => absurd (fun x hx => ?_) h⟩⟩, rfl⟩
  obtain ⟨j, hj, rfl⟩ := List.mem_iff_getElem.1 hx
  have := hK j (by omega)
  rwa [gi_mem hj] at this

theorem ContainsFunc_c (A : Option Addr) (n c : Nat) (xs : List Int) (lo hi : Int) (P1 P2 : Option Addr) (w : World) (hR : RdI w A n xs) (hn : n ≤ 9223372036854775807) (h1 : Rd w P1 1 (fun _ => .int .i64 lo)) (h2 : Rd w P2 1 (fun _ => .int .i64 hi)) :
  Ret Tryz.prog 60 [.slice A n c, .func (.func 61) #[] #[.pointer P1, .pointer P2]] w (fun v w' => v = .bool (decide (¬ allIn lo hi xs)) ∧ w' = w) := by
 refine Ret.of_cd Tryz.func60 rfl Tryz.ntmps60 rfl (post1 rfl) (Cd.seq (Cd.region (Ops.mb rfl rfl rfl (Ops.n (tQ (Cd.seq (Cd.region (Ops.ms rfl rfl rfl (Ops.mv_fn rfl rfl rfl ?_)))))))))
 refine Ops.call (IndexFunc_c A n c xs lo hi P1 P2 _ hR hn h1 h2) rfl rfl rfl ?_
 rintro _ w ⟨⟨i, rfl, hi'⟩, rfl⟩
 refine Ops.geq rfl rfl rfl (Ops.mb rfl rfl rfl (Ops.n (tQ (Cd.ret (ret1_b rfl ?_)))))
 exact ⟨congrArg Value.bool (decide_eq_decide.2 hi'), rfl⟩

theorem areWithin_c (A : Option Addr) (n c : Nat) (xs : List Int) (lo hi : Int) (w : World) (hR : RdI w A n xs) (hn : n ≤ 9223372036854775807) :
  Ret Tryz.prog 40 [.slice A n c, .int .i64 lo, .int .i64 hi] w (fun v w' => v = .bool (decide (allIn lo hi xs)) ∧ St w w' []) := by
 refine Ret.of_cd Tryz.func40 rfl Tryz.ntmps40 rfl (post1 rfl) (Cd.seq (Cd.region ?_))
 refine Ops.box (v := .int .i64 lo) (St.refl w) rfl rfl (by show (1 : Nat) ≤ maxLen; simp [maxLen]) ?_
 intro P1 w1 hS1
 have hS1 : St w w1 [Bx 2 1 P1 [.int .i64 lo]] := hS1
 refine Ops.box (v := .int .i64 hi) hS1 rfl rfl (by show (1 : Nat) ≤ maxLen; simp [maxLen]) ?_
 intro P2 w2 hS2
 have hS2 : St w w2 [Bx 2 1 P2 [.int .i64 hi], Bx 2 1 P1 [.int .i64 lo]] := hS2
 refine Ops.mb rfl rfl rfl (Ops.n (tQ (Cd.seq (Cd.region (Ops.ms rfl rfl rfl (Ops.fn2 rfl rfl rfl ?_))))))
 skip
 refine Ops.call (ContainsFunc_c A n c xs lo hi P1 P2 _ (hS2.oldI hR) hn (Rd.one (hS2.rd 1 rfl)) (Rd.one (hS2.rd 0 rfl))) rfl rfl rfl ?_
 rintro _ w2 ⟨rfl, rfl⟩
 first | refine Ops.not_p rfl rfl ?_ | refine Ops.not rfl rfl ?_
 refine Ops.mb rfl rfl rfl (Ops.n (tQ (Cd.ret (ret1_b rfl ?_))))
 exact ⟨by simp, hS2.none⟩

/-- a word of n moves -/
def IsW (n : Nat) (ws : List Int) : Prop := allIn 0 ((n : Int) - 1) ws ∧ ws.length ≤ 64
instance (n : Nat) (ws : List Int) : Decidable (IsW n ws) := by unfold IsW; exact inferInstance

def lowK (xss : List (List Int)) (ws : List Int) : Int := if ¬ Grph xss then 1 else if ¬ IsW xss.length ws then 2 else 0
def lowL (xss : List (List Int)) (ws : List Int) : List Int := if Grph xss ∧ IsW xss.length ws then wordL xss ws else []

end Go.Proofs.YtbhnfehcpnnjcaaGreatDoor.Vc
/-
 Distances in a graph: the search, and the walks of it on both sides. Conditions: as each states them.
-/
namespace Go.Proofs.YtbhnfehcpnnjcaaGreatDoor.Vc
open Go.RowKit

/-- one neighbour met: the distances, and the queue -/
def stepB (wo u : Int) (st : List Int × List Int) (x : Int) : List Int × List Int := if gi st.1 x < 0 ∧ x ≠ wo then (st.1.set x.toNat (gi st.1 u + 1), st.2 ++ [x]) else st
def rowB (wo u : Int) (r : List Int) (st : List Int × List Int) : List Int × List Int := r.foldl (stepB wo u) st
theorem rowB_snoc (wo u : Int) (r : List Int) (x : Int) (st : List Int × List Int) : rowB wo u (r ++ [x]) st = stepB wo u (rowB wo u r st) x := by simp [rowB, List.foldl_append]
def bfsD (next : List (List Int)) (wo : Int) : Nat → Nat → List Int × List Int → List Int × List Int
 | 0, _, st => st
 | f + 1, i, st => if i < st.2.length then bfsD next wo f (i + 1) (rowB wo (gi st.2 (i : Int)) (gl next (gi st.2 (i : Int))) st) else st
theorem bfsD_go {next : List (List Int)} {wo : Int} {f i : Nat} {st : List Int × List Int} (hi : i < st.2.length) (hf : 0 < f) : bfsD next wo f i st = bfsD next wo (f - 1) (i + 1) (rowB wo (gi st.2 (i : Int)) (gl next (gi st.2 (i : Int))) st) := by
 obtain ⟨g, rfl⟩ : ∃ g, f = g + 1 := ⟨f - 1, by omega⟩
 rw [bfsD, if_pos hi]; rfl
theorem bfsD_end {next : List (List Int)} {wo : Int} {f i : Nat} {st : List Int × List Int} (hi : ¬ i < st.2.length) : bfsD next wo f i st = st := by
 cases f with
 | zero => rfl
 | succ f => rw [bfsD, if_neg hi]
def initB (n : Nat) (v : Int) : List Int × List Int := ((List.replicate n (-1)).set v.toNat 0, [v])
def distP (next : List (List Int)) (wo v : Int) : List Int × List Int := bfsD next wo (next.length + 1) 0 (initB next.length v)

structure BF (n : Nat) (st : List Int × List Int) : Prop where
 len : st.1.length = n
 rng : ∀ x ∈ st.2, 0 ≤ x ∧ x < n
 cnt : st.2.length + unl st.1 = n
 val : ∀ x ∈ st.1, -1 ≤ x ∧ x < st.2.length
 pos : ∀ x ∈ st.2, 0 ≤ gi st.1 x
theorem gi_in2 {l : List Int} {x : Int} (h0 : 0 ≤ x) (h1 : x < l.length) : gi l x ∈ l := by
 obtain ⟨k, rfl⟩ : ∃ k : Nat, x = k := ⟨x.toNat, by omega⟩
 exact gi_in (by omega)
theorem gi_setI {l : List Int} {i : Nat} {v : Int} {x : Int} (hi : i < l.length) (hx : 0 ≤ x) : gi (l.set i v) x = if (i : Int) = x then v else gi l x := by
 obtain ⟨k, rfl⟩ : ∃ k : Nat, x = k := ⟨x.toNat, by omega⟩
 simp only [gi, Int.toNat_natCast, List.getD_eq_getElem?_getD, List.getElem?_set]
 by_cases h : i = k
 ·subst h; rw [if_pos rfl, if_pos hi, if_pos rfl]; rfl
 ·rw [if_neg h, if_neg (by omega)]
theorem BF.step {n : Nat} {st : List Int × List Int} (h : BF n st) {wo u x : Int} (hu : u ∈ st.2) (h0 : 0 ≤ x) (h1 : x < n) : BF n (stepB wo u st x) ∧ st.2 <+: (stepB wo u st x).2 := by
 unfold stepB
 split
 ·rename_i hx
  have hlen := h.len
  have hxn : x.toNat < st.1.length := by omega
  have hgu := h.pos u hu
  have hur := h.rng u hu
  have hgu2 := h.val _ (gi_in2 hur.1 (by omega))
  have hunl := unl_set (L := st.1) (x := x) (c := gi st.1 u + 1) h0 (by omega) hx.1 (by omega)
  have hcnt := h.cnt
  refine ⟨⟨by simp [h.len], fun y hy => ?_, by simp; omega, fun y hy => ?_, fun y hy => ?_⟩, List.prefix_append _ _⟩
  ·rcases List.mem_append.1 hy with hy | hy
   ·exact h.rng y hy
   ·simp at hy; subst hy; exact ⟨h0, h1⟩
  ·rw [List.length_append, List.length_singleton]
   rcases List.mem_or_eq_of_mem_set hy with hy | rfl
   ·have := h.val y hy; omega
   ·omega
  ·have hy0 : 0 ≤ y := by
    rcases List.mem_append.1 hy with hy | hy
    ·exact (h.rng y hy).1
    ·simp at hy; omega
   rw [gi_setI hxn hy0]
   split
   ·omega
   ·rename_i hne
    rcases List.mem_append.1 hy with hy | hy
    ·exact h.pos y hy
    ·simp at hy; omega
 ·exact ⟨h, List.prefix_rfl⟩
theorem BF.row {n : Nat} {wo u : Int} (r : List Int) : ∀ {st : List Int × List Int}, BF n st → u ∈ st.2 → (∀ x ∈ r, 0 ≤ x ∧ x < n) → BF n (rowB wo u r st) ∧ st.2 <+: (rowB wo u r st).2 := by
 induction r using snoc_ind with
 | h0 => intro st h _ _; exact ⟨h, List.prefix_rfl⟩
 | h1 l a ih =>
  intro st h hu hr
  obtain ⟨h1, h2⟩ := ih h hu (fun x hx => hr x (by simp [hx]))
  have ha := hr a (by simp)
  rw [rowB_snoc]
  obtain ⟨h3, h4⟩ := h1.step (wo := wo) (h2.subset hu) ha.1 ha.2
  exact ⟨h3, h2.trans h4⟩
theorem BF.len2 {n : Nat} {st : List Int × List Int} (h : BF n st) : st.2.length ≤ n := by have := h.cnt; omega
theorem BF.init {n : Nat} {v : Int} (h0 : 0 ≤ v) (h1 : v < n) : BF n (initB n v) := by
 have hu : unl (List.replicate n (-1)) = n := by
  unfold unl
  rw [List.countP_replicate]
  simp
 have hs := unl_set (L := List.replicate n (-1)) (x := v) (c := 0) h0 (by simp; exact h1) (by rw [gi_rep h0 h1]; omega) (by omega)
 refine ⟨by simp [initB], fun x hx => ?_, ?_, fun x hx => ?_, fun x hx => ?_⟩
 ·simp [initB] at hx; subst hx; exact ⟨h0, h1⟩
 ·show 1 + unl ((List.replicate n (-1)).set v.toNat 0) = n; omega
 ·have hx : x ∈ (List.replicate n (-1)).set v.toNat 0 := hx
  show -1 ≤ x ∧ x < ((1 : Nat) : Int)
  rcases List.mem_or_eq_of_mem_set hx with hx | rfl
  ·have := (List.mem_replicate.1 hx).2; omega
  ·omega
 ·simp [initB] at hx; subst hx
  show 0 ≤ gi ((List.replicate n (-1)).set x.toNat 0) x
  rw [gi_setI (by simp; omega) h0, if_pos (by omega)]
  exact Int.le_refl _
/-- a graph's lists -/
structure Gr (n : Nat) (next : List (List Int)) : Prop where
 len : next.length = n
 small : n ≤ 400
 row : ∀ u : Int, 0 ≤ u → (∀ x ∈ gl next u, 0 ≤ x ∧ x < n) ∧ (gl next u).length ≤ 1000

theorem l18Distances_c (A : Option Addr) (n c : Nat) (rs : List SlV) (next : List (List Int)) (v wo : Int) (w : World) (hR : RowsI w A n rs next) (hg : Gr n next) (h0 : 0 ≤ v) (h1 : v < n) :
    Ret Tryz.prog 30 [.slice A n c, .int .i64 v, .int .i64 wo] w (fun r w' => ∃ A', r = .slice A' n n ∧ St w w' [CkI 2 A' n n (distP next wo v).1]) := by
  have hl := hg.len
  have hsm := hg.small
  refine Ret.of_cd Tryz.func30 rfl Tryz.ntmps30 rfl (post1 rfl) (Cd.seq (Cd.region (Ops.ms rfl rfl rfl (Ops.n (tQ (Cd.seq (Cd.region (Ops.ms rfl rfl rfl (Ops.len rfl rfl ?_)))))))))
  refine Ops.mkI n (St.refl w) rfl rfl (by omega) ?_
  intro A7 w1 hS1
  refine Ops.ms rfl rfl rfl (Ops.n (tQ (Cd.seq (Cd.seq (Cd.region (Ops.mi rfl rfl rfl (Ops.n (tQ (Cd.block ?_)))))))))
  refine Cd.loop (α := Nat × List Int) (fun z => [(0, .slice A n c), (1, .int .i64 v), (2, .int .i64 wo), (7, .slice A7 n n), (8, .int .i64 (z.1 : Int))]) (fun z w' => St w w' [CkI 2 A7 n n z.2] ∧ z.1 ≤ n ∧ z.2.length = n ∧ ∀ j, j < z.1 → z.2[j]? = some (-1)) (fun z => n - z.1) (0, List.replicate n 0) ⟨rfl, rfl, rfl, rfl, rfl, trivial⟩ ⟨hS1, Nat.zero_le _, by simp, fun j hj => by omega⟩ ?_
  rintro ⟨k, l⟩ e w2 ⟨hS2, hk, hll, hK⟩
  dsimp only at hS2 hk hll hK ⊢
  refine Cd.seq (Cd.seq (Cd.region (Ops.mi rfl rfl rfl (Ops.ms rfl rfl rfl (Ops.len rfl rfl (Ops.lss rfl rfl rfl (Ops.n (tQ ?_))))))))
  refine Cd.cond_p _ rfl (fun h2 => ?_) (fun h2 => ?_)
  · refine Cd.skip (tQ (Cd.seq (Cd.block (Cd.region (Ops.ms rfl rfl rfl (Ops.mi rfl rfl rfl (Ops.idx (hS2.rdI 0 rfl).2 rfl rfl rfl (by omega) (by omega) (Ops.st_int 0 hS2 rfl rfl rfl (by omega) ?_))))))))
    intro w3 hS3
    refine Ops.n (blockQ_n (tQ (Cd.region (Ops.mi rfl rfl rfl (Ops.add rfl rfl rfl (by omega) (Ops.mi rfl rfl rfl (Ops.n (tQ ?_))))))))
    refine ⟨(k + 1, l.set k (-1)), by show n - (k + 1) < n - k; omega, ⟨rfl, rfl, rfl, rfl, rfl, trivial⟩, hS3, by show k + 1 ≤ n; omega, by show (l.set k _).length = n; rw [List.length_set]; exact hll, fun j hj => ?_⟩
    show (l.set k (-1))[j]? = _
    rw [List.getElem?_set]
    by_cases ej : k = j
    · subst ej; rw [if_pos rfl, if_pos (by omega)]
    · rw [if_neg ej]; exact hK j (by have : j < k + 1 := hj; omega)
  · refine Cd.exit (thenQ_x (thenQ_x (blockQ_x (tQ (Cd.seq (Cd.region (Ops.ms rfl rfl rfl (Ops.mi rfl rfl rfl ?_))))))))
    have hkn : k = n := by omega
    subst hkn
    have he : l = List.replicate k (-1) := by
      apply List.ext_getElem?
      intro j
      by_cases hj : j < k
      · rw [hK j hj]; simp [hj]
      · rw [List.getElem?_eq_none (by omega), List.getElem?_eq_none (by simp; omega)]
    subst he
    refine Ops.idx (hS2.rdI 0 rfl).2 rfl rfl rfl h0 h1 (Ops.st_int 0 hS2 rfl rfl rfl (by omega) ?_)
    intro w3 hS3
    refine Ops.n (tQ (Cd.seq (Cd.region (Ops.mi rfl rfl rfl (Ops.bs1I hS3 rfl rfl rfl ?_)))))
    intro A9 w4 hS4
    have hS4 : St w w4 [CkI 2 A9 (initB k v).2.length 1 (initB k v).2, CkI 2 A7 k k (initB k v).1] := hS4
    have hfin : distP next wo v = bfsD next wo (k + 1 - 0) 0 (initB k v) := by unfold distP; rw [hl]; rfl
    refine Ops.ms rfl rfl rfl (Ops.n (tQ (Cd.seq (Cd.seq (Cd.region (Ops.mi rfl rfl rfl (Ops.n (tQ (Cd.block ?_)))))))))
    refine Cd.loop (α := Nat × Option Addr × Nat × (List Int × List Int)) (fun z => [(0, .slice A k c), (2, .int .i64 wo), (7, .slice A7 k k), (9, .slice z.2.1 z.2.2.2.2.length z.2.2.1), (10, .int .i64 (z.1 : Int))])
      (fun z w' => St w w' [CkI 2 z.2.1 z.2.2.2.2.length z.2.2.1 z.2.2.2.2, CkI 2 A7 k k z.2.2.2.1] ∧ BF k z.2.2.2 ∧ z.1 ≤ z.2.2.2.2.length ∧ distP next wo v = bfsD next wo (k + 1 - z.1) z.1 z.2.2.2)
      (fun z => k + 1 - z.1) (0, A9, 1, initB k v) ⟨rfl, rfl, rfl, rfl, rfl, trivial⟩ ⟨hS4, BF.init h0 h1, Nat.zero_le _, hfin⟩ ?_
    rintro ⟨i, A10, c10, st⟩ e w5 ⟨hS5, hB, hi, hD⟩
    dsimp only at hS5 hB hi hD ⊢
    have hql := hB.len2
    refine Cd.seq (Cd.seq (Cd.region (Ops.mi rfl rfl rfl (Ops.ms rfl rfl rfl (Ops.len rfl rfl (Ops.lss rfl rfl rfl (Ops.n (tQ ?_))))))))
    refine Cd.cond_p _ rfl (fun h3 => ?_) (fun h3 => ?_)
    · have hi' : i < st.2.length := by omega
      have hQ := hS5.rdI 0 rfl
      have hum : gi st.2 (i : Int) ∈ st.2 := gi_in hi'
      have hur := hB.rng _ hum
      have hrow := hg.row (gi st.2 (i : Int)) hur.1
      rw [bfsD_go hi' (by omega)] at hD
      refine Cd.skip (tQ (Cd.seq (Cd.block (Cd.seq (Cd.region (Ops.ms rfl rfl rfl (Ops.mi rfl rfl rfl (Ops.idx hQ.2 rfl rfl rfl (by omega) (by omega) (Ops.ld_int hQ rfl (by omega) rfl rfl ?_)))))))))
      refine Ops.mi rfl rfl rfl (Ops.n (tQ (Cd.seq (Cd.region (Ops.mi rfl rfl rfl (Ops.n (tQ (Cd.block ?_))))))))
      generalize hu : gi st.2 (i : Int) = u at *
      have hnr : (gl next u).length = (rg rs u).n := hR.rowLen hur.1 hur.2
      refine Cd.loop (α := Nat × Option Addr × Nat × (List Int × List Int)) (fun z => [(0, .slice A k c), (2, .int .i64 wo), (7, .slice A7 k k), (9, .slice z.2.1 z.2.2.2.2.length z.2.2.1), (10, .int .i64 (i : Int)), (11, .int .i64 u), (12, .int .i64 (z.1 : Int))])
        (fun z w' => St w w' [CkI 2 z.2.1 z.2.2.2.2.length z.2.2.1 z.2.2.2.2, CkI 2 A7 k k z.2.2.2.1] ∧ z.1 ≤ (gl next u).length ∧ z.2.2.2 = rowB wo u ((gl next u).take z.1) st)
        (fun z => (gl next u).length - z.1) (0, A10, c10, st) ⟨rfl, rfl, rfl, rfl, rfl, rfl, rfl, trivial⟩ ⟨hS5, Nat.zero_le _, rfl⟩ ?_
      rintro ⟨j, A11, c11, sj⟩ e w6 ⟨hS6, hj, hsj⟩
      dsimp only at hS6 hj hsj ⊢
      obtain ⟨hBj, hpre⟩ := BF.row (wo := wo) ((gl next u).take j) hB hum (fun x hx => hrow.1 x (List.mem_of_mem_take hx))
      rw [← hsj] at hBj hpre
      have hR6 := hS6.oldRows hR
      have hqj := hBj.len2
      have hlj := hBj.len
      refine Cd.seq (Cd.seq (Cd.region (Ops.mi rfl rfl rfl (Ops.ms rfl rfl rfl (Ops.mi rfl rfl rfl (Ops.idx hR6.top.2 rfl rfl rfl hur.1 hur.2 (Ops.ld_sl hR6.top rfl (by omega) rfl rfl (Ops.len rfl rfl (Ops.lss rfl rfl rfl ?_)))))))))
      refine Ops.n (tQ ?_)
      refine Cd.cond_p _ rfl (fun h4 => ?_) (fun h4 => ?_)
      · have hj' : j < (gl next u).length := by omega
        have hrowR := hR6.at_ (i := u) hur.1 hur.2
        have hxm : gi (gl next u) (j : Int) ∈ gl next u := gi_in hj'
        have hx := hrow.1 _ hxm
        have hstep : rowB wo u ((gl next u).take (j + 1)) st = stepB wo u sj (gi (gl next u) (j : Int)) := by rw [take_succ_gi hj', rowB_snoc, ← hsj]
        have hO := hS6.rdI 1 rfl
        have hgu := hBj.val _ (gi_in2 (l := sj.1) hur.1 (by omega))
        generalize hxe : gi (gl next u) (j : Int) = x at *
        refine Cd.skip (tQ (Cd.seq (Cd.block (Cd.seq (Cd.region (Ops.ms rfl rfl rfl (Ops.mi rfl rfl rfl (Ops.idx hR6.top.2 rfl rfl rfl hur.1 hur.2 (Ops.ld_sl hR6.top rfl (by omega) rfl rfl ?_)))))))))
        refine Ops.mi rfl rfl rfl (Ops.idx hrowR.2 rfl rfl rfl (by omega) (by omega) (Ops.ld_int hrowR rfl (by omega) rfl rfl ?_))
        rw [hxe]
        refine Ops.mi rfl rfl rfl (Ops.n (tQ (Cd.seq (Cd.region (Ops.ms rfl rfl rfl (Ops.mi rfl rfl rfl (Ops.idx hO.2 rfl rfl rfl hx.1 hx.2 (Ops.ld_int hO rfl (by omega) rfl rfl (Ops.lss rfl rfl rfl ?_)))))))))
        refine Ops.mb rfl rfl rfl ?_
        refine Ops.split_p 62 rfl (fun h5 => ?_) (fun h5 => ?_)
        · refine Ops.g rfl rfl rfl (Ops.mi rfl rfl rfl (Ops.g rfl rfl rfl (Ops.mi rfl rfl rfl (Ops.g rfl rfl rfl (Ops.neq rfl rfl rfl (Ops.pick_t rfl rfl rfl (Ops.n (tQ ?_))))))))
          refine Cd.cond_p _ rfl (fun h6 => ?_) (fun h6 => ?_)
          · have hst : stepB wo u sj x = (sj.1.set x.toNat (gi sj.1 u + 1), sj.2 ++ [x]) := by unfold stepB; rw [if_pos ⟨h5, h6⟩]
            refine Cd.seq (Cd.region (Ops.ms rfl rfl rfl (Ops.mi rfl rfl rfl (Ops.ms rfl rfl rfl (Ops.mi rfl rfl rfl (Ops.idx hO.2 rfl rfl rfl hur.1 hur.2 (Ops.ld_int hO rfl (by omega) rfl rfl (Ops.add rfl rfl rfl (by omega) (Ops.idx hO.2 rfl rfl rfl hx.1 hx.2 ?_)))))))))
            refine Ops.st_int 1 hS6 rfl rfl rfl (by omega) ?_
            intro w7 hS7
            refine Ops.n (tQ (Cd.region (Ops.ms rfl rfl rfl (Ops.mi rfl rfl rfl (Ops.bs1I hS7 rfl rfl rfl ?_)))))
            intro A12 w8 hS8
            refine Ops.appI 1 hS8 rfl (hS8.rdI 0 rfl) rfl rfl rfl (by omega) (by omega) rfl ?_
            intro A13 c13 w9 hS9
            refine Ops.ms rfl rfl rfl (Ops.n (blockQ_n (tQ (Cd.region (Ops.mi rfl rfl rfl (Ops.add rfl rfl rfl (by omega) (Ops.mi rfl rfl rfl (Ops.n (tQ ?_)))))))))
            have e2 : (sj.2 ++ [x]).length = sj.2.length + 1 := by simp
            refine ⟨(j + 1, A13, c13, stepB wo u sj x), by show _ - (j + 1) < _ - j; omega, ⟨rfl, rfl, rfl, by show Value.slice _ _ _ = .slice _ _ _; rw [hst]; show Value.slice _ _ _ = .slice _ (sj.2 ++ [x]).length _; rw [e2], rfl, rfl, rfl, trivial⟩, ?_, hj', hstep.symm⟩
            show St w w9 [CkI _ A13 (stepB wo u sj x).2.length c13 (stepB wo u sj x).2, CkI _ A7 k k (stepB wo u sj x).1]
            rw [hst]
            show St w w9 [CkI _ A13 (sj.2 ++ [x]).length c13 (sj.2 ++ [x]), CkI _ A7 k k (sj.1.set x.toNat (gi sj.1 u + 1))]
            rw [e2]
            exact hS9.tail
          · have hst : stepB wo u sj x = sj := by unfold stepB; rw [if_neg (fun h => h6 h.2)]
            rw [hst] at hstep
            refine Cd.skip (blockQ_n (tQ (Cd.region (Ops.mi rfl rfl rfl (Ops.add rfl rfl rfl (by omega) (Ops.mi rfl rfl rfl (Ops.n (tQ ?_))))))))
            exact ⟨(j + 1, A11, c11, sj), by show _ - (j + 1) < _ - j; omega, ⟨rfl, rfl, rfl, rfl, rfl, rfl, rfl, trivial⟩, hS6, hj', hstep.symm⟩
        · have hst : stepB wo u sj x = sj := by unfold stepB; rw [if_neg (fun h => h5 h.1)]
          rw [hst] at hstep
          refine Ops.k rfl rfl rfl rfl rfl (Ops.k rfl rfl rfl rfl rfl (Ops.k rfl rfl rfl rfl rfl (Ops.pick_f rfl rfl rfl (Ops.n (tQ (Cd.cond_f rfl (Cd.skip (blockQ_n (tQ ?_)))))))))
          refine Cd.region (Ops.mi rfl rfl rfl (Ops.add rfl rfl rfl (by omega) (Ops.mi rfl rfl rfl (Ops.n (tQ ?_)))))
          exact ⟨(j + 1, A11, c11, sj), by show _ - (j + 1) < _ - j; omega, ⟨rfl, rfl, rfl, rfl, rfl, rfl, rfl, trivial⟩, hS6, hj', hstep.symm⟩
      · refine Cd.exit (thenQ_x (thenQ_x (blockQ_x (blockQ_n (tQ (Cd.region (Ops.mi rfl rfl rfl (Ops.add rfl rfl rfl (by omega) (Ops.mi rfl rfl rfl ?_)))))))))
        refine Ops.n (tQ ?_)
        have hje : j = (gl next u).length := by omega
        subst hje
        rw [List.take_length] at hsj
        rw [← hsj] at hD
        exact ⟨(i + 1, A11, c11, sj), by show k + 1 - (i + 1) < k + 1 - i; omega, ⟨rfl, rfl, rfl, rfl, rfl, trivial⟩, hS6, hBj, by show i + 1 ≤ sj.2.length; have := hpre.length_le; omega, by show distP next wo v = bfsD next wo (k + 1 - (i + 1)) (i + 1) sj; rw [hD]; congr 1⟩
    · refine Cd.exit (thenQ_x (thenQ_x (blockQ_x (tQ (Cd.seq (Cd.region (Ops.ms rfl rfl rfl (Ops.ms rfl rfl rfl (Ops.n ?_)))))))))
      refine tQ (Cd.ret (ret1_s rfl ?_))
      rw [bfsD_end (by omega)] at hD
      rw [hD]
      exact ⟨A7, rfl, hS5.tail⟩
end Go.Proofs.YtbhnfehcpnnjcaaGreatDoor.Vc
/-
 Distances and what is reached: the program's walks. Conditions: as each states them.
-/
namespace Go.Proofs.YtbhnfehcpnnjcaaGreatDoor.Vc
open Go.RowKit

theorem graphDistances_c (A : Option Addr) (n c : Nat) (rs : List SlV) (next : List (List Int)) (v : Int) (w : World) (hR : RowsI w A n rs next) (hg : Gr n next) (h0 : 0 ≤ v) (h1 : v < n) :
    Ret Tryz.prog 29 [.slice A n c, .int .i64 v] w (fun r w' => ∃ A', r = .slice A' n n ∧ St w w' [CkI 2 A' n n (distP next (-1) v).1]) := by
  have hl := hg.len
  have hsm := hg.small
  refine Ret.of_cd Tryz.func29 rfl Tryz.ntmps29 rfl (post1 rfl) (Cd.seq (Cd.region (Ops.ms rfl rfl rfl (Ops.n (tQ (Cd.seq (Cd.region (Ops.bs1I (St.refl w) rfl rfl rfl ?_))))))))
  intro A1 w1 hS1
  refine Ops.ms rfl rfl rfl (Ops.len rfl rfl (Ops.call (Repeat_c A1 1 (-1) n _ (hS1.rdI 0 rfl) (by omega)) rfl rfl rfl ?_))
  rintro _ w2 ⟨A5, rfl, hst⟩
  have hS2 := (hS1.call hst).sub (List.Sublist.cons_cons _ (List.nil_sublist _))
  refine Ops.ms rfl rfl rfl (Ops.n (tQ (Cd.seq (Cd.region (Ops.ms rfl rfl rfl (Ops.mi rfl rfl rfl (Ops.idx (hS2.rdI 0 rfl).2 rfl rfl rfl h0 h1 (Ops.st_int 0 hS2 rfl rfl rfl (by omega) ?_))))))))
  intro w3 hS3
  refine Ops.n (tQ (Cd.seq (Cd.seq (Cd.region (Ops.mi rfl rfl rfl (Ops.bs1I hS3 rfl rfl rfl ?_))))))
  intro A6 w4 hS4
  have hS4 : St w w4 [CkI 2 A6 ((initB n v).2.length - 0) 1 ((initB n v).2.drop 0), CkI 2 A5 n n (initB n v).1] := hS4
  have hfin : distP next (-1) v = bfsD next (-1) (n + 1 - 0) 0 (initB n v) := by unfold distP; rw [hl]; rfl
  refine Ops.ms rfl rfl rfl (Ops.n (tQ (Cd.block ?_)))
  refine Cd.loop (α := Nat × Option Addr × Nat × (List Int × List Int)) (fun z => [(0, .slice A n c), (5, .slice A5 n n), (6, .slice z.2.1 (z.2.2.2.2.length - z.1) z.2.2.1)])
    (fun z w' => St w w' [CkI 2 z.2.1 (z.2.2.2.2.length - z.1) z.2.2.1 (z.2.2.2.2.drop z.1), CkI 2 A5 n n z.2.2.2.1] ∧ BF n z.2.2.2 ∧ z.1 ≤ z.2.2.2.2.length ∧ distP next (-1) v = bfsD next (-1) (n + 1 - z.1) z.1 z.2.2.2)
    (fun z => n + 1 - z.1) (0, A6, 1, initB n v) ⟨rfl, rfl, rfl, trivial⟩ ⟨hS4, BF.init h0 h1, Nat.zero_le _, hfin⟩ ?_
  rintro ⟨i, A10, c10, st⟩ e w5 ⟨hS5, hB, hi, hD⟩
  dsimp only at hS5 hB hi hD ⊢
  have hql := hB.len2
  refine Cd.seq (Cd.seq (Cd.region (Ops.ms rfl rfl rfl (Ops.len rfl rfl (Ops.gtr rfl rfl rfl (Ops.n (tQ ?_)))))))
  refine Cd.cond_p _ rfl (fun h3 => ?_) (fun h3 => ?_)
  · have hi' : i < st.2.length := by omega
    have hQ := hS5.rdI 0 rfl
    have hum : gi st.2 (i : Int) ∈ st.2 := gi_in hi'
    have hur := hB.rng _ hum
    have hrow := hg.row (gi st.2 (i : Int)) hur.1
    have hR5 := hS5.oldRows hR
    rw [bfsD_go hi' (by omega)] at hD
    refine Cd.skip (tQ (Cd.seq (Cd.block (Cd.seq (Cd.region (Ops.ms rfl rfl rfl (Ops.ms rfl rfl rfl (Ops.idx hQ.2 rfl rfl rfl (by omega) (by omega) (Ops.ld_int hQ rfl (by omega) rfl rfl ?_)))))))))
    rw [gi_drop]
    generalize hu : gi st.2 (i : Int) = u at *
    have hnr : (gl next u).length = (rg rs u).n := hR.rowLen hur.1 hur.2
    refine Ops.idx hR5.top.2 rfl rfl rfl hur.1 hur.2 (Ops.ld_sl hR5.top rfl (by omega) rfl rfl (Ops.len rfl rfl (Ops.mi rfl rfl rfl (Ops.n (tQ (Cd.block ?_))))))
    refine Cd.loop (α := Nat × Option Addr × Nat × (List Int × List Int)) (fun z => [(0, .slice A n c), (5, .slice A5 n n), (6, .slice z.2.1 (z.2.2.2.2.length - i) z.2.2.1), (28, .slice (rg rs u).a (rg rs u).n (rg rs u).c), (29, .int .i64 ((rg rs u).n : Int)), (30, .int .i64 (z.1 : Int))])
      (fun z w' => St w w' [CkI 2 z.2.1 (z.2.2.2.2.length - i) z.2.2.1 (z.2.2.2.2.drop i), CkI 2 A5 n n z.2.2.2.1] ∧ z.1 ≤ (gl next u).length ∧ z.2.2.2 = rowB (-1) u ((gl next u).take z.1) st)
      (fun z => (gl next u).length - z.1) (0, A10, c10, st) ⟨rfl, rfl, rfl, rfl, rfl, rfl, trivial⟩ ⟨hS5, Nat.zero_le _, rfl⟩ ?_
    rintro ⟨j, A11, c11, sj⟩ e w6 ⟨hS6, hj, hsj⟩
    dsimp only at hS6 hj hsj ⊢
    obtain ⟨hBj, hpre⟩ := BF.row (wo := -1) ((gl next u).take j) hB hum (fun x hx => hrow.1 x (List.mem_of_mem_take hx))
    rw [← hsj] at hBj hpre
    have hR6 := hS6.oldRows hR
    have hqj := hBj.len2
    have hlj := hBj.len
    have hpl := hpre.length_le
    have hui : gi sj.2 (i : Int) = u := by rw [← hu]; exact gi_prefix hpre hi'
    refine Cd.seq (Cd.region (Ops.lss rfl rfl rfl (Ops.n (tQ (Cd.seq ?_)))))
    refine Cd.cond_p _ rfl (fun h4 => ?_) (fun h4 => ?_)
    · have hj' : j < (gl next u).length := by omega
      have hrowR := hR6.at_ (i := u) hur.1 hur.2
      have hxm : gi (gl next u) (j : Int) ∈ gl next u := gi_in hj'
      have hx := hrow.1 _ hxm
      have hstep : rowB (-1) u ((gl next u).take (j + 1)) st = stepB (-1) u sj (gi (gl next u) (j : Int)) := by rw [take_succ_gi hj', rowB_snoc, ← hsj]
      have hO := hS6.rdI 1 rfl
      have hQj := hS6.rdI 0 rfl
      have hgu := hBj.val _ (gi_in2 (l := sj.1) hur.1 (by omega))
      refine Cd.skip (tQ (Cd.seq (Cd.block (Cd.seq (Cd.region (Ops.idx hrowR.2 rfl rfl rfl (by omega) (by omega) (Ops.ld_int hrowR rfl (by omega) rfl rfl ?_)))))))
      generalize hxe : gi (gl next u) (j : Int) = x at *
      refine Ops.mi rfl rfl rfl (Ops.n (tQ (Cd.seq (Cd.region (Ops.ms rfl rfl rfl (Ops.mi rfl rfl rfl (Ops.idx hO.2 rfl rfl rfl hx.1 hx.2 (Ops.ld_int hO rfl (by omega) rfl rfl (Ops.lss rfl rfl rfl ?_)))))))))
      refine Ops.n (tQ ?_)
      refine Cd.cond_p _ rfl (fun h5 => ?_) (fun h5 => ?_)
      · have hst : stepB (-1) u sj x = (sj.1.set x.toNat (gi sj.1 u + 1), sj.2 ++ [x]) := by unfold stepB; rw [if_pos ⟨h5, by omega⟩]
        refine Cd.seq (Cd.region (Ops.ms rfl rfl rfl (Ops.mi rfl rfl rfl (Ops.ms rfl rfl rfl (Ops.ms rfl rfl rfl (Ops.idx hQj.2 rfl rfl rfl (by omega) (by omega) ?_))))))
        refine Ops.ld_int hQj rfl (by show Int.toNat 0 < _; rw [show Int.toNat 0 = 0 from rfl]; omega) rfl rfl ?_
        rw [gi_drop, hui]
        refine Ops.idx hO.2 rfl rfl rfl hur.1 hur.2 (Ops.ld_int hO rfl (by omega) rfl rfl (Ops.add rfl rfl rfl (by omega) (Ops.idx hO.2 rfl rfl rfl hx.1 hx.2 (Ops.st_int 1 hS6 rfl rfl rfl (by omega) ?_))))
        intro w7 hS7
        refine Ops.n (tQ (Cd.region (Ops.ms rfl rfl rfl (Ops.mi rfl rfl rfl (Ops.bs1I hS7 rfl rfl rfl ?_)))))
        intro A12 w8 hS8
        refine Ops.appI 1 hS8 rfl (hS8.rdI 0 rfl) rfl rfl rfl (by omega) (by omega) rfl ?_
        intro A13 c13 w9 hS9
        refine Ops.ms rfl rfl rfl (Ops.n (blockQ_n (tQ (Cd.region (Ops.add rfl rfl rfl (by omega) (Ops.mi rfl rfl rfl (Ops.n (tQ ?_))))))))
        have e2 : (sj.2 ++ [x]).length - i = sj.2.length - i + 1 := by simp; omega
        have e3 : (sj.2 ++ [x]).drop i = sj.2.drop i ++ [x] := List.drop_append_of_le_length (by omega)
        refine ⟨(j + 1, A13, c13, stepB (-1) u sj x), by show _ - (j + 1) < _ - j; omega, ⟨rfl, rfl, by show Value.slice _ _ _ = .slice _ _ _; rw [hst]; show Value.slice _ _ _ = .slice _ ((sj.2 ++ [x]).length - i) _; rw [e2], rfl, rfl, rfl, trivial⟩, ?_, hj', hstep.symm⟩
        show St w w9 [CkI _ A13 ((stepB (-1) u sj x).2.length - i) c13 ((stepB (-1) u sj x).2.drop i), CkI _ A5 n n (stepB (-1) u sj x).1]
        rw [hst]
        show St w w9 [CkI _ A13 ((sj.2 ++ [x]).length - i) c13 ((sj.2 ++ [x]).drop i), CkI _ A5 n n (sj.1.set x.toNat (gi sj.1 u + 1))]
        rw [e2, e3]
        exact hS9.tail
      · have hst : stepB (-1) u sj x = sj := by unfold stepB; rw [if_neg (fun h => h5 h.1)]
        rw [hst] at hstep
        refine Cd.skip (blockQ_n (tQ (Cd.region (Ops.add rfl rfl rfl (by omega) (Ops.mi rfl rfl rfl (Ops.n (tQ ?_)))))))
        exact ⟨(j + 1, A11, c11, sj), by show _ - (j + 1) < _ - j; omega, ⟨rfl, rfl, rfl, rfl, rfl, rfl, trivial⟩, hS6, hj', hstep.symm⟩
    · refine Cd.exit (thenQ_x (thenQ_x (blockQ_x (blockQ_n (tQ (Cd.region (Ops.ms rfl rfl rfl ?_)))))))
      have hje : j = (gl next u).length := by omega
      subst hje
      rw [List.take_length] at hsj
      rw [← hsj] at hD
      refine Ops.cut_l rfl rfl rfl (by omega) ?_
      have hS7 := hS6.cutl (i := 0) rfl (show 1 ≤ sj.2.length - i by omega)
      have e2 : sj.2.length - i - 1 = sj.2.length - (i + 1) := by omega
      have e3 : (sj.2.drop i).drop 1 = sj.2.drop (i + 1) := by rw [List.drop_drop]
      refine Ops.ms rfl rfl rfl (Ops.n (tQ ?_))
      refine ⟨(i + 1, cutAt A11 c11 1, c11 - 1, sj), by show n + 1 - (i + 1) < n + 1 - i; omega, ⟨rfl, rfl, by show Value.slice _ _ _ = .slice _ _ _; rw [← e2]; rfl, trivial⟩, ?_, hBj, by show i + 1 ≤ sj.2.length; omega, by show distP next (-1) v = bfsD next (-1) (n + 1 - (i + 1)) (i + 1) sj; rw [hD]; congr 1⟩
      show St w w6 [CkI _ (cutAt A11 c11 1) (sj.2.length - (i + 1)) (c11 - 1) (sj.2.drop (i + 1)), _]
      rw [← e2, ← e3]
      exact hS7
  · refine Cd.exit (thenQ_x (thenQ_x (blockQ_x (tQ (Cd.seq (Cd.region (Ops.ms rfl rfl rfl (Ops.ms rfl rfl rfl (Ops.n ?_)))))))))
    refine tQ (Cd.ret (ret1_s rfl ?_))
    rw [bfsD_end (by omega)] at hD
    rw [hD]
    exact ⟨A5, rfl, hS5.tail⟩
end Go.Proofs.YtbhnfehcpnnjcaaGreatDoor.Vc
/-
 The graph of a maniplex with its code, and distances from a vertex on both sides. Conditions: as each states them.
-/
namespace Go.Proofs.YtbhnfehcpnnjcaaGreatDoor.Vc
open Go.RowKit

theorem nb_gr {xss : List (List Int)} (hM : Mani xss) : Gr (vertsN xss) (nbL xss) := by
 have hsm := nb_small hM
 have hin := arcs_in (En := endsL xss) (b := (vertsN xss : Int)) (fun e => endsL_mem hM e (by omega)) (edgesN xss)
 refine ⟨nbL_len xss, hsm.2.1, fun u hu => ⟨fun x hx => ?_, ?_⟩⟩
 ·rw [nbL, gl_endsP, cs_mem] at hx
  exact bagP_mem _ hin u hu x hx
 ·have h1 := endsP_row (m := vertsN xss) (ps := arcs (endsL xss) (edgesN xss)) (fun p hp => (hin p hp).1) u hu
  have h2 := arcs_len (endsL xss) (edgesN xss)
  show (gl (endsP _ _) _).length ≤ _
  omega
def goK (xss : List (List Int)) (vs : List Int) : Int := if ¬ Grph xss then 1 else if ¬ allIn 0 ((vertsN xss : Int) - 1) vs then 2 else 0
def goL (xss : List (List Int)) (vs : List Int) : List (List Int) := if Grph xss ∧ allIn 0 ((vertsN xss : Int) - 1) vs then nbL xss else []
theorem graphOf_c (A : Option Addr) (n c : Nat) (rs : List SlV) (xss : List (List Int)) (Av : Option Addr) (nv cv : Nat) (vs : List Int) (w : World) (hR : RowsI w A n rs xss) (hn : n ≤ c) (hc : c ≤ 9223372036854775807) (hV : RdI w Av nv vs) (hnv : nv ≤ 9223372036854775807) :
  Ret Tryz.prog 21 [.agg #[.slice A n c], .slice Av nv cv] w (AnsSS (goL xss vs) (goK xss vs) w) := by
 refine Ret.of_cd Tryz.func21 rfl Tryz.ntmps21 rfl (post2 rfl) (Cd.seq (Cd.region (Ops.box1 (St.refl w) rfl rfl ?_)))
 intro Ab w1 hS1
 refine Ops.ms rfl rfl rfl (Ops.mi rfl rfl rfl (Ops.n (tQ (Cd.seq (Cd.seq (Cd.region (Ops.ld_agg 0 (hS1.rd 0 rfl) rfl rfl rfl (Ops.call (isGraphed_c A n c rs xss _ (hS1.oldRows hR) hn hc) rfl rfl rfl ?_))))))))
 rintro _ w2 ⟨rfl, hst⟩
 have hS2 := hS1.later hst.below
 first | refine Ops.not_p rfl rfl ?_ | refine Ops.not rfl rfl ?_
 refine Ops.n (tQ ?_)
 refine Cd.cond_p _ rfl (fun h => ?_) (fun h => ?_)
 ·refine Cd.seq (Cd.region (Ops.ms rfl rfl rfl (Ops.mi rfl rfl rfl (Ops.n (tQ (Cd.ret (thenQ_r (ret2_si rfl rfl ?_))))))))
  rw [goK, if_pos h, goL, if_neg (fun h2 => h h2.1)]
  exact AnsSS.none hS2
 ·have hG : Grph xss := Classical.not_not.1 h
  have hsm := nb_small hG.1
  refine Cd.skip (tQ (Cd.seq (Cd.region (Ops.ld_agg 0 (hS2.rd 0 rfl) rfl rfl rfl (Ops.call (neighboursOf_c A n c rs xss _ (hS2.oldRows hR) hG) rfl rfl rfl ?_)))))
  rintro _ w3 ⟨A3, rs3, rfl, hrl, hst⟩
  have hS3 := hS2.none.call hst
  rw [List.append_nil] at hS3
  refine Ops.ms rfl rfl rfl (Ops.n (tQ (Cd.seq (Cd.seq (Cd.region (Ops.ms rfl rfl rfl (Ops.ms rfl rfl rfl (Ops.call (sizeR_c _ _ _ _) rfl rfl rfl ?_))))))))
  rintro _ w3 ⟨rfl, rfl⟩
  refine Ops.sub rfl rfl rfl (by omega) (Ops.call (areWithin_c Av nv cv vs 0 _ _ (hS3.oldI hV) hnv) rfl rfl rfl ?_)
  rintro _ w4 ⟨rfl, hst4⟩
  have hS4 := hS3.later hst4.below
  first | refine Ops.not_p rfl rfl ?_ | refine Ops.not rfl rfl ?_
  refine Ops.n (tQ ?_)
  refine Cd.cond_p _ rfl (fun h2 => ?_) (fun h2 => ?_)
  ·refine Cd.seq (Cd.region (Ops.ms rfl rfl rfl (Ops.mi rfl rfl rfl (Ops.n (tQ (Cd.ret (thenQ_r (ret2_si rfl rfl ?_))))))))
   rw [goK, if_neg h, if_pos h2, goL, if_neg (fun h3 => h2 h3.2)]
   exact AnsSS.none hS4
  ·have hA := Classical.not_not.1 h2
   refine Cd.skip (tQ (Cd.seq (Cd.region (Ops.ms rfl rfl rfl (Ops.ms rfl rfl rfl (Ops.mi rfl rfl rfl (Ops.n (tQ (Cd.ret ?_)))))))))
   refine ret2_si rfl rfl ?_
   rw [goK, if_neg h, if_neg h2, goL, if_pos ⟨hG, hA⟩]
   refine ⟨A3, vertsN xss, rs3, by rw [nbL_len], by rw [nbL_len]; exact hrl, ?_⟩
   rw [nbL_len]
   exact hS4

def vdL (xss : List (List Int)) (v : Int) : List Int := if goK xss [v] = 0 then (distP (nbL xss) (-1) v).1 else []
theorem AnsR.mk {w w' : World} {A : Option Addr} {L : List Int} {n c : Nat} {K : Int} (hl : L.length = n) (h : St w w' [CkI 2 A n c L]) : AnsR L K w (.tuple #[.slice A n c, .int .i64 K]) w' := by
 subst hl
 exact ⟨A, c, rfl, h⟩

theorem bfs_BF {n : Nat} {next : List (List Int)} {wo : Int} (hg : Gr n next) : ∀ (f i : Nat) (st : List Int × List Int), BF n st → BF n (bfsD next wo f i st)
 | 0, _, _, h => h
 | f + 1, i, st, h => by
  rw [bfsD]
  split
  ·rename_i hi
   have hum : gi st.2 (i : Int) ∈ st.2 := gi_in hi
   exact bfs_BF hg f _ _ (BF.row (wo := wo) _ h hum (hg.row _ (h.rng _ hum).1).1).1
  ·exact h
theorem dist_BF {n : Nat} {next : List (List Int)} {wo v : Int} (hg : Gr n next) (h0 : 0 ≤ v) (h1 : v < n) : BF n (distP next wo v) := by
 unfold distP
 rw [hg.len]
 exact bfs_BF hg _ _ _ (BF.init h0 h1)

end Go.Proofs.YtbhnfehcpnnjcaaGreatDoor.Vc
/-
 Plain mathematics of the graph of a maniplex: its vertices hang together, neighbours are neighbours of each other, and what a search by distances finds. Conditions: as each states them. No program in sight.
-/
namespace Go.Proofs.YtbhnfehcpnnjcaaGreatDoor.Vc

/-! labels and orbits -/
theorem lab_reach {N : Nat} {xss : List (List Int)} (hs : Sys N xss) (hi' : Inj N xss) {x y : Int} (h0 : 0 ≤ x) (h1 : x < N) (hr : Reach xss x y) : ∀ i, i ≤ N → gi (lab N xss i).1 x = gi (lab N xss i).1 y
 | 0, _ => by
  have hy := hr.range hs h0 h1
  simp only [lab, gi_rep h0 h1, gi_rep hy.1 hy.2]
 | i + 1, hi => by
  have hy := hr.range hs h0 h1
  have ih := lab_reach hs hi' h0 h1 hr i (by omega)
  have ho := orbit_spec hs (pt := (i : Int)) (by omega) (by omega)
  simp only [lab]
  split
  ·exact ih
  ·simp only
   rw [gi_paint _ _ _ (lab_length N xss i) ho.1.range x h0, gi_paint _ _ _ (lab_length N xss i) ho.1.range y hy.1]
   have hm : x ∈ orbit N xss i ↔ y ∈ orbit N xss i := by
    rw [ho.2.2, ho.2.2]
    exact ⟨fun h => h.trans hr, fun h => h.trans (hr.symm hs hi' h0 h1)⟩
   by_cases h : x ∈ orbit N xss i
   ·rw [if_pos h, if_pos (hm.1 h)]
   ·rw [if_neg h, if_neg (fun h' => h (hm.2 h')), ih]
theorem lab_conv {N : Nat} {xss : List (List Int)} (hs : Sys N xss) (hi' : Inj N xss) {x y : Int} (h0 : 0 ≤ x) (h1 : x < N) (h2 : 0 ≤ y) (h3 : y < N) : ∀ i, i ≤ N → gi (lab N xss i).1 x = gi (lab N xss i).1 y → 0 ≤ gi (lab N xss i).1 x → Reach xss x y
 | 0, _, _, h => by simp only [lab, gi_rep h0 h1] at h; omega
 | i + 1, hi, he, hp => by
  have ih := lab_conv hs hi' h0 h1 h2 h3 i (by omega)
  have ho := orbit_spec hs (pt := (i : Int)) (by omega) (by omega)
  have hc := lab_count N xss i
  have hx := (lab_in hs hi' i (by omega)).1 x h0 h1
  have hy := (lab_in hs hi' i (by omega)).1 y h2 h3
  simp only [lab] at he hp
  split at he
  ·rename_i hl
   rw [if_pos hl] at hp
   exact ih he hp
  ·rename_i hl
   rw [if_neg hl] at hp
   simp only at he hp
   rw [gi_paint _ _ _ (lab_length N xss i) ho.1.range x h0] at he hp
   rw [gi_paint _ _ _ (lab_length N xss i) ho.1.range y h2] at he
   by_cases hxo : x ∈ orbit N xss i
   ·rw [if_pos hxo] at he
    by_cases hyo : y ∈ orbit N xss i
    ·exact (((ho.2.2 x).1 hxo).symm hs hi' (by omega) (by omega)).trans ((ho.2.2 y).1 hyo)
    ·rw [if_neg hyo] at he; omega
   ·rw [if_neg hxo] at he hp
    by_cases hyo : y ∈ orbit N xss i
    ·rw [if_pos hyo] at he; omega
    ·rw [if_neg hyo] at he; exact ih he hp

theorem erase_mem {xss : List (List Int)} {i k : Nat} (hk : k < xss.length) (hne : k ≠ i) : gl xss k ∈ xss.eraseIdx i := by
 rw [List.mem_eraseIdx_iff_getElem]
 exact ⟨k, hk, hne, by rw [gl_mem hk]⟩
theorem erase_of {xss : List (List Int)} {i : Nat} {p : List Int} (h : p ∈ xss.eraseIdx i) : ∃ k : Nat, k < xss.length ∧ k ≠ i ∧ p = gl xss k := by
 rw [List.mem_eraseIdx_iff_getElem] at h
 obtain ⟨k, hk, hne, rfl⟩ := h
 exact ⟨k, hk, hne, by rw [gl_mem hk]⟩
/-- a move keeps the faces of all ranks but its own -/
theorem faces_move {xss : List (List Int)} (hM : Mani xss) {i k : Nat} (hk : k < xss.length) (hne : k ≠ i) {f : Int} (h0 : 0 ≤ f) (h1 : f < (gl xss 0).length) : gi (facesL xss i) (gi (gl xss k) f) = gi (facesL xss i) f :=
  (lab_reach (hM.2.2.1.sys.erase i) (hM.2.2.1.inj.erase i) h0 h1 (.step .refl (erase_mem hk hne)) _ (Nat.le_refl _)).symm
theorem faces_same {xss : List (List Int)} (hM : Mani xss) {i : Nat} {f g : Int} (h0 : 0 ≤ f) (h1 : f < (gl xss 0).length) (h2 : 0 ≤ g) (h3 : g < (gl xss 0).length) (h : gi (facesL xss i) f = gi (facesL xss i) g) : Reach (xss.eraseIdx i) f g := by
 obtain ⟨k, rfl⟩ : ∃ k : Nat, f = k := ⟨f.toNat, by omega⟩
 exact lab_conv (hM.2.2.1.sys.erase i) (hM.2.2.1.inj.erase i) h0 h1 h2 h3 _ (Nat.le_refl _) h (faces_in hM i k (by omega)).1
theorem Mani.two {xss : List (List Int)} (hM : Mani xss) {k : Nat} (hk : k < xss.length) {f : Int} (h0 : 0 ≤ f) (h1 : f < (gl xss 0).length) : gi (gl xss k) (gi (gl xss k) f) = f := by
 obtain ⟨q, rfl⟩ : ∃ q : Nat, f = q := ⟨f.toNat, by omega⟩
 have hr := hM.2.2.1.at_ hk
 exact (hr.2.2 q (by omega)).2
theorem Mani.in_ {xss : List (List Int)} (hM : Mani xss) {k : Nat} (hk : k < xss.length) {f : Int} (h0 : 0 ≤ f) (h1 : f < (gl xss 0).length) : 0 ≤ gi (gl xss k) f ∧ gi (gl xss k) f < (gl xss 0).length :=
  (hM.2.2.1.sys _ (by rw [gl_mem hk]; exact List.getElem_mem _)).2 f h0 h1
theorem Mani.comm {xss : List (List Int)} (hM : Mani xss) {i k : Nat} (hi : i < xss.length) (hk : k < xss.length) (hik : i + 2 ≤ k) {f : Int} (h0 : 0 ≤ f) (h1 : f < (gl xss 0).length) : gi (gl xss k) (gi (gl xss i) f) = gi (gl xss i) (gi (gl xss k) f) := by
 obtain ⟨q, rfl⟩ : ∃ q : Nat, f = q := ⟨f.toNat, by omega⟩
 exact (hM.2.2.2.1 i hi k hk hik q (by omega)).1

/-! the ends of an edge -/
theorem bag_iff {Vl El : List Int} {m : Nat} : ∀ f, (∀ k : Nat, k < f → 0 ≤ gi El k ∧ gi El k < m) → ∀ (e : Int), 0 ≤ e → ∀ x, x ∈ gl (bag Vl El m f) e ↔ ∃ k : Nat, k < f ∧ gi El k = e ∧ gi Vl k = x
 | 0, _, e, he, x => by
  rw [show bag Vl El m 0 = List.replicate m [] from rfl, gl_blank]
  exact ⟨fun h => (nomatch h), fun ⟨k, hk, _⟩ => absurd hk (Nat.not_lt_zero k)⟩
 | f + 1, h, e, he, x => by
  have hf := h f (by omega)
  have ih := bag_iff (Vl := Vl) f (fun k hk => h k (by omega))
  rw [bag, gl_set2 e he (by rw [bag_len]; omega)]
  split
  ·rename_i hee
   rw [List.mem_append, ih _ hf.1 x, List.mem_singleton]
   constructor
   ·rintro (⟨k, hk, h1, h2⟩ | rfl)
    ·exact ⟨k, by omega, by omega, h2⟩
    ·exact ⟨f, by omega, by omega, rfl⟩
   ·rintro ⟨k, hk, h1, h2⟩
    by_cases hkf : k = f
    ·subst hkf; exact .inr h2.symm
    ·exact .inl ⟨k, by omega, by omega, h2⟩
  ·rename_i hee
   rw [ih e he x]
   constructor
   ·rintro ⟨k, hk, h1, h2⟩; exact ⟨k, by omega, h1, h2⟩
   ·rintro ⟨k, hk, h1, h2⟩
    by_cases hkf : k = f
    ·subst hkf; omega
    ·exact ⟨k, by omega, h1, h2⟩
theorem ends_iff {xss : List (List Int)} (hM : Mani xss) (e : Int) (he : 0 ≤ e) (x : Int) : x ∈ gl (endsL xss) e ↔ ∃ k : Nat, k < (gl xss 0).length ∧ gi (facesL xss 1) k = e ∧ gi (facesL xss 0) k = x := by
 rw [endsL, gl_ends, cs_mem, bag_iff _ (fun k hk => by have := faces_in hM 1 k hk; unfold edgesN; omega) e he]
theorem bagP_iff {m : Nat} (ps : List (Int × Int)) : (∀ p ∈ ps, 0 ≤ p.1 ∧ p.1 < m) → ∀ e : Int, 0 ≤ e → ∀ x, x ∈ gl (bagP m ps) e ↔ (e, x) ∈ ps := by
 induction ps using snoc_ind with
 | h0 =>
  intro _ e he x
  rw [show bagP m [] = List.replicate m [] from rfl, gl_blank]
  exact ⟨fun h => (nomatch h), fun h => (nomatch h)⟩
 | h1 l a ih =>
  intro h e he x
  have ha := h a (by simp)
  have ih := ih (fun p hp => h p (by simp [hp]))
  rw [bagP_snoc, gl_set2 e he (by rw [bagP_len]; omega)]
  split
  ·rename_i hee
   rw [List.mem_append, ih _ ha.1 x, List.mem_singleton, List.mem_append, List.mem_singleton]
   have e1 : a.1 = e := by omega
   rw [e1]
   constructor
   ·rintro (h | h)
    ·exact .inl h
    ·exact .inr (by rw [← e1, h])
   ·rintro (h | h)
    ·exact .inl h
    ·exact .inr (by rw [← h])
  ·rename_i hee
   rw [ih e he x, List.mem_append, List.mem_singleton]
   constructor
   ·exact .inl
   ·rintro (h | h)
    ·exact h
    ·exact absurd (by rw [← h]; exact Int.toNat_of_nonneg he) hee
theorem arcs_iff (En : List (List Int)) : ∀ (e : Nat) (p : Int × Int), p ∈ arcs En e ↔ ∃ j : Nat, j < e ∧ (gl En j).length = 2 ∧ (p = (gi (gl En j) 0, gi (gl En j) 1) ∨ p = (gi (gl En j) 1, gi (gl En j) 0))
 | 0, p => ⟨fun h => (by cases h), fun ⟨j, hj, _⟩ => absurd hj (Nat.not_lt_zero j)⟩
 | e + 1, p => by
  have ih := arcs_iff En e p
  unfold arcs
  split
  ·rename_i h2
   rw [List.mem_append, List.mem_append, List.mem_singleton, List.mem_singleton, ih]
   constructor
   ·rintro ((⟨j, hj, h⟩ | h) | h)
    ·exact ⟨j, by omega, h⟩
    ·exact ⟨e, by omega, h2, .inl h⟩
    ·exact ⟨e, by omega, h2, .inr h⟩
   ·rintro ⟨j, hj, h, h'⟩
    by_cases hje : j = e
    ·subst hje
     rcases h' with h' | h'
     ·exact .inl (.inr h')
     ·exact .inr h'
    ·exact .inl (.inl ⟨j, by omega, h, h'⟩)
  ·rename_i h2
   rw [ih]
   constructor
   ·rintro ⟨j, hj, h⟩; exact ⟨j, by omega, h⟩
   ·rintro ⟨j, hj, h, h'⟩
    by_cases hje : j = e
    ·subst hje; exact absurd h h2
    ·exact ⟨j, by omega, h, h'⟩
theorem nb_iff {xss : List (List Int)} (hM : Mani xss) (u : Int) (hu : 0 ≤ u) (x : Int) : x ∈ gl (nbL xss) u ↔ ∃ j : Nat, j < edgesN xss ∧ (gl (endsL xss) j).length = 2 ∧ ((u, x) = (gi (gl (endsL xss) j) 0, gi (gl (endsL xss) j) 1) ∨ (u, x) = (gi (gl (endsL xss) j) 1, gi (gl (endsL xss) j) 0)) := by
 have hin := arcs_in (En := endsL xss) (b := (vertsN xss : Int)) (fun e => endsL_mem hM e (by omega)) (edgesN xss)
 rw [nbL, gl_endsP, cs_mem, bagP_iff _ (fun p hp => (hin p hp).1) u hu, arcs_iff]
theorem nb_symm {xss : List (List Int)} (hM : Mani xss) {u x : Int} (hu : 0 ≤ u) (h : x ∈ gl (nbL xss) u) : u ∈ gl (nbL xss) x := by
 have hx := ((nb_gr hM).row u hu).1 x h
 obtain ⟨j, hj, h2, h3⟩ := (nb_iff hM u hu x).1 h
 rw [nb_iff hM x hx.1]
 refine ⟨j, hj, h2, ?_⟩
 simp only [Prod.mk.injEq] at h3 ⊢
 rcases h3 with h3 | h3
 ·exact .inr ⟨h3.2, h3.1⟩
 ·exact .inl ⟨h3.2, h3.1⟩

theorem ends_two {xss : List (List Int)} (hM : Mani xss) (h2 : 1 < xss.length) {f : Int} (h0 : 0 ≤ f) (h1 : f < (gl xss 0).length) {g : Int} (hr : Reach (xss.eraseIdx 1) f g) :
    (gi (facesL xss 0) g = gi (facesL xss 0) f ∧ gi (facesL xss 0) (gi (gl xss 0) g) = gi (facesL xss 0) (gi (gl xss 0) f)) ∨ (gi (facesL xss 0) g = gi (facesL xss 0) (gi (gl xss 0) f) ∧ gi (facesL xss 0) (gi (gl xss 0) g) = gi (facesL xss 0) f) := by
  induction hr with
  | refl => exact .inl ⟨rfl, rfl⟩
  | step hr hp ih =>
    rename_i y p
    have hy := Reach.range (hM.2.2.1.sys.erase 1) h0 h1 hr
    obtain ⟨k, hk, hk1, rfl⟩ := erase_of hp
    have hL : 0 < xss.length := by omega
    by_cases hk0 : k = 0
    · subst hk0
      have e := hM.two hL hy.1 hy.2
      have e : gi (gl xss ((0 : Nat) : Int)) (gi (gl xss ((0 : Nat) : Int)) y) = y := e
      simp only [Int.natCast_zero] at e ⊢
      rw [e]
      rcases ih with ⟨a, b⟩ | ⟨a, b⟩
      · exact .inr ⟨b, a⟩
      · exact .inl ⟨b, a⟩
    · have e := hM.comm hL hk (by omega) hy.1 hy.2
      have h0y := hM.in_ hL hy.1 hy.2
      have v1 := faces_move hM hk hk0 hy.1 hy.2
      have v2 := faces_move hM hk hk0 h0y.1 h0y.2
      rw [e] at v2
      simp only [Int.natCast_zero] at v2
      rw [v1, v2]
      exact ih
/-- the vertices of a flag and of the flag behind move 0 are one, or neighbours -/
theorem nb_flag {xss : List (List Int)} (hG : Grph xss) {f : Int} (h0 : 0 ≤ f) (h1 : f < (gl xss 0).length) : gi (facesL xss 0) (gi (gl xss 0) f) = gi (facesL xss 0) f ∨ gi (facesL xss 0) (gi (gl xss 0) f) ∈ gl (nbL xss) (gi (facesL xss 0) f) := by
 have hM := hG.1
 have h2 : 1 < xss.length := hG.2
 by_cases he : gi (facesL xss 0) (gi (gl xss 0) f) = gi (facesL xss 0) f
 ·exact .inl he
 ·right
  have hL : 0 < xss.length := by omega
  have hf0 := hM.in_ hL h0 h1
  simp only [Int.natCast_zero] at hf0
  obtain ⟨q, rfl⟩ : ∃ q : Nat, f = q := ⟨f.toNat, by omega⟩
  have hE := faces_in hM 1 q (by omega)
  have hV := faces_in hM 0 q (by omega)
  have hmv := faces_move hM (i := 1) hL (by omega) h0 h1
  simp only [Int.natCast_zero] at hmv
  generalize hee : gi (facesL xss 1) q = e at *
  generalize hva : gi (facesL xss 0) q = a at *
  generalize hvb : gi (facesL xss 0) (gi (gl xss 0) q) = b at *
  have hmem : ∀ x, x ∈ gl (endsL xss) e ↔ x = a ∨ x = b := by
   intro x
   rw [ends_iff hM e hE.1 x]
   constructor
   ·rintro ⟨k, hk, hke, rfl⟩
    have hr := faces_same hM (i := 1) h0 h1 (g := (k : Int)) (by omega) (by omega) (by rw [hee, hke])
    rcases ends_two hM h2 h0 h1 hr with ⟨r, _⟩ | ⟨r, _⟩
    ·rw [r]; exact .inl hva
    ·rw [r]; exact .inr hvb
   ·rintro (rfl | rfl)
    ·exact ⟨q, by omega, hee, hva⟩
    ·refine ⟨(gi (gl xss 0) q).toNat, by omega, ?_, ?_⟩
     ·rw [Int.toNat_of_nonneg hf0.1]; exact hmv
     ·rw [Int.toNat_of_nonneg hf0.1]; exact hvb
  have hnd : (gl (endsL xss) e).Nodup := by
   rw [endsL]
   exact (ends_SA _ _ _ _ _).nodup
  have hlen : (gl (endsL xss) e).length = 2 := by
   have l1 := sub_len (gl (endsL xss) e) [a, b] hnd (fun x hx => by rcases (hmem x).1 hx with rfl | rfl <;> simp)
   have l2 := sub_len [a, b] (gl (endsL xss) e) (by simp; exact fun h => he h.symm) (fun x hx => (hmem x).2 (by simpa using hx))
   simp at l1 l2
   omega
  obtain ⟨j, rfl⟩ : ∃ j : Nat, e = j := ⟨e.toNat, by omega⟩
  rw [nb_iff hM a hV.1]
  refine ⟨j, by unfold edgesN; omega, hlen, ?_⟩
  generalize gl (endsL xss) (j : Int) = l at *
  match l, hlen with
  | [x, y], _ =>
   have hx := (hmem x).1 (by simp)
   have hy := (hmem y).1 (by simp)
   simp at hnd
   simp only [Prod.mk.injEq]
   show (a = x ∧ b = y) ∨ (a = y ∧ b = x)
   rcases hx with rfl | rfl <;> rcases hy with rfl | rfl
   ·exact absurd rfl hnd
   ·exact .inl ⟨rfl, rfl⟩
   ·exact .inr ⟨rfl, rfl⟩
   ·exact absurd rfl hnd
theorem verts_conn {xss : List (List Int)} (hG : Grph xss) {S : Int → Prop} (hS : ∀ u, 0 ≤ u → S u → ∀ x ∈ gl (nbL xss) u, S x) {v u : Int} (h0 : 0 ≤ v) (h1 : v < vertsN xss) (h2 : 0 ≤ u) (h3 : u < vertsN xss) (hv : S v) : S u := by
 have hM := hG.1
 have hb : ((vertsN xss : Nat) : Int) = facesN xss 0 := by have := facesN_le xss 0; unfold vertsN; omega
 obtain ⟨f, hf, rfl⟩ := faces_hit hM 0 v h0 (by omega)
 obtain ⟨g, hg, rfl⟩ := faces_hit hM 0 u h2 (by omega)
 have hr := hM.any (f := (f : Int)) (g := (g : Int)) (by omega) (by omega) (by omega) (by omega)
 have key : ∀ y, Reach xss f y → S (gi (facesL xss 0) y) := by
  intro y hy
  induction hy with
  | refl => exact hv
  | step hr hp ih =>
   rename_i y p
   have hy := Reach.range hM.2.2.1.sys (by omega) (by omega) hr
   obtain ⟨k, hk, rfl⟩ := List.mem_iff_getElem.1 hp
   rw [← gl_mem hk]
   by_cases hk0 : k = 0
   ·subst hk0
    simp only [Int.natCast_zero]
    rcases nb_flag hG hy.1 hy.2 with h | h
    ·rw [h]; exact ih
    ·have hvy := faces_in hM 0 y.toNat (by omega)
     rw [Int.toNat_of_nonneg hy.1] at hvy
     exact hS _ hvy.1 ih _ h
   ·rw [faces_move hM hk hk0 hy.1 hy.2]; exact ih
 exact key _ hr

/-! what the search by distances finds -/
structure BQ (n : Nat) (next : List (List Int)) (v : Int) (i : Nat) (st : List Int × List Int) : Prop where
 bf : BF n st
 at0 : gi st.1 v = 0
 vin : v ∈ st.2
 all : ∀ x : Int, 0 ≤ x → x < n → 0 ≤ gi st.1 x → x ∈ st.2
 mono : ∀ a b : Nat, a ≤ b → b < st.2.length → gi st.1 (gi st.2 a) ≤ gi st.1 (gi st.2 b)
 gap : i < st.2.length → ∀ b : Nat, b < st.2.length → gi st.1 (gi st.2 b) ≤ gi st.1 (gi st.2 i) + 1
 don : ∀ a : Nat, a < i → a < st.2.length → ∀ x ∈ gl next (gi st.2 a), 0 ≤ gi st.1 x ∧ gi st.1 x ≤ gi st.1 (gi st.2 a) + 1
 par : ∀ x ∈ st.2, x ≠ v → ∃ y ∈ st.2, x ∈ gl next y ∧ gi st.1 x = gi st.1 y + 1

theorem BQ.init {n : Nat} {next : List (List Int)} {v : Int} (h0 : 0 ≤ v) (h1 : v < n) : BQ n next v 0 (initB n v) where
 bf := BF.init h0 h1
 at0 := by
  show gi ((List.replicate n (-1)).set v.toNat 0) v = 0
  rw [gi_setI (by simp; omega) h0, if_pos (by omega)]
 vin := by simp [initB]
 all := fun x hx hxn h => by
  have h : 0 ≤ gi ((List.replicate n (-1)).set v.toNat 0) x := h
  rw [gi_setI (by simp; omega) hx] at h
  split at h
  ·simp [initB]; omega
  ·rw [gi_rep hx hxn] at h; omega
 mono := fun a b hab hb => by
  have hb : b < 1 := hb
  obtain rfl : b = 0 := by omega
  obtain rfl : a = 0 := by omega
  exact Int.le_refl _
 gap := fun _ b hb => by
  have hb : b < 1 := hb
  obtain rfl : b = 0 := by omega
  omega
 don := fun a ha => absurd ha (Nat.not_lt_zero a)
 par := fun x hx hne => by simp [initB] at hx; exact absurd hx hne

theorem gi_snocL {l : List Int} {x : Int} {k : Nat} (h : k < l.length) : gi (l ++ [x]) (k : Int) = gi l (k : Int) := by simp [gi, List.getD_eq_getElem?_getD, List.getElem?_append_left h]
theorem gi_snocR {l : List Int} {x : Int} : gi (l ++ [x]) (l.length : Int) = x := by simp [gi, List.getD_eq_getElem?_getD]
theorem stepB_new {u x : Int} {st : List Int × List Int} (h : gi st.1 x < 0) (hx : 0 ≤ x) : stepB (-1) u st x = (st.1.set x.toNat (gi st.1 u + 1), st.2 ++ [x]) := by
 unfold stepB; rw [if_pos ⟨h, by omega⟩]
theorem stepB_old {u x : Int} {st : List Int × List Int} (h : ¬ gi st.1 x < 0) : stepB (-1) u st x = st := by
 unfold stepB; rw [if_neg (fun h' => h h'.1)]
/-- one neighbour met -/
theorem BQ.step {n : Nat} {next : List (List Int)} {v : Int} {i : Nat} {st : List Int × List Int} (hg : Gr n next) (h : BQ n next v i st) (hi : i < st.2.length) {x : Int} (hx : x ∈ gl next (gi st.2 i)) (h0 : 0 ≤ x) (h1 : x < n) :
    BQ n next v i (stepB (-1) (gi st.2 i) st x) ∧ i < (stepB (-1) (gi st.2 i) st x).2.length ∧ gi (stepB (-1) (gi st.2 i) st x).2 i = gi st.2 i ∧ gi (stepB (-1) (gi st.2 i) st x).1 (gi st.2 i) = gi st.1 (gi st.2 i) ∧
    (0 ≤ gi (stepB (-1) (gi st.2 i) st x).1 x ∧ gi (stepB (-1) (gi st.2 i) st x).1 x ≤ gi st.1 (gi st.2 i) + 1) ∧ ∀ y, 0 ≤ y → 0 ≤ gi st.1 y → gi (stepB (-1) (gi st.2 i) st x).1 y = gi st.1 y := by
  have hum : gi st.2 (i : Int) ∈ st.2 := gi_in hi
  have hur := h.bf.rng _ hum
  have hup := h.bf.pos _ hum
  by_cases hn : gi st.1 x < 0
  · have hbf := (h.bf.step (wo := -1) hum h0 h1).1
    rw [stepB_new hn h0] at hbf ⊢
    generalize hu : gi st.2 (i : Int) = u at *
    have hxl : x.toNat < st.1.length := by rw [h.bf.len]; omega
    have old : ∀ y, 0 ≤ y → 0 ≤ gi st.1 y → gi (st.1.set x.toNat (gi st.1 u + 1)) y = gi st.1 y := fun y hy hp => by
      rw [gi_setI hxl hy]
      split
      · rename_i e; rw [show y = x by omega] at hp; omega
      · rfl
    have new : gi (st.1.set x.toNat (gi st.1 u + 1)) x = gi st.1 u + 1 := by rw [gi_setI hxl h0, if_pos (by omega)]
    have oldq : ∀ b : Nat, b < st.2.length → gi (st.1.set x.toNat (gi st.1 u + 1)) (gi (st.2 ++ [x]) b) = gi st.1 (gi st.2 b) := fun b hb => by
      rw [gi_snocL hb]
      have hm : gi st.2 (b : Int) ∈ st.2 := gi_in hb
      exact old _ (h.bf.rng _ hm).1 (h.bf.pos _ hm)
    have newq : gi (st.1.set x.toNat (gi st.1 u + 1)) (gi (st.2 ++ [x]) (st.2.length : Int)) = gi st.1 u + 1 := by rw [gi_snocR, new]
    have hl : (st.2 ++ [x]).length = st.2.length + 1 := by simp
    have hvr := h.bf.rng _ h.vin
    have hgap := h.gap hi
    rw [hu] at hgap
    refine ⟨⟨hbf, ?_, ?_, ?_, ?_, ?_, ?_, ?_⟩, by show i < (st.2 ++ [x]).length; omega, by rw [gi_snocL hi, hu], old u hur.1 hup, ⟨by rw [new]; omega, by rw [new]; exact Int.le_refl _⟩, old⟩
    · show gi (st.1.set _ _) v = 0
      rw [old v hvr.1 (by rw [h.at0]; exact Int.le_refl _), h.at0]
    · exact List.mem_append_left _ h.vin
    · intro y hy hyn hp
      by_cases hyx : y = x
      · subst hyx; exact List.mem_append_right _ (by simp)
      · refine List.mem_append_left _ (h.all y hy hyn ?_)
        have hp : 0 ≤ gi (st.1.set x.toNat (gi st.1 u + 1)) y := hp
        rw [gi_setI hxl hy, if_neg (by omega)] at hp
        exact hp
    · intro a b hab hb
      have hb : b < (st.2 ++ [x]).length := hb
      by_cases hbl : b < st.2.length
      · show gi (st.1.set _ _) (gi (st.2 ++ [x]) a) ≤ gi (st.1.set _ _) (gi (st.2 ++ [x]) b)
        rw [oldq a (by omega), oldq b hbl]
        exact h.mono a b hab hbl
      · obtain rfl : b = st.2.length := by omega
        show gi (st.1.set _ _) (gi (st.2 ++ [x]) a) ≤ gi (st.1.set _ _) (gi (st.2 ++ [x]) _)
        rw [newq]
        by_cases hal : a < st.2.length
        · rw [oldq a hal]; exact hgap a hal
        · obtain rfl : a = st.2.length := by omega
          rw [newq]; exact Int.le_refl _
    · intro _ b hb
      have hb : b < (st.2 ++ [x]).length := hb
      show gi (st.1.set _ _) (gi (st.2 ++ [x]) b) ≤ gi (st.1.set _ _) (gi (st.2 ++ [x]) i) + 1
      rw [oldq i hi, hu]
      by_cases hbl : b < st.2.length
      · rw [oldq b hbl]; exact hgap b hbl
      · obtain rfl : b = st.2.length := by omega
        rw [newq]; exact Int.le_refl _
    · intro a ha hal y hy
      have hy : y ∈ gl next (gi (st.2 ++ [x]) a) := hy
      rw [gi_snocL (by omega)] at hy
      have hd := h.don a ha (by omega) y hy
      have hy0 : 0 ≤ y := ((hg.row _ (h.bf.rng _ (gi_in (show a < st.2.length by omega))).1).1 y hy).1
      show 0 ≤ gi (st.1.set _ _) y ∧ gi (st.1.set _ _) y ≤ gi (st.1.set _ _) (gi (st.2 ++ [x]) a) + 1
      rw [old y hy0 hd.1, oldq a (by omega)]
      exact hd
    · intro y hy hne
      have hy : y ∈ st.2 ++ [x] := hy
      rcases List.mem_append.1 hy with hy | hy
      · obtain ⟨z, hz, hzy, hzd⟩ := h.par y hy hne
        refine ⟨z, List.mem_append_left _ hz, hzy, ?_⟩
        show gi (st.1.set _ _) y = gi (st.1.set _ _) z + 1
        rw [old y (h.bf.rng y hy).1 (h.bf.pos y hy), old z (h.bf.rng z hz).1 (h.bf.pos z hz)]
        exact hzd
      · simp at hy; subst hy
        refine ⟨u, List.mem_append_left _ hum, hx, ?_⟩
        show gi (st.1.set _ _) y = gi (st.1.set _ _) u + 1
        rw [new, old u hur.1 hup]
  · rw [stepB_old hn]
    have hxq := h.all x h0 h1 (by omega)
    obtain ⟨b, hb, hbx⟩ := List.mem_iff_getElem.1 hxq
    have hg := h.gap hi b hb
    rw [gi_mem hb, hbx] at hg
    exact ⟨h, hi, rfl, rfl, ⟨by omega, hg⟩, fun _ _ _ => rfl⟩

theorem BQ.row {n : Nat} {next : List (List Int)} {v : Int} {i : Nat} (hg : Gr n next) (u : Int) (r : List Int) : ∀ {st : List Int × List Int}, BQ n next v i st → i < st.2.length → gi st.2 i = u → (∀ x ∈ r, x ∈ gl next u) →
  BQ n next v i (rowB (-1) u r st) ∧ i < (rowB (-1) u r st).2.length ∧ gi (rowB (-1) u r st).2 i = u ∧ gi (rowB (-1) u r st).1 u = gi st.1 u ∧ (∀ x ∈ r, 0 ≤ gi (rowB (-1) u r st).1 x ∧ gi (rowB (-1) u r st).1 x ≤ gi st.1 u + 1) := by
 induction r using snoc_ind with
 | h0 => intro st h hi hu _; exact ⟨h, hi, hu, rfl, fun x hx => by cases hx⟩
 | h1 l a ih =>
  intro st h hi hu hr
  obtain ⟨h1, h2, h3, h4, h5⟩ := ih h hi hu (fun x hx => hr x (by simp [hx]))
  have ha := hr a (by simp)
  have hur := h1.bf.rng _ (gi_in h2)
  rw [h3] at hur
  have har := (hg.row u hur.1).1 a ha
  rw [rowB_snoc]
  have hs := h1.step hg h2 (x := a) (by rw [h3]; exact ha) har.1 har.2
  rw [h3] at hs
  obtain ⟨s1, s2, s3, s4, s5, s6⟩ := hs
  refine ⟨s1, s2, s3, by rw [s4, h4], fun x hx => ?_⟩
  rcases List.mem_append.1 hx with hx | hx
  ·have hx5 := h5 x hx
   have hxr := (hg.row u hur.1).1 x (hr x (by simp [hx]))
   rw [s6 x hxr.1 hx5.1]
   exact hx5
  ·simp at hx; subst hx
   rw [h4] at s5
   exact s5
theorem BQ.next {n : Nat} {next : List (List Int)} {v : Int} {i : Nat} {st : List Int × List Int} (hg : Gr n next) (h : BQ n next v i st) (hi : i < st.2.length) : BQ n next v (i + 1) (rowB (-1) (gi st.2 i) (gl next (gi st.2 i)) st) := by
 obtain ⟨h1, h2, h3, h4, h5⟩ := BQ.row hg (gi st.2 i) (gl next (gi st.2 i)) h hi rfl (fun x hx => hx)
 refine ⟨h1.bf, h1.at0, h1.vin, h1.all, h1.mono, fun hi1 b hb => ?_, fun a ha hal x hx => ?_, h1.par⟩
 ·have hg1 := h1.gap h2 b hb
  have hm := h1.mono i (i + 1) (by omega) hi1
  omega
 ·by_cases hai : a = i
  ·subst hai
   rw [h3] at hx ⊢
   rw [h4]
   exact h5 x hx
  ·exact h1.don a (by omega) hal x hx
theorem bfs_BQ {n : Nat} {next : List (List Int)} {v : Int} (hg : Gr n next) : ∀ (f i : Nat) (st : List Int × List Int), BQ n next v i st → i ≤ st.2.length → n + 1 ≤ f + i → ∃ i', BQ n next v i' (bfsD next (-1) f i st) ∧ (bfsD next (-1) f i st).2.length ≤ i'
 | 0, i, st, h, hi, hf => by have := h.bf.len2; omega
 | f + 1, i, st, h, hi, hf => by
  rw [bfsD]
  split
  ·rename_i hlt
   have hn := h.next hg hlt
   have hpre := (BF.row (wo := -1) (gl next (gi st.2 i)) h.bf (gi_in hlt) ((hg.row _ (h.bf.rng _ (gi_in hlt)).1).1)).2
   have := hpre.length_le
   exact bfs_BQ hg f (i + 1) _ hn (by omega) (by omega)
  ·exact ⟨i, h, by omega⟩
/-- distances: 0 at the start; defined at the neighbours of what is met, and at most one more; and each other one has a neighbour one nearer -/
structure DF (n : Nat) (next : List (List Int)) (v : Int) (far : List Int) : Prop where
 len : far.length = n
 at0 : gi far v = 0
 nxt : ∀ y : Int, 0 ≤ y → y < n → 0 ≤ gi far y → ∀ x ∈ gl next y, 0 ≤ gi far x ∧ gi far x ≤ gi far y + 1
 par : ∀ x : Int, 0 ≤ x → x < n → 0 ≤ gi far x → x ≠ v → ∃ y : Int, (0 ≤ y ∧ y < n) ∧ x ∈ gl next y ∧ 0 ≤ gi far y ∧ gi far x = gi far y + 1
 top : ∀ x : Int, 0 ≤ x → x < n → gi far x < n
theorem dist_DF {n : Nat} {next : List (List Int)} {v : Int} (hg : Gr n next) (h0 : 0 ≤ v) (h1 : v < n) : DF n next v (distP next (-1) v).1 := by
 have hB := dist_BF (wo := -1) hg h0 h1
 unfold distP at hB ⊢
 rw [hg.len] at hB ⊢
 obtain ⟨i', hq, hi'⟩ := bfs_BQ hg (n + 1) 0 (initB n v) (BQ.init h0 h1) (Nat.zero_le _) (by omega)
 generalize bfsD next (-1) (n + 1) 0 (initB n v) = st at *
 refine ⟨hB.len, hq.at0, fun y hy hyn hp x hx => ?_, fun x hx hxn hp hne => ?_, fun x hx hxn => ?_⟩
 ·obtain ⟨a, ha, hay⟩ := List.mem_iff_getElem.1 (hq.all y hy hyn hp)
  have hd := hq.don a (by omega) ha
  rw [gi_mem ha, hay] at hd
  exact hd x hx
 ·obtain ⟨y, hy, hxy, hd⟩ := hq.par x (hq.all x hx hxn hp) hne
  exact ⟨y, hB.rng y hy, hxy, hB.pos y hy, hd⟩
 ·have h3 := hB.val _ (gi_in2 hx (by rw [hB.len]; exact hxn))
  have h4 := hB.len2
  omega
/-- in the graph of a maniplex all vertices are met -/
theorem dist_all {xss : List (List Int)} (hG : Grph xss) {v : Int} (h0 : 0 ≤ v) (h1 : v < vertsN xss) {u : Int} (h2 : 0 ≤ u) (h3 : u < vertsN xss) : 0 ≤ gi (distP (nbL xss) (-1) v).1 u := by
 have hg := nb_gr hG.1
 have hD := dist_DF hg h0 h1
 have key := verts_conn hG (S := fun y => (0 ≤ y ∧ y < vertsN xss) ∧ 0 ≤ gi (distP (nbL xss) (-1) v).1 y) (fun y hy hS x hx => ⟨(hg.row y hy).1 x hx, (hD.nxt y hy hS.1.2 hS.2 x hx).1⟩) h0 h1 h2 h3 ⟨⟨h0, h1⟩, by rw [hD.at0]; exact Int.le_refl _⟩
 exact key.2
end Go.Proofs.YtbhnfehcpnnjcaaGreatDoor.Vc
/-
 Plain mathematics of ways in a graph: distances are the same both ways. Conditions: as each states them. No program in sight.
-/
namespace Go.Proofs.YtbhnfehcpnnjcaaGreatDoor.Vc

/-! ways in a graph -/
inductive PathK (next : List (List Int)) : Nat → Int → Int → Prop
 | nil (a : Int) : PathK next 0 a a
 | snoc {k : Nat} {a b c : Int} : PathK next k a b → c ∈ gl next b → PathK next (k + 1) a c
theorem PathK.cons {next : List (List Int)} {k : Nat} {a b c : Int} (h0 : b ∈ gl next a) (h : PathK next k b c) : PathK next (k + 1) a c := by
 induction h with
 | nil => exact .snoc (.nil a) h0
 | snoc _ hc ih => exact .snoc (ih h0) hc
/-- neighbours are neighbours of each other -/
def SymG (n : Nat) (next : List (List Int)) : Prop := ∀ u x : Int, 0 ≤ u → u < n → x ∈ gl next u → u ∈ gl next x
theorem PathK.range {n : Nat} {next : List (List Int)} (hg : Gr n next) {k : Nat} {a b : Int} (h0 : 0 ≤ a) (h1 : a < n) (h : PathK next k a b) : 0 ≤ b ∧ b < n := by
 induction h with
 | nil => exact ⟨h0, h1⟩
 | snoc _ hc ih =>
  have ih := ih h0 h1
  exact (hg.row _ ih.1).1 _ hc
theorem PathK.rev {n : Nat} {next : List (List Int)} (hg : Gr n next) (hs : SymG n next) {k : Nat} {a b : Int} (h0 : 0 ≤ a) (h1 : a < n) (h : PathK next k a b) : PathK next k b a := by
 induction h with
 | nil => exact .nil _
 | snoc hp hc ih =>
  have hr := hp.range hg h0 h1
  exact PathK.cons (hs _ _ hr.1 hr.2 hc) (ih h0 h1)
theorem dist_path {n : Nat} {next : List (List Int)} {v : Int} {far : List Int} (hD : DF n next v far) : ∀ (d : Nat) (x : Int), 0 ≤ x → x < n → gi far x = d → PathK next d v x := by
 intro d
 induction d with
 | zero =>
  intro x h0 h1 hd
  by_cases e : x = v
  ·subst e; exact .nil _
  ·obtain ⟨y, _, _, hy, he⟩ := hD.par x h0 h1 (by omega) e
   omega
 | succ d ih =>
  intro x h0 h1 hd
  by_cases e : x = v
  ·subst e
   rw [hD.at0] at hd
   omega
  ·obtain ⟨y, hyr, hxy, hy, he⟩ := hD.par x h0 h1 (by omega) e
   exact .snoc (ih y hyr.1 hyr.2 (by omega)) hxy
theorem path_dist {n : Nat} {next : List (List Int)} {v : Int} {far : List Int} (hg : Gr n next) (hD : DF n next v far) (h0 : 0 ≤ v) (h1 : v < n) {k : Nat} {x : Int} (h : PathK next k v x) : 0 ≤ gi far x ∧ gi far x ≤ k := by
 induction h with
 | nil => rw [hD.at0]; omega
 | snoc hp hc ih =>
  have hr := hp.range hg h0 h1
  have ih := ih hD h0 h1
  have := hD.nxt _ hr.1 hr.2 ih.1 _ hc
  omega
/-- distances are the same both ways -/
theorem dist_symm {n : Nat} {next : List (List Int)} (hg : Gr n next) (hs : SymG n next) {u v : Int} (h0 : 0 ≤ u) (h1 : u < n) (h2 : 0 ≤ v) (h3 : v < n) (hp : 0 ≤ gi (distP next (-1) u).1 v) : gi (distP next (-1) v).1 u = gi (distP next (-1) u).1 v := by
 have hU := dist_DF hg h0 h1
 have hV := dist_DF hg h2 h3
 have p1 := (dist_path hU (gi (distP next (-1) u).1 v).toNat v h2 h3 (by omega)).rev hg hs h0 h1
 have d1 := path_dist hg hV h2 h3 p1
 have p2 := (dist_path hV (gi (distP next (-1) v).1 u).toNat u h0 h1 (by omega)).rev hg hs h2 h3
 have d2 := path_dist hg hU h0 h1 p2
 omega

/-! the two ends of an edge -/
theorem ends_lt {xss : List (List Int)} (e : Nat) (h2 : (gl (endsL xss) (e : Int)).length = 2) : gi (gl (endsL xss) (e : Int)) 0 < gi (gl (endsL xss) (e : Int)) 1 := by
 have hs : SA (gl (endsL xss) (e : Int)) := by rw [endsL, gl_ends]; exact cs_SA _
 match hl : gl (endsL xss) (e : Int), h2, hs with
 | [x, y], _, hs =>
  unfold SA at hs
  simp only [List.pairwise_cons] at hs
  exact hs.1 y (by simp)
theorem nb_symG {xss : List (List Int)} (hM : Mani xss) : SymG (vertsN xss) (nbL xss) := fun _ _ hu _ h => nb_symm hM hu h
end Go.Proofs.YtbhnfehcpnnjcaaGreatDoor.Vc
/-
 The walks of the program's forms, and of comparisons on both sides. Conditions: as each states them.
-/
namespace Go.Proofs.YtbhnfehcpnnjcaaGreatDoor.Vc
open Go.RowKit

end Go.Proofs.YtbhnfehcpnnjcaaGreatDoor.Vc
/-
 The walks of comparisons on both sides. Conditions: as each states them.
-/
namespace Go.Proofs.YtbhnfehcpnnjcaaGreatDoor.Vc
open Go.RowKit

/-! the program's side -/
/-! the reference's side -/
theorem l01Same_c (A : Option Addr) (n c : Nat) (xs : List Int) (A' : Option Addr) (n' c' : Nat) (ys : List Int) (w : World) (hR : RdI w A n xs) (hR' : RdI w A' n' ys) (hn : n ≤ 9223372036854775807) :
  Ret Tryz.prog 32 [.slice A n c, .slice A' n' c'] w (fun v w' => v = .bool (decide (xs = ys)) ∧ St w w' []) := by
 have hl := hR.1
 have hl' := hR'.1
 subst hl
 subst hl'
 refine Ret.of_cd Tryz.func32 rfl Tryz.ntmps32 rfl (post1 rfl) (Cd.seq (Cd.region (Ops.mb rfl rfl rfl (Ops.n (tQ (Cd.seq (Cd.seq (Cd.region (Ops.ms rfl rfl rfl ?_)))))))))
 refine Ops.len rfl rfl (Ops.ms rfl rfl rfl (Ops.len rfl rfl (Ops.neq rfl rfl rfl (Ops.n (tQ ?_)))))
 refine Cd.cond_p _ rfl (fun h => ?_) (fun h => ?_)
 ·refine Cd.seq (Cd.region (Ops.mb rfl rfl rfl (Ops.n (tQ (Cd.ret (thenQ_r (ret1_b rfl ?_)))))))
  exact ⟨by rw [decide_eq_false (fun e : xs = ys => h (by rw [e]))], St.refl _⟩
 refine Cd.skip (tQ (Cd.seq (Cd.seq (Cd.region (Ops.mi rfl rfl rfl (Ops.n (tQ (Cd.block ?_))))))))
 refine Cd.loop (α := Nat) (fun k => [(0, .slice A xs.length c), (1, .slice A' ys.length c'), (5, .int .i64 (k : Int))]) (fun k w' => St w w' [] ∧ k ≤ xs.length ∧ xs.take k = ys.take k) (fun k => xs.length - k) 0 ⟨rfl, rfl, rfl, trivial⟩ ⟨St.refl w, Nat.zero_le _, rfl⟩ ?_
 rintro k e w2 ⟨hS2, hk, hI⟩
 have hle : xs.length = ys.length := by omega
 refine Cd.seq (Cd.seq (Cd.region (Ops.mi rfl rfl rfl (Ops.ms rfl rfl rfl (Ops.len rfl rfl (Ops.lss rfl rfl rfl (Ops.n (tQ ?_))))))))
 refine Cd.cond_p _ rfl (fun h1 => ?_) (fun h1 => ?_)
 ·have hA := hS2.oldI hR
  have hB := hS2.oldI hR'
  have h2 : (k : Int) < ys.length := by omega
  have hx := gi_mem (p := xs) (k := k) (by omega)
  have hy := gi_mem (p := ys) (k := k) (by omega)
  refine Cd.skip (tQ (Cd.seq (Cd.block (Cd.seq ?_))))
  refine Cd.draw [.ex (.slice (A) (xs.length) (c)), .ex (.int .i64 ((k : Int))), .ex (.pointer (ptrAt (A) ((k : Int)).toNat)), .ex (.int .i64 (gi (xs) ((k : Int)))), .ex (.slice (A') (ys.length) (c')), .ex (.int .i64 ((k : Int))), .ex (.pointer (ptrAt (A') ((k : Int)).toNat)), .ex (.int .i64 (gi (ys) ((k : Int)))), .ex (.bool (decide (¬ (gi (xs) ((k : Int))) = (gi (ys) ((k : Int))))))] (by kernel_rfl) (by kernel_rfl) rfl (lx (lx (lx (lx (lx (lx (lx (lx (lx (fun _ h => by cases h)))))))))) ⟨?_, ?_, ?_, ?_, ?_, ?_, ?_, ?_, ?_, trivial⟩ ?_
  ·intro e1 w1 hb hp hun
   refine Ops.ms rfl rfl rfl (Ops.n (d0 (by exact rfl)))
  ·intro e1 w1 hb hp hun
   refine Ops.mi rfl rfl rfl (Ops.n (d0 (by exact rfl)))
  ·intro e1 w1 hb hp hun
   refine Ops.idx (hA.later hb).2 rfl rfl rfl (by omega) (by omega) (Ops.n (d0 (by exact rfl)))
  ·intro e1 w1 hb hp hun
   refine Ops.ld_int (hA.later hb) rfl (by omega) rfl rfl (Ops.n (d0 (by exact rfl)))
  ·intro e1 w1 hb hp hun
   refine Ops.ms rfl rfl rfl (Ops.n (d0 (by exact rfl)))
  ·intro e1 w1 hb hp hun
   refine Ops.mi rfl rfl rfl (Ops.n (d0 (by exact rfl)))
  ·intro e1 w1 hb hp hun
   refine Ops.idx (hB.later hb).2 rfl rfl rfl (by omega) (by omega) (Ops.n (d0 (by exact rfl)))
  ·intro e1 w1 hb hp hun
   refine Ops.ld_int (hB.later hb) rfl (by omega) rfl rfl (Ops.n (d0 (by exact rfl)))
  ·intro e1 w1 hb hp hun
   refine Ops.neq rfl rfl rfl (Ops.n (d0 (by exact rfl)))
  intro u w3 hb3 _
  have hS3 := hS2.later hb3
  refine tQ ?_
  refine Cd.cond_p _ rfl (fun h3 => ?_) (fun h3 => ?_)
  ·refine Cd.seq (Cd.region (Ops.mb rfl rfl rfl (Ops.n (tQ (Cd.ret (blockQ_r (thenQ_r (thenQ_r (blockQ_r ?_)))))))))
   refine thenQ_r (ret1_b rfl ?_)
   refine ⟨by rw [decide_eq_false (fun e : xs = ys => h3 (by rw [e]))], hS3⟩
  ·refine Cd.skip (blockQ_n (tQ (Cd.region (Ops.mi rfl rfl rfl (Ops.add rfl rfl rfl (by omega) (Ops.mi rfl rfl rfl (Ops.n (tQ ?_))))))))
   refine ⟨k + 1, by omega, ⟨rfl, rfl, rfl, trivial⟩, hS3, by omega, ?_⟩
   rw [take_succ_gi (by omega), take_succ_gi (by omega), hI, Classical.not_not.1 h3]
 ·refine Cd.exit (thenQ_x (thenQ_x (blockQ_x (tQ (Cd.seq (Cd.region (Ops.mb rfl rfl rfl (Ops.n (tQ ?_)))))))))
  refine Cd.ret (ret1_b rfl ?_)
  refine ⟨?_, hS2⟩
  rw [List.take_of_length_le (by omega), List.take_of_length_le (by omega)] at hI
  rw [decide_eq_true hI]

end Go.Proofs.YtbhnfehcpnnjcaaGreatDoor.Vc
/-
 The walk of the law FnExactIsDesk: it returns true. Conditions: as it states them.
-/
namespace Go.Proofs.YtbhnfehcpnnjcaaGreatDoor.Vc
open Go.RowKit

end Go.Proofs.YtbhnfehcpnnjcaaGreatDoor.Vc
/-
 Plain mathematics of the list of maniplexes: forms put in ascending order one by one, and that there is one such order. Conditions: as each states them. No program in sight.
-/
namespace Go.Proofs.YtbhnfehcpnnjcaaGreatDoor.Vc

abbrev Mx := List (List Int)
/-- not behind -/
def leM (a b : Mx) : Prop := ¬ lexCC b a < 0
theorem leM_of {a b : Mx} (h : lexCC a b < 0) : leM a b := fun h' => by rw [lexCC_swap] at h'; omega
theorem leM_cases {a b : Mx} (h : leM a b) : lexCC a b < 0 ∨ a = b := by
 by_cases e : a = b
 ·exact .inr e
 ·left
  unfold leM at h
  rw [lexCC_swap] at h
  have : lexCC a b ≠ 0 := fun h0 => e (lexCC_zero.1 h0)
  omega
theorem leM_trans {a b c : Mx} (h : leM a b) (h' : leM b c) : leM a c := by
 rcases leM_cases h with h | rfl
 ·rcases leM_cases h' with h' | rfl
  ·exact leM_of (lexCC_trans h h')
  ·exact leM_of h
 ·exact h'

/-- how many at the front are less -/
def atM (x : Mx) : List Mx → Nat
 | [] => 0
 | y :: l => if lexCC y x < 0 then atM x l + 1 else 0
/-- x put behind these -/
def insM (x : Mx) (l : List Mx) : List Mx := l.take (atM x l) ++ x :: l.drop (atM x l)
theorem ins_perm {α : Type} (x : α) (l : List α) (k : Nat) : (l.take k ++ x :: l.drop k).Perm (x :: l) := by
 have h : (l.take k ++ x :: l.drop k).Perm (x :: (l.take k ++ l.drop k)) := List.perm_middle
 rwa [List.take_append_drop] at h
theorem insM_perm (x : Mx) (l : List Mx) : (insM x l).Perm (x :: l) := ins_perm x l _
theorem insM_cons (x y : Mx) (l : List Mx) : insM x (y :: l) = if lexCC y x < 0 then y :: insM x l else x :: y :: l := by
 unfold insM
 rw [atM]
 split <;> simp
theorem insM_sorted (x : Mx) : ∀ {l : List Mx}, l.Pairwise leM → (insM x l).Pairwise leM
 | [], _ => by simp [insM, atM]
 | y :: l, h => by
  have h1 := List.pairwise_cons.1 h
  rw [insM_cons]
  split
  ·rename_i hy
   refine List.pairwise_cons.2 ⟨fun z hz => ?_, insM_sorted x h1.2⟩
   rcases List.mem_cons.1 ((insM_perm x l).mem_iff.1 hz) with rfl | hz
   ·exact leM_of hy
   ·exact h1.1 z hz
  ·rename_i hy
   refine List.pairwise_cons.2 ⟨fun z hz => ?_, h⟩
   rcases List.mem_cons.1 hz with rfl | hz
   ·exact hy
   ·exact leM_trans hy (h1.1 z hz)
def ordM (l : List Mx) : List Mx := l.foldl (fun o x => insM x o) []
/-! the list of a rank and a number of flags -/
def formsL (n F : Nat) : List Mx := forms n F (F * n + 1) 0 1 (blank n F)
def Own1 (N : Nat) (xss : Mx) : Prop := ∀ f, f < N → ¬ lexCC (formL N xss (f : Nat)) xss < 0
instance (N : Nat) (xss : Mx) : Decidable (Own1 N xss) := by unfold Own1; exact inferInstance
def ownL (n F : Nat) : List Mx := (formsL n F).filter fun L => decide (Own1 F L)
def listL (n F : Nat) : List Mx := ordM (ownL n F)
end Go.Proofs.YtbhnfehcpnnjcaaGreatDoor.Vc
/-
 The walks of the program's least form, and of the reference's numbers of orbits. Conditions: as each states them.
-/
namespace Go.Proofs.YtbhnfehcpnnjcaaGreatDoor.Vc
open Go.RowKit
section
variable {P : Program} {N : Nat} {ops : Array Oper} {K : Env → World → Prop} {rest : List Oper} {e : Env} {w : World} {d : Nat} {ty : TypeId} {pos : String} {af : Array Edge}
end

/-! the numbers of orbits -/
def fset (N : Nat) (xss : List (List Int)) : Nat → List (List (List Int))
 | 0 => []
 | k + 1 => if formL N xss k ∈ fset N xss k then fset N xss k else fset N xss k ++ [formL N xss k]
def orbN (N : Nat) (xss : List (List Int)) : Nat := if Own1 N xss then (fset N xss N).length else 0

end Go.Proofs.YtbhnfehcpnnjcaaGreatDoor.Vc
/-
 The library's IndexFunc and DeleteFunc over a row of structs of one slice, walked for any predicate; the rule of 'clear'. Conditions: the predicate's contract.
-/
namespace Go.Proofs.YtbhnfehcpnnjcaaGreatDoor.Vc
open Go.RowKit
section
variable {P : Program} {N : Nat} {ops : Array Oper} {K : Env → World → Prop} {rest : List Oper} {e : Env} {w0 w : World} {ks : List Ck} {d : Nat} {ty : TypeId} {pos : String} {af : Array Edge}
theorem setL_take : ∀ (cs vs : List Value) (o m : Nat), m ≤ o → (setL vs o cs).take m = vs.take m
 | [], _, _, _, _ => rfl
 | c :: r, vs, o, m, h => by
  show (setL (vs.set o c) (o + 1) r).take m = _
  rw [setL_take r _ _ _ (by omega), List.take_set_of_le h]
theorem isM_setL : ∀ {vs : List Value} (o : Nat) (cs : List Value), isM vs = false → (∀ u ∈ cs, u.oneCell' = true) → isM (setL vs o cs) = false
 | _, _, [], h, _ => h
 | vs, o, c :: r, h, hc => isM_setL (o + 1) r (isM_set o h (hc c (by simp))) fun u hu => hc u (by simp [hu])
/-- the places behind some are cleared, and given up -/
theorem Ops.clr {t el : TypeId} {z z0 : Value} {b : Nat} [Und P t (.slice el)] [Inf P el z 1 b] {x : Operand} (i l : Nat) {k : Ck} {n' c' : Nat} (hS : St w0 w ks) (hk : ks[i]? = some k) (hl : l < k.n) (hn' : n' = k.n - l) (hx : ev e x = .slice (cutAt k.A k.c l) n' c') (hz : z.cells = #[z0]) (h1 : z0.oneCell' = true)
    (hK : ∀ w', St w0 w' (ks.set i { k with n := l, vs := k.vs.take l }) → Ops P N ops K rest e w') (hM : isM k.vs = false := by first | rfl | exact isM_I _ | exact isM_B _ | exact isM_R _) :
    Ops P N ops K (⟨none, .call ⟨.builtin .clear, #[x], #[t]⟩, ty, pos, af, none⟩ :: rest) e w := by
  obtain ⟨inf, hi, hz0, hs, hby⟩ := Inf.get P el
  obtain ⟨hvl, hnc, hcm, -⟩ := hS.getC hk hM
  have hlt := (List.getElem?_eq_some_iff.1 hk).1
  obtain ⟨p, hp, _⟩ := (hS.rd i hk) l hl
  have hcut : cutAt k.A k.c l = some p := by unfold cutAt; rw [if_neg (by omega)]; exact hp
  obtain ⟨w', hrun, hS'⟩ := run_store_list (P := P) (k := k) i (List.replicate (k.n - l) z0) ks k.vs w l p hS hk hp (by simp; omega) (fun u hu => by rw [List.eq_of_mem_replicate hu]; exact h1) l p hp (by omega) (by omega)
  have hS2 := hS'.shrink i (k := { k with vs := setL k.vs l (List.replicate (k.n - l) z0) }) (by rw [List.getElem?_set]; simp [hlt]) l (by show l ≤ k.n; omega) (isM_setL _ _ hM (fun u hu => by rw [List.eq_of_mem_replicate hu]; exact h1))
  rw [List.set_set] at hS2
  have e1 : ({ ({ k with vs := setL k.vs l (List.replicate (k.n - l) z0) } : Ck) with n := l, vs := ({ k with vs := setL k.vs l (List.replicate (k.n - l) z0) } : Ck).vs.take l } : Ck) = { k with n := l, vs := k.vs.take l } := by
    show ({ k with n := l, vs := (setL k.vs l (List.replicate (k.n - l) z0)).take l } : Ck) = _
    rw [setL_take _ _ _ _ (Nat.le_refl _)]
  rw [e1] at hS2
  have hzc : (Builtin.zeroCells z.cells (k.n - l)).toList = List.replicate (k.n - l) z0 := by
    rw [hz]
    simp [Builtin.zeroCells]
    apply List.ext_getElem
    · simp
    · intro i h1 h2
      simp [Nat.mod_one]
  rw [Nat.sub_self] at hrun
  have hm : k.n - l = (k.n - l - 1) + 1 := by omega
  generalize k.n - l - 1 = m at hm
  have hv : ∀ w, (zeroValue el).run P w = .ok z w := fun w => by simp [zeroValue, typeInfo, hi, hz0]
  rw [hn', hcut, hm] at hx
  rw [hm] at hzc hrun
  refine .val0 (v := .tuple #[]) (w' := w') ?_ (hK _ hS2)
  simp [execOp, resolve, invoke, builtin, hx, Builtin.clear_, run_underlying (Und.out (P := P) (t := t)), hv, hzc, hrun]
end

def keptI (pd : Nat → Bool) (j : Nat) : List Nat := (List.range j).filter fun x => !pd x
end Go.Proofs.YtbhnfehcpnnjcaaGreatDoor.Vc
/-
 The search for a Hamiltonian cycle, without a program: that of the reference and that of the program find the same, where there are more than two vertices. Conditions: as each states them.
-/
namespace Go.Proofs.YtbhnfehcpnnjcaaGreatDoor.Vc
open Go.RowKit
/-- the first of a row's elements, that is not in a list, from which a search finds something -/
def hamF (h : List Int → List Int) (list : List Int) : List Int → List Int
 | [] => []
 | v :: r => if v ∉ list ∧ h (list ++ [v]) ≠ [] then h (list ++ [v]) else hamF h list r
def lastI (l : List Int) : Int := gi l ((l.length : Int) - 1)
def ham (mn : Nat) (next : List (List Int)) : Nat → List Int → List Int
 | 0, _ => []
 | f + 1, l => if l.length = next.length then (if mn < l.length ∧ gi l 0 ∈ gl next (lastI l) then l else []) else hamF (ham mn next f) l (gl next (lastI l))
theorem hamF_congr {h h' : List Int → List Int} {l : List Int} : ∀ r, (∀ v, h (l ++ [v]) = h' (l ++ [v])) → hamF h l r = hamF h' l r := by
 intro r hh
 induction r with
 | nil => rfl
 | cons v r ih => simp only [hamF, hh, ih]
theorem ham_eq {mn mm : Nat} {next : List (List Int)} (h : mn < next.length) (h' : mm < next.length) : ∀ f l, ham mn next f l = ham mm next f l := by
 intro f
 induction f with
 | zero => intro l; rfl
 | succ f ih =>
  intro l
  simp only [ham]
  split
  ·rename_i hl
   rw [hl]
   simp only [h, h', true_and]
  ·exact hamF_congr _ (fun v => ih _)
theorem hamF_len {h : List Int → List Int} {l : List Int} {N : Nat} : ∀ r, (∀ v, h (l ++ [v]) = [] ∨ (h (l ++ [v])).length = N) → hamF h l r = [] ∨ (hamF h l r).length = N := by
 intro r hh
 induction r with
 | nil => exact .inl rfl
 | cons v r ih =>
  simp only [hamF]
  split
  ·exact hh v
  ·exact ih
theorem ham_len {mn : Nat} {next : List (List Int)} : ∀ f l, ham mn next f l = [] ∨ (ham mn next f l).length = next.length := by
 intro f
 induction f with
 | zero => intro l; exact .inl rfl
 | succ f ih =>
  intro l
  simp only [ham]
  split
  ·rename_i hl
   split
   ·exact .inr hl
   ·exact .inl rfl
  ·exact hamF_len _ (fun v => ih _)
theorem hamF_nil {h : List Int → List Int} {l : List Int} : ∀ r, (∀ v, h (l ++ [v]) = []) → hamF h l r = [] := by
 intro r hh
 induction r with
 | nil => rfl
 | cons v r ih => simp only [hamF, hh, ih]; simp
theorem ham_short {mn : Nat} {next : List (List Int)} (h : next.length ≤ mn) : ∀ f l, ham mn next f l = [] := by
 intro f
 induction f with
 | zero => intro l; rfl
 | succ f ih =>
  intro l
  simp only [ham]
  split
  ·rename_i hl
   rw [if_neg (fun hc => by omega)]
  ·exact hamF_nil _ (fun v => ih _)
/-- the answer of both -/
theorem ham_both {next : List (List Int)} (f : Nat) (l : List Int) : (if (ham 0 next f l).length < 3 then [] else ham 0 next f l) = ham 2 next f l := by
 by_cases h : 2 < next.length
 ·rw [ham_eq (mn := 0) (mm := 2) (by omega) h]
  split
  ·rename_i hs
   rcases ham_len (mn := 2) (next := next) f l with h0 | h0
   ·exact h0.symm
   ·omega
  ·rfl
 ·rw [ham_short (mn := 2) (by omega)]
  split
  ·rfl
  ·rename_i hs
   rcases ham_len (mn := 0) (next := next) f l with h0 | h0
   ·exact h0
   ·omega
theorem hamF_drop {h : List Int → List Int} {l r : List Int} {k : Nat} (hk : k < r.length) : hamF h l (r.drop k) = if gi r (k : Int) ∉ l ∧ h (l ++ [gi r (k : Int)]) ≠ [] then h (l ++ [gi r (k : Int)]) else hamF h l (r.drop (k + 1)) := by
 rw [gi_mem hk, List.drop_eq_getElem_cons hk]
 rfl
end Go.Proofs.YtbhnfehcpnnjcaaGreatDoor.Vc
/-
 The diameter of the graph on both sides, and the walk of the law FnExactGraphDiameter. Conditions: as each states them.
-/
namespace Go.Proofs.YtbhnfehcpnnjcaaGreatDoor.Vc
open Go.RowKit

def mx (a : Int) (l : List Int) : Int := l.foldl max a
/-- the greatest distance from the first vertices -/
def dmP (next : List (List Int)) : Nat → Int
 | 0 => 0
 | v + 1 => mx (dmP next v) (distP next (-1) v).1
def gdD (xss : List (List Int)) : Int := if Grph xss then dmP (nbL xss) (vertsN xss) else 0

theorem goK_nil (xss : List (List Int)) : goK xss [] = petrieK xss := by
 unfold goK petrieK
 have h : allIn 0 ((vertsN xss : Int) - 1) [] := fun x hx => by cases hx
 by_cases hG : Grph xss
 ·rw [if_neg (fun h => h hG), if_neg (fun h2 => h2 h), if_pos hG]
 ·rw [if_pos hG, if_neg hG]
theorem goL_nil {xss : List (List Int)} (hG : Grph xss) : goL xss [] = nbL xss := by rw [goL, if_pos ⟨hG, fun x hx => by cases hx⟩]

end Go.Proofs.YtbhnfehcpnnjcaaGreatDoor.Vc
