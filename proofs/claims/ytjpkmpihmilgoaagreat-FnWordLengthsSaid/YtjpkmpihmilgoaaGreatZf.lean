/-
  The texts D2, C7, Rpl, C8, D3, D4, D5, D8, D9, Cs1, Cs2, Cs3, Cs4, Cs5, Cs6 in one. Conditions: as each part states them.
-/
import Derived.Test.YtjpkmpihmilgoaaGreatLayb
import Derived.Test.YtjpkmpihmilgoaaGreatZe
import Derived.Shelf.SlicesE.Compact
import Derived.Shelf.SlicesE.Delete
import Derived.Test.YtjpkmpihmilgoaaGreatZb
import Derived.Shelf.SortM.SortNone
import Derived.Test.YtjpkmpihmilgoaaGreatZc
/-
 The library's Compact of an ascending list of one's own, and its Delete in a list of lists of one's own; sets as ascending lists. Conditions: as each states them.
-/
namespace Go.Proofs.YtjpkmpihmilgoaaGreat.Vc
open Go.RowKit Go.Sort

/-! what the library leaves in a row of one's own -/
theorem heap_put {α : Type} [Inhabited α] {enc : α → Value} {w : World} {g q off : Nat} {cur : Array Value} {e : TypeId} {fr : Nat × Nat} (d : Array α) (hb : w.heap[g]? = some (.cells cur e fr)) :
    (putRow enc (Sort.ahead w q) g off d).heap[g]? = some (.cells (putCells enc off d cur) e fr) := by
  simp [putRow, mapBlock, Sort.ahead, Array.getElem?_modify, hb, onCells]
theorem grownBy_put {α : Type} [Inhabited α] {enc : α → Value} {w : World} {g q off : Nat} (d : Array α) : GrB w (putRow enc (Sort.ahead w q) g off d) (some g) := by
 refine ⟨⟨rfl, rfl, rfl, by simp [Sort.ahead], fun k hk hne => ?_⟩, Nat.le_add_right _ _⟩
 have : g ≠ k := fun e => hne (by rw [e])
 simp [putRow, mapBlock, Sort.ahead, Array.getElem?_modify, this]
theorem holds_own {α : Type} [Inhabited α] {enc : α → Value} {w : World} {g o : Nat} {cur : Array Value} {e : TypeId} {ds : List α} (hh : w.heap[g]? = some (.cells cur e (0, 0))) (hc : ∀ j, j < ds.length → cur[o + j]? = (ds.map enc)[j]?) : Holds enc w g o ds.toArray := fun j hj => by
 have hj' : j < ds.length := by simpa using hj
 refine ⟨?_, by simp [World.frozen?, hh]⟩
 simp only [World.cell?, hh]
 simp only [Option.isSome_none, Bool.false_eq_true, if_false]
 rw [hc j hj']
 simp [hj']
/-- a row of one's own, laid anew by the library, and cut -/
theorem St.laid {α : Type} [Inhabited α] {enc : α → Value} {w0 w : World} {ks : List Ck} {i : Nat} {k : Ck} {g o q m : Nat} {cur : Array Value} {ds : List α} (hS : St w0 w ks) (hk : ks[i]? = some k) (hA : k.A = some ⟨g, o, Option.none⟩) (hg : w0.heap.size ≤ g) (hh : w.heap[g]? = some (.cells cur k.e (0, 0))) (hs : o + k.c ≤ cur.size) (hm : m ≤ ds.length) (hd : ds.length ≤ k.c) (hc : k.c ≤ maxLen) (he1 : ∀ x, (enc x).oneCell' = true := by intro _; rfl) :
  St w0 (putRow enc (Sort.ahead w q) g o ds.toArray) (ks.set i ⟨k.A, m, k.c, k.e, (ds.take m).map enc⟩) := by
 refine hS.turn hk (by simp [Ck.blk, hA]) (by simp [Ck.blk, hA]) (grownBy_put _) (.ofC (isM_all fun v hv => by obtain ⟨x, _, rfl⟩ := List.mem_map.1 hv; exact he1 x) ⟨by simp; omega, by show m ≤ k.c; omega, hc, .inr ⟨g, o, _, hA, hg, heap_put _ hh, by simp only [putCells, Array.size_mapIdx]; exact hs, fun j hj => ?_⟩⟩)
 have hj : j < m := hj
 show (putCells enc o ds.toArray cur)[o + j]? = ((ds.take m).map enc)[j]?
 have hlt2 : o + j < cur.size := by omega
 have hjd : j < ds.length := by omega
 simp [putCells, hlt2, hjd, List.getElem?_take, hj]

/-! ascending lists without twins -/
def SA (l : List Int) : Prop := l.Pairwise (· < ·)
def cmpL (xs : List Int) : List Int := Lib.compactUpTo xs.toArray xs.toArray.size
/-- the elements of a list as an ascending list without twins -/
def cs (l : List Int) : List Int := cmpL (srt l)
instance : Inhabited SlV := ⟨slNil⟩
theorem delete_c {w0 w : World} {ks : List Ck} (i : Nat) {t : TypeId} {A : Option Addr} {n c a b : Nat} {xs : List SlV} (hS : St w0 w ks) (hk : ks[i]? = some (CkR t A n c xs)) (h0 : 0 < n) (hn : n ≤ 1000000000) (hab : a ≤ b) (hb : b ≤ n) :
  Ret Tryz.prog 165 [.slice A n c, .int .i64 (a : Int), .int .i64 (b : Int)] w (fun v w' => v = .slice A (n - (b - a)) c ∧ St w0 w' (ks.set i (CkR t A (n - (b - a)) c (xs.take a ++ xs.drop b)))) := by
 obtain ⟨h1, h2, h3, h4⟩ := hS.getC hk (isM_R _)
 have hl : xs.length = n := (hS.rdR i hk).1
 have h2 : n ≤ c := h2
 have h3 : c ≤ maxLen := h3
 rcases h4 with ⟨_, hc0⟩ | ⟨g, o, cur, hA, hg, hh, hs, hc⟩
 ·have hc0 : c = 0 := hc0
  omega
 have hA : A = some ⟨g, o, none⟩ := hA
 have hs : o + c ≤ cur.size := hs
 have hc : ∀ j, j < n → cur[o + j]? = (xs.map SlV.v)[j]? := hc
 subst hA
 subst hl
 obtain ⟨i0, hi0, _, hz1, _⟩ := Inf.get Tryz.prog 34
 have key := AnyE.slices_Delete ldel SlV.v (fun _ => rfl) slNil (fun w => Tryz.zeroValue34 w) i0 hi0 hz1 g o c a b xs.toArray w (holds_own hh hc) (by simpa using h2) (by simpa [maxLen] using h3) hab (by simpa using hb)
 refine Calls.mono key fun x w' ⟨hx, q, hw⟩ => ⟨_, hx, by simp, ?_⟩
 subst hw
 have h := hS.laid (q := q) (m := xs.length - (b - a)) (enc := SlV.v) (ds := xs.toArray.toList.take a ++ xs.toArray.toList.drop b ++ List.replicate (b - a) slNil) hk rfl hg hh hs (by simp; omega) (by simp; omega) h3
 have e1 : (xs.toArray.toList.take a ++ xs.toArray.toList.drop b ++ List.replicate (b - a) slNil).take (xs.length - (b - a)) = xs.take a ++ xs.drop b := by
  have e2 : (xs.take a ++ xs.drop b).length = xs.length - (b - a) := by simp; omega
  show (xs.take a ++ xs.drop b ++ List.replicate (b - a) slNil).take _ = _
  rw [← e2, List.take_append_of_le_length (Nat.le_refl _), List.take_length]
 rw [e1] at h
 exact h
end Go.Proofs.YtjpkmpihmilgoaaGreat.Vc
/-
 The walk of the law FnExactPetrieCycles: it returns true. Conditions: as it states them.
-/
namespace Go.Proofs.YtjpkmpihmilgoaaGreat.Vc
open Go.RowKit

end Go.Proofs.YtjpkmpihmilgoaaGreat.Vc
/-
 The walk of slices.Repeat at a list of some numbers. Conditions: as it states them.
-/
namespace Go.Proofs.YtjpkmpihmilgoaaGreat.Vc
open Go.RowKit

/-- n copies of a list, one behind the other -/
def pow (xs : List Int) (n : Nat) : List Int := (List.replicate n xs).flatten
theorem pow_len (xs : List Int) (n : Nat) : (pow xs n).length = xs.length * n := by simp [pow, Nat.mul_comm]
theorem pow_succ (xs : List Int) (n : Nat) : pow xs (n + 1) = pow xs n ++ xs := by simp [pow, List.replicate_succ']
theorem pow_succ' (xs : List Int) (n : Nat) : pow xs (n + 1) = xs ++ pow xs n := by simp [pow, List.replicate_succ]
theorem pow_get {xs : List Int} (h : 0 < xs.length) : ∀ (n j : Nat), j < xs.length * n → (pow xs n)[j]? = xs[j % xs.length]?
 | 0, j, hj => by simp at hj
 | n + 1, j, hj => by
  rw [pow_succ']
  by_cases hx : j < xs.length
  ·rw [List.getElem?_append_left hx, Nat.mod_eq_of_lt hx]
  ·rw [List.getElem?_append_right (by omega), pow_get h n _ (by rw [Nat.mul_succ] at hj; omega), ← Nat.mod_eq_sub_mod (by omega)]
theorem pow_shift {xs : List Int} (h : 0 < xs.length) {n m j : Nat} (hm : xs.length ∣ m) (hj : m + j < xs.length * n) : (pow xs n)[m + j]? = (pow xs n)[j]? := by
 rw [pow_get h n _ hj, pow_get h n _ (by omega)]
 obtain ⟨q, rfl⟩ := hm
 rw [Nat.add_comm, Nat.add_mul_mod_self_left]

/-- what a part of the copies looks like -/
def part (T : List Int) (m : Nat) : List Int := T.take m ++ List.replicate (T.length - m) 0
theorem part_len {T : List Int} {m : Nat} (h : m ≤ T.length) : (part T m).length = T.length := by simp [part]; omega
theorem part_get {T : List Int} {m j : Nat} (h : m ≤ T.length) (hj : j < T.length) : (part T m)[j]? = if j < m then T[j]? else some 0 := by
 unfold part
 by_cases hjm : j < m
 ·rw [List.getElem?_append_left (by simp; omega), List.getElem?_take, if_pos hjm, if_pos hjm]
 ·rw [List.getElem?_append_right (by simp; omega), if_neg hjm, List.getElem?_replicate, if_pos (by simp; omega)]
theorem part_copy {T : List Int} {m q : Nat} (hm : m ≤ T.length) (hq : q ≤ T.length - m) (hs : ∀ j, j < q → T[m + j]? = T[j]?) :
    ((part T m).map (Value.int .i64)).take m ++ (List.range q).map (fun j => Value.int .i64 (T.getD j 0)) ++ ((part T m).map (Value.int .i64)).drop (m + q) = (part T (m + q)).map (Value.int .i64) := by
  apply List.ext_getElem?
  intro j
  have hl := part_len hm
  have hl2 := part_len (T := T) (m := m + q) (by omega)
  by_cases h1 : j < m
  · rw [List.append_assoc, List.getElem?_append_left (by simp; omega), List.getElem?_take, if_pos h1, List.getElem?_map, List.getElem?_map, part_get hm (by omega), part_get (by omega) (by omega), if_pos h1, if_pos (by omega)]
  · by_cases h2 : j < m + q
    · obtain ⟨i, rfl⟩ : ∃ i, j = m + i := ⟨j - m, by omega⟩
      rw [List.append_assoc, List.getElem?_append_right (by simp; omega), List.getElem?_append_left (by simp; omega), List.getElem?_map, List.getElem?_map, part_get (by omega) (by omega), if_pos h2, hs i (by omega)]
      simp only [List.length_take, List.length_map, hl, show min m T.length = m by omega, Nat.add_sub_cancel_left]
      rw [List.getElem?_range (by omega)]
      simp [List.getD_eq_getElem?_getD, List.getElem?_eq_getElem (show i < T.length by omega)]
    · rw [List.getElem?_append_right (by simp; omega), List.getElem?_drop]
      simp only [List.length_append, List.length_take, List.length_map, List.length_range, hl, show min m T.length = m by omega]
      rw [show m + q + (j - (m + q)) = j by omega, List.getElem?_map, List.getElem?_map]
      by_cases h3 : j < T.length
      · rw [part_get hm h3, part_get (by omega) h3, if_neg h1, if_neg h2]
      · rw [List.getElem?_eq_none (by omega), List.getElem?_eq_none (by omega)]
theorem part_all (T : List Int) : part T T.length = T := by simp [part]

theorem RepeatL_c (A : Option Addr) (a c : Nat) (xs : List Int) (n : Nat) (w : World) (hR : RdI w A a xs) (ha : 0 < a ∧ a ≤ 1000) (hn : n ≤ 1000) :
  Ret Tryz.prog 98 [.slice A a c, .int .i64 (n : Int)] w (fun v w' => ∃ A', v = .slice A' (a * n) (a * n) ∧ St w w' [CkI 2 A' (a * n) (a * n) (pow xs n)]) := by
 have hxl := hR.1
 have hMn : ((a : Int) * (n : Int)) = ((a * n : Nat) : Int) := rfl
 have hN0 : a * n ≤ 1000000 := Nat.mul_le_mul ha.2 hn
 have hTl : (pow xs n).length = a * n := by rw [pow_len, hxl]
 have hz : n = 0 → a * n = 0 := fun h => by subst h; rfl
 have hnz : 0 < n → a ≤ a * n := fun h => Nat.le_mul_of_pos_right a h
 have hdv : a ∣ a * n := Nat.dvd_mul_right a n
 have hsh : ∀ m j, a ∣ m → m + j < a * n → (pow xs n)[m + j]? = (pow xs n)[j]? := fun m j hm hj => pow_shift (by omega) (by rw [hxl]; exact hm) (by rw [hxl]; exact hj)
 have hpre : ∀ j, j < min a (a * n) → xs[j]? = (pow xs n)[j]? := fun j hj => by rw [pow_get (by omega) n j (by rw [hxl]; omega), Nat.mod_eq_of_lt (by omega)]
 refine Ret.of_cd Tryz.func98 rfl Tryz.ntmps98 rfl (post1 rfl) ?_
 refine Cd.seq ?_
 refine Cd.region ?_
 refine Ops.mv_sl rfl rfl rfl ?_
 refine Ops.nil ?_
 refine thenQ_n ?_
 refine Cd.seq ?_
 refine Cd.seq ?_
 refine Cd.region ?_
 refine Ops.mv_int rfl rfl rfl ?_
 refine Ops.lss rfl rfl rfl ?_
 refine Ops.nil ?_
 refine thenQ_n ?_
 refine Cd.cond_pf rfl (by omega) ?_
 refine Cd.skip ?_
 refine thenQ_n ?_
 refine Cd.seq ?_
 refine Cd.region ?_
 refine Ops.mv_sl rfl rfl rfl ?_
 refine Ops.len rfl rfl ?_
 refine Ops.convK (i := (a : Int)) rfl rfl (wrap_u64_in _ (by omega)) ?_
 refine Ops.mv_int rfl rfl rfl ?_
 refine Ops.convK (i := (n : Int)) rfl rfl (wrap_u64_in _ (by omega)) ?_
 refine Ops.call (Mul_c a n _ (by omega) (by omega)) rfl rfl rfl ?_
 rintro _ w ⟨rfl, rfl⟩
 rw [hMn]
 generalize hT : pow xs n = T at *
 generalize hNe : a * n = N at *
 subst hTl
 refine Ops.mv_tup rfl rfl rfl ?_
 refine Ops.extract rfl rfl rfl ?_
 refine Ops.extract rfl rfl rfl ?_
 refine Ops.mv_int rfl rfl rfl ?_
 refine Ops.mv_int rfl rfl rfl ?_
 refine Ops.nil ?_
 refine thenQ_n ?_
 refine Cd.seq ?_
 refine Cd.seq ?_
 refine Cd.region ?_
 refine Ops.mv_int rfl rfl rfl ?_
 refine Ops.gtr rfl rfl rfl ?_
 refine Ops.mv_bool rfl rfl rfl ?_
 refine Ops.split_p 23 rfl (fun h => absurd h (by decide)) (fun _ => ?_) --f
 refine Ops.rung rfl rfl rfl ?_
 refine Ops.mv_int rfl rfl rfl ?_
 refine Ops.rung rfl rfl rfl ?_
 refine Ops.gtr rfl rfl rfl ?_
 refine Ops.pick_f rfl rfl rfl ?_
 refine Ops.nil ?_
 refine thenQ_n ?_
 refine Cd.cond_pf rfl (by omega) ?_
 refine Cd.skip ?_
 refine thenQ_n ?_
 refine Cd.seq ?_
 refine Cd.region ?_
 refine Ops.mv_int rfl rfl rfl ?_
 refine Ops.convK (i := (T.length : Int)) rfl rfl (IntWalk.i64_in _ (by omega)) ?_
 refine Ops.mkI T.length (St.refl w) rfl rfl (by omega) ?_
 intro A1 w1 hS1
 refine Ops.mv_sl rfl rfl rfl ?_
 refine Ops.nil ?_
 refine thenQ_n ?_
 refine Cd.seq ?_
 refine Cd.region ?_
 refine Ops.mv_sl rfl rfl rfl ?_
 refine Ops.mv_sl rfl rfl rfl ?_
 refine Ops.cp 0 0 (min a T.length) hS1 rfl (hS1.oldI hR).2 (Nat.zero_le _) (by rw [cutAt_zero]; rfl) rfl (fun _ _ => rfl) rfl rfl ?_
 intro w2 hS2
 refine Ops.mv_int rfl rfl rfl ?_
 refine Ops.nil ?_
 refine thenQ_n ?_
 refine Cd.seq ?_
 refine Cd.block ?_
 have h3 : St w w2 [CkI 2 A1 T.length T.length (part T (min a T.length))] := by
  have e := part_copy (T := T) (m := 0) (q := min a T.length) (Nat.zero_le _) (by omega) (fun j hj => by rw [Nat.zero_add])
  have e0 : part T 0 = List.replicate T.length 0 := by simp [part]
  have e1 : (List.range (min a T.length)).map (fun j => Value.int .i64 (xs.getD j 0)) = (List.range (min a T.length)).map (fun j => Value.int .i64 (T.getD j 0)) := by
   refine List.map_congr_left fun j hj => ?_
   rw [List.getD_eq_getElem?_getD, List.getD_eq_getElem?_getD, hpre j (List.mem_range.1 hj)]
  rw [e0, Nat.zero_add] at e
  have e2 : ([CkI 2 A1 T.length T.length (List.replicate T.length 0)].set 0 { CkI 2 A1 T.length T.length (List.replicate T.length 0) with vs := (CkI 2 A1 T.length T.length (List.replicate T.length 0)).vs.take 0 ++ (List.range (min a T.length)).map (fun j => Value.int .i64 (xs.getD j 0)) ++ (CkI 2 A1 T.length T.length (List.replicate T.length 0)).vs.drop (0 + min a T.length) }) = [CkI 2 A1 T.length T.length (part T (min a T.length))] := by
   rw [e1, Nat.zero_add]
   show [(⟨A1, T.length, T.length, _, _⟩ : Ck)] = [⟨A1, T.length, T.length, _, _⟩]
   rw [← e]
  rw [← e2]; exact hS2
 refine Cd.loop (α := Nat) (fun m => [(7, .slice A1 T.length T.length), (8, .int .i64 (m : Int))]) (fun m w' => St w w' [CkI 2 A1 T.length T.length (part T m)] ∧ m ≤ T.length ∧ a ∣ m ∧ (0 < T.length → 0 < m)) (fun m => T.length - m) (min a T.length) ⟨rfl, rfl, trivial⟩ ⟨h3, by omega, ?_, by omega⟩ ?_
 ·by_cases h0 : a ≤ T.length
  ·rw [Nat.min_eq_left h0]; exact Nat.dvd_refl a
  ·rw [Nat.min_eq_right (by omega)]; exact hdv
 rintro m e w3 ⟨hS3, hm, hdm, hm0⟩
 refine Cd.seq ?_
 refine Cd.seq ?_
 refine Cd.region ?_
 refine Ops.mv_int rfl rfl rfl ?_
 refine Ops.mv_sl rfl rfl rfl ?_
 refine Ops.len rfl rfl ?_
 refine Ops.lss rfl rfl rfl ?_
 refine Ops.nil ?_
 refine thenQ_n ?_
 refine Cd.cond_p _ rfl (fun h4 => ?_) (fun h4 => ?_)
 ·refine Cd.skip ?_
  refine thenQ_n ?_
  refine Cd.block ?_
  have hlen := part_len hm
  have hR2 : ∀ {w1 : World}, Below w3.heap.size w3 w1 → Rd w1 A1 m (fun j => .int .i64 (T.getD j 0)) := fun hb j hj => by
   have h5 := (hS3.later hb).rd 0 rfl j (by show j < T.length; omega)
   have h6 : ((part T m).map (Value.int .i64)).getD j undef = .int .i64 (T.getD j 0) := by
    rw [List.getD_eq_getElem?_getD, List.getElem?_map, part_get hm (by omega), if_pos hj]
    simp [List.getD_eq_getElem?_getD, List.getElem?_eq_getElem (show j < T.length by omega)]
   obtain ⟨p, hp, hc⟩ := h5
   exact ⟨p, hp, hc.trans (congrArg some h6)⟩
  have hR3 := part_copy (T := T) (m := m) (q := min m (T.length - m)) hm (by omega) (fun j hj => hsh m j hdm (by omega))
  refine Cd.drawM 7 (fun v w' => v = .int .i64 ((min m (T.length - m) : Nat) : Int) ∧ St w w' [CkI 2 A1 T.length T.length (part T (m + min m (T.length - m)))]) [.ex (.int .i64 ((m : Int))), .ex (.slice (A1) (T.length) (T.length)), .ex (.int .i64 ((m : Int))), .ex (.slice (cutAt A1 T.length m) (T.length - m) (T.length - m)), .ex (.slice (A1) (T.length) (T.length)), .ex (.int .i64 ((m : Int))), .ex (.slice (A1) (m) (T.length)), .pr (fun v w' => v = .int .i64 ((min m (T.length - m) : Nat) : Int) ∧ St w w' [CkI 2 A1 T.length T.length (part T (m + min m (T.length - m)))]), .ex (.int .i64 ((m : Int) + ((min m (T.length - m) : Nat) : Int))), .ex (.int .i64 ((m : Int) + ((min m (T.length - m) : Nat) : Int)))] (by kernel_rfl) (by kernel_rfl) rfl rfl (by kernel_rfl) (List.forall_mem_cons.2 ⟨Yd.lasts_ex _, (List.forall_mem_cons.2 ⟨Yd.lasts_ex _, (List.forall_mem_cons.2 ⟨Yd.lasts_ex _, (List.forall_mem_cons.2 ⟨Yd.lasts_ex _, (List.forall_mem_cons.2 ⟨Yd.lasts_ex _, (List.forall_mem_cons.2 ⟨Yd.lasts_ex _, (List.forall_mem_cons.2 ⟨Yd.lasts_ex _, (List.forall_mem_cons.2 ⟨Yd.lasts_pr (fun v w w' h hb => ⟨h.1, h.2.later hb⟩), (List.forall_mem_cons.2 ⟨Yd.lasts_ex _, (List.forall_mem_cons.2 ⟨Yd.lasts_ex _, (fun _ h => by cases h)⟩)⟩)⟩)⟩)⟩)⟩)⟩)⟩)⟩)⟩) ⟨?_, ?_, ?_, ?_, ?_, ?_, ?_, ?_, ?_, ?_, trivial⟩ ?_
  ·intro e1 w1 hph hp hun
   show Ops _ _ _ _ _ _ _
   refine Ops.mv_int rfl (by exact hun 9 _ rfl (by kernel_rfl)) rfl ?_
   refine Ops.nil ?_
   exact After.dn (Below.refl _ _) (by exact rfl)
  ·intro e1 w1 hph hp hun
   show Ops _ _ _ _ _ _ _
   refine Ops.mv_sl rfl rfl rfl ?_
   refine Ops.nil ?_
   exact After.dn (Below.refl _ _) (by exact rfl)
  ·intro e1 w1 hph hp hun
   show Ops _ _ _ _ _ _ _
   refine Ops.mv_int rfl (by exact hun 9 _ rfl (by kernel_rfl)) rfl ?_
   refine Ops.nil ?_
   exact After.dn (Below.refl _ _) (by exact rfl)
  ·intro e1 w1 hph hp hun
   show Ops _ _ _ _ _ _ _
   refine Ops.cut_l rfl rfl rfl (by omega) ?_
   refine Ops.nil ?_
   exact After.dn (Below.refl _ _) (by exact rfl)
  ·intro e1 w1 hph hp hun
   show Ops _ _ _ _ _ _ _
   refine Ops.mv_sl rfl rfl rfl ?_
   refine Ops.nil ?_
   exact After.dn (Below.refl _ _) (by exact rfl)
  ·intro e1 w1 hph hp hun
   show Ops _ _ _ _ _ _ _
   refine Ops.mv_int rfl (by exact hun 9 _ rfl (by kernel_rfl)) rfl ?_
   refine Ops.nil ?_
   exact After.dn (Below.refl _ _) (by exact rfl)
  ·intro e1 w1 hph hp hun
   show Ops _ _ _ _ _ _ _
   refine Ops.cut_h rfl rfl rfl (by omega) ?_
   refine Ops.nil ?_
   exact After.dn (Below.refl _ _) (by exact rfl)
  ·intro e1 w1 hph hp hun
   refine fun hb => ?_
   refine Ops.cp 0 m (min m (T.length - m)) (hS3.later hb) rfl (f := fun j => .int .i64 (T.getD j 0)) (hR2 hb) (by omega) rfl rfl (fun _ _ => rfl) rfl rfl ?_
   intro w5 hS5
   refine Ops.nil ?_
   exact AfterM.dn ⟨rfl, by show St w w5 [⟨A1, T.length, T.length, _, (part T (m + min m (T.length - m))).map (Value.int .i64)⟩]; rw [← hR3]; exact hS5⟩ --exact After
  ·intro e1 w1 hph hp hun
   show Ops _ _ _ _ _ _ _
   have h45 : e1 45 = .int .i64 _ := (hp 7 (by decide) rfl _ _ rfl rfl).1
   refine Ops.add rfl (by exact h45) rfl (by omega) ?_
   refine Ops.nil ?_
   exact After.dn (Below.refl _ _) (by exact rfl)
  ·intro e1 w1 hph hp hun
   show Ops _ _ _ _ _ _ _
   refine Ops.mv_int rfl rfl rfl ?_
   refine Ops.nil ?_
   exact After.dn (Below.refl _ _) (by exact rfl)
  intro u w5 hu
  have hS5 := (hu 7 _ rfl).2
  refine blockQ_n ?_
  refine thenQ_n ?_
  refine ⟨m + min m (T.length - m), by have := hm0 (by omega); omega, ⟨rfl, by show Value.int .i64 _ = Value.int .i64 _; congr 1, trivial⟩, hS5, by omega, ?_, by omega⟩
  by_cases h0 : m ≤ T.length - m
  ·rw [Nat.min_eq_left h0]; exact Nat.dvd_add hdm hdm
  ·rw [Nat.min_eq_right (by omega), show m + (T.length - m) = T.length by omega]; exact hdv
 ·refine Cd.exit ?_
  refine thenQ_x ?_
  refine thenQ_x ?_
  refine blockQ_x ?_
  refine thenQ_n ?_
  refine Cd.seq ?_
  refine Cd.region ?_
  refine Ops.mv_sl rfl rfl rfl ?_
  refine Ops.mv_sl rfl rfl rfl ?_
  refine Ops.nil ?_
  refine thenQ_n ?_
  refine Cd.ret ?_
  refine ret1_s rfl ?_
  have : m = T.length := by omega
  subst this
  rw [part_all] at hS3
  exact ⟨A1, rfl, hS3⟩
end Go.Proofs.YtjpkmpihmilgoaaGreat.Vc
/-
 The walks of holes and zigzags on both sides. Conditions: as each states them.
-/
namespace Go.Proofs.YtjpkmpihmilgoaaGreat.Vc
open Go.RowKit

/-- the code of holes and zigzags -/
def holeK (xss : List (List Int)) (j : Int) : Int := if ¬ Grph xss then 1 else if ¬ (1 ≤ j ∧ j ≤ 16) then 2 else if ¬ xss.length = 3 then 5 else 0
theorem holeK_zero {xss : List (List Int)} {j : Int} (h : holeK xss j = 0) : Grph xss ∧ (1 ≤ j ∧ j ≤ 16) ∧ xss.length = 3 := by
 unfold holeK at h
 split at h
 ·cases h
 ·rename_i h1
  split at h
  ·cases h
  ·rename_i h2
   split at h
   ·cases h
   ·rename_i h3
    exact ⟨Classical.not_not.1 h1, Classical.not_not.1 h2, Classical.not_not.1 h3⟩

theorem l18Number_c (A : Option Addr) (n c : Nat) (rs : List SlV) (xss : List (List Int)) (j : Int) (w : World) (hR : RowsI w A n rs xss) (hn : n ≤ 9223372036854775807) :
  Ret Tryz.prog 77 [.agg #[.slice A n c], .int .i64 j] w (fun v w' => v = .int .i64 (holeK xss j) ∧ St w w' []) := by
 have hl := hR.len
 refine Ret.of_cd Tryz.func77 rfl Tryz.ntmps77 rfl (post1 rfl) ?_
 refine Cd.seq ?_
 refine Cd.region ?_
 refine Ops.box1 (St.refl w) rfl rfl ?_
 intro Ab w1 hS
 refine Ops.mv_int rfl rfl rfl ?_
 refine Ops.nil ?_
 refine thenQ_n ?_
 refine Cd.seq ?_
 refine Cd.block ?_
 refine Cd.seq ?_
 refine Cd.region ?_
 refine Ops.ld_agg 0 (hS.rd 0 rfl) rfl rfl rfl ?_
 refine Ops.call (l18Is_c A n c rs xss _ (hS.oldRows hR) hn) rfl rfl rfl ?_
 rintro _ w2 ⟨rfl, hst⟩
 have hS := hS.later hst.below
 first | refine Ops.not_p rfl rfl ?_ | refine Ops.not rfl rfl ?_
 refine Ops.mv_bool rfl rfl rfl ?_
 refine Ops.nil ?_
 refine thenQ_n ?_
 refine Cd.cond_p _ rfl (fun h1 => ?_) (fun h1 => ?_)
 ·refine Cd.seq ?_
  refine Cd.region ?_
  refine Ops.mv_int rfl rfl rfl ?_
  refine Ops.nil ?_
  refine thenQ_n ?_
  refine Cd.ret ?_
  refine blockQ_r ?_
  refine thenQ_r ?_
  refine ret1_i rfl ?_
  exact ⟨by rw [holeK, if_pos h1], hS.none⟩
 ·refine Cd.seq ?_
  refine Cd.region ?_
  refine Ops.mv_int rfl rfl rfl ?_
  refine Ops.call (l01In_c _ _ _ _) rfl rfl rfl ?_
  rintro _ w2 ⟨rfl, rfl⟩
  first | refine Ops.not_p rfl rfl ?_ | refine Ops.not rfl rfl ?_
  refine Ops.mv_bool rfl rfl rfl ?_
  refine Ops.nil ?_
  refine thenQ_n ?_
  refine Cd.cond_p _ rfl (fun h2 => ?_) (fun h2 => ?_)
  ·refine Cd.seq ?_
   refine Cd.region ?_
   refine Ops.mv_int rfl rfl rfl ?_
   refine Ops.nil ?_
   refine thenQ_n ?_
   refine Cd.ret ?_
   refine blockQ_r ?_
   refine thenQ_r ?_
   refine ret1_i rfl ?_
   exact ⟨by rw [holeK, if_neg h1, if_pos h2], hS.none⟩
  ·refine Cd.seq ?_
   refine Cd.region ?_
   refine Ops.fld (hS.rd 0 rfl) rfl rfl rfl rfl inferInstance ?_
   refine Ops.ldf_s (hS.rd 0 rfl) rfl rfl rfl rfl rfl ?_
   refine Ops.len rfl rfl ?_
   refine Ops.neq rfl rfl rfl ?_
   refine Ops.mv_bool rfl rfl rfl ?_
   refine Ops.nil ?_
   refine thenQ_n ?_
   refine Cd.cond_p _ rfl (fun h3 => ?_) (fun h3 => ?_)
   ·refine Cd.seq ?_
    refine Cd.region ?_
    refine Ops.mv_int rfl rfl rfl ?_
    refine Ops.nil ?_
    refine thenQ_n ?_
    refine Cd.ret ?_
    refine blockQ_r ?_
    refine thenQ_r ?_
    refine ret1_i rfl ?_
    exact ⟨by rw [holeK, if_neg h1, if_neg h2, if_pos (by omega)], hS.none⟩
   ·refine Cd.skip ?_
    refine blockQ_n ?_
    refine thenQ_n ?_
    refine Cd.seq ?_
    refine Cd.region ?_
    refine Ops.mv_int rfl rfl rfl ?_
    refine Ops.nil ?_
    refine thenQ_n ?_
    refine Cd.ret ?_
    refine ret1_i rfl ?_
    exact ⟨by rw [holeK, if_neg h1, if_neg h2, if_neg (by omega)], hS.none⟩

theorem holeCode_c (A : Option Addr) (n c : Nat) (rs : List SlV) (xss : List (List Int)) (j : Int) (w : World) (hR : RowsI w A n rs xss) (hn : n ≤ c) (hc : c ≤ 9223372036854775807) :
  Ret Tryz.prog 75 [.agg #[.slice A n c], .int .i64 j] w (fun v w' => v = .int .i64 (holeK xss j) ∧ St w w' []) := by
 have hl := hR.len
 refine Ret.of_cd Tryz.func75 rfl Tryz.ntmps75 rfl (post1 rfl) ?_
 refine Cd.seq ?_
 refine Cd.region ?_
 refine Ops.box1 (St.refl w) rfl rfl ?_
 intro Ab w1 hS
 refine Ops.mv_int rfl rfl rfl ?_
 refine Ops.nil ?_
 refine thenQ_n ?_
 refine Cd.seq ?_
 refine Cd.block ?_
 refine Cd.seq ?_
 refine Cd.region ?_
 refine Ops.ld_agg 0 (hS.rd 0 rfl) rfl rfl rfl ?_
 refine Ops.call (isGraphed_c A n c rs xss _ (hS.oldRows hR) hn hc) rfl rfl rfl ?_
 rintro _ w2 ⟨rfl, hst⟩
 have hS := hS.later hst.below
 first | refine Ops.not_p rfl rfl ?_ | refine Ops.not rfl rfl ?_
 refine Ops.mv_bool rfl rfl rfl ?_
 refine Ops.nil ?_
 refine thenQ_n ?_
 refine Cd.cond_p _ rfl (fun h1 => ?_) (fun h1 => ?_)
 ·refine Cd.seq ?_
  refine Cd.region ?_
  refine Ops.mv_int rfl rfl rfl ?_
  refine Ops.nil ?_
  refine thenQ_n ?_
  refine Cd.ret ?_
  refine blockQ_r ?_
  refine thenQ_r ?_
  refine ret1_i rfl ?_
  exact ⟨by rw [holeK, if_pos h1], hS.none⟩
 ·refine Cd.seq ?_
  refine Cd.region ?_
  refine Ops.mv_int rfl rfl rfl ?_
  refine Ops.call (within_c _ _ _ _) rfl rfl rfl ?_
  rintro _ w2 ⟨rfl, rfl⟩
  first | refine Ops.not_p rfl rfl ?_ | refine Ops.not rfl rfl ?_
  refine Ops.mv_bool rfl rfl rfl ?_
  refine Ops.nil ?_
  refine thenQ_n ?_
  refine Cd.cond_p _ rfl (fun h2 => ?_) (fun h2 => ?_)
  ·refine Cd.seq ?_
   refine Cd.region ?_
   refine Ops.mv_int rfl rfl rfl ?_
   refine Ops.nil ?_
   refine thenQ_n ?_
   refine Cd.ret ?_
   refine blockQ_r ?_
   refine thenQ_r ?_
   refine ret1_i rfl ?_
   exact ⟨by rw [holeK, if_neg h1, if_pos h2], hS.none⟩
  ·refine Cd.seq ?_
   refine Cd.region ?_
   refine Ops.call (rank_c Ab A n c _ _ (hS.rd 0 rfl) rfl) rfl rfl rfl ?_
   rintro _ w2 ⟨rfl, rfl⟩
   refine Ops.neq rfl rfl rfl ?_
   refine Ops.mv_bool rfl rfl rfl ?_
   refine Ops.nil ?_
   refine thenQ_n ?_
   refine Cd.cond_p _ rfl (fun h3 => ?_) (fun h3 => ?_)
   ·refine Cd.seq ?_
    refine Cd.region ?_
    refine Ops.mv_int rfl rfl rfl ?_
    refine Ops.nil ?_
    refine thenQ_n ?_
    refine Cd.ret ?_
    refine blockQ_r ?_
    refine thenQ_r ?_
    refine ret1_i rfl ?_
    exact ⟨by rw [holeK, if_neg h1, if_neg h2, if_pos (by omega)], hS.none⟩
   ·refine Cd.skip ?_
    refine blockQ_n ?_
    refine thenQ_n ?_
    refine Cd.seq ?_
    refine Cd.region ?_
    refine Ops.mv_int rfl rfl rfl ?_
    refine Ops.nil ?_
    refine thenQ_n ?_
    refine Cd.ret ?_
    refine ret1_i rfl ?_
    exact ⟨by rw [holeK, if_neg h1, if_neg h2, if_neg (by omega)], hS.none⟩

theorem l11Power_c (A : Option Addr) (a c : Nat) (xs : List Int) (n : Nat) (w : World) (hR : RdI w A a xs) (ha : a ≤ 1000) (hn : n ≤ 1000) :
  Ret Tryz.prog 78 [.slice A a c, .int .i64 (n : Int)] w (fun v w' => ∃ A' c', v = .slice A' (a * n) c' ∧ St w w' [CkI 2 A' (a * n) c' (pow xs n)]) := by
 have hxl := hR.1
 refine Ret.of_cd Tryz.func78 rfl Tryz.ntmps78 rfl (post1 rfl) ?_
 refine Cd.seq ?_
 refine Cd.region ?_
 refine Ops.mv_sl rfl rfl rfl ?_
 refine Ops.nil ?_
 refine thenQ_n ?_
 refine Cd.seq ?_
 refine Cd.region ?_
 refine Ops.bs0 (St.refl w) rfl ?_
 intro A5 w1 hS1
 have hS1 : St w w1 [CkI 2 A5 (a * 0) 0 (pow xs 0)] := hS1
 refine Ops.mv_sl rfl rfl rfl ?_
 refine Ops.nil ?_
 refine thenQ_n ?_
 refine Cd.seq ?_
 refine Cd.block ?_
 refine Cd.loop (α := Nat × Option Addr × Nat) (fun z => [(0, .slice A a c), (1, .int .i64 ((n : Int) - (z.1 : Int))), (5, .slice z.2.1 (a * z.1) z.2.2)]) (fun z w' => St w w' [CkI 2 z.2.1 (a * z.1) z.2.2 (pow xs z.1)] ∧ z.1 ≤ n) (fun z => n - z.1) (0, A5, 0) ⟨rfl, by show Value.int .i64 _ = .int .i64 _; simp, rfl, trivial⟩ ⟨hS1, Nat.zero_le _⟩ ?_
 rintro ⟨k, A6, c6⟩ e w2 ⟨hS2, hk⟩
 dsimp only at hS2 hk ⊢
 have hb2 : a * k ≤ 1000000 := Nat.mul_le_mul ha (show k ≤ 1000 by omega)
 refine Cd.seq ?_
 refine Cd.seq ?_
 refine Cd.region ?_
 refine Ops.mv_int rfl rfl rfl ?_
 refine Ops.gtr rfl rfl rfl ?_
 refine Ops.nil ?_
 refine thenQ_n ?_
 refine Cd.cond_p _ rfl (fun h1 => ?_) (fun h1 => ?_)
 ·refine Cd.skip ?_
  refine thenQ_n ?_
  refine Cd.seq ?_
  refine Cd.block ?_
  refine Cd.region ?_
  refine Ops.mv_sl rfl rfl rfl ?_
  refine Ops.mv_sl rfl rfl rfl ?_
  refine Ops.appI 0 hS2 rfl (hS2.oldI hR) rfl rfl rfl (by omega) (by omega) rfl ?_
  intro A7 c7 w3 hS3
  refine Ops.mv_sl rfl rfl rfl ?_
  refine Ops.nil ?_
  refine blockQ_n ?_
  refine thenQ_n ?_
  refine Cd.region ?_
  refine Ops.mv_int rfl rfl rfl ?_
  refine Ops.sub rfl rfl rfl (by omega) ?_
  refine Ops.mv_int rfl rfl rfl ?_
  refine Ops.nil ?_
  refine thenQ_n ?_
  have e1 : a * (k + 1) = a * k + a := Nat.mul_succ a k
  refine ⟨(k + 1, A7, c7), by show n - (k + 1) < n - k; omega, ⟨rfl, by show Value.int .i64 _ = .int .i64 _; congr 1; show _ = (n : Int) - ((k + 1 : Nat) : Int); omega, by show Value.slice _ _ _ = .slice _ _ _; rw [e1], trivial⟩, ?_, by show k + 1 ≤ n; omega⟩
  show St w w3 [CkI _ A7 (a * (k + 1)) c7 (pow xs (k + 1))]
  rw [e1, pow_succ]
  exact hS3
 ·refine Cd.exit ?_
  refine thenQ_x ?_
  refine thenQ_x ?_
  refine blockQ_x ?_
  refine thenQ_n ?_
  refine Cd.seq ?_
  refine Cd.region ?_
  refine Ops.mv_sl rfl rfl rfl ?_
  refine Ops.mv_sl rfl rfl rfl ?_
  refine Ops.nil ?_
  refine thenQ_n ?_
  refine Cd.ret ?_
  refine ret1_s rfl ?_
  have hkn : k = n := by omega
  subst hkn
  exact ⟨A6, c6, rfl, hS2⟩

def zigW (n : Nat) : List Int := [0] ++ pow [1, 2] n
def holeW (n : Nat) : List Int := zigW n ++ [1]
theorem zigW_len (n : Nat) : (zigW n).length = 1 + 2 * n := by simp [zigW, pow_len]; omega
theorem holeW_len (n : Nat) : (holeW n).length = 1 + 2 * n + 1 := by rw [holeW, List.length_append, zigW_len]; rfl
theorem zigW_in (n : Nat) : ∀ i ∈ zigW n, 0 ≤ i ∧ i < 3 := fun i hi => by
 simp only [zigW, pow, List.mem_append, List.mem_singleton, List.mem_flatten, List.mem_replicate] at hi
 rcases hi with rfl | ⟨l, ⟨_, rfl⟩, hi⟩
 ·omega
 ·simp at hi; omega
theorem holeW_in (n : Nat) : ∀ i ∈ holeW n, 0 ≤ i ∧ i < 3 := fun i hi => by
 rcases List.mem_append.1 hi with h | h
 ·exact zigW_in n i h
 ·simp at h; omega
theorem in_gi {ws : List Int} {a b : Int} (h : ∀ i ∈ ws, a ≤ i ∧ i < b) : ∀ k : Nat, k < ws.length → a ≤ gi ws k ∧ gi ws k < b := fun k hk => by
 rw [gi_mem hk]; exact h _ (List.getElem_mem _)

theorem zigzagWord_c (n : Nat) (w : World) (hn : n ≤ 1000) : Ret Tryz.prog 76 [.int .i64 (n : Int)] w (fun v w' => ∃ A' c', v = .slice A' (1 + 2 * n) c' ∧ St w w' [CkI 2 A' (1 + 2 * n) c' (zigW n)]) := by
 refine Ret.of_cd Tryz.func76 rfl Tryz.ntmps76 rfl (post1 rfl) ?_
 refine Cd.seq ?_
 refine Cd.region ?_
 refine Ops.mv_sl rfl rfl rfl ?_
 refine Ops.nil ?_
 refine thenQ_n ?_
 refine Cd.seq ?_
 refine Cd.region ?_
 refine Ops.bs1I (St.refl w) rfl rfl rfl ?_
 intro A3 w1 hS1
 refine Ops.bs2 hS1 rfl rfl rfl rfl rfl rfl ?_
 intro A4 w2 hS2
 have hS2 : St w w2 (CkI 2 A4 2 2 [1, 2] :: CkI 2 A3 1 1 [0] :: []) := hS2
 refine Ops.mv_int rfl rfl rfl ?_
 refine Ops.call (RepeatL_c A4 2 2 [1, 2] n _ (hS2.rdI 0 rfl) (by omega) hn) rfl rfl rfl ?_
 rintro _ w3 ⟨A5, rfl, hst⟩
 have hS3 := hS2.call hst
 refine Ops.appI 2 hS3 rfl (hS3.rdI 0 rfl) rfl rfl rfl (by omega) (by omega) rfl ?_
 intro A6 c6 w4 hS4
 refine Ops.mv_sl rfl rfl rfl ?_
 refine Ops.nil ?_
 refine thenQ_n ?_
 refine Cd.ret ?_
 refine ret1_s rfl ?_
 exact ⟨A6, c6, rfl, hS4.sub ((List.sublist_cons_self _ _).trans (List.sublist_cons_self _ _))⟩
end Go.Proofs.YtjpkmpihmilgoaaGreat.Vc
/-
 Faces on the program's side; the ends of edges on the reference's. Conditions: as each states them.
-/
namespace Go.Proofs.YtjpkmpihmilgoaaGreat.Vc
open Go.RowKit

theorem CloneR_c (A : Option Addr) (n c : Nat) (rs : List SlV) (w : World) (hR : RdR w A n rs) (hn : n ≤ 1000000) (h0 : 0 < n) : Ret Tryz.prog 166 [.slice A n c] w (fun v w' => ∃ A' c', v = .slice A' n c' ∧ St w w' [CkR 34 A' n c' rs]) := by
 cases hA : A with
 | none =>
  subst hA
  obtain ⟨p, hp, _⟩ := hR.2 0 h0
  simp [ptrAt] at hp
 | some a =>
  subst hA
  refine Ret.of_cd Tryz.func166 rfl Tryz.ntmps166 rfl (post1 rfl) ?_
  refine Cd.seq ?_
  refine Cd.region ?_
  refine Ops.mv_sl rfl rfl rfl ?_
  refine Ops.nil ?_
  refine thenQ_n ?_
  refine Cd.seq ?_
  refine Cd.seq ?_
  refine Cd.region ?_
  refine Ops.mv_sl rfl rfl rfl ?_
  refine Ops.eqNil rfl rfl rfl ?_
  refine Ops.nil ?_
  refine thenQ_n ?_
  refine Cd.cond_f rfl ?_
  refine Cd.skip ?_
  refine thenQ_n ?_
  refine Cd.seq ?_
  refine Cd.region ?_
  refine Ops.bs0 (St.refl w) rfl ?_
  intro A1 w1 hS1
  have hS1 : St w w1 [CkR 34 A1 0 0 []] := hS1
  refine Ops.mv_sl rfl rfl rfl ?_
  refine Ops.appR 0 hS1 rfl (hS1.oldR hR) rfl rfl rfl (by omega) (by omega) rfl ?_
  intro A2 c2 w2 hS2
  rw [Nat.zero_add] at hS2 ⊢
  refine Ops.mv_sl rfl rfl rfl ?_
  refine Ops.nil ?_
  refine thenQ_n ?_
  refine Cd.ret ?_
  refine ret1_s rfl ?_
  exact ⟨A2, c2, rfl, hS2⟩

theorem without_c (Ab A : Option Addr) (n c : Nat) (rs : List SlV) (xss : List (List Int)) (i : Nat) (w : World) (hB : Rd w Ab 1 (fun _ => .slice A n c)) (hR : RowsI w A n rs xss) (hn : n ≤ 1000) (hi : i < n) :
  Ret Tryz.prog 123 [.pointer Ab, .int .i64 (i : Int)] w (fun v w' => ∃ A' c', v = .slice A' (n - 1) c' ∧ St w w' [CkR 34 A' (n - 1) c' (rs.eraseIdx i)]) := by
 refine Ret.of_cd Tryz.func123 rfl Tryz.ntmps123 rfl (post1 rfl) ?_
 refine Cd.seq ?_
 refine Cd.region ?_
 refine Ops.mv_sl rfl rfl rfl ?_
 refine Ops.nil ?_
 refine thenQ_n ?_
 refine Cd.seq ?_
 refine Cd.region ?_
 refine Ops.mv_ptr rfl rfl rfl ?_
 refine Ops.nilp hB (by decide) rfl rfl ?_
 refine Ops.fld hB rfl rfl rfl rfl inferInstance ?_
 refine Ops.ldf_s hB rfl rfl rfl rfl rfl ?_
 refine Ops.call (CloneR_c A n c rs _ hR.top (by omega) (by omega)) rfl rfl rfl ?_
 rintro _ w1 ⟨A1, c1, rfl, hS1⟩
 refine Ops.mv_int rfl rfl rfl ?_
 refine Ops.mv_int rfl rfl rfl ?_
 refine Ops.add rfl rfl rfl (by omega) ?_
 have hi1 : ((i : Int) + 1) = ((i + 1 : Nat) : Int) := by omega
 rw [hi1]
 refine Ops.call (delete_c 0 hS1 rfl (by omega) (by omega) (show i ≤ i + 1 by omega) (by omega)) rfl rfl rfl ?_
 rintro _ w2 ⟨rfl, hS2⟩
 refine Ops.mv_sl rfl rfl rfl ?_
 refine Ops.nil ?_
 refine thenQ_n ?_
 refine Cd.ret ?_
 refine ret1_s rfl ?_
 have e : n - (i + 1 - i) = n - 1 := by omega
 rw [e]
 rw [e, ← List.eraseIdx_eq_take_drop_succ] at hS2
 exact ⟨A1, c1, rfl, hS2⟩

/-! rows put anew -/
end Go.Proofs.YtjpkmpihmilgoaaGreat.Vc
/-
 The ends of edges on both sides. Conditions: as each states them.
-/
namespace Go.Proofs.YtjpkmpihmilgoaaGreat.Vc
open Go.RowKit

/-- what is put for f flags, with twins: for each edge the vertices, as they come -/
def bag (Vl El : List Int) (m : Nat) : Nat → List (List Int)
 | 0 => List.replicate m []
 | f + 1 => (bag Vl El m f).set (gi El f).toNat (gl (bag Vl El m f) (gi El f) ++ [gi Vl f])
theorem bag_len (Vl El : List Int) (m : Nat) : ∀ f, (bag Vl El m f).length = m
 | 0 => by simp [bag]
 | f + 1 => by rw [bag, List.length_set, bag_len Vl El m f]
theorem gl_set2 {L : List (List Int)} {i : Nat} {l : List Int} (e : Int) (he : 0 ≤ e) (hi : i < L.length) : gl (L.set i l) e = if (i : Int) = e then l else gl L e := by
 obtain ⟨j, rfl⟩ : ∃ j : Nat, e = j := ⟨e.toNat, by omega⟩
 simp only [gl, Int.toNat_natCast, List.getD_eq_getElem?_getD, List.getElem?_set]
 by_cases h : i = j
 ·subst h; rw [if_pos rfl, if_pos rfl, if_pos hi]; rfl
 ·rw [if_neg h, if_neg (by omega)]
/-- the same as ascending lists without twins -/
def ends (Vl El : List Int) (m f : Nat) : List (List Int) := (bag Vl El m f).map cs
def edgesN (xss : List (List Int)) : Nat := (facesN xss 1).toNat
def endsL (xss : List (List Int)) : List (List Int) := ends (facesL xss 0) (facesL xss 1) (edgesN xss) (gl xss 0).length
end Go.Proofs.YtjpkmpihmilgoaaGreat.Vc
/-
 The ends of edges on the program's side, and the answers on both. Conditions: as each states them.
-/
namespace Go.Proofs.YtjpkmpihmilgoaaGreat.Vc
open Go.RowKit

/-- the answer: a list of lists in memory of its own, and a code -/
def AnsSS (L : List (List Int)) (K : Int) (w : World) (v : Value) (w' : World) : Prop := ∃ A' c' rs', v = .tuple #[.slice A' L.length c', .int .i64 K] ∧ rs'.length = L.length ∧ St w w' (mat 34 2 A' L.length c' rs' L ++ [])
def eoeL (xss : List (List Int)) : List (List Int) := if Grph xss then endsL xss else []

/-- some rows turned, the others not yet -/
def mixL (B : List (List Int)) (e : Nat) : List (List Int) := (B.take e).map cs ++ B.drop e
end Go.Proofs.YtjpkmpihmilgoaaGreat.Vc
/-
 Neighbours: what they are, and the reference's walk. Conditions: as each states them.
-/
namespace Go.Proofs.YtjpkmpihmilgoaaGreat.Vc
open Go.RowKit

/-! lists filled by pairs: a place, and what is put there -/
def bagP (m : Nat) (ps : List (Int × Int)) : List (List Int) := ps.foldl (fun B p => B.set p.1.toNat (gl B p.1 ++ [p.2])) (List.replicate m [])
theorem snoc_ind {α : Type} {P : List α → Prop} (h0 : P []) (h1 : ∀ l a, P l → P (l ++ [a])) (l : List α) : P l := by
 have : ∀ (n : Nat) (l : List α), l.length = n → P l := by
  intro n
  induction n with
  | zero => intro l hl; rw [List.eq_nil_of_length_eq_zero hl]; exact h0
  | succ n ih =>
   intro l hl
   have hne : l ≠ [] := by intro e; rw [e] at hl; simp at hl
   rw [← List.dropLast_concat_getLast hne]
   exact h1 _ _ (ih _ (by simp [hl]))
 exact this _ l rfl
theorem gl_blank (m : Nat) (e : Int) : gl (List.replicate m ([] : List Int)) e = [] := by
 simp only [gl, List.getD_eq_getElem?_getD, List.getElem?_replicate]
 split <;> rfl
def endsP (m : Nat) (ps : List (Int × Int)) : List (List Int) := (bagP m ps).map cs
/-! the vertices at an edge's ends -/
def vertsN (xss : List (List Int)) : Nat := (facesN xss 0).toNat
/-- the pairs that the first e edges give -/
def arcs (En : List (List Int)) : Nat → List (Int × Int)
 | 0 => []
 | e + 1 => if (gl En e).length = 2 then (arcs En e ++ [(gi (gl En e) 0, gi (gl En e) 1)]) ++ [(gi (gl En e) 1, gi (gl En e) 0)] else arcs En e
theorem two_in {l : List Int} {b : Int} (h : ∀ x ∈ l, 0 ≤ x ∧ x < b) (h2 : l.length = 2) : (0 ≤ gi l 0 ∧ gi l 0 < b) ∧ 0 ≤ gi l 1 ∧ gi l 1 < b :=
 ⟨by rw [show (0 : Int) = ((0 : Nat) : Int) from rfl, gi_mem (by omega)]; exact h _ (List.getElem_mem _), by rw [show (1 : Int) = ((1 : Nat) : Int) from rfl, gi_mem (by omega)]; exact h _ (List.getElem_mem _)⟩
def nbL (xss : List (List Int)) : List (List Int) := endsP (vertsN xss) (arcs (endsL xss) (edgesN xss))
end Go.Proofs.YtjpkmpihmilgoaaGreat.Vc
/-
 Neighbours on the program's side, and the answers on both. Conditions: as each states them.
-/
namespace Go.Proofs.YtjpkmpihmilgoaaGreat.Vc
open Go.RowKit

def nboL (xss : List (List Int)) : List (List Int) := if Grph xss then nbL xss else []
end Go.Proofs.YtjpkmpihmilgoaaGreat.Vc
/-
 The reference's coset enumeration, walked: what its functions return if the plain functions do (they have a bound on their steps and say none beyond it). Conditions: as each states them.
-/
namespace Go.Proofs.YtjpkmpihmilgoaaGreat.Vc
open Go.RowKit

section
variable {P : Program} {N : Nat} {ops : Array Oper} {K : Env → World → Prop} {rest : List Oper} {e : Env} {w0 w w' : World} {ks : List Ck} {d : Nat} {ty : TypeId} {pos : String} {af : Array Edge}
theorem Ops.box3 {el : TypeId} {x : Operand} {v0 v1 v2 : Value} (hS : St w0 w ks) (hx : ev e x = .agg #[v0, v1, v2]) (hb : Nat.blt d N = true)
    (hK : ∀ A w', St w0 w' (Bx el 3 A [v0, v1, v2] :: ks) → Ops P N ops K rest (upd e d (.pointer A)) w') (hM : isM [v0, v1, v2] = false := by rfl) : Ops P N ops K (⟨some d, .box el x, ty, pos, af, none⟩ :: rest) e w := .box_agg hS hx hb rfl hK hM
theorem Ops.new3 {el : TypeId} {v0 v1 v2 : Value} {s b : Nat} [Inf P el (.agg #[v0, v1, v2]) s b] (hS : St w0 w ks) (hb : Nat.blt d N = true)
    (hK : ∀ A w', St w0 w' (Bx el 3 A [v0, v1, v2] :: ks) → Ops P N ops K rest (upd e d (.pointer A)) w') (hM : isM [v0, v1, v2] = false := by rfl) : Ops P N ops K (⟨some d, .alloc el, ty, pos, af, none⟩ :: rest) e w := .new (el := el) (z := .agg #[v0, v1, v2]) (s := s) (b := b) hS hb rfl hK hM
end

/-! plain -/
structure PS where
 im : List (List Int)
 ls : List Int
def findP (ls : List Int) : Nat → Int → Option Int
 | 0, _ => none
 | k + 1, c => if 0 ≤ c ∧ c < (ls.length : Int) then (if gi ls c = c then some c else findP ls k (gi ls c)) else none
def imageP (x : PS) (c g : Int) : Option Int :=
 if 0 ≤ c ∧ c < (x.im.length : Int) ∧ 0 ≤ g ∧ g < ((gl x.im c).length : Int) then (if gi (gl x.im c) g < 0 then some (-1) else findP x.ls 2000 (gi (gl x.im c) g)) else none
def defP (x : PS) (gens : Nat) : Option PS :=
 if x.ls.length = x.im.length ∧ x.ls.length < 2000 ∧ gens ≤ 100 then some ⟨x.im ++ [List.replicate gens (-1)], x.ls ++ [(x.ls.length : Int)]⟩ else none

/-! memory -/
structure LS where
 A : Option Addr
 n : Nat
 c : Nat
 rs : List SlV
 im : List (List Int)
 B : Option Addr
 m : Nat
 cB : Nat
 ls : List Int
def LS.ok (x : LS) : Prop := x.rs.length = x.n ∧ x.im.length = x.n ∧ x.ls.length = x.m
abbrev LS.cks (x : LS) : List Ck := CkI 2 x.B x.m x.cB x.ls :: mat 34 2 x.A x.n x.c x.rs x.im
abbrev LS.cells (x : LS) : List Value := [.slice x.A x.n x.c, .slice x.B x.m x.cB, .bool false]
abbrev LS.val (x : LS) : Value := .agg #[.slice x.A x.n x.c, .slice x.B x.m x.cB, .bool false]
def LS.p (x : LS) : PS := ⟨x.im, x.ls⟩

theorem l11Find_c {A B : Option Addr} {n c m cB : Nat} {b : Bool} (ls : List Int) (k0 : Nat) (c0 d : Int) (w : World) (hR : RdI w B m ls) (hf : findP ls k0 c0 = some d) :
  Ret Tryz.prog 225 [.agg #[.slice A n c, .slice B m cB, .bool b], .int .i64 c0] w (fun v w' => v = .int .i64 d ∧ St w w' []) := by
 have hl := hR.1
 refine Ret.of_cd Tryz.func225 rfl Tryz.ntmps225 rfl (post1 rfl) ?_
 refine Cd.seq ?_
 refine Cd.region ?_
 refine Ops.box3 (St.refl w) rfl rfl ?_
 intro Ab w1 hS
 refine Ops.mv_int rfl rfl rfl ?_
 refine Ops.nil ?_
 refine thenQ_n ?_
 refine Cd.seq ?_
 refine Cd.block ?_
 refine Cd.loop (α := Int × Nat) (fun s => [(1, .int .i64 s.1), (2, .pointer Ab)]) (fun s w' => St w w' [Bx 202 3 Ab [.slice A n c, .slice B m cB, .bool b]] ∧ findP ls s.2 s.1 = some d) (fun s => s.2) (c0, k0) ⟨rfl, rfl, trivial⟩ ⟨hS, hf⟩ ?_
 rintro ⟨c, k⟩ e w1 ⟨hS, hf⟩
 obtain ⟨q, rfl⟩ : ∃ q, k = q + 1 := by cases k with | zero => cases hf | succ q => exact ⟨q, rfl⟩
 have hf : (if 0 ≤ c ∧ c < (ls.length : Int) then (if gi ls c = c then some c else findP ls q (gi ls c)) else none) = some d := hf
 split at hf
 case isFalse => cases hf
 rename_i hc
 have hR1 := hS.oldI hR
 refine Cd.seq ?_
 refine Cd.seq ?_
 refine Cd.region ?_
 refine Ops.fld (hS.rd 0 rfl) rfl rfl rfl rfl inferInstance ?_
 refine Ops.ldf_s (hS.rd 0 rfl) rfl rfl rfl rfl rfl ?_
 refine Ops.mv_int rfl rfl rfl ?_
 refine Ops.idx hR1.2 rfl rfl rfl (by omega) (by omega) ?_
 refine Ops.ld_int hR1 rfl (by omega) rfl rfl ?_
 refine Ops.mv_int rfl rfl rfl ?_
 refine Ops.neq rfl rfl rfl ?_
 refine Ops.nil ?_
 refine thenQ_n ?_
 refine Cd.cond_p _ rfl (fun h1 => ?_) (fun h1 => ?_)
 ·rw [if_neg h1] at hf
  refine Cd.skip ?_
  refine thenQ_n ?_
  refine Cd.block ?_
  refine Cd.region ?_
  refine Ops.fld (hS.rd 0 rfl) rfl rfl rfl rfl inferInstance ?_
  refine Ops.ldf_s (hS.rd 0 rfl) rfl rfl rfl rfl rfl ?_
  refine Ops.mv_int rfl rfl rfl ?_
  refine Ops.idx hR1.2 rfl rfl rfl (by omega) (by omega) ?_
  refine Ops.ld_int hR1 rfl (by omega) rfl rfl ?_
  refine Ops.mv_int rfl rfl rfl ?_
  refine Ops.nil ?_
  refine blockQ_n ?_
  refine thenQ_n ?_
  exact ⟨(gi ls c, q), Nat.lt_succ_self q, ⟨rfl, rfl, trivial⟩, hS, hf⟩
 ·have h1 : gi ls c = c := Decidable.not_not.1 h1
  rw [if_pos h1] at hf
  obtain rfl := Option.some.inj hf
  refine Cd.exit ?_
  refine thenQ_x ?_
  refine thenQ_x ?_
  refine blockQ_x ?_
  refine thenQ_n ?_
  refine Cd.seq ?_
  refine Cd.region ?_
  refine Ops.mv_int rfl rfl rfl ?_
  refine Ops.mv_int rfl rfl rfl ?_
  refine Ops.nil ?_
  refine thenQ_n ?_
  refine Cd.ret ?_
  refine ret1_i rfl ?_
  exact ⟨rfl, hS.none⟩

theorem l11Image_c {A B : Option Addr} {n c m cB : Nat} {b : Bool} (rs : List SlV) (im : List (List Int)) (ls : List Int) (c0 g d : Int) (w : World) (hI : RowsI w A n rs im) (hR : RdI w B m ls) (hf : imageP ⟨im, ls⟩ c0 g = some d) :
  Ret Tryz.prog 220 [.agg #[.slice A n c, .slice B m cB, .bool b], .int .i64 c0, .int .i64 g] w (fun v w' => v = .int .i64 d ∧ St w w' []) := by
 have hl := hI.len
 have hf : (if 0 ≤ c0 ∧ c0 < (im.length : Int) ∧ 0 ≤ g ∧ g < ((gl im c0).length : Int) then (if gi (gl im c0) g < 0 then some (-1) else findP ls 2000 (gi (gl im c0) g)) else none) = some d := hf
 split at hf
 case isFalse => cases hf
 rename_i hc
 have hrow := hI.at_ (i := c0) hc.1 (by omega)
 have hrl := hrow.1
 refine Ret.of_cd Tryz.func220 rfl Tryz.ntmps220 rfl (post1 rfl) ?_
 refine Cd.seq ?_
 refine Cd.region ?_
 refine Ops.box3 (St.refl w) rfl rfl ?_
 intro Ab w1 hS
 have hI1 := hS.oldRows hI
 have hrow1 := hS.oldI hrow
 have hR1 := hS.oldI hR
 refine Ops.mv_int rfl rfl rfl ?_
 refine Ops.nil ?_
 refine thenQ_n ?_
 refine Cd.seq ?_
 refine Cd.region ?_
 refine Ops.fld (hS.rd 0 rfl) rfl rfl rfl rfl inferInstance ?_
 refine Ops.ldf_s (hS.rd 0 rfl) rfl rfl rfl rfl rfl ?_
 refine Ops.mv_int rfl rfl rfl ?_
 refine Ops.idx hI1.top.2 rfl rfl rfl (by omega) (by omega) ?_
 refine Ops.ld_sl hI1.top rfl (by omega) rfl rfl ?_
 refine Ops.mv_int rfl rfl rfl ?_
 refine Ops.idx hrow1.2 rfl rfl rfl (by omega) (by omega) ?_
 refine Ops.ld_int hrow1 rfl (by omega) rfl rfl ?_
 refine Ops.mv_int rfl rfl rfl ?_
 refine Ops.nil ?_
 refine thenQ_n ?_
 refine Cd.seq ?_
 refine Cd.seq ?_
 refine Cd.region ?_
 refine Ops.mv_int rfl rfl rfl ?_
 refine Ops.lss rfl rfl rfl ?_
 refine Ops.nil ?_
 refine thenQ_n ?_
 refine Cd.cond_p _ rfl (fun h1 => ?_) (fun h1 => ?_)
 ·rw [if_pos h1] at hf
  obtain rfl := Option.some.inj hf
  refine Cd.seq ?_
  refine Cd.region ?_
  refine Ops.mv_int rfl rfl rfl ?_
  refine Ops.nil ?_
  refine thenQ_n ?_
  refine Cd.ret ?_
  refine thenQ_r ?_
  refine ret1_i rfl ?_
  exact ⟨rfl, hS.none⟩
 ·rw [if_neg h1] at hf
  refine Cd.skip ?_
  refine thenQ_n ?_
  refine Cd.seq ?_
  refine Cd.region ?_
  refine Ops.ld_agg 2 (hS.rd 0 rfl) rfl rfl rfl ?_
  refine Ops.mv_int rfl rfl rfl ?_
  refine Ops.call (l11Find_c ls 2000 _ d _ hR1 hf) rfl rfl rfl ?_
  rintro _ w2 ⟨rfl, hst⟩
  refine Ops.mv_int rfl rfl rfl ?_
  refine Ops.nil ?_
  refine thenQ_n ?_
  refine Cd.ret ?_
  refine ret1_i rfl ?_
  exact ⟨rfl, (hS.later hst.below).none⟩

theorem l11Define_c {w0 w : World} {ks : List Ck} (x : LS) (gens : Nat) (y : PS) (hok : x.ok) (hS : St w0 w (x.cks ++ ks)) (hp : defP x.p gens = some y) :
  Ret Tryz.prog 222 [x.val, .int .i64 (gens : Int)] w (fun v w' => ∃ x' : LS, x'.ok ∧ x'.p = y ∧ v = .tuple #[x'.val, .int .i64 (x.m : Int)] ∧ St w0 w' (x'.cks ++ ks)) := by
 obtain ⟨A, n, c, rs, im, B, m, cB, ls⟩ := x
 obtain ⟨h1, h2, h3⟩ := hok
 have h1 : rs.length = n := h1
 have h2 : im.length = n := h2
 have h3 : ls.length = m := h3
 have hp : (if ls.length = im.length ∧ ls.length < 2000 ∧ gens ≤ 100 then some (⟨im ++ [List.replicate gens (-1)], ls ++ [(ls.length : Int)]⟩ : PS) else none) = some y := hp
 split at hp
 case isFalse => cases hp
 rename_i hc
 have hp := Option.some.inj hp
 have hS : St w0 w (CkI 2 B m cB ls :: CkR 34 A n c rs :: (rowsCk 2 rs im ++ ks)) := hS
 refine Ret.of_cd Tryz.func222 rfl Tryz.ntmps222 rfl (postc2 rfl rfl) ?_
 refine Cd.seq ?_
 refine Cd.region ?_
 refine Ops.box3 hS rfl rfl ?_
 intro Ab w1 hS1
 skip
 refine Ops.new3 hS1 rfl ?_
 intro Ac w2 hS2
 have hS2 : St w0 w2 (Bx 202 3 Ac [.slice none 0 0, .slice none 0 0, .bool false] :: Bx 202 3 Ab [.slice A n c, .slice B m cB, .bool false] :: CkI 2 B m cB ls :: CkR 34 A n c rs :: (rowsCk 2 rs im ++ ks)) := hS2
 refine Ops.mv_int rfl rfl rfl ?_
 refine Ops.nil ?_
 refine thenQ_n ?_
 refine Cd.seq ?_
 refine Cd.region ?_
 refine Ops.fld (hS2.rd 1 rfl) rfl rfl rfl rfl inferInstance ?_
 refine Ops.ldf_s (hS2.rd 1 rfl) rfl rfl rfl rfl rfl ?_
 refine Ops.len rfl rfl ?_
 refine Ops.mv_int rfl rfl rfl ?_
 refine Ops.nil ?_
 refine thenQ_n ?_
 refine Cd.seq ?_
 refine Cd.seq ?_
 refine Cd.region ?_
 refine Ops.mv_int rfl rfl rfl ?_
 refine Ops.eql rfl rfl rfl ?_
 refine Ops.nil ?_
 refine thenQ_n ?_
 refine Cd.cond_pf rfl (by omega) ?_
 refine Cd.skip ?_
 refine thenQ_n ?_
 refine Cd.seq ?_
 refine Cd.region ?_
 refine Ops.bs0 hS2 rfl ?_
 intro A3 w3 hS3
 refine Ops.mv_sl rfl rfl rfl ?_
 refine Ops.nil ?_
 refine thenQ_n ?_
 refine Cd.seq ?_
 refine Cd.seq ?_
 refine Cd.region ?_
 refine Ops.mv_int rfl rfl rfl ?_
 refine Ops.nil ?_
 refine thenQ_n ?_
 refine Cd.block ?_
 refine Cd.loop (α := Nat × Option Addr × Nat) (fun s => [(1, .int .i64 (gens : Int)), (2, .pointer Ab), (4, .pointer Ac), (6, .int .i64 (m : Int)), (7, .slice s.2.1 s.1 s.2.2), (8, .int .i64 (s.1 : Int))]) (fun s w' => St w0 w' (CkI 2 s.2.1 s.1 s.2.2 (List.replicate s.1 (-1)) :: Bx 202 3 Ac [.slice none 0 0, .slice none 0 0, .bool false] :: Bx 202 3 Ab [.slice A n c, .slice B m cB, .bool false] :: CkI 2 B m cB ls :: CkR 34 A n c rs :: (rowsCk 2 rs im ++ ks)) ∧ s.1 ≤ gens) (fun s => gens - s.1) (0, A3, 0) ⟨rfl, rfl, rfl, rfl, rfl, rfl, trivial⟩ ⟨hS3, Nat.zero_le _⟩ ?_
 rintro ⟨k, A4, c4⟩ e w4 ⟨hS4, hk⟩
 dsimp only at hS4 hk
 refine Cd.seq ?_
 refine Cd.seq ?_
 refine Cd.region ?_
 refine Ops.mv_int rfl rfl rfl ?_
 refine Ops.mv_int rfl rfl rfl ?_
 refine Ops.lss rfl rfl rfl ?_
 refine Ops.nil ?_
 refine thenQ_n ?_
 refine Cd.cond_p _ rfl (fun h4 => ?_) (fun h4 => ?_)
 ·refine Cd.skip ?_
  refine thenQ_n ?_
  refine Cd.seq ?_
  refine Cd.block ?_
  refine Cd.region ?_
  refine Ops.mv_sl rfl rfl rfl ?_
  refine Ops.bs1I hS4 rfl rfl rfl ?_
  intro A5 w5 hS5
  refine Ops.appI 1 hS5 rfl (hS5.rdI 0 rfl) rfl rfl rfl (by omega) (by omega) rfl ?_
  intro A6 c6 w6 hS6
  refine Ops.mv_sl rfl rfl rfl ?_
  refine Ops.nil ?_
  refine blockQ_n ?_
  refine thenQ_n ?_
  refine Cd.region ?_
  refine Ops.mv_int rfl rfl rfl ?_
  refine Ops.add rfl rfl rfl (by omega) ?_
  refine Ops.mv_int rfl rfl rfl ?_
  refine Ops.nil ?_
  refine thenQ_n ?_
  refine ⟨(k + 1, A6, c6), by show gens - (k + 1) < gens - k; omega, ⟨rfl, rfl, rfl, rfl, rfl, rfl, trivial⟩, ?_, by show k + 1 ≤ gens; omega⟩
  have h5 := hS6.tail
  rw [← List.replicate_succ'] at h5
  exact h5
 ·have hkg : k = gens := by omega
  subst hkg
  refine Cd.exit ?_
  refine thenQ_x ?_
  refine thenQ_x ?_
  refine blockQ_x ?_
  refine thenQ_n ?_
  refine Cd.seq ?_
  refine Cd.region ?_
  refine Ops.fld (hS4.rd 2 rfl) rfl rfl rfl rfl inferInstance ?_
  refine Ops.ldf_s (hS4.rd 2 rfl) rfl rfl rfl rfl rfl ?_
  refine Ops.mv_sl rfl rfl rfl ?_
  refine Ops.bs1R hS4 rfl rfl rfl ?_
  intro A5 w5 hS5
  refine Ops.appR 5 hS5 rfl (hS5.rdR 0 rfl) rfl rfl rfl (by omega) (by omega) rfl ?_
  intro A6 c6 w6 hS6
  have hS6 : St w0 w6 (CkI 2 A4 k c4 (List.replicate k (-1)) :: Bx 202 3 Ac [.slice none 0 0, .slice none 0 0, .bool false] :: Bx 202 3 Ab [.slice A n c, .slice B m cB, .bool false] :: CkI 2 B m cB ls :: CkR 34 A6 (n + 1) c6 (rs ++ [⟨A4, k, c4⟩]) :: (rowsCk 2 rs im ++ ks)) := hS6.tail
  skip
  refine Ops.fld (hS6.rd 2 rfl) rfl rfl rfl rfl inferInstance ?_
  refine Ops.stf 2 hS6 rfl rfl rfl rfl rfl ?_
  intro w7 hS7
  have hS7 : St w0 w7 (CkI 2 A4 k c4 (List.replicate k (-1)) :: Bx 202 3 Ac [.slice none 0 0, .slice none 0 0, .bool false] :: Bx 202 3 Ab [.slice A6 (n + 1) c6, .slice B m cB, .bool false] :: CkI 2 B m cB ls :: CkR 34 A6 (n + 1) c6 (rs ++ [⟨A4, k, c4⟩]) :: (rowsCk 2 rs im ++ ks)) := hS7
  refine Ops.nil ?_
  refine thenQ_n ?_
  refine Cd.seq ?_
  refine Cd.region ?_
  refine Ops.fld (hS7.rd 2 rfl) rfl rfl rfl rfl inferInstance ?_
  refine Ops.ldf_s (hS7.rd 2 rfl) rfl rfl rfl rfl rfl ?_
  refine Ops.mv_int rfl rfl rfl ?_
  refine Ops.bs1I hS7 rfl rfl rfl ?_
  intro A8 w8 hS8
  refine Ops.appI 4 hS8 rfl (hS8.rdI 0 rfl) rfl rfl rfl (by omega) (by omega) rfl ?_
  intro A9 c9 w9 hS9
  have hS9 : St w0 w9 (CkI 2 A4 k c4 (List.replicate k (-1)) :: Bx 202 3 Ac [.slice none 0 0, .slice none 0 0, .bool false] :: Bx 202 3 Ab [.slice A6 (n + 1) c6, .slice B m cB, .bool false] :: CkI 2 A9 (m + 1) c9 (ls ++ [(m : Int)]) :: CkR 34 A6 (n + 1) c6 (rs ++ [⟨A4, k, c4⟩]) :: (rowsCk 2 rs im ++ ks)) := hS9.tail
  skip
  refine Ops.fld (hS9.rd 2 rfl) rfl rfl rfl rfl inferInstance ?_
  refine Ops.stf 2 hS9 rfl rfl rfl rfl rfl ?_
  intro w10 hS10
  have hS10 : St w0 w10 (CkI 2 A4 k c4 (List.replicate k (-1)) :: Bx 202 3 Ac [.slice none 0 0, .slice none 0 0, .bool false] :: Bx 202 3 Ab [.slice A6 (n + 1) c6, .slice A9 (m + 1) c9, .bool false] :: CkI 2 A9 (m + 1) c9 (ls ++ [(m : Int)]) :: CkR 34 A6 (n + 1) c6 (rs ++ [⟨A4, k, c4⟩]) :: (rowsCk 2 rs im ++ ks)) := hS10
  refine Ops.nil ?_
  refine thenQ_n ?_
  refine Cd.seq ?_
  refine Cd.region ?_
  refine Ops.ld_agg 2 (hS10.rd 2 rfl) rfl rfl rfl ?_
  refine Ops.mv_int rfl rfl rfl ?_
  refine Ops.st_agg 3 1 hS10 rfl rfl rfl rfl rfl rfl rfl ?_
  intro w11 hS11
  have hS11 : St w0 w11 (CkI 2 A4 k c4 (List.replicate k (-1)) :: Bx 202 3 Ac [.slice A6 (n + 1) c6, .slice A9 (m + 1) c9, .bool false] :: Bx 202 3 Ab [.slice A6 (n + 1) c6, .slice A9 (m + 1) c9, .bool false] :: CkI 2 A9 (m + 1) c9 (ls ++ [(m : Int)]) :: CkR 34 A6 (n + 1) c6 (rs ++ [⟨A4, k, c4⟩]) :: (rowsCk 2 rs im ++ ks)) := hS11
  refine Ops.mv_int rfl rfl rfl ?_
  refine Ops.nil ?_
  refine thenQ_n ?_
  refine Cd.ret ?_
  skip
  refine retc2_r rfl (hS11.rd 1 rfl) rfl ?_
  refine ⟨⟨A6, n + 1, c6, rs ++ [⟨A4, k, c4⟩], im ++ [List.replicate k (-1)], A9, m + 1, c9, ls ++ [(m : Int)]⟩, ⟨by simp [h1], by simp [h2], by simp [h3]⟩, ?_, rfl, ?_⟩
  ·rw [← hp, h3]; rfl
  ·have h5 := (hS11.sub ((((List.Sublist.refl _).cons _).cons _).cons_cons _))
   show St w0 w11 (CkI 2 A9 (m + 1) c9 (ls ++ [(m : Int)]) :: CkR 34 A6 (n + 1) c6 (rs ++ [⟨A4, k, c4⟩]) :: (rowsCk 2 (rs ++ [⟨A4, k, c4⟩]) (im ++ [List.replicate k (-1)]) ++ ks))
   rw [rowsCk_append (by omega), List.append_assoc]
   refine h5.perm ?_
   refine (List.perm_middle (l₁ := [_, _]) (a := CkI 2 A4 k c4 (List.replicate k (-1)))).symm.trans ?_
   refine List.Perm.cons _ (List.Perm.cons _ ?_)
   exact List.perm_middle.symm
end Go.Proofs.YtjpkmpihmilgoaaGreat.Vc
/-
 The reference's coset enumeration, walked: the next image. Conditions: as each states them.
-/
namespace Go.Proofs.YtjpkmpihmilgoaaGreat.Vc
open Go.RowKit

def setI (M : List (List Int)) (c g v : Int) : List (List Int) := M.set c.toNat ((gl M c).set g.toNat v)
def nextP (x : PS) (c g : Int) : Option (PS × Int) :=
 match imageP x c g with
 | none => none
 | some d => if 0 ≤ d then some (x, d) else
  match defP x (gl x.im 0).length with
  | none => none
  | some y => if g < ((gl x.im 0).length : Int) then some (⟨setI (setI y.im c g (x.ls.length : Int)) (x.ls.length : Int) g c, y.ls⟩, (x.ls.length : Int)) else none

theorem St.toBack {w0 w : World} {pre a ks : List Ck} (h : St w0 w (pre ++ (a ++ ks))) : St w0 w (a ++ (pre ++ ks)) := h.perm (by
 rw [← List.append_assoc, ← List.append_assoc]
 exact List.perm_append_comm.append_right ks)
/-- the state of a struct with its memory -/
def LSt (w0 : World) (pre : List Ck) (ks : List Ck) (y : PS) (x : LS) (w : World) : Prop := x.ok ∧ x.p = y ∧ St w0 w (pre ++ (x.cks ++ ks))
theorem LS.rowsI {w0 w : World} {pre ks : List Ck} {x : LS} (hok : x.ok) (h : St w0 w (pre ++ (x.cks ++ ks))) : RowsI w x.A x.n x.rs x.im := by
 have h1 : St w0 w (x.cks ++ (pre ++ ks)) := h.toBack
 have h2 : St w0 w (mat 34 2 x.A x.n x.c x.rs x.im ++ (pre ++ ks)) := h1.tail
 exact h2.rowsI hok.2.1
theorem LS.rdI {w0 w : World} {pre ks : List Ck} {x : LS} (h : St w0 w (pre ++ (x.cks ++ ks))) : RdI w x.B x.m x.ls := by
 have h1 : St w0 w (x.cks ++ (pre ++ ks)) := h.toBack
 exact h1.rdI 0 rfl
theorem l11Next_c {w0 w : World} {ks : List Ck} (x : LS) (c g : Int) (y : PS) (d : Int) (hok : x.ok) (hS : St w0 w (x.cks ++ ks)) (hp : nextP x.p c g = some (y, d)) :
  Ret Tryz.prog 224 [x.val, .int .i64 c, .int .i64 g] w (fun v w' => ∃ x' : LS, x'.ok ∧ x'.p = y ∧ v = .tuple #[x'.val, .int .i64 d] ∧ St w0 w' (x'.cks ++ ks)) := by
 unfold nextP at hp
 split at hp
 case h_1 => cases hp
 rename_i d0 hd0
 have hcc : 0 ≤ c ∧ c < (x.im.length : Int) ∧ 0 ≤ g ∧ g < ((gl x.im c).length : Int) := by
  have hd1 : (if 0 ≤ c ∧ c < (x.im.length : Int) ∧ 0 ≤ g ∧ g < ((gl x.im c).length : Int) then (if gi (gl x.im c) g < 0 then some (-1) else findP x.ls 2000 (gi (gl x.im c) g)) else none) = some d0 := hd0
  split at hd1
  case isFalse => cases hd1
  rename_i h; exact h
 obtain ⟨ci, rfl⟩ : ∃ ci : Nat, c = ci := ⟨c.toNat, by omega⟩
 have hR0 := LS.rdI (pre := []) hS
 have hI0 := LS.rowsI (pre := []) hok hS
 refine Ret.of_cd Tryz.func224 rfl Tryz.ntmps224 rfl (postc2 rfl rfl) ?_
 refine Cd.seq ?_
 refine Cd.region ?_
 refine Ops.box3 hS rfl rfl ?_
 intro Ab w1 hS1
 skip
 refine Ops.new3 hS1 rfl ?_
 intro Ac w2 hS2
 have hS2 : St w0 w2 ([Bx 202 3 Ac [.slice none 0 0, .slice none 0 0, .bool false], Bx 202 3 Ab x.cells] ++ (x.cks ++ ks)) := hS2
 have hR2 := LS.rdI hS2
 have hI2 := LS.rowsI hok hS2
 refine Ops.mv_int rfl rfl rfl ?_
 refine Ops.nil ?_
 refine thenQ_n ?_
 refine Cd.seq ?_
 refine Cd.seq ?_
 refine Cd.region ?_
 refine Ops.ld_agg 2 (hS2.rd 1 rfl) rfl rfl rfl ?_
 refine Ops.mv_int rfl rfl rfl ?_
 refine Ops.mv_int rfl rfl rfl ?_
 refine Ops.call (l11Image_c x.rs x.im x.ls (ci : Int) g d0 _ hI2 hR2 hd0) rfl rfl rfl ?_
 rintro _ w3 ⟨rfl, hst⟩
 have hS3 := hS2.later hst.below
 refine Ops.mv_int rfl rfl rfl ?_
 refine Ops.nil ?_
 refine thenQ_n ?_
 refine Cd.seq ?_
 refine Cd.region ?_
 refine Ops.mv_int rfl rfl rfl ?_
 refine Ops.geq rfl rfl rfl ?_
 refine Ops.nil ?_
 refine thenQ_n ?_
 refine Cd.cond_p _ rfl (fun h1 => ?_) (fun h1 => ?_)
 ·rw [if_pos h1] at hp
  obtain ⟨rfl, rfl⟩ := Prod.mk.inj (Option.some.inj hp)
  refine Cd.seq ?_
  refine Cd.region ?_
  refine Ops.ld_agg 2 (hS3.rd 1 rfl) rfl rfl rfl ?_
  refine Ops.mv_int rfl rfl rfl ?_
  refine Ops.st_agg 3 0 hS3 rfl rfl rfl rfl rfl rfl rfl ?_
  intro w4 hS4
  refine Ops.mv_int rfl rfl rfl ?_
  refine Ops.nil ?_
  refine thenQ_n ?_
  refine Cd.ret ?_
  refine thenQ_r ?_
  skip
  refine retc2_r rfl (hS4.rd 0 rfl) rfl ?_
  exact ⟨x, hok, rfl, rfl, (hS4.sub ((List.Sublist.refl _).cons _)).sub ((List.Sublist.refl _).cons _)⟩
 ·rw [if_neg h1] at hp
  split at hp
  case h_1 => cases hp
  rename_i y1 hy1
  split at hp
  case isFalse => cases hp
  rename_i hg
  obtain ⟨e1, e2⟩ := Prod.mk.inj (Option.some.inj hp)
  have hI3 := hI2.later hst.below
  have hn : 0 < x.n := by have := hok.2.1; omega
  have hrow := hI3.at_ (i := 0) (Int.le_refl _) (by omega)
  have hrl : (rg x.rs 0).n = (gl x.im 0).length := hrow.1.symm
  refine Cd.skip ?_
  refine thenQ_n ?_
  refine Cd.seq ?_
  refine Cd.drawP [6, 10] [.ex (.agg #[.slice (x.A) (x.n) (x.c), .slice (x.B) (x.m) (x.cB), .bool (false)]), .ex (.pointer (ptrAt (Ab) 0)), .ex (.slice (x.A) (x.n) (x.c)), .ex (.pointer (ptrAt (x.A) ((0 : Int)).toNat)), .ex (.slice ((rg (x.rs) ((0 : Int))).a) ((rg (x.rs) ((0 : Int))).n) ((rg (x.rs) ((0 : Int))).c)), .ex (.int .i64 ((((rg (x.rs) ((0 : Int))).n : Nat) : Int))), .pr (fun v w' => ∃ x' : LS, v = .tuple #[x'.val, .int .i64 (x.m : Int)] ∧ LSt w0 [Bx 202 3 Ac [.slice none 0 0, .slice none 0 0, .bool false], Bx 202 3 Ab x.cells] ks y1 x' w'), .al (fun v => ∃ u0, v = .tuple #[u0, .int .i64 (x.m : Int)]) (fun v w' => ∃ x' : LS, v = .tuple #[x'.val, .int .i64 (x.m : Int)] ∧ LSt w0 [Bx 202 3 Ac [.slice none 0 0, .slice none 0 0, .bool false], Bx 202 3 Ab x.cells] ks y1 x' w'), .pr (fun v w' => ∃ x' : LS, v = x'.val ∧ LSt w0 [Bx 202 3 Ac [.slice none 0 0, .slice none 0 0, .bool false], Bx 202 3 Ab x.cells] ks y1 x' w'), .ex (.int .i64 (x.m : Int)), .pr (fun _ w' => ∃ x' : LS, LSt w0 [Bx 202 3 Ac [.slice none 0 0, .slice none 0 0, .bool false], Bx 202 3 Ab x'.cells] ks y1 x' w'), .ex (.int .i64 (x.m : Int))] (by kernel_rfl) (by kernel_rfl) (List.forall_mem_cons.2 ⟨Ye.lasts_ex _, (List.forall_mem_cons.2 ⟨Ye.lasts_ex _, (List.forall_mem_cons.2 ⟨Ye.lasts_ex _, (List.forall_mem_cons.2 ⟨Ye.lasts_ex _, (List.forall_mem_cons.2 ⟨Ye.lasts_ex _, (List.forall_mem_cons.2 ⟨Ye.lasts_ex _, (List.forall_mem_cons.2 ⟨Ye.lasts_pr (fun v w w' h hb => by obtain ⟨x', hv, h1, h2, h3⟩ := h; exact ⟨x', hv, h1, h2, h3.later hb⟩), (List.forall_mem_cons.2 ⟨Ye.lasts_al (fun v w w' h hb => by obtain ⟨x', hv, h1, h2, h3⟩ := h; exact ⟨x', hv, h1, h2, h3.later hb⟩), (List.forall_mem_cons.2 ⟨Ye.lasts_pr (fun v w w' h hb => by obtain ⟨x', hv, h1, h2, h3⟩ := h; exact ⟨x', hv, h1, h2, h3.later hb⟩), (List.forall_mem_cons.2 ⟨Ye.lasts_ex _, (List.forall_mem_cons.2 ⟨Ye.lasts_pr (fun v w w' h hb => by obtain ⟨x', h1, h2, h3⟩ := h; exact ⟨x', h1, h2, h3.later hb⟩), (List.forall_mem_cons.2 ⟨Ye.lasts_ex _, (fun _ h => by cases h)⟩)⟩)⟩)⟩)⟩)⟩)⟩)⟩)⟩)⟩)⟩)⟩) ⟨?_, ?_, ?_, ?_, ?_, ?_, ?_, ?_, ?_, ?_, ?_, ?_, trivial⟩ ?_
  ·intro e1 w1 cc hlo hhi hb0 hp hun hq
   show Ops _ _ _ _ _ _ _
   replace hlo := le_of_lo hlo (b := 0) (by kernel_rfl)
   replace hhi := le_of_hi hhi (b := 0) (by kernel_rfl)
   obtain rfl : cc = 0 := by omega
   have hb := hb0 rfl
   refine Ops.ld_agg 2 ((hS3.rd 1 rfl).below hb) rfl rfl rfl ?_
   refine Ops.nil ?_
   exact AfterP.dn rfl (Below.refl _ _) (by exact rfl)
  ·intro e1 w1 cc hlo hhi hb0 hp hun hq
   show Ops _ _ _ _ _ _ _
   replace hlo := le_of_lo hlo (b := 0) (by kernel_rfl)
   replace hhi := le_of_hi hhi (b := 0) (by kernel_rfl)
   obtain rfl : cc = 0 := by omega
   have hb := hb0 rfl
   refine Ops.fld ((hS3.rd 1 rfl).below hb) rfl rfl rfl rfl inferInstance ?_
   refine Ops.nil ?_
   exact AfterP.dn rfl (Below.refl _ _) (by exact rfl)
  ·intro e1 w1 cc hlo hhi hb0 hp hun hq
   show Ops _ _ _ _ _ _ _
   replace hlo := le_of_lo hlo (b := 0) (by kernel_rfl)
   replace hhi := le_of_hi hhi (b := 0) (by kernel_rfl)
   obtain rfl : cc = 0 := by omega
   have hb := hb0 rfl
   refine Ops.ldf_s ((hS3.rd 1 rfl).below hb) rfl rfl rfl rfl rfl ?_
   refine Ops.nil ?_
   exact AfterP.dn rfl (Below.refl _ _) (by exact rfl)
  ·intro e1 w1 cc hlo hhi hb0 hp hun hq
   show Ops _ _ _ _ _ _ _
   replace hlo := le_of_lo hlo (b := 0) (by kernel_rfl)
   replace hhi := le_of_hi hhi (b := 0) (by kernel_rfl)
   obtain rfl : cc = 0 := by omega
   have hb := hb0 rfl
   refine Ops.idx (hI3.top.later hb).2 rfl rfl rfl (by omega) (by omega) ?_
   refine Ops.nil ?_
   exact AfterP.dn rfl (Below.refl _ _) (by exact rfl)
  ·intro e1 w1 cc hlo hhi hb0 hp hun hq
   show Ops _ _ _ _ _ _ _
   replace hlo := le_of_lo hlo (b := 0) (by kernel_rfl)
   replace hhi := le_of_hi hhi (b := 0) (by kernel_rfl)
   obtain rfl : cc = 0 := by omega
   have hb := hb0 rfl
   refine Ops.ld_sl (hI3.top.later hb) rfl (by omega) rfl rfl ?_
   refine Ops.nil ?_
   exact AfterP.dn rfl (Below.refl _ _) (by exact rfl)
  ·intro e1 w1 cc hlo hhi hb0 hp hun hq
   show Ops _ _ _ _ _ _ _
   refine Ops.len rfl rfl ?_
   refine Ops.nil ?_
   exact AfterP.dn rfl (Below.refl _ _) (by exact rfl)
  ·intro e1 w1 cc hlo hhi hb0 hp hun hq
   show Ops _ _ _ _ _ _ _
   replace hlo := le_of_lo hlo (b := 0) (by kernel_rfl)
   replace hhi := le_of_hi hhi (b := 0) (by kernel_rfl)
   obtain rfl : cc = 0 := by omega
   have hb := hb0 rfl
   refine Ops.call (l11Define_c x (gl x.im 0).length y1 hok ((hS3.later (hb0 rfl)).toBack (pre := [_, _])) hy1) rfl (by rw [← hrl]; rfl) rfl ?_
   rintro _ w4 ⟨x', hok', hp', rfl, hT⟩
   refine Ops.nil ?_
   exact AfterU.dn rfl ⟨x', rfl, hok', hp', hT.toBack⟩
  ·intro e1 w1 cc hlo hhi hb0 hp hun hq
   show Ops _ _ _ _ _ _ _
   replace hlo := le_of_lo hlo (b := 1) (by kernel_rfl)
   replace hhi := le_of_hi hhi (b := 1) (by kernel_rfl)
   obtain rfl : cc = 1 := by omega
   have hph := hp 6 _ _ (by kernel_rfl) rfl rfl (by kernel_rfl)
   obtain ⟨x', hv, hT⟩ := (hp 6 _ _ (by kernel_rfl) rfl rfl (by kernel_rfl))
   refine Ops.mv_tup rfl (by exact hv) rfl ?_
   refine Ops.nil ?_
   exact AfterP.dn rfl (Below.refl _ _) ⟨⟨_, rfl⟩, x', rfl, hT⟩
  ·intro e1 w1 cc hlo hhi hb0 hp hun hq
   show Ops _ _ _ _ _ _ _
   replace hlo := le_of_lo hlo (b := 1) (by kernel_rfl)
   replace hhi := le_of_hi hhi (b := 1) (by kernel_rfl)
   obtain rfl : cc = 1 := by omega
   have hph := hp 6 _ _ (by kernel_rfl) rfl rfl (by kernel_rfl)
   obtain ⟨x', hv, hT⟩ := ((hp 7 _ _ (by kernel_rfl) rfl rfl).2 (by kernel_rfl))
   refine Ops.extract (by exact hv) rfl rfl ?_
   refine Ops.nil ?_
   exact AfterP.dn rfl (Below.refl _ _) ⟨x', rfl, hT⟩
  ·intro e1 w1 cc hlo hhi hb0 hp hun hq
   show Ops _ _ _ _ _ _ _
   obtain ⟨u0, hv⟩ := (hp 7 _ _ (by kernel_rfl) rfl rfl).1
   refine Ops.extract (by exact hv) rfl rfl ?_
   refine Ops.nil ?_
   exact AfterP.dn rfl (Below.refl _ _) rfl
  ·intro e1 w1 cc hlo hhi hb0 hp hun hq
   show Ops _ _ _ _ _ _ _
   replace hlo := le_of_lo hlo (b := 1) (by kernel_rfl)
   replace hhi := le_of_hi hhi (b := 1) (by kernel_rfl)
   obtain rfl : cc = 1 := by omega
   have hph := hp 6 _ _ (by kernel_rfl) rfl rfl (by kernel_rfl)
   obtain ⟨x', hv, h1, h2, h3⟩ := (hp 8 _ _ (by kernel_rfl) rfl rfl (by kernel_rfl))
   refine Ops.st_agg 3 1 h3 rfl rfl (by exact hv) rfl rfl rfl rfl ?_
   intro w11 hT11
   refine Ops.nil ?_
   exact AfterU.st rfl ⟨x', h1, h2, hT11⟩
  ·intro e1 w1 cc hlo hhi hb0 hp hun hq
   show Ops _ _ _ _ _ _ _
   refine Ops.mv_int rfl rfl rfl ?_
   refine Ops.nil ?_
   exact AfterP.dn rfl (Below.refl _ _) (by exact rfl)
  intro u w5 _ hu _ _
  obtain ⟨x', hok', hp', hT⟩ := hu 10 _ rfl (by kernel_rfl)
  have hxm : x.ls.length = x.m := hok.2.2
  have hy2 := hy1
  have hy1 : (if x.ls.length = x.im.length ∧ x.ls.length < 2000 ∧ (gl x.im 0).length ≤ 100 then some (⟨x.im ++ [List.replicate (gl x.im 0).length (-1)], x.ls ++ [(x.ls.length : Int)]⟩ : PS) else none) = some y1 := hy1
  split at hy1
  case isFalse => cases hy1
  rename_i hb1
  obtain rfl := Option.some.inj hy1
  have him : x'.im = x.im ++ [List.replicate (gl x.im 0).length (-1)] := congrArg PS.im hp'
  have hls : x'.ls = x.ls ++ [(x.ls.length : Int)] := congrArg PS.ls hp'
  have hgg : g < ((gl x.im 0).length : Int) := hg
  have hn' : x'.n = x.n + 1 := by have := hok'.2.1; rw [him, List.length_append] at this; have h5 := hok.2.1; simp at this; omega
  have hT0 : St w0 w5 ([Bx 202 3 Ac [.slice none 0 0, .slice none 0 0, .bool false], Bx 202 3 Ab x'.cells] ++ (x'.cks ++ ks)) := hT
  have hT5 : St w0 w5 ([Bx 202 3 Ac [.slice none 0 0, .slice none 0 0, .bool false], Bx 202 3 Ab x'.cells, CkI 2 x'.B x'.m x'.cB x'.ls] ++ (mat 34 2 x'.A x'.n x'.c x'.rs x'.im ++ ks)) := hT
  have hI5 := LS.rowsI hok' hT0
  have hin : x.im.length = x.n := hok.2.1
  have hrow5 := hI5.at_ (i := (ci : Int)) hcc.1 (by omega)
  have egl : gl x'.im (ci : Int) = gl x.im (ci : Int) := by
   rw [him]
   simp only [gl, Int.toNat_natCast, List.getD_eq_getElem?_getD]
   rw [List.getElem?_append_left (by omega)]
  have egm : gl x'.im (x.m : Int) = List.replicate (gl x.im 0).length (-1) := by
   rw [him]
   simp only [gl, Int.toNat_natCast, List.getD_eq_getElem?_getD]
   rw [List.getElem?_append_right (by omega)]
   simp [show x.m - x.im.length = 0 by omega]
  have hr5 : (rg x'.rs (ci : Int)).n = (gl x.im (ci : Int)).length := by rw [← hrow5.1, egl]
  have hrl' : x'.rs.length = x'.im.length := by rw [hok'.1, hok'.2.1]
  refine thenQ_n ?_
  refine Cd.seq ?_
  refine Cd.seq ?_
  refine Cd.region ?_
  refine Ops.fld (hT5.rd 1 rfl) rfl rfl rfl rfl inferInstance ?_
  refine Ops.ldf_b (hT5.rd 1 rfl) rfl rfl rfl rfl rfl ?_
  refine Ops.nil ?_
  refine thenQ_n ?_
  refine Cd.cond_f rfl ?_
  refine Cd.skip ?_
  refine thenQ_n ?_
  refine Cd.seq ?_
  refine Cd.region ?_
  refine Ops.fld (hT5.rd 1 rfl) rfl rfl rfl rfl inferInstance ?_
  refine Ops.ldf_s (hT5.rd 1 rfl) rfl rfl rfl rfl rfl ?_
  refine Ops.mv_int rfl rfl rfl ?_
  refine Ops.idx hI5.top.2 rfl rfl rfl (by omega) (by omega) ?_
  refine Ops.ld_sl hI5.top rfl (by omega) rfl rfl ?_
  refine Ops.mv_int rfl rfl rfl ?_
  refine Ops.mv_int rfl rfl rfl ?_
  refine Ops.idx hrow5.2 rfl rfl rfl (by omega) (by omega) ?_
  skip
  refine Ops.st_row ci hT5 hrl' (by rw [hok'.1]; omega) rfl rfl (by omega) ?_
  intro w6 hT6
  have hok6 : ({ x' with im := x'.im.set ci ((gl x'.im (ci : Int)).set g.toNat (x.m : Int)) } : LS).ok := ⟨hok'.1, by show (x'.im.set _ _).length = _; rw [List.length_set]; exact hok'.2.1, hok'.2.2⟩
  generalize hx6 : ({ x' with im := x'.im.set ci ((gl x'.im (ci : Int)).set g.toNat (x.m : Int)) } : LS) = x6 at hok6
  have hA6 : x6.A = x'.A ∧ x6.n = x'.n ∧ x6.c = x'.c ∧ x6.rs = x'.rs ∧ x6.B = x'.B ∧ x6.m = x'.m ∧ x6.cB = x'.cB ∧ x6.ls = x'.ls ∧ x6.im = x'.im.set ci ((gl x'.im (ci : Int)).set g.toNat (x.m : Int)) := by subst hx6; exact ⟨rfl, rfl, rfl, rfl, rfl, rfl, rfl, rfl, rfl⟩
  obtain ⟨q1, q2, q3, q4, q5, q6, q7, q8, q9⟩ := hA6
  have hT6' : St w0 w6 ([Bx 202 3 Ac [.slice none 0 0, .slice none 0 0, .bool false], Bx 202 3 Ab x'.cells] ++ (x6.cks ++ ks)) := by
   show St w0 w6 ([Bx _ 3 Ac _, Bx _ 3 Ab x'.cells] ++ ((CkI _ x6.B x6.m x6.cB x6.ls :: mat _ _ x6.A x6.n x6.c x6.rs x6.im) ++ ks))
   rw [q1, q2, q3, q4, q5, q6, q7, q8, q9]
   exact hT6
  have hI6 := LS.rowsI hok6 hT6'
  have hrow6 := hI6.at_ (i := (x.m : Int)) (by omega) (by omega)
  have eg6 : gl x6.im (x.m : Int) = List.replicate (gl x.im 0).length (-1) := by
   rw [q9, gl_set (by rw [him, List.length_append]; omega), if_neg (by omega), egm]
  have hr6 : (rg x6.rs (x.m : Int)).n = (gl x.im 0).length := by rw [← hrow6.1, eg6, List.length_replicate]
  refine Ops.nil ?_
  refine thenQ_n ?_
  refine Cd.seq ?_
  refine Cd.region ?_
  refine Ops.fld (hT6'.rd 1 rfl) rfl rfl rfl rfl inferInstance ?_
  refine Ops.ldf_s (hT6'.rd 1 rfl) rfl rfl rfl rfl rfl ?_
  refine Ops.mv_int rfl rfl rfl ?_
  rw [q1, q2, q4] at hI6
  rw [q4] at hrow6 hr6
  refine Ops.idx hI6.top.2 rfl rfl rfl (by omega) (by omega) ?_
  refine Ops.ld_sl hI6.top rfl (by omega) rfl rfl ?_
  refine Ops.mv_int rfl rfl rfl ?_
  refine Ops.mv_int rfl rfl rfl ?_
  refine Ops.idx hrow6.2 rfl rfl rfl (by omega) (by omega) ?_
  skip
  have hT7 : St w0 w6 ([Bx 202 3 Ac [.slice none 0 0, .slice none 0 0, .bool false], Bx 202 3 Ab x'.cells, CkI 2 x'.B x'.m x'.cB x'.ls] ++ (mat 34 2 x'.A x'.n x'.c x'.rs x6.im ++ ks)) := by
   rw [q9]; exact hT6
  refine Ops.st_row x.m hT7 (by rw [q9, List.length_set]; exact hrl') (by rw [hok'.1]; omega) rfl rfl (by omega) ?_
  intro w8 hT8
  refine Ops.nil ?_
  refine thenQ_n ?_
  refine Cd.seq ?_
  refine Cd.region ?_
  refine Ops.ld_agg 2 (hT8.rd 1 rfl) rfl rfl rfl ?_
  refine Ops.mv_int rfl rfl rfl ?_
  refine Ops.st_agg 3 0 hT8 rfl rfl rfl rfl rfl rfl rfl ?_
  intro w9 hT9
  refine Ops.mv_int rfl rfl rfl ?_
  refine Ops.nil ?_
  refine thenQ_n ?_
  refine Cd.ret ?_
  skip
  refine retc2_r rfl (hT9.rd 0 rfl) rfl ?_
  refine ⟨{ x' with im := x6.im.set x.m ((gl x6.im (x.m : Int)).set g.toNat (ci : Int)) }, ⟨hok'.1, by show (x6.im.set _ _).length = _; rw [List.length_set, q9, List.length_set]; exact hok'.2.1, hok'.2.2⟩, ?_, ?_, (hT9.sub ((List.Sublist.refl _).cons _)).sub ((List.Sublist.refl _).cons _)⟩
  ·rw [← e1]
   show (⟨x6.im.set x.m ((gl x6.im (x.m : Int)).set g.toNat (ci : Int)), x'.ls⟩ : PS) = _
   rw [q9, him, hls]
   unfold setI
   simp only [Int.toNat_natCast]
   have e9 : x.p.ls.length = x.m := hxm
   rw [e9]
  ·rw [← e2]
   have e9 : x.p.ls.length = x.m := hxm
   rw [e9]
   rfl
end Go.Proofs.YtjpkmpihmilgoaaGreat.Vc
/-
 The reference's coset enumeration, walked: cosets identified. Conditions: as each states them.
-/
namespace Go.Proofs.YtjpkmpihmilgoaaGreat.Vc
open Go.RowKit

/-- one row's images given over -/
def idRowP (lo hi : Int) : Nat → Nat → List (List Int) → List Int → List Int → Option (List (List Int) × List Int × List Int)
 | 0, _, _, _, _ => none
 | k + 1, g, im, one, two =>
  if g < (gl im hi).length then
   if gi (gl im hi) g < 0 then idRowP lo hi k (g + 1) im one two
   else if g < (gl im lo).length then
    if 0 ≤ gi (gl im lo) g then (if one.length < 1000000 ∧ two.length < 1000000 then idRowP lo hi k (g + 1) im (one ++ [gi (gl im hi) g]) (two ++ [gi (gl im lo) g]) else none)
    else idRowP lo hi k (g + 1) (setI im lo g (gi (gl im hi) g)) one two
   else none
  else some (im, one, two)
def identP : Nat → Nat → PS → List Int → List Int → Option PS
 | 0, _, _, _, _ => none
 | k + 1, i, x, one, two =>
  if i < one.length then
   if i < two.length then
    match findP x.ls 2000 (gi one i), findP x.ls 2000 (gi two i) with
    | some a, some b =>
     if a = b then identP k (i + 1) x one two
     else
      if 0 ≤ (if b < a then b else a) ∧ (if b < a then a else b) < (x.im.length : Int) ∧ (if b < a then a else b) < (x.ls.length : Int) ∧ x.im.length ≤ 2000 then
       match idRowP (if b < a then b else a) (if b < a then a else b) 1000 0 x.im one two with
       | some (im, one', two') => identP k (i + 1) ⟨im, x.ls.set (if b < a then a else b).toNat (if b < a then b else a)⟩ one' two'
       | none => none
      else none
    | _, _ => none
   else none
  else some x
structure IdS where
 i : Nat
 k : Nat
 A7 : Option Addr
 c7 : Nat
 one : List Int
 A8 : Option Addr
 c8 : Nat
 two : List Int
 im : List (List Int)
 ls : List Int

theorem l11Identify_c {w0 w : World} {ks : List Ck} (x : LS) (c d : Int) (y : PS) (k0 : Nat) (hok : x.ok) (hS : St w0 w (x.cks ++ ks)) (hp : identP k0 0 x.p [c] [d] = some y) :
    Ret Tryz.prog 226 [x.val, .int .i64 c, .int .i64 d] w (fun v w' => ∃ x' : LS, x'.ok ∧ x'.p = y ∧ v = x'.val ∧ St w0 w' (x'.cks ++ ks)) := by
  obtain ⟨A, n, cc, rs, im, B, m, cB, ls⟩ := x
  obtain ⟨h1, h2, h3⟩ := hok
  have h1 : rs.length = n := h1
  have h2 : im.length = n := h2
  have h3 : ls.length = m := h3
  refine Ret.of_cd Tryz.func226 rfl Tryz.ntmps226 rfl (postc rfl rfl) ?_
  refine Cd.seq ?_
  refine Cd.region ?_
  refine Ops.box3 hS rfl rfl ?_
  intro Ab w1 hS1
  skip
  refine Ops.new3 hS1 rfl ?_
  intro Ac w2 hS2
  refine Ops.nil ?_
  refine thenQ_n ?_
  refine Cd.seq ?_
  refine Cd.region ?_
  refine Ops.mv_int rfl rfl rfl ?_
  refine Ops.bs1I hS2 rfl rfl rfl ?_
  intro A7 w3 hS3
  refine Ops.mv_int rfl rfl rfl ?_
  refine Ops.bs1I hS3 rfl rfl rfl ?_
  intro A8 w4 hS4
  have hS4 : St w0 w4 ([CkI 2 A8 1 1 [d], CkI 2 A7 1 1 [c], Bx 202 3 Ac [.slice none 0 0, .slice none 0 0, .bool false], Bx 202 3 Ab [.slice A n cc, .slice B m cB, .bool false], CkI 2 B m cB ls] ++ (mat 34 2 A n cc rs im ++ ks)) := hS4
  refine Ops.mv_sl rfl rfl rfl ?_
  refine Ops.mv_sl rfl rfl rfl ?_
  refine Ops.nil ?_
  refine thenQ_n ?_
  refine Cd.seq ?_
  refine Cd.seq ?_
  refine Cd.region ?_
  refine Ops.mv_int rfl rfl rfl ?_
  refine Ops.nil ?_
  refine thenQ_n ?_
  refine Cd.block ?_
  refine Cd.loop (α := IdS) (fun s => [(3, .pointer Ab), (6, .pointer Ac), (7, .slice s.A7 s.one.length s.c7), (8, .slice s.A8 s.two.length s.c8), (9, .int .i64 (s.i : Int))])
    (fun s w' => St w0 w' ([CkI 2 s.A8 s.two.length s.c8 s.two, CkI 2 s.A7 s.one.length s.c7 s.one, Bx 202 3 Ac [.slice none 0 0, .slice none 0 0, .bool false], Bx 202 3 Ab [.slice A n cc, .slice B m cB, .bool false], CkI 2 B m cB s.ls] ++ (mat 34 2 A n cc rs s.im ++ ks)) ∧ s.im.length = n ∧ s.ls.length = m ∧ identP s.k s.i ⟨s.im, s.ls⟩ s.one s.two = some y) (fun s => s.k)
    ⟨0, k0, A7, 1, [c], A8, 1, [d], im, ls⟩ ⟨rfl, rfl, rfl, rfl, rfl, trivial⟩ ⟨hS4, h2, h3, hp⟩ ?_
  rintro ⟨i, k, A7, c7, one, A8, c8, two, im, ls⟩ e w5 ⟨hS5, h2, h3, hf⟩
  dsimp only at hS5 h2 h3 hf ⊢
  obtain ⟨q, rfl⟩ : ∃ q, k = q + 1 := by cases k with | zero => cases hf | succ q => exact ⟨q, rfl⟩
  rw [identP] at hf
  have hc1 := hS5.cap 1 rfl
  dsimp only [CkI] at hc1
  simp only [maxLen] at hc1
  refine Cd.seq ?_
  refine Cd.seq ?_
  refine Cd.region ?_
  refine Ops.mv_int rfl rfl rfl ?_
  refine Ops.mv_sl rfl rfl rfl ?_
  refine Ops.len rfl rfl ?_
  refine Ops.lss rfl rfl rfl ?_
  refine Ops.nil ?_
  refine thenQ_n ?_
  refine Cd.cond_p _ rfl (fun hi => ?_) (fun hi => ?_)
  · rw [if_pos (by omega)] at hf
    split at hf
    case isFalse => cases hf
    rename_i hi2
    split at hf
    case h_2 => cases hf
    rename_i a b hfa hfb
    have hR5 : RdI w5 B m ls := hS5.rdI 4 rfl
    refine Cd.skip ?_
    refine thenQ_n ?_
    refine Cd.seq ?_
    refine Cd.block ?_
    refine Cd.seq ?_
    refine Cd.draw [.ex (.agg #[.slice (A) (n) (cc), .slice (B) (m) (cB), .bool (false)]), .ex (.slice (A7) (one.length) (c7)), .ex (.int .i64 ((i : Int))), .ex (.pointer (ptrAt (A7) ((i : Int)).toNat)), .ex (.int .i64 (gi (one) ((i : Int)))), .ex (.int .i64 (a)), .ex (.agg #[.slice (A) (n) (cc), .slice (B) (m) (cB), .bool (false)]), .ex (.slice (A8) (two.length) (c8)), .ex (.int .i64 ((i : Int))), .ex (.pointer (ptrAt (A8) ((i : Int)).toNat)), .ex (.int .i64 (gi (two) ((i : Int)))), .ex (.int .i64 (b)), .ex (.int .i64 (a)), .ex (.int .i64 (b))] (by kernel_rfl) (by kernel_rfl) rfl (List.forall_mem_cons.2 ⟨Yd.lasts_ex _, (List.forall_mem_cons.2 ⟨Yd.lasts_ex _, (List.forall_mem_cons.2 ⟨Yd.lasts_ex _, (List.forall_mem_cons.2 ⟨Yd.lasts_ex _, (List.forall_mem_cons.2 ⟨Yd.lasts_ex _, (List.forall_mem_cons.2 ⟨Yd.lasts_ex _, (List.forall_mem_cons.2 ⟨Yd.lasts_ex _, (List.forall_mem_cons.2 ⟨Yd.lasts_ex _, (List.forall_mem_cons.2 ⟨Yd.lasts_ex _, (List.forall_mem_cons.2 ⟨Yd.lasts_ex _, (List.forall_mem_cons.2 ⟨Yd.lasts_ex _, (List.forall_mem_cons.2 ⟨Yd.lasts_ex _, (List.forall_mem_cons.2 ⟨Yd.lasts_ex _, (List.forall_mem_cons.2 ⟨Yd.lasts_ex _, (fun _ h => by cases h)⟩)⟩)⟩)⟩)⟩)⟩)⟩)⟩)⟩)⟩)⟩)⟩)⟩)⟩) ⟨?_, ?_, ?_, ?_, ?_, ?_, ?_, ?_, ?_, ?_, ?_, ?_, ?_, ?_, trivial⟩ ?_
    · intro e1 w1 hb hp hun
      refine Ops.ld_agg 2 ((hS5.rd 3 rfl).below hb) rfl rfl rfl ?_
      refine Ops.nil ?_
      exact After.dn (Below.refl _ _) (by exact rfl)
    · intro e1 w1 hb hp hun
      refine Ops.mv_sl rfl rfl rfl ?_
      refine Ops.nil ?_
      exact After.dn (Below.refl _ _) (by exact rfl)
    · intro e1 w1 hb hp hun
      refine Ops.mv_int rfl rfl rfl ?_
      refine Ops.nil ?_
      exact After.dn (Below.refl _ _) (by exact rfl)
    · intro e1 w1 hb hp hun
      refine Ops.idx ((hS5.rdI 1 rfl).later hb).2 rfl rfl rfl (by omega) (by omega) ?_
      refine Ops.nil ?_
      exact After.dn (Below.refl _ _) (by exact rfl)
    · intro e1 w1 hb hp hun
      refine Ops.ld_int ((hS5.rdI 1 rfl).later hb) rfl (by omega) rfl rfl ?_
      refine Ops.nil ?_
      exact After.dn (Below.refl _ _) (by exact rfl)
    · intro e1 w1 hb hp hun
      refine Ops.call (l11Find_c ls 2000 _ a _ (hR5.later hb) hfa) rfl rfl rfl ?_
      rintro _ w2 ⟨rfl, hst⟩
      refine Ops.nil ?_
      exact After.dn hst.below (by exact rfl)
    · intro e1 w1 hb hp hun
      refine Ops.ld_agg 2 ((hS5.rd 3 rfl).below hb) rfl rfl rfl ?_
      refine Ops.nil ?_
      exact After.dn (Below.refl _ _) (by exact rfl)
    · intro e1 w1 hb hp hun
      refine Ops.mv_sl rfl rfl rfl ?_
      refine Ops.nil ?_
      exact After.dn (Below.refl _ _) (by exact rfl)
    · intro e1 w1 hb hp hun
      refine Ops.mv_int rfl rfl rfl ?_
      refine Ops.nil ?_
      exact After.dn (Below.refl _ _) (by exact rfl)
    · intro e1 w1 hb hp hun
      refine Ops.idx ((hS5.rdI 0 rfl).later hb).2 rfl rfl rfl (by omega) (by omega) ?_
      refine Ops.nil ?_
      exact After.dn (Below.refl _ _) (by exact rfl)
    · intro e1 w1 hb hp hun
      refine Ops.ld_int ((hS5.rdI 0 rfl).later hb) rfl (by omega) rfl rfl ?_
      refine Ops.nil ?_
      exact After.dn (Below.refl _ _) (by exact rfl)
    · intro e1 w1 hb hp hun
      refine Ops.call (l11Find_c ls 2000 _ b _ (hR5.later hb) hfb) rfl rfl rfl ?_
      rintro _ w2 ⟨rfl, hst⟩
      refine Ops.nil ?_
      exact After.dn hst.below (by exact rfl)
    · intro e1 w1 hb hp hun
      refine Ops.mv_int rfl rfl rfl ?_
      refine Ops.nil ?_
      exact After.dn (Below.refl _ _) (by exact rfl)
    · intro e1 w1 hb hp hun
      refine Ops.mv_int rfl rfl rfl ?_
      refine Ops.nil ?_
      exact After.dn (Below.refl _ _) (by exact rfl)
    intro u w6 hb6 _
    have hS6 := hS5.later hb6
    refine thenQ_n ?_
    refine Cd.seq ?_
    refine Cd.seq ?_
    refine Cd.region ?_
    refine Ops.mv_int rfl rfl rfl ?_
    refine Ops.mv_int rfl rfl rfl ?_
    refine Ops.eql rfl rfl rfl ?_
    refine Ops.nil ?_
    refine thenQ_n ?_
    refine Cd.cond_p _ rfl (fun hab => ?_) (fun hab => ?_)
    · rw [if_pos hab] at hf
      refine Cd.exit ?_
      refine thenQ_x ?_
      refine blockQ_x ?_
      refine thenQ_n ?_
      refine Cd.region ?_
      refine Ops.mv_int rfl rfl rfl ?_
      refine Ops.add rfl rfl rfl (by omega) ?_
      refine Ops.mv_int rfl rfl rfl ?_
      refine Ops.nil ?_
      refine thenQ_n ?_
      exact ⟨⟨i + 1, q, A7, c7, one, A8, c8, two, im, ls⟩, Nat.lt_succ_self q, ⟨rfl, rfl, rfl, rfl, rfl, trivial⟩, hS6, h2, h3, hf⟩
    · rw [if_neg hab] at hf
      refine Cd.skip ?_
      refine thenQ_n ?_
      refine Cd.join (α := Unit) (fun _ => [(3, .pointer Ab), (6, .pointer Ac), (7, .slice A7 one.length c7), (8, .slice A8 two.length c8), (9, .int .i64 (i : Int)), (10, .int .i64 (if b < a then b else a)), (11, .int .i64 (if b < a then a else b))]) (fun _ w' => w' = w6) ?_ ?_
      · refine Cd.seq ?_
        refine Cd.region ?_
        refine Ops.mv_int rfl rfl rfl ?_
        refine Ops.mv_int rfl rfl rfl ?_
        refine Ops.gtr rfl rfl rfl ?_
        refine Ops.nil ?_
        refine thenQ_n ?_
        refine Cd.cond_p _ rfl (fun hlt => ?_) (fun hlt => ?_)
        · refine Cd.region ?_
          refine Ops.mv_int rfl rfl rfl ?_
          refine Ops.mv_int rfl rfl rfl ?_
          refine Ops.mv_int rfl rfl rfl ?_
          refine Ops.mv_int rfl rfl rfl ?_
          refine Ops.nil ?_
          refine thenQ_n ?_
          exact ⟨(), ⟨rfl, rfl, rfl, rfl, rfl, by show Value.int .i64 _ = .int .i64 _; rw [if_pos hlt], by show Value.int .i64 _ = .int .i64 _; rw [if_pos hlt], trivial⟩, rfl⟩
        · refine Cd.skip ?_
          refine thenQ_n ?_
          exact ⟨(), ⟨rfl, rfl, rfl, rfl, rfl, by show Value.int .i64 _ = .int .i64 _; rw [if_neg hlt], by show Value.int .i64 _ = .int .i64 _; rw [if_neg hlt], trivial⟩, rfl⟩
      · rintro _ e w7 rfl
        have hlh : (if b < a then b else a) < (if b < a then a else b) := by split <;> omega
        generalize (if b < a then b else a) = lo at hf hlh ⊢
        generalize (if b < a then a else b) = hi' at hf hlh ⊢
        split at hf
        case isFalse => cases hf
        rename_i hbd
        dsimp only at hbd
        split at hf
        case h_2 => cases hf
        rename_i im' one' two' hrowp
        obtain ⟨loN, rfl⟩ : ∃ q : Nat, lo = q := ⟨lo.toNat, by omega⟩
        obtain ⟨hiN, rfl⟩ : ∃ q : Nat, hi' = q := ⟨hi'.toNat, by omega⟩
        rw [Int.toNat_natCast] at hf
        have hRr := hS6.rdI 4 rfl
        refine Cd.seq ?_
        refine Cd.region ?_
        refine Ops.fld (hS6.rd 3 rfl) rfl rfl rfl rfl inferInstance ?_
        refine Ops.ldf_s (hS6.rd 3 rfl) rfl rfl rfl rfl rfl ?_
        refine Ops.mv_int rfl rfl rfl ?_
        refine Ops.mv_int rfl rfl rfl ?_
        refine Ops.idx hRr.2 rfl rfl rfl (by omega) (by omega) ?_
        skip
        refine Ops.st_int 4 hS6 rfl rfl rfl (by omega) ?_
        intro w8 hS8
        have hS8 : St w0 w8 ([CkI 2 A8 two.length c8 two, CkI 2 A7 one.length c7 one, Bx 202 3 Ac [.slice none 0 0, .slice none 0 0, .bool false], Bx 202 3 Ab [.slice A n cc, .slice B m cB, .bool false], CkI 2 B m cB (ls.set hiN (loN : Int))] ++ (mat 34 2 A n cc rs im ++ ks)) := hS8
        refine Ops.nil ?_
        refine thenQ_n ?_
        refine Cd.seq ?_
        refine Cd.region ?_
        refine Ops.mv_int rfl rfl rfl ?_
        refine Ops.nil ?_
        refine thenQ_n ?_
        refine Cd.block ?_
        refine Cd.loop (α := IdS) (fun s => [(3, .pointer Ab), (6, .pointer Ac), (7, .slice s.A7 s.one.length s.c7), (8, .slice s.A8 s.two.length s.c8), (9, .int .i64 (i : Int)), (10, .int .i64 (loN : Int)), (11, .int .i64 (hiN : Int)), (12, .int .i64 (s.i : Int))])
          (fun s w' => St w0 w' ([CkI 2 s.A8 s.two.length s.c8 s.two, CkI 2 s.A7 s.one.length s.c7 s.one, Bx 202 3 Ac [.slice none 0 0, .slice none 0 0, .bool false], Bx 202 3 Ab [.slice A n cc, .slice B m cB, .bool false], CkI 2 B m cB (ls.set hiN (loN : Int))] ++ (mat 34 2 A n cc rs s.im ++ ks)) ∧ s.im.length = n ∧ idRowP (loN : Int) (hiN : Int) s.k s.i s.im s.one s.two = some (im', one', two') ∧ s.i + s.k ≤ 1000) (fun s => s.k)
          ⟨0, 1000, A7, c7, one, A8, c8, two, im, ls⟩ ⟨rfl, rfl, rfl, rfl, rfl, rfl, rfl, rfl, trivial⟩ ⟨hS8, h2, hrowp, Nat.le_refl _⟩ ?_
        rintro ⟨g, k, A7, c7, one, A8, c8, two, im, ls0⟩ e w9 ⟨hS9, h2, hg, hgk⟩
        dsimp only at hS9 h2 hg hgk ⊢
        obtain ⟨r, rfl⟩ : ∃ q, k = q + 1 := by cases k with | zero => cases hg | succ q => exact ⟨q, rfl⟩
        rw [idRowP] at hg
        have hI9 : RowsI w9 A n rs im := LS.rowsI (x := ⟨A, n, cc, rs, im, B, m, cB, ls.set hiN (loN : Int)⟩) ⟨h1, h2, by rw [List.length_set]; exact h3⟩ (pre := [CkI 2 A8 two.length c8 two, CkI 2 A7 one.length c7 one, Bx 202 3 Ac [.slice none 0 0, .slice none 0 0, .bool false], Bx 202 3 Ab [.slice A n cc, .slice B m cB, .bool false]]) hS9
        have hrh := hI9.at_ (i := (hiN : Int)) (by omega) (by omega)
        have hrlo := hI9.at_ (i := (loN : Int)) (by omega) (by omega)
        have hh1 := hrh.1
        have hl1 := hrlo.1
        refine Cd.seq ?_
        refine Cd.seq ?_
        refine Cd.region ?_
        refine Ops.mv_int rfl rfl rfl ?_
        refine Ops.fld (hS9.rd 3 rfl) rfl rfl rfl rfl inferInstance ?_
        refine Ops.ldf_s (hS9.rd 3 rfl) rfl rfl rfl rfl rfl ?_
        refine Ops.mv_int rfl rfl rfl ?_
        refine Ops.idx hI9.top.2 rfl rfl rfl (by omega) (by omega) ?_
        refine Ops.ld_sl hI9.top rfl (by omega) rfl rfl ?_
        refine Ops.len rfl rfl ?_
        refine Ops.lss rfl rfl rfl ?_
        refine Ops.nil ?_
        refine thenQ_n ?_
        refine Cd.cond_p _ rfl (fun hgl => ?_) (fun hgl => ?_)
        · rw [if_pos (by omega)] at hg
          refine Cd.skip ?_
          refine thenQ_n ?_
          refine Cd.seq ?_
          refine Cd.block ?_
          refine Cd.seq ?_
          refine Cd.region ?_
          refine Ops.fld (hS9.rd 3 rfl) rfl rfl rfl rfl inferInstance ?_
          refine Ops.ldf_s (hS9.rd 3 rfl) rfl rfl rfl rfl rfl ?_
          refine Ops.mv_int rfl rfl rfl ?_
          refine Ops.idx hI9.top.2 rfl rfl rfl (by omega) (by omega) ?_
          refine Ops.ld_sl hI9.top rfl (by omega) rfl rfl ?_
          refine Ops.mv_int rfl rfl rfl ?_
          refine Ops.idx hrh.2 rfl rfl rfl (by omega) (by omega) ?_
          refine Ops.ld_int hrh rfl (by omega) rfl rfl ?_
          refine Ops.mv_int rfl rfl rfl ?_
          refine Ops.nil ?_
          refine thenQ_n ?_
          refine Cd.seq ?_
          refine Cd.seq ?_
          refine Cd.region ?_
          refine Ops.mv_int rfl rfl rfl ?_
          refine Ops.lss rfl rfl rfl ?_
          refine Ops.nil ?_
          refine thenQ_n ?_
          refine Cd.cond_p _ rfl (fun he => ?_) (fun he => ?_)
          · rw [if_pos he] at hg
            refine Cd.exit ?_
            refine thenQ_x ?_
            refine blockQ_x ?_
            refine thenQ_n ?_
            refine Cd.region ?_
            refine Ops.mv_int rfl rfl rfl ?_
            refine Ops.add rfl rfl rfl (by omega) ?_
            refine Ops.mv_int rfl rfl rfl ?_
            refine Ops.nil ?_
            refine thenQ_n ?_
            exact ⟨⟨g + 1, r, A7, c7, one, A8, c8, two, im, ls0⟩, Nat.lt_succ_self r, ⟨rfl, rfl, rfl, rfl, rfl, rfl, rfl, rfl, trivial⟩, hS9, h2, hg, by show g + 1 + r ≤ 1000; omega⟩
          · rw [if_neg he] at hg
            split at hg
            case isFalse => cases hg
            rename_i hgl2
            refine Cd.skip ?_
            refine thenQ_n ?_
            refine Cd.seq ?_
            refine Cd.region ?_
            refine Ops.fld (hS9.rd 3 rfl) rfl rfl rfl rfl inferInstance ?_
            refine Ops.ldf_s (hS9.rd 3 rfl) rfl rfl rfl rfl rfl ?_
            refine Ops.mv_int rfl rfl rfl ?_
            refine Ops.idx hI9.top.2 rfl rfl rfl (by omega) (by omega) ?_
            refine Ops.ld_sl hI9.top rfl (by omega) rfl rfl ?_
            refine Ops.mv_int rfl rfl rfl ?_
            refine Ops.idx hrlo.2 rfl rfl rfl (by omega) (by omega) ?_
            refine Ops.ld_int hrlo rfl (by omega) rfl rfl ?_
            refine Ops.mv_int rfl rfl rfl ?_
            refine Ops.nil ?_
            refine thenQ_n ?_
            refine Cd.seq ?_
            refine Cd.region ?_
            refine Ops.mv_int rfl rfl rfl ?_
            refine Ops.geq rfl rfl rfl ?_
            refine Ops.nil ?_
            refine thenQ_n ?_
            refine Cd.cond_p _ rfl (fun hf0 => ?_) (fun hf0 => ?_)
            · rw [if_pos hf0] at hg
              split at hg
              case isFalse => cases hg
              rename_i hlen
              refine Cd.seq ?_
              refine Cd.region ?_
              refine Ops.mv_sl rfl rfl rfl ?_
              refine Ops.mv_int rfl rfl rfl ?_
              refine Ops.bs1I hS9 rfl rfl rfl ?_
              intro A10 w10 hS10
              refine Ops.appI 2 hS10 rfl (hS10.rdI 0 rfl) rfl rfl rfl (by omega) (by omega) rfl ?_
              intro A11 c11 w11 hS11
              have hS11 : St w0 w11 ([CkI 2 A8 two.length c8 two, CkI 2 A11 (one.length + 1) c11 (one ++ [gi (gl im (hiN : Int)) (g : Int)]), Bx 202 3 Ac [.slice none 0 0, .slice none 0 0, .bool false], Bx 202 3 Ab [.slice A n cc, .slice B m cB, .bool false], CkI 2 B m cB (ls.set hiN (loN : Int))] ++ (mat 34 2 A n cc rs im ++ ks)) := hS11.tail
              refine Ops.mv_sl rfl rfl rfl ?_
              refine Ops.nil ?_
              refine thenQ_n ?_
              refine Cd.region ?_
              refine Ops.mv_sl rfl rfl rfl ?_
              refine Ops.mv_int rfl rfl rfl ?_
              refine Ops.bs1I hS11 rfl rfl rfl ?_
              intro A12 w12 hS12
              refine Ops.appI 1 hS12 rfl (hS12.rdI 0 rfl) rfl rfl rfl (by omega) (by omega) rfl ?_
              intro A13 c13 w13 hS13
              have hS13 : St w0 w13 ([CkI 2 A13 (two.length + 1) c13 (two ++ [gi (gl im (loN : Int)) (g : Int)]), CkI 2 A11 (one.length + 1) c11 (one ++ [gi (gl im (hiN : Int)) (g : Int)]), Bx 202 3 Ac [.slice none 0 0, .slice none 0 0, .bool false], Bx 202 3 Ab [.slice A n cc, .slice B m cB, .bool false], CkI 2 B m cB (ls.set hiN (loN : Int))] ++ (mat 34 2 A n cc rs im ++ ks)) := hS13.tail
              refine Ops.mv_sl rfl rfl rfl ?_
              refine Ops.nil ?_
              refine blockQ_n ?_
              refine thenQ_n ?_
              refine Cd.region ?_
              refine Ops.mv_int rfl rfl rfl ?_
              refine Ops.add rfl rfl rfl (by omega) ?_
              refine Ops.mv_int rfl rfl rfl ?_
              refine Ops.nil ?_
              refine thenQ_n ?_
              refine ⟨⟨g + 1, r, A11, c11, one ++ [gi (gl im (hiN : Int)) (g : Int)], A13, c13, two ++ [gi (gl im (loN : Int)) (g : Int)], im, ls0⟩, Nat.lt_succ_self r, ⟨rfl, rfl, by show Value.slice _ _ _ = .slice _ _ _; rw [List.length_append]; rfl, by show Value.slice _ _ _ = .slice _ _ _; rw [List.length_append]; rfl, rfl, rfl, rfl, rfl, trivial⟩, ?_, h2, hg, by show g + 1 + r ≤ 1000; omega⟩
              dsimp only
              rw [List.length_append, List.length_append]
              exact hS13
            · rw [if_neg hf0] at hg
              refine Cd.region ?_
              refine Ops.fld (hS9.rd 3 rfl) rfl rfl rfl rfl inferInstance ?_
              refine Ops.ldf_s (hS9.rd 3 rfl) rfl rfl rfl rfl rfl ?_
              refine Ops.mv_int rfl rfl rfl ?_
              refine Ops.idx hI9.top.2 rfl rfl rfl (by omega) (by omega) ?_
              refine Ops.ld_sl hI9.top rfl (by omega) rfl rfl ?_
              refine Ops.mv_int rfl rfl rfl ?_
              refine Ops.mv_int rfl rfl rfl ?_
              refine Ops.idx hrlo.2 rfl rfl rfl (by omega) (by omega) ?_
              skip
              refine Ops.st_row loN hS9 (by omega) (by omega) rfl rfl (by omega) ?_
              intro w10 hS10
              refine Ops.nil ?_
              refine blockQ_n ?_
              refine thenQ_n ?_
              refine Cd.region ?_
              refine Ops.mv_int rfl rfl rfl ?_
              refine Ops.add rfl rfl rfl (by omega) ?_
              refine Ops.mv_int rfl rfl rfl ?_
              refine Ops.nil ?_
              refine thenQ_n ?_
              exact ⟨⟨g + 1, r, A7, c7, one, A8, c8, two, im.set loN ((gl im (loN : Int)).set g (gi (gl im (hiN : Int)) (g : Int))), ls0⟩, Nat.lt_succ_self r, ⟨rfl, rfl, rfl, rfl, rfl, rfl, rfl, rfl, trivial⟩, hS10, by show (im.set _ _).length = n; rw [List.length_set]; exact h2, hg, by show g + 1 + r ≤ 1000; omega⟩
        · rw [if_neg (by omega)] at hg
          have hg := Option.some.inj hg
          simp only [Prod.mk.injEq] at hg
          obtain ⟨rfl, rfl, rfl⟩ := hg
          refine Cd.exit ?_
          refine thenQ_x ?_
          refine thenQ_x ?_
          refine blockQ_x ?_
          refine blockQ_n ?_
          refine thenQ_n ?_
          refine Cd.region ?_
          refine Ops.mv_int rfl rfl rfl ?_
          refine Ops.add rfl rfl rfl (by omega) ?_
          refine Ops.mv_int rfl rfl rfl ?_
          refine Ops.nil ?_
          refine thenQ_n ?_
          exact ⟨⟨i + 1, q, A7, c7, one, A8, c8, two, im, ls.set hiN (loN : Int)⟩, Nat.lt_succ_self q, ⟨rfl, rfl, rfl, rfl, rfl, trivial⟩, hS9, h2, by show (ls.set _ _).length = m; rw [List.length_set]; exact h3, hf⟩
  · rw [if_neg (by omega)] at hf
    obtain rfl := Option.some.inj hf
    refine Cd.exit ?_
    refine thenQ_x ?_
    refine thenQ_x ?_
    refine blockQ_x ?_
    refine thenQ_n ?_
    refine Cd.seq ?_
    refine Cd.region ?_
    refine Ops.ld_agg 2 (hS5.rd 3 rfl) rfl rfl rfl ?_
    skip
    refine Ops.st_agg 3 2 hS5 rfl rfl rfl rfl rfl rfl rfl ?_
    intro w6 hS6
    refine Ops.nil ?_
    refine thenQ_n ?_
    refine Cd.ret ?_
    skip
    refine retc_r rfl (hS6.rd 2 rfl) ?_
    exact ⟨⟨A, n, cc, rs, im, B, m, cB, ls⟩, ⟨h1, h2, h3⟩, rfl, rfl, hS6.sub (((((List.Sublist.refl _).cons _).cons _).cons _).cons _)⟩
end Go.Proofs.YtjpkmpihmilgoaaGreat.Vc
/-
 The reference's coset enumeration, walked: a word closed at a coset. Conditions: as each states them.
-/
namespace Go.Proofs.YtjpkmpihmilgoaaGreat.Vc
open Go.RowKit

def closeW (x : PS) (d : Int) : List Int → Option (PS × Int × Int)
 | [] => none
 | [g] => some (x, d, g)
 | g :: g' :: r => match nextP x d g with
  | none => none
  | some (y, e) => closeW y e (g' :: r)
def closeP (x : PS) (c : Int) (ws : List Int) : Option PS :=
 match ws with
 | [] => some x
 | g :: r => match closeW x c (g :: r) with
  | none => none
  | some (y, d, g) => match imageP y d g, imageP y c g with
   | some e, some f => if 0 ≤ e then identP 100000 0 y [e] [c] else if 0 ≤ f then identP 100000 0 y [f] [d] else some ⟨setI (setI y.im d g c) c g d, y.ls⟩
   | _, _ => none

/-- how far the open statement is -/
structure Cl4 (w0 : World) (ks : List Ck) (Ab Ac Aw : Option Addr) (nw cw : Nat) (ws : List Int) (c d : Int) (i : Nat) (x : LS) (y : PS) (d' : Int) (S : Nat → Bool) (e : Env) (w : World) : Prop where
  f1 : e 1 = .int .i64 c
  f2 : e 2 = .slice Aw nw cw
  f3 : e 3 = .pointer Ab
  f6 : e 6 = .pointer Ac
  f7 : e 7 = .int .i64 d
  f8 : e 8 = .int .i64 (i : Int)
  p0 : S 0 = true → e 27 = x.val
  p1 : S 1 = true → e 28 = .int .i64 d
  p2 : S 2 = true → e 29 = .slice Aw nw cw
  p3 : S 3 = true → e 30 = .int .i64 (i : Int)
  p4 : S 4 = true → e 31 = .pointer (ptrAt Aw (i : Int).toNat)
  p5 : S 5 = true → e 32 = .int .i64 (gi ws (i : Int))
  mem : ∃ (X : LS) (bs : List Ck) (Ad : Option Addr), X.ok ∧ (S 6 = false → X = x) ∧ (S 6 = true → X.p = y ∧ e 33 = .tuple #[X.val, .int .i64 d']) ∧ (S 7 = true → e 26 = .tuple #[X.val, .int .i64 d']) ∧ (S 8 = true → e 34 = X.val) ∧ (S 9 = true → e 35 = .int .i64 d') ∧ (S 10 = false → bs = []) ∧
    (S 10 = true → e 9 = .pointer Ad ∧ ((S 11 = false ∧ bs = [Bx 202 3 Ad [.slice none 0 0, .slice none 0 0, .bool false]]) ∨ (S 11 = true ∧ bs = [Bx 202 3 Ad X.cells]))) ∧ (S 12 = true → e 10 = .int .i64 d') ∧
    St w0 w (bs ++ ([Bx 202 3 Ac [.slice none 0 0, .slice none 0 0, .bool false], Bx 202 3 Ab x.cells] ++ (X.cks ++ ks)))

theorem LS.back {w0 w : World} {bs pre ks : List Ck} {x : LS} (h : St w0 w (bs ++ (pre ++ (x.cks ++ ks)))) : St w0 w (x.cks ++ ((bs ++ pre) ++ ks)) := by
 rw [← List.append_assoc] at h
 exact h.toBack
theorem LS.front {w0 w : World} {pre ks : List Ck} {x : LS} (h : St w0 w (x.cks ++ (pre ++ ks))) : St w0 w (pre ++ (x.cks ++ ks)) := h.toBack
theorem LS.front2 {w0 w : World} {bs pre ks : List Ck} {x : LS} (h : St w0 w (x.cks ++ ((bs ++ pre) ++ ks))) : St w0 w (bs ++ (pre ++ (x.cks ++ ks))) := by
 have := h.toBack
 rwa [List.append_assoc] at this
theorem drop_two {l : List Int} {i : Nat} (h : i + 1 < l.length) : l.drop i = gi l (i : Int) :: gi l ((i + 1 : Nat) : Int) :: l.drop (i + 2) := by
 rw [List.drop_eq_getElem_cons (by omega), List.drop_eq_getElem_cons (i := i + 1) (by omega), gi_mem (by omega), gi_mem (by omega)]
theorem drop_one {l : List Int} {i : Nat} (h : i + 1 = l.length) : l.drop i = [gi l (i : Int)] := by
 rw [List.drop_eq_getElem_cons (by omega), gi_mem (by omega), List.drop_eq_nil_of_le (by omega)]

theorem l11Close_c {w0 w : World} {ks : List Ck} (x : LS) (c : Int) (Aw : Option Addr) (nw cw : Nat) (ws : List Int) (y : PS) (hok : x.ok) (hS : St w0 w (x.cks ++ ks)) (hW : ∀ w', St w0 w' ks → RdI w' Aw nw ws) (hnw : nw ≤ 1000000) (hp : closeP x.p c ws = some y) :
  Ret Tryz.prog 223 [x.val, .int .i64 c, .slice Aw nw cw] w (fun v w' => ∃ x' : LS, x'.ok ∧ x'.p = y ∧ v = x'.val ∧ St w0 w' (x'.cks ++ ks)) := by
 have hwl : ws.length = nw := (hW w (hS.sub (List.sublist_append_right _ _))).1
 refine Ret.of_cd Tryz.func223 rfl Tryz.ntmps223 rfl (postc rfl rfl) ?_
 refine Cd.seq ?_
 refine Cd.region ?_
 refine Ops.box3 hS rfl rfl ?_
 intro Ab w1 hS1
 skip
 refine Ops.new3 hS1 rfl ?_
 intro Ac w2 hS2
 have hS2 : St w0 w2 ([Bx 202 3 Ac [.slice none 0 0, .slice none 0 0, .bool false], Bx 202 3 Ab x.cells] ++ (x.cks ++ ks)) := hS2
 refine Ops.nil ?_
 refine thenQ_n ?_
 refine Cd.seq ?_
 refine Cd.seq ?_
 refine Cd.region ?_
 refine Ops.mv_sl rfl rfl rfl ?_
 refine Ops.len rfl rfl ?_
 refine Ops.eql rfl rfl rfl ?_
 refine Ops.nil ?_
 refine thenQ_n ?_
 refine Cd.cond_p _ rfl (fun h1 => ?_) (fun h1 => ?_)
 ·have : ws = [] := List.eq_nil_of_length_eq_zero (by omega)
  subst this
  obtain rfl := Option.some.inj hp
  refine Cd.seq ?_
  refine Cd.region ?_
  refine Ops.ld_agg 2 (hS2.rd 1 rfl) rfl rfl rfl ?_
  skip
  refine Ops.st_agg 3 0 hS2 rfl rfl rfl rfl rfl rfl rfl ?_
  intro w3 hS3
  refine Ops.nil ?_
  refine thenQ_n ?_
  refine Cd.ret ?_
  refine thenQ_r ?_
  skip
  refine retc_r rfl (hS3.rd 0 rfl) ?_
  exact ⟨x, hok, rfl, rfl, (hS3.sub ((List.Sublist.refl _).cons _)).sub ((List.Sublist.refl _).cons _)⟩
 ·obtain ⟨z, d', g', hcw, hfin⟩ : ∃ z d' g', closeW x.p c (ws.drop 0) = some (z, d', g') ∧ (match imageP z d' g', imageP z c g' with
   | some e, some f => if 0 ≤ e then identP 100000 0 z [e] [c] else if 0 ≤ f then identP 100000 0 z [f] [d'] else some ⟨setI (setI z.im d' g' c) c g' d', z.ls⟩
   | _, _ => none) = some y := by
   cases ws with
   | nil => exact absurd (by simpa using hwl.symm) (by omega)
   | cons a r =>
    simp only [closeP] at hp
    split at hp
    ·cases hp
    ·rename_i z d' g' hz
     exact ⟨z, d', g', hz, hp⟩
  clear hp
  refine Cd.skip ?_
  refine thenQ_n ?_
  refine Cd.seq ?_
  refine Cd.region ?_
  refine Ops.mv_int rfl rfl rfl ?_
  refine Ops.mv_int rfl rfl rfl ?_
  refine Ops.nil ?_
  refine thenQ_n ?_
  refine Cd.seq ?_
  refine Cd.seq ?_
  refine Cd.region ?_
  refine Ops.mv_int rfl rfl rfl ?_
  refine Ops.nil ?_
  refine thenQ_n ?_
  refine Cd.block ?_
  refine Cd.loop (α := Nat × LS × Int) (fun s => [(1, .int .i64 c), (2, .slice Aw nw cw), (3, .pointer Ab), (6, .pointer Ac), (7, .int .i64 s.2.2), (8, .int .i64 (s.1 : Int))]) (fun s w' => s.2.1.ok ∧ s.1 < nw ∧ closeW s.2.1.p s.2.2 (ws.drop s.1) = some (z, d', g') ∧ St w0 w' ([Bx 202 3 Ac [.slice none 0 0, .slice none 0 0, .bool false], Bx 202 3 Ab s.2.1.cells] ++ (s.2.1.cks ++ ks))) (fun s => nw - s.1) (0, x, c) ⟨rfl, rfl, rfl, rfl, rfl, rfl, trivial⟩ ⟨hok, by show 0 < nw; omega, hcw, hS2⟩ ?_
  rintro ⟨i, x, d⟩ e w3 ⟨hok, hi, hcw, hS3⟩
  dsimp only at hok hi hcw hS3 ⊢
  refine Cd.seq ?_
  refine Cd.seq ?_
  refine Cd.region ?_
  refine Ops.mv_int rfl rfl rfl ?_
  refine Ops.add rfl rfl rfl (by omega) ?_
  refine Ops.mv_sl rfl rfl rfl ?_
  refine Ops.len rfl rfl ?_
  refine Ops.lss rfl rfl rfl ?_
  refine Ops.nil ?_
  refine thenQ_n ?_
  refine Cd.cond_p _ rfl (fun h2 => ?_) (fun h2 => ?_)
  ·rw [drop_two (by omega)] at hcw
   simp only [closeW] at hcw
   split at hcw
   case h_1 => cases hcw
   rename_i y1 d1 hn
   refine Cd.skip ?_
   refine thenQ_n ?_
   refine Cd.seq ?_
   refine Cd.block ?_
   refine Cd.seq ?_
   refine Cd.drawS (by kernel_rfl) (by kernel_rfl) (fun S e1 w1 => Cl4 w0 ks Ab Ac Aw nw cw ws c d i x y1 d1 S e1 w1) (fun w4 hb => ⟨rfl, rfl, rfl, rfl, rfl, rfl, fun h => (nomatch h), fun h => (nomatch h), fun h => (nomatch h), fun h => (nomatch h), fun h => (nomatch h), fun h => (nomatch h), x, [], none, hok, fun _ => rfl, fun h => (nomatch h), fun h => (nomatch h), fun h => (nomatch h), fun h => (nomatch h), fun _ => rfl, fun h => (nomatch h), fun h => (nomatch h), hS3.later hb⟩) ?_ ?_
   ·intro S k o e1 w4 hk hSk hd hcl hI
    obtain ⟨f1, f2, f3, f6, f7, f8, p0, p1, p2, p3, p4, p5, X, bs, Ad, m0, m1, m2, m3, m4, m5, m6, m7, m8, hT⟩ := hI
    have hRw : RdI w4 Aw nw ws := hW w4 (((hT.sub (List.sublist_append_right _ _)).sub (List.sublist_append_right _ _)).sub (List.sublist_append_right _ _))
    match k, hk, hSk with
    | 0, hk, hSk =>
     obtain rfl := Option.some.inj hk
     refine Ops.ld_agg 2 ((hT.sub (List.sublist_append_right bs _)).rd 1 rfl) (by exact f3) rfl rfl ?_
     refine Ops.nil ?_
     exact ⟨f1, f2, f3, f6, f7, f8, fun _ => rfl, p1, p2, p3, p4, p5, X, bs, Ad, m0, m1, m2, m3, m4, m5, m6, m7, m8, hT⟩
    | 1, hk, hSk =>
     obtain rfl := Option.some.inj hk
     refine Ops.mv_int rfl (by exact f7) rfl ?_
     refine Ops.nil ?_
     exact ⟨f1, f2, f3, f6, f7, f8, p0, fun _ => rfl, p2, p3, p4, p5, X, bs, Ad, m0, m1, m2, m3, m4, m5, m6, m7, m8, hT⟩
    | 2, hk, hSk =>
     obtain rfl := Option.some.inj hk
     refine Ops.mv_sl rfl (by exact f2) rfl ?_
     refine Ops.nil ?_
     exact ⟨f1, f2, f3, f6, f7, f8, p0, p1, fun _ => rfl, p3, p4, p5, X, bs, Ad, m0, m1, m2, m3, m4, m5, m6, m7, m8, hT⟩
    | 3, hk, hSk =>
     obtain rfl := Option.some.inj hk
     refine Ops.mv_int rfl (by exact f8) rfl ?_
     refine Ops.nil ?_
     exact ⟨f1, f2, f3, f6, f7, f8, p0, p1, p2, fun _ => rfl, p4, p5, X, bs, Ad, m0, m1, m2, m3, m4, m5, m6, m7, m8, hT⟩
    | 4, hk, hSk =>
     obtain rfl := Option.some.inj hk
     refine Ops.idx hRw.2 (by exact p2 (deps_of hd 2 rfl)) (by exact p3 (deps_of hd 3 rfl)) rfl (by omega) (by omega) ?_
     refine Ops.nil ?_
     exact ⟨f1, f2, f3, f6, f7, f8, p0, p1, p2, p3, fun _ => rfl, p5, X, bs, Ad, m0, m1, m2, m3, m4, m5, m6, m7, m8, hT⟩
    | 5, hk, hSk =>
     obtain rfl := Option.some.inj hk
     refine Ops.ld_int hRw (by exact p4 (deps_of hd 4 rfl)) (by omega) rfl rfl ?_
     refine Ops.nil ?_
     exact ⟨f1, f2, f3, f6, f7, f8, p0, p1, p2, p3, p4, fun _ => rfl, X, bs, Ad, m0, m1, m2, m3, m4, m5, m6, m7, m8, hT⟩
    | 6, hk, hSk =>
     obtain rfl := Option.some.inj hk
     obtain rfl := m1 hSk
     have n7 : S 7 = false := by
      cases h : S 7 with
      | false => rfl
      | true => rw [← hSk]; exact (deps_of (hcl 7 _ h rfl) 6 rfl).symm
     have n8 : S 8 = false := by
      cases h : S 8 with
      | false => rfl
      | true => rw [← n7]; exact (deps_of (hcl 8 _ h rfl) 7 rfl).symm
     have n9 : S 9 = false := by
      cases h : S 9 with
      | false => rfl
      | true => rw [← n7]; exact (deps_of (hcl 9 _ h rfl) 7 rfl).symm
     have n11 : S 11 = false := by
      cases h : S 11 with
      | false => rfl
      | true => rw [← hSk]; exact (deps_of (hcl 11 _ h rfl) 6 rfl).symm
     have n12 : S 12 = false := by
      cases h : S 12 with
      | false => rfl
      | true => rw [← n11]; exact (deps_of (hcl 12 _ h rfl) 11 rfl).symm
     refine Ops.call (l11Next_c X d (gi ws (i : Int)) y1 d1 m0 (LS.back hT) hn) rfl (by show [e1 27, e1 28, e1 32] = _; rw [p0 (deps_of hd 0 rfl), p1 (deps_of hd 1 rfl), p5 (deps_of hd 5 rfl)]) rfl ?_
     rintro _ w5 ⟨x', hok', hp', rfl, hT'⟩
     refine Ops.nil ?_
     refine ⟨f1, f2, f3, f6, f7, f8, p0, p1, p2, p3, p4, p5, x', bs, Ad, hok', fun h => (nomatch (show true = false from h)), fun _ => ⟨hp', rfl⟩, fun h => ?_, fun h => ?_, fun h => ?_, m6, fun h => ?_, fun h => ?_, LS.front2 hT'⟩
     ·exact (nomatch n7.symm.trans h)
     ·exact (nomatch n8.symm.trans h)
     ·exact (nomatch n9.symm.trans h)
     ·obtain ⟨h9, h10⟩ := m7 h
      refine ⟨h9, .inl ⟨n11, ?_⟩⟩
      rcases h10 with h10 | h10
      ·exact h10.2
      ·exact (nomatch n11.symm.trans h10.1)
     ·exact (nomatch n12.symm.trans h)
    | 7, hk, hSk =>
     obtain rfl := Option.some.inj hk
     refine Ops.mv_tup rfl (by exact (m2 (deps_of hd 6 rfl)).2) rfl ?_
     refine Ops.nil ?_
     exact ⟨f1, f2, f3, f6, f7, f8, p0, p1, p2, p3, p4, p5, X, bs, Ad, m0, m1, m2, fun _ => rfl, m4, m5, m6, m7, m8, hT⟩
    | 8, hk, hSk =>
     obtain rfl := Option.some.inj hk
     refine Ops.extract (by exact m3 (deps_of hd 7 rfl)) rfl rfl ?_
     refine Ops.nil ?_
     exact ⟨f1, f2, f3, f6, f7, f8, p0, p1, p2, p3, p4, p5, X, bs, Ad, m0, m1, m2, m3, fun _ => rfl, m5, m6, m7, m8, hT⟩
    | 9, hk, hSk =>
     obtain rfl := Option.some.inj hk
     refine Ops.extract (by exact m3 (deps_of hd 7 rfl)) rfl rfl ?_
     refine Ops.nil ?_
     exact ⟨f1, f2, f3, f6, f7, f8, p0, p1, p2, p3, p4, p5, X, bs, Ad, m0, m1, m2, m3, m4, fun _ => rfl, m6, m7, m8, hT⟩
    | 10, hk, hSk =>
     obtain rfl := Option.some.inj hk
     obtain rfl := m6 hSk
     have n11 : S 11 = false := by
      cases h : S 11 with
      | false => rfl
      | true => rw [← hSk]; exact (deps_of (hcl 11 _ h rfl) 10 rfl).symm
     refine Ops.new3 hT rfl ?_
     intro Ae w5 hT5
     refine Ops.nil ?_
     exact ⟨f1, f2, f3, f6, f7, f8, p0, p1, p2, p3, p4, p5, X, [Bx 202 3 Ae [.slice none 0 0, .slice none 0 0, .bool false]], Ae, m0, m1, m2, m3, m4, m5, fun h => (nomatch (show true = false from h)), fun _ => ⟨rfl, .inl ⟨n11, rfl⟩⟩, m8, hT5⟩
    | 11, hk, hSk =>
     obtain rfl := Option.some.inj hk
     have hs10 := deps_of hd 10 rfl
     obtain ⟨h9, h10⟩ := m7 hs10
     rcases h10 with ⟨_, rfl⟩ | h10
     ·refine Ops.st_agg 3 0 hT rfl (by exact h9) (by exact m4 (deps_of hd 8 rfl)) rfl rfl rfl rfl ?_
      intro w5 hT5
      refine Ops.nil ?_
      exact ⟨f1, f2, f3, f6, f7, f8, p0, p1, p2, p3, p4, p5, X, [Bx 202 3 Ad X.cells], Ad, m0, m1, m2, m3, m4, m5, fun h => (nomatch hs10.symm.trans h), fun _ => ⟨h9, .inr ⟨rfl, rfl⟩⟩, m8, hT5⟩
     ·exact (nomatch hSk.symm.trans h10.1)
    | 12, hk, hSk =>
     obtain rfl := Option.some.inj hk
     refine Ops.mv_int rfl (by exact m5 (deps_of hd 9 rfl)) rfl ?_
     refine Ops.nil ?_
     exact ⟨f1, f2, f3, f6, f7, f8, p0, p1, p2, p3, p4, p5, X, bs, Ad, m0, m1, m2, m3, m4, m5, m6, m7, fun _ => rfl, hT⟩
    | q + 13, hk, _ => exact (nomatch hk)
   ·intro S e1 w4 hall hI
    obtain ⟨f1, f2, f3, f6, f7, f8, p0, p1, p2, p3, p4, p5, X, bs, Ad, m0, m1, m2, m3, m4, m5, m6, m7, m8, hT⟩ := hI
    obtain ⟨h9, h10⟩ := m7 (hall 10 (by decide))
    rcases h10 with h10 | ⟨_, rfl⟩
    ·exact (nomatch (hall 11 (by decide)).symm.trans h10.1)
    have hy1 := (m2 (hall 6 (by decide))).1
    refine thenQ_ext (F := [(1, .int .i64 c), (2, .slice Aw nw cw), (3, .pointer Ab), (6, .pointer Ac), (7, .int .i64 d), (8, .int .i64 (i : Int)), (9, .pointer Ad), (10, .int .i64 d1)]) ⟨f1, f2, f3, f6, f7, f8, h9, m8 (hall 12 (by decide)), trivial⟩ ?_
    refine thenQ_n ?_
    refine Cd.seq ?_
    refine Cd.region ?_
    refine Ops.ld_agg 2 (hT.rd 0 rfl) rfl rfl rfl ?_
    skip
    refine Ops.st_agg 3 2 hT rfl rfl rfl rfl rfl rfl rfl ?_
    intro w5 hT5
    have hT5 : St w0 w5 (Bx 202 3 Ad X.cells :: ([Bx 202 3 Ac [.slice none 0 0, .slice none 0 0, .bool false], Bx 202 3 Ab X.cells] ++ (X.cks ++ ks))) := hT5
    have hT6 := hT5.tail
    refine Ops.nil ?_
    refine thenQ_n ?_
    refine Cd.seq ?_
    refine Cd.region ?_
    refine Ops.mv_int rfl rfl rfl ?_
    refine Ops.mv_int rfl rfl rfl ?_
    refine Ops.nil ?_
    refine thenQ_n ?_
    refine Cd.seq ?_
    refine Cd.region ?_
    refine Ops.fld (hT6.rd 1 rfl) rfl rfl rfl rfl inferInstance ?_
    refine Ops.ldf_b (hT6.rd 1 rfl) rfl rfl rfl rfl rfl ?_
    refine Ops.nil ?_
    refine thenQ_n ?_
    refine Cd.cond_f rfl ?_
    refine Cd.skip ?_
    refine blockQ_n ?_
    refine thenQ_n ?_
    refine Cd.region ?_
    refine Ops.mv_int rfl rfl rfl ?_
    refine Ops.add rfl rfl rfl (by omega) ?_
    refine Ops.mv_int rfl rfl rfl ?_
    refine Ops.nil ?_
    refine thenQ_n ?_
    refine ⟨(i + 1, X, d1), by show nw - (i + 1) < nw - i; omega, ⟨rfl, rfl, rfl, rfl, rfl, rfl, trivial⟩, m0, by show i + 1 < nw; omega, ?_, hT6⟩
    show closeW X.p d1 (ws.drop (i + 1)) = _
    rw [hy1, List.drop_eq_getElem_cons (by omega), ← gi_mem (by omega)]
    exact hcw
  ·rw [drop_one (by omega)] at hcw
   have hcw := Option.some.inj hcw
   simp only [Prod.mk.injEq] at hcw
   obtain ⟨rfl, rfl, rfl⟩ := hcw
   have hRw : RdI w3 Aw nw ws := hW w3 ((hS3.sub (List.sublist_append_right _ _)).sub (List.sublist_append_right _ _))
   split at hfin
   case h_2 => cases hfin
   rename_i a b ha hb0
   have hI3 := LS.rowsI hok hS3
   have hR3 := LS.rdI hS3
   refine Cd.exit ?_
   refine thenQ_x ?_
   refine thenQ_x ?_
   refine blockQ_x ?_
   refine thenQ_n ?_
   refine Cd.seq ?_
   refine Cd.region ?_
   refine Ops.mv_sl rfl rfl rfl ?_
   refine Ops.mv_sl rfl rfl rfl ?_
   refine Ops.len rfl rfl ?_
   refine Ops.sub rfl rfl rfl (by omega) ?_
   refine Ops.idx hRw.2 rfl rfl rfl (by omega) (by omega) ?_
   have hin : ((nw : Nat) : Int) - 1 = (i : Nat) := by omega
   refine Ops.ld_int hRw rfl (by omega) rfl rfl ?_
   rw [hin]
   generalize gi ws (i : Int) = g at *
   refine Ops.mv_int rfl rfl rfl ?_
   refine Ops.nil ?_
   refine thenQ_n ?_
   refine Cd.seq ?_
   refine Cd.draw [.ex (.agg #[.slice (x.A) (x.n) (x.c), .slice (x.B) (x.m) (x.cB), .bool (false)]), .ex (.int .i64 (d)), .ex (.int .i64 (g)), .ex (.int .i64 (a)), .ex (.agg #[.slice (x.A) (x.n) (x.c), .slice (x.B) (x.m) (x.cB), .bool (false)]), .ex (.int .i64 (c)), .ex (.int .i64 (g)), .ex (.int .i64 (b)), .ex (.int .i64 (a)), .ex (.int .i64 (b))] (by kernel_rfl) (by kernel_rfl) rfl (List.forall_mem_cons.2 ⟨Yd.lasts_ex _, (List.forall_mem_cons.2 ⟨Yd.lasts_ex _, (List.forall_mem_cons.2 ⟨Yd.lasts_ex _, (List.forall_mem_cons.2 ⟨Yd.lasts_ex _, (List.forall_mem_cons.2 ⟨Yd.lasts_ex _, (List.forall_mem_cons.2 ⟨Yd.lasts_ex _, (List.forall_mem_cons.2 ⟨Yd.lasts_ex _, (List.forall_mem_cons.2 ⟨Yd.lasts_ex _, (List.forall_mem_cons.2 ⟨Yd.lasts_ex _, (List.forall_mem_cons.2 ⟨Yd.lasts_ex _, (fun _ h => by cases h)⟩)⟩)⟩)⟩)⟩)⟩)⟩)⟩)⟩)⟩) ⟨?_, ?_, ?_, ?_, ?_, ?_, ?_, ?_, ?_, ?_, trivial⟩ ?_
   ·intro e1 w1 hb hp hun
    refine Ops.ld_agg 2 ((hS3.rd 1 rfl).below hb) rfl rfl rfl ?_
    refine Ops.nil ?_
    exact After.dn (Below.refl _ _) (by exact rfl)
   ·intro e1 w1 hb hp hun
    refine Ops.mv_int rfl rfl rfl ?_
    refine Ops.nil ?_
    exact After.dn (Below.refl _ _) (by exact rfl)
   ·intro e1 w1 hb hp hun
    refine Ops.mv_int rfl rfl rfl ?_
    refine Ops.nil ?_
    exact After.dn (Below.refl _ _) (by exact rfl)
   ·intro e1 w1 hb hp hun
    refine Ops.call (l11Image_c x.rs x.im x.ls d g a _ (hI3.later hb) (hR3.later hb) ha) rfl rfl rfl ?_
    rintro _ w2 ⟨rfl, hst⟩
    refine Ops.nil ?_
    exact After.dn hst.below (by exact rfl)
   ·intro e1 w1 hb hp hun
    refine Ops.ld_agg 2 ((hS3.rd 1 rfl).below hb) rfl rfl rfl ?_
    refine Ops.nil ?_
    exact After.dn (Below.refl _ _) (by exact rfl)
   ·intro e1 w1 hb hp hun
    refine Ops.mv_int rfl rfl rfl ?_
    refine Ops.nil ?_
    exact After.dn (Below.refl _ _) (by exact rfl)
   ·intro e1 w1 hb hp hun
    refine Ops.mv_int rfl rfl rfl ?_
    refine Ops.nil ?_
    exact After.dn (Below.refl _ _) (by exact rfl)
   ·intro e1 w1 hb hp hun
    refine Ops.call (l11Image_c x.rs x.im x.ls c g b _ (hI3.later hb) (hR3.later hb) hb0) rfl rfl rfl ?_
    rintro _ w2 ⟨rfl, hst⟩
    refine Ops.nil ?_
    exact After.dn hst.below (by exact rfl)
   ·intro e1 w1 hb hp hun
    refine Ops.mv_int rfl rfl rfl ?_
    refine Ops.nil ?_
    exact After.dn (Below.refl _ _) (by exact rfl)
   ·intro e1 w1 hb hp hun
    refine Ops.mv_int rfl rfl rfl ?_
    refine Ops.nil ?_
    exact After.dn (Below.refl _ _) (by exact rfl)
   intro u w4 hb4 _
   have hS4 := hS3.later hb4
   refine thenQ_n ?_
   refine Cd.seq ?_
   refine Cd.block ?_
   refine Cd.seq ?_
   refine Cd.region ?_
   refine Ops.mv_int rfl rfl rfl ?_
   refine Ops.geq rfl rfl rfl ?_
   refine Ops.mv_bool rfl rfl rfl ?_
   refine Ops.nil ?_
   refine thenQ_n ?_
   refine Cd.cond_p _ rfl (fun h3 => ?_) (fun h3 => ?_)
   ·rw [if_pos h3] at hfin
    refine Cd.seq ?_
    refine Cd.region ?_
    refine Ops.ld_agg 2 (hS4.rd 1 rfl) rfl rfl rfl ?_
    refine Ops.mv_int rfl rfl rfl ?_
    refine Ops.mv_int rfl rfl rfl ?_
    refine Ops.call (l11Identify_c x a c y 100000 hok (hS4.toBack (pre := [_, _])) hfin) rfl rfl rfl ?_
    rintro _ w5 ⟨x', hok', hp', rfl, hT⟩
    have hT := hT.toBack
    refine Ops.st_agg 3 0 hT rfl rfl rfl rfl rfl rfl rfl ?_
    intro w6 hT6
    refine Ops.nil ?_
    refine thenQ_n ?_
    refine Cd.ret ?_
    refine blockQ_r ?_
    refine thenQ_r ?_
    skip
    refine retc_r rfl (hT6.rd 0 rfl) ?_
    exact ⟨x', hok', hp', rfl, (hT6.sub ((List.Sublist.refl _).cons _)).sub ((List.Sublist.refl _).cons _)⟩
   ·rw [if_neg h3] at hfin
    refine Cd.seq ?_
    refine Cd.region ?_
    refine Ops.mv_int rfl rfl rfl ?_
    refine Ops.geq rfl rfl rfl ?_
    refine Ops.mv_bool rfl rfl rfl ?_
    refine Ops.nil ?_
    refine thenQ_n ?_
    refine Cd.cond_p _ rfl (fun h4 => ?_) (fun h4 => ?_)
    ·rw [if_pos h4] at hfin
     refine Cd.seq ?_
     refine Cd.region ?_
     refine Ops.ld_agg 2 (hS4.rd 1 rfl) rfl rfl rfl ?_
     refine Ops.mv_int rfl rfl rfl ?_
     refine Ops.mv_int rfl rfl rfl ?_
     refine Ops.call (l11Identify_c x b d y 100000 hok (hS4.toBack (pre := [_, _])) hfin) rfl rfl rfl ?_
     rintro _ w5 ⟨x', hok', hp', rfl, hT⟩
     have hT := hT.toBack
     refine Ops.st_agg 3 0 hT rfl rfl rfl rfl rfl rfl rfl ?_
     intro w6 hT6
     refine Ops.nil ?_
     refine thenQ_n ?_
     refine Cd.ret ?_
     refine blockQ_r ?_
     refine thenQ_r ?_
     skip
     refine retc_r rfl (hT6.rd 0 rfl) ?_
     exact ⟨x', hok', hp', rfl, (hT6.sub ((List.Sublist.refl _).cons _)).sub ((List.Sublist.refl _).cons _)⟩
    ·rw [if_neg h4] at hfin
     obtain rfl := Option.some.inj hfin
     have bd : ∀ {z : PS} {c g r : Int}, imageP z c g = some r → 0 ≤ c ∧ c < (z.im.length : Int) ∧ 0 ≤ g ∧ g < ((gl z.im c).length : Int) := fun {z c g r} h => by
      unfold imageP at h
      split at h
      case isFalse => cases h
      rename_i h'; exact h'
     have b1 := bd ha
     have b2 := bd hb0
     have b1 : 0 ≤ d ∧ d < (x.im.length : Int) ∧ 0 ≤ g ∧ g < ((gl x.im d).length : Int) := b1
     have b2 : 0 ≤ c ∧ c < (x.im.length : Int) ∧ 0 ≤ g ∧ g < ((gl x.im c).length : Int) := b2
     have hxn := hok.2.1
     have hxr := hok.1
     obtain ⟨dN, rfl⟩ : ∃ q : Nat, d = q := ⟨d.toNat, by omega⟩
     obtain ⟨cN, rfl⟩ : ∃ q : Nat, c = q := ⟨c.toNat, by omega⟩
     have hI4 := LS.rowsI hok hS4
     have hrd := hI4.at_ (i := (dN : Int)) (by omega) (by omega)
     have hrd1 := hrd.1
     have hS5 : St w0 w4 ([Bx 202 3 Ac [.slice none 0 0, .slice none 0 0, .bool false], Bx 202 3 Ab x.cells, CkI 2 x.B x.m x.cB x.ls] ++ (mat 34 2 x.A x.n x.c x.rs x.im ++ ks)) := hS4
     refine Cd.skip ?_
     refine blockQ_n ?_
     refine thenQ_n ?_
     refine Cd.seq ?_
     refine Cd.region ?_
     refine Ops.fld (hS4.rd 1 rfl) rfl rfl rfl rfl inferInstance ?_
     refine Ops.ldf_s (hS4.rd 1 rfl) rfl rfl rfl rfl rfl ?_
     refine Ops.mv_int rfl rfl rfl ?_
     refine Ops.idx hI4.top.2 rfl rfl rfl (by omega) (by omega) ?_
     refine Ops.ld_sl hI4.top rfl (by omega) rfl rfl ?_
     refine Ops.mv_int rfl rfl rfl ?_
     refine Ops.mv_int rfl rfl rfl ?_
     refine Ops.idx hrd.2 rfl rfl rfl (by omega) (by omega) ?_
     skip
     refine Ops.st_row dN hS5 (by omega) (by omega) rfl rfl (by omega) ?_
     intro w6 hT6
     have hok6 : ({ x with im := x.im.set dN ((gl x.im (dN : Int)).set g.toNat (cN : Int)) } : LS).ok := ⟨hok.1, by show (x.im.set _ _).length = _; rw [List.length_set]; exact hok.2.1, hok.2.2⟩
     generalize hx6 : ({ x with im := x.im.set dN ((gl x.im (dN : Int)).set g.toNat (cN : Int)) } : LS) = x6 at hok6
     have hA6 : x6.A = x.A ∧ x6.n = x.n ∧ x6.c = x.c ∧ x6.rs = x.rs ∧ x6.B = x.B ∧ x6.m = x.m ∧ x6.cB = x.cB ∧ x6.ls = x.ls ∧ x6.im = x.im.set dN ((gl x.im (dN : Int)).set g.toNat (cN : Int)) := by subst hx6; exact ⟨rfl, rfl, rfl, rfl, rfl, rfl, rfl, rfl, rfl⟩
     obtain ⟨q1, q2, q3, q4, q5, q6, q7, q8, q9⟩ := hA6
     have hT6' : St w0 w6 ([Bx 202 3 Ac [.slice none 0 0, .slice none 0 0, .bool false], Bx 202 3 Ab x.cells] ++ (x6.cks ++ ks)) := by
      show St w0 w6 ([Bx _ 3 Ac _, Bx _ 3 Ab x.cells] ++ ((CkI _ x6.B x6.m x6.cB x6.ls :: mat _ _ x6.A x6.n x6.c x6.rs x6.im) ++ ks))
      rw [q1, q2, q3, q4, q5, q6, q7, q8, q9]
      exact hT6
     have hI6 := LS.rowsI hok6 hT6'
     have hrow6 := hI6.at_ (i := (cN : Int)) (by omega) (by omega)
     have eg6 : (gl x6.im (cN : Int)).length = (gl x.im (cN : Int)).length := by
      rw [q9, gl_set (by omega)]
      split
      ·rename_i e; subst e; rw [List.length_set]
      ·rfl
     have hr6 : (rg x6.rs (cN : Int)).n = (gl x.im (cN : Int)).length := by rw [← hrow6.1, eg6]
     refine Ops.nil ?_
     refine thenQ_n ?_
     refine Cd.seq ?_
     refine Cd.region ?_
     refine Ops.fld (hT6'.rd 1 rfl) rfl rfl rfl rfl inferInstance ?_
     refine Ops.ldf_s (hT6'.rd 1 rfl) rfl rfl rfl rfl rfl ?_
     refine Ops.mv_int rfl rfl rfl ?_
     rw [q1, q2, q4] at hI6
     rw [q4] at hrow6 hr6
     refine Ops.idx hI6.top.2 rfl rfl rfl (by omega) (by omega) ?_
     refine Ops.ld_sl hI6.top rfl (by omega) rfl rfl ?_
     refine Ops.mv_int rfl rfl rfl ?_
     refine Ops.mv_int rfl rfl rfl ?_
     refine Ops.idx hrow6.2 rfl rfl rfl (by omega) (by omega) ?_
     skip
     have hT7 : St w0 w6 ([Bx 202 3 Ac [.slice none 0 0, .slice none 0 0, .bool false], Bx 202 3 Ab x.cells, CkI 2 x.B x.m x.cB x.ls] ++ (mat 34 2 x.A x.n x.c x.rs x6.im ++ ks)) := by
      rw [q9]; exact hT6
     refine Ops.st_row cN hT7 (by rw [q9, List.length_set]; omega) (by omega) rfl rfl (by omega) ?_
     intro w8 hT8
     refine Ops.nil ?_
     refine thenQ_n ?_
     refine Cd.seq ?_
     refine Cd.region ?_
     refine Ops.ld_agg 2 (hT8.rd 1 rfl) rfl rfl rfl ?_
     skip
     refine Ops.st_agg 3 0 hT8 rfl rfl rfl rfl rfl rfl rfl ?_
     intro w9 hT9
     refine Ops.nil ?_
     refine thenQ_n ?_
     refine Cd.ret ?_
     skip
     refine retc_r rfl (hT9.rd 0 rfl) ?_
     refine ⟨{ x with im := x6.im.set cN ((gl x6.im (cN : Int)).set g.toNat (dN : Int)) }, ⟨hok.1, by show (x6.im.set _ _).length = _; rw [List.length_set, q9, List.length_set]; exact hok.2.1, hok.2.2⟩, ?_, rfl, (hT9.sub ((List.Sublist.refl _).cons _)).sub ((List.Sublist.refl _).cons _)⟩
     show (⟨x6.im.set cN ((gl x6.im (cN : Int)).set g.toNat (dN : Int)), x.ls⟩ : PS) = _
     rw [q9]
     rfl
end Go.Proofs.YtjpkmpihmilgoaaGreat.Vc
/-
 The reference's coset enumeration, walked: the procedure. Conditions: as each states them.
-/
namespace Go.Proofs.YtjpkmpihmilgoaaGreat.Vc
open Go.RowKit

def runRel (c : Int) : PS → List (List Int) → Option PS
 | x, [] => some x
 | x, w :: r => if 0 ≤ c ∧ c < (x.ls.length : Int) then (if gi x.ls c = c then (match closeP x c w with | none => none | some y => runRel c y r) else some x) else none
def runGen (c : Int) (gens : Nat) : Nat → Nat → PS → Option PS
 | 0, _, _ => none
 | k + 1, g, x => if g < gens then (if 0 ≤ c ∧ c < (x.ls.length : Int) then (if gi x.ls c = c then (match nextP x c (g : Int) with | none => none | some (y, _) => runGen c gens k (g + 1) y) else some x) else none) else some x
def runC (gens : Nat) (rel : List (List Int)) : Nat → Nat → PS → Option PS
 | 0, _, _ => none
 | k + 1, c, x => if c < x.ls.length then (match runRel (c : Int) x rel with | none => none | some y => match runGen (c : Int) gens 100 0 y with | none => none | some z => runC gens rel k (c + 1) z) else some x
def runP (gens : Nat) (rel : List (List Int)) : Option PS :=
 match defP ⟨[], []⟩ gens with
 | none => none
 | some x => runC gens rel 3000 0 x

section
variable {P : Program} {N : Nat} {ops : Array Oper} {K : Env → World → Prop} {rest : List Oper} {e : Env} {w0 w w' : World} {ks : List Ck} {d : Nat} {ty : TypeId} {pos : String} {af : Array Edge}
theorem Ops.bld000 {t : TypeId} {f0 f1 f2 : Field} {z0 z1 z2 y0 y1 y2 : Value} {b b0 b1 b2 : Nat} [Und P t (.struct #[f0, f1, f2])] [Inf P t (.agg #[z0, z1, z2]) 3 b] (hI0 : Inf P f0.type y0 1 b0) (hI1 : Inf P f1.type y1 1 b1) (hI2 : Inf P f2.type y2 1 b2) (ho : f0.offset = 0) (ho1 : f1.offset = 1) (ho2 : f2.offset = 2) (hb : Nat.blt d N = true)
    (hK : Ops P N ops K rest (upd e d (.agg #[z0, z1, z2])) w) : Ops P N ops K (⟨some d, .build t #[], ty, pos, af, none⟩ :: rest) e w := by
  obtain ⟨inf, hi, hz0, hs, hby⟩ := Inf.get P t
  obtain ⟨inf0, hi0, _, hs0, _⟩ := hI0.get P f0.type
  obtain ⟨inf1, hi1, _, hs1, _⟩ := hI1.get P f1.type
  obtain ⟨inf2, hi2, _, hs2, _⟩ := hI2.get P f2.type
  have ez : (Value.agg #[z0, z1, z2]).cells = #[z0, z1, z2] := rfl
  refine .val (w' := w) ?_ hb hK
  simp [execOp, Instr.build, run_underlying (Und.out (P := P) (t := t)), sizeOf, typeInfo, zeroValue, hi, hz0, hi0, hs0, hi1, hs1, hi2, hs2, ez, Instr.fill]
end

theorem l11Run_c (gens : Nat) (Ar : Option Addr) (nr cr : Nat) (rsr : List SlV) (rel : List (List Int)) (A0 : Option Addr) (c0 : Nat) (y : PS) (w : World) (hR : RowsI w Ar nr rsr rel) (hrel : ∀ x ∈ rel, x.length ≤ 1000000) (hnr : nr ≤ 1000000) (hp : runP gens rel = some y) :
  Ret Tryz.prog 219 [.agg #[.int .i64 (gens : Int), .slice Ar nr cr], .slice A0 0 c0] w (fun v w' => ∃ x' : LS, x'.ok ∧ x'.p = y ∧ v = x'.val ∧ St w w' x'.cks) := by
 have hrl := hR.len
 unfold runP at hp
 split at hp
 case h_1 => cases hp
 rename_i x1 hx1
 refine Ret.of_cd Tryz.func219 rfl Tryz.ntmps219 rfl (postc rfl rfl) ?_
 refine Cd.seq ?_
 refine Cd.region ?_
 refine Ops.box2 (St.refl w) rfl rfl ?_
 intro A2 w1 hS1
 skip
 refine Ops.new3 hS1 rfl ?_
 intro A4 w2 hS2
 refine Ops.nil ?_
 refine thenQ_n ?_
 refine Cd.seq ?_
 refine Cd.region ?_
 refine Ops.bld000 (by exact inferInstance) (by exact inferInstance) (by exact inferInstance) rfl rfl rfl rfl ?_
 refine Ops.fld (hS2.rd 1 rfl) rfl rfl rfl rfl inferInstance ?_
 refine Ops.ldf_i (hS2.rd 1 rfl) rfl rfl rfl rfl rfl ?_
 skip
 refine Ops.call (l11Define_c ⟨none, 0, 0, [], [], none, 0, 0, []⟩ gens x1 ⟨rfl, rfl, rfl⟩ ((hS2.nil _).nil _) hx1) rfl rfl rfl ?_
 rintro _ w3 ⟨X, hok, hXp, rfl, hT⟩
 have hT := LS.front (pre := [Bx 202 3 A4 [.slice none 0 0, .slice none 0 0, .bool false], Bx 180 2 A2 [.int .i64 (gens : Int), .slice Ar nr cr]]) (ks := []) hT
 refine Ops.mv_tup rfl rfl rfl ?_
 refine Ops.extract rfl rfl rfl ?_
 refine Ops.extract rfl rfl rfl ?_
 refine Ops.new3 hT rfl ?_
 intro A5 w4 hS4
 skip
 refine Ops.st_agg 3 0 hS4 rfl rfl rfl rfl rfl rfl rfl ?_
 intro w5 hS5
 have hS5 : St w w5 ([Bx 202 3 A5 X.cells, Bx 202 3 A4 [.slice none 0 0, .slice none 0 0, .bool false], Bx 180 2 A2 [.int .i64 (gens : Int), .slice Ar nr cr]] ++ (X.cks ++ [])) := hS5
 refine Ops.mv_int rfl rfl rfl ?_
 refine Ops.nil ?_
 refine thenQ_n ?_
 refine Cd.seq ?_
 refine Cd.seq ?_
 refine Cd.region ?_
 refine Ops.mv_int rfl rfl rfl ?_
 refine Ops.nil ?_
 refine thenQ_n ?_
 refine Cd.block ?_
 refine Cd.loop (α := Unit) (fun _ => [(1, .slice A0 0 c0), (2, .pointer A2), (4, .pointer A4), (5, .pointer A5), (7, .int .i64 0)]) (fun _ w' => w' = w5) (fun _ => 0) () ⟨rfl, rfl, rfl, rfl, rfl, trivial⟩ rfl ?_
 rintro ⟨⟩ e w6 rfl
 refine Cd.seq ?_
 refine Cd.seq ?_
 refine Cd.region ?_
 refine Ops.mv_int rfl rfl rfl ?_
 refine Ops.mv_sl rfl rfl rfl ?_
 refine Ops.len rfl rfl ?_
 refine Ops.lss rfl rfl rfl ?_
 refine Ops.mv_bool rfl rfl rfl ?_
 refine Ops.split_p 24 rfl (fun h => absurd h (by decide)) (fun _ => ?_) --f
 refine Ops.skipg rfl rfl rfl rfl rfl ?_
 refine Ops.skipg rfl rfl rfl rfl rfl ?_
 refine Ops.skipg rfl rfl rfl rfl rfl ?_
 refine Ops.pick_f rfl rfl rfl ?_
 refine Ops.nil ?_
 refine thenQ_n ?_
 refine Cd.cond_f rfl ?_
 refine Cd.exit ?_
 refine thenQ_x ?_
 refine thenQ_x ?_
 refine blockQ_x ?_
 refine thenQ_n ?_
 refine Cd.seq ?_
 refine Cd.seq ?_
 refine Cd.region ?_
 refine Ops.mv_int rfl rfl rfl ?_
 refine Ops.nil ?_
 refine thenQ_n ?_
 refine Cd.block ?_
 refine Cd.loop (α := Nat × Nat × LS) (fun s => [(2, .pointer A2), (4, .pointer A4), (5, .pointer A5), (8, .int .i64 (s.2.1 : Int))]) (fun s w' => s.2.2.ok ∧ runC gens rel s.1 s.2.1 s.2.2.p = some y ∧ s.1 + s.2.1 = 3000 ∧ St w w' ([Bx 202 3 A5 s.2.2.cells, Bx 202 3 A4 [.slice none 0 0, .slice none 0 0, .bool false], Bx 180 2 A2 [.int .i64 (gens : Int), .slice Ar nr cr]] ++ (s.2.2.cks ++ []))) (fun s => s.1) (3000, 0, X) ⟨rfl, rfl, rfl, rfl, trivial⟩ ⟨hok, by rw [hXp]; exact hp, rfl, hS5⟩ ?_
 rintro ⟨k, c, X⟩ e w7 ⟨hok, hc, hkc, hS7⟩
 dsimp only at hok hc hkc hS7 ⊢
 obtain ⟨q, rfl⟩ : ∃ q, k = q + 1 := by cases k with | zero => cases hc | succ q => exact ⟨q, rfl⟩
 have hc : (if c < X.ls.length then (match runRel (c : Int) X.p rel with | none => none | some y => match runGen (c : Int) gens 100 0 y with | none => none | some z => runC gens rel q (c + 1) z) else some X.p) = some y := hc
 have hXm : X.ls.length = X.m := hok.2.2
 refine Cd.seq ?_
 refine Cd.seq ?_
 refine Cd.region ?_
 refine Ops.mv_int rfl rfl rfl ?_
 refine Ops.fld (hS7.rd 0 rfl) rfl rfl rfl rfl inferInstance ?_
 refine Ops.ldf_s (hS7.rd 0 rfl) rfl rfl rfl rfl rfl ?_
 refine Ops.len rfl rfl ?_
 refine Ops.lss rfl rfl rfl ?_
 refine Ops.mv_bool rfl rfl rfl ?_
 refine Ops.split_p 42 rfl (fun h1 => ?_) (fun h1 => ?_)
 ·rw [if_pos (by omega)] at hc
  split at hc
  case h_1 => cases hc
  rename_i y1 hy1
  split at hc
  case h_1 => cases hc
  rename_i z1 hz1
  refine Ops.rung rfl rfl rfl ?_
  refine Ops.fld (hS7.rd 0 rfl) rfl rfl rfl rfl inferInstance ?_
  refine Ops.rung rfl rfl rfl ?_
  refine Ops.ldf_b (hS7.rd 0 rfl) rfl rfl rfl rfl rfl ?_
  refine Ops.rung rfl rfl rfl ?_
  first | refine Ops.not_p rfl rfl ?_ | refine Ops.not rfl rfl ?_
  refine Ops.pick_t rfl rfl rfl ?_
  refine Ops.nil ?_
  refine thenQ_n ?_
  refine Cd.cond_t rfl ?_
  refine Cd.skip ?_
  refine thenQ_n ?_
  refine Cd.seq ?_
  refine Cd.block ?_
  refine Cd.seq ?_
  refine Cd.seq ?_
  refine Cd.region ?_
  refine Ops.mv_int rfl rfl rfl ?_
  refine Ops.nil ?_
  refine thenQ_n ?_
  refine Cd.block ?_
  refine Cd.loop (α := Nat × LS) (fun s => [(2, .pointer A2), (4, .pointer A4), (5, .pointer A5), (8, .int .i64 (c : Int)), (9, .int .i64 (s.1 : Int))]) (fun s w' => s.2.ok ∧ s.1 ≤ nr ∧ runRel (c : Int) s.2.p (rel.drop s.1) = some y1 ∧ St w w' ([Bx 202 3 A5 s.2.cells, Bx 202 3 A4 [.slice none 0 0, .slice none 0 0, .bool false], Bx 180 2 A2 [.int .i64 (gens : Int), .slice Ar nr cr]] ++ (s.2.cks ++ []))) (fun s => nr - s.1) (0, X) ⟨rfl, rfl, rfl, rfl, rfl, trivial⟩ ⟨hok, Nat.zero_le _, hy1, hS7⟩ ?_
  rintro ⟨i, X⟩ e w8 ⟨hok, hi, hrr, hS8⟩
  dsimp only at hok hi hrr hS8 ⊢
  have hRR := hS8.oldRows hR
  have hXm : X.ls.length = X.m := hok.2.2
  have hRl : RdI w8 X.B X.m X.ls := LS.rdI hS8
  refine Cd.seq ?_
  refine Cd.seq ?_
  refine Cd.region ?_
  refine Ops.mv_int rfl rfl rfl ?_
  refine Ops.fld (hS8.rd 2 rfl) rfl rfl rfl rfl inferInstance ?_
  refine Ops.ldf_s (hS8.rd 2 rfl) rfl rfl rfl rfl rfl ?_
  refine Ops.len rfl rfl ?_
  refine Ops.lss rfl rfl rfl ?_
  refine Ops.mv_bool rfl rfl rfl ?_
  refine Ops.split_p 54 rfl (fun h2 => ?_) (fun h2 => ?_)
  ·have hir : i < rel.length := by omega
   have hdr : rel.drop i = gl rel (i : Int) :: rel.drop (i + 1) := by rw [List.drop_eq_getElem_cons hir, gl_mem hir]
   rw [hdr] at hrr
   have hrr : (if 0 ≤ (c : Int) ∧ (c : Int) < (X.ls.length : Int) then (if gi X.ls c = c then (match closeP X.p c (gl rel (i : Int)) with | none => none | some y => runRel c y (rel.drop (i + 1))) else some X.p) else none) = some y1 := hrr
   split at hrr
   case isFalse => cases hrr
   rename_i hcb
   refine Ops.rung rfl rfl rfl ?_
   refine Ops.fld (hS8.rd 0 rfl) rfl rfl rfl rfl inferInstance ?_
   refine Ops.rung rfl rfl rfl ?_
   refine Ops.ldf_s (hS8.rd 0 rfl) rfl rfl rfl rfl rfl ?_
   refine Ops.rung rfl rfl rfl ?_
   refine Ops.mv_int rfl rfl rfl ?_
   refine Ops.rung rfl rfl rfl ?_
   refine Ops.idx hRl.2 rfl rfl rfl (by omega) (by omega) ?_
   refine Ops.rung rfl rfl rfl ?_
   refine Ops.ld_int hRl rfl (by omega) rfl rfl ?_
   refine Ops.rung rfl rfl rfl ?_
   refine Ops.mv_int rfl rfl rfl ?_
   refine Ops.rung rfl rfl rfl ?_
   refine Ops.eql rfl rfl rfl ?_
   refine Ops.pick_t rfl rfl rfl ?_
   refine Ops.mv_bool rfl rfl rfl ?_
   refine Ops.split_p 63 rfl (fun h3 => ?_) (fun h3 => ?_)
   ·rw [if_pos h3] at hrr
    split at hrr
    case h_1 => cases hrr
    rename_i y2 hcl
    have hrow := hR.at_ (i := (i : Int)) (by omega) (by omega)
    have hrn : (rg rsr (i : Int)).n ≤ 1000000 := by
     rw [← hrow.1, gl_mem hir]; exact hrel _ (List.getElem_mem hir)
    refine Ops.rung rfl rfl rfl ?_
    refine Ops.fld (hS8.rd 0 rfl) rfl rfl rfl rfl inferInstance ?_
    refine Ops.rung rfl rfl rfl ?_
    refine Ops.ldf_b (hS8.rd 0 rfl) rfl rfl rfl rfl rfl ?_
    refine Ops.rung rfl rfl rfl ?_
    first | refine Ops.not_p rfl rfl ?_ | refine Ops.not rfl rfl ?_
    refine Ops.pick_t rfl rfl rfl ?_
    refine Ops.nil ?_
    refine thenQ_n ?_
    refine Cd.cond_t rfl ?_
    refine Cd.skip ?_
    refine thenQ_n ?_
    refine Cd.seq ?_
    refine Cd.block ?_
    refine Cd.drawN [7, 8] [.ex (.agg #[.slice (X.A) (X.n) (X.c), .slice (X.B) (X.m) (X.cB), .bool (false)]), .ex (.int .i64 ((c : Int))), .ex (.pointer (ptrAt (A2) 1)), .ex (.slice (Ar) (nr) (cr)), .ex (.int .i64 ((i : Int))), .ex (.pointer (ptrAt (Ar) ((i : Int)).toNat)), .ex (.slice ((rg (rsr) ((i : Int))).a) ((rg (rsr) ((i : Int))).n) ((rg (rsr) ((i : Int))).c)), .pr (fun v w' => ∃ x' : LS, v = x'.val ∧ LSt w [Bx 202 3 A5 X.cells, Bx 202 3 A4 [.slice none 0 0, .slice none 0 0, .bool false], Bx 180 2 A2 [.int .i64 (gens : Int), .slice Ar nr cr]] [] y2 x' w'), .pr (fun _ w' => ∃ x' : LS, LSt w [Bx 202 3 A5 x'.cells, Bx 202 3 A4 [.slice none 0 0, .slice none 0 0, .bool false], Bx 180 2 A2 [.int .i64 (gens : Int), .slice Ar nr cr]] [] y2 x' w')] (by kernel_rfl) (by kernel_rfl) (List.forall_mem_cons.2 ⟨Yd.lasts_ex _, (List.forall_mem_cons.2 ⟨Yd.lasts_ex _, (List.forall_mem_cons.2 ⟨Yd.lasts_ex _, (List.forall_mem_cons.2 ⟨Yd.lasts_ex _, (List.forall_mem_cons.2 ⟨Yd.lasts_ex _, (List.forall_mem_cons.2 ⟨Yd.lasts_ex _, (List.forall_mem_cons.2 ⟨Yd.lasts_ex _, (List.forall_mem_cons.2 ⟨Yd.lasts_pr (fun v w w' h hb => by obtain ⟨x', hv, h1, h2, h3⟩ := h; exact ⟨x', hv, h1, h2, h3.later hb⟩), (List.forall_mem_cons.2 ⟨Yd.lasts_pr (fun v w w' h hb => by obtain ⟨x', h1, h2, h3⟩ := h; exact ⟨x', h1, h2, h3.later hb⟩), (fun _ h => by cases h)⟩)⟩)⟩)⟩)⟩)⟩)⟩)⟩)⟩) ⟨?_, ?_, ?_, ?_, ?_, ?_, ?_, ?_, ?_, trivial⟩ ?_
    ·intro e1 w1 cc hlo hhi hb0 hp hun hq
     show Ops _ _ _ _ _ _ _
     replace hlo := le_of_lo hlo (b := 0) (by kernel_rfl)
     replace hhi := le_of_hi hhi (b := 0) (by kernel_rfl)
     obtain rfl : cc = 0 := by omega
     have hb := hb0 rfl
     refine Ops.ld_agg 2 ((hS8.rd 0 rfl).below hb) rfl rfl rfl ?_
     refine Ops.nil ?_
     exact AfterN.dn rfl (Below.refl _ _) (by exact rfl)
    ·intro e1 w1 cc hlo hhi hb0 hp hun hq
     show Ops _ _ _ _ _ _ _
     refine Ops.mv_int rfl rfl rfl ?_
     refine Ops.nil ?_
     exact AfterN.dn rfl (Below.refl _ _) (by exact rfl)
    ·intro e1 w1 cc hlo hhi hb0 hp hun hq
     show Ops _ _ _ _ _ _ _
     replace hlo := le_of_lo hlo (b := 0) (by kernel_rfl)
     replace hhi := le_of_hi hhi (b := 0) (by kernel_rfl)
     obtain rfl : cc = 0 := by omega
     have hb := hb0 rfl
     refine Ops.fld ((hS8.rd 2 rfl).below hb) rfl rfl rfl rfl inferInstance ?_
     refine Ops.nil ?_
     exact AfterN.dn rfl (Below.refl _ _) (by exact rfl)
    ·intro e1 w1 cc hlo hhi hb0 hp hun hq
     show Ops _ _ _ _ _ _ _
     replace hlo := le_of_lo hlo (b := 0) (by kernel_rfl)
     replace hhi := le_of_hi hhi (b := 0) (by kernel_rfl)
     obtain rfl : cc = 0 := by omega
     have hb := hb0 rfl
     refine Ops.ldf_s ((hS8.rd 2 rfl).below hb) rfl rfl rfl rfl rfl ?_
     refine Ops.nil ?_
     exact AfterN.dn rfl (Below.refl _ _) (by exact rfl)
    ·intro e1 w1 cc hlo hhi hb0 hp hun hq
     show Ops _ _ _ _ _ _ _
     refine Ops.mv_int rfl rfl rfl ?_
     refine Ops.nil ?_
     exact AfterN.dn rfl (Below.refl _ _) (by exact rfl)
    ·intro e1 w1 cc hlo hhi hb0 hp hun hq
     show Ops _ _ _ _ _ _ _
     replace hlo := le_of_lo hlo (b := 0) (by kernel_rfl)
     replace hhi := le_of_hi hhi (b := 0) (by kernel_rfl)
     obtain rfl : cc = 0 := by omega
     have hb := hb0 rfl
     refine Ops.idx (hRR.top.later hb).2 rfl rfl rfl (by omega) (by omega) ?_
     refine Ops.nil ?_
     exact AfterN.dn rfl (Below.refl _ _) (by exact rfl)
    ·intro e1 w1 cc hlo hhi hb0 hp hun hq
     show Ops _ _ _ _ _ _ _
     replace hlo := le_of_lo hlo (b := 0) (by kernel_rfl)
     replace hhi := le_of_hi hhi (b := 0) (by kernel_rfl)
     obtain rfl : cc = 0 := by omega
     have hb := hb0 rfl
     refine Ops.ld_sl (hRR.top.later hb) rfl (by omega) rfl rfl ?_
     refine Ops.nil ?_
     exact AfterN.dn rfl (Below.refl _ _) (by exact rfl)
    ·intro e1 w1 cc hlo hhi hb0 hp hun hq
     show Ops _ _ _ _ _ _ _
     replace hlo := le_of_lo hlo (b := 0) (by kernel_rfl)
     replace hhi := le_of_hi hhi (b := 0) (by kernel_rfl)
     obtain rfl : cc = 0 := by omega
     have hb := hb0 rfl
     refine Ops.call (l11Close_c X (c : Int) _ _ (rg rsr (i : Int)).c (gl rel (i : Int)) y2 hok ((hS8.later (hb0 rfl)).toBack (pre := [_, _, _])) (fun w' h => h.oldI hrow) hrn hcl) rfl rfl rfl ?_
     rintro _ w4 ⟨x', hok', hp', rfl, hT⟩
     refine Ops.nil ?_
     exact AfterT.dn rfl ⟨x', rfl, hok', hp', hT.toBack⟩
    ·intro e1 w1 cc hlo hhi hb0 hp hun hq
     show Ops _ _ _ _ _ _ _
     replace hlo := le_of_lo hlo (b := 1) (by kernel_rfl)
     replace hhi := le_of_hi hhi (b := 1) (by kernel_rfl)
     obtain rfl : cc = 1 := by omega
     have hph := hp 7 _ _ (by kernel_rfl) rfl rfl (by kernel_rfl)
     obtain ⟨x', hv, h1, h2, h3⟩ := (hp 7 _ _ (by kernel_rfl) rfl rfl (by kernel_rfl))
     refine Ops.st_agg 3 0 h3 rfl rfl (by exact hv) rfl rfl rfl rfl ?_
     intro w11 hT11
     refine Ops.nil ?_
     exact AfterT.st rfl ⟨x', h1, h2, hT11⟩
    intro u w9 _ hu
    obtain ⟨x', hok', hp', hT⟩ := hu 8 _ rfl (by kernel_rfl)
    refine blockQ_n ?_
    refine thenQ_n ?_
    refine Cd.region ?_
    refine Ops.mv_int rfl rfl rfl ?_
    refine Ops.add rfl rfl rfl (by omega) ?_
    refine Ops.mv_int rfl rfl rfl ?_
    refine Ops.nil ?_
    refine thenQ_n ?_
    exact ⟨(i + 1, x'), by show nr - (i + 1) < nr - i; omega, ⟨rfl, rfl, rfl, rfl, rfl, trivial⟩, hok', by show i + 1 ≤ nr; omega, by rw [hp']; exact hrr, hT⟩
   ·rw [if_neg h3] at hrr
    have hrr := Option.some.inj hrr
    refine Ops.skipg rfl rfl rfl rfl rfl ?_
    refine Ops.skipg rfl rfl rfl rfl rfl ?_
    refine Ops.skipg rfl rfl rfl rfl rfl ?_
    refine Ops.pick_f rfl rfl rfl ?_
    refine Ops.nil ?_
    refine thenQ_n ?_
    refine Cd.cond_f rfl ?_
    refine Cd.exit ?_
    refine thenQ_x ?_
    refine thenQ_x ?_
    refine blockQ_x ?_
    refine thenQ_n ?_
    refine Cd.seq ?_
    refine Cd.region ?_
    refine Ops.mv_int rfl rfl rfl ?_
    refine Ops.nil ?_
    refine thenQ_n ?_
    refine Cd.block ?_
    refine Cd.loop (α := Nat × Nat × LS) (fun s => [(2, .pointer A2), (4, .pointer A4), (5, .pointer A5), (8, .int .i64 (c : Int)), (10, .int .i64 (s.2.1 : Int))]) (fun s w' => s.2.2.ok ∧ runGen (c : Int) gens s.1 s.2.1 s.2.2.p = some z1 ∧ s.1 + s.2.1 = 100 ∧ St w w' ([Bx 202 3 A5 s.2.2.cells, Bx 202 3 A4 [.slice none 0 0, .slice none 0 0, .bool false], Bx 180 2 A2 [.int .i64 (gens : Int), .slice Ar nr cr]] ++ (s.2.2.cks ++ []))) (fun s => s.1) (100, 0, X) ⟨rfl, rfl, rfl, rfl, rfl, trivial⟩ ⟨hok, by rw [hrr]; exact hz1, rfl, hS8⟩ ?_
    rintro ⟨k, g, X⟩ e w9 ⟨hok, hgg, hkg, hS9⟩
    dsimp only at hok hgg hkg hS9 ⊢
    obtain ⟨r, rfl⟩ : ∃ q, k = q + 1 := by cases k with | zero => cases hgg | succ q => exact ⟨q, rfl⟩
    have hgg : (if g < gens then (if 0 ≤ (c : Int) ∧ (c : Int) < (X.ls.length : Int) then (if gi X.ls c = c then (match nextP X.p c (g : Int) with | none => none | some (y, _) => runGen c gens r (g + 1) y) else some X.p) else none) else some X.p) = some z1 := hgg
    have hXm : X.ls.length = X.m := hok.2.2
    have hRl : RdI w9 X.B X.m X.ls := LS.rdI hS9
    refine Cd.seq ?_
    refine Cd.seq ?_
    refine Cd.region ?_
    refine Ops.mv_int rfl rfl rfl ?_
    refine Ops.fld (hS9.rd 2 rfl) rfl rfl rfl rfl inferInstance ?_
    refine Ops.ldf_i (hS9.rd 2 rfl) rfl rfl rfl rfl rfl ?_
    refine Ops.lss rfl rfl rfl ?_
    refine Ops.mv_bool rfl rfl rfl ?_
    refine Ops.split_p 82 rfl (fun h4 => ?_) (fun h4 => ?_)
    ·rw [if_pos (by omega)] at hgg
     split at hgg
     case isFalse => cases hgg
     rename_i hcb2
     refine Ops.rung rfl rfl rfl ?_
     refine Ops.fld (hS9.rd 0 rfl) rfl rfl rfl rfl inferInstance ?_
     refine Ops.rung rfl rfl rfl ?_
     refine Ops.ldf_s (hS9.rd 0 rfl) rfl rfl rfl rfl rfl ?_
     refine Ops.rung rfl rfl rfl ?_
     refine Ops.mv_int rfl rfl rfl ?_
     refine Ops.rung rfl rfl rfl ?_
     refine Ops.idx hRl.2 rfl rfl rfl (by omega) (by omega) ?_
     refine Ops.rung rfl rfl rfl ?_
     refine Ops.ld_int hRl rfl (by omega) rfl rfl ?_
     refine Ops.rung rfl rfl rfl ?_
     refine Ops.mv_int rfl rfl rfl ?_
     refine Ops.rung rfl rfl rfl ?_
     refine Ops.eql rfl rfl rfl ?_
     refine Ops.pick_t rfl rfl rfl ?_
     refine Ops.mv_bool rfl rfl rfl ?_
     refine Ops.split_p 91 rfl (fun h5 => ?_) (fun h5 => ?_)
     ·rw [if_pos h5] at hgg
      split at hgg
      case h_1 => cases hgg
      rename_i y3 d3 hnx
      refine Ops.rung rfl rfl rfl ?_
      refine Ops.fld (hS9.rd 0 rfl) rfl rfl rfl rfl inferInstance ?_
      refine Ops.rung rfl rfl rfl ?_
      refine Ops.ldf_b (hS9.rd 0 rfl) rfl rfl rfl rfl rfl ?_
      refine Ops.rung rfl rfl rfl ?_
      first | refine Ops.not_p rfl rfl ?_ | refine Ops.not rfl rfl ?_
      refine Ops.pick_t rfl rfl rfl ?_
      refine Ops.nil ?_
      refine thenQ_n ?_
      refine Cd.cond_t rfl ?_
      refine Cd.skip ?_
      refine thenQ_n ?_
      refine Cd.seq ?_
      refine Cd.block ?_
      refine Cd.seq ?_
      refine Cd.region ?_
      refine Ops.ld_agg 2 (hS9.rd 0 rfl) rfl rfl rfl ?_
      refine Ops.mv_int rfl rfl rfl ?_
      refine Ops.mv_int rfl rfl rfl ?_
      refine Ops.call (l11Next_c X (c : Int) (g : Int) y3 d3 hok (hS9.toBack (pre := [_, _, _])) hnx) rfl rfl rfl ?_
      rintro _ w10 ⟨x', hok', hp', rfl, hT⟩
      have hT := hT.toBack
      refine Ops.mv_tup rfl rfl rfl ?_
      refine Ops.extract rfl rfl rfl ?_
      refine Ops.extract rfl rfl rfl ?_
      refine Ops.new3 hT rfl ?_
      intro A11 w11 hT11
      skip
      refine Ops.st_agg 3 0 hT11 rfl rfl rfl rfl rfl rfl rfl ?_
      intro w12 hT12
      refine Ops.mv_int rfl rfl rfl ?_
      refine Ops.nil ?_
      refine thenQ_n ?_
      refine Cd.region ?_
      refine Ops.ld_agg 2 (hT12.rd 0 rfl) rfl rfl rfl ?_
      skip
      refine Ops.st_agg 3 1 hT12 rfl rfl rfl rfl rfl rfl rfl ?_
      intro w13 hT13
      refine Ops.nil ?_
      refine blockQ_n ?_
      refine thenQ_n ?_
      refine Cd.region ?_
      refine Ops.mv_int rfl rfl rfl ?_
      refine Ops.add rfl rfl rfl (by omega) ?_
      refine Ops.mv_int rfl rfl rfl ?_
      refine Ops.nil ?_
      refine thenQ_n ?_
      exact ⟨(r, g + 1, x'), Nat.lt_succ_self r, ⟨rfl, rfl, rfl, rfl, rfl, trivial⟩, hok', by rw [hp']; exact hgg, by show r + (g + 1) = 100; omega, hT13.tail⟩
     ·rw [if_neg h5] at hgg
      have hgg := Option.some.inj hgg
      refine Ops.skipg rfl rfl rfl rfl rfl ?_
      refine Ops.skipg rfl rfl rfl rfl rfl ?_
      refine Ops.skipg rfl rfl rfl rfl rfl ?_
      refine Ops.pick_f rfl rfl rfl ?_
      refine Ops.nil ?_
      refine thenQ_n ?_
      refine Cd.cond_f rfl ?_
      refine Cd.exit ?_
      refine thenQ_x ?_
      refine thenQ_x ?_
      refine blockQ_x ?_
      refine blockQ_n ?_
      refine thenQ_n ?_
      refine Cd.region ?_
      refine Ops.mv_int rfl rfl rfl ?_
      refine Ops.add rfl rfl rfl (by omega) ?_
      refine Ops.mv_int rfl rfl rfl ?_
      refine Ops.nil ?_
      refine thenQ_n ?_
      exact ⟨(q, c + 1, X), Nat.lt_succ_self q, ⟨rfl, rfl, rfl, rfl, trivial⟩, hok, by rw [hgg]; exact hc, by show q + (c + 1) = 3000; omega, hS9⟩
    ·rw [if_neg (by omega)] at hgg
     have hgg := Option.some.inj hgg
     refine Ops.skipg rfl rfl rfl rfl rfl ?_
     refine Ops.skipg rfl rfl rfl rfl rfl ?_
     refine Ops.skipg rfl rfl rfl rfl rfl ?_
     refine Ops.skipg rfl rfl rfl rfl rfl ?_
     refine Ops.skipg rfl rfl rfl rfl rfl ?_
     refine Ops.skipg rfl rfl rfl rfl rfl ?_
     refine Ops.skipg rfl rfl rfl rfl rfl ?_
     refine Ops.pick_f rfl rfl rfl ?_
     refine Ops.mv_bool rfl rfl rfl ?_
     refine Ops.skipg rfl rfl rfl rfl rfl ?_
     refine Ops.skipg rfl rfl rfl rfl rfl ?_
     refine Ops.skipg rfl rfl rfl rfl rfl ?_
     refine Ops.pick_f rfl rfl rfl ?_
     refine Ops.nil ?_
     refine thenQ_n ?_
     refine Cd.cond_f rfl ?_
     refine Cd.exit ?_
     refine thenQ_x ?_
     refine thenQ_x ?_
     refine blockQ_x ?_
     refine blockQ_n ?_
     refine thenQ_n ?_
     refine Cd.region ?_
     refine Ops.mv_int rfl rfl rfl ?_
     refine Ops.add rfl rfl rfl (by omega) ?_
     refine Ops.mv_int rfl rfl rfl ?_
     refine Ops.nil ?_
     refine thenQ_n ?_
     exact ⟨(q, c + 1, X), Nat.lt_succ_self q, ⟨rfl, rfl, rfl, rfl, trivial⟩, hok, by rw [hgg]; exact hc, by show q + (c + 1) = 3000; omega, hS9⟩
  ·have hir : rel.drop i = [] := List.drop_eq_nil_of_le (by omega)
   rw [hir] at hrr
   have hrr : some X.p = some y1 := hrr
   have hrr := Option.some.inj hrr
   refine Ops.skipg rfl rfl rfl rfl rfl ?_
   refine Ops.skipg rfl rfl rfl rfl rfl ?_
   refine Ops.skipg rfl rfl rfl rfl rfl ?_
   refine Ops.skipg rfl rfl rfl rfl rfl ?_
   refine Ops.skipg rfl rfl rfl rfl rfl ?_
   refine Ops.skipg rfl rfl rfl rfl rfl ?_
   refine Ops.skipg rfl rfl rfl rfl rfl ?_
   refine Ops.pick_f rfl rfl rfl ?_
   refine Ops.mv_bool rfl rfl rfl ?_
   refine Ops.skipg rfl rfl rfl rfl rfl ?_
   refine Ops.skipg rfl rfl rfl rfl rfl ?_
   refine Ops.skipg rfl rfl rfl rfl rfl ?_
   refine Ops.pick_f rfl rfl rfl ?_
   refine Ops.nil ?_
   refine thenQ_n ?_
   refine Cd.cond_f rfl ?_
   refine Cd.exit ?_
   refine thenQ_x ?_
   refine thenQ_x ?_
   refine blockQ_x ?_
   refine thenQ_n ?_
   refine Cd.seq ?_
   refine Cd.region ?_
   refine Ops.mv_int rfl rfl rfl ?_
   refine Ops.nil ?_
   refine thenQ_n ?_
   refine Cd.block ?_
   refine Cd.loop (α := Nat × Nat × LS) (fun s => [(2, .pointer A2), (4, .pointer A4), (5, .pointer A5), (8, .int .i64 (c : Int)), (10, .int .i64 (s.2.1 : Int))]) (fun s w' => s.2.2.ok ∧ runGen (c : Int) gens s.1 s.2.1 s.2.2.p = some z1 ∧ s.1 + s.2.1 = 100 ∧ St w w' ([Bx 202 3 A5 s.2.2.cells, Bx 202 3 A4 [.slice none 0 0, .slice none 0 0, .bool false], Bx 180 2 A2 [.int .i64 (gens : Int), .slice Ar nr cr]] ++ (s.2.2.cks ++ []))) (fun s => s.1) (100, 0, X) ⟨rfl, rfl, rfl, rfl, rfl, trivial⟩ ⟨hok, by rw [hrr]; exact hz1, rfl, hS8⟩ ?_
   rintro ⟨k, g, X⟩ e w9 ⟨hok, hgg, hkg, hS9⟩
   dsimp only at hok hgg hkg hS9 ⊢
   obtain ⟨r, rfl⟩ : ∃ q, k = q + 1 := by cases k with | zero => cases hgg | succ q => exact ⟨q, rfl⟩
   have hgg : (if g < gens then (if 0 ≤ (c : Int) ∧ (c : Int) < (X.ls.length : Int) then (if gi X.ls c = c then (match nextP X.p c (g : Int) with | none => none | some (y, _) => runGen c gens r (g + 1) y) else some X.p) else none) else some X.p) = some z1 := hgg
   have hXm : X.ls.length = X.m := hok.2.2
   have hRl : RdI w9 X.B X.m X.ls := LS.rdI hS9
   refine Cd.seq ?_
   refine Cd.seq ?_
   refine Cd.region ?_
   refine Ops.mv_int rfl rfl rfl ?_
   refine Ops.fld (hS9.rd 2 rfl) rfl rfl rfl rfl inferInstance ?_
   refine Ops.ldf_i (hS9.rd 2 rfl) rfl rfl rfl rfl rfl ?_
   refine Ops.lss rfl rfl rfl ?_
   refine Ops.mv_bool rfl rfl rfl ?_
   refine Ops.split_p 82 rfl (fun h4 => ?_) (fun h4 => ?_)
   ·rw [if_pos (by omega)] at hgg
    split at hgg
    case isFalse => cases hgg
    rename_i hcb2
    refine Ops.rung rfl rfl rfl ?_
    refine Ops.fld (hS9.rd 0 rfl) rfl rfl rfl rfl inferInstance ?_
    refine Ops.rung rfl rfl rfl ?_
    refine Ops.ldf_s (hS9.rd 0 rfl) rfl rfl rfl rfl rfl ?_
    refine Ops.rung rfl rfl rfl ?_
    refine Ops.mv_int rfl rfl rfl ?_
    refine Ops.rung rfl rfl rfl ?_
    refine Ops.idx hRl.2 rfl rfl rfl (by omega) (by omega) ?_
    refine Ops.rung rfl rfl rfl ?_
    refine Ops.ld_int hRl rfl (by omega) rfl rfl ?_
    refine Ops.rung rfl rfl rfl ?_
    refine Ops.mv_int rfl rfl rfl ?_
    refine Ops.rung rfl rfl rfl ?_
    refine Ops.eql rfl rfl rfl ?_
    refine Ops.pick_t rfl rfl rfl ?_
    refine Ops.mv_bool rfl rfl rfl ?_
    refine Ops.split_p 91 rfl (fun h5 => ?_) (fun h5 => ?_)
    ·rw [if_pos h5] at hgg
     split at hgg
     case h_1 => cases hgg
     rename_i y3 d3 hnx
     refine Ops.rung rfl rfl rfl ?_
     refine Ops.fld (hS9.rd 0 rfl) rfl rfl rfl rfl inferInstance ?_
     refine Ops.rung rfl rfl rfl ?_
     refine Ops.ldf_b (hS9.rd 0 rfl) rfl rfl rfl rfl rfl ?_
     refine Ops.rung rfl rfl rfl ?_
     first | refine Ops.not_p rfl rfl ?_ | refine Ops.not rfl rfl ?_
     refine Ops.pick_t rfl rfl rfl ?_
     refine Ops.nil ?_
     refine thenQ_n ?_
     refine Cd.cond_t rfl ?_
     refine Cd.skip ?_
     refine thenQ_n ?_
     refine Cd.seq ?_
     refine Cd.block ?_
     refine Cd.seq ?_
     refine Cd.region ?_
     refine Ops.ld_agg 2 (hS9.rd 0 rfl) rfl rfl rfl ?_
     refine Ops.mv_int rfl rfl rfl ?_
     refine Ops.mv_int rfl rfl rfl ?_
     refine Ops.call (l11Next_c X (c : Int) (g : Int) y3 d3 hok (hS9.toBack (pre := [_, _, _])) hnx) rfl rfl rfl ?_
     rintro _ w10 ⟨x', hok', hp', rfl, hT⟩
     have hT := hT.toBack
     refine Ops.mv_tup rfl rfl rfl ?_
     refine Ops.extract rfl rfl rfl ?_
     refine Ops.extract rfl rfl rfl ?_
     refine Ops.new3 hT rfl ?_
     intro A11 w11 hT11
     skip
     refine Ops.st_agg 3 0 hT11 rfl rfl rfl rfl rfl rfl rfl ?_
     intro w12 hT12
     refine Ops.mv_int rfl rfl rfl ?_
     refine Ops.nil ?_
     refine thenQ_n ?_
     refine Cd.region ?_
     refine Ops.ld_agg 2 (hT12.rd 0 rfl) rfl rfl rfl ?_
     skip
     refine Ops.st_agg 3 1 hT12 rfl rfl rfl rfl rfl rfl rfl ?_
     intro w13 hT13
     refine Ops.nil ?_
     refine blockQ_n ?_
     refine thenQ_n ?_
     refine Cd.region ?_
     refine Ops.mv_int rfl rfl rfl ?_
     refine Ops.add rfl rfl rfl (by omega) ?_
     refine Ops.mv_int rfl rfl rfl ?_
     refine Ops.nil ?_
     refine thenQ_n ?_
     exact ⟨(r, g + 1, x'), Nat.lt_succ_self r, ⟨rfl, rfl, rfl, rfl, rfl, trivial⟩, hok', by rw [hp']; exact hgg, by show r + (g + 1) = 100; omega, hT13.tail⟩
    ·rw [if_neg h5] at hgg
     have hgg := Option.some.inj hgg
     refine Ops.skipg rfl rfl rfl rfl rfl ?_
     refine Ops.skipg rfl rfl rfl rfl rfl ?_
     refine Ops.skipg rfl rfl rfl rfl rfl ?_
     refine Ops.pick_f rfl rfl rfl ?_
     refine Ops.nil ?_
     refine thenQ_n ?_
     refine Cd.cond_f rfl ?_
     refine Cd.exit ?_
     refine thenQ_x ?_
     refine thenQ_x ?_
     refine blockQ_x ?_
     refine blockQ_n ?_
     refine thenQ_n ?_
     refine Cd.region ?_
     refine Ops.mv_int rfl rfl rfl ?_
     refine Ops.add rfl rfl rfl (by omega) ?_
     refine Ops.mv_int rfl rfl rfl ?_
     refine Ops.nil ?_
     refine thenQ_n ?_
     exact ⟨(q, c + 1, X), Nat.lt_succ_self q, ⟨rfl, rfl, rfl, rfl, trivial⟩, hok, by rw [hgg]; exact hc, by show q + (c + 1) = 3000; omega, hS9⟩
   ·rw [if_neg (by omega)] at hgg
    have hgg := Option.some.inj hgg
    refine Ops.skipg rfl rfl rfl rfl rfl ?_
    refine Ops.skipg rfl rfl rfl rfl rfl ?_
    refine Ops.skipg rfl rfl rfl rfl rfl ?_
    refine Ops.skipg rfl rfl rfl rfl rfl ?_
    refine Ops.skipg rfl rfl rfl rfl rfl ?_
    refine Ops.skipg rfl rfl rfl rfl rfl ?_
    refine Ops.skipg rfl rfl rfl rfl rfl ?_
    refine Ops.pick_f rfl rfl rfl ?_
    refine Ops.mv_bool rfl rfl rfl ?_
    refine Ops.skipg rfl rfl rfl rfl rfl ?_
    refine Ops.skipg rfl rfl rfl rfl rfl ?_
    refine Ops.skipg rfl rfl rfl rfl rfl ?_
    refine Ops.pick_f rfl rfl rfl ?_
    refine Ops.nil ?_
    refine thenQ_n ?_
    refine Cd.cond_f rfl ?_
    refine Cd.exit ?_
    refine thenQ_x ?_
    refine thenQ_x ?_
    refine blockQ_x ?_
    refine blockQ_n ?_
    refine thenQ_n ?_
    refine Cd.region ?_
    refine Ops.mv_int rfl rfl rfl ?_
    refine Ops.add rfl rfl rfl (by omega) ?_
    refine Ops.mv_int rfl rfl rfl ?_
    refine Ops.nil ?_
    refine thenQ_n ?_
    exact ⟨(q, c + 1, X), Nat.lt_succ_self q, ⟨rfl, rfl, rfl, rfl, trivial⟩, hok, by rw [hgg]; exact hc, by show q + (c + 1) = 3000; omega, hS9⟩
 ·rw [if_neg (by omega)] at hc
  have hc := Option.some.inj hc
  refine Ops.skipg rfl rfl rfl rfl rfl ?_
  refine Ops.skipg rfl rfl rfl rfl rfl ?_
  refine Ops.skipg rfl rfl rfl rfl rfl ?_
  refine Ops.pick_f rfl rfl rfl ?_
  refine Ops.nil ?_
  refine thenQ_n ?_
  refine Cd.cond_f rfl ?_
  refine Cd.exit ?_
  refine thenQ_x ?_
  refine thenQ_x ?_
  refine blockQ_x ?_
  refine thenQ_n ?_
  refine Cd.seq ?_
  refine Cd.region ?_
  refine Ops.ld_agg 2 (hS7.rd 0 rfl) rfl rfl rfl ?_
  skip
  refine Ops.st_agg 3 1 hS7 rfl rfl rfl rfl rfl rfl rfl ?_
  intro w8 hS8
  refine Ops.nil ?_
  refine thenQ_n ?_
  refine Cd.ret ?_
  skip
  refine retc_r rfl (hS8.rd 1 rfl) ?_
  refine ⟨X, hok, hc, rfl, ?_⟩
  have h5 := ((hS8.sub ((List.Sublist.refl _).cons _)).sub ((List.Sublist.refl _).cons _)).sub ((List.Sublist.refl _).cons _)
  rwa [List.append_nil] at h5
end Go.Proofs.YtjpkmpihmilgoaaGreat.Vc
/-
 The reference's coset enumeration, walked: the table. Conditions: as each states them.
-/
namespace Go.Proofs.YtjpkmpihmilgoaaGreat.Vc
open Go.RowKit

def initL (n i : Nat) : List Int := (List.range n).map fun j => if 0 < j ∧ j < i then -1 else 0
theorem initL_one (n : Nat) : initL n 1 = List.replicate n 0 := by
 apply List.ext_getElem
 ·simp [initL]
 ·intro j h1 h2
  simp only [initL, List.getElem_map, List.getElem_range, List.getElem_replicate]
  rw [if_neg (by omega)]
theorem initL_set {n i : Nat} (h0 : 0 < i) : (initL n i).set i (-1) = initL n (i + 1) := by
 apply List.ext_getElem
 ·simp [initL]
 ·intro j h1 h2
  rw [List.getElem_set]
  simp only [initL, List.getElem_map, List.getElem_range]
  split
  ·rename_i e; subst e; rw [if_pos (by omega)]
  ·rename_i e
   by_cases hj : 0 < j ∧ j < i
   ·rw [if_pos hj, if_pos (by omega)]
   ·rw [if_neg hj, if_neg (by omega)]
def srchG (y : PS) (c : Int) (gens : Nat) : Nat → Nat → List Int → List Int → Option (List Int × List Int)
 | 0, _, _, _ => none
 | k + 1, g, ord, num => if g < gens then (match imageP y c (g : Int) with
  | none => none
  | some d => if 0 ≤ d ∧ d < (num.length : Int) ∧ ord.length < 1000000 then (if gi num d < 0 then srchG y c gens k (g + 1) (ord ++ [d]) (num.set d.toNat (ord.length : Int)) else srchG y c gens k (g + 1) ord num) else none) else some (ord, num)
def srchI (y : PS) (gens : Nat) : Nat → Nat → List Int → List Int → Option (List Int × List Int)
 | 0, _, _, _ => none
 | k + 1, i, ord, num => if i < ord.length then (match srchG y (gi ord (i : Int)) gens 100 0 ord num with
  | none => none
  | some (o, n) => srchI y gens k (i + 1) o n) else some (ord, num)
def rowP (y : PS) (num : List Int) (g : Nat) : List Int → Option (List Int)
 | [] => some []
 | c :: r => match imageP y c (g : Int) with
  | none => none
  | some d => if 0 ≤ d ∧ d < (num.length : Int) then (match rowP y num g r with | none => none | some l => some (gi num d :: l)) else none
def outP (y : PS) (num ord : List Int) (gens : Nat) : Nat → Nat → Option (List (List Int))
 | 0, _ => none
 | k + 1, g => if g < gens then (match rowP y num g ord with | none => none | some r => match outP y num ord gens k (g + 1) with | none => none | some l => some (r :: l)) else some []
def tableP (gens : Nat) (rel : List (List Int)) : Option (List (List Int)) :=
 match runP gens rel with
 | none => none
 | some y => if y.ls.length ≤ 100000 then (match srchI y gens 100000 0 [0] (initL y.ls.length y.ls.length) with
  | none => none
  | some (ord, num) => if ord.length ≤ 1000000 then outP y num ord gens 100 0 else none) else none

theorem l11Table_c (gens : Nat) (Ar : Option Addr) (nr cr : Nat) (rsr : List SlV) (rel : List (List Int)) (T : List (List Int)) (w : World) (hR : RowsI w Ar nr rsr rel) (hrel : ∀ x ∈ rel, x.length ≤ 1000000) (hnr : nr ≤ 1000000) (hp : tableP gens rel = some T) :
  Ret Tryz.prog 215 [.agg #[.int .i64 (gens : Int), .slice Ar nr cr], .slice none 0 0] w (fun v w' => ∃ A c rs, v = .tuple #[.slice A T.length c, .bool true] ∧ rs.length = T.length ∧ St w w' (mat 34 2 A T.length c rs T)) := by
 unfold tableP at hp
 split at hp
 case h_1 => cases hp
 rename_i y hy
 split at hp
 case isFalse => cases hp
 rename_i hyl
 split at hp
 case h_1 => cases hp
 rename_i ord1 num1 hsr
 split at hp
 case isFalse => cases hp
 rename_i hol
 refine Ret.of_cd Tryz.func215 rfl Tryz.ntmps215 rfl (post2 rfl) ?_
 refine Cd.seq ?_
 refine Cd.region ?_
 refine Ops.box2 (St.refl w) rfl rfl ?_
 intro A2 w1 hS1
 refine Ops.mv_sl rfl rfl rfl ?_
 refine Ops.mv_bool rfl rfl rfl ?_
 refine Ops.nil ?_
 refine thenQ_n ?_
 refine Cd.seq ?_
 refine Cd.region ?_
 refine Ops.ld_agg 1 (hS1.rd 0 rfl) rfl rfl rfl ?_
 refine Ops.mv_sl rfl rfl rfl ?_
 refine Ops.call (l11Run_c gens Ar nr cr rsr rel none 0 y _ (hS1.oldRows hR) hrel hnr hy) rfl rfl rfl ?_
 rintro _ w2 ⟨x, hok, hxp, rfl, hst⟩
 have hS2 := hS1.call hst
 skip
 refine Ops.new3 hS2 rfl ?_
 intro A6 w3 hS3
 skip
 refine Ops.st_agg 3 0 hS3 rfl rfl rfl rfl rfl rfl rfl ?_
 intro w4 hS4
 have hS4 : St w w4 ([Bx 202 3 A6 x.cells] ++ (x.cks ++ [Bx 180 2 A2 [.int .i64 (gens : Int), .slice Ar nr cr]])) := hS4
 have hI : RowsI w4 x.A x.n x.rs x.im := LS.rowsI hok hS4
 have hL : RdI w4 x.B x.m x.ls := LS.rdI hS4
 have hB6 := hS4.rd 0 rfl
 have hB2 : Rd w4 A2 2 (fun j => [Value.int .i64 (gens : Int), .slice Ar nr cr].getD j undef) := (hS4.sub (List.singleton_sublist.2 (by simp : Bx 180 2 A2 [.int .i64 (gens : Int), .slice Ar nr cr] ∈ _))).rd 0 rfl
 subst hxp
 have hxm : x.ls.length = x.m := hok.2.2
 have hyl : x.ls.length ≤ 100000 := hyl
 have hsr : srchI x.p gens 100000 0 [0] (initL x.ls.length x.ls.length) = some (ord1, num1) := hsr
 rw [hxm] at hsr hyl
 refine Ops.nil ?_
 refine thenQ_n ?_
 refine Cd.seq ?_
 refine Cd.seq ?_
 refine Cd.region ?_
 refine Ops.fld hB6 rfl rfl rfl rfl inferInstance ?_
 refine Ops.ldf_b hB6 rfl rfl rfl rfl rfl ?_
 refine Ops.nil ?_
 refine thenQ_n ?_
 refine Cd.cond_f rfl ?_
 refine Cd.skip ?_
 refine thenQ_n ?_
 refine Cd.seq ?_
 refine Cd.region ?_
 refine Ops.bs1I (St.refl w4) rfl rfl rfl ?_
 intro A7 w5 hT5
 have hB65 := Rd.below hB6 hT5.below
 refine Ops.mv_sl rfl rfl rfl ?_
 refine Ops.nil ?_
 refine thenQ_n ?_
 refine Cd.seq ?_
 refine Cd.region ?_
 refine Ops.fld hB65 rfl rfl rfl rfl inferInstance ?_
 refine Ops.ldf_s hB65 rfl rfl rfl rfl rfl ?_
 refine Ops.len rfl rfl ?_
 refine Ops.mkI x.m hT5 rfl rfl (by omega) ?_
 intro A8 w6 hT6
 rw [← initL_one] at hT6
 refine Ops.mv_sl rfl rfl rfl ?_
 refine Ops.nil ?_
 refine thenQ_n ?_
 refine Cd.seq ?_
 refine Cd.seq ?_
 refine Cd.region ?_
 refine Ops.mv_int rfl rfl rfl ?_
 refine Ops.nil ?_
 refine thenQ_n ?_
 refine Cd.block ?_
 refine Cd.loop (α := Nat) (fun i => [(2, .pointer A2), (6, .pointer A6), (7, .slice A7 1 1), (8, .slice A8 x.m x.m), (9, .int .i64 (i : Int))]) (fun i w' => St w4 w' [CkI 2 A8 x.m x.m (initL x.m i), CkI 2 A7 1 1 [0]] ∧ 1 ≤ i ∧ (i ≤ x.m ∨ i = 1)) (fun i => x.m - i) 1 ⟨rfl, rfl, rfl, rfl, rfl, trivial⟩ ⟨hT6, Nat.le_refl _, .inr rfl⟩ ?_
 rintro i e w7 ⟨hT7, hi1, hi2⟩
 refine Cd.seq ?_
 refine Cd.seq ?_
 refine Cd.region ?_
 refine Ops.mv_int rfl rfl rfl ?_
 refine Ops.mv_sl rfl rfl rfl ?_
 refine Ops.len rfl rfl ?_
 refine Ops.lss rfl rfl rfl ?_
 refine Ops.nil ?_
 refine thenQ_n ?_
 refine Cd.cond_p _ rfl (fun h1 => ?_) (fun h1 => ?_)
 ·have hR7 := hT7.rdI 0 rfl
  refine Cd.skip ?_
  refine thenQ_n ?_
  refine Cd.seq ?_
  refine Cd.block ?_
  refine Cd.region ?_
  refine Ops.mv_sl rfl rfl rfl ?_
  refine Ops.mv_int rfl rfl rfl ?_
  refine Ops.idx hR7.2 rfl rfl rfl (by omega) (by omega) ?_
  refine Ops.st_int 0 hT7 rfl rfl rfl (by omega) ?_
  intro w8 hT8
  rw [Int.toNat_natCast, initL_set (by omega)] at hT8
  refine Ops.nil ?_
  refine blockQ_n ?_
  refine thenQ_n ?_
  refine Cd.region ?_
  refine Ops.mv_int rfl rfl rfl ?_
  refine Ops.add rfl rfl rfl (by omega) ?_
  refine Ops.mv_int rfl rfl rfl ?_
  refine Ops.nil ?_
  refine thenQ_n ?_
  exact ⟨i + 1, by omega, ⟨rfl, rfl, rfl, rfl, rfl, trivial⟩, hT8, by omega, by omega⟩
 have hin : initL x.m i = initL x.m x.m := by
  unfold initL
  apply List.map_congr_left
  intro j hj
  have hj := List.mem_range.1 hj
  by_cases h : 0 < j
  ·rw [if_pos (by omega), if_pos (by omega)]
  ·rw [if_neg (by omega), if_neg (by omega)]
 rw [hin] at hT7
 refine Cd.exit ?_
 refine thenQ_x ?_
 refine thenQ_x ?_
 refine blockQ_x ?_
 refine thenQ_n ?_
 refine Cd.seq ?_
 refine Cd.seq ?_
 refine Cd.region ?_
 refine Ops.mv_int rfl rfl rfl ?_
 refine Ops.nil ?_
 refine thenQ_n ?_
 refine Cd.block ?_
 refine Cd.loop (α := Nat × Nat × Option Addr × Nat × List Int × List Int) (fun s => [(2, .pointer A2), (6, .pointer A6), (7, .slice s.2.2.1 s.2.2.2.2.1.length s.2.2.2.1), (8, .slice A8 x.m x.m), (10, .int .i64 (s.2.1 : Int))]) (fun s w' => St w4 w' [CkI 2 A8 x.m x.m s.2.2.2.2.2, CkI 2 s.2.2.1 s.2.2.2.2.1.length s.2.2.2.1 s.2.2.2.2.1] ∧ s.1 + s.2.1 = 100000 ∧ srchI x.p gens s.1 s.2.1 s.2.2.2.2.1 s.2.2.2.2.2 = some (ord1, num1)) (fun s => s.1) (100000, 0, A7, 1, [0], initL x.m x.m) ⟨rfl, rfl, rfl, rfl, rfl, trivial⟩ ⟨hT7, rfl, hsr⟩ ?_
 rintro ⟨k, i, A7, c7, ord, num⟩ e w8 ⟨hT8, hki, hsr⟩
 dsimp only at hT8 hki hsr ⊢
 obtain ⟨q, rfl⟩ : ∃ q, k = q + 1 := by cases k with | zero => cases hsr | succ q => exact ⟨q, rfl⟩
 rw [srchI] at hsr
 refine Cd.seq ?_
 refine Cd.seq ?_
 refine Cd.region ?_
 refine Ops.mv_int rfl rfl rfl ?_
 refine Ops.mv_sl rfl rfl rfl ?_
 refine Ops.len rfl rfl ?_
 refine Ops.lss rfl rfl rfl ?_
 refine Ops.nil ?_
 refine thenQ_n ?_
 refine Cd.cond_p _ rfl (fun h2 => ?_) (fun h2 => ?_)
 ·rw [if_pos (by omega)] at hsr
  split at hsr
  case h_1 => cases hsr
  rename_i o2 n2 hsg
  refine Cd.skip ?_
  refine thenQ_n ?_
  refine Cd.seq ?_
  refine Cd.block ?_
  refine Cd.seq ?_
  refine Cd.region ?_
  refine Ops.mv_int rfl rfl rfl ?_
  refine Ops.nil ?_
  refine thenQ_n ?_
  refine Cd.block ?_
  refine Cd.loop (α := Nat × Nat × Option Addr × Nat × List Int × List Int) (fun s => [(2, .pointer A2), (6, .pointer A6), (7, .slice s.2.2.1 s.2.2.2.2.1.length s.2.2.2.1), (8, .slice A8 x.m x.m), (10, .int .i64 (i : Int)), (11, .int .i64 (s.2.1 : Int))]) (fun s w' => St w4 w' [CkI 2 A8 x.m x.m s.2.2.2.2.2, CkI 2 s.2.2.1 s.2.2.2.2.1.length s.2.2.2.1 s.2.2.2.2.1] ∧ s.1 + s.2.1 = 100 ∧ i < s.2.2.2.2.1.length ∧ gi s.2.2.2.2.1 (i : Int) = gi ord (i : Int) ∧ srchG x.p (gi ord (i : Int)) gens s.1 s.2.1 s.2.2.2.2.1 s.2.2.2.2.2 = some (o2, n2)) (fun s => s.1) (100, 0, A7, c7, ord, num) ⟨rfl, rfl, rfl, rfl, rfl, rfl, trivial⟩ ⟨hT8, rfl, by show i < ord.length; omega, rfl, hsg⟩ ?_
  rintro ⟨kk, g, A7, c7, ord', num⟩ e w9 ⟨hT9, hkg, hio, hgo, hsg⟩
  dsimp only at hT9 hkg hio hgo hsg ⊢
  obtain ⟨r, rfl⟩ : ∃ q, kk = q + 1 := by cases kk with | zero => cases hsg | succ q => exact ⟨q, rfl⟩
  rw [srchG] at hsg
  have hB29 := Rd.below hB2 hT9.below
  have hB69 := Rd.below hB6 hT9.below
  have hI9 := hT9.oldRows hI
  have hL9 := hT9.oldI hL
  have hO9 := hT9.rdI 1 rfl
  have hN9 := hT9.rdI 0 rfl
  have hnl : num.length = x.m := hN9.1
  refine Cd.seq ?_
  refine Cd.seq ?_
  refine Cd.region ?_
  refine Ops.mv_int rfl rfl rfl ?_
  refine Ops.fld hB29 rfl rfl rfl rfl inferInstance ?_
  refine Ops.ldf_i hB29 rfl rfl rfl rfl rfl ?_
  refine Ops.lss rfl rfl rfl ?_
  refine Ops.nil ?_
  refine thenQ_n ?_
  refine Cd.cond_p _ rfl (fun h3 => ?_) (fun h3 => ?_)
  ·rw [if_pos (by omega)] at hsg
   split at hsg
   case h_1 => cases hsg
   rename_i d hd
   split at hsg
   case isFalse => cases hsg
   rename_i hdb
   rw [← hgo] at hd
   refine Cd.skip ?_
   refine thenQ_n ?_
   refine Cd.seq ?_
   refine Cd.block ?_
   refine Cd.seq ?_
   refine Cd.draw [.ex (.agg #[.slice (x.A) (x.n) (x.c), .slice (x.B) (x.m) (x.cB), .bool (false)]), .ex (.slice (A7) (ord'.length) (c7)), .ex (.int .i64 ((i : Int))), .ex (.pointer (ptrAt (A7) ((i : Int)).toNat)), .ex (.int .i64 (gi (ord') ((i : Int)))), .ex (.int .i64 ((g : Int))), .ex (.int .i64 (d)), .ex (.int .i64 (d))] (by kernel_rfl) (by kernel_rfl) rfl (List.forall_mem_cons.2 ⟨Yd.lasts_ex _, (List.forall_mem_cons.2 ⟨Yd.lasts_ex _, (List.forall_mem_cons.2 ⟨Yd.lasts_ex _, (List.forall_mem_cons.2 ⟨Yd.lasts_ex _, (List.forall_mem_cons.2 ⟨Yd.lasts_ex _, (List.forall_mem_cons.2 ⟨Yd.lasts_ex _, (List.forall_mem_cons.2 ⟨Yd.lasts_ex _, (List.forall_mem_cons.2 ⟨Yd.lasts_ex _, (fun _ h => by cases h)⟩)⟩)⟩)⟩)⟩)⟩)⟩)⟩) ⟨?_, ?_, ?_, ?_, ?_, ?_, ?_, ?_, trivial⟩ ?_
   ·intro e1 w1 hb hp hun
    refine Ops.ld_agg 2 (hB69.below hb) rfl rfl rfl ?_
    refine Ops.nil ?_
    exact After.dn (Below.refl _ _) (by exact rfl)
   ·intro e1 w1 hb hp hun
    refine Ops.mv_sl rfl rfl rfl ?_
    refine Ops.nil ?_
    exact After.dn (Below.refl _ _) (by exact rfl)
   ·intro e1 w1 hb hp hun
    refine Ops.mv_int rfl rfl rfl ?_
    refine Ops.nil ?_
    exact After.dn (Below.refl _ _) (by exact rfl)
   ·intro e1 w1 hb hp hun
    refine Ops.idx (hO9.later hb).2 rfl rfl rfl (by omega) (by omega) ?_
    refine Ops.nil ?_
    exact After.dn (Below.refl _ _) (by exact rfl)
   ·intro e1 w1 hb hp hun
    refine Ops.ld_int (hO9.later hb) rfl (by omega) rfl rfl ?_
    refine Ops.nil ?_
    exact After.dn (Below.refl _ _) (by exact rfl)
   ·intro e1 w1 hb hp hun
    refine Ops.mv_int rfl rfl rfl ?_
    refine Ops.nil ?_
    exact After.dn (Below.refl _ _) (by exact rfl)
   ·intro e1 w1 hb hp hun
    refine Ops.call (l11Image_c x.rs x.im x.ls _ (g : Int) d _ (hI9.later hb) (hL9.later hb) hd) rfl rfl rfl ?_
    rintro _ w2 ⟨rfl, hst⟩
    refine Ops.nil ?_
    exact After.dn hst.below (by exact rfl)
   ·intro e1 w1 hb hp hun
    refine Ops.mv_int rfl rfl rfl ?_
    refine Ops.nil ?_
    exact After.dn (Below.refl _ _) (by exact rfl)
   intro u w10 hb10 _
   have hT10 := hT9.later hb10
   have hN10 := hT10.rdI 0 rfl
   refine thenQ_n ?_
   refine Cd.seq ?_
   refine Cd.region ?_
   refine Ops.mv_sl rfl rfl rfl ?_
   refine Ops.mv_int rfl rfl rfl ?_
   refine Ops.idx hN10.2 rfl rfl rfl (by omega) (by omega) ?_
   refine Ops.ld_int hN10 rfl (by omega) rfl rfl ?_
   refine Ops.lss rfl rfl rfl ?_
   refine Ops.nil ?_
   refine thenQ_n ?_
   refine Cd.cond_p _ rfl (fun h4 => ?_) (fun h4 => ?_)
   ·rw [if_pos h4] at hsg
    refine Cd.seq ?_
    refine Cd.region ?_
    refine Ops.mv_sl rfl rfl rfl ?_
    refine Ops.mv_int rfl rfl rfl ?_
    refine Ops.mv_sl rfl rfl rfl ?_
    refine Ops.len rfl rfl ?_
    refine Ops.idx hN10.2 rfl rfl rfl (by omega) (by omega) ?_
    refine Ops.st_int 0 hT10 rfl rfl rfl (by omega) ?_
    intro w11 hT11
    have hT11 : St w4 w11 [CkI 2 A8 x.m x.m (num.set d.toNat (ord'.length : Int)), CkI 2 A7 ord'.length c7 ord'] := hT11
    refine Ops.nil ?_
    refine thenQ_n ?_
    refine Cd.region ?_
    refine Ops.mv_sl rfl rfl rfl ?_
    refine Ops.mv_int rfl rfl rfl ?_
    refine Ops.bs1I hT11 rfl rfl rfl ?_
    intro A12 w12 hT12
    refine Ops.appI 2 hT12 rfl (hT12.rdI 0 rfl) rfl rfl rfl (by omega) (by omega) rfl ?_
    intro A13 c13 w13 hT13
    have hT13 : St w4 w13 [CkI 2 A8 x.m x.m (num.set d.toNat (ord'.length : Int)), CkI 2 A13 (ord'.length + 1) c13 (ord' ++ [d])] := hT13.tail
    refine Ops.mv_sl rfl rfl rfl ?_
    refine Ops.nil ?_
    refine blockQ_n ?_
    refine thenQ_n ?_
    refine Cd.region ?_
    refine Ops.mv_int rfl rfl rfl ?_
    refine Ops.add rfl rfl rfl (by omega) ?_
    refine Ops.mv_int rfl rfl rfl ?_
    refine Ops.nil ?_
    refine thenQ_n ?_
    refine ⟨(r, g + 1, A13, c13, ord' ++ [d], num.set d.toNat (ord'.length : Int)), Nat.lt_succ_self r, ⟨rfl, rfl, by show Value.slice _ _ _ = .slice _ _ _; rw [List.length_append]; rfl, rfl, rfl, rfl, trivial⟩, by dsimp only; rw [List.length_append]; exact hT13, by show r + (g + 1) = 100; omega, by show i < (ord' ++ [d]).length; rw [List.length_append]; omega, ?_, hsg⟩
    show gi (ord' ++ [d]) (i : Int) = _
    rw [← hgo, gi_mem (by rw [List.length_append]; omega), gi_mem hio, List.getElem_append_left hio]
   ·rw [if_neg h4] at hsg
    refine Cd.skip ?_
    refine blockQ_n ?_
    refine thenQ_n ?_
    refine Cd.region ?_
    refine Ops.mv_int rfl rfl rfl ?_
    refine Ops.add rfl rfl rfl (by omega) ?_
    refine Ops.mv_int rfl rfl rfl ?_
    refine Ops.nil ?_
    refine thenQ_n ?_
    exact ⟨(r, g + 1, A7, c7, ord', num), Nat.lt_succ_self r, ⟨rfl, rfl, rfl, rfl, rfl, rfl, trivial⟩, hT10, by show r + (g + 1) = 100; omega, hio, hgo, hsg⟩
  ·rw [if_neg (by omega)] at hsg
   have hsg := Option.some.inj hsg
   simp only [Prod.mk.injEq] at hsg
   obtain ⟨rfl, rfl⟩ := hsg
   refine Cd.exit ?_
   refine thenQ_x ?_
   refine thenQ_x ?_
   refine blockQ_x ?_
   refine blockQ_n ?_
   refine thenQ_n ?_
   refine Cd.region ?_
   refine Ops.mv_int rfl rfl rfl ?_
   refine Ops.add rfl rfl rfl (by omega) ?_
   refine Ops.mv_int rfl rfl rfl ?_
   refine Ops.nil ?_
   refine thenQ_n ?_
   exact ⟨(q, i + 1, A7, c7, ord', num), Nat.lt_succ_self q, ⟨rfl, rfl, rfl, rfl, rfl, trivial⟩, hT9, by show q + (i + 1) = 100000; omega, hsr⟩
 rw [if_neg (by omega)] at hsr
 have hsr := Option.some.inj hsr
 simp only [Prod.mk.injEq] at hsr
 obtain ⟨rfl, rfl⟩ := hsr
 have hN8 := hT8.rdI 0 rfl
 have hnl : num.length = x.m := hN8.1
 refine Cd.exit ?_
 refine thenQ_x ?_
 refine thenQ_x ?_
 refine blockQ_x ?_
 refine thenQ_n ?_
 refine Cd.seq ?_
 refine Cd.region ?_
 refine Ops.bs0 hT8 rfl ?_
 intro A13 w9 hT9
 have hT9 : St w4 w9 (mat 34 2 A13 0 0 [] [] ++ [CkI 2 A8 x.m x.m num, CkI 2 A7 ord.length c7 ord]) := hT9
 have hol2 : ord.length ≤ 1000000 := hol
 refine Ops.mv_sl rfl rfl rfl ?_
 refine Ops.nil ?_
 refine thenQ_n ?_
 refine Cd.seq ?_
 refine Cd.seq ?_
 refine Cd.region ?_
 refine Ops.mv_int rfl rfl rfl ?_
 refine Ops.nil ?_
 refine thenQ_n ?_
 refine Cd.block ?_
 refine Cd.loop (α := Nat × Nat × Option Addr × Nat × List SlV × List (List Int)) (fun s => [(2, .pointer A2), (6, .pointer A6), (7, .slice A7 ord.length c7), (8, .slice A8 x.m x.m), (13, .slice s.2.2.1 s.2.1 s.2.2.2.1), (14, .int .i64 (s.2.1 : Int))]) (fun s w' => St w4 w' (mat 34 2 s.2.2.1 s.2.1 s.2.2.2.1 s.2.2.2.2.1 s.2.2.2.2.2 ++ [CkI 2 A8 x.m x.m num, CkI 2 A7 ord.length c7 ord]) ∧ s.1 + s.2.1 = 100 ∧ s.2.2.2.2.1.length = s.2.1 ∧ s.2.2.2.2.2.length = s.2.1 ∧ ∃ l, outP x.p num ord gens s.1 s.2.1 = some l ∧ s.2.2.2.2.2 ++ l = T) (fun s => s.1) (100, 0, A13, 0, [], []) ⟨rfl, rfl, rfl, rfl, rfl, rfl, trivial⟩ ⟨hT9, rfl, rfl, rfl, T, hp, rfl⟩ ?_
 rintro ⟨k, g, B, cB, rs, xss⟩ e w10 ⟨hT10, hkg, hrl, hxl, l, hout, happ⟩
 dsimp only at hT10 hkg hrl hxl hout happ ⊢
 obtain ⟨q, rfl⟩ : ∃ q, k = q + 1 := by cases k with | zero => cases hout | succ q => exact ⟨q, rfl⟩
 rw [outP] at hout
 have hB210 := Rd.below hB2 hT10.below
 refine Cd.seq ?_
 refine Cd.seq ?_
 refine Cd.region ?_
 refine Ops.mv_int rfl rfl rfl ?_
 refine Ops.fld hB210 rfl rfl rfl rfl inferInstance ?_
 refine Ops.ldf_i hB210 rfl rfl rfl rfl rfl ?_
 refine Ops.lss rfl rfl rfl ?_
 refine Ops.nil ?_
 refine thenQ_n ?_
 refine Cd.cond_p _ rfl (fun h5 => ?_) (fun h5 => ?_)
 ·rw [if_pos (by omega)] at hout
  split at hout
  case h_1 => cases hout
  rename_i row hrow
  split at hout
  case h_1 => cases hout
  rename_i l2 hout2
  obtain rfl := Option.some.inj hout
  refine Cd.skip ?_
  refine thenQ_n ?_
  refine Cd.seq ?_
  refine Cd.block ?_
  refine Cd.seq ?_
  refine Cd.region ?_
  refine Ops.bs0 hT10 rfl ?_
  intro A15 w11 hT11
  refine Ops.mv_sl rfl rfl rfl ?_
  refine Ops.nil ?_
  refine thenQ_n ?_
  refine Cd.seq ?_
  refine Cd.seq ?_
  refine Cd.region ?_
  refine Ops.mv_int rfl rfl rfl ?_
  refine Ops.nil ?_
  refine thenQ_n ?_
  refine Cd.block ?_
  refine Cd.loop (α := Nat × Option Addr × Nat × List Int) (fun s => [(2, .pointer A2), (6, .pointer A6), (7, .slice A7 ord.length c7), (8, .slice A8 x.m x.m), (13, .slice B g cB), (14, .int .i64 (g : Int)), (15, .slice s.2.1 s.1 s.2.2.1), (16, .int .i64 (s.1 : Int))]) (fun s w' => St w4 w' (CkI 2 s.2.1 s.1 s.2.2.1 s.2.2.2 :: (mat 34 2 B g cB rs xss ++ [CkI 2 A8 x.m x.m num, CkI 2 A7 ord.length c7 ord])) ∧ s.1 ≤ ord.length ∧ s.2.2.2.length = s.1 ∧ ∃ l, rowP x.p num g (ord.drop s.1) = some l ∧ s.2.2.2 ++ l = row) (fun s => ord.length - s.1) (0, A15, 0, []) ⟨rfl, rfl, rfl, rfl, rfl, rfl, rfl, rfl, trivial⟩ ⟨hT11, Nat.zero_le _, rfl, row, hrow, rfl⟩ ?_
  rintro ⟨j, A15, c15, acc⟩ e w12 ⟨hT12, hj, hal, l3, hl3, hal3⟩
  dsimp only at hT12 hj hal hl3 hal3 ⊢
  refine Cd.seq ?_
  refine Cd.seq ?_
  refine Cd.region ?_
  refine Ops.mv_int rfl rfl rfl ?_
  refine Ops.mv_sl rfl rfl rfl ?_
  refine Ops.len rfl rfl ?_
  refine Ops.lss rfl rfl rfl ?_
  refine Ops.nil ?_
  refine thenQ_n ?_
  refine Cd.cond_p _ rfl (fun h6 => ?_) (fun h6 => ?_)
  ·have hjo : j < ord.length := by omega
   rw [List.drop_eq_getElem_cons hjo, ← gi_mem hjo] at hl3
   simp only [rowP] at hl3
   split at hl3
   case h_1 => cases hl3
   rename_i d hd
   split at hl3
   case isFalse => cases hl3
   rename_i hdb
   split at hl3
   case h_1 => cases hl3
   rename_i l4 hl4
   obtain rfl := Option.some.inj hl3
   have hB612 := Rd.below hB6 hT12.below
   have hI12 := hT12.oldRows hI
   have hL12 := hT12.oldI hL
   have hS12 : St w4 w12 ([CkI 2 A8 x.m x.m num, CkI 2 A7 ord.length c7 ord] ++ (CkI 2 A15 j c15 acc :: mat 34 2 B g cB rs xss)) := hT12.perm (List.perm_append_comm (l₁ := CkI 2 A15 j c15 acc :: mat 34 2 B g cB rs xss))
   have hO12 := hS12.rdI 1 rfl
   have hN12 := hS12.rdI 0 rfl
   refine Cd.skip ?_
   refine thenQ_n ?_
   refine Cd.seq ?_
   refine Cd.block ?_
   refine Cd.drawN [12] [.ex (.slice (A15) (j) (c15)), .ex (.slice (A8) (x.m) (x.m)), .ex (.agg #[.slice (x.A) (x.n) (x.c), .slice (x.B) (x.m) (x.cB), .bool (false)]), .ex (.slice (A7) (ord.length) (c7)), .ex (.int .i64 ((j : Int))), .ex (.pointer (ptrAt (A7) ((j : Int)).toNat)), .ex (.int .i64 (gi (ord) ((j : Int)))), .ex (.int .i64 ((g : Int))), .ex (.int .i64 (d)), .ex (.pointer (ptrAt (A8) (d).toNat)), .ex (.int .i64 (gi (num) (d))), .pr (fun v w' => ∃ A20, v = .slice A20 1 1 ∧ St w4 w' (CkI 2 A20 1 1 [gi num d] :: CkI 2 A15 j c15 acc :: (mat 34 2 B g cB rs xss ++ [CkI 2 A8 x.m x.m num, CkI 2 A7 ord.length c7 ord]))), .pr (fun v w' => ∃ A21 c21, v = .slice A21 (j + 1) c21 ∧ St w4 w' (CkI 2 A21 (j + 1) c21 (acc ++ [gi num d]) :: (mat 34 2 B g cB rs xss ++ [CkI 2 A8 x.m x.m num, CkI 2 A7 ord.length c7 ord]))), .pr (fun v w' => ∃ A21 c21, v = .slice A21 (j + 1) c21 ∧ St w4 w' (CkI 2 A21 (j + 1) c21 (acc ++ [gi num d]) :: (mat 34 2 B g cB rs xss ++ [CkI 2 A8 x.m x.m num, CkI 2 A7 ord.length c7 ord])))] (by kernel_rfl) (by kernel_rfl) (List.forall_mem_cons.2 ⟨Yd.lasts_ex _, (List.forall_mem_cons.2 ⟨Yd.lasts_ex _, (List.forall_mem_cons.2 ⟨Yd.lasts_ex _, (List.forall_mem_cons.2 ⟨Yd.lasts_ex _, (List.forall_mem_cons.2 ⟨Yd.lasts_ex _, (List.forall_mem_cons.2 ⟨Yd.lasts_ex _, (List.forall_mem_cons.2 ⟨Yd.lasts_ex _, (List.forall_mem_cons.2 ⟨Yd.lasts_ex _, (List.forall_mem_cons.2 ⟨Yd.lasts_ex _, (List.forall_mem_cons.2 ⟨Yd.lasts_ex _, (List.forall_mem_cons.2 ⟨Yd.lasts_ex _, (List.forall_mem_cons.2 ⟨Yd.lasts_pr (fun v w w' h hb => by obtain ⟨A20, hv, h1⟩ := h; exact ⟨A20, hv, h1.later hb⟩), (List.forall_mem_cons.2 ⟨Yd.lasts_pr (fun v w w' h hb => by obtain ⟨A21, c21, hv, h1⟩ := h; exact ⟨A21, c21, hv, h1.later hb⟩), (List.forall_mem_cons.2 ⟨Yd.lasts_pr (fun v w w' h hb => by obtain ⟨A21, c21, hv, h1⟩ := h; exact ⟨A21, c21, hv, h1.later hb⟩), (fun _ h => by cases h)⟩)⟩)⟩)⟩)⟩)⟩)⟩)⟩)⟩)⟩)⟩)⟩)⟩)⟩) ⟨?_, ?_, ?_, ?_, ?_, ?_, ?_, ?_, ?_, ?_, ?_, ?_, ?_, ?_, trivial⟩ ?_
   ·intro e1 w1 cc hlo hhi hb0 hp hun hq
    show Ops _ _ _ _ _ _ _
    replace hlo := le_of_lo hlo (b := 0) (by kernel_rfl)
    replace hhi := le_of_hi hhi (b := 0) (by kernel_rfl)
    obtain rfl : cc = 0 := by omega
    have hb := hb0 rfl
    refine Ops.mv_sl rfl (by exact hun 13 _ rfl (by kernel_rfl)) rfl ?_
    refine Ops.nil ?_
    exact AfterN.dn rfl (Below.refl _ _) (by exact rfl)
   ·intro e1 w1 cc hlo hhi hb0 hp hun hq
    show Ops _ _ _ _ _ _ _
    refine Ops.mv_sl rfl rfl rfl ?_
    refine Ops.nil ?_
    exact AfterN.dn rfl (Below.refl _ _) (by exact rfl)
   ·intro e1 w1 cc hlo hhi hb0 hp hun hq
    show Ops _ _ _ _ _ _ _
    replace hlo := le_of_lo hlo (b := 0) (by kernel_rfl)
    replace hhi := le_of_hi hhi (b := 0) (by kernel_rfl)
    obtain rfl : cc = 0 := by omega
    have hb := hb0 rfl
    refine Ops.ld_agg 2 (hB612.below hb) rfl rfl rfl ?_
    refine Ops.nil ?_
    exact AfterN.dn rfl (Below.refl _ _) (by exact rfl)
   ·intro e1 w1 cc hlo hhi hb0 hp hun hq
    show Ops _ _ _ _ _ _ _
    refine Ops.mv_sl rfl rfl rfl ?_
    refine Ops.nil ?_
    exact AfterN.dn rfl (Below.refl _ _) (by exact rfl)
   ·intro e1 w1 cc hlo hhi hb0 hp hun hq
    show Ops _ _ _ _ _ _ _
    refine Ops.mv_int rfl rfl rfl ?_
    refine Ops.nil ?_
    exact AfterN.dn rfl (Below.refl _ _) (by exact rfl)
   ·intro e1 w1 cc hlo hhi hb0 hp hun hq
    show Ops _ _ _ _ _ _ _
    replace hlo := le_of_lo hlo (b := 0) (by kernel_rfl)
    replace hhi := le_of_hi hhi (b := 0) (by kernel_rfl)
    obtain rfl : cc = 0 := by omega
    have hb := hb0 rfl
    refine Ops.idx (hO12.later hb).2 rfl rfl rfl (by omega) (by omega) ?_
    refine Ops.nil ?_
    exact AfterN.dn rfl (Below.refl _ _) (by exact rfl)
   ·intro e1 w1 cc hlo hhi hb0 hp hun hq
    show Ops _ _ _ _ _ _ _
    replace hlo := le_of_lo hlo (b := 0) (by kernel_rfl)
    replace hhi := le_of_hi hhi (b := 0) (by kernel_rfl)
    obtain rfl : cc = 0 := by omega
    have hb := hb0 rfl
    refine Ops.ld_int (hO12.later hb) rfl (by omega) rfl rfl ?_
    refine Ops.nil ?_
    exact AfterN.dn rfl (Below.refl _ _) (by exact rfl)
   ·intro e1 w1 cc hlo hhi hb0 hp hun hq
    show Ops _ _ _ _ _ _ _
    refine Ops.mv_int rfl rfl rfl ?_
    refine Ops.nil ?_
    exact AfterN.dn rfl (Below.refl _ _) (by exact rfl)
   ·intro e1 w1 cc hlo hhi hb0 hp hun hq
    show Ops _ _ _ _ _ _ _
    replace hlo := le_of_lo hlo (b := 0) (by kernel_rfl)
    replace hhi := le_of_hi hhi (b := 0) (by kernel_rfl)
    obtain rfl : cc = 0 := by omega
    have hb := hb0 rfl
    refine Ops.call (l11Image_c x.rs x.im x.ls _ (g : Int) d _ (hI12.later hb) (hL12.later hb) hd) rfl rfl rfl ?_
    rintro _ w2 ⟨rfl, hst⟩
    refine Ops.nil ?_
    exact AfterN.dn rfl hst.below (by exact rfl)
   ·intro e1 w1 cc hlo hhi hb0 hp hun hq
    show Ops _ _ _ _ _ _ _
    replace hlo := le_of_lo hlo (b := 0) (by kernel_rfl)
    replace hhi := le_of_hi hhi (b := 0) (by kernel_rfl)
    obtain rfl : cc = 0 := by omega
    have hb := hb0 rfl
    refine Ops.idx (hN12.later hb).2 rfl rfl rfl (by omega) (by omega) ?_
    refine Ops.nil ?_
    exact AfterN.dn rfl (Below.refl _ _) (by exact rfl)
   ·intro e1 w1 cc hlo hhi hb0 hp hun hq
    show Ops _ _ _ _ _ _ _
    replace hlo := le_of_lo hlo (b := 0) (by kernel_rfl)
    replace hhi := le_of_hi hhi (b := 0) (by kernel_rfl)
    obtain rfl : cc = 0 := by omega
    have hb := hb0 rfl
    refine Ops.ld_int (hN12.later hb) rfl (by omega) rfl rfl ?_
    refine Ops.nil ?_
    exact AfterN.dn rfl (Below.refl _ _) (by exact rfl)
   ·intro e1 w1 cc hlo hhi hb0 hp hun hq
    show Ops _ _ _ _ _ _ _
    replace hlo := le_of_lo hlo (b := 0) (by kernel_rfl)
    replace hhi := le_of_hi hhi (b := 0) (by kernel_rfl)
    obtain rfl : cc = 0 := by omega
    have hb := hb0 rfl
    refine Ops.bs1I (St.refl _) rfl rfl rfl ?_
    intro A20 w20 hst20
    refine Ops.nil ?_
    exact AfterN.dn rfl hst20.below ⟨A20, rfl, (hT12.later hb).call hst20⟩
   ·intro e1 w1 cc hlo hhi hb0 hp hun hq
    show Ops _ _ _ _ _ _ _
    replace hlo := le_of_lo hlo (b := 0) (by kernel_rfl)
    replace hhi := le_of_hi hhi (b := 0) (by kernel_rfl)
    obtain rfl : cc = 0 := by omega
    have hb := hb0 rfl
    obtain ⟨A20, hv, h1⟩ := (hp 11 _ _ (by kernel_rfl) rfl rfl (by kernel_rfl))
    refine Ops.appI 1 h1 rfl (h1.rdI 0 rfl) rfl (by exact hv) rfl (by omega) (by omega) rfl ?_
    intro A21 c21 w21 hT21
    refine Ops.nil ?_
    exact AfterT.dn rfl ⟨A21, c21, rfl, hT21.tail⟩
   ·intro e1 w1 cc hlo hhi hb0 hp hun hq
    show Ops _ _ _ _ _ _ _
    replace hlo := le_of_lo hlo (b := 1) (by kernel_rfl)
    replace hhi := le_of_hi hhi (b := 1) (by kernel_rfl)
    obtain rfl : cc = 1 := by omega
    have hph := hp 12 _ _ (by kernel_rfl) rfl rfl (by kernel_rfl)
    obtain ⟨A21, c21, hv, h1⟩ := (hp 12 _ _ (by kernel_rfl) rfl rfl (by kernel_rfl))
    refine Ops.mv_sl rfl (by exact hv) rfl ?_
    refine Ops.nil ?_
    exact AfterN.dn rfl (Below.refl _ _) ⟨A21, c21, rfl, h1⟩
   intro u w13 _ hu
   obtain ⟨A21, c21, hv, hT13⟩ := hu 13 _ rfl (by kernel_rfl)
   refine blockQ_n ?_
   refine thenQ_n ?_
   refine Cd.region ?_
   refine Ops.mv_int rfl rfl rfl ?_
   refine Ops.add rfl rfl rfl (by omega) ?_
   refine Ops.mv_int rfl rfl rfl ?_
   refine Ops.nil ?_
   refine thenQ_n ?_
   exact ⟨(j + 1, A21, c21, acc ++ [gi num d]), by omega, ⟨rfl, rfl, rfl, rfl, rfl, rfl, hv, rfl, trivial⟩, hT13, by show j + 1 ≤ ord.length; omega, by show (acc ++ [gi num d]).length = j + 1; rw [List.length_append, hal]; rfl, l4, hl4, by show (acc ++ [gi num d]) ++ l4 = row; rw [← hal3, List.append_assoc]; rfl⟩
  ·have hjl : j = ord.length := by omega
   rw [List.drop_eq_nil_of_le (by omega)] at hl3
   obtain rfl := Option.some.inj hl3
   rw [List.append_nil] at hal3
   subst hal3
   refine Cd.exit ?_
   refine thenQ_x ?_
   refine thenQ_x ?_
   refine blockQ_x ?_
   refine thenQ_n ?_
   refine Cd.region ?_
   refine Ops.mv_sl rfl rfl rfl ?_
   refine Ops.mv_sl rfl rfl rfl ?_
   refine Ops.bs1R hT12 rfl rfl rfl ?_
   intro A22 w13 hT13
   refine Ops.appR 2 hT13 rfl (hT13.rdR 0 rfl) rfl rfl rfl (by omega) (by omega) rfl ?_
   intro A23 c23 w14 hT14
   have hT14 : St w4 w14 (CkI 2 A15 j c15 acc :: CkR 34 A23 (g + 1) c23 (rs ++ [⟨A15, j, c15⟩]) :: (rowsCk 2 rs xss ++ [CkI 2 A8 x.m x.m num, CkI 2 A7 ord.length c7 ord])) := hT14.tail
   refine Ops.mv_sl rfl rfl rfl ?_
   refine Ops.nil ?_
   refine blockQ_n ?_
   refine thenQ_n ?_
   refine Cd.region ?_
   refine Ops.mv_int rfl rfl rfl ?_
   refine Ops.add rfl rfl rfl (by omega) ?_
   refine Ops.mv_int rfl rfl rfl ?_
   refine Ops.nil ?_
   refine thenQ_n ?_
   refine ⟨(q, g + 1, A23, c23, rs ++ [⟨A15, j, c15⟩], xss ++ [acc]), Nat.lt_succ_self q, ⟨rfl, rfl, rfl, rfl, rfl, rfl, trivial⟩, ?_, by show q + (g + 1) = 100; omega, by simp [hrl], by simp [hxl], l2, hout2, by show (xss ++ [acc]) ++ l2 = T; rw [← happ, List.append_assoc]; rfl⟩
   show St w4 w14 (CkR 34 A23 (g + 1) c23 (rs ++ [⟨A15, j, c15⟩]) :: (rowsCk 2 (rs ++ [⟨A15, j, c15⟩]) (xss ++ [acc]) ++ [CkI 2 A8 x.m x.m num, CkI 2 A7 ord.length c7 ord]))
   rw [rowsCk_append (by omega), List.append_assoc]
   refine hT14.perm ?_
   refine (List.Perm.swap _ _ _).trans (List.Perm.cons _ ?_)
   exact List.perm_middle.symm
 ·rw [if_neg (by omega)] at hout
  obtain rfl := Option.some.inj hout
  rw [List.append_nil] at happ
  subst happ
  refine Cd.exit ?_
  refine thenQ_x ?_
  refine thenQ_x ?_
  refine blockQ_x ?_
  refine thenQ_n ?_
  refine Cd.seq ?_
  refine Cd.region ?_
  refine Ops.mv_sl rfl rfl rfl ?_
  refine Ops.mv_sl rfl rfl rfl ?_
  refine Ops.mv_bool rfl rfl rfl ?_
  refine Ops.nil ?_
  refine thenQ_n ?_
  refine Cd.ret ?_
  refine ret2_sb rfl rfl ?_
  refine ⟨B, cB, rs, by rw [hxl], by omega, ?_⟩
  have h9 : St w4 w10 (mat 34 2 B g cB rs xss) := hT10.sub (List.sublist_append_left _ _)
  have h10 := hS4.call h9
  rw [hxl]
  exact h10.sub (List.sublist_append_left _ _)
end Go.Proofs.YtjpkmpihmilgoaaGreat.Vc
