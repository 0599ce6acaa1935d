/-
  The texts Srt, C3, C4, C5, C6, Uti, D1 in one. Conditions: as each part states them.
-/
import Derived.Test.YtopgfgdgfjddpaaGreatDoorLay
import Derived.Shelf.SortM.Plain
import Derived.Test.YtopgfgdgfjddpaaGreatDoorZc
import Derived.Test.YtopgfgdgfjddpaaGreatDoorInst
import Derived.Test.YtopgfgdgfjddpaaGreatDoorZb
/-
 The library's sort of a list of one's own. Conditions: the list has an element.
-/
namespace Go.Proofs.YtopgfgdgfjddpaaGreatDoor.Vc
open Go.RowKit Go.Sort
theorem heap_srt {w : World} {g n off : Nat} {os : Array Obj} {cur : Array Value} {e : TypeId} {fr : Nat × Nat} (d : Array Int) (hb : w.heap[g]? = some (.cells cur e fr)) : (Go.Sort.grow (putRow (Value.int .i64) (Sort.ahead w n) g off d) os).heap[g]? = some (.cells (putCells (Value.int .i64) off d cur) e fr) := by
 have hg : g < w.heap.size := (Array.getElem?_eq_some_iff.1 hb).1
 rw [heap_grow_old _ _ (by simpa using hg)]
 simp [putRow, mapBlock, Sort.ahead, Array.getElem?_modify, hb, onCells]
theorem grownBy_srt {w : World} {g n off : Nat} {os : Array Obj} (d : Array Int) : GrB w (Go.Sort.grow (putRow (Value.int .i64) (Sort.ahead w n) g off d) os) (some g) := by
 refine ⟨⟨O, O, O, by simp, fun k hk hne => ?_⟩, Nat.le_add_right _ _⟩
 rw [heap_grow_old _ _ (by simpa using hk)]
 have : g ≠ k := fun e => hne (by rw [e])
 simp [putRow, mapBlock, Sort.ahead, Array.getElem?_modify, this]
theorem sort_c {w0 w : World} {ks : List Ck} (i : Nat) {t : TypeId} {A : Option Addr} {n c : Nat} {xs : List Int} (hS : St w0 w ks) (hk : ks[i]? = some (CkI t A n c xs)) (h0 : 0 < n) (hn : n ≤ 1000000000) :
  Ret Tryz.prog 159 [.slice A n c] w (fun v w' => v = .tuple #[] ∧ St w0 w' (ks.set i (CkI t A n c (srt xs)))) := by
 obtain ⟨h1, h2, h3, h4⟩ := hS.getC hk (isM_I _)
 have hl : xs.length = n := hS.lenI i hk
 have h2 : n ≤ c := h2
 rcases h4 with ⟨_, hc0⟩ | ⟨g, o, cur, hA, hg, hh, hs, hc⟩
 ·have hc0 : c = 0 := hc0
  omega
 have hA : A = some ⟨g, o, none⟩ := hA
 have hs : o + c ≤ cur.size := hs
 have hc : ∀ j, j < n → cur[o + j]? = (xs.map (Value.int .i64))[j]? := hc
 subst hA
 subst hl
 have hH : Holds (Value.int .i64) w g o xs.toArray := fun j hj => by
  have hj' : j < xs.length := by simpa using hj
  refine ⟨?_, by simp [World.frozen?, hh]⟩
  simp only [World.cell?, hh]
  simp only [Option.isSome_none, Bool.false_eq_true, if_false]
  rw [hc j hj']
  simp [hj']
 have hlt : g < w.heap.size := (Array.getElem?_eq_some_iff.1 hh).1
 have key := AnyM.slices_Sort_int lsort g o c xs w hH hlt (by omega)
 refine Calls.mono key fun x w' ⟨hx, m, os, hw⟩ => ⟨_, hx, O, ?_⟩
 subst hw
 have hsl : (srt xs).length = xs.length := (srt_perm xs).length_eq
 refine hS.turn hk O O (grownBy_srt _) (.ofC (isM_I _) ⟨by simp [hsl], h2, h3, .inr ⟨g, o, _, O, hg, heap_srt _ hh, by simp only [putCells, Array.size_mapIdx]; exact hs, fun j hj => ?_⟩⟩)
 have hj : j < xs.length := hj
 show (putCells (Value.int .i64) o (srt xs).toArray cur)[o + j]? = ((srt xs).map (Value.int .i64))[j]?
 have hlt2 : o + j < cur.size := by have : xs.length ≤ c := h2; omega
 simp [putCells, hlt2, hsl, hj]
end Go.Proofs.YtopgfgdgfjddpaaGreatDoor.Vc
/-
 The walks of the program's permutations that words do, and of their cycles.
-/
namespace Go.Proofs.YtopgfgdgfjddpaaGreatDoor.Vc
open Go.RowKit
/-
 The walks of the program's lengths of a word.
-/
/-
 The walks of the lengths of cycles, and of the Petrie word's lengths on both sides.
-/
/-
 The walks of the laws' marks, which tell memory apart.
-/
theorem set_id {α : Type} {l : List α} {i : Nat} {x : α} (h : l[i]? = some x) : l.set i x = l := by
 apply List.ext_getElem?
 intro j
 rw [List.getElem?_set]
 split
 ·rename_i e; subst e
  rw [if_pos (List.getElem?_eq_some_iff.1 h).1, h]
 rfl
theorem Rd.one {w : World} {A : Option Addr} {n : Nat} {f : Nat → Value} (h : Rd w A (n + 1) f) : Rd w A 1 (fun _ => f 0) := fun j hj => by
 obtain rfl : j = 0 := by omega
 exact h 0 (by omega)
def marks (k : Int) (n : Nat) : List Int := (List.range n).map fun j : Nat => k + (j : Int)
/-
 Small rules and lemmas that several walks share.
-/
section
variable {P : Program} {N : Nat} {ops : Array Oper} {K : Env → World → Prop} {rest : List Oper} {e : Env} {w : World} {d : Nat} {ty : TypeId} {pos : String} {af : Array Edge}
theorem Ops.fn1 {F : FuncId} {x : Operand} {v1 : Value} (hx : ev e x = v1) (hb : Nat.blt d N = true) (hK : Ops P N ops K rest (upd e d (.func (.func F) #[] #[v1])) w) :
  Ops P N ops K (⟨some d, .makeFunc (.func F) #[] #[x], ty, pos, af, none⟩ :: rest) e w :=
 .val (by simp [execOp, Instr.makeFunc, hx]) hb hK
end
theorem gi_drop (l : List Int) (i : Nat) : gi (l.drop i) 0 = gi l (i : Int) := by simp [gi, List.getD_eq_getElem?_getD, List.getElem?_drop]
theorem St.cutl {w0 w : World} {ks : List Ck} {i : Nat} {t : TypeId} {A : Option Addr} {n c l : Nat} {xs : List Int} (hS : St w0 w ks) (hk : ks[i]? = some (CkI t A n c xs)) (hl : l ≤ n) : St w0 w (ks.set i (CkI t (cutAt A c l) (n - l) (c - l) (xs.drop l))) := by
 have hxl := hS.lenI i hk
 obtain ⟨h1, h2, h3, h4⟩ := hS.getC hk (isM_I _)
 have h2 : n ≤ c := h2
 have h3 : c ≤ maxLen := h3
 rcases h4 with ⟨hA, hc0⟩ | ⟨g, o, cur, hA, hg, hh, hs, hc⟩
 ·have hA : A = Option.none := hA
  have hc0 : c = 0 := hc0
  subst hA hc0
  obtain rfl : n = 0 := by omega
  obtain rfl : l = 0 := by omega
  obtain rfl := List.eq_nil_of_length_eq_zero hxl
  have e : cutAt Option.none 0 0 = Option.none := O
  rw [e]
  show St w0 w (ks.set i (CkI t Option.none 0 0 []))
  rw [set_id hk]
  exact hS
 have hA : A = some ⟨g, o, Option.none⟩ := hA
 have hs : o + c ≤ cur.size := hs
 have hh : w.heap[g]? = some (.cells cur t (0, 0)) := hh
 have hc : ∀ j, j < n → cur[o + j]? = (xs.map (Value.int .i64))[j]? := hc
 subst hA
 have hcut : ∃ o', cutAt (some ⟨g, o, Option.none⟩) c l = some ⟨g, o', Option.none⟩ ∧ o' + (c - l) ≤ cur.size ∧ (0 < n - l → o' = o + l) := by
  unfold cutAt
  split
  ·exact ⟨o, O, by omega, fun h => by omega⟩
  exact ⟨o + l, by simp [ptrAt, add_none], by omega, fun _ => O⟩
 obtain ⟨o', e1, e2, e3⟩ := hcut
 refine hS.turn hk O (by simp [Ck.blk, e1]) ⟨⟨O, O, O, Nat.le_refl _, fun _ _ _ => O⟩, Nat.le_refl _⟩ (.ofC (isM_I _) ⟨by simp [hxl], by show n - l ≤ c - l; omega, by show c - l ≤ maxLen; omega, .inr ⟨g, o', cur, e1, hg, hh, e2, fun j hj => ?_⟩⟩)
 have hj : j < n - l := hj
 show cur[o' + j]? = ((xs.drop l).map (Value.int .i64))[j]?
 rw [e3 (Nat.zero_lt_of_lt hj), Nat.add_assoc, hc (l + j) (Nat.add_lt_of_lt_sub' hj)]
 simp [List.getElem?_drop]
/-
 Faces: their numbers and lists, and the reference's walks of them.
-/
/-! labels: each lies below the count, and each below the count occurs -/
theorem lab_in {N : Nat} {xss : List (List Int)} (hs : Sys N xss) (hi' : Inj N xss) : ∀ i, i ≤ N → (∀ x : Int, 0 ≤ x → x < N → gi (lab N xss i).1 x = -1 ∨ (0 ≤ gi (lab N xss i).1 x ∧ gi (lab N xss i).1 x < (lab N xss i).2)) ∧ ∀ v : Int, 0 ≤ v → v < (lab N xss i).2 → ∃ x : Int, 0 ≤ x ∧ x < N ∧ gi (lab N xss i).1 x = v
 | 0, _ => ⟨fun x h0 h1 => .inl (by rw [show (lab N xss 0).1 = List.replicate N (-1) from rfl, gi_rep h0 h1]), fun v h0 h1 => by simp [lab] at h1; omega⟩
 | i + 1, hi => by
  obtain ⟨h1, h2⟩ := lab_in hs hi' i (by omega)
  by_cases hp : 0 ≤ gi (lab N xss i).1 i
  ·rw [lab_pos hp]; exact ⟨h1, h2⟩
  ·rw [lab_neg hp]
   obtain ⟨hg, hpre, hor⟩ := orbit_spec hs (pt := (i : Int)) (by omega) (by omega)
   have hc := (lab_count N xss i).1
   have hgp : ∀ x : Int, 0 ≤ x → gi (paint (lab N xss i).1 (lab N xss i).2 (orbit N xss i)) x = if x ∈ orbit N xss i then (lab N xss i).2 else gi (lab N xss i).1 x := fun x hx => gi_paint _ _ _ (lab_length N xss i) hg.range x hx
   have him : (i : Int) ∈ orbit N xss i := hpre.subset (by simp)
   refine ⟨fun x h0 hx => ?_, fun v h0 hv => ?_⟩
   ·rw [hgp x h0]
    dsimp only
    split
    ·exact .inr ⟨hc, by omega⟩
    ·rcases h1 x h0 hx with h | h
     ·exact .inl h
     ·exact .inr ⟨h.1, by omega⟩
   ·dsimp only at hv ⊢
    by_cases e : v = (lab N xss i).2
    ·exact ⟨i, by omega, by omega, by rw [hgp i (by omega), if_pos him, e]⟩
    ·obtain ⟨x, hx0, hx1, hx⟩ := h2 v h0 (by omega)
     refine ⟨x, hx0, hx1, ?_⟩
     rw [hgp x hx0, if_neg (fun hm => ?_), hx]
     -- what is painted was free
     obtain ⟨j, hj, hjx⟩ := (lab_mem hs i (by omega) x hx0 hx1).1 (by rw [hx]; exact h0)
     have hix := (hor x).1 hm
     exact hp ((lab_mem hs i (by omega) (i : Int) (by omega) (by omega)).2 ⟨j, hj, hjx.trans (Reach.symm hs hi' (by omega) (by omega) hix)⟩)
theorem lab_all {N : Nat} {xss : List (List Int)} (hs : Sys N xss) (hi' : Inj N xss) (x : Int) (h0 : 0 ≤ x) (h1 : x < N) : 0 ≤ gi (lab N xss N).1 x ∧ gi (lab N xss N).1 x < (lab N xss N).2 := by
 have := (lab_mem hs N (Nat.le_refl _) x h0 h1).2 ⟨x.toNat, by omega, by rw [Int.toNat_of_nonneg h0]; exact .refl⟩
 rcases (lab_in hs hi' N (Nat.le_refl _)).1 x h0 h1 with h | h
 ·omega
 exact h
def grt (xs : List Int) : Int := xs.foldl (fun o x => if o ≤ x then x + 1 else o) 0
theorem grt_snoc (xs : List Int) (x : Int) : grt (xs ++ [x]) = if grt xs ≤ x then x + 1 else grt xs := by
 unfold grt
 rw [List.foldl_append]
 rfl
theorem grt_spec : ∀ (m : Nat) (xs : List Int), xs.length = m → 0 ≤ grt xs ∧ (∀ x ∈ xs, x < grt xs) ∧ (grt xs = 0 ∨ ∃ x ∈ xs, grt xs = x + 1)
 | 0, xs, h => by
  obtain rfl := List.eq_nil_of_length_eq_zero h
  exact ⟨by simp [grt], (fun x hx => by cases hx), .inl rfl⟩
 | m + 1, xs, h => by
  obtain ⟨ys, y, rfl⟩ : ∃ ys y, xs = ys ++ [y] := ⟨xs.dropLast, xs.getLast (by intro e; rw [e] at h; simp at h), (List.dropLast_concat_getLast _).symm⟩
  obtain ⟨h1, h2, h3⟩ := grt_spec m ys (by simpa using h)
  rw [grt_snoc]
  split
  ·refine ⟨by omega, fun x hx => ?_, .inr ⟨y, by simp, O⟩⟩
   rcases List.mem_append.1 hx with hx | hx
   ·have := h2 x hx; omega
   ·simp at hx; omega
  ·refine ⟨h1, fun x hx => ?_, ?_⟩
   ·rcases List.mem_append.1 hx with hx | hx
    ·exact h2 x hx
    ·simp at hx; omega
   ·rcases h3 with h3 | ⟨x, hx, hx'⟩
    ·exact .inl h3
    ·exact .inr ⟨x, by simp [hx], hx'⟩
theorem grt_lab {N : Nat} {xss : List (List Int)} (hs : Sys N xss) (hi' : Inj N xss) (hN : 0 < N) : grt (lab N xss N).1 = (lab N xss N).2 := by
 have hl := lab_length N xss N
 obtain ⟨h1, h2, h3⟩ := grt_spec _ (lab N xss N).1 rfl
 have hin : ∀ x ∈ (lab N xss N).1, 0 ≤ x ∧ x < (lab N xss N).2 := fun x hx => by
  obtain ⟨k, hk, rfl⟩ := List.mem_iff_getElem.1 hx
  rw [← gi_mem hk]
  exact lab_all hs hi' k (by omega) (by omega)
 have h0 := lab_all hs hi' 0 (by omega) (by omega)
 obtain ⟨x, hx0, hx1, hx⟩ := (lab_in hs hi' N (Nat.le_refl _)).2 ((lab N xss N).2 - 1) (by omega) (by omega)
 have hm : gi (lab N xss N).1 x ∈ (lab N xss N).1 := by
  have e : gi (lab N xss N).1 x = (lab N xss N).1[x.toNat]'(by omega) := by simp [gi, List.getD_eq_getElem?_getD, List.getElem?_eq_getElem (show x.toNat < (lab N xss N).1.length by omega)]
  rw [e]; exact List.getElem_mem _
 have h4 := h2 _ hm
 rcases h3 with h3 | ⟨y, hy, hy'⟩
 ·omega
 have := hin y hy
 omega
/-! faces -/
def facesL (xss : List (List Int)) (i : Nat) : List Int := (lab (gl xss 0).length (xss.eraseIdx i) (gl xss 0).length).1
def facesN (xss : List (List Int)) (i : Nat) : Int := (lab (gl xss 0).length (xss.eraseIdx i) (gl xss 0).length).2
theorem Sys.erase {N : Nat} {xss : List (List Int)} (h : Sys N xss) (i : Nat) : Sys N (xss.eraseIdx i) := fun p hp => h p (List.mem_of_mem_eraseIdx hp)
theorem Inj.erase {N : Nat} {xss : List (List Int)} (h : Inj N xss) (i : Nat) : Inj N (xss.eraseIdx i) := fun p hp => h p (List.mem_of_mem_eraseIdx hp)
theorem facesL_len (xss : List (List Int)) (i : Nat) : (facesL xss i).length = (gl xss 0).length := lab_length _ _ _
theorem facesN_le (xss : List (List Int)) (i : Nat) : 0 ≤ facesN xss i ∧ facesN xss i ≤ (gl xss 0).length := lab_count _ _ _
theorem faces_in {xss : List (List Int)} (h : Mani xss) (i : Nat) (f : Nat) (hf : f < (gl xss 0).length) : 0 ≤ gi (facesL xss i) f ∧ gi (facesL xss i) f < facesN xss i := lab_all (h.2.2.1.sys.erase i) (h.2.2.1.inj.erase i) f (by omega) (by omega)
theorem faces_hit {xss : List (List Int)} (h : Mani xss) (i : Nat) (v : Int) (h0 : 0 ≤ v) (h1 : v < facesN xss i) : ∃ f : Nat, f < (gl xss 0).length ∧ gi (facesL xss i) f = v := by
 obtain ⟨x, hx0, hx1, hx⟩ := (lab_in (h.2.2.1.sys.erase i) (h.2.2.1.inj.erase i) _ (Nat.le_refl _)).2 v h0 h1
 exact ⟨x.toNat, by omega, by rw [Int.toNat_of_nonneg hx0]; exact hx⟩
theorem faces_grt {xss : List (List Int)} (h : Mani xss) (i : Nat) : grt (facesL xss i) = facesN xss i := grt_lab (h.2.2.1.sys.erase i) (h.2.2.1.inj.erase i) (by have := h.2.1; omega)
theorem RowsI.erase {w : World} {A : Option Addr} {n : Nat} {rs : List SlV} {xss : List (List Int)} (h : RowsI w A n rs xss) {i : Nat} (hi : i < n) {A' : Option Addr} (hT : RdR w A' (n - 1) (rs.eraseIdx i)) : RowsI w A' (n - 1) (rs.eraseIdx i) (xss.eraseIdx i) := by
 have hl := h.len
 have hrl := h.top.1
 have er : ∀ j, j < n - 1 → (rs.eraseIdx i).getD j slNil = rs.getD (if j < i then j else j + 1) slNil := fun j hj => by
  simp only [List.getD_eq_getElem?_getD, List.getElem?_eraseIdx]; split <;> rfl
 have ex : ∀ j, j < n - 1 → (xss.eraseIdx i).getD j [] = xss.getD (if j < i then j else j + 1) [] := fun j hj => by
  simp only [List.getD_eq_getElem?_getD, List.getElem?_eraseIdx]; split <;> rfl
 refine ⟨hT, by rw [List.length_eraseIdx, if_pos (by omega), hl], fun j hj => ?_, fun j hj => ?_⟩
 ·rw [er j hj, ex j hj]
  exact h.row _ (by split <;> omega)
 rw [er j hj]
 exact h.cap _ (by split <;> omega)
theorem l01Index_c (A : Option Addr) (n c : Nat) (xs : List Int) (v : Int) (w : World) (hR : RdI w A n xs) (hn : n ≤ 9223372036854775807) :
  Ret Tryz.prog 209 [.slice A n c, .int .i64 v] w (fun r w' => (∃ i : Int, r = .int .i64 i ∧ (0 ≤ i ↔ v ∈ xs)) ∧ w' = w) := by
 have hxl := hR.1
 refine Ret.of_cd Tryz.func209 O Tryz.ntmps209 O (post1 O) (Gbc O ?_)
 refine Cd.loop (α := Nat) (fun k => [(0, .slice A n c), (1, .int .i64 v), (5, .int .i64 (k : Int))]) (fun k w' => w' = w ∧ k ≤ n ∧ ∀ j, j < k → gi xs (j : Nat) ≠ v) (fun k => n - k) 0 ⟨O, O, O, trivial⟩ ⟨O, Nat.zero_le _, fun j hj => by omega⟩ ?_
 rintro k e w ⟨rfl, hk, hK⟩
 refine Gbo O (Ops.len O O (Gdc O ?_))
 refine Cd.cond_p _ O (fun h3 => ?_) (fun h3 => ?_)
 ·refine Gao O (Ops.idx hR.2 O O O (by omega) (by omega) (Ops.ld_int hR O (by omega) O O (Gdc O ?_)))
  refine Cd.cond_p _ O (fun h4 => ?_) (fun h4 => ?_)
  ·refine Gar O (thenQ_r (Qk_ret ?_))
   refine ret1_i O ?_
   exact ⟨⟨(k : Int), O, ⟨fun _ => by rw [← h4, gi_mem (by omega)]; exact List.getElem_mem _, fun _ => by omega⟩⟩, O⟩
  refine Gao O (Ops.add O O O (by omega) (Gdn O (tQ ?_)))
  refine ⟨k + 1, by show n - (k + 1) < n - k; omega, ⟨O, O, O, trivial⟩, O, by omega, fun j hj => ?_⟩
  by_cases ej : j = k
  ·subst ej; exact h4
  exact hK j (by omega)
 refine Gax O (thenQ_x (Gfr O ?_))
 refine ret1_i O ?_
 refine ⟨⟨-1, O, ⟨fun h => absurd h (by decide), fun h => ?_⟩⟩, O⟩
 obtain ⟨j, hj, hjv⟩ := List.mem_iff_getElem.1 h
 exact absurd (by rw [gi_mem hj]; exact hjv) (hK j (by omega))
theorem l01Has_c (A : Option Addr) (n c : Nat) (xs : List Int) (v : Int) (w : World) (hR : RdI w A n xs) (hn : n ≤ 9223372036854775807) :
  Ret Tryz.prog 149 [.slice A n c, .int .i64 v] w (fun r w' => r = .bool (decide (v ∈ xs)) ∧ w' = w) := by
 refine Ret.of_cd Tryz.func149 O Tryz.ntmps149 O (post1 O) (Gbo O (Ops.call (l01Index_c A n c xs v _ hR hn) O O O ?_))
 rintro _ w ⟨⟨i, rfl, hi⟩, rfl⟩
 refine Gdr O (ret1_b O ?_)
 exact ⟨congrArg Value.bool (decide_eq_decide.2 hi), O⟩
theorem l02Others_c (A : Option Addr) (n c : Nat) (rs : List SlV) (xss : List (List Int)) (Ai : Option Addr) (ci : Nat) (i : Nat) (w : World) (hR : RowsI w A n rs xss) (hn : n ≤ 1000) (hi : i < n) (hI : RdI w Ai 1 [(i : Int)]) :
  Ret Tryz.prog 235 [.agg #[.slice A n c], .slice Ai 1 ci] w (fun v w' => ∃ A' c', v = .slice A' (n - 1) c' ∧ St w w' [CkR 32 A' (n - 1) c' (rs.eraseIdx i)]) := by
 have hrl := hR.top.1
 have step : ∀ k (hk : k < n), (rs.take (k + 1)).eraseIdx i = if k = i then (rs.take k).eraseIdx i else (rs.take k).eraseIdx i ++ [rg rs (k : Int)] := fun k hk => by
  have e : rg rs (k : Int) = rs[k]'(by omega) := by simp [rg, List.getD_eq_getElem?_getD, List.getElem?_eq_getElem (show k < rs.length by omega)]
  rw [List.take_succ_eq_append_getElem (by omega), e]
  by_cases h1 : k = i
  ·subst h1
   have h2 : (rs.take k).length = k := by rw [List.length_take]; omega
   rw [if_pos rfl, List.eraseIdx_append_of_length_le (by omega), h2, Nat.sub_self, List.eraseIdx_of_length_le (l := rs.take k) (k := k) (by omega)]
   simp
  rw [if_neg h1]
  by_cases h2 : i < k
  ·rw [List.eraseIdx_append_of_lt_length (by simp; omega)]
  rw [List.eraseIdx_of_length_le (l := rs.take k ++ _) (by rw [List.length_append, List.length_take, List.length_singleton]; omega), List.eraseIdx_of_length_le (l := rs.take k) (by rw [List.length_take]; omega)]
 have hlen : ∀ k, k ≤ n → ((rs.take k).eraseIdx i).length = if i < k then k - 1 else k := fun k hk => by
  rw [List.length_eraseIdx, List.length_take, Nat.min_eq_left (by omega)]
 refine Ret.of_cd Tryz.func235 O Tryz.ntmps235 O (post1 O) (Gbo O (Ops.box1 (St.refl w) O O ?_))
 intro Ab w1 hS1
 refine Gdo O (Ops.bs0 hS1 O ?_)
 intro A5 w2 hS2
 have hS2 : St w w2 [CkR 32 A5 0 0 [], Bx 24 1 Ab [.slice A n c]] := hS2
 refine Gdc O ?_
 refine Cd.loop (α := Nat × Option Addr × Nat) (fun z => [(1, .slice Ai 1 ci), (2, .pointer Ab), (5, .slice z.2.1 ((rs.take z.1).eraseIdx i).length z.2.2), (6, .int .i64 (z.1 : Int))]) (fun z w' => St w w' [CkR 32 z.2.1 ((rs.take z.1).eraseIdx i).length z.2.2 ((rs.take z.1).eraseIdx i), Bx 24 1 Ab [.slice A n c]] ∧ z.1 ≤ n) (fun z => n - z.1) (0, A5, 0) ⟨O, O, O, O, trivial⟩ ⟨hS2, Nat.zero_le _⟩ ?_
 rintro ⟨k, A6, c6⟩ e w3 ⟨hS3, hk⟩
 dsimp only at hS3 hk ⊢
 have hR3 := hS3.oldRows hR
 have hlk := hlen k hk
 refine Gbo O (Ops.fld (hS3.rd 1 O) O O O O inferInstance (Ops.ldf_s (hS3.rd 1 O) O O O O O ?_))
 refine Ops.len O O (Gdc O ?_)
 refine Cd.cond_p _ O (fun h1 => ?_) (fun h1 => ?_)
 ·have hst := step k (by omega)
  refine Gao O (Ops.call (l01Has_c Ai 1 ci _ (k : Int) _ (hS3.oldI hI) (by omega)) O O O ?_)
  rintro _ w3 ⟨rfl, rfl⟩
  first | refine Ops.not_p rfl rfl ?_ | refine Ops.not rfl rfl ?_
  refine Gdc O ?_
  refine Cd.cond_p _ O (fun h2 => ?_) (fun h2 => ?_)
  ·rw [if_neg (fun h => h2 (by rw [h]; simp))] at hst
   refine Gao O (Ops.fld (hS3.rd 1 O) O O O O inferInstance (Ops.ldf_s (hS3.rd 1 O) O O O O O (Gdo O (Ops.idx hR3.top.2 O O O (by omega) h1 (Ops.ld_sl hR3.top O (by omega) O O (Ops.bs1R hS3 O O O ?_))))))
   intro A7 w4 hS4
   refine Ops.appR 1 hS4 O (hS4.rdR 0 O) O O O (by rw [hlk]; split <;> omega) (by rw [hlk]; split <;> omega) O ?_
   intro A8 c8 w5 hS5
   refine Gdo O (Ops.add O O O (by omega) (Gdn O (tQ ?_)))
   have e1 : ((rs.take (k + 1)).eraseIdx i).length = ((rs.take k).eraseIdx i).length + 1 := by rw [hst]; simp
   refine ⟨(k + 1, A8, c8), by show n - (k + 1) < n - k; omega, ⟨O, O, by show Value.slice _ _ _ = .slice _ _ _; rw [e1], O, trivial⟩, ?_, by show k + 1 ≤ n; omega⟩
   show St w w5 [CkR _ A8 ((rs.take (k + 1)).eraseIdx i).length c8 ((rs.take (k + 1)).eraseIdx i), _]
   rw [e1, hst]
   exact hS5.tail
  have h3 := Classical.not_not.1 h2
  simp only [List.mem_singleton] at h3
  rw [if_pos (by omega)] at hst
  refine Gao O (Ops.add O O O (by omega) (Gdn O (tQ ?_)))
  refine ⟨(k + 1, A6, c6), by show n - (k + 1) < n - k; omega, ⟨O, O, by show Value.slice _ _ _ = .slice _ _ _; rw [hst], O, trivial⟩, ?_, by show k + 1 ≤ n; omega⟩
  show St w w3 [CkR _ A6 ((rs.take (k + 1)).eraseIdx i).length c6 ((rs.take (k + 1)).eraseIdx i), _]
  rw [hst]
  exact hS3
 refine Gax O (thenQ_x (Gfr O ?_))
 refine ret1_s O ?_
 have hkn : k = n := by omega
 subst hkn
 rw [List.take_of_length_le (by omega)] at hS3
 have e1 : (rs.eraseIdx i).length = k - 1 := by rw [List.length_eraseIdx, if_pos (by omega), hrl]
 rw [List.take_of_length_le (by omega), e1]
 rw [e1] at hS3
 exact ⟨A6, c6, O, hS3.sub (List.Sublist.cons_cons _ (List.nil_sublist _))⟩
theorem paint_snoc (c : Int) (x : Int) : ∀ (a L : List Int), paint L c (a ++ [x]) = (paint L c a).set x.toNat c
 | [], _ => rfl
 | y :: a, L => paint_snoc c x a (L.set y.toNat c)
theorem l01Orbits_c (A : Option Addr) (n c : Nat) (rs : List SlV) (xss : List (List Int)) (N : Nat) (w : World) (hR : RowsI w A n rs xss) (hn : n ≤ 1000) (hs : Sys N xss) (hN : N ≤ 1000) :
  Ret Tryz.prog 234 [.int .i64 (N : Int), .slice A n c] w (fun v w' => ∃ A' c', v = .slice A' N c' ∧ St w w' [CkI 2 A' N c' (lab N xss N).1]) := by
 refine Ret.of_cd Tryz.func234 O Tryz.ntmps234 O (post1 O) (Gbo O (Ops.bs0 (St.refl w) O ?_))
 intro A5 w1 hS1
 have hS1 : St w w1 [CkI 2 A5 0 0 (List.replicate 0 (-1))] := hS1
 refine Gdc O ?_
 refine Cd.loop (α := Nat × Option Addr × Nat) (fun z => [(0, .int .i64 (N : Int)), (1, .slice A n c), (5, .slice z.2.1 z.1 z.2.2), (6, .int .i64 (z.1 : Int))]) (fun z w' => St w w' [CkI 2 z.2.1 z.1 z.2.2 (List.replicate z.1 (-1))] ∧ z.1 ≤ N) (fun z => N - z.1) (0, A5, 0) ⟨O, O, O, O, trivial⟩ ⟨hS1, Nat.zero_le _⟩ ?_
 rintro ⟨k, A6, c6⟩ e w2 ⟨hS2, hk⟩
 dsimp only at hS2 hk ⊢
 refine Gbc O ?_
 refine Cd.cond_p _ O (fun h1 => ?_) (fun h1 => ?_)
 ·refine Gao O (Ops.bs1I hS2 O O O ?_)
  intro A7 w3 hS3
  refine Ops.appI 1 hS3 O (hS3.rdI 0 O) O O O (by omega) (by omega) O ?_
  intro A8 c8 w4 hS4
  refine Gdo O (Ops.add O O O (by omega) (Gdn O (tQ ?_)))
  refine ⟨(k + 1, A8, c8), by show N - (k + 1) < N - k; omega, ⟨O, O, O, O, trivial⟩, ?_, by show k + 1 ≤ N; omega⟩
  show St w w4 [CkI _ A8 (k + 1) c8 (List.replicate (k + 1) (-1))]
  rw [List.replicate_succ']
  exact hS4.tail
 refine Gax O (thenQ_x (Gfc O ?_))
 have hkN : k = N := by omega
 subst hkN
 refine Cd.loop (α := Nat) (fun i => [(0, .int .i64 (k : Int)), (1, .slice A n c), (5, .slice A6 k c6), (7, .int .i64 (lab k xss i).2), (8, .int .i64 (i : Int))]) (fun i w' => St w w' [CkI 2 A6 k c6 (lab k xss i).1] ∧ i ≤ k) (fun i => k - i) 0 ⟨O, O, O, O, O, trivial⟩ ⟨hS2, Nat.zero_le _⟩ ?_
 rintro i e w3 ⟨hS3, hi⟩
 have hL3 := hS3.rdI 0 O
 have hcnt := lab_count k xss i
 refine Gbc O ?_
 refine Cd.cond_p _ O (fun h2 => ?_) (fun h2 => ?_)
 ·refine Gao O (Ops.idx hL3.2 O O O (by omega) (by omega) (Ops.ld_int hL3 O (by omega) O O (Gdc O ?_)))
  refine Cd.cond_p _ O (fun h3 => ?_) (fun h3 => ?_)
  ·refine Gao O (Ops.add O O O (by omega) (Gdn O (tQ ?_)))
   refine ⟨i + 1, by show k - (i + 1) < k - i; omega, ⟨O, O, O, by show Value.int .i64 _ = .int .i64 _; rw [lab_pos h3], O, trivial⟩, by rw [lab_pos h3]; exact hS3, by omega⟩
  obtain ⟨hg, _, _⟩ := orbit_spec hs (pt := (i : Int)) (by omega) (by omega)
  refine Gao O (Ops.call (l01Orbit_c A n c rs xss k (i : Int) _ (hS3.oldRows hR) (by omega) hs (by omega) (by omega) (by omega)) O O O ?_)
  rintro _ w4 ⟨A9, c9, rfl, hst⟩
  have hS4 := hS3.call hst
  have hol : (orbit k xss (i : Int)).length ≤ k := hg.len
  refine Gdc O ?_
  refine Cd.loop (α := Nat) (fun m => [(0, .int .i64 (k : Int)), (1, .slice A n c), (5, .slice A6 k c6), (7, .int .i64 (lab k xss i).2), (8, .int .i64 (i : Int)), (9, .slice A9 (orbit k xss (i : Int)).length c9), (10, .int .i64 (m : Int))]) (fun m w' => St w w' [CkI 2 A9 (orbit k xss (i : Int)).length c9 (orbit k xss (i : Int)), CkI 2 A6 k c6 (paint (lab k xss i).1 (lab k xss i).2 ((orbit k xss (i : Int)).take m))] ∧ m ≤ (orbit k xss (i : Int)).length) (fun m => (orbit k xss (i : Int)).length - m) 0 ⟨O, O, O, O, O, O, O, trivial⟩ ⟨hS4, Nat.zero_le _⟩ ?_
  rintro m e w5 ⟨hS5, hm⟩
  have hO5 := hS5.rdI 0 O
  refine Gbo O (Ops.len O O (Gdc O ?_))
  refine Cd.cond_p _ O (fun h4 => ?_) (fun h4 => ?_)
  ·have hm' : m < (orbit k xss (i : Int)).length := by omega
   have hom := hg.range _ (gi_in hm')
   refine Gao O (Ops.idx hO5.2 O O O (by omega) (by omega) (Ops.ld_int hO5 O (by omega) O O (Gdo O (Ops.idx (hS5.rdI 1 O).2 O O O (by omega) (by omega) (Ops.st_int 1 hS5 O O O (by omega) ?_)))))
   intro w6 hS6
   refine Gdo O (Ops.add O O O (by omega) (Gdn O (tQ ?_)))
   refine ⟨m + 1, by show _ - (m + 1) < _ - m; omega, ⟨O, O, O, O, O, O, O, trivial⟩, ?_, hm'⟩
   rw [take_succ_gi hm', paint_snoc]
   exact hS6
  refine Gax O (thenQ_x (Gfo O (Ops.add O O O (by omega) (Gdo O (Ops.add O O O (by omega) (Gdn O (tQ ?_)))))))
  have hme : m = (orbit k xss (i : Int)).length := by omega
  subst hme
  rw [List.take_length] at hS5
  refine ⟨i + 1, by show k - (i + 1) < k - i; omega, ⟨O, O, O, by show Value.int .i64 _ = .int .i64 _; rw [lab_neg h3], O, trivial⟩, by rw [lab_neg h3]; exact hS5.tail, by omega⟩
 refine Gax O (thenQ_x (Gfr O ?_))
 refine ret1_s O ?_
 have hik : i = k := by omega
 subst hik
 exact ⟨A6, c6, O, hS3⟩
theorem l02Greatest_c (A : Option Addr) (n c : Nat) (xs : List Int) (w : World) (hR : RdI w A n xs) (hn : n ≤ 1000000) (hx : ∀ x ∈ xs, x ≤ 1000000) :
  Ret Tryz.prog 198 [.slice A n c] w (fun v w' => v = .int .i64 (grt xs) ∧ w' = w) := by
 have hxl := hR.1
 refine Ret.of_cd Tryz.func198 O Tryz.ntmps198 O (post1 O) (Gbc O ?_)
 refine Cd.loop (α := Nat) (fun k => [(0, .slice A n c), (3, .int .i64 (grt (xs.take k))), (4, .int .i64 (k : Int))]) (fun k w' => w' = w ∧ k ≤ n) (fun k => n - k) 0 ⟨O, O, O, trivial⟩ ⟨O, Nat.zero_le _⟩ ?_
 rintro k e w ⟨rfl, hk⟩
 refine Gbo O (Ops.len O O (Gdc O ?_))
 refine Cd.cond_p _ O (fun h1 => ?_) (fun h1 => ?_)
 ·have hg : gi xs (k : Int) ≤ 1000000 := hx _ (by rw [gi_mem (by omega)]; exact List.getElem_mem _)
  have hst : grt (xs.take (k + 1)) = if grt (xs.take k) ≤ gi xs k then gi xs k + 1 else grt (xs.take k) := by rw [take_succ_gi (by omega), grt_snoc]
  have hg0 := (grt_spec _ (xs.take k) O).1
  refine Gao O (Ops.idx hR.2 O O O (by omega) (by omega) (Ops.ld_int hR O (by omega) O O (Gdc O ?_)))
  refine Cd.cond_p _ O (fun h2 => ?_) (fun h2 => ?_)
  ·rw [if_pos h2] at hst
   refine Gao O (Ops.idx hR.2 O O O (by omega) (by omega) (Ops.ld_int hR O (by omega) O O ?_))
   refine Ops.add O O O (by omega) (Gdo O (Ops.add O O O (by omega) (Gdn O (tQ ?_))))
   exact ⟨k + 1, by show n - (k + 1) < n - k; omega, ⟨O, by show Value.int .i64 _ = .int .i64 _; rw [hst], O, trivial⟩, O, by omega⟩
  rw [if_neg h2] at hst
  refine Gao O (Ops.add O O O (by omega) (Gdn O (tQ ?_)))
  exact ⟨k + 1, by show n - (k + 1) < n - k; omega, ⟨O, by show Value.int .i64 _ = .int .i64 _; rw [hst], O, trivial⟩, O, by omega⟩
 refine Gax O (thenQ_x (Gfr O ?_))
 refine ret1_i O ?_
 have hkn : k = n := by omega
 subst hkn
 exact ⟨by rw [← hxl, List.take_length], O⟩
theorem l02Faces_c (A : Option Addr) (n c : Nat) (rs : List SlV) (xss : List (List Int)) (i : Nat) (w : World) (hR : RowsI w A n rs xss) (hM : Mani xss) (hi : i < n) :
  Ret Tryz.prog 197 [.agg #[.slice A n c], .int .i64 (i : Int)] w (fun v w' => ∃ A' c', v = .slice A' (gl xss 0).length c' ∧ St w w' [CkI 2 A' (gl xss 0).length c' (facesL xss i)]) := by
 have hl := hR.len
 have h1 := hM.1
 have h2 := hM.2.1
 have hs := hM.2.2.1.sys
 refine Ret.of_cd Tryz.func197 O Tryz.ntmps197 O (post1 O) (Gbo O (Ops.box1 (St.refl w) O O ?_))
 intro Ab w1 hS1
 refine Gdc O ?_
 refine Cd.draw [.ex (.agg #[.slice (A) (n) (c)]), xI (((gl xss 0).length : Int)), .ex (.agg #[.slice (A) (n) (c)]), xI ((i : Int)), .pr (fun v w' => ∃ A1, v = .slice A1 1 1 ∧ RdI w' A1 1 [(i : Int)]), .pr (fun v w' => ∃ A1 c1, v = .slice A1 (n - 1) c1 ∧ RowsI w' A1 (n - 1) (rs.eraseIdx i) (xss.eraseIdx i)), .pr (fun v w' => ∃ A1 c1, v = .slice A1 (gl xss 0).length c1 ∧ St w w' [CkI 2 A1 (gl xss 0).length c1 (facesL xss i)]), .pr (fun v w' => ∃ A1 c1, v = .slice A1 (gl xss 0).length c1 ∧ St w w' [CkI 2 A1 (gl xss 0).length c1 (facesL xss i)])] (by kernel_rfl) (by kernel_rfl) rfl (lx (lx (lx (lx (List.forall_mem_cons.2 ⟨Yd.lasts_pr (fun v w w' h hb => by obtain ⟨A1, hv, hT⟩ := h; exact ⟨A1, hv, hT.later hb⟩), (List.forall_mem_cons.2 ⟨Yd.lasts_pr (fun v w w' h hb => by obtain ⟨A1, c1, hv, hT⟩ := h; exact ⟨A1, c1, hv, hT.later hb⟩), (List.forall_mem_cons.2 ⟨Yd.lasts_pr (fun v w w' h hb => by obtain ⟨A1, c1, hv, hT⟩ := h; exact ⟨A1, c1, hv, hT.later hb⟩), (List.forall_mem_cons.2 ⟨Yd.lasts_pr (fun v w w' h hb => by obtain ⟨A1, c1, hv, hT⟩ := h; exact ⟨A1, c1, hv, hT.later hb⟩), (fun _ h => by cases h)⟩)⟩)⟩)⟩))))) ?_ ?_
 ·refine ⟨fun _ _ hb _ _ => Ops.ld_agg 0 ((hS1.rd 0 O).below hb) O O O (Az O), ?_, fun _ _ hb _ _ => Ops.ld_agg 0 ((hS1.rd 0 O).below hb) O O O (Az O), Dr O, ?_, ?_, ?_, ?_, trivial⟩
  ·intro e1 w1 hb hp hun; refine Ops.call (l02Flags_c A n c rs xss _ ((hS1.later hb).oldRows hR) (by omega)) O O O ?_
   rintro _ w2 ⟨rfl, hst⟩
   refine Ops.n ?_
   exact After.dn hst.below (by exact O)
  ·intro e1 w1 hb hp hun; refine Ops.bs1I (St.refl _) O O O ?_
   intro A1 w9 hst
   refine Ops.n ?_
   exact After.dn hst.below ⟨A1, O, hst.rdI 0 O⟩
  ·intro e1 w1 hb hp hun
   obtain ⟨A0, h9, hT0⟩ := (hp 4 (by decide) rfl _ _ rfl rfl)
   refine Ops.call (l02Others_c A n c rs xss A0 1 i _ ((hS1.later hb).oldRows hR) (by omega) hi hT0) O (by exact congrArg (fun v => [Value.agg #[.slice A n c], v]) h9) O ?_
   rintro _ w9 ⟨A1, c1, rfl, hst⟩
   refine Ops.n ?_
   exact After.dn hst.below ⟨A1, c1, O, (((hS1.later hb).oldRows hR).later hst.below).erase hi (hst.rdR 0 O)⟩
  ·intro e1 w1 hb hp hun
   obtain ⟨A0, c0, h10, hT0⟩ := (hp 5 (by decide) rfl _ _ rfl rfl)
   refine Ops.call (l01Orbits_c A0 (n - 1) c0 _ _ (gl xss 0).length _ hT0 (by omega) (hs.erase i) (by omega)) O (by exact congrArg (fun v => [Value.int .i64 ((gl xss 0).length : Int), v]) h10) O ?_
   rintro _ w9 ⟨A1, c1, rfl, hst⟩
   refine Ops.n ?_
   exact After.dn hst.below ⟨A1, c1, O, (hS1.later hb).none.call hst⟩
  intro e1 w1 hb hp hun
  obtain ⟨A1, c1, h11, hT⟩ := (hp 6 (by decide) rfl _ _ rfl rfl)
  refine Ops.ms O (by exact h11) O (Ops.n ?_)
  exact After.dn (Below.refl _ _) ⟨A1, c1, O, hT⟩
 intro u w9 hb9 hu
 obtain ⟨A9, c9, h4, hT⟩ := hu 7 _ rfl
 refine Ger O (ret1_s (by exact h4) ?_)
 exact ⟨A9, c9, O, hT⟩
end Go.Proofs.YtopgfgdgfjddpaaGreatDoor.Vc
