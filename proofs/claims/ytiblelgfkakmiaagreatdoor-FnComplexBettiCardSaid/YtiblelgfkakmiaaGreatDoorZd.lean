/-
  The texts Srb, F4, Srl, G1, G2, G3, Gct, G4, G5, F1, F2, Uti, D4, D5, D8, D9, C9, C11, E1, E2, E3, Dst, Gpl, F3, L02, Lst, F5, Del, Hm, E5, H1, Dfi, E8, Gir, Map in one. Conditions: as each part states them.
-/
import Derived.Test.YtiblelgfkakmiaaGreatDoorLayc
import Derived.Shelf.SlSortCmp.NoneTotal
import Derived.Test.YtiblelgfkakmiaaGreatDoorZb
import Derived.Test.YtiblelgfkakmiaaGreatDoorZc
import Derived.KernelRfl
import Derived.Shelf.SortM.SortNone
import Derived.Test.YtiblelgfkakmiaaGreatDoorZa
import Derived.MapKept
import Derived.Carry
/-
 The library's sort by a function: its world in one's own words.
-/
namespace Go.Proofs.YtiblelgfkakmiaaGreatDoor.Vc
open Go.RowKit Go.Sort
theorem heap_grw {α : Type} [Inhabited α] {enc : α → Value} {w : World} {g n off : Nat} {os : Array Obj} {cur : Array Value} {e : TypeId} {fr : Nat × Nat} (d : Array α) (hb : w.heap[g]? = some (.cells cur e fr)) :
    (Go.Sort.grow (putRow enc (Sort.ahead w n) g off d) os).heap[g]? = some (.cells (putCells enc off d cur) e fr) := by
  have hg : g < w.heap.size := (Array.getElem?_eq_some_iff.1 hb).1
  rw [heap_grow_old _ _ (by simpa using hg)]
  simp [putRow, mapBlock, Sort.ahead, Array.getElem?_modify, hb, onCells]
theorem grb_grw {α : Type} [Inhabited α] {enc : α → Value} {w : World} {g n off : Nat} {os : Array Obj} (d : Array α) : GrB w (Go.Sort.grow (putRow enc (Sort.ahead w n) g off d) os) (some g) := by
 refine ⟨⟨rfl, rfl, rfl, by simp, fun k hk hne => ?_⟩, Nat.le_add_right _ _⟩
 rw [heap_grow_old _ _ (by simpa using hk)]
 have : g ≠ k := fun e => hne (by rw [e])
 simp [putRow, mapBlock, Sort.ahead, Array.getElem?_modify, this]
def sv (ss : List SlV) (j : Nat) : SlV := ss.getD j slNil
def encA (ss : List SlV) (n : Nat) (j : Fin n) : List Value := [(sv ss j).v]
end Go.Proofs.YtiblelgfkakmiaaGreatDoor.Vc
/-
 The walks of comparisons on both sides.
-/
namespace Go.Proofs.YtiblelgfkakmiaaGreatDoor.Vc
open Go.RowKit
theorem lexC_step {a b : List Int} {k : Nat} (ha : k < a.length) (hb : k < b.length) : lexC (a.drop k) (b.drop k) = if cmpI (gi a (k : Int)) (gi b (k : Int)) = 0 then lexC (a.drop (k + 1)) (b.drop (k + 1)) else cmpI (gi a (k : Int)) (gi b (k : Int)) := by
 rw [List.drop_eq_getElem_cons ha, List.drop_eq_getElem_cons hb, gi_mem ha, gi_mem hb]
 rfl
theorem lexC_endR {a b : List Int} {k : Nat} (ha : k < a.length) (hb : b.length ≤ k) : lexC (a.drop k) (b.drop k) = 1 := by
 rw [List.drop_eq_getElem_cons ha, List.drop_of_length_le hb]
 rfl
theorem lexC_endL {a b : List Int} {k : Nat} (ha : a.length ≤ k) : lexC (a.drop k) (b.drop k) = if k < b.length then -1 else 0 := by
 rw [List.drop_of_length_le ha]
 split
 ·rename_i h
  rw [List.drop_eq_getElem_cons h]
  rfl
 ·rename_i h
  rw [List.drop_of_length_le (by omega)]
  rfl
/-! the program's side -/
theorem isNaN_c (x : Int) (w : World) : Ret Tryz.prog 121 [.int .i64 x] w (fun v w' => v = .bool false ∧ w' = w) := by
 refine Ret.of_cd Tryz.func121 rfl Tryz.ntmps121 rfl (post1 rfl) (Cd.seq (Cd.region (Ops.mb rfl rfl rfl (Ops.n (tQ (Cd.seq (Cd.region (Ops.mi rfl rfl rfl (Ops.mi rfl rfl rfl ?_)))))))))
 refine Ops.neq rfl rfl rfl (Ops.mb rfl rfl rfl (Ops.n (tQ (Cd.ret (ret1_b rfl ?_)))))
 exact ⟨by simp, rfl⟩
theorem cmpCompare_c (x y : Int) (w : World) : Ret Tryz.prog 100 [.int .i64 x, .int .i64 y] w (fun v w' => v = .int .i64 (cmpI x y) ∧ w' = w) := by
 refine Ret.of_cd Tryz.func100 rfl Tryz.ntmps100 rfl (post1 rfl) (Cd.seq (Cd.region (Ops.mi rfl rfl rfl (Ops.n (tQ (Cd.seq (Cd.region (Ops.mi rfl rfl rfl (Ops.call (isNaN_c _ _) rfl rfl rfl ?_)))))))))
 rintro _ w ⟨rfl, rfl⟩
 refine Ops.mb rfl rfl rfl (Ops.n (tQ (Cd.seq (Cd.region (Ops.mi rfl rfl rfl (Ops.call (isNaN_c _ _) rfl rfl rfl ?_))))))
 rintro _ w ⟨rfl, rfl⟩
 refine Ops.mb rfl rfl rfl (Ops.n (tQ (Cd.seq (Cd.seq (Cd.region (Ops.mb rfl rfl rfl (Ops.n (tQ (Cd.cond_f rfl ?_)))))))))
 refine Cd.skip (tQ (Cd.seq (Cd.seq (Cd.region (Ops.mb rfl rfl rfl (Ops.n (tQ (Cd.cond_f rfl (Cd.skip ?_)))))))))
 refine tQ (Cd.seq (Cd.seq (Cd.region (Ops.mi rfl rfl rfl (Ops.mi rfl rfl rfl (Ops.lss rfl rfl rfl (Ops.n (tQ ?_))))))))
 refine Cd.cond_p _ rfl (fun h1 => ?_) (fun h1 => ?_)
 ·refine Cd.seq (Cd.region (Ops.mi rfl rfl rfl (Ops.n (tQ (Cd.ret (thenQ_r (ret1_i rfl ?_)))))))
  exact ⟨by rw [cmpI, if_pos h1], rfl⟩
 ·refine Cd.skip (tQ (Cd.seq (Cd.seq (Cd.region (Ops.mi rfl rfl rfl (Ops.mi rfl rfl rfl (Ops.gtr rfl rfl rfl (Ops.n (tQ ?_)))))))))
  refine Cd.cond_p _ rfl (fun h2 => ?_) (fun h2 => ?_)
  ·refine Cd.seq (Cd.region (Ops.mi rfl rfl rfl (Ops.n (tQ (Cd.ret (thenQ_r (ret1_i rfl ?_)))))))
   exact ⟨by rw [cmpI, if_neg h1, if_pos h2], rfl⟩
  ·refine Cd.skip (tQ (Cd.seq (Cd.region (Ops.mi rfl rfl rfl (Ops.n (tQ (Cd.ret (ret1_i rfl ?_))))))))
   exact ⟨by rw [cmpI, if_neg h1, if_neg h2], rfl⟩
theorem Compare_c (A : Option Addr) (n c : Nat) (xs : List Int) (A' : Option Addr) (n' c' : Nat) (ys : List Int) (w : World) (hX : RdI w A n xs) (hY : RdI w A' n' ys) (hn : n ≤ 9223372036854775807) :
  Ret Tryz.prog 61 [.slice A n c, .slice A' n' c'] w (fun v w' => v = .int .i64 (lexC xs ys) ∧ w' = w) := by
 have hxl := hX.1
 have hyl := hY.1
 refine Ret.of_cd Tryz.func61 rfl Tryz.ntmps61 rfl (post1 rfl) (Cd.seq (Cd.region (Ops.mi rfl rfl rfl (Ops.n (tQ (Cd.seq (Cd.seq (Cd.region (Ops.ms rfl rfl rfl ?_)))))))))
 refine Ops.len rfl rfl (Ops.mi rfl rfl rfl (Ops.n (tQ (Cd.block ?_))))
 refine Cd.loop (α := Nat) (fun k => [(0, .slice A n c), (1, .slice A' n' c'), (9, .slice A n c), (10, .int .i64 (n : Int)), (11, .int .i64 (k : Int))]) (fun k w' => w' = w ∧ k ≤ n ∧ k ≤ n' ∧ lexC xs ys = lexC (xs.drop k) (ys.drop k)) (fun k => n - k) 0 ⟨rfl, rfl, rfl, rfl, rfl, trivial⟩ ⟨rfl, Nat.zero_le _, Nat.zero_le _, rfl⟩ ?_
 rintro k e w ⟨rfl, hk, hk', hK⟩
 refine Cd.seq (Cd.region (Ops.lss rfl rfl rfl (Ops.n (tQ (Cd.seq ?_)))))
 refine Cd.cond_p _ rfl (fun h1 => ?_) (fun h1 => ?_)
 ·refine Cd.skip (tQ (Cd.seq (Cd.block (Cd.seq (Cd.region (Ops.mi rfl rfl rfl (Ops.idx hX.2 rfl rfl rfl (by omega) (by omega) (Ops.ld_int hX rfl (by omega) rfl rfl (Ops.mi rfl rfl rfl ?_)))))))))
  refine Ops.mi rfl rfl rfl (Ops.n (tQ (Cd.seq (Cd.seq (Cd.region (Ops.mi rfl rfl rfl (Ops.ms rfl rfl rfl (Ops.len rfl rfl (Ops.geq rfl rfl rfl ?_)))))))))
  refine Ops.n (tQ ?_)
  refine Cd.cond_p _ rfl (fun h2 => ?_) (fun h2 => ?_)
  ·refine Cd.seq (Cd.region (Ops.mi rfl rfl rfl (Ops.n (tQ (Cd.ret (thenQ_r (blockQ_r (thenQ_r (thenQ_r ?_)))))))))
   refine blockQ_r (thenQ_r (ret1_i rfl ?_))
   exact ⟨by rw [hK, lexC_endR (by omega) (by omega)], rfl⟩
  ·rw [lexC_step (by omega) (by omega)] at hK
   refine Cd.skip (tQ (Cd.seq (Cd.region (Ops.ms rfl rfl rfl (Ops.mi rfl rfl rfl (Ops.idx hY.2 rfl rfl rfl (by omega) (by omega) (Ops.ld_int hY rfl (by omega) rfl rfl (Ops.mi rfl rfl rfl (Ops.n ?_)))))))))
   refine tQ (Cd.seq (Cd.region (Ops.mi rfl rfl rfl (Ops.mi rfl rfl rfl (Ops.call (cmpCompare_c _ _ _) rfl rfl rfl ?_)))))
   rintro _ w ⟨rfl, rfl⟩
   refine Ops.mi rfl rfl rfl (Ops.n (tQ (Cd.seq (Cd.region (Ops.mi rfl rfl rfl (Ops.neq rfl rfl rfl (Ops.n (tQ ?_))))))))
   refine Cd.cond_p _ rfl (fun h3 => ?_) (fun h3 => ?_)
   ·refine Cd.seq (Cd.region (Ops.mi rfl rfl rfl (Ops.mi rfl rfl rfl (Ops.n (tQ (Cd.ret (blockQ_r (thenQ_r (thenQ_r ?_)))))))))
    refine blockQ_r (thenQ_r (ret1_i rfl ?_))
    exact ⟨by rw [hK, if_neg h3], rfl⟩
   ·rw [if_pos (Classical.not_not.1 h3)] at hK
    refine Cd.skip (blockQ_n (tQ (Cd.region (Ops.add rfl rfl rfl (by omega) (Ops.mi rfl rfl rfl (Ops.n (tQ ?_)))))))
    exact ⟨k + 1, by show n - (k + 1) < n - k; omega, ⟨rfl, rfl, rfl, rfl, rfl, trivial⟩, rfl, by omega, by omega, hK⟩
 ·rw [lexC_endL (by omega)] at hK
  have hkn : k = n := by omega
  subst hkn
  refine Cd.exit (thenQ_x (thenQ_x (blockQ_x (tQ (Cd.seq (Cd.seq (Cd.region (Ops.ms rfl rfl rfl (Ops.len rfl rfl ?_)))))))))
  refine Ops.ms rfl rfl rfl (Ops.len rfl rfl (Ops.lss rfl rfl rfl (Ops.n (tQ ?_))))
  refine Cd.cond_p _ rfl (fun h2 => ?_) (fun h2 => ?_)
  ·refine Cd.seq (Cd.region (Ops.mi rfl rfl rfl (Ops.n (tQ (Cd.ret (thenQ_r (ret1_i rfl ?_)))))))
   exact ⟨by rw [hK, if_pos (by omega)], rfl⟩
  ·refine Cd.skip (tQ (Cd.seq (Cd.region (Ops.mi rfl rfl rfl (Ops.n (tQ (Cd.ret (ret1_i rfl ?_))))))))
   exact ⟨by rw [hK, if_neg (by omega)], rfl⟩
theorem Equal_c (A : Option Addr) (n c : Nat) (xs : List Int) (A' : Option Addr) (n' c' : Nat) (ys : List Int) (w : World) (hR : RdI w A n xs) (hR' : RdI w A' n' ys) (hn : n ≤ 9223372036854775807) :
  Ret Tryz.prog 109 [.slice A n c, .slice A' n' c'] w (fun v w' => v = .bool (decide (xs = ys)) ∧ St w w' []) := by
 have hl := hR.1
 have hl' := hR'.1
 subst hl
 subst hl'
 refine Ret.of_cd Tryz.func109 rfl Tryz.ntmps109 rfl (post1 rfl) (Cd.seq (Cd.region (Ops.mb rfl rfl rfl (Ops.n (tQ (Cd.seq (Cd.seq (Cd.region (Ops.ms rfl rfl rfl ?_)))))))))
 refine Ops.len rfl rfl (Ops.ms rfl rfl rfl (Ops.len rfl rfl (Ops.neq rfl rfl rfl (Ops.n (tQ ?_)))))
 refine Cd.cond_p _ rfl (fun h => ?_) (fun h => ?_)
 ·refine Cd.seq (Cd.region (Ops.mb rfl rfl rfl (Ops.n (tQ (Cd.ret (thenQ_r (ret1_b rfl ?_)))))))
  exact ⟨by rw [decide_eq_false (fun e : xs = ys => h (by rw [e]))], St.refl _⟩
 refine Cd.skip (tQ (Cd.seq (Cd.seq (Cd.region (Ops.ms rfl rfl rfl (Ops.len rfl rfl (Ops.mi rfl rfl rfl (Ops.n (tQ ?_)))))))))
 refine Cd.block ?_
 refine Cd.loop (α := Nat) (fun k => [(0, .slice A xs.length c), (1, .slice A' ys.length c'), (12, .int .i64 (xs.length : Int)), (13, .int .i64 (k : Int))]) (fun k w' => St w w' [] ∧ k ≤ xs.length ∧ xs.take k = ys.take k) (fun k => xs.length - k) 0 ⟨rfl, rfl, rfl, rfl, trivial⟩ ⟨St.refl w, Nat.zero_le _, rfl⟩ ?_
 rintro k e w2 ⟨hS2, hk, hI⟩
 have hle : xs.length = ys.length := by omega
 refine Cd.seq (Cd.region (Ops.lss rfl rfl rfl (Ops.n (tQ (Cd.seq ?_)))))
 refine Cd.cond_p _ rfl (fun h1 => ?_) (fun h1 => ?_)
 ·have hA := hS2.oldI hR
  have hB := hS2.oldI hR'
  have h2 : (k : Int) < ys.length := by omega
  have hx := gi_mem (p := xs) (k := k) (by omega)
  have hy := gi_mem (p := ys) (k := k) (by omega)
  refine Cd.skip (tQ (Cd.seq (Cd.block (Cd.seq (Cd.region (Ops.mi rfl rfl rfl (Ops.mi rfl rfl rfl (Ops.n (tQ ?_)))))))))
  refine Cd.seq ?_
  refine Cd.draw [.ex (.slice (A) (xs.length) (c)), .ex (.int .i64 ((k : Int))), .ex (.pointer (ptrAt (A) ((k : Int)).toNat)), .ex (.int .i64 (gi (xs) ((k : Int)))), .ex (.slice (A') (ys.length) (c')), .ex (.int .i64 ((k : Int))), .ex (.pointer (ptrAt (A') ((k : Int)).toNat)), .ex (.int .i64 (gi (ys) ((k : Int)))), .ex (.bool (decide (¬ (gi (xs) ((k : Int))) = (gi (ys) ((k : Int))))))] (by kernel_rfl) (by kernel_rfl) rfl (lx (lx (lx (lx (lx (lx (lx (lx (lx (fun _ h => by cases h)))))))))) ⟨?_, ?_, ?_, ?_, ?_, ?_, ?_, ?_, ?_, trivial⟩ ?_
  ·intro e1 w1 hb hp hun; refine Ops.ms rfl rfl rfl (Ops.n (d0 (by exact rfl)))
  ·intro e1 w1 hb hp hun; refine Ops.mi rfl rfl rfl (Ops.n (d0 (by exact rfl)))
  ·intro e1 w1 hb hp hun; refine Ops.idx (hA.later hb).2 rfl rfl rfl (by omega) (by omega) (Ops.n (d0 (by exact rfl)))
  ·intro e1 w1 hb hp hun; refine Ops.ld_int (hA.later hb) rfl (by omega) rfl rfl (Ops.n (d0 (by exact rfl)))
  ·intro e1 w1 hb hp hun; refine Ops.ms rfl rfl rfl (Ops.n (d0 (by exact rfl)))
  ·intro e1 w1 hb hp hun; refine Ops.mi rfl rfl rfl (Ops.n (d0 (by exact rfl)))
  ·intro e1 w1 hb hp hun; refine Ops.idx (hB.later hb).2 rfl rfl rfl (by omega) (by omega) (Ops.n (d0 (by exact rfl)))
  ·intro e1 w1 hb hp hun; refine Ops.ld_int (hB.later hb) rfl (by omega) rfl rfl (Ops.n (d0 (by exact rfl)))
  ·intro e1 w1 hb hp hun; refine Ops.neq rfl rfl rfl (Ops.n (d0 (by exact rfl)))
  intro u w3 hb3 _
  have hS3 := hS2.later hb3
  refine tQ ?_
  refine Cd.cond_p _ rfl (fun h3 => ?_) (fun h3 => ?_)
  ·refine Cd.seq (Cd.region (Ops.mb rfl rfl rfl (Ops.n (tQ (Cd.ret (blockQ_r (thenQ_r (thenQ_r (blockQ_r ?_)))))))))
   refine thenQ_r (ret1_b rfl ?_)
   refine ⟨by rw [decide_eq_false (fun e : xs = ys => h3 (by rw [e]))], hS3⟩
  ·refine Cd.skip (blockQ_n (tQ (Cd.region (Ops.add rfl rfl rfl (by omega) (Ops.mi rfl rfl rfl (Ops.n (tQ ?_)))))))
   refine ⟨k + 1, by omega, ⟨rfl, rfl, rfl, rfl, trivial⟩, hS3, by omega, ?_⟩
   rw [take_succ_gi (by omega), take_succ_gi (by omega), hI, Classical.not_not.1 h3]
 ·refine Cd.exit (thenQ_x (thenQ_x (blockQ_x (tQ (Cd.seq (Cd.region (Ops.mb rfl rfl rfl (Ops.n (tQ ?_)))))))))
  refine Cd.ret (ret1_b rfl ?_)
  refine ⟨?_, hS2⟩
  rw [List.take_of_length_le (by omega), List.take_of_length_le (by omega)] at hI
  rw [decide_eq_true hI]
/-! the reference's side -/
theorem l01Same_c (A : Option Addr) (n c : Nat) (xs : List Int) (A' : Option Addr) (n' c' : Nat) (ys : List Int) (w : World) (hR : RdI w A n xs) (hR' : RdI w A' n' ys) (hn : n ≤ 9223372036854775807) :
  Ret Tryz.prog 116 [.slice A n c, .slice A' n' c'] w (fun v w' => v = .bool (decide (xs = ys)) ∧ St w w' []) := by
 have hl := hR.1
 have hl' := hR'.1
 subst hl
 subst hl'
 refine Ret.of_cd Tryz.func116 rfl Tryz.ntmps116 rfl (post1 rfl) (Cd.seq (Cd.region (Ops.mb rfl rfl rfl (Ops.n (tQ (Cd.seq (Cd.seq (Cd.region (Ops.ms rfl rfl rfl ?_)))))))))
 refine Ops.len rfl rfl (Ops.ms rfl rfl rfl (Ops.len rfl rfl (Ops.neq rfl rfl rfl (Ops.n (tQ ?_)))))
 refine Cd.cond_p _ rfl (fun h => ?_) (fun h => ?_)
 ·refine Cd.seq (Cd.region (Ops.mb rfl rfl rfl (Ops.n (tQ (Cd.ret (thenQ_r (ret1_b rfl ?_)))))))
  exact ⟨by rw [decide_eq_false (fun e : xs = ys => h (by rw [e]))], St.refl _⟩
 refine Cd.skip (tQ (Cd.seq (Cd.seq (Cd.region (Ops.mi rfl rfl rfl (Ops.n (tQ (Cd.block ?_))))))))
 refine Cd.loop (α := Nat) (fun k => [(0, .slice A xs.length c), (1, .slice A' ys.length c'), (5, .int .i64 (k : Int))]) (fun k w' => St w w' [] ∧ k ≤ xs.length ∧ xs.take k = ys.take k) (fun k => xs.length - k) 0 ⟨rfl, rfl, rfl, trivial⟩ ⟨St.refl w, Nat.zero_le _, rfl⟩ ?_
 rintro k e w2 ⟨hS2, hk, hI⟩
 have hle : xs.length = ys.length := by omega
 refine Cd.seq (Cd.seq (Cd.region (Ops.mi rfl rfl rfl (Ops.ms rfl rfl rfl (Ops.len rfl rfl (Ops.lss rfl rfl rfl (Ops.n (tQ ?_))))))))
 refine Cd.cond_p _ rfl (fun h1 => ?_) (fun h1 => ?_)
 ·have hA := hS2.oldI hR
  have hB := hS2.oldI hR'
  have h2 : (k : Int) < ys.length := by omega
  have hx := gi_mem (p := xs) (k := k) (by omega)
  have hy := gi_mem (p := ys) (k := k) (by omega)
  refine Cd.skip (tQ (Cd.seq (Cd.block (Cd.seq ?_))))
  refine Cd.draw [.ex (.slice (A) (xs.length) (c)), .ex (.int .i64 ((k : Int))), .ex (.pointer (ptrAt (A) ((k : Int)).toNat)), .ex (.int .i64 (gi (xs) ((k : Int)))), .ex (.slice (A') (ys.length) (c')), .ex (.int .i64 ((k : Int))), .ex (.pointer (ptrAt (A') ((k : Int)).toNat)), .ex (.int .i64 (gi (ys) ((k : Int)))), .ex (.bool (decide (¬ (gi (xs) ((k : Int))) = (gi (ys) ((k : Int))))))] (by kernel_rfl) (by kernel_rfl) rfl (lx (lx (lx (lx (lx (lx (lx (lx (lx (fun _ h => by cases h)))))))))) ⟨?_, ?_, ?_, ?_, ?_, ?_, ?_, ?_, ?_, trivial⟩ ?_
  ·intro e1 w1 hb hp hun; refine Ops.ms rfl rfl rfl (Ops.n (d0 (by exact rfl)))
  ·intro e1 w1 hb hp hun; refine Ops.mi rfl rfl rfl (Ops.n (d0 (by exact rfl)))
  ·intro e1 w1 hb hp hun; refine Ops.idx (hA.later hb).2 rfl rfl rfl (by omega) (by omega) (Ops.n (d0 (by exact rfl)))
  ·intro e1 w1 hb hp hun; refine Ops.ld_int (hA.later hb) rfl (by omega) rfl rfl (Ops.n (d0 (by exact rfl)))
  ·intro e1 w1 hb hp hun; refine Ops.ms rfl rfl rfl (Ops.n (d0 (by exact rfl)))
  ·intro e1 w1 hb hp hun; refine Ops.mi rfl rfl rfl (Ops.n (d0 (by exact rfl)))
  ·intro e1 w1 hb hp hun; refine Ops.idx (hB.later hb).2 rfl rfl rfl (by omega) (by omega) (Ops.n (d0 (by exact rfl)))
  ·intro e1 w1 hb hp hun; refine Ops.ld_int (hB.later hb) rfl (by omega) rfl rfl (Ops.n (d0 (by exact rfl)))
  ·intro e1 w1 hb hp hun; refine Ops.neq rfl rfl rfl (Ops.n (d0 (by exact rfl)))
  intro u w3 hb3 _
  have hS3 := hS2.later hb3
  refine tQ ?_
  refine Cd.cond_p _ rfl (fun h3 => ?_) (fun h3 => ?_)
  ·refine Cd.seq (Cd.region (Ops.mb rfl rfl rfl (Ops.n (tQ (Cd.ret (blockQ_r (thenQ_r (thenQ_r (blockQ_r ?_)))))))))
   refine thenQ_r (ret1_b rfl ?_)
   refine ⟨by rw [decide_eq_false (fun e : xs = ys => h3 (by rw [e]))], hS3⟩
  ·refine Cd.skip (blockQ_n (tQ (Cd.region (Ops.mi rfl rfl rfl (Ops.add rfl rfl rfl (by omega) (Ops.mi rfl rfl rfl (Ops.n (tQ ?_))))))))
   refine ⟨k + 1, by omega, ⟨rfl, rfl, rfl, trivial⟩, hS3, by omega, ?_⟩
   rw [take_succ_gi (by omega), take_succ_gi (by omega), hI, Classical.not_not.1 h3]
 ·refine Cd.exit (thenQ_x (thenQ_x (blockQ_x (tQ (Cd.seq (Cd.region (Ops.mb rfl rfl rfl (Ops.n (tQ ?_)))))))))
  refine Cd.ret (ret1_b rfl ?_)
  refine ⟨?_, hS2⟩
  rw [List.take_of_length_le (by omega), List.take_of_length_le (by omega)] at hI
  rw [decide_eq_true hI]
theorem l01Less_c (A : Option Addr) (n c : Nat) (xs : List Int) (A' : Option Addr) (n' c' : Nat) (ys : List Int) (w : World) (hX : RdI w A n xs) (hY : RdI w A' n' ys) (hn : n ≤ 9223372036854775807) :
  Ret Tryz.prog 67 [.slice A n c, .slice A' n' c'] w (fun v w' => v = .bool (decide (lexC xs ys < 0)) ∧ St w w' []) := by
 have hxl := hX.1
 have hyl := hY.1
 refine Ret.of_cd Tryz.func67 rfl Tryz.ntmps67 rfl (post1 rfl) (Cd.seq (Cd.region (Ops.mb rfl rfl rfl (Ops.n (tQ (Cd.seq (Cd.seq (Cd.region (Ops.mi rfl rfl rfl ?_)))))))))
 refine Ops.n (tQ (Cd.block ?_))
 refine Cd.loop (α := Nat) (fun k => [(0, .slice A n c), (1, .slice A' n' c'), (5, .int .i64 (k : Int))]) (fun k w' => St w w' [] ∧ k ≤ n ∧ k ≤ n' ∧ lexC xs ys = lexC (xs.drop k) (ys.drop k)) (fun k => n - k) 0 ⟨rfl, rfl, rfl, trivial⟩ ⟨St.refl w, Nat.zero_le _, Nat.zero_le _, rfl⟩ ?_
 rintro k e w2 ⟨hS2, hk, hk', hK⟩
 have hX2 := hS2.oldI hX
 have hY2 := hS2.oldI hY
 refine Cd.seq (Cd.seq (Cd.region (Ops.mi rfl rfl rfl (Ops.ms rfl rfl rfl (Ops.len rfl rfl (Ops.lss rfl rfl rfl (Ops.mb rfl rfl rfl ?_)))))))
 refine Ops.split_p 10 rfl (fun h1 => ?_) (fun h1 => ?_)
 ·refine Ops.g rfl rfl rfl (Ops.mi rfl rfl rfl (Ops.g rfl rfl rfl (Ops.ms rfl rfl rfl (Ops.g rfl rfl rfl (Ops.len rfl rfl (Ops.g rfl rfl rfl (Ops.lss rfl rfl rfl (Ops.pick_t rfl rfl rfl (Ops.n ?_)))))))))
  refine tQ ?_
  refine Cd.cond_p _ rfl (fun h2 => ?_) (fun h2 => ?_)
  ·rw [lexC_step (by omega) (by omega)] at hK
   refine Cd.skip (tQ (Cd.seq (Cd.block (Cd.seq ?_))))
   refine Cd.draw [.ex (.slice (A) (n) (c)), .ex (.int .i64 ((k : Int))), .ex (.pointer (ptrAt (A) ((k : Int)).toNat)), .ex (.int .i64 (gi (xs) ((k : Int)))), .ex (.slice (A') (n') (c')), .ex (.int .i64 ((k : Int))), .ex (.pointer (ptrAt (A') ((k : Int)).toNat)), .ex (.int .i64 (gi (ys) ((k : Int)))), .ex (.bool (decide (¬ (gi (xs) ((k : Int))) = (gi (ys) ((k : Int))))))] (by kernel_rfl) (by kernel_rfl) rfl (lx (lx (lx (lx (lx (lx (lx (lx (lx (fun _ h => by cases h)))))))))) ⟨?_, ?_, ?_, ?_, ?_, ?_, ?_, ?_, ?_, trivial⟩ ?_
   ·intro e1 w1 hb hp hun; refine Ops.ms rfl rfl rfl (Ops.n (d0 (by exact rfl)))
   ·intro e1 w1 hb hp hun; refine Ops.mi rfl rfl rfl (Ops.n (d0 (by exact rfl)))
   ·intro e1 w1 hb hp hun; refine Ops.idx (hX2.later hb).2 rfl rfl rfl (by omega) (by omega) (Ops.n (d0 (by exact rfl)))
   ·intro e1 w1 hb hp hun; refine Ops.ld_int (hX2.later hb) rfl (by omega) rfl rfl (Ops.n (d0 (by exact rfl)))
   ·intro e1 w1 hb hp hun; refine Ops.ms rfl rfl rfl (Ops.n (d0 (by exact rfl)))
   ·intro e1 w1 hb hp hun; refine Ops.mi rfl rfl rfl (Ops.n (d0 (by exact rfl)))
   ·intro e1 w1 hb hp hun; refine Ops.idx (hY2.later hb).2 rfl rfl rfl (by omega) (by omega) (Ops.n (d0 (by exact rfl)))
   ·intro e1 w1 hb hp hun; refine Ops.ld_int (hY2.later hb) rfl (by omega) rfl rfl (Ops.n (d0 (by exact rfl)))
   ·intro e1 w1 hb hp hun; refine Ops.neq rfl rfl rfl (Ops.n (d0 (by exact rfl)))
   intro u w3 hb3 _
   have hS3 := hS2.later hb3
   have hX3 := hS3.oldI hX
   have hY3 := hS3.oldI hY
   refine tQ ?_
   refine Cd.cond_p _ rfl (fun h3 => ?_) (fun h3 => ?_)
   ·rw [if_neg (fun h => h3 (cmpI_zero.1 h))] at hK
    refine Cd.seq ?_
    refine Cd.draw [.ex (.slice (A) (n) (c)), .ex (.int .i64 ((k : Int))), .ex (.pointer (ptrAt (A) ((k : Int)).toNat)), .ex (.int .i64 (gi (xs) ((k : Int)))), .ex (.slice (A') (n') (c')), .ex (.int .i64 ((k : Int))), .ex (.pointer (ptrAt (A') ((k : Int)).toNat)), .ex (.int .i64 (gi (ys) ((k : Int)))), .ex (.bool (decide ((gi (xs) ((k : Int))) < (gi (ys) ((k : Int)))))), .ex (.bool (decide ((gi (xs) ((k : Int))) < (gi (ys) ((k : Int))))))] (by kernel_rfl) (by kernel_rfl) rfl (lx (lx (lx (lx (lx (lx (lx (lx (lx (lx (fun _ h => by cases h))))))))))) ⟨?_, ?_, ?_, ?_, ?_, ?_, ?_, ?_, ?_, ?_, trivial⟩ ?_
    ·intro e1 w1 hb hp hun; refine Ops.ms rfl rfl rfl (Ops.n (d0 (by exact rfl)))
    ·intro e1 w1 hb hp hun; refine Ops.mi rfl rfl rfl (Ops.n (d0 (by exact rfl)))
    ·intro e1 w1 hb hp hun; refine Ops.idx (hX3.later hb).2 rfl rfl rfl (by omega) (by omega) (Ops.n (d0 (by exact rfl)))
    ·intro e1 w1 hb hp hun; refine Ops.ld_int (hX3.later hb) rfl (by omega) rfl rfl (Ops.n (d0 (by exact rfl)))
    ·intro e1 w1 hb hp hun; refine Ops.ms rfl rfl rfl (Ops.n (d0 (by exact rfl)))
    ·intro e1 w1 hb hp hun; refine Ops.mi rfl rfl rfl (Ops.n (d0 (by exact rfl)))
    ·intro e1 w1 hb hp hun; refine Ops.idx (hY3.later hb).2 rfl rfl rfl (by omega) (by omega) (Ops.n (d0 (by exact rfl)))
    ·intro e1 w1 hb hp hun; refine Ops.ld_int (hY3.later hb) rfl (by omega) rfl rfl (Ops.n (d0 (by exact rfl)))
    ·intro e1 w1 hb hp hun; refine Ops.lss rfl rfl rfl (Ops.n (d0 (by exact rfl)))
    ·intro e1 w1 hb hp hun; refine Ops.mb rfl rfl rfl (Ops.n (d0 (by exact rfl)))
    intro u2 w4 hb4 _
    have hS4 := hS3.later hb4
    refine tQ (Cd.ret (blockQ_r (thenQ_r (thenQ_r (blockQ_r (thenQ_r (ret1_b rfl ?_)))))))
    exact ⟨congrArg Value.bool (decide_eq_decide.2 (by rw [hK, cmpI_neg])), hS4⟩
   ·rw [if_pos (cmpI_zero.2 (Classical.not_not.1 h3))] at hK
    refine Cd.skip (blockQ_n (tQ (Cd.region (Ops.mi rfl rfl rfl (Ops.add rfl rfl rfl (by omega) (Ops.mi rfl rfl rfl (Ops.n (tQ ?_))))))))
    exact ⟨k + 1, by show n - (k + 1) < n - k; omega, ⟨rfl, rfl, rfl, trivial⟩, hS3, by omega, by omega, hK⟩
  ·rw [lexC_endR (by omega) (by omega)] at hK
   refine Cd.exit (thenQ_x (thenQ_x (blockQ_x (tQ (Cd.seq (Cd.region (Ops.ms rfl rfl rfl (Ops.len rfl rfl (Ops.ms rfl rfl rfl ?_)))))))))
   refine Ops.len rfl rfl (Ops.lss rfl rfl rfl (Ops.mb rfl rfl rfl (Ops.n (tQ (Cd.ret (ret1_b rfl ?_))))))
   exact ⟨congrArg Value.bool (decide_eq_decide.2 (by rw [hK]; omega)), hS2⟩
 ·rw [lexC_endL (by omega)] at hK
  refine Ops.k rfl rfl rfl rfl rfl (Ops.k rfl rfl rfl rfl rfl (Ops.k rfl rfl rfl rfl rfl (Ops.k rfl rfl rfl rfl rfl (Ops.pick_f rfl rfl rfl (Ops.n (tQ (Cd.cond_f rfl (Cd.exit (thenQ_x ?_)))))))))
  refine thenQ_x (blockQ_x (tQ (Cd.seq (Cd.region (Ops.ms rfl rfl rfl (Ops.len rfl rfl (Ops.ms rfl rfl rfl (Ops.len rfl rfl (Ops.lss rfl rfl rfl ?_)))))))))
  refine Ops.mb rfl rfl rfl (Ops.n (tQ (Cd.ret (ret1_b rfl ?_))))
  exact ⟨congrArg Value.bool (decide_eq_decide.2 (by rw [hK]; split <;> omega)), hS2⟩
end Go.Proofs.YtiblelgfkakmiaaGreatDoor.Vc
/-
 The library's sort of lists by their order. Conditions: that the lists can be read while the row is turned about.
-/
namespace Go.Proofs.YtiblelgfkakmiaaGreatDoor.Vc
open Go.RowKit Go.Sort
def encB (ss : List SlV) (n : Nat) (j : Fin n) : Value := (sv ss j).v
theorem St.srtB {w0 w : World} {ks : List Ck} {i : Nat} {t : TypeId} {g o n c : Nat} {ss : List SlV} {cur : Array Value} [Inhabited (Fin n)] (hS : St w0 w ks) (hk : ks[i]? = some (CkR t (some ⟨g, o, Option.none⟩) n c ss))
    (hh : w.heap[g]? = some (.cells cur t (0, 0))) (hg : w0.heap.size ≤ g) (hs : o + c ≤ cur.size) (m : Nat) (dk : Array (Fin n)) (hd : dk.size = n) (os : Array Obj) :
    St w0 (sortWorld (encB ss n) w g o m dk os) (ks.set i (CkR t (some ⟨g, o, Option.none⟩) n c (dk.toList.map fun j : Fin n => sv ss j.val))) := by
  have hnc : n ≤ c := (hS.cap i hk).1
  have hc9 : c ≤ maxLen := (hS.cap i hk).2
  refine hS.turn hk rfl rfl (grb_grw _) (.ofC (isM_R _) ⟨by simp [hd], hnc, hc9, .inr ⟨g, o, _, rfl, hg, heap_grw _ hh, by simp only [putCells, Array.size_mapIdx]; exact hs, fun j hj => ?_⟩⟩)
  have hj : j < n := hj
  have hlt2 : o + j < cur.size := by omega
  show (putCells (encB ss n) o dk cur)[o + j]? = ((dk.toList.map fun j : Fin n => sv ss j.val).map SlV.v)[j]?
  have e : dk[j]! = dk[j]'(by omega) := getElem!_pos dk j (by omega)
  simp [putCells, hlt2, hj, hd, encB]
theorem sortL_c {w0 w : World} {ks : List Ck} (i : Nat) {t : TypeId} {A : Option Addr} {n c : Nat} {ss : List SlV} (hS : St w0 w ks) (hk : ks[i]? = some (CkR t A n c ss)) (hn : n ≤ 4000000000000) (xs : Nat → List Int) (hcap : ∀ a, a < n → (sv ss a).n ≤ 9223372036854775807)
    (hrow : ∀ (w' : World) (q : List Nat), q.length = n → (∀ j ∈ q, j < n) → St w0 w' (ks.set i (CkR t A n c (q.map (sv ss)))) → ∀ a, a < n → RdI w' (sv ss a).a (sv ss a).n (xs a)) :
    Ret Tryz.prog 105 [.slice A n c, .func (.func 61) #[] #[]] w (fun v w' => v = .tuple #[] ∧ ∃ q : List Nat, q.Perm (List.range n) ∧ q.Pairwise (fun a b => ¬ LT (xs b) (xs a)) ∧ St w0 w' (ks.set i (CkR t A n c (q.map (sv ss))))) := by
  have hF : Fnc Tryz.prog 61 := inferInstance
  obtain ⟨h1, h2, h3, h4⟩ := hS.getC hk (isM_R _)
  have hl : ss.length = n := by have : (ss.map SlV.v).length = n := h1; simpa using this
  have h2 : n ≤ c := h2
  by_cases h0 : n = 0
  · subst h0
    have key := AnyF.slices_SortFunc_none { lsf with } A c (.func (.func 61) #[] #[]) w
    refine Calls.mono key fun x w' ⟨hx, hw⟩ => ⟨_, hx, rfl, [], List.Perm.refl _, List.Pairwise.nil, ?_⟩
    subst hw
    have e : ss = [] := List.eq_nil_of_length_eq_zero hl
    subst e
    rw [show (List.map (sv []) [] : List SlV) = [] from rfl]
    have := (List.getElem?_eq_some_iff.1 hk)
    rw [show ks.set i (CkR t A 0 c []) = ks from by
      apply List.ext_getElem?
      intro j
      rw [List.getElem?_set]
      split
      · rename_i e; subst e; rw [hk]; simp [this.1]
      · rfl]
    exact hS
  have h0 : 0 < n := by omega
  rcases h4 with ⟨_, hc0⟩ | ⟨g, o, cur, hA, hg, hh, hs, hc⟩
  · have hc0 : c = 0 := hc0
    omega
  have hA : A = some ⟨g, o, none⟩ := hA
  have hs : o + c ≤ cur.size := hs
  have hc : ∀ j, j < n → cur[o + j]? = (ss.map SlV.v)[j]? := hc
  subst hA
  haveI : Inhabited (Fin n) := ⟨⟨0, h0⟩⟩
  have hlt : g < w.heap.size := (Array.getElem?_eq_some_iff.1 hh).1
  have hd0 : (Array.ofFn (fun j : Fin n => j)).size = n := by simp
  have hH : Holds (encB ss n) w g o (Array.ofFn fun j : Fin n => j) := fun j hj => by
    have hj' : j < n := by simpa using hj
    refine ⟨?_, by simp [World.frozen?, hh]⟩
    have e : (Array.ofFn fun j : Fin n => j)[j]! = ⟨j, hj'⟩ := by
      rw [getElem!_pos (Array.ofFn fun j : Fin n => j) j (by simpa using hj')]
      simp
    rw [e]
    simp only [World.cell?, hh]
    simp only [Option.isSome_none, Bool.false_eq_true, if_false]
    rw [hc j hj']
    simp [hj', hl, sv, encB, List.getD_eq_getElem?_getD]
  obtain ⟨fn, hf1, hf2, hf3⟩ := hF.out
  obtain ⟨bd, hf4⟩ : ∃ c, fn.body = some c := by
    cases h : fn.body with
    | none => rw [h] at hf3; cases hf3
    | some c => exact ⟨c, rfl⟩
  have eg : ∀ args w, (callFunc 61 args).run Tryz.prog w = .ok (.enter 61 args) w := enters_of hf1 hf2 hf4
  have hC : CmpLays1 Tryz.prog 61 #[] (encB ss n) (fun a b : Fin n => lexC (xs a) (xs b)) g o (Array.ofFn fun j : Fin n => j).size w := fun m os dk hdk a b => by
    have hdn : dk.size = n := by rw [hdk, hd0]
    have hW := hS.srtB hk hh hg hs m dk hdn os
    have hr := hrow _ (dk.toList.map fun j => j.val) (by simp [hdn]) (fun j hj => by obtain ⟨x, _, rfl⟩ := List.mem_map.1 hj; exact x.2) (by rw [List.map_map]; exact hW)
    have h5 := Compare_c (sv ss a).a (sv ss a).n (sv ss a).c (xs a) (sv ss b).a (sv ss b).n (sv ss b).c (xs b) _ (hr a a.2) (hr b b.2) (hcap a a.2)
    refine Calls.mono h5 fun x w' ⟨v, hx, hv, hst⟩ => ?_
    subst hv
    exact ⟨hx, 0, #[], by rw [hst]; simp [World.drewN]⟩
  have hO : SWO (ltOf fun a b : Fin n => lexC (xs a) (xs b)) := {
    irrefl := fun a => by simpa [ltOf, LT] using LT.irrefl (xs a)
    trans := fun a b c h h' => by simp only [ltOf, decide_eq_true_iff] at *; exact LT.trans (a := xs a) (b := xs b) (c := xs c) h h'
    ntrans := fun a b c h h' => by simp only [ltOf, decide_eq_false_iff_not] at *; exact LT.ntrans (a := xs a) (b := xs b) (c := xs c) h h' }
  have key := Any.slices_SortFunc lsf (encB ss n) (fun _ => rfl) (fun a b : Fin n => lexC (xs a) (xs b)) hO 61 #[] g o c (Array.ofFn fun j : Fin n => j) w eg hC hH hlt (by rw [hd0]; omega)
  rw [hd0] at key
  refine Calls.mono key fun x w' ⟨hx, d', m, os, hp, hso, hw⟩ => ⟨_, hx, rfl, d'.toList.map (fun j => j.val), ?_, ?_, ?_⟩
  · obtain ⟨hz, _, hperm⟩ := hp
    rw [hd0] at hz
    have e1 : d'.extract 0 n = d' := by have := Array.extract_size (xs := d'); rwa [hz] at this
    have e2 : (Array.ofFn fun j : Fin n => j).extract 0 n = Array.ofFn fun j : Fin n => j := by
      have := Array.extract_size (xs := Array.ofFn fun j : Fin n => j)
      rwa [hd0] at this
    rw [e1, e2] at hperm
    have h6 := hperm.map (fun j : Fin n => j.val)
    have e3 : (Array.ofFn fun j : Fin n => j).toList.map (fun j : Fin n => j.val) = List.range n := by
      apply List.ext_getElem
      · simp
      · intro j h1 h2
        simp
    rw [e3] at h6
    exact h6
  · have hz := hp.1
    rw [hd0] at hz
    rw [List.pairwise_map, List.pairwise_iff_getElem]
    intro a b ha hb hab
    have ha' : a < d'.size := by simpa using ha
    have hb' : b < d'.size := by simpa using hb
    have h7 := hso a b (Nat.zero_le _) hab (by omega)
    simp only [ltOf, decide_eq_false_iff_not, getElem!_pos d' a ha', getElem!_pos d' b hb'] at h7
    simpa [LT] using h7
  · subst hw
    have hz := hp.1
    rw [hd0] at hz
    rw [List.map_map]
    exact hS.srtB hk hh hg hs m d' hz os
end Go.Proofs.YtiblelgfkakmiaaGreatDoor.Vc
/-
 The walks of copies and of the reference's tests of partial moves.
-/
namespace Go.Proofs.YtiblelgfkakmiaaGreatDoor.Vc
open Go.RowKit
theorem l01Own_c (A : Option Addr) (n c : Nat) (xs : List Int) (w : World) (hR : RdI w A n xs) (hn : n ≤ 1000000000) : Ret Tryz.prog 86 [.slice A n c] w (fun v w' => ∃ A' c', v = .slice A' n c' ∧ St w w' [CkI 2 A' n c' xs]) := by
 refine Ret.of_cd Tryz.func86 rfl Tryz.ntmps86 rfl (post1 rfl) (Cd.seq (Cd.region (Ops.ms rfl rfl rfl (Ops.n (tQ (Cd.seq (Cd.region (Ops.bs0 (St.refl w) rfl ?_))))))))
 intro A1 w1 hS1
 have hS1 : St w w1 [CkI 2 A1 0 0 []] := hS1
 refine Ops.ms rfl rfl rfl (Ops.appI 0 hS1 rfl (hS1.oldI hR) rfl rfl rfl (by omega) (by omega) rfl ?_)
 intro A2 c2 w2 hS2
 rw [Nat.zero_add] at hS2 ⊢
 refine Ops.ms rfl rfl rfl (Ops.n (tQ (Cd.ret (ret1_s rfl ?_))))
 exact ⟨A2, c2, rfl, hS2⟩
theorem l01Own2_c (A : Option Addr) (n c : Nat) (rs : List SlV) (xss : List (List Int)) (w : World) (hR : RowsI w A n rs xss) (hn : n ≤ 1000000000) (hr : ∀ i, i < n → (rs.getD i slNil).n ≤ 1000000000) :
  Ret Tryz.prog 70 [.slice A n c] w (fun v w' => ∃ A' c' rs', v = .slice A' n c' ∧ rs'.length = n ∧ St w w' (mat 28 2 A' n c' rs' xss)) := by
 refine Ret.of_cd Tryz.func70 rfl Tryz.ntmps70 rfl (post1 rfl) (Cd.seq (Cd.region (Ops.ms rfl rfl rfl (Ops.n (tQ (Cd.seq (Cd.region (Ops.bs0 (St.refl w) rfl ?_))))))))
 intro A1 w1 hS1
 have hS1 : St w w1 [CkR 28 A1 0 0 []] := hS1
 refine Ops.ms rfl rfl rfl (Ops.n (tQ (Cd.seq (Cd.seq (Cd.region (Ops.mi rfl rfl rfl (Ops.n (tQ (Cd.block ?_)))))))))
 refine Cd.loop (α := Nat × Option Addr × Nat × List SlV) (fun s => [(0, .slice A n c), (3, .slice s.2.1 s.1 s.2.2.1), (4, .int .i64 (s.1 : Int))]) (fun s w' => St w w' (CkR 28 s.2.1 s.1 s.2.2.1 s.2.2.2 :: rowsCk 2 s.2.2.2 (xss.take s.1)) ∧ s.1 ≤ n ∧ s.2.2.2.length = s.1) (fun s => n - s.1) (0, A1, 0, []) ⟨rfl, rfl, rfl, trivial⟩ ⟨hS1, Nat.zero_le _, rfl⟩ ?_
 rintro ⟨k, A3, c3, rs1⟩ e w2 ⟨hS2, hk, hlen⟩
 dsimp only at hS2 hk hlen ⊢
 refine Cd.seq (Cd.seq (Cd.region (Ops.mi rfl rfl rfl (Ops.ms rfl rfl rfl (Ops.len rfl rfl (Ops.lss rfl rfl rfl (Ops.n (tQ ?_))))))))
 refine Cd.cond_p _ rfl (fun h1 => ?_) (fun h1 => ?_)
 ·have hk' : k < n := by omega
  have hx : k < xss.length := by rw [hR.len]; exact hk'
  refine Cd.skip (tQ (Cd.seq (Cd.block (Cd.region (Ops.ms rfl rfl rfl (Ops.ms rfl rfl rfl (Ops.mi rfl rfl rfl (Ops.idx (hS2.oldR hR.top).2 rfl rfl rfl (by omega) h1 (Ops.ld_sl (hS2.oldR hR.top) rfl (by omega) rfl rfl ?_)))))))))
  refine Ops.call (l01Own_c _ _ _ _ _ (hS2.oldI (hR.at_ (i := k) (by omega) h1)) (hr k hk')) rfl rfl rfl ?_
  rintro _ w3 ⟨A4, c4, rfl, hS3⟩
  have hS3 := hS2.call hS3
  refine Ops.bs1R hS3 rfl rfl rfl ?_
  intro A5 w4 hS4
  refine Ops.appR 2 hS4 rfl (hS4.rdR 0 rfl) rfl rfl rfl (by omega) (by omega) rfl ?_
  intro A6 c6 w5 hS5
  refine Ops.ms rfl rfl rfl (Ops.n (blockQ_n (tQ (Cd.region (Ops.mi rfl rfl rfl (Ops.add rfl rfl rfl (by omega) (Ops.mi rfl rfl rfl (Ops.n (tQ ?_)))))))))
  refine ⟨(k + 1, A6, c6, rs1 ++ [⟨A4, (rg rs k).n, c4⟩]), by show n - (k + 1) < n - k; omega, ⟨rfl, rfl, rfl, trivial⟩, ?_, hk', by simp [hlen]⟩
  have e2 : gl xss k = xss[k] := by simp [gl, List.getD_eq_getElem?_getD, List.getElem?_eq_getElem hx]
  show St w w5 (CkR _ A6 (k + 1) c6 (rs1 ++ [_]) :: rowsCk _ (rs1 ++ [_]) (xss.take (k + 1)))
  rw [List.take_succ_eq_append_getElem hx, rowsCk_append (by simp [hlen]; omega)]
  have h5 : St w w5 (CkI 2 A4 (rg rs k).n c4 (gl xss k) :: CkR 28 A6 (k + 1) c6 (rs1 ++ [⟨A4, (rg rs k).n, c4⟩]) :: rowsCk 2 rs1 (xss.take k)) := hS5.tail
  rw [e2] at h5
  refine h5.perm ?_
  refine (List.Perm.swap _ _ _).trans (List.Perm.cons _ ?_)
  exact List.perm_append_comm (l₁ := [_])
 ·refine Cd.exit (thenQ_x (thenQ_x (blockQ_x (tQ (Cd.seq (Cd.region (Ops.ms rfl rfl rfl (Ops.ms rfl rfl rfl (Ops.n ?_)))))))))
  refine tQ (Cd.ret (ret1_s rfl ?_))
  have : k = n := by omega
  subst this
  rw [← hR.len, List.take_length] at hS2
  exact ⟨A3, c3, rs1, rfl, hlen, by rw [← hR.len]; exact hS2⟩
def Rng (n F : Nat) (M : List (List Int)) : Prop := ∀ (i : Nat) (f : Int), i < n → 0 ≤ f → f < F → cell M i f < F
/-
 The walk of the reference's search for rooted forms.
-/
def body (n F : Nat) (ok : List (List Int) → Nat → Nat → Bool) (fin : List (List Int) → Bool) (k at_ met : Nat) (M : List (List Int)) (g : Nat) : List (List (List Int)) :=
 if 0 ≤ cell M (at_ % n) (g : Nat) then [] else if ok (put M (at_ % n) (at_ / n) g) (at_ % n) (at_ / n) = true then grow n F ok fin k (at_ + 1) (max met (g + 1)) (put M (at_ % n) (at_ / n) g) else []
/-
 The walk of the reference's search for rooted forms.
-/
end Go.Proofs.YtiblelgfkakmiaaGreatDoor.Vc
/-
 Plain mathematics: how many rooted forms there can be.
-/
namespace Go.Proofs.YtiblelgfkakmiaaGreatDoor.Vc
def dft : Nat → Nat
 | 0 => 1
 | 1 => 0
 | u + 2 => (u + 1) * dft u
def prod : List Nat → Nat
 | [] => 1
 | x :: l => x * prod l
def phi (M : List (List Int)) : Nat := prod (M.map fun p => dft (unl p))
theorem prod_set : ∀ (l : List Nat) (i k x : Nat) (h : i < l.length), l[i] = k * x → prod l = k * prod (l.set i x)
 | [], i, _, _, h, _ => by simp at h
 | y :: l, 0, k, x, _, e => by
  simp at e; subst e
  simp [prod, Nat.mul_assoc]
 | y :: l, i + 1, k, x, h, e => by
  have := prod_set l i k x (by simpa using h) (by simpa using e)
  simp only [prod, List.set_cons_succ, this]
  rw [Nat.mul_left_comm]
theorem prod_one : ∀ (l : List Nat), (∀ x ∈ l, x = 1) → prod l = 1
 | [], _ => rfl
 | x :: l, h => by simp [prod, h x (by simp), prod_one l (fun y hy => h y (by simp [hy]))]
theorem sum_le {α : Type} (f : Nat → List α) (p : Nat → Bool) (X : Nat) : ∀ (l : List Nat), (∀ g ∈ l, (f g).length ≤ if p g = true then X else 0) → (l.flatMap f).length ≤ l.countP p * X
 | [], _ => by simp
 | g :: l, h => by
  have h1 := h g (by simp)
  have h2 := sum_le f p X l (fun x hx => h x (by simp [hx]))
  rw [List.flatMap_cons, List.length_append, List.countP_cons]
  by_cases hp : p g = true
  ·rw [if_pos hp] at h1 ⊢
   rw [Nat.add_mul, Nat.one_mul]; omega
  ·rw [if_neg hp] at h1 ⊢
   rw [Nat.add_zero]
   omega
theorem behind_le {p : List Int} {q c : Nat} (hq : q < p.length) (hn : gi p q < 0) (hc : q + 1 + c ≤ p.length) : (List.range' (q + 1) c).countP (fun g => decide (gi p (g : Nat) < 0)) + 1 ≤ unl p := by
 have e1 : (List.range' (q + 1) c).map (fun g => gi p (g : Nat)) = (p.drop (q + 1)).take c := by
  apply List.ext_getElem
  ·simp; omega
  ·intro i h1 h2
   have hi : i < c := by simpa using h1
   rw [List.getElem_map, List.getElem_range', gi_mem (by omega)]
   simp
 have e2 : (List.range' (q + 1) c).countP (fun g => decide (gi p (g : Nat) < 0)) = ((p.drop (q + 1)).take c).countP (fun x => decide (x < 0)) := by
  rw [← e1, List.countP_map]; rfl
 have e3 : ((p.drop (q + 1)).take c).countP (fun x => decide (x < 0)) ≤ (p.drop (q + 1)).countP (fun x => decide (x < 0)) := (List.take_sublist _ _).countP_le
 have e4 : unl p = (p.take (q + 1)).countP (fun x => decide (x < 0)) + (p.drop (q + 1)).countP (fun x => decide (x < 0)) := by
  unfold unl
  rw [← List.countP_append, List.take_append_drop]
 have e5 : 0 < (p.take (q + 1)).countP (fun x => decide (x < 0)) := List.countP_pos_iff.2 ⟨gi p q, by rw [take_succ_gi hq]; simp, by simpa using hn⟩
 omega
section
variable {n F : Nat} {M : List (List Int)} {met at_ : Nat}
theorem phi_put (h : Shp n F M) {r q g : Nat} (hr : r < n) (hq : q < F) (hg : g < F) (hqg : q ≠ g) (h1 : cell M r q < 0) (h2 : cell M r g < 0) {u : Nat} (hu : unl (gl M r) = u + 2) : phi (put M r q g) = prod ((M.map fun p => dft (unl p)).set r (dft u)) ∧ phi M = (u + 1) * prod ((M.map fun p => dft (unl p)).set r (dft u)) := by
 have hl := h.1
 have hrow := h.row hr
 have hp1 : unl ((gl M r).set q (g : Int)) + 1 = unl (gl M r) := by
  have := unl_set (L := gl M r) (x := (q : Int)) (c := (g : Int)) (by omega) (by omega) h1 (by omega)
  rwa [Int.toNat_natCast] at this
 have e2 : gi ((gl M r).set q (g : Int)) g = gi (gl M r) g := by
  have := gi_set (S := gl M r) (x := (q : Int)) (y := (g : Int)) (b := (g : Int)) (by omega) (by omega) (by omega)
  rw [Int.toNat_natCast, if_neg (by omega)] at this
  exact this
 have hp2 : unl (((gl M r).set q (g : Int)).set g (q : Int)) + 1 = unl ((gl M r).set q (g : Int)) := by
  have := unl_set (L := (gl M r).set q (g : Int)) (x := (g : Int)) (c := (q : Int)) (by omega) (by simp; omega) (by rw [e2]; exact h2) (by omega)
  rwa [Int.toNat_natCast] at this
 have hu2 : unl (((gl M r).set q (g : Int)).set g (q : Int)) = u := by omega
 have hput : put M r q g = M.set r (((gl M r).set q (g : Int)).set g (q : Int)) := by
  unfold put setc
  rw [gl_set (by omega), if_pos rfl, List.set_set]
 have hgr : M[r]'(by omega) = gl M r := (gl_mem (by omega)).symm
 unfold phi
 rw [hput, List.map_set, hu2]
 refine ⟨rfl, ?_⟩
 refine prod_set _ r (u + 1) (dft u) (by simp; omega) ?_
 rw [List.getElem_map, hgr, hu]; rfl
theorem grow_le_phi : ∀ (k at_ met : Nat) (M : List (List Int)), Inv n F M met at_ → (grow n F (fun _ _ _ => true) (fun _ => true) k at_ met M).length ≤ phi M
 | 0, _, _, _, _ => by simp [grow]
 | k + 1, at_, met, M, h => by
  simp only [grow]
  split
  ·rename_i ha
   split
   ·rename_i hm
    have hm1 := hm.1
    subst hm1
    have hI : Inv n met M met (met * n) := by rw [← ha]; exact h
    have : phi M = 1 := prod_one _ (fun x hx => by
     obtain ⟨p, hp, rfl⟩ := List.mem_map.1 hx
     obtain ⟨i, hi, rfl⟩ := List.mem_iff_getElem.1 hp
     have hin : i < n := by rw [← h.shp.1]; exact hi
     have e : M[i] = gl M i := (gl_mem hi).symm
     have : unl M[i] = 0 := by
      rw [e]
      refine List.countP_eq_zero.2 fun x hx => ?_
      obtain ⟨j, hj, rfl⟩ := List.mem_iff_getElem.1 hx
      have := hI.full (i := i) (f := (j : Int)) hin (by omega) (by rw [h.shp.row hin] at hj; omega)
      rw [← gi_mem hj]
      have h3 : 0 ≤ gi (gl M i) (j : Int) := this
      simp; omega
     rw [this]; rfl)
    simp [this]
   ·simp
  ·rename_i ha
   split
   ·rename_i hk
    exact grow_le_phi k _ _ _ (h.next ha hk)
   ·rename_i hk
    have hp := h.pos ha
    have hF := h.metF
    have hrow := h.shp.row hp.1
    have hqF : at_ / n < F := by omega
    have hrg := fun g hg => range_mem h ha (g := g) hg
    have hput := fun g (h1 : at_ / n < g) (h2 : g ≤ met) (h3 : g < F) h4 => h.put ha hk (g := g) h1 h2 h3 h4
    generalize hr : at_ % n = r at *
    generalize hq : at_ / n = q at *
    have hkn : gi (gl M (r : Nat)) (q : Nat) < 0 := Int.not_le.1 hk
    have hm1 := h.met1
    have hbeh := behind_le (p := gl M (r : Nat)) (q := q) (c := min met (F - 1) - q) (by omega) hkn (by omega)
    obtain ⟨u, hu⟩ : ∃ u, unl (gl M (r : Nat)) = u + 1 := ⟨unl (gl M (r : Nat)) - 1, by omega⟩
    refine Nat.le_trans (sum_le _ (fun g => decide (gi (gl M (r : Nat)) (g : Nat) < 0)) (prod ((M.map fun p => dft (unl p)).set r (dft (u - 1)))) _ (fun g hg => ?_)) ?_
    ·have hgr := hrg g hg
     by_cases hgc : 0 ≤ cell M r (g : Nat)
     ·rw [if_pos hgc]; exact Nat.zero_le _
     ·have hgn : gi (gl M (r : Nat)) (g : Nat) < 0 := Int.not_le.1 hgc
      rw [if_neg hgc, if_pos trivial, if_pos (decide_eq_true hgn)]
      have hcnt : 0 < (List.range' (q + 1) (min met (F - 1) - q)).countP (fun g => decide (gi (gl M (r : Nat)) (g : Nat) < 0)) := List.countP_pos_iff.2 ⟨g, hg, decide_eq_true hgn⟩
      obtain ⟨u', rfl⟩ : ∃ u', u = u' + 1 := ⟨u - 1, by omega⟩
      have hphi := phi_put h.shp hp.1 hqF hgr.2.2 (by omega) (by omega) (by omega) hu
      rw [show u' + 1 - 1 = u' by omega, ← hphi.1]
      exact grow_le_phi k _ _ _ (hput g hgr.1 hgr.2.1 hgr.2.2 hgc)
    ·by_cases hu0 : u = 0
     ·have : (List.range' (q + 1) (min met (F - 1) - q)).countP (fun g => decide (gi (gl M (r : Nat)) (g : Nat) < 0)) = 0 := by omega
      rw [this, Nat.zero_mul]; exact Nat.zero_le _
     ·obtain ⟨u', rfl⟩ : ∃ u', u = u' + 1 := ⟨u - 1, by omega⟩
      rw [show u' + 1 - 1 = u' by omega]
      have hfac : phi M = (u' + 1) * prod ((M.map fun p => dft (unl p)).set r (dft u')) := by
       unfold phi
       have hl := h.shp.1
       refine prod_set _ r (u' + 1) (dft u') (by simp; omega) ?_
       rw [List.getElem_map, show M[r]'(by omega) = gl M r from (gl_mem (by omega)).symm, hu]; rfl
      rw [hfac]
      exact Nat.mul_le_mul_right _ (by omega)
def bad0 (n : Nat) (M : List (List Int)) : Bool := (List.range n).any fun i => (List.range n).any fun k => decide (i + 2 ≤ k ∧ 0 ≤ cell M i 0 ∧ cell M i 0 = cell M k 0)
def wt (n F : Nat) : Nat → Nat → Nat → List (List Int) → Nat
 | 0, _, _, M => if bad0 n M = true then 0 else phi M
 | j + 1, at_, met, M =>
  if at_ = met * n then 1
  else if 0 ≤ cell M (at_ % n) (at_ / n : Nat) then wt n F j (at_ + 1) met M
  else ((List.range' (at_ / n + 1) (min met (F - 1) - at_ / n)).map fun g => if 0 ≤ cell M (at_ % n) (g : Nat) then 0 else wt n F j (at_ + 1) (max met (g + 1)) (put M (at_ % n) (at_ / n) g)).sum
theorem forms_bad (h : Inv n F M met at_) (hb : bad0 n M = true) (k : Nat) : forms n F k at_ met M = [] := by
 unfold forms
 rw [List.filter_eq_nil_iff]
 intro L hL hV
 have h1 := grow_leaf k _ _ _ h L hL
 have hV := of_decide_eq_true hV
 simp only [bad0, List.any_eq_true, decide_eq_true_eq, List.mem_range] at hb
 obtain ⟨i, hi, k', hk', hik, h0, he⟩ := hb
 have hF : 0 < F := by have := h.met1; have := h.metF; omega
 have h2 := hV.cells h1.2 hi hk' hik (f := 0) (by omega) (by omega)
 rw [h1.1 i 0 hi (by omega) (by omega) h0, h1.1 k' 0 hk' (by omega) (by omega) (by rw [← he]; exact h0)] at h2
 exact h2.2 he
theorem sum_le2 {α : Type} (f : Nat → List α) (c : Nat → Nat) : ∀ (l : List Nat), (∀ g ∈ l, (f g).length ≤ c g) → (l.flatMap f).length ≤ (l.map c).sum
 | [], _ => by simp
 | g :: l, h => by
  have h1 := h g (by simp)
  have h2 := sum_le2 f c l (fun x hx => h x (by simp [hx]))
  rw [List.flatMap_cons, List.length_append, List.map_cons, List.sum_cons]
  omega
end
end Go.Proofs.YtiblelgfkakmiaaGreatDoor.Vc
/-
 The walks of the reference's list of rooted forms and of its count.
-/
namespace Go.Proofs.YtiblelgfkakmiaaGreatDoor.Vc
open Go.RowKit
def Small (rank flags : Int) : Prop := (1 ≤ rank ∧ rank ≤ 4) ∧ (2 ≤ flags ∧ flags ≤ 12)
instance (rank flags : Int) : Decidable (Small rank flags) := by unfold Small; exact inferInstance
def cnt1 (rank flags : Int) : Int := if Small rank flags then ((forms rank.toNat flags.toNat (flags.toNat * rank.toNat + 1) 0 1 (blank rank.toNat flags.toNat)).length : Int) else 0
def cnt2 (rank flags : Int) : Int := if Small rank flags then 0 else 2
/-
 The walks of the program's copies and of its test of a move.
-/
theorem Clone_c (A : Option Addr) (n c : Nat) (xs : List Int) (w : World) (hR : RdI w A n xs) (hn : n ≤ 1000000000) : Ret Tryz.prog 78 [.slice A n c] w (fun v w' => ∃ A' c', v = .slice A' n c' ∧ St w w' [CkI 2 A' n c' xs]) := by
 cases hA : A with
 | none =>
  subst hA
  have hn0 : n = 0 := by
   apply Classical.byContradiction
   intro h
   obtain ⟨p, hp, _⟩ := hR.2 0 (by omega)
   simp [ptrAt] at hp
  subst hn0
  have hx : xs = [] := List.eq_nil_of_length_eq_zero hR.1
  subst hx
  refine Ret.of_cd Tryz.func78 rfl Tryz.ntmps78 rfl (post1 rfl) (Cd.seq (Cd.region (Ops.ms rfl rfl rfl (Ops.n (tQ (Cd.seq (Cd.seq (Cd.region (Ops.ms rfl rfl rfl ?_)))))))))
  refine Ops.eqNil rfl rfl rfl (Ops.n (tQ (Cd.cond_t rfl (Cd.seq (Cd.region (Ops.ms rfl rfl rfl (Ops.n (tQ (Cd.ret ?_)))))))))
  refine thenQ_r (ret1_s rfl ?_)
  exact ⟨none, 0, rfl, (St.refl w).nil _⟩
 | some a =>
  subst hA
  refine Ret.of_cd Tryz.func78 rfl Tryz.ntmps78 rfl (post1 rfl) (Cd.seq (Cd.region (Ops.ms rfl rfl rfl (Ops.n (tQ (Cd.seq (Cd.seq (Cd.region (Ops.ms rfl rfl rfl ?_)))))))))
  refine Ops.eqNil rfl rfl rfl (Ops.n (tQ (Cd.cond_f rfl (Cd.skip (tQ (Cd.seq (Cd.region (Ops.bs0 (St.refl w) rfl ?_))))))))
  intro A1 w1 hS1
  have hS1 : St w w1 [CkI 2 A1 0 0 []] := hS1
  refine Ops.ms rfl rfl rfl (Ops.appI 0 hS1 rfl (hS1.oldI hR) rfl rfl rfl (by omega) (by omega) rfl ?_)
  intro A2 c2 w2 hS2
  rw [Nat.zero_add] at hS2 ⊢
  refine Ops.ms rfl rfl rfl (Ops.n (tQ (Cd.ret (ret1_s rfl ?_))))
  exact ⟨A2, c2, rfl, hS2⟩
/-
 The walks of the reference's forms.
-/
section
variable {P : Program} {N : Nat} {ops : Array Oper} {K : Env → World → Prop} {rest : List Oper} {e : Env} {w : World} {d : Nat} {ty : TypeId} {pos : String} {af : Array Edge}
end
/-
 The walks of forms on both sides.
-/
/-
 Small rules and lemmas that several walks share.
-/
section
variable {P : Program} {N : Nat} {ops : Array Oper} {K : Env → World → Prop} {rest : List Oper} {e : Env} {w : World} {d : Nat} {ty : TypeId} {pos : String} {af : Array Edge}
theorem Ops.fn1 {F : FuncId} {x : Operand} {v1 : Value} (hx : ev e x = v1) (hb : Nat.blt d N = true) (hK : Ops P N ops K rest (upd e d (.func (.func F) #[] #[v1])) w) :
  Ops P N ops K (⟨some d, .makeFunc (.func F) #[] #[x], ty, pos, af, none⟩ :: rest) e w :=
 .val (by simp [execOp, Instr.makeFunc, hx]) hb hK
end
/-
 The ends of edges on both sides.
-/
def bag (Vl El : List Int) (m : Nat) : Nat → List (List Int)
 | 0 => List.replicate m []
 | f + 1 => (bag Vl El m f).set (gi El f).toNat (gl (bag Vl El m f) (gi El f) ++ [gi Vl f])
theorem bag_len (Vl El : List Int) (m : Nat) : ∀ f, (bag Vl El m f).length = m
 | 0 => by simp [bag]
 | f + 1 => by rw [bag, List.length_set, bag_len Vl El m f]
theorem gl_set2 {L : List (List Int)} {i : Nat} {l : List Int} (e : Int) (he : 0 ≤ e) (hi : i < L.length) : gl (L.set i l) e = if (i : Int) = e then l else gl L e := by
 obtain ⟨j, rfl⟩ : ∃ j : Nat, e = j := ⟨e.toNat, by omega⟩
 simp only [gl, Int.toNat_natCast, List.getD_eq_getElem?_getD, List.getElem?_set]
 by_cases h : i = j
 ·subst h; rw [if_pos rfl, if_pos rfl, if_pos hi]; rfl
 ·rw [if_neg h, if_neg (by omega)]
def ends (Vl El : List Int) (m f : Nat) : List (List Int) := (bag Vl El m f).map cs
def edgesN (xss : List (List Int)) : Nat := (facesN xss 1).toNat
def endsL (xss : List (List Int)) : List (List Int) := ends (facesL xss 0) (facesL xss 1) (edgesN xss) (gl xss 0).length
/-
 The ends of edges on the program's side, and the answers on both.
-/
def AnsSS (L : List (List Int)) (K : Int) (w : World) (v : Value) (w' : World) : Prop := ∃ A' c' rs', v = .tuple #[.slice A' L.length c', .int .i64 K] ∧ rs'.length = L.length ∧ St w w' (mat 28 2 A' L.length c' rs' L ++ [])
def eoeL (xss : List (List Int)) : List (List Int) := if Grph xss then endsL xss else []
def mixL (B : List (List Int)) (e : Nat) : List (List Int) := (B.take e).map cs ++ B.drop e
/-
 Neighbours: what they are, and the reference's walk.
-/
theorem sort0_c {w0 w : World} {ks : List Ck} (i : Nat) {t : TypeId} {A : Option Addr} {n c : Nat} {xs : List Int} (hS : St w0 w ks) (hk : ks[i]? = some (CkI t A n c xs)) (hn : n ≤ 1000000000) :
  Ret Tryz.prog 79 [.slice A n c] w (fun v w' => v = .tuple #[] ∧ St w0 w' (ks.set i (CkI t A n c (srt xs)))) := by
 by_cases h0 : 0 < n
 ·exact sort_c i hS hk h0 hn
 ·obtain rfl : n = 0 := by omega
  have hxl := hS.lenI i hk
  obtain rfl := List.eq_nil_of_length_eq_zero hxl
  refine Calls.mono (AnyM.slices_Sort_int_none lsort A c w) fun x w' ⟨hx, hw⟩ => ⟨_, hx, rfl, ?_⟩
  subst hw
  have e : srt [] = [] := List.eq_nil_of_length_eq_zero (srt_perm []).length_eq
  rw [e, set_id hk]
  exact hS
theorem compact0_c {w0 w : World} {ks : List Ck} (i : Nat) {t : TypeId} {A : Option Addr} {n c : Nat} {xs : List Int} (hS : St w0 w ks) (hk : ks[i]? = some (CkI t A n c xs)) (hn : n ≤ 1000000000) :
  Ret Tryz.prog 80 [.slice A n c] w (fun v w' => v = .slice A (cmpL xs).length c ∧ St w0 w' (ks.set i (CkI t A (cmpL xs).length c (cmpL xs)))) := by
 by_cases h0 : 0 < n
 ·exact compact_c i hS hk h0 hn
 ·obtain rfl : n = 0 := by omega
  have hxl := hS.lenI i hk
  obtain rfl := List.eq_nil_of_length_eq_zero hxl
  have e : cmpL [] = [] := List.eq_nil_of_length_eq_zero (Nat.le_zero.1 (cmpL_len []))
  rw [e]
  refine Ret.of_cd Tryz.func80 rfl Tryz.ntmps80 rfl (post1 rfl) (Cd.seq (Cd.region (Ops.ms rfl rfl rfl (Ops.n (tQ (Cd.seq (Cd.seq (Cd.region (Ops.ms rfl rfl rfl ?_)))))))))
  refine Ops.len rfl rfl (Ops.lss rfl rfl rfl (Ops.n (tQ ?_)))
  refine Cd.cond_pt rfl (by decide) ?_
  refine Cd.seq (Cd.region (Ops.ms rfl rfl rfl (Ops.ms rfl rfl rfl (Ops.n (tQ (Cd.ret (thenQ_r (ret1_s rfl ?_))))))))
  exact ⟨rfl, by rw [show ([] : List Int).length = 0 from rfl, set_id hk]; exact hS⟩
/-! lists filled by pairs: a place, and what is put there -/
def bagP (m : Nat) (ps : List (Int × Int)) : List (List Int) := ps.foldl (fun B p => B.set p.1.toNat (gl B p.1 ++ [p.2])) (List.replicate m [])
theorem snoc_ind {α : Type} {P : List α → Prop} (h0 : P []) (h1 : ∀ l a, P l → P (l ++ [a])) (l : List α) : P l := by
 have : ∀ (n : Nat) (l : List α), l.length = n → P l := by
  intro n
  induction n with
  | zero => intro l hl; rw [List.eq_nil_of_length_eq_zero hl]; exact h0
  | succ n ih =>
   intro l hl
   have hne : l ≠ [] := by intro e; rw [e] at hl; simp at hl
   rw [← List.dropLast_concat_getLast hne]
   exact h1 _ _ (ih _ (by simp [hl]))
 exact this _ l rfl
theorem gl_blank (m : Nat) (e : Int) : gl (List.replicate m ([] : List Int)) e = [] := by
 simp only [gl, List.getD_eq_getElem?_getD, List.getElem?_replicate]
 split <;> rfl
def endsP (m : Nat) (ps : List (Int × Int)) : List (List Int) := (bagP m ps).map cs
/-! the vertices at an edge's ends -/
def vertsN (xss : List (List Int)) : Nat := (facesN xss 0).toNat
def arcs (En : List (List Int)) : Nat → List (Int × Int)
 | 0 => []
 | e + 1 => if (gl En e).length = 2 then (arcs En e ++ [(gi (gl En e) 0, gi (gl En e) 1)]) ++ [(gi (gl En e) 1, gi (gl En e) 0)] else arcs En e
theorem two_in {l : List Int} {b : Int} (h : ∀ x ∈ l, 0 ≤ x ∧ x < b) (h2 : l.length = 2) : (0 ≤ gi l 0 ∧ gi l 0 < b) ∧ 0 ≤ gi l 1 ∧ gi l 1 < b :=
 ⟨by rw [show (0 : Int) = ((0 : Nat) : Int) from rfl, gi_mem (by omega)]; exact h _ (List.getElem_mem _), by rw [show (1 : Int) = ((1 : Nat) : Int) from rfl, gi_mem (by omega)]; exact h _ (List.getElem_mem _)⟩
def nbL (xss : List (List Int)) : List (List Int) := endsP (vertsN xss) (arcs (endsL xss) (edgesN xss))
/-
 Neighbours on the program's side, and the answers on both.
-/
def nboL (xss : List (List Int)) : List (List Int) := if Grph xss then nbL xss else []
/-
 The walks of the lengths of holes and zigzags on both sides.
-/
def holeL (xss : List (List Int)) (j : Int) : List Int := if holeK xss j = 0 then wordL xss (holeW (j - 1).toNat) else []
def zigL (xss : List (List Int)) (j : Int) : List Int := if holeK xss j = 0 then wordL xss (zigW j.toNat) else []
/-
 The walks of the lengths of a word on both sides.
-/
section
variable {P : Program} {N : Nat} {ops : Array Oper} {K : Env → World → Prop} {rest : List Oper} {e : Env} {w : World} {d : Nat} {ty : TypeId} {pos : String} {af : Array Edge}
theorem Ops.fn2 {F : FuncId} {x y : Operand} {v1 v2 : Value} (hx : ev e x = v1) (hy : ev e y = v2) (hb : Nat.blt d N = true) (hK : Ops P N ops K rest (upd e d (.func (.func F) #[] #[v1, v2])) w) :
  Ops P N ops K (⟨some d, .makeFunc (.func F) #[] #[x, y], ty, pos, af, none⟩ :: rest) e w :=
 .val (by simp [execOp, Instr.makeFunc, hx, hy]) hb hK
end
def allIn (lo hi : Int) (xs : List Int) : Prop := ∀ x ∈ xs, lo ≤ x ∧ x ≤ hi
instance (lo hi : Int) (xs : List Int) : Decidable (allIn lo hi xs) := by unfold allIn; exact inferInstance
theorem areWithin1_c (x lo hi : Int) (P1 P2 : Option Addr) (w : World) (h1 : Rd w P1 1 (fun _ => .int .i64 lo)) (h2 : Rd w P2 1 (fun _ => .int .i64 hi)) :
  Ret Tryz.prog 99 [.int .i64 x, .pointer P1, .pointer P2] w (fun v w' => v = .bool (decide (¬ (lo ≤ x ∧ x ≤ hi))) ∧ w' = w) := by
 refine Ret.of_cd Tryz.func99 rfl Tryz.ntmps99 rfl (post1 rfl) (Cd.seq (Cd.region (Ops.mb rfl rfl rfl (Ops.n (tQ (Cd.seq (Cd.region (Ops.mi rfl rfl rfl ?_))))))))
 refine Ops.ld h1 (by exact congrArg Value.pointer (ptrAt_zero P1).symm) (by decide) rfl rfl rfl ?_
 refine Ops.ld h2 (by exact congrArg Value.pointer (ptrAt_zero P2).symm) (by decide) rfl rfl rfl ?_
 refine Ops.call (within_c _ _ _ _) rfl rfl rfl ?_
 rintro _ w ⟨rfl, rfl⟩
 first | refine Ops.not_p rfl rfl ?_ | refine Ops.not rfl rfl ?_
 refine Ops.mb rfl rfl rfl (Ops.n (tQ (Cd.ret (ret1_b rfl ?_))))
 exact ⟨rfl, rfl⟩
theorem IndexFunc_c (A : Option Addr) (n c : Nat) (xs : List Int) (lo hi : Int) (P1 P2 : Option Addr) (w : World) (hR : RdI w A n xs) (hn : n ≤ 9223372036854775807) (h1 : Rd w P1 1 (fun _ => .int .i64 lo)) (h2 : Rd w P2 1 (fun _ => .int .i64 hi)) :
  Ret Tryz.prog 118 [.slice A n c, .func (.func 99) #[] #[.pointer P1, .pointer P2]] w (fun v w' => (∃ i : Int, v = .int .i64 i ∧ (0 ≤ i ↔ ¬ allIn lo hi xs)) ∧ w' = w) := by
 have hxl := hR.1
 refine Ret.of_cd Tryz.func118 rfl Tryz.ntmps118 rfl (post1 rfl) (Cd.seq (Cd.region (Ops.mi rfl rfl rfl (Ops.n (tQ (Cd.seq (Cd.seq (Cd.region (Ops.ms rfl rfl rfl ?_)))))))))
 refine Ops.len rfl rfl (Ops.mi rfl rfl rfl (Ops.n (tQ (Cd.block ?_))))
 refine Cd.loop (α := Nat) (fun k => [(0, .slice A n c), (1, .func (.func 99) #[] #[.pointer P1, .pointer P2]), (7, .int .i64 (n : Int)), (8, .int .i64 (k : Int))]) (fun k w' => w' = w ∧ k ≤ n ∧ ∀ j, j < k → lo ≤ gi xs (j : Nat) ∧ gi xs (j : Nat) ≤ hi) (fun k => n - k) 0 ⟨rfl, rfl, rfl, rfl, trivial⟩ ⟨rfl, Nat.zero_le _, fun j hj => by omega⟩ ?_
 rintro k e w ⟨rfl, hk, hK⟩
 refine Cd.seq (Cd.region (Ops.lss rfl rfl rfl (Ops.n (tQ (Cd.seq ?_)))))
 refine Cd.cond_p _ rfl (fun h3 => ?_) (fun h3 => ?_)
 ·refine Cd.skip (tQ (Cd.seq (Cd.block (Cd.seq (Cd.region (Ops.mi rfl rfl rfl (Ops.mi rfl rfl rfl (Ops.n (tQ ?_)))))))))
  refine Cd.seq (Cd.region (Ops.mv_fn rfl rfl rfl (Ops.ms rfl rfl rfl (Ops.mi rfl rfl rfl (Ops.idx hR.2 rfl rfl rfl (by omega) (by omega) (Ops.ld_int hR rfl (by omega) rfl rfl (Ops.call (areWithin1_c _ lo hi P1 P2 _ h1 h2) rfl rfl rfl ?_)))))))
  rintro _ w ⟨rfl, rfl⟩
  refine Ops.n (tQ ?_)
  refine Cd.cond_p _ rfl (fun h4 => ?_) (fun h4 => ?_)
  ·refine Cd.seq (Cd.region (Ops.mi rfl rfl rfl (Ops.mi rfl rfl rfl (Ops.n (tQ (Cd.ret (blockQ_r (thenQ_r (thenQ_r ?_)))))))))
   refine blockQ_r (thenQ_r (ret1_i rfl ?_))
   exact ⟨⟨(k : Int), rfl, ⟨fun _ ha => h4 (by rw [gi_mem (by omega)]; exact ha _ (List.getElem_mem _)), fun _ => by omega⟩⟩, rfl⟩
  ·refine Cd.skip (blockQ_n (tQ (Cd.region (Ops.add rfl rfl rfl (by omega) (Ops.mi rfl rfl rfl (Ops.n (tQ ?_)))))))
   refine ⟨k + 1, by show n - (k + 1) < n - k; omega, ⟨rfl, rfl, rfl, rfl, trivial⟩, rfl, by omega, fun j hj => ?_⟩
   by_cases ej : j = k
   ·subst ej; exact Classical.not_not.1 h4
   ·exact hK j (by omega)
 ·refine Cd.exit (thenQ_x (thenQ_x (blockQ_x (tQ (Cd.seq (Cd.region (Ops.mi rfl rfl rfl (Ops.n (tQ ?_)))))))))
  refine Cd.ret (ret1_i rfl ?_)
  refine ⟨⟨-1, rfl, ⟨fun h => absurd h (by decide), fun h => absurd (fun x hx => ?_) h⟩⟩, rfl⟩
  obtain ⟨j, hj, rfl⟩ := List.mem_iff_getElem.1 hx
  have := hK j (by omega)
  rwa [gi_mem hj] at this
theorem ContainsFunc_c (A : Option Addr) (n c : Nat) (xs : List Int) (lo hi : Int) (P1 P2 : Option Addr) (w : World) (hR : RdI w A n xs) (hn : n ≤ 9223372036854775807) (h1 : Rd w P1 1 (fun _ => .int .i64 lo)) (h2 : Rd w P2 1 (fun _ => .int .i64 hi)) :
  Ret Tryz.prog 91 [.slice A n c, .func (.func 99) #[] #[.pointer P1, .pointer P2]] w (fun v w' => v = .bool (decide (¬ allIn lo hi xs)) ∧ w' = w) := by
 refine Ret.of_cd Tryz.func91 rfl Tryz.ntmps91 rfl (post1 rfl) (Cd.seq (Cd.region (Ops.mb rfl rfl rfl (Ops.n (tQ (Cd.seq (Cd.region (Ops.ms rfl rfl rfl (Ops.mv_fn rfl rfl rfl ?_)))))))))
 refine Ops.call (IndexFunc_c A n c xs lo hi P1 P2 _ hR hn h1 h2) rfl rfl rfl ?_
 rintro _ w ⟨⟨i, rfl, hi'⟩, rfl⟩
 refine Ops.geq rfl rfl rfl (Ops.mb rfl rfl rfl (Ops.n (tQ (Cd.ret (ret1_b rfl ?_)))))
 exact ⟨congrArg Value.bool (decide_eq_decide.2 hi'), rfl⟩
theorem areWithin_c (A : Option Addr) (n c : Nat) (xs : List Int) (lo hi : Int) (w : World) (hR : RdI w A n xs) (hn : n ≤ 9223372036854775807) :
  Ret Tryz.prog 60 [.slice A n c, .int .i64 lo, .int .i64 hi] w (fun v w' => v = .bool (decide (allIn lo hi xs)) ∧ St w w' []) := by
 refine Ret.of_cd Tryz.func60 rfl Tryz.ntmps60 rfl (post1 rfl) (Cd.seq (Cd.region ?_))
 refine Ops.box (v := .int .i64 lo) (St.refl w) rfl rfl (by show (1 : Nat) ≤ maxLen; simp [maxLen]) ?_
 intro P1 w1 hS1
 have hS1 : St w w1 [Bx 2 1 P1 [.int .i64 lo]] := hS1
 refine Ops.box (v := .int .i64 hi) hS1 rfl rfl (by show (1 : Nat) ≤ maxLen; simp [maxLen]) ?_
 intro P2 w2 hS2
 have hS2 : St w w2 [Bx 2 1 P2 [.int .i64 hi], Bx 2 1 P1 [.int .i64 lo]] := hS2
 refine Ops.mb rfl rfl rfl (Ops.n (tQ (Cd.seq (Cd.region (Ops.ms rfl rfl rfl (Ops.fn2 rfl rfl rfl ?_))))))
 skip
 refine Ops.call (ContainsFunc_c A n c xs lo hi P1 P2 _ (hS2.oldI hR) hn (Rd.one (hS2.rd 1 rfl)) (Rd.one (hS2.rd 0 rfl))) rfl rfl rfl ?_
 rintro _ w2 ⟨rfl, rfl⟩
 first | refine Ops.not_p rfl rfl ?_ | refine Ops.not rfl rfl ?_
 refine Ops.mb rfl rfl rfl (Ops.n (tQ (Cd.ret (ret1_b rfl ?_))))
 exact ⟨by simp, hS2.none⟩
def IsW (n : Nat) (ws : List Int) : Prop := allIn 0 ((n : Int) - 1) ws ∧ ws.length ≤ 64
instance (n : Nat) (ws : List Int) : Decidable (IsW n ws) := by unfold IsW; exact inferInstance
def lowK (xss : List (List Int)) (ws : List Int) : Int := if ¬ Grph xss then 1 else if ¬ IsW xss.length ws then 2 else 0
def lowL (xss : List (List Int)) (ws : List Int) : List Int := if Grph xss ∧ IsW xss.length ws then wordL xss ws else []
/-
 Distances in a graph: the search, and the walks of it on both sides.
-/
def stepB (wo u : Int) (st : List Int × List Int) (x : Int) : List Int × List Int := if gi st.1 x < 0 ∧ x ≠ wo then (st.1.set x.toNat (gi st.1 u + 1), st.2 ++ [x]) else st
def rowB (wo u : Int) (r : List Int) (st : List Int × List Int) : List Int × List Int := r.foldl (stepB wo u) st
theorem rowB_snoc (wo u : Int) (r : List Int) (x : Int) (st : List Int × List Int) : rowB wo u (r ++ [x]) st = stepB wo u (rowB wo u r st) x := by simp [rowB, List.foldl_append]
def bfsD (next : List (List Int)) (wo : Int) : Nat → Nat → List Int × List Int → List Int × List Int
 | 0, _, st => st
 | f + 1, i, st => if i < st.2.length then bfsD next wo f (i + 1) (rowB wo (gi st.2 (i : Int)) (gl next (gi st.2 (i : Int))) st) else st
def initB (n : Nat) (v : Int) : List Int × List Int := ((List.replicate n (-1)).set v.toNat 0, [v])
def distP (next : List (List Int)) (wo v : Int) : List Int × List Int := bfsD next wo (next.length + 1) 0 (initB next.length v)
structure BF (n : Nat) (st : List Int × List Int) : Prop where
 len : st.1.length = n
 rng : ∀ x ∈ st.2, 0 ≤ x ∧ x < n
 cnt : st.2.length + unl st.1 = n
 val : ∀ x ∈ st.1, -1 ≤ x ∧ x < st.2.length
 pos : ∀ x ∈ st.2, 0 ≤ gi st.1 x
theorem gi_in2 {l : List Int} {x : Int} (h0 : 0 ≤ x) (h1 : x < l.length) : gi l x ∈ l := by
 obtain ⟨k, rfl⟩ : ∃ k : Nat, x = k := ⟨x.toNat, by omega⟩
 exact gi_in (by omega)
theorem gi_setI {l : List Int} {i : Nat} {v : Int} {x : Int} (hi : i < l.length) (hx : 0 ≤ x) : gi (l.set i v) x = if (i : Int) = x then v else gi l x := by
 obtain ⟨k, rfl⟩ : ∃ k : Nat, x = k := ⟨x.toNat, by omega⟩
 simp only [gi, Int.toNat_natCast, List.getD_eq_getElem?_getD, List.getElem?_set]
 by_cases h : i = k
 ·subst h; rw [if_pos rfl, if_pos hi, if_pos rfl]; rfl
 ·rw [if_neg h, if_neg (by omega)]
theorem BF.step {n : Nat} {st : List Int × List Int} (h : BF n st) {wo u x : Int} (hu : u ∈ st.2) (h0 : 0 ≤ x) (h1 : x < n) : BF n (stepB wo u st x) ∧ st.2 <+: (stepB wo u st x).2 := by
 unfold stepB
 split
 ·rename_i hx
  have hlen := h.len
  have hxn : x.toNat < st.1.length := by omega
  have hgu := h.pos u hu
  have hur := h.rng u hu
  have hgu2 := h.val _ (gi_in2 hur.1 (by omega))
  have hunl := unl_set (L := st.1) (x := x) (c := gi st.1 u + 1) h0 (by omega) hx.1 (by omega)
  have hcnt := h.cnt
  refine ⟨⟨by simp [h.len], fun y hy => ?_, by simp; omega, fun y hy => ?_, fun y hy => ?_⟩, List.prefix_append _ _⟩
  ·rcases List.mem_append.1 hy with hy | hy
   ·exact h.rng y hy
   ·simp at hy; subst hy; exact ⟨h0, h1⟩
  ·rw [List.length_append, List.length_singleton]
   rcases List.mem_or_eq_of_mem_set hy with hy | rfl
   ·have := h.val y hy; omega
   ·omega
  ·have hy0 : 0 ≤ y := by
    rcases List.mem_append.1 hy with hy | hy
    ·exact (h.rng y hy).1
    ·simp at hy; omega
   rw [gi_setI hxn hy0]
   split
   ·omega
   ·rename_i hne
    rcases List.mem_append.1 hy with hy | hy
    ·exact h.pos y hy
    ·simp at hy; omega
 ·exact ⟨h, List.prefix_rfl⟩
theorem BF.row {n : Nat} {wo u : Int} (r : List Int) : ∀ {st : List Int × List Int}, BF n st → u ∈ st.2 → (∀ x ∈ r, 0 ≤ x ∧ x < n) → BF n (rowB wo u r st) ∧ st.2 <+: (rowB wo u r st).2 := by
 induction r using snoc_ind with
 | h0 => intro st h _ _; exact ⟨h, List.prefix_rfl⟩
 | h1 l a ih =>
  intro st h hu hr
  obtain ⟨h1, h2⟩ := ih h hu (fun x hx => hr x (by simp [hx]))
  have ha := hr a (by simp)
  rw [rowB_snoc]
  obtain ⟨h3, h4⟩ := h1.step (wo := wo) (h2.subset hu) ha.1 ha.2
  exact ⟨h3, h2.trans h4⟩
theorem BF.len2 {n : Nat} {st : List Int × List Int} (h : BF n st) : st.2.length ≤ n := by have := h.cnt; omega
structure Gr (n : Nat) (next : List (List Int)) : Prop where
 len : next.length = n
 small : n ≤ 400
 row : ∀ u : Int, 0 ≤ u → (∀ x ∈ gl next u, 0 ≤ x ∧ x < n) ∧ (gl next u).length ≤ 1000
/-
 Distances and what is reached: the program's walks.
-/
/-
 The graph of a maniplex with its code, and distances from a vertex on both sides.
-/
def goK (xss : List (List Int)) (vs : List Int) : Int := if ¬ Grph xss then 1 else if ¬ allIn 0 ((vertsN xss : Int) - 1) vs then 2 else 0
def goL (xss : List (List Int)) (vs : List Int) : List (List Int) := if Grph xss ∧ allIn 0 ((vertsN xss : Int) - 1) vs then nbL xss else []
def vdL (xss : List (List Int)) (v : Int) : List Int := if goK xss [v] = 0 then (distP (nbL xss) (-1) v).1 else []
end Go.Proofs.YtiblelgfkakmiaaGreatDoor.Vc
/-
 Plain mathematics of the graph of a maniplex: its vertices hang together, neighbours are neighbours of each other, and what a search by distances finds.
-/
namespace Go.Proofs.YtiblelgfkakmiaaGreatDoor.Vc
/-! labels and orbits -/
/-! the ends of an edge -/
/-! what the search by distances finds -/
structure BQ (n : Nat) (next : List (List Int)) (v : Int) (i : Nat) (st : List Int × List Int) : Prop where
 bf : BF n st
 at0 : gi st.1 v = 0
 vin : v ∈ st.2
 all : ∀ x : Int, 0 ≤ x → x < n → 0 ≤ gi st.1 x → x ∈ st.2
 mono : ∀ a b : Nat, a ≤ b → b < st.2.length → gi st.1 (gi st.2 a) ≤ gi st.1 (gi st.2 b)
 gap : i < st.2.length → ∀ b : Nat, b < st.2.length → gi st.1 (gi st.2 b) ≤ gi st.1 (gi st.2 i) + 1
 don : ∀ a : Nat, a < i → a < st.2.length → ∀ x ∈ gl next (gi st.2 a), 0 ≤ gi st.1 x ∧ gi st.1 x ≤ gi st.1 (gi st.2 a) + 1
 par : ∀ x ∈ st.2, x ≠ v → ∃ y ∈ st.2, x ∈ gl next y ∧ gi st.1 x = gi st.1 y + 1
theorem gi_snocL {l : List Int} {x : Int} {k : Nat} (h : k < l.length) : gi (l ++ [x]) (k : Int) = gi l (k : Int) := by simp [gi, List.getD_eq_getElem?_getD, List.getElem?_append_left h]
theorem gi_snocR {l : List Int} {x : Int} : gi (l ++ [x]) (l.length : Int) = x := by simp [gi, List.getD_eq_getElem?_getD]
theorem stepB_new {u x : Int} {st : List Int × List Int} (h : gi st.1 x < 0) (hx : 0 ≤ x) : stepB (-1) u st x = (st.1.set x.toNat (gi st.1 u + 1), st.2 ++ [x]) := by
 unfold stepB; rw [if_pos ⟨h, by omega⟩]
theorem stepB_old {u x : Int} {st : List Int × List Int} (h : ¬ gi st.1 x < 0) : stepB (-1) u st x = st := by
 unfold stepB; rw [if_neg (fun h' => h h'.1)]
theorem BQ.step {n : Nat} {next : List (List Int)} {v : Int} {i : Nat} {st : List Int × List Int} (hg : Gr n next) (h : BQ n next v i st) (hi : i < st.2.length) {x : Int} (hx : x ∈ gl next (gi st.2 i)) (h0 : 0 ≤ x) (h1 : x < n) :
    BQ n next v i (stepB (-1) (gi st.2 i) st x) ∧ i < (stepB (-1) (gi st.2 i) st x).2.length ∧ gi (stepB (-1) (gi st.2 i) st x).2 i = gi st.2 i ∧ gi (stepB (-1) (gi st.2 i) st x).1 (gi st.2 i) = gi st.1 (gi st.2 i) ∧
    (0 ≤ gi (stepB (-1) (gi st.2 i) st x).1 x ∧ gi (stepB (-1) (gi st.2 i) st x).1 x ≤ gi st.1 (gi st.2 i) + 1) ∧ ∀ y, 0 ≤ y → 0 ≤ gi st.1 y → gi (stepB (-1) (gi st.2 i) st x).1 y = gi st.1 y := by
  have hum : gi st.2 (i : Int) ∈ st.2 := gi_in hi
  have hur := h.bf.rng _ hum
  have hup := h.bf.pos _ hum
  by_cases hn : gi st.1 x < 0
  · have hbf := (h.bf.step (wo := -1) hum h0 h1).1
    rw [stepB_new hn h0] at hbf ⊢
    generalize hu : gi st.2 (i : Int) = u at *
    have hxl : x.toNat < st.1.length := by rw [h.bf.len]; omega
    have old : ∀ y, 0 ≤ y → 0 ≤ gi st.1 y → gi (st.1.set x.toNat (gi st.1 u + 1)) y = gi st.1 y := fun y hy hp => by
      rw [gi_setI hxl hy]
      split
      · rename_i e; rw [show y = x by omega] at hp; omega
      · rfl
    have new : gi (st.1.set x.toNat (gi st.1 u + 1)) x = gi st.1 u + 1 := by rw [gi_setI hxl h0, if_pos (by omega)]
    have oldq : ∀ b : Nat, b < st.2.length → gi (st.1.set x.toNat (gi st.1 u + 1)) (gi (st.2 ++ [x]) b) = gi st.1 (gi st.2 b) := fun b hb => by
      rw [gi_snocL hb]
      have hm : gi st.2 (b : Int) ∈ st.2 := gi_in hb
      exact old _ (h.bf.rng _ hm).1 (h.bf.pos _ hm)
    have newq : gi (st.1.set x.toNat (gi st.1 u + 1)) (gi (st.2 ++ [x]) (st.2.length : Int)) = gi st.1 u + 1 := by rw [gi_snocR, new]
    have hl : (st.2 ++ [x]).length = st.2.length + 1 := by simp
    have hvr := h.bf.rng _ h.vin
    have hgap := h.gap hi
    rw [hu] at hgap
    refine ⟨⟨hbf, ?_, ?_, ?_, ?_, ?_, ?_, ?_⟩, by show i < (st.2 ++ [x]).length; omega, by rw [gi_snocL hi, hu], old u hur.1 hup, ⟨by rw [new]; omega, by rw [new]; exact Int.le_refl _⟩, old⟩
    · show gi (st.1.set _ _) v = 0
      rw [old v hvr.1 (by rw [h.at0]; exact Int.le_refl _), h.at0]
    · exact List.mem_append_left _ h.vin
    · intro y hy hyn hp
      by_cases hyx : y = x
      · subst hyx; exact List.mem_append_right _ (by simp)
      · refine List.mem_append_left _ (h.all y hy hyn ?_)
        have hp : 0 ≤ gi (st.1.set x.toNat (gi st.1 u + 1)) y := hp
        rw [gi_setI hxl hy, if_neg (by omega)] at hp
        exact hp
    · intro a b hab hb
      have hb : b < (st.2 ++ [x]).length := hb
      by_cases hbl : b < st.2.length
      · show gi (st.1.set _ _) (gi (st.2 ++ [x]) a) ≤ gi (st.1.set _ _) (gi (st.2 ++ [x]) b)
        rw [oldq a (by omega), oldq b hbl]
        exact h.mono a b hab hbl
      · obtain rfl : b = st.2.length := by omega
        show gi (st.1.set _ _) (gi (st.2 ++ [x]) a) ≤ gi (st.1.set _ _) (gi (st.2 ++ [x]) _)
        rw [newq]
        by_cases hal : a < st.2.length
        · rw [oldq a hal]; exact hgap a hal
        · obtain rfl : a = st.2.length := by omega
          rw [newq]; exact Int.le_refl _
    · intro _ b hb
      have hb : b < (st.2 ++ [x]).length := hb
      show gi (st.1.set _ _) (gi (st.2 ++ [x]) b) ≤ gi (st.1.set _ _) (gi (st.2 ++ [x]) i) + 1
      rw [oldq i hi, hu]
      by_cases hbl : b < st.2.length
      · rw [oldq b hbl]; exact hgap b hbl
      · obtain rfl : b = st.2.length := by omega
        rw [newq]; exact Int.le_refl _
    · intro a ha hal y hy
      have hy : y ∈ gl next (gi (st.2 ++ [x]) a) := hy
      rw [gi_snocL (by omega)] at hy
      have hd := h.don a ha (by omega) y hy
      have hy0 : 0 ≤ y := ((hg.row _ (h.bf.rng _ (gi_in (show a < st.2.length by omega))).1).1 y hy).1
      show 0 ≤ gi (st.1.set _ _) y ∧ gi (st.1.set _ _) y ≤ gi (st.1.set _ _) (gi (st.2 ++ [x]) a) + 1
      rw [old y hy0 hd.1, oldq a (by omega)]
      exact hd
    · intro y hy hne
      have hy : y ∈ st.2 ++ [x] := hy
      rcases List.mem_append.1 hy with hy | hy
      · obtain ⟨z, hz, hzy, hzd⟩ := h.par y hy hne
        refine ⟨z, List.mem_append_left _ hz, hzy, ?_⟩
        show gi (st.1.set _ _) y = gi (st.1.set _ _) z + 1
        rw [old y (h.bf.rng y hy).1 (h.bf.pos y hy), old z (h.bf.rng z hz).1 (h.bf.pos z hz)]
        exact hzd
      · simp at hy; subst hy
        refine ⟨u, List.mem_append_left _ hum, hx, ?_⟩
        show gi (st.1.set _ _) y = gi (st.1.set _ _) u + 1
        rw [new, old u hur.1 hup]
  · rw [stepB_old hn]
    have hxq := h.all x h0 h1 (by omega)
    obtain ⟨b, hb, hbx⟩ := List.mem_iff_getElem.1 hxq
    have hg := h.gap hi b hb
    rw [gi_mem hb, hbx] at hg
    exact ⟨h, hi, rfl, rfl, ⟨by omega, hg⟩, fun _ _ _ => rfl⟩
theorem BQ.row {n : Nat} {next : List (List Int)} {v : Int} {i : Nat} (hg : Gr n next) (u : Int) (r : List Int) : ∀ {st : List Int × List Int}, BQ n next v i st → i < st.2.length → gi st.2 i = u → (∀ x ∈ r, x ∈ gl next u) →
  BQ n next v i (rowB (-1) u r st) ∧ i < (rowB (-1) u r st).2.length ∧ gi (rowB (-1) u r st).2 i = u ∧ gi (rowB (-1) u r st).1 u = gi st.1 u ∧ (∀ x ∈ r, 0 ≤ gi (rowB (-1) u r st).1 x ∧ gi (rowB (-1) u r st).1 x ≤ gi st.1 u + 1) := by
 induction r using snoc_ind with
 | h0 => intro st h hi hu _; exact ⟨h, hi, hu, rfl, fun x hx => by cases hx⟩
 | h1 l a ih =>
  intro st h hi hu hr
  obtain ⟨h1, h2, h3, h4, h5⟩ := ih h hi hu (fun x hx => hr x (by simp [hx]))
  have ha := hr a (by simp)
  have hur := h1.bf.rng _ (gi_in h2)
  rw [h3] at hur
  have har := (hg.row u hur.1).1 a ha
  rw [rowB_snoc]
  have hs := h1.step hg h2 (x := a) (by rw [h3]; exact ha) har.1 har.2
  rw [h3] at hs
  obtain ⟨s1, s2, s3, s4, s5, s6⟩ := hs
  refine ⟨s1, s2, s3, by rw [s4, h4], fun x hx => ?_⟩
  rcases List.mem_append.1 hx with hx | hx
  ·have hx5 := h5 x hx
   have hxr := (hg.row u hur.1).1 x (hr x (by simp [hx]))
   rw [s6 x hxr.1 hx5.1]
   exact hx5
  ·simp at hx; subst hx
   rw [h4] at s5
   exact s5
theorem BQ.next {n : Nat} {next : List (List Int)} {v : Int} {i : Nat} {st : List Int × List Int} (hg : Gr n next) (h : BQ n next v i st) (hi : i < st.2.length) : BQ n next v (i + 1) (rowB (-1) (gi st.2 i) (gl next (gi st.2 i)) st) := by
 obtain ⟨h1, h2, h3, h4, h5⟩ := BQ.row hg (gi st.2 i) (gl next (gi st.2 i)) h hi rfl (fun x hx => hx)
 refine ⟨h1.bf, h1.at0, h1.vin, h1.all, h1.mono, fun hi1 b hb => ?_, fun a ha hal x hx => ?_, h1.par⟩
 ·have hg1 := h1.gap h2 b hb
  have hm := h1.mono i (i + 1) (by omega) hi1
  omega
 ·by_cases hai : a = i
  ·subst hai
   rw [h3] at hx ⊢
   rw [h4]
   exact h5 x hx
  ·exact h1.don a (by omega) hal x hx
structure DF (n : Nat) (next : List (List Int)) (v : Int) (far : List Int) : Prop where
 len : far.length = n
 at0 : gi far v = 0
 nxt : ∀ y : Int, 0 ≤ y → y < n → 0 ≤ gi far y → ∀ x ∈ gl next y, 0 ≤ gi far x ∧ gi far x ≤ gi far y + 1
 par : ∀ x : Int, 0 ≤ x → x < n → 0 ≤ gi far x → x ≠ v → ∃ y : Int, (0 ≤ y ∧ y < n) ∧ x ∈ gl next y ∧ 0 ≤ gi far y ∧ gi far x = gi far y + 1
 top : ∀ x : Int, 0 ≤ x → x < n → gi far x < n
/-
 Plain mathematics of ways in a graph: distances are the same both ways.
-/
/-! ways in a graph -/
inductive PathK (next : List (List Int)) : Nat → Int → Int → Prop
 | nil (a : Int) : PathK next 0 a a
 | snoc {k : Nat} {a b c : Int} : PathK next k a b → c ∈ gl next b → PathK next (k + 1) a c
def SymG (n : Nat) (next : List (List Int)) : Prop := ∀ u x : Int, 0 ≤ u → u < n → x ∈ gl next u → u ∈ gl next x
/-! the two ends of an edge -/
end Go.Proofs.YtiblelgfkakmiaaGreatDoor.Vc
/-
 The walks of the program's forms, and of comparisons on both sides.
-/
namespace Go.Proofs.YtiblelgfkakmiaaGreatDoor.Vc
open Go.RowKit
/-
 The walk of the law FnExactIsDesk: it returns true.
-/
end Go.Proofs.YtiblelgfkakmiaaGreatDoor.Vc
/-
 Plain mathematics of the list of maniplexes: forms put in ascending order one by one, and that there is one such order.
-/
namespace Go.Proofs.YtiblelgfkakmiaaGreatDoor.Vc
abbrev Mx := List (List Int)
def leM (a b : Mx) : Prop := ¬ lexCC b a < 0
theorem leM_of {a b : Mx} (h : lexCC a b < 0) : leM a b := fun h' => by rw [lexCC_swap] at h'; omega
theorem leM_cases {a b : Mx} (h : leM a b) : lexCC a b < 0 ∨ a = b := by
 by_cases e : a = b
 ·exact .inr e
 ·left
  unfold leM at h
  rw [lexCC_swap] at h
  have : lexCC a b ≠ 0 := fun h0 => e (lexCC_zero.1 h0)
  omega
theorem leM_trans {a b c : Mx} (h : leM a b) (h' : leM b c) : leM a c := by
 rcases leM_cases h with h | rfl
 ·rcases leM_cases h' with h' | rfl
  ·exact leM_of (lexCC_trans h h')
  ·exact leM_of h
 ·exact h'
def atM (x : Mx) : List Mx → Nat
 | [] => 0
 | y :: l => if lexCC y x < 0 then atM x l + 1 else 0
def insM (x : Mx) (l : List Mx) : List Mx := l.take (atM x l) ++ x :: l.drop (atM x l)
theorem ins_perm {α : Type} (x : α) (l : List α) (k : Nat) : (l.take k ++ x :: l.drop k).Perm (x :: l) := by
 have h : (l.take k ++ x :: l.drop k).Perm (x :: (l.take k ++ l.drop k)) := List.perm_middle
 rwa [List.take_append_drop] at h
theorem insM_perm (x : Mx) (l : List Mx) : (insM x l).Perm (x :: l) := ins_perm x l _
theorem insM_cons (x y : Mx) (l : List Mx) : insM x (y :: l) = if lexCC y x < 0 then y :: insM x l else x :: y :: l := by
 unfold insM
 rw [atM]
 split <;> simp
theorem insM_sorted (x : Mx) : ∀ {l : List Mx}, l.Pairwise leM → (insM x l).Pairwise leM
 | [], _ => by simp [insM, atM]
 | y :: l, h => by
  have h1 := List.pairwise_cons.1 h
  rw [insM_cons]
  split
  ·rename_i hy
   refine List.pairwise_cons.2 ⟨fun z hz => ?_, insM_sorted x h1.2⟩
   rcases List.mem_cons.1 ((insM_perm x l).mem_iff.1 hz) with rfl | hz
   ·exact leM_of hy
   ·exact h1.1 z hz
  ·rename_i hy
   refine List.pairwise_cons.2 ⟨fun z hz => ?_, h⟩
   rcases List.mem_cons.1 hz with rfl | hz
   ·exact hy
   ·exact leM_trans hy (h1.1 z hz)
def ordM (l : List Mx) : List Mx := l.foldl (fun o x => insM x o) []
/-! the list of a rank and a number of flags -/
def formsL (n F : Nat) : List Mx := forms n F (F * n + 1) 0 1 (blank n F)
def Own1 (N : Nat) (xss : Mx) : Prop := ∀ f, f < N → ¬ lexCC (formL N xss (f : Nat)) xss < 0
instance (N : Nat) (xss : Mx) : Decidable (Own1 N xss) := by unfold Own1; exact inferInstance
def ownL (n F : Nat) : List Mx := (formsL n F).filter fun L => decide (Own1 F L)
def listL (n F : Nat) : List Mx := ordM (ownL n F)
end Go.Proofs.YtiblelgfkakmiaaGreatDoor.Vc
/-
 The walks of the program's least form, and of the reference's numbers of orbits.
-/
namespace Go.Proofs.YtiblelgfkakmiaaGreatDoor.Vc
open Go.RowKit
section
variable {P : Program} {N : Nat} {ops : Array Oper} {K : Env → World → Prop} {rest : List Oper} {e : Env} {w : World} {d : Nat} {ty : TypeId} {pos : String} {af : Array Edge}
end
/-! the numbers of orbits -/
def fset (N : Nat) (xss : List (List Int)) : Nat → List (List (List Int))
 | 0 => []
 | k + 1 => if formL N xss k ∈ fset N xss k then fset N xss k else fset N xss k ++ [formL N xss k]
def orbN (N : Nat) (xss : List (List Int)) : Nat := if Own1 N xss then (fset N xss N).length else 0
/-
 The library's IndexFunc and DeleteFunc over a row of structs of one slice, walked for any predicate; the rule of 'clear'. Conditions: the predicate's contract.
-/
section
variable {P : Program} {N : Nat} {ops : Array Oper} {K : Env → World → Prop} {rest : List Oper} {e : Env} {w0 w : World} {ks : List Ck} {d : Nat} {ty : TypeId} {pos : String} {af : Array Edge}
theorem setL_take : ∀ (cs vs : List Value) (o m : Nat), m ≤ o → (setL vs o cs).take m = vs.take m
 | [], _, _, _, _ => rfl
 | c :: r, vs, o, m, h => by
  show (setL (vs.set o c) (o + 1) r).take m = _
  rw [setL_take r _ _ _ (by omega), List.take_set_of_le h]
theorem isM_setL : ∀ {vs : List Value} (o : Nat) (cs : List Value), isM vs = false → (∀ u ∈ cs, u.oneCell' = true) → isM (setL vs o cs) = false
 | _, _, [], h, _ => h
 | vs, o, c :: r, h, hc => isM_setL (o + 1) r (isM_set o h (hc c (by simp))) fun u hu => hc u (by simp [hu])
theorem Ops.clr {t el : TypeId} {z z0 : Value} {b : Nat} [Und P t (.slice el)] [Inf P el z 1 b] {x : Operand} (i l : Nat) {k : Ck} {n' c' : Nat} (hS : St w0 w ks) (hk : ks[i]? = some k) (hl : l < k.n) (hn' : n' = k.n - l) (hx : ev e x = .slice (cutAt k.A k.c l) n' c') (hz : z.cells = #[z0]) (h1 : z0.oneCell' = true)
    (hK : ∀ w', St w0 w' (ks.set i { k with n := l, vs := k.vs.take l }) → Ops P N ops K rest e w') (hM : isM k.vs = false := by first | rfl | exact isM_I _ | exact isM_B _ | exact isM_R _) :
    Ops P N ops K (⟨none, .call ⟨.builtin .clear, #[x], #[t]⟩, ty, pos, af, none⟩ :: rest) e w := by
  obtain ⟨inf, hi, hz0, hs, hby⟩ := Inf.get P el
  obtain ⟨hvl, hnc, hcm, -⟩ := hS.getC hk hM
  have hlt := (List.getElem?_eq_some_iff.1 hk).1
  obtain ⟨p, hp, _⟩ := (hS.rd i hk) l hl
  have hcut : cutAt k.A k.c l = some p := by unfold cutAt; rw [if_neg (by omega)]; exact hp
  obtain ⟨w', hrun, hS'⟩ := run_store_list (P := P) (k := k) i (List.replicate (k.n - l) z0) ks k.vs w l p hS hk hp (by simp; omega) (fun u hu => by rw [List.eq_of_mem_replicate hu]; exact h1) l p hp (by omega) (by omega)
  have hS2 := hS'.shrink i (k := { k with vs := setL k.vs l (List.replicate (k.n - l) z0) }) (by rw [List.getElem?_set]; simp [hlt]) l (by show l ≤ k.n; omega) (isM_setL _ _ hM (fun u hu => by rw [List.eq_of_mem_replicate hu]; exact h1))
  rw [List.set_set] at hS2
  have e1 : ({ ({ k with vs := setL k.vs l (List.replicate (k.n - l) z0) } : Ck) with n := l, vs := ({ k with vs := setL k.vs l (List.replicate (k.n - l) z0) } : Ck).vs.take l } : Ck) = { k with n := l, vs := k.vs.take l } := by
    show ({ k with n := l, vs := (setL k.vs l (List.replicate (k.n - l) z0)).take l } : Ck) = _
    rw [setL_take _ _ _ _ (Nat.le_refl _)]
  rw [e1] at hS2
  have hzc : (Builtin.zeroCells z.cells (k.n - l)).toList = List.replicate (k.n - l) z0 := by
    rw [hz]
    simp [Builtin.zeroCells]
    apply List.ext_getElem
    · simp
    · intro i h1 h2
      simp [Nat.mod_one]
  rw [Nat.sub_self] at hrun
  have hm : k.n - l = (k.n - l - 1) + 1 := by omega
  generalize k.n - l - 1 = m at hm
  have hv : ∀ w, (zeroValue el).run P w = .ok z w := fun w => by simp [zeroValue, typeInfo, hi, hz0]
  rw [hn', hcut, hm] at hx
  rw [hm] at hzc hrun
  refine .val0 (v := .tuple #[]) (w' := w') ?_ (hK _ hS2)
  simp [execOp, resolve, invoke, builtin, hx, Builtin.clear_, run_underlying (Und.out (P := P) (t := t)), hv, hzc, hrun]
end
def keptI (pd : Nat → Bool) (j : Nat) : List Nat := (List.range j).filter fun x => !pd x
/-
 The search for a Hamiltonian cycle, without a program: that of the reference and that of the program find the same, where there are more than two vertices.
-/
def hamF (h : List Int → List Int) (list : List Int) : List Int → List Int
 | [] => []
 | v :: r => if v ∉ list ∧ h (list ++ [v]) ≠ [] then h (list ++ [v]) else hamF h list r
def lastI (l : List Int) : Int := gi l ((l.length : Int) - 1)
def ham (mn : Nat) (next : List (List Int)) : Nat → List Int → List Int
 | 0, _ => []
 | f + 1, l => if l.length = next.length then (if mn < l.length ∧ gi l 0 ∈ gl next (lastI l) then l else []) else hamF (ham mn next f) l (gl next (lastI l))
/-
 The diameter of the graph on both sides, and the walk of the law FnExactGraphDiameter.
-/
def mx (a : Int) (l : List Int) : Int := l.foldl max a
def dmP (next : List (List Int)) : Nat → Int
 | 0 => 0
 | v + 1 => mx (dmP next v) (distP next (-1) v).1
def gdD (xss : List (List Int)) : Int := if Grph xss then dmP (nbL xss) (vertsN xss) else 0
/-
 The walks of the search for a Hamiltonian cycle on both sides.
-/
def HamO (w : World) (L : List Int) (v : Value) (w' : World) : Prop :=
  (v = .slice none 0 0 ∧ L = [] ∧ St w w' []) ∨ (∃ A c, v = .slice A L.length c ∧ L ≠ [] ∧ St w w' [CkI 2 A L.length c L])
def HamR (w : World) (Al : Option Addr) (cl : Nat) (list L : List Int) (v : Value) (w' : World) : Prop :=
 HamO w L v w' ∨ (v = .slice Al list.length cl ∧ L = list ∧ list ≠ [] ∧ St w w' [])
def PathI (N : Nat) (l : List Int) : Prop := 0 < l.length ∧ l.length ≤ N ∧ ∀ x ∈ l, 0 ≤ x ∧ x < (N : Int)
def hmC (xss : List (List Int)) : List Int := ham 2 (nbL xss) (vertsN xss) [0]
def hmK (xss : List (List Int)) : Int := if ¬ Grph xss then 1 else if 12 < vertsN xss then 3 else if hmC xss = [] then 4 else 0
def hmL (xss : List (List Int)) : List Int := if Grph xss ∧ ¬ 12 < vertsN xss then hmC xss else []
/-
 The library's IndexFunc and DeleteFunc at int64, by any predicate with a contract; a list less another one.
-/
def lessL (a b : List Int) : List Int := a.filter fun x => !decide (x ∈ b)
/-
 The parts of the graph on both sides.
-/
section
variable {P : Program} {N : Nat} {ops : Array Oper} {K : Env → World → Prop} {rest : List Oper} {e : Env} {w : World} {d : Nat} {ty xt yt : TypeId} {pos : String} {af : Array Edge} {x y : Operand} {i j : Int}
end
def p2L (l : List Int) : List Int := l.map fun x => Int.tmod x 2
def mixP (l : List Int) (v : Nat) : List Int := p2L (l.take v) ++ l.drop v
def partsP (xss : List (List Int)) : List Int := p2L (distP (nbL xss) (-1) 0).1
def Bd (En : List (List Int)) (parts : List Int) (e : Nat) : Prop := (gl En (e : Int)).length = 1 ∨ gi parts (gi (gl En (e : Int)) 0) = gi parts (gi (gl En (e : Int)) 1)
instance (En : List (List Int)) (parts : List Int) (e : Nat) : Decidable (Bd En parts e) := by unfold Bd; exact inferInstance
def ptBad (xss : List (List Int)) : Prop := ∃ e, e < edgesN xss ∧ Bd (endsL xss) (partsP xss) e
instance (xss : List (List Int)) : Decidable (ptBad xss) := by unfold ptBad; exact inferInstance
def ptK (xss : List (List Int)) : Int := if ¬ Grph xss then 1 else if ptBad xss then 4 else 0
def ptL (xss : List (List Int)) : List Int := if Grph xss ∧ ¬ ptBad xss then partsP xss else []
end Go.Proofs.YtiblelgfkakmiaaGreatDoor.Vc
/-
 Plain mathematics of the girth: distances are the same both ways; the shortest ways round, by edges and by neighbours.
-/
namespace Go.Proofs.YtiblelgfkakmiaaGreatDoor.Vc
/-! a graph without an edge -/
def restL (next : List (List Int)) (u v : Int) : List (List Int) := (next.set u.toNat (lessL (gl next u) [v])).set v.toNat (lessL (gl next v) [u])
theorem lessL_mem {a b : List Int} {x : Int} : x ∈ lessL a b ↔ x ∈ a ∧ x ∉ b := by simp [lessL]
def wayL (next : List (List Int)) (u v : Int) : Int := gi (distP (restL next u v) (-1) u).1 v
/-! the least -/
def gstep (g w : Int) : Int := if 0 < w ∧ (g = 0 ∨ w + 1 < g) then w + 1 else g
def mnG (l : List Int) : Int := l.foldl gstep 0
/-! both sides' ways -/
def implW (n : Nat) (next : List (List Int)) : List Int := (List.range n).flatMap fun v : Nat => (gl next (v : Int)).map (wayL next (v : Int))
def specW (En next : List (List Int)) : List Int := En.map fun l => wayL next (gi l 0) (gi l 1)
/-! the answer -/
def Loop1 (xss : List (List Int)) : Prop := ∃ e, e < edgesN xss ∧ (gl (endsL xss) (e : Int)).length = 1
open Classical in
noncomputable def girN (xss : List (List Int)) : Int := if Loop1 xss then 1 else if ¬ (endsL xss).Nodup then 2 else mnG (specW (endsL xss) (nbL xss))
open Classical in
noncomputable def girV (xss : List (List Int)) : Int := if Grph xss then girN xss else 0
open Classical in
noncomputable def girK (xss : List (List Int)) : Int := if ¬ Grph xss then 1 else if girN xss = 0 then 4 else 0
end Go.Proofs.YtiblelgfkakmiaaGreatDoor.Vc
/-
 Maps of one's own: made, looked up, written.
-/
namespace Go.Proofs.YtiblelgfkakmiaaGreatDoor.Vc
open Go.RowKit Go.MapKept
structure KeyT {κ : Type} (d : TypeDesc) (kv : κ → Value) : Prop where
 isKey : ∀ a, IsKey d (kv a)
 inj : ∀ a b, kv a = kv b → a = b
theorem keyS : KeyT .string Value.string := ⟨fun _ => trivial, fun a b h => by injection h⟩
theorem keyI : KeyT (.int .i64) (Value.int .i64) := ⟨fun _ => rfl, fun a b h => by injection h⟩
section
variable {κ ν : Type} [DecidableEq κ]
def getA : List (κ × ν) → κ → Option ν
  | [], _ => none
  | (y, v) :: r, x => if y = x then some v else getA r x
def putA : List (κ × ν) → κ → ν → List (κ × ν)
  | [], x, v => [(x, v)]
  | (y, u) :: r, x, v => if y = x then (x, v) :: r else (y, u) :: putA r x v
def fndA : List (κ × ν) → κ → Option (Nat × ν)
  | [], _ => none
  | (y, v) :: r, x => if y = x then some (0, v) else (fndA r x).map fun p => (p.1 + 1, p.2)
theorem fndA_get : ∀ (L : List (κ × ν)) (x : κ), getA L x = (fndA L x).map (·.2)
  | [], _ => rfl
  | (y, v) :: r, x => by
    simp only [getA, fndA]
    split
    · rfl
    · rw [fndA_get r x, Option.map_map]; rfl
theorem fndA_some : ∀ {L : List (κ × ν)} {x : κ} {j : Nat} {v : ν}, fndA L x = some (j, v) → L[j]? = some (x, v) ∧ ∀ u, putA L x u = L.set j (x, u)
  | (y, w) :: r, x, j, v, h => by
    simp only [fndA] at h
    split at h
    · rename_i e
      simp only [Option.some.injEq, Prod.mk.injEq] at h
      obtain ⟨rfl, rfl⟩ := h
      subst e
      exact ⟨rfl, fun u => by simp [putA]⟩
    · rename_i e
      cases hf : fndA r x with
      | none => simp [hf] at h
      | some p =>
        simp only [hf, Option.map_some, Option.some.injEq, Prod.mk.injEq] at h
        obtain ⟨rfl, rfl⟩ := h
        obtain ⟨h1, h2⟩ := fndA_some (L := r) (x := x) (j := p.1) (v := p.2) hf
        exact ⟨by simpa using h1, fun u => by simp only [putA, if_neg e, h2 u, List.set_cons_succ]⟩
theorem fndA_none : ∀ {L : List (κ × ν)} {x : κ}, fndA L x = none → ∀ u, putA L x u = L ++ [(x, u)]
  | [], x, _, u => rfl
  | (y, w) :: r, x, h, u => by
    simp only [fndA] at h
    split at h
    · cases h
    · rename_i e
      rw [Option.map_eq_none_iff] at h
      simp only [putA, if_neg e, fndA_none h u, List.cons_append]
theorem getA_put (L : List (κ × ν)) (x y : κ) (u : ν) : getA (putA L x u) y = if x = y then some u else getA L y := by
 induction L with
 | nil => simp only [putA, getA]
 | cons p r ih =>
  obtain ⟨z, w⟩ := p
  simp only [putA]
  by_cases e : z = x
  ·subst e
   rw [if_pos rfl]
   simp only [getA]
   split <;> simp_all
  ·rw [if_neg e]
   simp only [getA, ih]
   by_cases e2 : z = y
   ·subst e2
    rw [if_pos rfl, if_neg (fun h => e h.symm), if_pos rfl]
   ·rw [if_neg e2, if_neg e2]
def prV (kv : κ → Value) (vv : ν → Value) (L : List (κ × ν)) : List (Value × Value) := L.map fun p => (kv p.1, vv p.2)
theorem findNow_A {d : TypeDesc} {kv : κ → Value} {vv : ν → Value} (K : KeyT d kv) (x : κ) : ∀ (l : List MapEntry) (L : List (κ × ν)) (i : Nat), l.map (fun e => (e.key, e.val)) = prV kv vv L → Instr.findNow d (kv x) l i = some ((fndA L x).map fun p => (i + p.1, vv p.2))
 | [], [], _, _ => rfl
 | [], _ :: _, _, h => by simp [prV] at h
 | _ :: _, [], _, h => by simp [prV] at h
 | e :: l, (y, v) :: L, i, h => by
  simp only [prV, List.map_cons, List.cons.injEq, Prod.mk.injEq] at h
  obtain ⟨⟨h1, h2⟩, h3⟩ := h
  obtain ⟨r, hr, hiff⟩ := sameNow_of_keys (K.isKey x) (K.isKey y)
  simp only [Instr.findNow, fndA]
  rw [h1, hr]
  cases r with
  | true =>
   have e1 := K.inj _ _ (hiff.1 rfl)
   subst e1
   simp [h2]
  | false =>
   have hne : ¬ y = x := fun q => by
    have := hiff.2 (by rw [q])
    cases this
   rw [if_neg hne]
   simp only
   rw [findNow_A K x l L (i + 1) h3, Option.map_map]
   congr 2
   funext p
   simp only [Function.comp]
   rw [Nat.add_assoc, Nat.add_comm 1]
end
def CkM (t : TypeId) (g : Nat) (kvs : List (Value × Value)) : Ck := ⟨some ⟨g, 0, none⟩, 0, 0, t, .tuple #[] :: flatM kvs⟩
def RdM (w : World) (g : Nat) (kvs : List (Value × Value)) : Prop := ∃ es cl, w.heap[g]? = some (.map es cl) ∧ es.toList.map (fun e => (e.key, e.val)) = kvs
theorem RdM.later {w w' : World} {g : Nat} {kvs : List (Value × Value)} (h : RdM w g kvs) (hb : Below w.heap.size w w') : RdM w' g kvs := by
 obtain ⟨es, cl, h1, h2⟩ := h
 exact ⟨es, cl, by rw [hb.block g (Array.getElem?_eq_some_iff.1 h1).1]; exact h1, h2⟩
section
variable {w0 w w' : World} {ks : List Ck} {t : TypeId} {g : Nat} {kvs : List (Value × Value)}
theorem St.ownM (h : St w0 w ks) (i : Nat) (hk : ks[i]? = some (CkM t g kvs)) : w0.heap.size ≤ g ∧ RdM w g kvs := by
 rcases (h.get hk).cases with ⟨_, _, _, g', es, cl, hA, hg, hh, hv⟩ | ⟨hm, _⟩
 ·have hA : some (⟨g, 0, Option.none⟩ : Addr) = some ⟨g', 0, Option.none⟩ := hA
  simp only [Option.some.injEq, Addr.mk.injEq, and_true] at hA
  subst hA
  have hv : (.tuple #[] :: flatM kvs : List Value) = .tuple #[] :: flatM (es.toList.map fun e => (e.key, e.val)) := hv
  simp only [List.cons.injEq, true_and] at hv
  exact ⟨hg, es, cl, hh, (flatM_inj hv).symm⟩
 ·cases hm
theorem St.rdM (h : St w0 w ks) (i : Nat) (hk : ks[i]? = some (CkM t g kvs)) : RdM w g kvs := (h.ownM i hk).2
theorem St.oldM (h : St w0 w ks) (hR : RdM w0 g kvs) : RdM w g kvs := hR.later h.below
theorem St.allocM (h : St w0 w ks) (t : TypeId) : St w0 (w.alloc (.map #[] 0)) (CkM t w.heap.size [] :: ks) := by
 have hb : Below w.heap.size w (w.alloc (.map #[] 0)) := (Below.refl _ _).alloc (Nat.le_refl _) _
 have h1 := h.later hb
 refine ⟨h1.below, fun k hk => ?_, ?_⟩
 ·rcases List.mem_cons.1 hk with rfl | hk
  ·exact .ofM rfl ⟨rfl, rfl, _, #[], 0, rfl, h.below.size, heap_alloc_new w _, rfl⟩
  ·exact h1.own k hk
 ·simp only [List.filterMap_cons, CkM, Ck.blk, Option.map_some, List.nodup_cons]
  refine ⟨fun hin => ?_, h.apart⟩
  obtain ⟨k', hk', hkb⟩ := List.mem_filterMap.1 hin
  have := ((h.own k' hk').lt hkb).2
  omega
theorem St.turnM {i : Nat} {kvs' : List (Value × Value)} {es' : Array MapEntry} {cl' : Nat} (h : St w0 w ks) (hk : ks[i]? = some (CkM t g kvs)) (hv : es'.toList.map (fun e => (e.key, e.val)) = kvs') : St w0 { w with heap := w.heap.setIfInBounds g (.map es' cl') } (ks.set i (CkM t g kvs')) := by
 obtain ⟨hg, es, cl, hh, _⟩ := h.ownM i hk
 refine h.turn (k := CkM t g kvs) (k' := CkM t g kvs') (g := g) hk rfl rfl ⟨⟨rfl, rfl, rfl, by simp, fun x _ hx => ?_⟩, Nat.le_refl _⟩ ?_
 ·exact (heap_set hh).2 x fun e => hx (by rw [e])
 ·refine .ofM rfl ⟨rfl, rfl, g, es', cl', rfl, hg, (heap_set hh).1, ?_⟩
  rw [hv]; rfl
end
section
variable {P : Program} {N : Nat} {ops : Array Oper} {K : Env → World → Prop} {rest : List Oper} {e : Env} {w0 w w' : World} {ks : List Ck} {d : Nat} {ty : TypeId} {pos : String} {af : Array Edge}
variable {κ ν : Type} [DecidableEq κ] {kd : TypeDesc} {kv : κ → Value} {vv : ν → Value}
theorem Ops.mv_str {op : Op} {x : Operand} {s : ByteArray} (hop : mvOf op = some x) (hx : ev e x = .string s) (hb : Nat.blt d N = true) (hK : Ops P N ops K rest (upd e d (.string s)) w) : Ops P N ops K (⟨some d, op, ty, pos, af, none⟩ :: rest) e w := .mv hop hx hb hK
theorem Ops.mv_map {op : Op} {x : Operand} {g : Option Nat} (hop : mvOf op = some x) (hx : ev e x = .map g) (hb : Nat.blt d N = true) (hK : Ops P N ops K rest (upd e d (.map g)) w) : Ops P N ops K (⟨some d, op, ty, pos, af, none⟩ :: rest) e w := .mv hop hx hb hK
theorem Ops.mkmap {t : TypeId} (hS : St w0 w ks) (hb : Nat.blt d N = true) (hK : ∀ g w', St w0 w' (CkM t g [] :: ks) → Ops P N ops K rest (upd e d (.map (some g))) w') :
  Ops P N ops K (⟨some d, .makeMap t none, ty, pos, af, none⟩ :: rest) e w :=
 .val (w' := w.alloc (.map #[] 0)) (by simp [execOp, run_makeMap]) hb (hK _ _ (hS.allocM t))
theorem run_look {t kt et : TypeId} {z : Value} {s b : Nat} [hU : Und P t (.map kt et)] [hk : Und P kt kd] [Inf P et z s b] (KT : KeyT kd kv) {g : Nat} {L : List (κ × ν)} {x : κ} (hR : RdM w g (prV kv vv L)) (ok : Bool) :
    (Instr.lookup t (.map (some g)) (kv x) ok).run P w = .ok (if ok then .tuple #[((getA L x).map vv).getD z, .bool (getA L x).isSome] else ((getA L x).map vv).getD z) w := by
  obtain ⟨es, cl, hh, hm⟩ := hR
  obtain ⟨inf, hi, hz0, _, _⟩ := Inf.get P et
  have hf := findNow_A (vv := vv) KT x es.toList L 0 hm
  rw [fndA_get]
  unfold Instr.lookup
  simp only [Sem.run_bind, run_underlying hU.out, Result.andThen, MapKept.run_getObj_map hh, MapKept.run_checkKey hk.out (KT.isKey x)]
  cases hfn : fndA L x with
  | none =>
    rw [hfn] at hf
    have hfk := MapKept.run_findKey (P := P) (w := w) hk.out hf
    cases ok <;> simp [hfk, zeroValue, typeInfo, hi, hz0]
  | some p =>
    rw [hfn] at hf
    have hfk := MapKept.run_findKey (P := P) (w := w) hk.out hf
    cases ok <;> simp [hfk]
theorem Ops.look {t kt et : TypeId} {z v : Value} {s b : Nat} [Und P t (.map kt et)] [Und P kt kd] [Inf P et z s b] (KT : KeyT kd kv) {g : Nat} {L : List (κ × ν)} {m ix : Operand} {x : κ} (hR : RdM w g (prV kv vv L)) (hx : ev e m = .map (some g)) (hy : ev e ix = kv x) (hv : ((getA L x).map vv).getD z = v) (hb : Nat.blt d N = true)
    (hK : Ops P N ops K rest (upd e d v) w) : Ops P N ops K (⟨some d, .lookup t m ix false, ty, pos, af, none⟩ :: rest) e w := by
  subst hv
  refine .val (w' := w) ?_ hb hK
  have := run_look (P := P) (t := t) (x := x) KT hR false
  simp [execOp, hx, hy, this]
theorem Ops.lookB {t kt et : TypeId} {b : Nat} [Und P t (.map kt et)] [Und P kt kd] [Inf P et (.bool false) 1 b] (KT : KeyT kd kv) {g : Nat} {L : List (κ × Bool)} {m ix : Operand} (x : κ) (hR : RdM w g (prV kv Value.bool L)) (hx : ev e m = .map (some g)) (hy : ev e ix = kv x) (hb : Nat.blt d N = true)
    (hK : Ops P N ops K rest (upd e d (.bool ((getA L x).getD false))) w) : Ops P N ops K (⟨some d, .lookup t m ix false, ty, pos, af, none⟩ :: rest) e w :=
  .look KT hR hx hy (by cases getA L x <;> rfl) hb hK
theorem Ops.lookI {t kt et : TypeId} {b : Nat} [Und P t (.map kt et)] [Und P kt kd] [Inf P et (.int .i64 0) 1 b] (KT : KeyT kd kv) {g : Nat} {L : List (κ × Int)} {m ix : Operand} (x : κ) (hR : RdM w g (prV kv (Value.int .i64) L)) (hx : ev e m = .map (some g)) (hy : ev e ix = kv x) (hb : Nat.blt d N = true)
    (hK : Ops P N ops K rest (upd e d (.int .i64 ((getA L x).getD 0))) w) : Ops P N ops K (⟨some d, .lookup t m ix false, ty, pos, af, none⟩ :: rest) e w :=
  .look KT hR hx hy (by cases getA L x <;> rfl) hb hK
theorem run_upd {t kt et T : TypeId} [hU : Und P t (.map kt et)] [hk : Und P kt kd] (KT : KeyT kd kv) {g : Nat} {L : List (κ × ν)} (i : Nat) (x : κ) (u : ν) (hS : St w0 w ks) (hi : ks[i]? = some (CkM T g (prV kv vv L))) :
  ∃ w', (Instr.mapUpdate t (.map (some g)) (kv x) (vv u)).run P w = .ok () w' ∧ St w0 w' (ks.set i (CkM T g (prV kv vv (putA L x u)))) := by
 obtain ⟨_, es, cl, hh, hm⟩ := hS.ownM i hi
 have hf := findNow_A (vv := vv) KT x es.toList L 0 hm
 have hfk := MapKept.run_findKey (P := P) (w := w) hk.out hf
 cases hfn : fndA L x with
 | none =>
  refine ⟨{ w with heap := w.heap.setIfInBounds g (.map (es.push ⟨kv x, vv u, cl⟩) (cl + 1)) }, ?_, hS.turnM hi ?_⟩
  ·simp [Instr.mapUpdate, run_underlying hU.out, MapKept.run_getObj_map hh, MapKept.run_checkKey hk.out (KT.isKey x), hfk, hfn, MapKept.run_setObj_map _ hh, Result.andThen]
  ·rw [fndA_none hfn]
   simp only [Array.toList_push, List.map_append, hm, prV]
   rfl
 | some p =>
  obtain ⟨j, v⟩ := p
  obtain ⟨h1, h2⟩ := fndA_some hfn
  have hjl : j < L.length := (List.getElem?_eq_some_iff.1 h1).1
  have hel : es.toList.length = L.length := by have := congrArg List.length hm; simpa [prV] using this
  have hes : es.size = L.length := by simpa using hel
  have hje : j < es.size := by omega
  have hkey : es[j].key = kv x := by
   have := congrArg (fun l => l[j]?) hm
   simp [prV, h1, hje] at this
   exact this.1
  have hst := MapKept.run_keyThatStays (P := P) (w := w) (KT.isKey x)
  refine ⟨{ w with heap := w.heap.setIfInBounds g (.map (es.modify j fun e => { e with key := kv x, val := vv u }) cl) }, ?_, hS.turnM hi ?_⟩
  ·simp [Instr.mapUpdate, run_underlying hU.out, MapKept.run_getObj_map hh, MapKept.run_checkKey hk.out (KT.isKey x), hfk, hfn, MapKept.run_setObj_map _ hh, Result.andThen, hje, hkey, hst]
  ·rw [h2 u]
   apply List.ext_getElem?
   intro q
   have hq := congrArg (fun l => l[q]?) hm
   simp only [prV, List.getElem?_map, Array.getElem?_toList] at hq
   simp only [prV, List.getElem?_map, List.getElem?_set, Array.getElem?_toList, Array.getElem?_modify]
   by_cases e1 : j = q
   ·subst e1
    simp [hje, hjl]
   ·rw [if_neg e1, if_neg e1]
    exact hq
def updOf : Op → Option (TypeId × Operand × Operand × Operand)
 | .mapUpdate t m k x => some (t, m, k, x)
 | .insert t m k x => some (t, m, k, x)
 | _ => none
theorem Ops.upm {op : Op} {t kt et T : TypeId} {m k x : Operand} [hU : Und P t (.map kt et)] [Und P kt kd] (hop : updOf op = some (t, m, k, x)) (KT : KeyT kd kv) {g : Nat} {L : List (κ × ν)} (i : Nat) {a : κ} {u : ν} (hS : St w0 w ks) (hi : ks[i]? = some (CkM T g (prV kv vv L))) (hm : ev e m = .map (some g)) (hk : ev e k = kv a) (hx : ev e x = vv u)
    (hK : ∀ w', St w0 w' (ks.set i (CkM T g (prV kv vv (putA L a u)))) → Ops P N ops K rest e w') : Ops P N ops K (⟨none, op, ty, pos, af, none⟩ :: rest) e w := by
  obtain ⟨w', hrun, hS'⟩ := run_upd (P := P) (t := t) KT i a u hS hi
  refine .unit (w' := w') ?_ (hK _ hS')
  cases op <;> simp [updOf] at hop <;> obtain ⟨rfl, rfl, rfl, rfl⟩ := hop <;> simp [execOp, hm, hk, hx, hrun]
end
end Go.Proofs.YtiblelgfkakmiaaGreatDoor.Vc
