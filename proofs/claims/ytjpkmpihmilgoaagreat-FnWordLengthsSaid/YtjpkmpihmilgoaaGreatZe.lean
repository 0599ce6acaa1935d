/-
  The texts Srt, C3, C4, C5, C6, Uti, D1 in one. Conditions: as each part states them.
-/
import Derived.Test.YtjpkmpihmilgoaaGreatLay
import Derived.Shelf.SortM.Plain
import Derived.Test.YtjpkmpihmilgoaaGreatZd
import Derived.Test.YtjpkmpihmilgoaaGreatInst
import Derived.Test.YtjpkmpihmilgoaaGreatZc
import Derived.Test.YtjpkmpihmilgoaaGreatZb
/-
 The library's sort of a list of one's own. Conditions: the list has an element.
-/
namespace Go.Proofs.YtjpkmpihmilgoaaGreat.Vc
open Go.RowKit Go.Sort

theorem heap_srt {w : World} {g n off : Nat} {os : Array Obj} {cur : Array Value} {e : TypeId} {fr : Nat × Nat} (d : Array Int) (hb : w.heap[g]? = some (.cells cur e fr)) :
    (Go.Sort.grow (putRow (Value.int .i64) (Sort.ahead w n) g off d) os).heap[g]? = some (.cells (putCells (Value.int .i64) off d cur) e fr) := by
  have hg : g < w.heap.size := (Array.getElem?_eq_some_iff.1 hb).1
  rw [heap_grow_old _ _ (by simpa using hg)]
  simp [putRow, mapBlock, Sort.ahead, Array.getElem?_modify, hb, onCells]
theorem grownBy_srt {w : World} {g n off : Nat} {os : Array Obj} (d : Array Int) : GrB w (Go.Sort.grow (putRow (Value.int .i64) (Sort.ahead w n) g off d) os) (some g) := by
 refine ⟨⟨rfl, rfl, rfl, by simp, fun k hk hne => ?_⟩, Nat.le_add_right _ _⟩
 rw [heap_grow_old _ _ (by simpa using hk)]
 have : g ≠ k := fun e => hne (by rw [e])
 simp [putRow, mapBlock, Sort.ahead, Array.getElem?_modify, this]

theorem sort_c {w0 w : World} {ks : List Ck} (i : Nat) {t : TypeId} {A : Option Addr} {n c : Nat} {xs : List Int} (hS : St w0 w ks) (hk : ks[i]? = some (CkI t A n c xs)) (h0 : 0 < n) (hn : n ≤ 1000000000) :
  Ret Tryz.prog 116 [.slice A n c] w (fun v w' => v = .tuple #[] ∧ St w0 w' (ks.set i (CkI t A n c (srt xs)))) := by
 obtain ⟨h1, h2, h3, h4⟩ := hS.getC hk (isM_I _)
 have hl : xs.length = n := hS.lenI i hk
 have h2 : n ≤ c := h2
 rcases h4 with ⟨_, hc0⟩ | ⟨g, o, cur, hA, hg, hh, hs, hc⟩
 ·have hc0 : c = 0 := hc0
  omega
 have hA : A = some ⟨g, o, none⟩ := hA
 have hs : o + c ≤ cur.size := hs
 have hc : ∀ j, j < n → cur[o + j]? = (xs.map (Value.int .i64))[j]? := hc
 subst hA
 subst hl
 have hH : Holds (Value.int .i64) w g o xs.toArray := fun j hj => by
  have hj' : j < xs.length := by simpa using hj
  refine ⟨?_, by simp [World.frozen?, hh]⟩
  simp only [World.cell?, hh]
  simp only [Option.isSome_none, Bool.false_eq_true, if_false]
  rw [hc j hj']
  simp [hj']
 have hlt : g < w.heap.size := (Array.getElem?_eq_some_iff.1 hh).1
 have key := AnyM.slices_Sort_int lsort g o c xs w hH hlt (by omega)
 refine Calls.mono key fun x w' ⟨hx, m, os, hw⟩ => ⟨_, hx, rfl, ?_⟩
 subst hw
 have hsl : (srt xs).length = xs.length := (srt_perm xs).length_eq
 refine hS.turn hk rfl rfl (grownBy_srt _) (.ofC (isM_I _) ⟨by simp [hsl], h2, h3, .inr ⟨g, o, _, rfl, hg, heap_srt _ hh, by simp only [putCells, Array.size_mapIdx]; exact hs, fun j hj => ?_⟩⟩)
 have hj : j < xs.length := hj
 show (putCells (Value.int .i64) o (srt xs).toArray cur)[o + j]? = ((srt xs).map (Value.int .i64))[j]?
 have hlt2 : o + j < cur.size := by have : xs.length ≤ c := h2; omega
 simp [putCells, hlt2, hsl, hj]
end Go.Proofs.YtjpkmpihmilgoaaGreat.Vc
/-
 The walks of the program's permutations that words do, and of their cycles. Conditions: as each states them.
-/
namespace Go.Proofs.YtjpkmpihmilgoaaGreat.Vc
open Go.RowKit

theorem isGraphed_c (A : Option Addr) (n c : Nat) (rs : List SlV) (xss : List (List Int)) (w : World) (hR : RowsI w A n rs xss) (hn : n ≤ c) (hc : c ≤ 9223372036854775807) :
    Ret Tryz.prog 66 [.agg #[.slice A n c]] w (fun v w' => v = .bool (decide (Grph xss)) ∧ St w w' []) := by
  have hl := hR.len
  refine Ret.of_cd Tryz.func66 rfl Tryz.ntmps66 rfl (post1 rfl) ?_
  refine Cd.seq ?_
  refine Cd.region ?_
  refine Ops.box1 (St.refl w) rfl rfl ?_
  intro Ab w1 hS
  refine Ops.mv_bool rfl rfl rfl ?_
  refine Ops.nil ?_
  refine thenQ_n ?_
  refine Cd.seq ?_
  refine Cd.region ?_
  refine Ops.fld (hS.rd 0 rfl) rfl rfl rfl rfl inferInstance ?_
  refine Ops.ldf_s (hS.rd 0 rfl) rfl rfl rfl rfl rfl ?_
  refine Ops.len rfl rfl ?_
  refine Ops.gtr rfl rfl rfl ?_
  refine Ops.mv_bool rfl rfl rfl ?_
  refine Ops.split_p 7 rfl (fun h => ?_) (fun h => ?_)
  · refine Ops.rung rfl rfl rfl ?_
    refine Ops.ld_agg 0 (hS.rd 0 rfl) rfl rfl rfl ?_
    refine Ops.rung rfl rfl rfl ?_
    refine Ops.call (isManiplex_c A n c rs xss _ (hS.oldRows hR) hn hc) rfl rfl rfl ?_
    rintro _ w2 ⟨rfl, hst⟩
    have hS := hS.later hst.below
    refine Ops.pick_t rfl rfl rfl ?_
    refine Ops.mv_bool rfl rfl rfl ?_
    refine Ops.nil ?_
    refine thenQ_n ?_
    refine Cd.ret ?_
    refine ret1_b rfl ?_
    exact ⟨by have : 2 ≤ n := by omega
              simp [Grph, hl, this], hS.none⟩
  · refine Ops.skipg rfl rfl rfl rfl rfl ?_
    refine Ops.skipg rfl rfl rfl rfl rfl ?_
    refine Ops.pick_f rfl rfl rfl ?_
    refine Ops.mv_bool rfl rfl rfl ?_
    refine Ops.nil ?_
    refine thenQ_n ?_
    refine Cd.ret ?_
    refine ret1_b rfl ?_
    exact ⟨by have : ¬ 2 ≤ n := by omega
              simp [Grph, hl, this], hS.none⟩

def idL (n : Nat) : List Int := (List.range n).map fun x : Nat => (x : Int)
theorem idL_set {n k : Nat} {l : List Int} (hk : k < n) (hl : l.length = n) (h : ∀ j, j < k → l[j]? = some (j : Int)) : ∀ j, j < k + 1 → (l.set k (k : Int))[j]? = some (j : Int) := fun j hj => by
 rw [List.getElem?_set]
 by_cases e : k = j
 ·subst e; rw [if_pos rfl, if_pos (by omega)]
 ·rw [if_neg e]; exact h j (by omega)
theorem identity_c (n : Nat) (w : World) (hn : n ≤ 1000000000) : Ret Tryz.prog 79 [.int .i64 (n : Int)] w (fun v w' => ∃ A', v = .slice A' n n ∧ St w w' [CkI 2 A' n n (idL n)]) := by
 refine Ret.of_cd Tryz.func79 rfl Tryz.ntmps79 rfl (post1 rfl) ?_
 refine Cd.seq ?_
 refine Cd.region ?_
 refine Ops.mv_sl rfl rfl rfl ?_
 refine Ops.nil ?_
 refine thenQ_n ?_
 refine Cd.seq ?_
 refine Cd.region ?_
 refine Ops.mv_int rfl rfl rfl ?_
 refine Ops.mkI n (St.refl w) rfl rfl (by omega) ?_
 intro A1 w1 hS1
 refine Ops.mv_sl rfl rfl rfl ?_
 refine Ops.nil ?_
 refine thenQ_n ?_
 refine Cd.seq ?_
 refine Cd.seq ?_
 refine Cd.region ?_
 refine Ops.mv_sl rfl rfl rfl ?_
 refine Ops.len rfl rfl ?_
 refine Ops.mv_int rfl rfl rfl ?_
 refine Ops.nil ?_
 refine thenQ_n ?_
 refine Cd.block ?_
 refine Cd.loop (α := Nat × List Int) (fun z => [(3, .slice A1 n n), (8, .int .i64 (n : Int)), (9, .int .i64 (z.1 : Int))]) (fun z w' => St w w' [CkI 2 A1 n n z.2] ∧ z.1 ≤ n ∧ z.2.length = n ∧ ∀ j, j < z.1 → z.2[j]? = some (j : Int)) (fun z => n - z.1) (0, List.replicate n 0) ⟨rfl, rfl, rfl, trivial⟩ ⟨hS1, Nat.zero_le _, by simp, fun j hj => by omega⟩ ?_
 rintro ⟨k, l⟩ e w2 ⟨hS2, hk, hl, hK⟩
 dsimp only at hS2 hk hl hK ⊢
 refine Cd.seq ?_
 refine Cd.region ?_
 refine Ops.lss rfl rfl rfl ?_
 refine Ops.nil ?_
 refine thenQ_n ?_
 refine Cd.seq ?_
 refine Cd.cond_p _ rfl (fun h1 => ?_) (fun h1 => ?_)
 ·refine Cd.skip ?_
  refine thenQ_n ?_
  refine Cd.seq ?_
  refine Cd.block ?_
  refine Cd.seq ?_
  refine Cd.region ?_
  refine Ops.mv_int rfl rfl rfl ?_
  refine Ops.mv_int rfl rfl rfl ?_
  refine Ops.nil ?_
  refine thenQ_n ?_
  refine Cd.region ?_
  refine Ops.mv_sl rfl rfl rfl ?_
  refine Ops.mv_int rfl rfl rfl ?_
  refine Ops.mv_int rfl rfl rfl ?_
  refine Ops.idx (hS2.rdI 0 rfl).2 rfl rfl rfl (by omega) (by omega) ?_
  refine Ops.st_int 0 hS2 rfl rfl rfl (by omega) ?_
  intro w3 hS3
  refine Ops.nil ?_
  refine blockQ_n ?_
  refine thenQ_n ?_
  refine Cd.region ?_
  refine Ops.add rfl rfl rfl (by omega) ?_
  refine Ops.mv_int rfl rfl rfl ?_
  refine Ops.nil ?_
  refine thenQ_n ?_
  exact ⟨(k + 1, l.set k (k : Int)), by show n - (k + 1) < n - k; omega, ⟨rfl, rfl, rfl, trivial⟩, hS3, by show k + 1 ≤ n; omega, by show (l.set k _).length = n; rw [List.length_set]; exact hl, idL_set (by omega) hl hK⟩
 ·refine Cd.exit ?_
  refine thenQ_x ?_
  refine thenQ_x ?_
  refine blockQ_x ?_
  refine thenQ_n ?_
  refine Cd.seq ?_
  refine Cd.region ?_
  refine Ops.mv_sl rfl rfl rfl ?_
  refine Ops.mv_sl rfl rfl rfl ?_
  refine Ops.nil ?_
  refine thenQ_n ?_
  refine Cd.ret ?_
  refine ret1_s rfl ?_
  have hkn : k = n := by omega
  subst hkn
  have he : l = idL k := by
   apply List.ext_getElem?
   intro j
   by_cases hj : j < k
   ·rw [hK j hj]; simp [idL, hj]
   ·rw [List.getElem?_eq_none (by omega), List.getElem?_eq_none (by simp [idL]; omega)]
  subst he
  exact ⟨A1, rfl, hS2⟩

def thenL (p q : List Int) : List Int := p.map fun x => gi q x
theorem then_c (A : Option Addr) (n c : Nat) (p : List Int) (A' : Option Addr) (n' c' : Nat) (q : List Int) (w : World) (hP : RdI w A n p) (hQ : RdI w A' n' q) (hn : n ≤ 1000000000) (hp : ∀ k : Nat, k < n → 0 ≤ gi p k ∧ gi p k < n') :
  Ret Tryz.prog 117 [.slice A n c, .slice A' n' c'] w (fun v w' => ∃ A', v = .slice A' n n ∧ St w w' [CkI 2 A' n n (thenL p q)]) := by
 have hpl := hP.1
 refine Ret.of_cd Tryz.func117 rfl Tryz.ntmps117 rfl (post1 rfl) ?_
 refine Cd.seq ?_
 refine Cd.region ?_
 refine Ops.mv_sl rfl rfl rfl ?_
 refine Ops.nil ?_
 refine thenQ_n ?_
 refine Cd.seq ?_
 refine Cd.region ?_
 refine Ops.mv_sl rfl rfl rfl ?_
 refine Ops.len rfl rfl ?_
 refine Ops.mkI n (St.refl w) rfl rfl (by omega) ?_
 intro A1 w1 hS1
 refine Ops.mv_sl rfl rfl rfl ?_
 refine Ops.nil ?_
 refine thenQ_n ?_
 refine Cd.seq ?_
 refine Cd.seq ?_
 refine Cd.region ?_
 refine Ops.mv_sl rfl rfl rfl ?_
 refine Ops.len rfl rfl ?_
 refine Ops.mv_int rfl rfl rfl ?_
 refine Ops.nil ?_
 refine thenQ_n ?_
 refine Cd.block ?_
 refine Cd.loop (α := Nat × List Int) (fun z => [(0, .slice A n c), (1, .slice A' n' c'), (5, .slice A1 n n), (11, .slice A n c), (12, .int .i64 (n : Int)), (13, .int .i64 (z.1 : Int))]) (fun z w' => St w w' [CkI 2 A1 n n z.2] ∧ z.1 ≤ n ∧ z.2.length = n ∧ ∀ j, j < z.1 → z.2[j]? = (thenL p q)[j]?) (fun z => n - z.1) (0, List.replicate n 0) ⟨rfl, rfl, rfl, rfl, rfl, rfl, trivial⟩ ⟨hS1, Nat.zero_le _, by simp, fun j hj => by omega⟩ ?_
 rintro ⟨k, l⟩ e w2 ⟨hS2, hk, hl, hK⟩
 dsimp only at hS2 hk hl hK ⊢
 have hP2 := hS2.oldI hP
 have hQ2 := hS2.oldI hQ
 refine Cd.seq ?_
 refine Cd.region ?_
 refine Ops.lss rfl rfl rfl ?_
 refine Ops.nil ?_
 refine thenQ_n ?_
 refine Cd.seq ?_
 refine Cd.cond_p _ rfl (fun h1 => ?_) (fun h1 => ?_)
 ·have hpk := hp k (by omega)
  refine Cd.skip ?_
  refine thenQ_n ?_
  refine Cd.seq ?_
  refine Cd.block ?_
  refine Cd.seq ?_
  refine Cd.region ?_
  refine Ops.mv_int rfl rfl rfl ?_
  refine Ops.idx hP2.2 rfl rfl rfl (by omega) (by omega) ?_
  refine Ops.ld_int hP2 rfl (by omega) rfl rfl ?_
  refine Ops.mv_int rfl rfl rfl ?_
  refine Ops.mv_int rfl rfl rfl ?_
  refine Ops.nil ?_
  refine thenQ_n ?_
  refine Cd.region ?_
  refine Ops.mv_sl rfl rfl rfl ?_
  refine Ops.mv_int rfl rfl rfl ?_
  refine Ops.mv_sl rfl rfl rfl ?_
  refine Ops.mv_int rfl rfl rfl ?_
  refine Ops.idx hQ2.2 rfl rfl rfl (by omega) (by omega) ?_
  refine Ops.ld_int hQ2 rfl (by omega) rfl rfl ?_
  refine Ops.idx (hS2.rdI 0 rfl).2 rfl rfl rfl (by omega) (by omega) ?_
  refine Ops.st_int 0 hS2 rfl rfl rfl (by omega) ?_
  intro w3 hS3
  refine Ops.nil ?_
  refine blockQ_n ?_
  refine thenQ_n ?_
  refine Cd.region ?_
  refine Ops.add rfl rfl rfl (by omega) ?_
  refine Ops.mv_int rfl rfl rfl ?_
  refine Ops.nil ?_
  refine thenQ_n ?_
  refine ⟨(k + 1, l.set k (gi q (gi p k))), by show n - (k + 1) < n - k; omega, ⟨rfl, rfl, rfl, rfl, rfl, rfl, trivial⟩, hS3, by show k + 1 ≤ n; omega, by show (l.set k _).length = n; rw [List.length_set]; exact hl, fun j hj => ?_⟩
  show (l.set k (gi q (gi p k)))[j]? = _
  rw [List.getElem?_set]
  by_cases ej : k = j
  ·subst ej
   rw [if_pos rfl, if_pos (by omega)]
   simp [thenL, gi, List.getD_eq_getElem?_getD, List.getElem?_eq_getElem (show k < p.length by omega)]
  ·rw [if_neg ej]
   exact hK j (by have : j < k + 1 := hj; omega)
 ·refine Cd.exit ?_
  refine thenQ_x ?_
  refine thenQ_x ?_
  refine blockQ_x ?_
  refine thenQ_n ?_
  refine Cd.seq ?_
  refine Cd.region ?_
  refine Ops.mv_sl rfl rfl rfl ?_
  refine Ops.mv_sl rfl rfl rfl ?_
  refine Ops.nil ?_
  refine thenQ_n ?_
  refine Cd.ret ?_
  refine ret1_s rfl ?_
  have hkn : k = n := by omega
  subst hkn
  have he : l = thenL p q := by
   apply List.ext_getElem?
   intro j
   by_cases hj : j < k
   ·exact hK j hj
   ·rw [List.getElem?_eq_none (by omega), List.getElem?_eq_none (by simp [thenL]; omega)]
  subst he
  exact ⟨A1, rfl, hS2⟩
end Go.Proofs.YtjpkmpihmilgoaaGreat.Vc
/-
 The walks of the program's lengths of a word. Conditions: as each states them.
-/
namespace Go.Proofs.YtjpkmpihmilgoaaGreat.Vc
open Go.RowKit

theorem runW_inj {F : Nat} {xss : List (List Int)} (hs : Sys F xss) (hi : Inj F xss) : ∀ (ws : List Int) (x y : Int), (∀ i ∈ ws, 0 ≤ i ∧ i < xss.length) → 0 ≤ x → x < F → 0 ≤ y → y < F → runW xss x ws = runW xss y ws → x = y
 | [], _, _, _, _, _, _, _, h => h
 | i :: ws, x, y, hw, h0, h1, h2, h3, h => by
  have hm := hw i (by simp)
  have gx := (hs _ (gl_in hm.1 hm.2)).2 x h0 h1
  have gy := (hs _ (gl_in hm.1 hm.2)).2 y h2 h3
  exact hi _ (gl_in hm.1 hm.2) x y h0 h1 h2 h3 (runW_inj hs hi ws _ _ (fun j hj => hw j (by simp [hj])) gx.1 gx.2 gy.1 gy.2 h)
theorem does_len (xss : List (List Int)) (F : Nat) (ws : List Int) : (doesL xss F ws).length = F := by simp [doesL]
theorem does_perm {F : Nat} {xss : List (List Int)} (hs : Sys F xss) (hi : Inj F xss) (hF : F ≤ 400) {ws : List Int} (hw : ∀ i ∈ ws, 0 ≤ i ∧ i < xss.length) : IsPerm (doesL xss F ws) := by
 refine ⟨by rw [does_len]; exact hF, fun x hx => ?_, ?_⟩
 ·rw [does_len]
  obtain ⟨y, hy, rfl⟩ := List.mem_map.1 hx
  exact runW_lt hs ws _ hw (by omega) (by have := List.mem_range.1 hy; omega)
 ·unfold doesL
  rw [List.Nodup, List.pairwise_map]
  refine (List.nodup_range (n := F)).imp_of_mem fun {a b} ha hb hab h => hab ?_
  have ha := List.mem_range.1 ha
  have hb := List.mem_range.1 hb
  have := runW_inj hs hi ws (a : Int) (b : Int) hw (by omega) (by omega) (by omega) (by omega) h
  omega
theorem does_step {xss : List (List Int)} {F : Nat} {ws : List Int} {k : Nat} (hk : k < ws.length) : thenL (doesL xss F (ws.take k)) (gl xss (gi ws k)) = doesL xss F (ws.take (k + 1)) := by
 unfold thenL doesL
 rw [List.map_map]
 refine List.map_congr_left fun x _ => ?_
 rw [runW_take hk]; rfl

theorem does_c (Ab A : Option Addr) (n c : Nat) (rs : List SlV) (xss : List (List Int)) (F : Nat) (Aw : Option Addr) (nw cw : Nat) (ws : List Int) (w : World) (hB : Rd w Ab 1 (fun _ => .slice A n c)) (hR : RowsI w A n rs xss) (hn : 0 < n) (hF : (gl xss 0).length = F) (hF4 : F ≤ 1000000) (hs : Sys F xss) (hW : RdI w Aw nw ws) (hnw : nw ≤ 9223372036854775807) (hw : ∀ k : Nat, k < nw → 0 ≤ gi ws k ∧ gi ws k < n) :
  Ret Tryz.prog 69 [.pointer Ab, .slice Aw nw cw] w (fun v w' => ∃ A', v = .slice A' F F ∧ St w w' [CkI 2 A' F F (doesL xss F ws)]) := by
 have hl := hR.len
 have hwl := hW.1
 have hwm : ∀ i ∈ ws, 0 ≤ i ∧ i < xss.length := by
  have := mem_gi (l := ws) (a := 0) (b := (n : Int)) (fun j hj => hw j (by omega))
  rw [hl]; exact this
 have e0 : (rg rs 0).n = F := by rw [← hF]; exact (hR.rowLen (by omega) (by omega)).symm
 refine Ret.of_cd Tryz.func69 rfl Tryz.ntmps69 rfl (post1 rfl) ?_
 refine Cd.seq ?_
 refine Cd.region ?_
 refine Ops.mv_sl rfl rfl rfl ?_
 refine Ops.nil ?_
 refine thenQ_n ?_
 refine Cd.seq ?_
 refine Cd.region ?_
 refine Ops.mv_ptr rfl rfl rfl ?_
 refine Ops.call (flags_c Ab A n c rs xss _ w hB rfl hR hn) rfl rfl rfl ?_
 rintro _ w ⟨rfl, rfl⟩
 rw [e0]
 refine Ops.call (identity_c F w (by omega)) rfl rfl rfl ?_
 rintro _ w1 ⟨A5, rfl, hS1⟩
 refine Ops.mv_sl rfl rfl rfl ?_
 refine Ops.nil ?_
 refine thenQ_n ?_
 refine Cd.seq ?_
 refine Cd.seq ?_
 refine Cd.region ?_
 refine Ops.mv_sl rfl rfl rfl ?_
 refine Ops.len rfl rfl ?_
 refine Ops.mv_int rfl rfl rfl ?_
 refine Ops.nil ?_
 refine thenQ_n ?_
 refine Cd.block ?_
 refine Cd.loop (α := Nat × Option Addr) (fun z => [(0, .pointer Ab), (5, .slice z.2 F F), (11, .slice Aw nw cw), (12, .int .i64 (nw : Int)), (13, .int .i64 (z.1 : Int))]) (fun z w' => St w w' [CkI 2 z.2 F F (doesL xss F (ws.take z.1))] ∧ z.1 ≤ nw) (fun z => nw - z.1) (0, A5) ⟨rfl, rfl, rfl, rfl, rfl, trivial⟩ ⟨hS1, Nat.zero_le _⟩ ?_
 rintro ⟨k, A6⟩ e w2 ⟨hS2, hk⟩
 dsimp only at hS2 hk ⊢
 have hW2 := hS2.oldI hW
 have hR2 := hS2.oldRows hR
 have hB2 := hB.below hS2.below
 refine Cd.seq ?_
 refine Cd.region ?_
 refine Ops.lss rfl rfl rfl ?_
 refine Ops.nil ?_
 refine thenQ_n ?_
 refine Cd.seq ?_
 refine Cd.cond_p _ rfl (fun h1 => ?_) (fun h1 => ?_)
 ·have hwk := hw k (by omega)
  have hrow := hR2.at_ (i := gi ws k) hwk.1 hwk.2
  have hrn : (rg rs (gi ws k)).n = F := by
   rw [← hR2.rowLen hwk.1 hwk.2]
   exact (hs _ (gl_in hwk.1 (by omega))).1
  refine Cd.skip ?_
  refine thenQ_n ?_
  refine Cd.seq ?_
  refine Cd.block ?_
  refine Cd.seq ?_
  refine Cd.region ?_
  refine Ops.idx hW2.2 rfl rfl rfl (by omega) (by omega) ?_
  refine Ops.ld_int hW2 rfl (by omega) rfl rfl ?_
  refine Ops.mv_int rfl rfl rfl ?_
  refine Ops.nil ?_
  refine thenQ_n ?_
  refine Cd.region ?_
  refine Ops.mv_sl rfl rfl rfl ?_
  refine Ops.mv_ptr rfl rfl rfl ?_
  refine Ops.nilp hB2 (by decide) rfl rfl ?_
  refine Ops.fld hB2 rfl rfl rfl rfl inferInstance ?_
  refine Ops.ldf_s hB2 rfl rfl rfl rfl rfl ?_
  refine Ops.mv_int rfl rfl rfl ?_
  refine Ops.idx hR2.top.2 rfl rfl rfl (by omega) (by omega) ?_
  refine Ops.ld_sl hR2.top rfl (by omega) rfl rfl ?_
  refine Ops.call (then_c A6 F F _ _ _ (rg rs (gi ws k)).c _ _ (hS2.rdI 0 rfl) hrow (by omega) (fun x hx => by rw [hrn]; exact does_lt hs (fun i hi => hwm i (List.mem_of_mem_take hi)) hx)) rfl rfl rfl ?_
  rintro _ w3 ⟨A7, rfl, hst⟩
  have hS3 := hS2.call hst
  rw [does_step (by omega)] at hS3
  refine Ops.mv_sl rfl rfl rfl ?_
  refine Ops.nil ?_
  refine blockQ_n ?_
  refine thenQ_n ?_
  refine Cd.region ?_
  refine Ops.add rfl rfl rfl (by omega) ?_
  refine Ops.mv_int rfl rfl rfl ?_
  refine Ops.nil ?_
  refine thenQ_n ?_
  exact ⟨(k + 1, A7), by show nw - (k + 1) < nw - k; omega, ⟨rfl, rfl, rfl, rfl, rfl, trivial⟩, hS3.sub (List.Sublist.cons_cons _ (List.nil_sublist _)), by show k + 1 ≤ nw; omega⟩
 ·refine Cd.exit ?_
  refine thenQ_x ?_
  refine thenQ_x ?_
  refine blockQ_x ?_
  refine thenQ_n ?_
  refine Cd.seq ?_
  refine Cd.region ?_
  refine Ops.mv_sl rfl rfl rfl ?_
  refine Ops.mv_sl rfl rfl rfl ?_
  refine Ops.nil ?_
  refine thenQ_n ?_
  refine Cd.ret ?_
  refine ret1_s rfl ?_
  have hkn : k = nw := by omega
  subst hkn
  rw [← hwl, List.take_length] at hS2
  exact ⟨A6, rfl, hS2⟩

theorem cyclesOf_c (A : Option Addr) (n c : Nat) (p : List Int) (w : World) (hP : RdI w A n p) (hn : n ≤ 1000) (hp : ∀ x : Nat, x < n → 0 ≤ gi p x ∧ gi p x < n) :
    Ret Tryz.prog 115 [.slice A n c] w (fun v w' => ∃ A' c' rs, v = .slice A' (cyAll p n).length c' ∧ rs.length = (cyAll p n).length ∧ St w w' (mat 34 2 A' (cyAll p n).length c' rs (cyAll p n) ++ [])) := by
  have hpl := hP.1
  have hcl := cyAll_le p n
  refine Ret.of_cd Tryz.func115 rfl Tryz.ntmps115 rfl (post1 rfl) ?_
  refine Cd.seq ?_
  refine Cd.region ?_
  refine Ops.mv_sl rfl rfl rfl ?_
  refine Ops.nil ?_
  refine thenQ_n ?_
  refine Cd.seq ?_
  refine Cd.region ?_
  refine Ops.mv_sl rfl rfl rfl ?_
  refine Ops.nil ?_
  refine thenQ_n ?_
  refine Cd.seq ?_
  refine Cd.region ?_
  refine Ops.mv_sl rfl rfl rfl ?_
  refine Ops.len rfl rfl ?_
  refine Ops.mkB n (St.refl w) rfl rfl (by omega) ?_
  intro A4 w1 hS1
  refine Ops.mv_sl rfl rfl rfl ?_
  refine Ops.nil ?_
  refine thenQ_n ?_
  refine Cd.seq ?_
  refine Cd.seq ?_
  refine Cd.region ?_
  refine Ops.mv_sl rfl rfl rfl ?_
  refine Ops.call (sizeI_c _ _ _ _) rfl rfl rfl ?_
  rintro _ w1 ⟨rfl, rfl⟩
  refine Ops.mv_int rfl rfl rfl ?_
  refine Ops.nil ?_
  refine thenQ_n ?_
  refine Cd.block ?_
  have hS0 : St w w1 (CkB 4 A4 n n (List.replicate n false) :: mat 34 2 none 0 0 [] []) := (hS1.nil 34).swap
  refine Cd.loop (α := Nat × Option Addr × Nat × List SlV × List (List Int) × List Bool) (fun z => [(0, .slice A n c), (3, .slice z.2.1 z.2.2.2.2.1.length z.2.2.1), (4, .slice A4 n n), (12, .int .i64 (n : Int)), (13, .int .i64 (z.1 : Int))])
    (fun z w' => St w w' (CkB 4 A4 n n z.2.2.2.2.2 :: mat 34 2 z.2.1 z.2.2.2.2.1.length z.2.2.1 z.2.2.2.1 z.2.2.2.2.1) ∧ z.1 ≤ n ∧ z.2.2.2.2.2.length = n ∧ z.2.2.2.1.length = z.2.2.2.2.1.length ∧ z.2.2.2.2.1 ++ cycs p (List.range' z.1 (n - z.1)) z.2.2.2.2.2 = cyAll p n)
    (fun z => n - z.1) (0, none, 0, [], [], List.replicate n false) ⟨rfl, rfl, rfl, rfl, rfl, trivial⟩ ⟨hS0, Nat.zero_le _, by simp, rfl, by rw [List.nil_append, cyAll_eq]⟩ ?_
  rintro ⟨i, A3, c3, rs, done, s⟩ e w2 ⟨hS2, hi, hsl, hrl, hdone⟩
  dsimp only at hS2 hi hsl hrl hdone ⊢
  have hdl : done.length ≤ n := by
    have h1 := congrArg List.length hdone
    rw [List.length_append] at h1
    omega
  refine Cd.seq ?_
  refine Cd.region ?_
  refine Ops.lss rfl rfl rfl ?_
  refine Ops.nil ?_
  refine thenQ_n ?_
  refine Cd.seq ?_
  refine Cd.cond_p _ rfl (fun h1 => ?_) (fun h1 => ?_)
  · have hi' : i < n := by omega
    rw [cycs_step hi'] at hdone
    have hgle := goC_fst_le (p := p) (x := i) hsl
    generalize hr : goC p (s.count false) i s = r at *
    have hr2l : r.2.length = n := by rw [← hr, goC_len]; exact hsl
    refine Cd.skip ?_
    refine thenQ_n ?_
    refine Cd.seq ?_
    refine Cd.block ?_
    refine Cd.seq ?_
    refine Cd.region ?_
    refine Ops.mv_int rfl rfl rfl ?_
    refine Ops.mv_int rfl rfl rfl ?_
    refine Ops.nil ?_
    refine thenQ_n ?_
    refine Cd.seq ?_
    refine Cd.region ?_
    refine Ops.mv_sl rfl rfl rfl ?_
    refine Ops.nil ?_
    refine thenQ_n ?_
    refine Cd.join (α := Option Addr × Nat) (fun z => [(0, .slice A n c), (3, .slice A3 done.length c3), (4, .slice A4 n n), (6, .slice z.1 r.1.length z.2), (12, .int .i64 (n : Int)), (13, .int .i64 (i : Int))])
      (fun z w' => St w w' (CkI 2 z.1 r.1.length z.2 r.1 :: CkB 4 A4 n n r.2 :: mat 34 2 A3 done.length c3 rs done)) ?_ ?_
    · refine Cd.seq ?_
      refine Cd.region ?_
      refine Ops.mv_int rfl rfl rfl ?_
      refine Ops.mv_int rfl rfl rfl ?_
      refine Ops.nil ?_
      refine thenQ_n ?_
      refine Cd.block ?_
      refine Cd.loop (α := Nat × Option Addr × Nat × List Int × List Bool) (fun z => [(0, .slice A n c), (3, .slice A3 done.length c3), (4, .slice A4 n n), (6, .slice z.2.1 z.2.2.2.1.length z.2.2.1), (7, .int .i64 (z.1 : Int)), (12, .int .i64 (n : Int)), (13, .int .i64 (i : Int))])
        (fun z w' => St w w' (CkI 2 z.2.1 z.2.2.2.1.length z.2.2.1 z.2.2.2.1 :: CkB 4 A4 n n z.2.2.2.2 :: mat 34 2 A3 done.length c3 rs done) ∧ z.1 < n ∧ z.2.2.2.2.length = n ∧ z.2.2.2.1 ++ (goC p (z.2.2.2.2.count false) z.1 z.2.2.2.2).1 = r.1 ∧ (goC p (z.2.2.2.2.count false) z.1 z.2.2.2.2).2 = r.2)
        (fun z => z.2.2.2.2.count false) (i, none, 0, [], s) ⟨rfl, rfl, rfl, rfl, rfl, rfl, rfl, trivial⟩ ⟨hS2.nil _, hi', hsl, by rw [List.nil_append, hr], by rw [hr]⟩ ?_
      rintro ⟨x, A6, c6, cl, s'⟩ e w3 ⟨hS3, hx, hsl', hlen, hend⟩
      dsimp only at hS3 hx hsl' hlen hend ⊢
      have hB3 := hS3.rdB 1 rfl
      have hP3 := hS3.oldI hP
      have hcll : cl.length ≤ n := by
        have := congrArg List.length hlen
        rw [List.length_append] at this
        omega
      refine Cd.seq ?_
      refine Cd.seq ?_
      refine Cd.region ?_
      refine Ops.mv_sl rfl rfl rfl ?_
      refine Ops.mv_int rfl rfl rfl ?_
      refine Ops.idx hB3.2 rfl rfl rfl (by omega) (by omega) ?_
      refine Ops.ld_bool hB3 rfl (by omega) rfl rfl ?_
      first | refine Ops.not_p rfl rfl ?_ | refine Ops.not rfl rfl ?_
      refine Ops.nil ?_
      refine thenQ_n ?_
      refine Cd.cond rfl (fun h2 => ?_) (fun h2 => ?_)
      · have hns : ¬ gb s' (x : Int) = true := by simpa using h2
        have hst' := goC_step (p := p) (s := s') (x := x) (by omega) hns
        have hcs := count_seen (s := s') (x := x) (by omega) hns
        have hlx := hp x hx
        rw [hst'] at hlen hend
        dsimp only at hlen hend
        refine Cd.skip ?_
        refine thenQ_n ?_
        refine Cd.seq ?_
        refine Cd.block ?_
        refine Cd.seq ?_
        refine Cd.region ?_
        refine Ops.mv_sl rfl rfl rfl ?_
        refine Ops.mv_int rfl rfl rfl ?_
        refine Ops.idx hB3.2 rfl rfl rfl (by omega) (by omega) ?_
        refine Ops.st_bool 1 hS3 rfl rfl rfl (by omega) ?_
        intro w4 hS4
        have hS4 : St w w4 (CkI 2 A6 cl.length c6 cl :: CkB 4 A4 n n (s'.set x true) :: mat 34 2 A3 done.length c3 rs done) := hS4
        refine Ops.nil ?_
        refine thenQ_n ?_
        refine Cd.region ?_
        refine Ops.mv_sl rfl rfl rfl ?_
        refine Ops.mv_int rfl rfl rfl ?_
        refine Ops.bs1I hS4 rfl rfl rfl ?_
        intro A7 w5 hS5
        refine Ops.appI 1 hS5 rfl (hS5.rdI 0 rfl) rfl rfl rfl (by omega) (by omega) rfl ?_
        intro A8 c8 w6 hS6
        refine Ops.mv_sl rfl rfl rfl ?_
        refine Ops.nil ?_
        refine blockQ_n ?_
        refine thenQ_n ?_
        refine Cd.region ?_
        refine Ops.mv_sl rfl rfl rfl ?_
        refine Ops.mv_int rfl rfl rfl ?_
        have hP6 := hS6.oldI hP
        refine Ops.idx hP6.2 rfl rfl rfl (by omega) (by omega) ?_
        refine Ops.ld_int hP6 rfl (by omega) rfl rfl ?_
        refine Ops.mv_int rfl rfl rfl ?_
        refine Ops.nil ?_
        refine thenQ_n ?_
        have hcl' : (cl ++ [(x : Int)]).length = cl.length + 1 := by simp
        refine ⟨((gi p x).toNat, A8, c8, cl ++ [(x : Int)], s'.set x true), by show (s'.set x true).count false < s'.count false; omega, ⟨rfl, rfl, rfl, by show Value.slice _ _ _ = .slice _ _ _; rw [hcl'], by show Value.int .i64 _ = .int .i64 _; rw [Int.toNat_of_nonneg hlx.1], rfl, rfl, trivial⟩, by rw [hcl']; exact hS6.tail, by show (gi p x).toNat < n; omega, by show (s'.set x true).length = n; rw [List.length_set]; exact hsl', ?_, hend⟩
        rw [← hlen]
        simp
      · have hsn : gb s' (x : Int) = true := by simpa using h2
        rw [goC_seen hsn] at hlen hend
        dsimp only at hlen hend
        rw [List.append_nil] at hlen
        subst hend
        subst hlen
        refine Cd.exit ?_
        refine thenQ_x ?_
        refine thenQ_x ?_
        refine blockQ_x ?_
        refine thenQ_n ?_
        exact ⟨(A6, c6), ⟨rfl, rfl, rfl, rfl, rfl, rfl, trivial⟩, hS3⟩
    · rintro ⟨A6, c6⟩ e w3 hS3
      dsimp only at hS3 ⊢
      refine Cd.seq ?_
      refine Cd.region ?_
      refine Ops.mv_sl rfl rfl rfl ?_
      refine Ops.len rfl rfl ?_
      refine Ops.gtr rfl rfl rfl ?_
      refine Ops.nil ?_
      refine thenQ_n ?_
      refine Cd.cond_p _ rfl (fun h3 => ?_) (fun h3 => ?_)
      · have hne : r.1 ≠ [] := by intro h; rw [h] at h3; simp at h3
        rw [if_neg hne] at hdone
        refine Cd.region ?_
        refine Ops.mv_sl rfl rfl rfl ?_
        refine Ops.mv_sl rfl rfl rfl ?_
        refine Ops.bs1R hS3 rfl rfl rfl ?_
        intro A7 w4 hS4
        refine Ops.appR 3 hS4 rfl (hS4.rdR 0 rfl) rfl rfl rfl (by omega) (by omega) rfl ?_
        intro A8 c8 w5 hS5
        refine Ops.mv_sl rfl rfl rfl ?_
        refine Ops.nil ?_
        refine blockQ_n ?_
        refine thenQ_n ?_
        refine Cd.region ?_
        refine Ops.add rfl rfl rfl (by omega) ?_
        refine Ops.mv_int rfl rfl rfl ?_
        refine Ops.nil ?_
        refine thenQ_n ?_
        have hdl' : (done ++ [r.1]).length = done.length + 1 := by simp
        have hS5 : St w w5 (CkI 2 A6 r.1.length c6 r.1 :: CkB 4 A4 n n r.2 :: CkR 34 A8 (done.length + 1) c8 (rs ++ [⟨A6, r.1.length, c6⟩]) :: rowsCk 2 rs done) := hS5.tail
        refine ⟨(i + 1, A8, c8, rs ++ [⟨A6, r.1.length, c6⟩], done ++ [r.1], r.2), by show n - (i + 1) < n - i; omega, ⟨rfl, by show Value.slice _ _ _ = .slice _ _ _; rw [hdl'], rfl, rfl, rfl, trivial⟩, ?_, hi', hr2l, by simp [hrl], ?_⟩
        · show St w w5 (CkB 4 A4 n n r.2 :: CkR 34 A8 (done ++ [r.1]).length c8 (rs ++ [⟨A6, r.1.length, c6⟩]) :: rowsCk 2 (rs ++ [⟨A6, r.1.length, c6⟩]) (done ++ [r.1]))
          rw [hdl', rowsCk_append hrl]
          exact hS5.perm (List.perm_append_comm (l₁ := [_]) (l₂ := _ :: _ :: rowsCk 2 rs done))
        · rw [← hdone]; simp
      · have hnil : r.1 = [] := List.eq_nil_of_length_eq_zero (by omega)
        rw [if_pos hnil, List.nil_append] at hdone
        refine Cd.skip ?_
        refine blockQ_n ?_
        refine thenQ_n ?_
        refine Cd.region ?_
        refine Ops.add rfl rfl rfl (by omega) ?_
        refine Ops.mv_int rfl rfl rfl ?_
        refine Ops.nil ?_
        refine thenQ_n ?_
        exact ⟨(i + 1, A3, c3, rs, done, r.2), by show n - (i + 1) < n - i; omega, ⟨rfl, rfl, rfl, rfl, rfl, trivial⟩, hS3.tail, hi', hr2l, hrl, hdone⟩
  · refine Cd.exit ?_
    refine thenQ_x ?_
    refine thenQ_x ?_
    refine blockQ_x ?_
    refine thenQ_n ?_
    refine Cd.seq ?_
    refine Cd.region ?_
    refine Ops.mv_sl rfl rfl rfl ?_
    refine Ops.mv_sl rfl rfl rfl ?_
    refine Ops.nil ?_
    refine thenQ_n ?_
    refine Cd.ret ?_
    refine ret1_s rfl ?_
    have hiF : i = n := by omega
    subst hiF
    rw [cycs_end, List.append_nil] at hdone
    subst hdone
    exact ⟨A3, c3, rs, rfl, hrl, by rw [List.append_nil]; exact hS2.tail⟩
end Go.Proofs.YtjpkmpihmilgoaaGreat.Vc
/-
 The walks of the lengths of cycles, and of the Petrie word's lengths on both sides. Conditions: as each states them.
-/
namespace Go.Proofs.YtjpkmpihmilgoaaGreat.Vc
open Go.RowKit

theorem cyAll_pos {p : List Int} {n : Nat} (hn : 0 < n) : 0 < (cyAll p n).length := by
 rw [cyAll_eq, cycs_step hn]
 have h : ¬ gb (List.replicate n false) ((0 : Nat) : Int) = true := by simp [gb, List.getD_eq_getElem?_getD, List.getElem?_replicate, hn]
 rw [goC_step (by simpa using hn) h]
 simp

theorem CycleLengths_c (A : Option Addr) (n c : Nat) (p : List Int) (w : World) (hP : RdI w A n p) (hn : 0 < n) (hp : IsPerm p) :
    Ret Tryz.prog 68 [.slice A n c] w (fun v w' => ∃ A' c', v = .tuple #[.slice A' (lenAll p n).length c', .int .i64 0] ∧ St w w' [CkI 2 A' (lenAll p n).length c' (srt (lenAll p n))]) := by
  have hpl := hP.1
  have hn4 : n ≤ 400 := by have := hp.1; omega
  have hcl := cyAll_le p n
  have hpos := cyAll_pos (p := p) hn
  have hll : (lenAll p n).length = (cyAll p n).length := by simp [lenAll]
  have hlen : ∀ k (hk : k < (cyAll p n).length), (lenAll p n)[k]? = some (((cyAll p n)[k].length : Nat) : Int) := fun k hk => by simp [lenAll, hk]
  refine Ret.of_cd Tryz.func68 rfl Tryz.ntmps68 rfl (post2 rfl) ?_
  refine Cd.seq ?_
  refine Cd.region ?_
  refine Ops.mv_sl rfl rfl rfl ?_
  refine Ops.mv_int rfl rfl rfl ?_
  refine Ops.nil ?_
  refine thenQ_n ?_
  refine Cd.seq ?_
  refine Cd.seq ?_
  refine Cd.region ?_
  refine Ops.mv_sl rfl rfl rfl ?_
  refine Ops.call (isPermutation_c A n c p w hP) rfl rfl rfl ?_
  rintro _ w1 ⟨rfl, hS1⟩
  first | refine Ops.not_p rfl rfl ?_ | refine Ops.not rfl rfl ?_
  refine Ops.nil ?_
  refine thenQ_n ?_
  refine Cd.cond_pf rfl (fun h => h hp) ?_
  refine Cd.skip ?_
  refine thenQ_n ?_
  refine Cd.seq ?_
  refine Cd.region ?_
  refine Ops.mv_sl rfl rfl rfl ?_
  refine Ops.nil ?_
  refine thenQ_n ?_
  refine Cd.seq ?_
  refine Cd.seq ?_
  refine Cd.region ?_
  refine Ops.mv_sl rfl rfl rfl ?_
  refine Ops.call (cyclesOf_c A n c p w1 (hS1.oldI hP) (by omega) (fun x hx => by have := hp.range (i := (x : Int)) (by omega) (by omega); omega)) rfl rfl rfl ?_
  rintro _ w2 ⟨A1, c1, rs, rfl, hrl, hst⟩
  have hS2 : St w w2 (mat 34 2 A1 (cyAll p n).length c1 rs (cyAll p n) ++ []) := by have := hS1.call hst; rwa [List.append_nil] at this
  refine Ops.len rfl rfl ?_
  refine Ops.mv_int rfl rfl rfl ?_
  refine Ops.nil ?_
  refine thenQ_n ?_
  refine Cd.block ?_
  generalize hC : cyAll p n = C at *
  generalize hL : lenAll p n = L at *
  refine Cd.loop (α := Nat × Option Addr × Nat) (fun z => [(4, .slice z.2.1 z.1 z.2.2), (11, .slice A1 C.length c1), (12, .int .i64 (C.length : Int)), (13, .int .i64 (z.1 : Int))])
    (fun z w' => St w w' (CkI 2 z.2.1 z.1 z.2.2 (L.take z.1) :: (mat 34 2 A1 C.length c1 rs C ++ [])) ∧ z.1 ≤ C.length) (fun z => C.length - z.1) (0, none, 0) ⟨rfl, rfl, rfl, rfl, trivial⟩ ⟨hS2.nil _, Nat.zero_le _⟩ ?_
  rintro ⟨k, A4, c4⟩ e w3 ⟨hS3, hk⟩
  dsimp only at hS3 hk ⊢
  have hM := hS3.tail.rowsI rfl
  refine Cd.seq ?_
  refine Cd.region ?_
  refine Ops.lss rfl rfl rfl ?_
  refine Ops.nil ?_
  refine thenQ_n ?_
  refine Cd.seq ?_
  refine Cd.cond_p _ rfl (fun h1 => ?_) (fun h1 => ?_)
  · have hk' : k < C.length := by omega
    have hrk : (rg rs (k : Int)).n = C[k].length := by
      rw [← hM.rowLen (k := (k : Int)) (by omega) h1, gl_mem hk']
    refine Cd.skip ?_
    refine thenQ_n ?_
    refine Cd.seq ?_
    refine Cd.block ?_
    refine Cd.seq ?_
    refine Cd.region ?_
    refine Ops.idx hM.top.2 rfl rfl rfl (by omega) h1 ?_
    refine Ops.ld_sl hM.top rfl (by omega) rfl rfl ?_
    refine Ops.mv_sl rfl rfl rfl ?_
    refine Ops.nil ?_
    refine thenQ_n ?_
    refine Cd.region ?_
    refine Ops.mv_sl rfl rfl rfl ?_
    refine Ops.mv_sl rfl rfl rfl ?_
    refine Ops.call (sizeI_c _ _ _ _) rfl rfl rfl ?_
    rintro _ w3 ⟨rfl, rfl⟩
    refine Ops.bs1I hS3 rfl rfl rfl ?_
    intro A7 w4 hS4
    refine Ops.appI 1 hS4 rfl (hS4.rdI 0 rfl) rfl rfl rfl (by omega) (by omega) rfl ?_
    intro A8 c8 w5 hS5
    refine Ops.mv_sl rfl rfl rfl ?_
    refine Ops.nil ?_
    refine blockQ_n ?_
    refine thenQ_n ?_
    refine Cd.region ?_
    refine Ops.add rfl rfl rfl (by omega) ?_
    refine Ops.mv_int rfl rfl rfl ?_
    refine Ops.nil ?_
    refine thenQ_n ?_
    refine ⟨(k + 1, A8, c8), by show C.length - (k + 1) < C.length - k; omega, ⟨rfl, rfl, rfl, rfl, trivial⟩, ?_, hk'⟩
    have h6 := hS5.tail
    have e : L.take (k + 1) = L.take k ++ [((rg rs (k : Int)).n : Int)] := by
      have h7 := hlen k hk'
      obtain ⟨hkl, h8⟩ := List.getElem?_eq_some_iff.1 h7
      rw [List.take_succ_eq_append_getElem hkl, h8, hrk]
    show St w w5 (CkI _ A8 (k + 1) c8 (L.take (k + 1)) :: _)
    rw [e]
    exact h6
  · refine Cd.exit ?_
    refine thenQ_x ?_
    refine thenQ_x ?_
    refine blockQ_x ?_
    refine thenQ_n ?_
    refine Cd.seq ?_
    refine Cd.region ?_
    refine Ops.mv_sl rfl rfl rfl ?_
    have hkn : k = C.length := by omega
    subst hkn
    rw [List.take_of_length_le (by omega)] at hS3
    refine Ops.call (sort_c 0 hS3 rfl (by omega) (by omega)) rfl rfl rfl ?_
    rintro _ w4 ⟨rfl, hS4⟩
    refine Ops.nil ?_
    refine thenQ_n ?_
    refine Cd.seq ?_
    refine Cd.region ?_
    refine Ops.mv_sl rfl rfl rfl ?_
    refine Ops.mv_sl rfl rfl rfl ?_
    refine Ops.mv_int rfl rfl rfl ?_
    refine Ops.nil ?_
    refine thenQ_n ?_
    refine Cd.ret ?_
    refine ret2_si rfl rfl ?_
    refine ⟨A4, c4, by rw [hll], ?_⟩
    rw [hll]
    exact hS4.sub (List.Sublist.cons_cons _ (List.nil_sublist _))

theorem idL_get {n k : Nat} (h : k < n) : gi (idL n) (k : Int) = (k : Int) := by simp [gi, idL, List.getD_eq_getElem?_getD, h]
/-- the lengths of a word of a maniplex -/
def wordL (xss : List (List Int)) (ws : List Int) : List Int := srt (lenAll (doesL xss (gl xss 0).length ws) (gl xss 0).length)
theorem wordL_len (xss : List (List Int)) (ws : List Int) : (wordL xss ws).length = (lenAll (doesL xss (gl xss 0).length ws) (gl xss 0).length).length := (srt_perm _).length_eq
theorem wordL_le {xss : List (List Int)} (ws : List Int) (h : Mani xss) : (wordL xss ws).length ≤ 400 := by
 rw [wordL_len]
 have := lenAll_le (doesL xss (gl xss 0).length ws) (gl xss 0).length
 have := h.2.1
 omega

/-- the answer: a list of numbers in memory of its own, and a code -/
def AnsR (L : List Int) (K : Int) (w : World) (v : Value) (w' : World) : Prop := ∃ A' c', v = .tuple #[.slice A' L.length c', .int .i64 K] ∧ St w w' [CkI 2 A' L.length c' L]
theorem AnsR.none {w w' : World} {ks : List Ck} {K : Int} (h : St w w' ks) : AnsR [] K w (.tuple #[.slice Option.none 0 0, .int .i64 K]) w' := ⟨Option.none, 0, rfl, h.none.nil _⟩
theorem AnsR.word {w w' : World} {ks : List Ck} {A : Option Addr} {c : Nat} {xss : List (List Int)} {ws : List Int} (h : St w w' (CkI 2 A (lenAll (doesL xss (gl xss 0).length ws) (gl xss 0).length).length c (srt (lenAll (doesL xss (gl xss 0).length ws) (gl xss 0).length)) :: ks)) :
  AnsR (wordL xss ws) 0 w (.tuple #[.slice A (lenAll (doesL xss (gl xss 0).length ws) (gl xss 0).length).length c, .int .i64 0]) w' :=
 ⟨A, c, by rw [wordL_len], by rw [wordL_len]; exact h.sub (List.Sublist.cons_cons _ (List.nil_sublist _))⟩

def petrieL (xss : List (List Int)) : List Int := if Grph xss then wordL xss (idL xss.length) else []
def petrieK (xss : List (List Int)) : Int := if Grph xss then 0 else 1

theorem implPetrieCycles_c (A : Option Addr) (n c : Nat) (rs : List SlV) (xss : List (List Int)) (w : World) (hR : RowsI w A n rs xss) (hn : n ≤ c) (hc : c ≤ 9223372036854775807) :
  Ret Tryz.prog 34 [.agg #[.slice A n c]] w (AnsR (petrieL xss) (petrieK xss) w) := by
 have hl := hR.len
 refine Ret.of_cd Tryz.func34 rfl Tryz.ntmps34 rfl (post2 rfl) ?_
 refine Cd.seq ?_
 refine Cd.region ?_
 refine Ops.box1 (St.refl w) rfl rfl ?_
 intro Ab w1 hS1
 refine Ops.mv_sl rfl rfl rfl ?_
 refine Ops.mv_int rfl rfl rfl ?_
 refine Ops.nil ?_
 refine thenQ_n ?_
 refine Cd.seq ?_
 refine Cd.seq ?_
 refine Cd.region ?_
 refine Ops.ld_agg 0 (hS1.rd 0 rfl) rfl rfl rfl ?_
 refine Ops.call (isGraphed_c A n c rs xss _ (hS1.oldRows hR) hn hc) rfl rfl rfl ?_
 rintro _ w2 ⟨rfl, hst⟩
 have hS2 := hS1.later hst.below
 first | refine Ops.not_p rfl rfl ?_ | refine Ops.not rfl rfl ?_
 refine Ops.nil ?_
 refine thenQ_n ?_
 refine Cd.cond_p _ rfl (fun h => ?_) (fun h => ?_)
 ·refine Cd.seq ?_
  refine Cd.region ?_
  refine Ops.mv_sl rfl rfl rfl ?_
  refine Ops.mv_int rfl rfl rfl ?_
  refine Ops.nil ?_
  refine thenQ_n ?_
  refine Cd.ret ?_
  refine thenQ_r ?_
  refine ret2_si rfl rfl ?_
  rw [petrieL, petrieK, if_neg h, if_neg h]
  exact AnsR.none hS2
 ·have hG : Grph xss := Classical.not_not.1 h
  have hMa := hG.1
  have hs := hMa.2.2.1.sys
  have h5 := hMa.1
  have h40 := hMa.2.1
  refine Cd.skip ?_
  refine thenQ_n ?_
  refine Cd.seq ?_
  refine Cd.region ?_
  refine Ops.call (rank_c Ab A n c _ _ (hS2.rd 0 rfl) rfl) rfl rfl rfl ?_
  rintro _ w2 ⟨rfl, rfl⟩
  refine Ops.call (identity_c n _ (by omega)) rfl rfl rfl ?_
  rintro _ w3 ⟨A5, rfl, hst⟩
  have hS3 := hS2.call hst
  have hw : ∀ j : Nat, j < n → 0 ≤ gi (idL n) j ∧ gi (idL n) j < n := fun j hj => by rw [idL_get hj]; omega
  refine Ops.call (does_c Ab A n c rs xss (gl xss 0).length A5 n n (idL n) _ (Rd.congr (hS3.rd 1 rfl) (fun j hj => by obtain rfl : j = 0 := by { have : j < 1 := hj; omega }; rfl)) (hS3.oldRows hR) (by omega) rfl (by omega) hs (hS3.rdI 0 rfl) (by omega) hw) rfl rfl rfl ?_
  rintro _ w4 ⟨A6, rfl, hst⟩
  have hS4 := hS3.call hst
  refine Ops.call (CycleLengths_c A6 _ _ _ _ (hS4.rdI 0 rfl) (by omega) (does_perm hs hMa.2.2.1.inj (by omega) (mem_gi fun j hj => by have := hw j (by simpa [idL] using hj); omega))) rfl rfl rfl ?_
  rintro _ w5 ⟨A7, c7, rfl, hst⟩
  have hS5 := hS4.call hst
  refine Ops.extract rfl rfl rfl ?_
  refine Ops.extract rfl rfl rfl ?_
  refine Ops.mv_sl rfl rfl rfl ?_
  refine Ops.mv_int rfl rfl rfl ?_
  refine Ops.nil ?_
  refine thenQ_n ?_
  refine Cd.ret ?_
  refine ret2_si rfl rfl ?_
  rw [petrieL, petrieK, if_pos hG, if_pos hG, hl]
  exact AnsR.word hS5
end Go.Proofs.YtjpkmpihmilgoaaGreat.Vc
/-
 The walks of the laws' marks, which tell memory apart. Conditions: as each states them.
-/
namespace Go.Proofs.YtjpkmpihmilgoaaGreat.Vc
open Go.RowKit

theorem Rd.one {w : World} {A : Option Addr} {n : Nat} {f : Nat → Value} (h : Rd w A (n + 1) f) : Rd w A 1 (fun _ => f 0) := fun j hj => by
 obtain rfl : j = 0 := by omega
 exact h 0 (by omega)

/-- the marks from k on -/
def marks (k : Int) (n : Nat) : List Int := (List.range n).map fun j : Nat => k + (j : Int)
end Go.Proofs.YtjpkmpihmilgoaaGreat.Vc
/-
 Small rules and lemmas that several walks share. Conditions: as each states them.
-/
namespace Go.Proofs.YtjpkmpihmilgoaaGreat.Vc
open Go.RowKit
section
variable {P : Program} {N : Nat} {ops : Array Oper} {K : Env → World → Prop} {rest : List Oper} {e : Env} {w : World} {d : Nat} {ty : TypeId} {pos : String} {af : Array Edge}
end

theorem Mani.all {xss : List (List Int)} (hM : Mani xss) {f : Int} (h0 : 0 ≤ f) (h1 : f < (gl xss 0).length) : Reach xss 0 f :=
  (orbit_all hM.2.2.1.sys (by have := hM.2.1; omega)).1 hM.2.2.2.2 f h0 h1

theorem Mani.any {xss : List (List Int)} (hM : Mani xss) {f g : Int} (h0 : 0 ≤ f) (h1 : f < (gl xss 0).length) (h2 : 0 ≤ g) (h3 : g < (gl xss 0).length) : Reach xss f g :=
  ((hM.all h0 h1).symm hM.2.2.1.sys hM.2.2.1.inj (by omega) (by have := hM.2.1; omega)).trans (hM.all h2 h3)
end Go.Proofs.YtjpkmpihmilgoaaGreat.Vc
/-
 Faces: their numbers and lists, and the reference's walks of them. Conditions: as each states them.
-/
namespace Go.Proofs.YtjpkmpihmilgoaaGreat.Vc
open Go.RowKit

/-! labels: each lies below the count, and each below the count occurs -/
theorem lab_in {N : Nat} {xss : List (List Int)} (hs : Sys N xss) (hi' : Inj N xss) : ∀ i, i ≤ N → (∀ x : Int, 0 ≤ x → x < N → gi (lab N xss i).1 x = -1 ∨ (0 ≤ gi (lab N xss i).1 x ∧ gi (lab N xss i).1 x < (lab N xss i).2)) ∧ ∀ v : Int, 0 ≤ v → v < (lab N xss i).2 → ∃ x : Int, 0 ≤ x ∧ x < N ∧ gi (lab N xss i).1 x = v
 | 0, _ => ⟨fun x h0 h1 => .inl (by rw [show (lab N xss 0).1 = List.replicate N (-1) from rfl, gi_rep h0 h1]), fun v h0 h1 => by simp [lab] at h1; omega⟩
 | i + 1, hi => by
  obtain ⟨h1, h2⟩ := lab_in hs hi' i (by omega)
  by_cases hp : 0 ≤ gi (lab N xss i).1 i
  ·rw [lab_pos hp]; exact ⟨h1, h2⟩
  ·rw [lab_neg hp]
   obtain ⟨hg, hpre, hor⟩ := orbit_spec hs (pt := (i : Int)) (by omega) (by omega)
   have hc := (lab_count N xss i).1
   have hgp : ∀ x : Int, 0 ≤ x → gi (paint (lab N xss i).1 (lab N xss i).2 (orbit N xss i)) x = if x ∈ orbit N xss i then (lab N xss i).2 else gi (lab N xss i).1 x := fun x hx => gi_paint _ _ _ (lab_length N xss i) hg.range x hx
   have him : (i : Int) ∈ orbit N xss i := hpre.subset (by simp)
   refine ⟨fun x h0 hx => ?_, fun v h0 hv => ?_⟩
   ·rw [hgp x h0]
    dsimp only
    split
    ·exact .inr ⟨hc, by omega⟩
    ·rcases h1 x h0 hx with h | h
     ·exact .inl h
     ·exact .inr ⟨h.1, by omega⟩
   ·dsimp only at hv ⊢
    by_cases e : v = (lab N xss i).2
    ·exact ⟨i, by omega, by omega, by rw [hgp i (by omega), if_pos him, e]⟩
    ·obtain ⟨x, hx0, hx1, hx⟩ := h2 v h0 (by omega)
     refine ⟨x, hx0, hx1, ?_⟩
     rw [hgp x hx0, if_neg (fun hm => ?_), hx]
     -- what is painted was free
     obtain ⟨j, hj, hjx⟩ := (lab_mem hs i (by omega) x hx0 hx1).1 (by rw [hx]; exact h0)
     have hix := (hor x).1 hm
     exact hp ((lab_mem hs i (by omega) (i : Int) (by omega) (by omega)).2 ⟨j, hj, hjx.trans (Reach.symm hs hi' (by omega) (by omega) hix)⟩)
theorem lab_all {N : Nat} {xss : List (List Int)} (hs : Sys N xss) (hi' : Inj N xss) (x : Int) (h0 : 0 ≤ x) (h1 : x < N) : 0 ≤ gi (lab N xss N).1 x ∧ gi (lab N xss N).1 x < (lab N xss N).2 := by
 have := (lab_mem hs N (Nat.le_refl _) x h0 h1).2 ⟨x.toNat, by omega, by rw [Int.toNat_of_nonneg h0]; exact .refl⟩
 rcases (lab_in hs hi' N (Nat.le_refl _)).1 x h0 h1 with h | h
 ·omega
 ·exact h

/-- one more than the greatest -/
def grt (xs : List Int) : Int := xs.foldl (fun o x => if o ≤ x then x + 1 else o) 0
theorem grt_snoc (xs : List Int) (x : Int) : grt (xs ++ [x]) = if grt xs ≤ x then x + 1 else grt xs := by
 unfold grt
 rw [List.foldl_append]
 rfl
/-! faces -/
def facesL (xss : List (List Int)) (i : Nat) : List Int := (lab (gl xss 0).length (xss.eraseIdx i) (gl xss 0).length).1
def facesN (xss : List (List Int)) (i : Nat) : Int := (lab (gl xss 0).length (xss.eraseIdx i) (gl xss 0).length).2
theorem Sys.erase {N : Nat} {xss : List (List Int)} (h : Sys N xss) (i : Nat) : Sys N (xss.eraseIdx i) := fun p hp => h p (List.mem_of_mem_eraseIdx hp)
theorem Inj.erase {N : Nat} {xss : List (List Int)} (h : Inj N xss) (i : Nat) : Inj N (xss.eraseIdx i) := fun p hp => h p (List.mem_of_mem_eraseIdx hp)
theorem facesN_le (xss : List (List Int)) (i : Nat) : 0 ≤ facesN xss i ∧ facesN xss i ≤ (gl xss 0).length := lab_count _ _ _
theorem faces_in {xss : List (List Int)} (h : Mani xss) (i : Nat) (f : Nat) (hf : f < (gl xss 0).length) : 0 ≤ gi (facesL xss i) f ∧ gi (facesL xss i) f < facesN xss i := lab_all (h.2.2.1.sys.erase i) (h.2.2.1.inj.erase i) f (by omega) (by omega)
theorem faces_hit {xss : List (List Int)} (h : Mani xss) (i : Nat) (v : Int) (h0 : 0 ≤ v) (h1 : v < facesN xss i) : ∃ f : Nat, f < (gl xss 0).length ∧ gi (facesL xss i) f = v := by
 obtain ⟨x, hx0, hx1, hx⟩ := (lab_in (h.2.2.1.sys.erase i) (h.2.2.1.inj.erase i) _ (Nat.le_refl _)).2 v h0 h1
 exact ⟨x.toNat, by omega, by rw [Int.toNat_of_nonneg hx0]; exact hx⟩
theorem RowsI.erase {w : World} {A : Option Addr} {n : Nat} {rs : List SlV} {xss : List (List Int)} (h : RowsI w A n rs xss) {i : Nat} (hi : i < n) {A' : Option Addr} (hT : RdR w A' (n - 1) (rs.eraseIdx i)) : RowsI w A' (n - 1) (rs.eraseIdx i) (xss.eraseIdx i) := by
 have hl := h.len
 have hrl := h.top.1
 have er : ∀ j, j < n - 1 → (rs.eraseIdx i).getD j slNil = rs.getD (if j < i then j else j + 1) slNil := fun j hj => by
  simp only [List.getD_eq_getElem?_getD, List.getElem?_eraseIdx]; split <;> rfl
 have ex : ∀ j, j < n - 1 → (xss.eraseIdx i).getD j [] = xss.getD (if j < i then j else j + 1) [] := fun j hj => by
  simp only [List.getD_eq_getElem?_getD, List.getElem?_eraseIdx]; split <;> rfl
 refine ⟨hT, by rw [List.length_eraseIdx, if_pos (by omega), hl], fun j hj => ?_, fun j hj => ?_⟩
 ·rw [er j hj, ex j hj]
  exact h.row _ (by split <;> omega)
 ·rw [er j hj]
  exact h.cap _ (by split <;> omega)

end Go.Proofs.YtjpkmpihmilgoaaGreat.Vc
