/-
  The texts Srt, C3, C4, C5, C6, Uti, F4, L02, F5, Aut, Q1, G6 in one. Conditions: as each part states them.
-/
import Derived.Test.YtgobjpcankaicaaLay
import Derived.Shelf.SortM.Plain
import Derived.Test.YtgobjpcankaicaaZe
import Derived.Test.YtgobjpcankaicaaInst
import Derived.Test.YtgobjpcankaicaaZd
import Derived.Test.YtgobjpcankaicaaZb
import Derived.Test.YtgobjpcankaicaaZc
/-
  The library's sort of a list of one's own. Conditions: the list has an element.
-/
namespace Go.Proofs.Ytgobjpcankaicaa.Vc
open Go.RowKit Go.Sort

theorem heap_srt {w : World} {g n off : Nat} {os : Array Obj} {cur : Array Value} {e : TypeId} {fr : Nat × Nat} (d : Array Int) (hb : w.heap[g]? = some (.cells cur e fr)) :
    (Go.Sort.grow (putRow (Value.int .i64) (Sort.ahead w n) g off d) os).heap[g]? = some (.cells (putCells (Value.int .i64) off d cur) e fr) := by
  have hg : g < w.heap.size := (Array.getElem?_eq_some_iff.1 hb).1
  rw [heap_grow_old _ _ (by simpa using hg)]
  simp [putRow, mapBlock, Sort.ahead, Array.getElem?_modify, hb, onCells]
theorem grownBy_srt {w : World} {g n off : Nat} {os : Array Obj} (d : Array Int) : GrB w (Go.Sort.grow (putRow (Value.int .i64) (Sort.ahead w n) g off d) os) (some g) := by
  refine ⟨⟨rfl, rfl, rfl, by simp, fun k hk hne => ?_⟩, Nat.le_add_right _ _⟩
  rw [heap_grow_old _ _ (by simpa using hk)]
  have : g ≠ k := fun e => hne (by rw [e])
  simp [putRow, mapBlock, Sort.ahead, Array.getElem?_modify, this]

theorem sort_c {w0 w : World} {ks : List Ck} (i : Nat) {t : TypeId} {A : Option Addr} {n c : Nat} {xs : List Int} (hS : St w0 w ks) (hk : ks[i]? = some (CkI t A n c xs)) (h0 : 0 < n) (hn : n ≤ 1000000000) :
    Ret Try.prog 147 [.slice A n c] w (fun v w' => v = .tuple #[] ∧ St w0 w' (ks.set i (CkI t A n c (srt xs)))) := by
  obtain ⟨h1, h2, h3, h4⟩ := hS.getC hk (isM_I _)
  have hl : xs.length = n := hS.lenI i hk
  have h2 : n ≤ c := h2
  rcases h4 with ⟨_, hc0⟩ | ⟨g, o, cur, hA, hg, hh, hs, hc⟩
  · have hc0 : c = 0 := hc0
    omega
  have hA : A = some ⟨g, o, none⟩ := hA
  have hs : o + c ≤ cur.size := hs
  have hc : ∀ j, j < n → cur[o + j]? = (xs.map (Value.int .i64))[j]? := hc
  subst hA
  subst hl
  have hH : Holds (Value.int .i64) w g o xs.toArray := fun j hj => by
    have hj' : j < xs.length := by simpa using hj
    refine ⟨?_, by simp [World.frozen?, hh]⟩
    simp only [World.cell?, hh]
    simp only [Option.isSome_none, Bool.false_eq_true, if_false]
    rw [hc j hj']
    simp [hj']
  have hlt : g < w.heap.size := (Array.getElem?_eq_some_iff.1 hh).1
  have key := AnyM.slices_Sort_int lsort g o c xs w hH hlt (by omega)
  refine Calls.mono key fun x w' ⟨hx, m, os, hw⟩ => ⟨_, hx, rfl, ?_⟩
  subst hw
  have hsl : (srt xs).length = xs.length := (srt_perm xs).length_eq
  refine hS.turn hk rfl rfl (grownBy_srt _) (.ofC (isM_I _) ⟨by simp [hsl], h2, h3, .inr ⟨g, o, _, rfl, hg, heap_srt _ hh, by simp only [putCells, Array.size_mapIdx]; exact hs, fun j hj => ?_⟩⟩)
  have hj : j < xs.length := hj
  show (putCells (Value.int .i64) o (srt xs).toArray cur)[o + j]? = ((srt xs).map (Value.int .i64))[j]?
  have hlt2 : o + j < cur.size := by have : xs.length ≤ c := h2; omega
  simp [putCells, hlt2, hsl, hj]
end Go.Proofs.Ytgobjpcankaicaa.Vc
/-
  The walks of the program's permutations that words do, and of their cycles. Conditions: as each states them.
-/
namespace Go.Proofs.Ytgobjpcankaicaa.Vc
open Go.RowKit

theorem isGraphed_c (A : Option Addr) (n c : Nat) (rs : List SlV) (xss : List (List Int)) (w : World) (hR : RowsI w A n rs xss) (hn : n ≤ c) (hc : c ≤ 9223372036854775807) :
    Ret Try.prog 99 [.agg #[.slice A n c]] w (fun v w' => v = .bool (decide (Grph xss)) ∧ St w w' []) := by
  have hl := hR.len
  refine Ret.of_cd Try.func99 rfl Try.ntmps99 rfl (post1 rfl) ?_
  refine Cd.seq ?_
  refine Cd.region ?_
  -- stop: BOX 24 t0=m -> 1
  refine Ops.box1 (St.refl w) rfl rfl ?_
  intro Ab w1 hS
  refine Ops.mv_bool rfl rfl rfl ?_
  refine Ops.nil ?_
  refine thenQ_n ?_
  refine Cd.seq ?_
  refine Cd.region ?_
  -- stop: FIELDADDR 24 t1=m 0 -> 3
  refine Ops.fld (hS.rd 0 rfl) rfl rfl rfl rfl inferInstance ?_
  refine Ops.ldf_s (hS.rd 0 rfl) rfl rfl rfl rfl rfl ?_
  refine Ops.len rfl rfl ?_
  refine Ops.gtr rfl rfl rfl ?_
  refine Ops.mv_bool rfl rfl rfl ?_
  -- stop: guard 7
  refine Ops.split_p 7 rfl (fun h => ?_) (fun h => ?_)
  · refine Ops.rung rfl rfl rfl ?_
    -- stop: LOAD 24 t1=m -> 8
    refine Ops.ld_agg 0 (hS.rd 0 rfl) rfl rfl rfl ?_
    refine Ops.rung rfl rfl rfl ?_
    -- stop: CALL impl.isManiplex(t8) -> 9
    refine Ops.call (isManiplex_c A n c rs xss _ (hS.oldRows hR) hn hc) rfl rfl rfl ?_
    rintro _ w2 ⟨rfl, hst⟩
    have hS := hS.later hst.below
    refine Ops.pick_t rfl rfl rfl ?_
    refine Ops.mv_bool rfl rfl rfl ?_
    refine Ops.nil ?_
    refine thenQ_n ?_
    refine Cd.ret ?_
    refine ret1_b rfl ?_
    -- stop: end
    exact ⟨by have : 2 ≤ n := by omega
              simp [Grph, hl, this], hS.none⟩
  · refine Ops.skipg rfl rfl rfl rfl rfl ?_
    refine Ops.skipg rfl rfl rfl rfl rfl ?_
    refine Ops.pick_f rfl rfl rfl ?_
    refine Ops.mv_bool rfl rfl rfl ?_
    refine Ops.nil ?_
    refine thenQ_n ?_
    refine Cd.ret ?_
    refine ret1_b rfl ?_
    -- stop: end
    exact ⟨by have : ¬ 2 ≤ n := by omega
              simp [Grph, hl, this], hS.none⟩

def idL (n : Nat) : List Int := (List.range n).map fun x : Nat => (x : Int)
theorem idL_set {n k : Nat} {l : List Int} (hk : k < n) (hl : l.length = n) (h : ∀ j, j < k → l[j]? = some (j : Int)) : ∀ j, j < k + 1 → (l.set k (k : Int))[j]? = some (j : Int) := fun j hj => by
  rw [List.getElem?_set]
  by_cases e : k = j
  · subst e; rw [if_pos rfl, if_pos (by omega)]
  · rw [if_neg e]; exact h j (by omega)
def thenL (p q : List Int) : List Int := p.map fun x => gi q x
end Go.Proofs.Ytgobjpcankaicaa.Vc
/-
  The walks of the program's lengths of a word. Conditions: as each states them.
-/
namespace Go.Proofs.Ytgobjpcankaicaa.Vc
open Go.RowKit

theorem runW_inj {F : Nat} {xss : List (List Int)} (hs : Sys F xss) (hi : Inj F xss) : ∀ (ws : List Int) (x y : Int), (∀ i ∈ ws, 0 ≤ i ∧ i < xss.length) → 0 ≤ x → x < F → 0 ≤ y → y < F → runW xss x ws = runW xss y ws → x = y
  | [], _, _, _, _, _, _, _, h => h
  | i :: ws, x, y, hw, h0, h1, h2, h3, h => by
    have hm := hw i (by simp)
    have gx := (hs _ (gl_in hm.1 hm.2)).2 x h0 h1
    have gy := (hs _ (gl_in hm.1 hm.2)).2 y h2 h3
    exact hi _ (gl_in hm.1 hm.2) x y h0 h1 h2 h3 (runW_inj hs hi ws _ _ (fun j hj => hw j (by simp [hj])) gx.1 gx.2 gy.1 gy.2 h)
theorem does_len (xss : List (List Int)) (F : Nat) (ws : List Int) : (doesL xss F ws).length = F := by simp [doesL]
theorem does_perm {F : Nat} {xss : List (List Int)} (hs : Sys F xss) (hi : Inj F xss) (hF : F ≤ 400) {ws : List Int} (hw : ∀ i ∈ ws, 0 ≤ i ∧ i < xss.length) : IsPerm (doesL xss F ws) := by
  refine ⟨by rw [does_len]; exact hF, fun x hx => ?_, ?_⟩
  · rw [does_len]
    obtain ⟨y, hy, rfl⟩ := List.mem_map.1 hx
    exact runW_lt hs ws _ hw (by omega) (by have := List.mem_range.1 hy; omega)
  · unfold doesL
    rw [List.Nodup, List.pairwise_map]
    refine (List.nodup_range (n := F)).imp_of_mem fun {a b} ha hb hab h => hab ?_
    have ha := List.mem_range.1 ha
    have hb := List.mem_range.1 hb
    have := runW_inj hs hi ws (a : Int) (b : Int) hw (by omega) (by omega) (by omega) (by omega) h
    omega
theorem does_nil (xss : List (List Int)) (F : Nat) : doesL xss F [] = idL F := rfl
theorem does_step {xss : List (List Int)} {F : Nat} {ws : List Int} {k : Nat} (hk : k < ws.length) : thenL (doesL xss F (ws.take k)) (gl xss (gi ws k)) = doesL xss F (ws.take (k + 1)) := by
  unfold thenL doesL
  rw [List.map_map]
  refine List.map_congr_left fun x _ => ?_
  rw [runW_take hk]; rfl

end Go.Proofs.Ytgobjpcankaicaa.Vc
/-
  The walks of the lengths of cycles, and of the Petrie word's lengths on both sides. Conditions: as each states them.
-/
namespace Go.Proofs.Ytgobjpcankaicaa.Vc
open Go.RowKit

theorem cyAll_pos {p : List Int} {n : Nat} (hn : 0 < n) : 0 < (cyAll p n).length := by
  rw [cyAll_eq, cycs_step hn]
  have h : ¬ gb (List.replicate n false) ((0 : Nat) : Int) = true := by simp [gb, List.getD_eq_getElem?_getD, List.getElem?_replicate, hn]
  rw [goC_step (by simpa using hn) h]
  simp

theorem idL_get {n k : Nat} (h : k < n) : gi (idL n) (k : Int) = (k : Int) := by simp [gi, idL, List.getD_eq_getElem?_getD, h]
/-- the lengths of a word of a maniplex -/
def wordL (xss : List (List Int)) (ws : List Int) : List Int := srt (lenAll (doesL xss (gl xss 0).length ws) (gl xss 0).length)
theorem wordL_len (xss : List (List Int)) (ws : List Int) : (wordL xss ws).length = (lenAll (doesL xss (gl xss 0).length ws) (gl xss 0).length).length := (srt_perm _).length_eq
theorem wordL_le {xss : List (List Int)} (ws : List Int) (h : Mani xss) : (wordL xss ws).length ≤ 400 := by
  rw [wordL_len]
  have := lenAll_le (doesL xss (gl xss 0).length ws) (gl xss 0).length
  have := h.2.1
  omega

/-- the answer: a list of numbers in memory of its own, and a code -/
def AnsR (L : List Int) (K : Int) (w : World) (v : Value) (w' : World) : Prop := ∃ A' c', v = .tuple #[.slice A' L.length c', .int .i64 K] ∧ St w w' [CkI 2 A' L.length c' L]
theorem AnsR.none {w w' : World} {ks : List Ck} {K : Int} (h : St w w' ks) : AnsR [] K w (.tuple #[.slice Option.none 0 0, .int .i64 K]) w' := ⟨Option.none, 0, rfl, h.none.nil _⟩
theorem AnsR.word {w w' : World} {ks : List Ck} {A : Option Addr} {c : Nat} {xss : List (List Int)} {ws : List Int} (h : St w w' (CkI 2 A (lenAll (doesL xss (gl xss 0).length ws) (gl xss 0).length).length c (srt (lenAll (doesL xss (gl xss 0).length ws) (gl xss 0).length)) :: ks)) :
    AnsR (wordL xss ws) 0 w (.tuple #[.slice A (lenAll (doesL xss (gl xss 0).length ws) (gl xss 0).length).length c, .int .i64 0]) w' :=
  ⟨A, c, by rw [wordL_len], by rw [wordL_len]; exact h.sub (List.Sublist.cons_cons _ (List.nil_sublist _))⟩

def petrieL (xss : List (List Int)) : List Int := if Grph xss then wordL xss (idL xss.length) else []
def petrieK (xss : List (List Int)) : Int := if Grph xss then 0 else 1

end Go.Proofs.Ytgobjpcankaicaa.Vc
/-
  The walks of the laws' marks, which tell memory apart. Conditions: as each states them.
-/
namespace Go.Proofs.Ytgobjpcankaicaa.Vc
open Go.RowKit

theorem set_id {α : Type} {l : List α} {i : Nat} {x : α} (h : l[i]? = some x) : l.set i x = l := by
  apply List.ext_getElem?
  intro j
  rw [List.getElem?_set]
  split
  · rename_i e; subst e
    rw [if_pos (List.getElem?_eq_some_iff.1 h).1, h]
  · rfl
theorem Rd.one {w : World} {A : Option Addr} {n : Nat} {f : Nat → Value} (h : Rd w A (n + 1) f) : Rd w A 1 (fun _ => f 0) := fun j hj => by
  obtain rfl : j = 0 := by omega
  exact h 0 (by omega)

theorem small_of {n : Nat} {rs : List SlV} (hl : rs.length = n) (h : 0 ≤ szSS (lens rs) 1048576) : n ≤ 1048576 ∧ ∀ i, i < n → (rs.getD i slNil).n ≤ 1048576 := by
  have h1 := szSS_fits (by omega) h
  refine ⟨by have := h1.2.1; simp [lens] at this; omega, fun i hi => ?_⟩
  have := h1.2.2 (rs.getD i slNil).n (by
    simp only [lens, List.mem_map]
    exact ⟨rs[i]'(by omega), List.getElem_mem _, by simp [List.getD_eq_getElem?_getD, List.getElem?_eq_getElem (show i < rs.length by omega)]⟩)
  omega

/-- the marks from k on -/
def marks (k : Int) (n : Nat) : List Int := (List.range n).map fun j : Nat => k + (j : Int)
theorem marks_len (k : Int) (n : Nat) : (marks k n).length = n := by simp [marks]
theorem marks_get {k : Int} {n j : Nat} (h : j < n) : gi (marks k n) (j : Int) = k + j := by simp [gi, marks, List.getD_eq_getElem?_getD, h]

theorem markInt64S_c {w0 w : World} {ks : List Ck} (i : Nat) {t : TypeId} {A : Option Addr} {n c : Nat} {xs : List Int} (k : Int) (hS : St w0 w ks) (hk : ks[i]? = some (CkI t A n c xs)) (hk0 : 0 ≤ k ∧ k + n ≤ 4611686018427387904) :
    Ret Try.prog 26 [.slice A n c, .int .i64 k] w (fun v w' => v = .int .i64 (k + n) ∧ St w0 w' (ks.set i (CkI t A n c (marks k n)))) := by
  have hil : i < ks.length := (List.getElem?_eq_some_iff.1 hk).1
  have hxl : xs.length = n := hS.lenI i hk
  have get : ∀ l, (ks.set i (CkI t A n c l))[i]? = some (CkI t A n c l) := fun l => by simp [hil]
  have hS0 : St w0 w (ks.set i (CkI t A n c xs)) := by rwa [set_id hk]
  refine Ret.of_cd Try.func26 rfl Try.ntmps26 rfl (post1 rfl) ?_
  refine Cd.seq ?_
  refine Cd.region ?_
  refine Ops.mv_int rfl rfl rfl ?_
  refine Ops.nil ?_
  refine thenQ_n ?_
  refine Cd.seq ?_
  refine Cd.seq ?_
  refine Cd.region ?_
  refine Ops.mv_int rfl rfl rfl ?_
  refine Ops.nil ?_
  refine thenQ_n ?_
  refine Cd.block ?_
  -- stop: loop
  refine Cd.loop (α := Nat × List Int) (fun z => [(0, .slice A n c), (1, .int .i64 (k + (z.1 : Int))), (5, .int .i64 (z.1 : Int))]) (fun z w' => St w0 w' (ks.set i (CkI t A n c z.2)) ∧ z.1 ≤ n ∧ z.2.length = n ∧ ∀ j, j < z.1 → z.2[j]? = some (k + (j : Int))) (fun z => n - z.1) (0, xs) ⟨rfl, by show Value.int .i64 _ = .int .i64 _; simp, rfl, trivial⟩ ⟨hS0, Nat.zero_le _, hxl, fun j hj => by omega⟩ ?_
  rintro ⟨m, l⟩ e w1 ⟨hS1, hm, hll, hK⟩
  dsimp only at hS1 hm hll hK ⊢
  refine Cd.seq ?_
  refine Cd.seq ?_
  refine Cd.region ?_
  refine Ops.mv_int rfl rfl rfl ?_
  refine Ops.mv_sl rfl rfl rfl ?_
  refine Ops.len rfl rfl ?_
  refine Ops.lss rfl rfl rfl ?_
  refine Ops.nil ?_
  refine thenQ_n ?_
  -- stop: cond
  refine Cd.cond_p _ rfl (fun h1 => ?_) (fun h1 => ?_)
  · refine Cd.skip ?_
    refine thenQ_n ?_
    refine Cd.seq ?_
    refine Cd.block ?_
    refine Cd.seq ?_
    refine Cd.region ?_
    refine Ops.mv_sl rfl rfl rfl ?_
    refine Ops.mv_int rfl rfl rfl ?_
    refine Ops.mv_int rfl rfl rfl ?_
    -- stop: INDEXADDR 33 t12 t13 -> 15
    refine Ops.idx (hS1.rdI i (get l)).2 rfl rfl rfl (by omega) (by omega) ?_
    refine Ops.st_int i hS1 (get l) rfl rfl (by omega) ?_
    intro w2 hS2
    rw [List.set_set] at hS2
    refine Ops.nil ?_
    refine thenQ_n ?_
    refine Cd.region ?_
    refine Ops.mv_int rfl rfl rfl ?_
    refine Ops.add rfl rfl rfl (by omega) ?_
    refine Ops.mv_int rfl rfl rfl ?_
    refine Ops.nil ?_
    refine blockQ_n ?_
    refine thenQ_n ?_
    refine Cd.region ?_
    refine Ops.mv_int rfl rfl rfl ?_
    refine Ops.add rfl rfl rfl (by omega) ?_
    refine Ops.mv_int rfl rfl rfl ?_
    refine Ops.nil ?_
    refine thenQ_n ?_
    -- stop: round
    refine ⟨(m + 1, l.set m (k + m)), by show n - (m + 1) < n - m; omega, ⟨rfl, by show Value.int .i64 _ = .int .i64 _; congr 1; show _ = k + ((m + 1 : Nat) : Int); omega, rfl, trivial⟩, hS2, by show m + 1 ≤ n; omega, by show (l.set m _).length = n; rw [List.length_set]; exact hll, fun j hj => ?_⟩
    show (l.set m (k + m))[j]? = _
    rw [List.getElem?_set]
    by_cases ej : m = j
    · subst ej; rw [if_pos rfl, if_pos (by omega)]
    · rw [if_neg ej]; exact hK j (by have : j < m + 1 := hj; omega)
  · refine Cd.exit ?_
    refine thenQ_x ?_
    refine thenQ_x ?_
    refine blockQ_x ?_
    refine thenQ_n ?_
    refine Cd.seq ?_
    refine Cd.region ?_
    refine Ops.mv_int rfl rfl rfl ?_
    refine Ops.mv_int rfl rfl rfl ?_
    refine Ops.nil ?_
    refine thenQ_n ?_
    refine Cd.ret ?_
    refine ret1_i rfl ?_
    -- stop: end
    have hmn : m = n := by omega
    subst hmn
    have he : l = marks k m := by
      apply List.ext_getElem?
      intro j
      by_cases hj : j < m
      · rw [hK j hj]; simp [marks, hj]
      · rw [List.getElem?_eq_none (by omega), List.getElem?_eq_none (by rw [marks_len]; omega)]
    subst he
    exact ⟨rfl, hS1⟩

theorem heldInt64S_c (A : Option Addr) (n c : Nat) (k : Int) (w : World) (hR : RdI w A n (marks k n)) (hk0 : 0 ≤ k ∧ k + n ≤ 4611686018427387904) :
    Ret Try.prog 27 [.slice A n c, .int .i64 k] w (fun v w' => v = .int .i64 (k + n) ∧ w' = w) := by
  refine Ret.of_cd Try.func27 rfl Try.ntmps27 rfl (post1 rfl) ?_
  refine Cd.seq ?_
  refine Cd.region ?_
  refine Ops.mv_int rfl rfl rfl ?_
  refine Ops.nil ?_
  refine thenQ_n ?_
  refine Cd.seq ?_
  refine Cd.seq ?_
  refine Cd.region ?_
  refine Ops.mv_int rfl rfl rfl ?_
  refine Ops.nil ?_
  refine thenQ_n ?_
  refine Cd.block ?_
  -- stop: loop
  refine Cd.loop (α := Nat) (fun z => [(0, .slice A n c), (1, .int .i64 (k + (z : Int))), (5, .int .i64 (z : Int))]) (fun z w' => w' = w ∧ z ≤ n) (fun z => n - z) 0 ⟨rfl, by show Value.int .i64 _ = .int .i64 _; simp, rfl, trivial⟩ ⟨rfl, Nat.zero_le _⟩ ?_
  rintro m e w ⟨rfl, hm⟩
  refine Cd.seq ?_
  refine Cd.seq ?_
  refine Cd.region ?_
  refine Ops.mv_int rfl rfl rfl ?_
  refine Ops.mv_sl rfl rfl rfl ?_
  refine Ops.len rfl rfl ?_
  refine Ops.lss rfl rfl rfl ?_
  refine Ops.nil ?_
  refine thenQ_n ?_
  -- stop: cond
  refine Cd.cond_p _ rfl (fun h1 => ?_) (fun h1 => ?_)
  · have hg := marks_get (k := k) (n := n) (j := m) (by omega)
    refine Cd.skip ?_
    refine thenQ_n ?_
    refine Cd.seq ?_
    refine Cd.block ?_
    refine Cd.seq ?_
    refine Cd.seq ?_
    refine Cd.region ?_
    refine Ops.mv_sl rfl rfl rfl ?_
    refine Ops.mv_int rfl rfl rfl ?_
    -- stop: INDEXADDR 33 t12 t13 -> 14
    refine Ops.idx hR.2 rfl rfl rfl (by omega) (by omega) ?_
    refine Ops.ld_int hR rfl (by omega) rfl rfl ?_
    rw [hg]
    refine Ops.mv_int rfl rfl rfl ?_
    refine Ops.neq rfl rfl rfl ?_
    refine Ops.nil ?_
    refine thenQ_n ?_
    -- stop: cond
    refine Cd.cond_pf rfl (fun h => h rfl) ?_
    refine Cd.skip ?_
    refine thenQ_n ?_
    refine Cd.region ?_
    refine Ops.mv_int rfl rfl rfl ?_
    refine Ops.add rfl rfl rfl (by omega) ?_
    refine Ops.mv_int rfl rfl rfl ?_
    refine Ops.nil ?_
    refine blockQ_n ?_
    refine thenQ_n ?_
    refine Cd.region ?_
    refine Ops.mv_int rfl rfl rfl ?_
    refine Ops.add rfl rfl rfl (by omega) ?_
    refine Ops.mv_int rfl rfl rfl ?_
    refine Ops.nil ?_
    refine thenQ_n ?_
    -- stop: round
    exact ⟨m + 1, by show n - (m + 1) < n - m; omega, ⟨rfl, by show Value.int .i64 _ = .int .i64 _; congr 1; show _ = k + ((m + 1 : Nat) : Int); omega, rfl, trivial⟩, rfl, by show m + 1 ≤ n; omega⟩
  · refine Cd.exit ?_
    refine thenQ_x ?_
    refine thenQ_x ?_
    refine blockQ_x ?_
    refine thenQ_n ?_
    refine Cd.seq ?_
    refine Cd.region ?_
    refine Ops.mv_int rfl rfl rfl ?_
    refine Ops.mv_int rfl rfl rfl ?_
    refine Ops.nil ?_
    refine thenQ_n ?_
    refine Cd.ret ?_
    refine ret1_i rfl ?_
    -- stop: end
    have hmn : m = n := by omega
    subst hmn
    exact ⟨rfl, rfl⟩

theorem markInt64SS_c {w0 w : World} {pre post : List Ck} {t1 t2 : TypeId} {A : Option Addr} {n c : Nat} {rs : List SlV} {xss : List (List Int)} (k : Int) (hS : St w0 w (pre ++ (mat t1 t2 A n c rs xss ++ post))) (hrl : rs.length = n) (hxl : xss.length = n) (hn : n ≤ 1048576) (hr : ∀ i, i < n → (rs.getD i slNil).n ≤ 1048576) (hk0 : 0 ≤ k ∧ k ≤ 1048576) :
    Ret Try.prog 63 [.slice A n c, .int .i64 k] w (fun v w' => ∃ (K : Int) (xss' : List (List Int)), v = .int .i64 K ∧ (0 ≤ K ∧ K ≤ 2199023255552) ∧ xss'.length = n ∧ St w0 w' (pre ++ (mat t1 t2 A n c rs xss' ++ post))) := by
  refine Ret.of_cd Try.func63 rfl Try.ntmps63 rfl (post1 rfl) ?_
  refine Cd.seq ?_
  refine Cd.region ?_
  refine Ops.mv_int rfl rfl rfl ?_
  refine Ops.nil ?_
  refine thenQ_n ?_
  refine Cd.seq ?_
  refine Cd.seq ?_
  refine Cd.region ?_
  refine Ops.mv_int rfl rfl rfl ?_
  refine Ops.nil ?_
  refine thenQ_n ?_
  refine Cd.block ?_
  -- stop: loop
  refine Cd.loop (α := Nat × Int × List (List Int)) (fun z => [(0, .slice A n c), (1, .int .i64 z.2.1), (5, .int .i64 (z.1 : Int))]) (fun z w' => St w0 w' (pre ++ (mat t1 t2 A n c rs z.2.2 ++ post)) ∧ z.1 ≤ n ∧ z.2.2.length = n ∧ 0 ≤ z.2.1 ∧ z.2.1 ≤ 1048576 + (z.1 : Int) * 1048576) (fun z => n - z.1) (0, k, xss) ⟨rfl, rfl, rfl, trivial⟩ ⟨hS, Nat.zero_le _, hxl, hk0.1, by simp; exact hk0.2⟩ ?_
  rintro ⟨i, K, ys⟩ e w1 ⟨hS1, hi, hyl, hK0, hK1⟩
  dsimp only at hS1 hi hyl hK0 hK1 ⊢
  have hM := (hS1.sub (List.sublist_append_right _ _)).rowsI hyl
  refine Cd.seq ?_
  refine Cd.seq ?_
  refine Cd.region ?_
  refine Ops.mv_int rfl rfl rfl ?_
  refine Ops.mv_sl rfl rfl rfl ?_
  refine Ops.len rfl rfl ?_
  refine Ops.lss rfl rfl rfl ?_
  refine Ops.nil ?_
  refine thenQ_n ?_
  -- stop: cond
  refine Cd.cond_p _ rfl (fun h1 => ?_) (fun h1 => ?_)
  · have hi' : i < n := by omega
    have hri := hr i hi'
    have hget := mat_get (t1 := t1) (t2 := t2) (A := A) (n := n) (c := c) (rs := rs) (xss := ys) (pre := pre) (ks := post) (i := i) (by omega) (by omega)
    have hset := fun l => mat_set (t1 := t1) (t2 := t2) (A := A) (n := n) (c := c) (rs := rs) (xss := ys) (pre := pre) (ks := post) (i := i) (xs := l) (by omega) (by omega)
    refine Cd.skip ?_
    refine thenQ_n ?_
    refine Cd.seq ?_
    refine Cd.block ?_
    refine Cd.region ?_
    refine Ops.mv_sl rfl rfl rfl ?_
    refine Ops.mv_int rfl rfl rfl ?_
    -- stop: INDEXADDR 22 t12 t13 -> 14
    refine Ops.idx hM.top.2 rfl rfl rfl (by omega) h1 ?_
    refine Ops.ld_sl hM.top rfl (by omega) rfl rfl ?_
    refine Ops.mv_int rfl rfl rfl ?_
    -- stop: CALL laws.markInt64S(t15, t16) -> 17
    refine Ops.call (markInt64S_c (pre.length + 1 + i) K hS1 hget ⟨hK0, by omega⟩) rfl rfl rfl ?_
    rintro _ w2 ⟨rfl, hS2⟩
    rw [hset] at hS2
    refine Ops.mv_int rfl rfl rfl ?_
    refine Ops.nil ?_
    refine blockQ_n ?_
    refine thenQ_n ?_
    refine Cd.region ?_
    refine Ops.mv_int rfl rfl rfl ?_
    refine Ops.add rfl rfl rfl (by omega) ?_
    refine Ops.mv_int rfl rfl rfl ?_
    refine Ops.nil ?_
    refine thenQ_n ?_
    -- stop: round
    exact ⟨(i + 1, K + ((rs.getD i slNil).n : Int), ys.set i (marks K (rs.getD i slNil).n)), by show n - (i + 1) < n - i; omega, ⟨rfl, rfl, rfl, trivial⟩, hS2, by show i + 1 ≤ n; omega, by show (ys.set i _).length = n; rw [List.length_set]; exact hyl, by show 0 ≤ K + _; omega, by show K + _ ≤ 1048576 + ((i + 1 : Nat) : Int) * 1048576; omega⟩
  · refine Cd.exit ?_
    refine thenQ_x ?_
    refine thenQ_x ?_
    refine blockQ_x ?_
    refine thenQ_n ?_
    refine Cd.seq ?_
    refine Cd.region ?_
    refine Ops.mv_int rfl rfl rfl ?_
    refine Ops.mv_int rfl rfl rfl ?_
    refine Ops.nil ?_
    refine thenQ_n ?_
    refine Cd.ret ?_
    refine ret1_i rfl ?_
    -- stop: end
    exact ⟨K, ys, rfl, ⟨hK0, by omega⟩, hyl, hS1⟩

theorem markManiplex_c {w0 w : World} {pre post : List Ck} {t1 t2 : TypeId} {A : Option Addr} {n c : Nat} {rs : List SlV} {xss : List (List Int)} (k : Int) (hS : St w0 w (pre ++ (mat t1 t2 A n c rs xss ++ post))) (hrl : rs.length = n) (hxl : xss.length = n) (hn : n ≤ 1048576) (hr : ∀ i, i < n → (rs.getD i slNil).n ≤ 1048576) (hk0 : 0 ≤ k ∧ k ≤ 1048576) :
    Ret Try.prog 25 [.agg #[.slice A n c], .int .i64 k] w (fun v w' => ∃ (K : Int) (xss' : List (List Int)), v = .int .i64 K ∧ (0 ≤ K ∧ K ≤ 2199023255552) ∧ xss'.length = n ∧ St w0 w' (pre ++ (mat t1 t2 A n c rs xss' ++ post))) := by
  refine Ret.of_cd Try.func25 rfl Try.ntmps25 rfl (post1 rfl) ?_
  refine Cd.seq ?_
  refine Cd.region ?_
  -- stop: BOX 24 t0=a -> 2
  refine Ops.box1 hS rfl rfl ?_
  intro Ab w1 hS1
  refine Ops.mv_int rfl rfl rfl ?_
  refine Ops.nil ?_
  refine thenQ_n ?_
  refine Cd.seq ?_
  refine Cd.region ?_
  -- stop: FIELDADDR 24 t2=a 0 -> 5
  refine Ops.fld (hS1.rd 0 rfl) rfl rfl rfl rfl inferInstance ?_
  refine Ops.ldf_s (hS1.rd 0 rfl) rfl rfl rfl rfl rfl ?_
  refine Ops.mv_int rfl rfl rfl ?_
  -- stop: CALL laws.markInt64SS(t6, t7) -> 8
  refine Ops.call (markInt64SS_c (pre := Bx 24 1 Ab [.slice A n c] :: pre) (post := post) (rs := rs) k hS1 hrl hxl hn hr hk0) rfl rfl rfl ?_
  rintro _ w2 ⟨K, ys, rfl, hK, hyl, hS2⟩
  refine Ops.mv_int rfl rfl rfl ?_
  refine Ops.nil ?_
  refine thenQ_n ?_
  refine Cd.seq ?_
  refine Cd.region ?_
  refine Ops.mv_int rfl rfl rfl ?_
  refine Ops.mv_int rfl rfl rfl ?_
  refine Ops.nil ?_
  refine thenQ_n ?_
  refine Cd.ret ?_
  refine ret1_i rfl ?_
  -- stop: end
  exact ⟨K, ys, rfl, hK, hyl, St.tail hS2⟩
end Go.Proofs.Ytgobjpcankaicaa.Vc
/-
  Small rules and lemmas that several walks share. Conditions: as each states them.
-/
namespace Go.Proofs.Ytgobjpcankaicaa.Vc
open Go.RowKit
section
variable {P : Program} {N : Nat} {ops : Array Oper} {K : Env → World → Prop} {rest : List Oper} {e : Env} {w : World} {d : Nat} {ty : TypeId} {pos : String} {af : Array Edge}
theorem Ops.neqNil {t t' el : TypeId} [Und P t (.slice el)] {x y : Operand} {A : Option Addr} {n c : Nat} (hx : ev e x = .slice A n c) (hy : ev e y = .slice none 0 0) (hb : Nat.blt d N = true) (hK : Ops P N ops K rest (upd e d (.bool (!A.isNone))) w) :
    Ops P N ops K (⟨some d, .binOp .neq t x y t', ty, pos, af, none⟩ :: rest) e w := by
  have hr : (Op.equal t (.slice A n c) (.slice none 0 0)).run P w = .ok A.isNone w := by
    show (Op.equalIn (9999 + 1) t (.slice A n c) (.slice none 0 0)).run P w = _
    rw [Op.equalIn]
    cases A <;> simp [run_underlying (Und.out (P := P) (t := t))]
  exact .val (by simp [execOp, hx, hy, eqGuard, binOp, hr]) hb hK
end

theorem gi_drop (l : List Int) (i : Nat) : gi (l.drop i) 0 = gi l (i : Int) := by simp [gi, List.getD_eq_getElem?_getD, List.getElem?_drop]

/-- a list of one's own, cut at its head -/
theorem St.cutl {w0 w : World} {ks : List Ck} {i : Nat} {t : TypeId} {A : Option Addr} {n c l : Nat} {xs : List Int} (hS : St w0 w ks) (hk : ks[i]? = some (CkI t A n c xs)) (hl : l ≤ n) : St w0 w (ks.set i (CkI t (cutAt A c l) (n - l) (c - l) (xs.drop l))) := by
  have hxl := hS.lenI i hk
  obtain ⟨h1, h2, h3, h4⟩ := hS.getC hk (isM_I _)
  have h2 : n ≤ c := h2
  have h3 : c ≤ maxLen := h3
  rcases h4 with ⟨hA, hc0⟩ | ⟨g, o, cur, hA, hg, hh, hs, hc⟩
  · have hA : A = Option.none := hA
    have hc0 : c = 0 := hc0
    subst hA hc0
    obtain rfl : n = 0 := by omega
    obtain rfl : l = 0 := by omega
    obtain rfl := List.eq_nil_of_length_eq_zero hxl
    have e : cutAt Option.none 0 0 = Option.none := rfl
    rw [e]
    show St w0 w (ks.set i (CkI t Option.none 0 0 []))
    rw [set_id hk]
    exact hS
  · have hA : A = some ⟨g, o, Option.none⟩ := hA
    have hs : o + c ≤ cur.size := hs
    have hh : w.heap[g]? = some (.cells cur t (0, 0)) := hh
    have hc : ∀ j, j < n → cur[o + j]? = (xs.map (Value.int .i64))[j]? := hc
    subst hA
    have hcut : ∃ o', cutAt (some ⟨g, o, Option.none⟩) c l = some ⟨g, o', Option.none⟩ ∧ o' + (c - l) ≤ cur.size ∧ (0 < n - l → o' = o + l) := by
      unfold cutAt
      split
      · exact ⟨o, rfl, by omega, fun h => by omega⟩
      · exact ⟨o + l, by simp [ptrAt, add_none], by omega, fun _ => rfl⟩
    obtain ⟨o', e1, e2, e3⟩ := hcut
    refine hS.turn hk rfl (by simp [Ck.blk, e1]) ⟨⟨rfl, rfl, rfl, Nat.le_refl _, fun _ _ _ => rfl⟩, Nat.le_refl _⟩ (.ofC (isM_I _) ⟨by simp [hxl], by show n - l ≤ c - l; omega, by show c - l ≤ maxLen; omega, .inr ⟨g, o', cur, e1, hg, hh, e2, fun j hj => ?_⟩⟩)
    have hj : j < n - l := hj
    show cur[o' + j]? = ((xs.drop l).map (Value.int .i64))[j]?
    rw [e3 (Nat.zero_lt_of_lt hj), Nat.add_assoc, hc (l + j) (Nat.add_lt_of_lt_sub' hj)]
    simp [List.getElem?_drop]


theorem pin2 (u : Nat → Value) {i j : Nat} {v w : Value} (h : u i = v) (h' : u j = w) : u = fun k => if k = i then v else if k = j then w else u k := by
  funext k
  split
  · rename_i e; rw [e, h]
  · split
    · rename_i e; rw [e, h']
    · rfl


theorem Mani.all {xss : List (List Int)} (hM : Mani xss) {f : Int} (h0 : 0 ≤ f) (h1 : f < (gl xss 0).length) : Reach xss 0 f :=
  (orbit_all hM.2.2.1.sys (by have := hM.2.1; omega)).1 hM.2.2.2.2 f h0 h1

theorem Mani.any {xss : List (List Int)} (hM : Mani xss) {f g : Int} (h0 : 0 ≤ f) (h1 : f < (gl xss 0).length) (h2 : 0 ≤ g) (h3 : g < (gl xss 0).length) : Reach xss f g :=
  ((hM.all h0 h1).symm hM.2.2.1.sys hM.2.2.1.inj (by omega) (by have := hM.2.1; omega)).trans (hM.all h2 h3)
end Go.Proofs.Ytgobjpcankaicaa.Vc
/-
  The walks of comparisons on both sides. Conditions: as each states them.
-/
namespace Go.Proofs.Ytgobjpcankaicaa.Vc
open Go.RowKit

theorem lexC_step {a b : List Int} {k : Nat} (ha : k < a.length) (hb : k < b.length) : lexC (a.drop k) (b.drop k) = if cmpI (gi a (k : Int)) (gi b (k : Int)) = 0 then lexC (a.drop (k + 1)) (b.drop (k + 1)) else cmpI (gi a (k : Int)) (gi b (k : Int)) := by
  rw [List.drop_eq_getElem_cons ha, List.drop_eq_getElem_cons hb, gi_mem ha, gi_mem hb]
  rfl
theorem lexC_endR {a b : List Int} {k : Nat} (ha : k < a.length) (hb : b.length ≤ k) : lexC (a.drop k) (b.drop k) = 1 := by
  rw [List.drop_eq_getElem_cons ha, List.drop_of_length_le hb]
  rfl
theorem lexC_endL {a b : List Int} {k : Nat} (ha : a.length ≤ k) : lexC (a.drop k) (b.drop k) = if k < b.length then -1 else 0 := by
  rw [List.drop_of_length_le ha]
  split
  · rename_i h
    rw [List.drop_eq_getElem_cons h]
    rfl
  · rename_i h
    rw [List.drop_of_length_le (by omega)]
    rfl
theorem lexCC_step {a b : List (List Int)} {k : Nat} (ha : k < a.length) (hb : k < b.length) : lexCC (a.drop k) (b.drop k) = if lexC (gl a (k : Int)) (gl b (k : Int)) = 0 then lexCC (a.drop (k + 1)) (b.drop (k + 1)) else lexC (gl a (k : Int)) (gl b (k : Int)) := by
  rw [List.drop_eq_getElem_cons ha, List.drop_eq_getElem_cons hb, gl_mem ha, gl_mem hb]
  rfl
theorem lexCC_endR {a b : List (List Int)} {k : Nat} (ha : k < a.length) (hb : b.length ≤ k) : lexCC (a.drop k) (b.drop k) = 1 := by
  rw [List.drop_eq_getElem_cons ha, List.drop_of_length_le hb]
  rfl
theorem lexCC_endL {a b : List (List Int)} {k : Nat} (ha : a.length ≤ k) : lexCC (a.drop k) (b.drop k) = if k < b.length then -1 else 0 := by
  rw [List.drop_of_length_le ha]
  split
  · rename_i h
    rw [List.drop_eq_getElem_cons h]
    rfl
  · rename_i h
    rw [List.drop_of_length_le (by omega)]
    rfl

/-! the program's side -/
theorem isNaN_c (x : Int) (w : World) : Ret Try.prog 174 [.int .i64 x] w (fun v w' => v = .bool false ∧ w' = w) := by
  refine Ret.of_cd Try.func174 rfl Try.ntmps174 rfl (post1 rfl) ?_
  refine Cd.seq ?_
  refine Cd.region ?_
  refine Ops.mv_bool rfl rfl rfl ?_
  refine Ops.nil ?_
  refine thenQ_n ?_
  refine Cd.seq ?_
  refine Cd.region ?_
  refine Ops.mv_int rfl rfl rfl ?_
  refine Ops.mv_int rfl rfl rfl ?_
  refine Ops.neq rfl rfl rfl ?_
  refine Ops.mv_bool rfl rfl rfl ?_
  refine Ops.nil ?_
  refine thenQ_n ?_
  refine Cd.ret ?_
  refine ret1_b rfl ?_
  -- stop: end
  exact ⟨by simp, rfl⟩
theorem cmpCompare_c (x y : Int) (w : World) : Ret Try.prog 127 [.int .i64 x, .int .i64 y] w (fun v w' => v = .int .i64 (cmpI x y) ∧ w' = w) := by
  refine Ret.of_cd Try.func127 rfl Try.ntmps127 rfl (post1 rfl) ?_
  refine Cd.seq ?_
  refine Cd.region ?_
  refine Ops.mv_int rfl rfl rfl ?_
  refine Ops.nil ?_
  refine thenQ_n ?_
  refine Cd.seq ?_
  refine Cd.region ?_
  refine Ops.mv_int rfl rfl rfl ?_
  -- stop: CALL cmp.isNaN[int64](t7) -> 8
  refine Ops.call (isNaN_c _ _) rfl rfl rfl ?_
  rintro _ w ⟨rfl, rfl⟩
  refine Ops.mv_bool rfl rfl rfl ?_
  refine Ops.nil ?_
  refine thenQ_n ?_
  refine Cd.seq ?_
  refine Cd.region ?_
  refine Ops.mv_int rfl rfl rfl ?_
  -- stop: CALL cmp.isNaN[int64](t9) -> 10
  refine Ops.call (isNaN_c _ _) rfl rfl rfl ?_
  rintro _ w ⟨rfl, rfl⟩
  refine Ops.mv_bool rfl rfl rfl ?_
  refine Ops.nil ?_
  refine thenQ_n ?_
  refine Cd.seq ?_
  refine Cd.seq ?_
  refine Cd.region ?_
  refine Ops.mv_bool rfl rfl rfl ?_
  refine Ops.nil ?_
  refine thenQ_n ?_
  -- stop: cond
  refine Cd.cond_f rfl ?_
  refine Cd.skip ?_
  refine thenQ_n ?_
  refine Cd.seq ?_
  refine Cd.seq ?_
  refine Cd.region ?_
  refine Ops.mv_bool rfl rfl rfl ?_
  refine Ops.nil ?_
  refine thenQ_n ?_
  -- stop: cond
  refine Cd.cond_f rfl ?_
  refine Cd.skip ?_
  refine thenQ_n ?_
  refine Cd.seq ?_
  refine Cd.seq ?_
  refine Cd.region ?_
  refine Ops.mv_int rfl rfl rfl ?_
  refine Ops.mv_int rfl rfl rfl ?_
  refine Ops.lss rfl rfl rfl ?_
  refine Ops.nil ?_
  refine thenQ_n ?_
  -- stop: cond
  refine Cd.cond_p _ rfl (fun h1 => ?_) (fun h1 => ?_)
  · refine Cd.seq ?_
    refine Cd.region ?_
    refine Ops.mv_int rfl rfl rfl ?_
    refine Ops.nil ?_
    refine thenQ_n ?_
    refine Cd.ret ?_
    refine thenQ_r ?_
    refine ret1_i rfl ?_
    -- stop: end
    exact ⟨by rw [cmpI, if_pos h1], rfl⟩
  · refine Cd.skip ?_
    refine thenQ_n ?_
    refine Cd.seq ?_
    refine Cd.seq ?_
    refine Cd.region ?_
    refine Ops.mv_int rfl rfl rfl ?_
    refine Ops.mv_int rfl rfl rfl ?_
    refine Ops.gtr rfl rfl rfl ?_
    refine Ops.nil ?_
    refine thenQ_n ?_
    -- stop: cond
    refine Cd.cond_p _ rfl (fun h2 => ?_) (fun h2 => ?_)
    · refine Cd.seq ?_
      refine Cd.region ?_
      refine Ops.mv_int rfl rfl rfl ?_
      refine Ops.nil ?_
      refine thenQ_n ?_
      refine Cd.ret ?_
      refine thenQ_r ?_
      refine ret1_i rfl ?_
      -- stop: end
      exact ⟨by rw [cmpI, if_neg h1, if_pos h2], rfl⟩
    · refine Cd.skip ?_
      refine thenQ_n ?_
      refine Cd.seq ?_
      refine Cd.region ?_
      refine Ops.mv_int rfl rfl rfl ?_
      refine Ops.nil ?_
      refine thenQ_n ?_
      refine Cd.ret ?_
      refine ret1_i rfl ?_
      -- stop: end
      exact ⟨by rw [cmpI, if_neg h1, if_neg h2], rfl⟩

theorem Compare_c (A : Option Addr) (n c : Nat) (xs : List Int) (A' : Option Addr) (n' c' : Nat) (ys : List Int) (w : World) (hX : RdI w A n xs) (hY : RdI w A' n' ys) (hn : n ≤ 9223372036854775807) :
    Ret Try.prog 83 [.slice A n c, .slice A' n' c'] w (fun v w' => v = .int .i64 (lexC xs ys) ∧ w' = w) := by
  have hxl := hX.1
  have hyl := hY.1
  refine Ret.of_cd Try.func83 rfl Try.ntmps83 rfl (post1 rfl) ?_
  refine Cd.seq ?_
  refine Cd.region ?_
  refine Ops.mv_int rfl rfl rfl ?_
  refine Ops.nil ?_
  refine thenQ_n ?_
  refine Cd.seq ?_
  refine Cd.seq ?_
  refine Cd.region ?_
  refine Ops.mv_sl rfl rfl rfl ?_
  refine Ops.len rfl rfl ?_
  refine Ops.mv_int rfl rfl rfl ?_
  refine Ops.nil ?_
  refine thenQ_n ?_
  refine Cd.block ?_
  -- stop: loop
  refine Cd.loop (α := Nat) (fun k => [(0, .slice A n c), (1, .slice A' n' c'), (9, .slice A n c), (10, .int .i64 (n : Int)), (11, .int .i64 (k : Int))]) (fun k w' => w' = w ∧ k ≤ n ∧ k ≤ n' ∧ lexC xs ys = lexC (xs.drop k) (ys.drop k)) (fun k => n - k) 0 ⟨rfl, rfl, rfl, rfl, rfl, trivial⟩ ⟨rfl, Nat.zero_le _, Nat.zero_le _, rfl⟩ ?_
  rintro k e w ⟨rfl, hk, hk', hK⟩
  refine Cd.seq ?_
  refine Cd.region ?_
  refine Ops.lss rfl rfl rfl ?_
  refine Ops.nil ?_
  refine thenQ_n ?_
  refine Cd.seq ?_
  -- stop: cond
  refine Cd.cond_p _ rfl (fun h1 => ?_) (fun h1 => ?_)
  · refine Cd.skip ?_
    refine thenQ_n ?_
    refine Cd.seq ?_
    refine Cd.block ?_
    refine Cd.seq ?_
    refine Cd.region ?_
    refine Ops.mv_int rfl rfl rfl ?_
    -- stop: INDEXADDR 33 t9 t11 -> 14
    refine Ops.idx hX.2 rfl rfl rfl (by omega) (by omega) ?_
    refine Ops.ld_int hX rfl (by omega) rfl rfl ?_
    refine Ops.mv_int rfl rfl rfl ?_
    refine Ops.mv_int rfl rfl rfl ?_
    refine Ops.nil ?_
    refine thenQ_n ?_
    refine Cd.seq ?_
    refine Cd.seq ?_
    refine Cd.region ?_
    refine Ops.mv_int rfl rfl rfl ?_
    refine Ops.mv_sl rfl rfl rfl ?_
    refine Ops.len rfl rfl ?_
    refine Ops.geq rfl rfl rfl ?_
    refine Ops.nil ?_
    refine thenQ_n ?_
    -- stop: cond
    refine Cd.cond_p _ rfl (fun h2 => ?_) (fun h2 => ?_)
    · refine Cd.seq ?_
      refine Cd.region ?_
      refine Ops.mv_int rfl rfl rfl ?_
      refine Ops.nil ?_
      refine thenQ_n ?_
      refine Cd.ret ?_
      refine thenQ_r ?_
      refine blockQ_r ?_
      refine thenQ_r ?_
      refine thenQ_r ?_
      refine blockQ_r ?_
      refine thenQ_r ?_
      refine ret1_i rfl ?_
      -- stop: end
      exact ⟨by rw [hK, lexC_endR (by omega) (by omega)], rfl⟩
    · rw [lexC_step (by omega) (by omega)] at hK
      refine Cd.skip ?_
      refine thenQ_n ?_
      refine Cd.seq ?_
      refine Cd.region ?_
      refine Ops.mv_sl rfl rfl rfl ?_
      refine Ops.mv_int rfl rfl rfl ?_
      -- stop: INDEXADDR 33 t20 t21 -> 22
      refine Ops.idx hY.2 rfl rfl rfl (by omega) (by omega) ?_
      refine Ops.ld_int hY rfl (by omega) rfl rfl ?_
      refine Ops.mv_int rfl rfl rfl ?_
      refine Ops.nil ?_
      refine thenQ_n ?_
      refine Cd.seq ?_
      refine Cd.region ?_
      refine Ops.mv_int rfl rfl rfl ?_
      refine Ops.mv_int rfl rfl rfl ?_
      -- stop: CALL cmp.Compare[int64](t24, t25) -> 26
      refine Ops.call (cmpCompare_c _ _ _) rfl rfl rfl ?_
      rintro _ w ⟨rfl, rfl⟩
      refine Ops.mv_int rfl rfl rfl ?_
      refine Ops.nil ?_
      refine thenQ_n ?_
      refine Cd.seq ?_
      refine Cd.region ?_
      refine Ops.mv_int rfl rfl rfl ?_
      refine Ops.neq rfl rfl rfl ?_
      refine Ops.nil ?_
      refine thenQ_n ?_
      -- stop: cond
      refine Cd.cond_p _ rfl (fun h3 => ?_) (fun h3 => ?_)
      · refine Cd.seq ?_
        refine Cd.region ?_
        refine Ops.mv_int rfl rfl rfl ?_
        refine Ops.mv_int rfl rfl rfl ?_
        refine Ops.nil ?_
        refine thenQ_n ?_
        refine Cd.ret ?_
        refine blockQ_r ?_
        refine thenQ_r ?_
        refine thenQ_r ?_
        refine blockQ_r ?_
        refine thenQ_r ?_
        refine ret1_i rfl ?_
        -- stop: end
        exact ⟨by rw [hK, if_neg h3], rfl⟩
      · rw [if_pos (Classical.not_not.1 h3)] at hK
        refine Cd.skip ?_
        refine blockQ_n ?_
        refine thenQ_n ?_
        refine Cd.region ?_
        refine Ops.add rfl rfl rfl (by omega) ?_
        refine Ops.mv_int rfl rfl rfl ?_
        refine Ops.nil ?_
        refine thenQ_n ?_
        -- stop: round
        exact ⟨k + 1, by show n - (k + 1) < n - k; omega, ⟨rfl, rfl, rfl, rfl, rfl, trivial⟩, rfl, by omega, by omega, hK⟩
  · rw [lexC_endL (by omega)] at hK
    have hkn : k = n := by omega
    subst hkn
    refine Cd.exit ?_
    refine thenQ_x ?_
    refine thenQ_x ?_
    refine blockQ_x ?_
    refine thenQ_n ?_
    refine Cd.seq ?_
    refine Cd.seq ?_
    refine Cd.region ?_
    refine Ops.mv_sl rfl rfl rfl ?_
    refine Ops.len rfl rfl ?_
    refine Ops.mv_sl rfl rfl rfl ?_
    refine Ops.len rfl rfl ?_
    refine Ops.lss rfl rfl rfl ?_
    refine Ops.nil ?_
    refine thenQ_n ?_
    -- stop: cond
    refine Cd.cond_p _ rfl (fun h2 => ?_) (fun h2 => ?_)
    · refine Cd.seq ?_
      refine Cd.region ?_
      refine Ops.mv_int rfl rfl rfl ?_
      refine Ops.nil ?_
      refine thenQ_n ?_
      refine Cd.ret ?_
      refine thenQ_r ?_
      refine ret1_i rfl ?_
      -- stop: end
      exact ⟨by rw [hK, if_pos (by omega)], rfl⟩
    · refine Cd.skip ?_
      refine thenQ_n ?_
      refine Cd.seq ?_
      refine Cd.region ?_
      refine Ops.mv_int rfl rfl rfl ?_
      refine Ops.nil ?_
      refine thenQ_n ?_
      refine Cd.ret ?_
      refine ret1_i rfl ?_
      -- stop: end
      exact ⟨by rw [hK, if_neg (by omega)], rfl⟩

theorem CompareFunc_c (A : Option Addr) (n c : Nat) (rs : List SlV) (xss : List (List Int)) (A' : Option Addr) (n' c' : Nat) (rs' : List SlV) (yss : List (List Int)) (w : World) (hX : RowsI w A n rs xss) (hY : RowsI w A' n' rs' yss) (hn : n ≤ 9223372036854775807) :
    Ret Try.prog 158 [.slice A n c, .slice A' n' c', .func (.func 83) #[] #[]] w (fun v w' => v = .int .i64 (lexCC xss yss) ∧ w' = w) := by
  have hxl := hX.len
  have hyl := hY.len
  refine Ret.of_cd Try.func158 rfl Try.ntmps158 rfl (post1 rfl) ?_
  refine Cd.seq ?_
  refine Cd.region ?_
  refine Ops.mv_int rfl rfl rfl ?_
  refine Ops.nil ?_
  refine thenQ_n ?_
  refine Cd.seq ?_
  refine Cd.seq ?_
  refine Cd.region ?_
  refine Ops.mv_sl rfl rfl rfl ?_
  refine Ops.len rfl rfl ?_
  refine Ops.mv_int rfl rfl rfl ?_
  refine Ops.nil ?_
  refine thenQ_n ?_
  refine Cd.block ?_
  -- stop: loop
  refine Cd.loop (α := Nat) (fun k => [(0, .slice A n c), (1, .slice A' n' c'), (2, .func (.func 83) #[] #[]), (11, .slice A n c), (12, .int .i64 (n : Int)), (13, .int .i64 (k : Int))]) (fun k w' => w' = w ∧ k ≤ n ∧ k ≤ n' ∧ lexCC xss yss = lexCC (xss.drop k) (yss.drop k)) (fun k => n - k) 0 ⟨rfl, rfl, rfl, rfl, rfl, rfl, trivial⟩ ⟨rfl, Nat.zero_le _, Nat.zero_le _, rfl⟩ ?_
  rintro k e w ⟨rfl, hk, hk', hK⟩
  refine Cd.seq ?_
  refine Cd.region ?_
  refine Ops.lss rfl rfl rfl ?_
  refine Ops.nil ?_
  refine thenQ_n ?_
  refine Cd.seq ?_
  -- stop: cond
  refine Cd.cond_p _ rfl (fun h1 => ?_) (fun h1 => ?_)
  · have hrx := hX.at_ (i := (k : Int)) (by omega) h1
    have hlx := hX.rowLen (k := (k : Int)) (by omega) h1
    have hrk := hX.cap_ (i := (k : Int)) (by omega) h1
    refine Cd.skip ?_
    refine thenQ_n ?_
    refine Cd.seq ?_
    refine Cd.block ?_
    refine Cd.seq ?_
    refine Cd.region ?_
    refine Ops.mv_int rfl rfl rfl ?_
    -- stop: INDEXADDR 22 t11 t13 -> 16
    refine Ops.idx hX.top.2 rfl rfl rfl (by omega) (by omega) ?_
    refine Ops.ld_sl hX.top rfl (by omega) rfl rfl ?_
    refine Ops.mv_int rfl rfl rfl ?_
    refine Ops.mv_sl rfl rfl rfl ?_
    refine Ops.nil ?_
    refine thenQ_n ?_
    refine Cd.seq ?_
    refine Cd.seq ?_
    refine Cd.region ?_
    refine Ops.mv_int rfl rfl rfl ?_
    refine Ops.mv_sl rfl rfl rfl ?_
    refine Ops.len rfl rfl ?_
    refine Ops.geq rfl rfl rfl ?_
    refine Ops.nil ?_
    refine thenQ_n ?_
    -- stop: cond
    refine Cd.cond_p _ rfl (fun h2 => ?_) (fun h2 => ?_)
    · refine Cd.seq ?_
      refine Cd.region ?_
      refine Ops.mv_int rfl rfl rfl ?_
      refine Ops.nil ?_
      refine thenQ_n ?_
      refine Cd.ret ?_
      refine thenQ_r ?_
      refine blockQ_r ?_
      refine thenQ_r ?_
      refine thenQ_r ?_
      refine blockQ_r ?_
      refine thenQ_r ?_
      refine ret1_i rfl ?_
      -- stop: end
      exact ⟨by rw [hK, lexCC_endR (by omega) (by omega)], rfl⟩
    · rw [lexCC_step (by omega) (by omega)] at hK
      have hry := hY.at_ (i := (k : Int)) (by omega) (by omega)
      refine Cd.skip ?_
      refine thenQ_n ?_
      refine Cd.seq ?_
      refine Cd.region ?_
      refine Ops.mv_sl rfl rfl rfl ?_
      refine Ops.mv_int rfl rfl rfl ?_
      -- stop: INDEXADDR 22 t22 t23 -> 24
      refine Ops.idx hY.top.2 rfl rfl rfl (by omega) (by omega) ?_
      refine Ops.ld_sl hY.top rfl (by omega) rfl rfl ?_
      refine Ops.mv_sl rfl rfl rfl ?_
      refine Ops.nil ?_
      refine thenQ_n ?_
      refine Cd.seq ?_
      refine Cd.region ?_
      refine Ops.mv_fn rfl rfl rfl ?_
      refine Ops.mv_sl rfl rfl rfl ?_
      refine Ops.mv_sl rfl rfl rfl ?_
      -- stop: CALL t26(t27, t28) -> 29
      refine Ops.call (Compare_c _ _ _ _ _ _ _ _ _ hrx hry (by omega)) rfl rfl rfl ?_
      rintro _ w ⟨rfl, rfl⟩
      refine Ops.mv_int rfl rfl rfl ?_
      refine Ops.nil ?_
      refine thenQ_n ?_
      refine Cd.seq ?_
      refine Cd.region ?_
      refine Ops.mv_int rfl rfl rfl ?_
      refine Ops.neq rfl rfl rfl ?_
      refine Ops.nil ?_
      refine thenQ_n ?_
      -- stop: cond
      refine Cd.cond_p _ rfl (fun h3 => ?_) (fun h3 => ?_)
      · refine Cd.seq ?_
        refine Cd.region ?_
        refine Ops.mv_int rfl rfl rfl ?_
        refine Ops.mv_int rfl rfl rfl ?_
        refine Ops.nil ?_
        refine thenQ_n ?_
        refine Cd.ret ?_
        refine blockQ_r ?_
        refine thenQ_r ?_
        refine thenQ_r ?_
        refine blockQ_r ?_
        refine thenQ_r ?_
        refine ret1_i rfl ?_
        -- stop: end
        exact ⟨by rw [hK, if_neg h3], rfl⟩
      · rw [if_pos (Classical.not_not.1 h3)] at hK
        refine Cd.skip ?_
        refine blockQ_n ?_
        refine thenQ_n ?_
        refine Cd.region ?_
        refine Ops.add rfl rfl rfl (by omega) ?_
        refine Ops.mv_int rfl rfl rfl ?_
        refine Ops.nil ?_
        refine thenQ_n ?_
        -- stop: round
        exact ⟨k + 1, by show n - (k + 1) < n - k; omega, ⟨rfl, rfl, rfl, rfl, rfl, rfl, trivial⟩, rfl, by omega, by omega, hK⟩
  · rw [lexCC_endL (by omega)] at hK
    have hkn : k = n := by omega
    subst hkn
    refine Cd.exit ?_
    refine thenQ_x ?_
    refine thenQ_x ?_
    refine blockQ_x ?_
    refine thenQ_n ?_
    refine Cd.seq ?_
    refine Cd.seq ?_
    refine Cd.region ?_
    refine Ops.mv_sl rfl rfl rfl ?_
    refine Ops.len rfl rfl ?_
    refine Ops.mv_sl rfl rfl rfl ?_
    refine Ops.len rfl rfl ?_
    refine Ops.lss rfl rfl rfl ?_
    refine Ops.nil ?_
    refine thenQ_n ?_
    -- stop: cond
    refine Cd.cond_p _ rfl (fun h2 => ?_) (fun h2 => ?_)
    · refine Cd.seq ?_
      refine Cd.region ?_
      refine Ops.mv_int rfl rfl rfl ?_
      refine Ops.nil ?_
      refine thenQ_n ?_
      refine Cd.ret ?_
      refine thenQ_r ?_
      refine ret1_i rfl ?_
      -- stop: end
      exact ⟨by rw [hK, if_pos (by omega)], rfl⟩
    · refine Cd.skip ?_
      refine thenQ_n ?_
      refine Cd.seq ?_
      refine Cd.region ?_
      refine Ops.mv_int rfl rfl rfl ?_
      refine Ops.nil ?_
      refine thenQ_n ?_
      refine Cd.ret ?_
      refine ret1_i rfl ?_
      -- stop: end
      exact ⟨by rw [hK, if_neg (by omega)], rfl⟩

theorem compareManiplexes_c (A : Option Addr) (n c : Nat) (rs : List SlV) (xss : List (List Int)) (A' : Option Addr) (n' c' : Nat) (rs' : List SlV) (yss : List (List Int)) (w : World) (hX : RowsI w A n rs xss) (hY : RowsI w A' n' rs' yss) (hn : n ≤ 9223372036854775807) :
    Ret Try.prog 113 [.agg #[.slice A n c], .agg #[.slice A' n' c']] w (fun v w' => v = .int .i64 (lexCC xss yss) ∧ St w w' []) := by
  refine Ret.of_cd Try.func113 rfl Try.ntmps113 rfl (post1 rfl) ?_
  refine Cd.seq ?_
  refine Cd.region ?_
  -- stop: BOX 24 t0=a -> 2
  refine Ops.box1 (St.refl w) rfl rfl ?_
  intro Ab w1 hS1
  refine Ops.box1 hS1 rfl rfl ?_
  intro Ac w2 hS2
  refine Ops.mv_int rfl rfl rfl ?_
  refine Ops.nil ?_
  refine thenQ_n ?_
  refine Cd.seq ?_
  refine Cd.region ?_
  -- stop: FIELDADDR 24 t2=a 0 -> 5
  refine Ops.fld (hS2.rd 1 rfl) rfl rfl rfl rfl inferInstance ?_
  refine Ops.ldf_s (hS2.rd 1 rfl) rfl rfl rfl rfl rfl ?_
  refine Ops.fld (hS2.rd 0 rfl) rfl rfl rfl rfl inferInstance ?_
  refine Ops.ldf_s (hS2.rd 0 rfl) rfl rfl rfl rfl rfl ?_
  refine Ops.call (CompareFunc_c A n c rs xss A' n' c' rs' yss _ (hS2.oldRows hX) (hS2.oldRows hY) hn) rfl rfl rfl ?_
  rintro _ w3 ⟨rfl, rfl⟩
  refine Ops.mv_int rfl rfl rfl ?_
  refine Ops.nil ?_
  refine thenQ_n ?_
  refine Cd.ret ?_
  refine ret1_i rfl ?_
  -- stop: end
  exact ⟨rfl, hS2.none⟩

theorem Equal_c (A : Option Addr) (n c : Nat) (xs : List Int) (A' : Option Addr) (n' c' : Nat) (ys : List Int) (w : World) (hR : RdI w A n xs) (hR' : RdI w A' n' ys) (hn : n ≤ 9223372036854775807) :
    Ret Try.prog 85 [.slice A n c, .slice A' n' c'] w (fun v w' => v = .bool (decide (xs = ys)) ∧ St w w' []) := by
  have hl := hR.1
  have hl' := hR'.1
  subst hl
  subst hl'
  refine Ret.of_cd Try.func85 rfl Try.ntmps85 rfl (post1 rfl) ?_
  refine Cd.seq ?_
  refine Cd.region ?_
  refine Ops.mv_bool rfl rfl rfl ?_
  refine Ops.nil ?_
  refine thenQ_n ?_
  refine Cd.seq ?_
  refine Cd.seq ?_
  refine Cd.region ?_
  refine Ops.mv_sl rfl rfl rfl ?_
  refine Ops.len rfl rfl ?_
  refine Ops.mv_sl rfl rfl rfl ?_
  refine Ops.len rfl rfl ?_
  refine Ops.neq rfl rfl rfl ?_
  refine Ops.nil ?_
  refine thenQ_n ?_
  -- stop: cond
  refine Cd.cond_p _ rfl (fun h => ?_) (fun h => ?_)
  · refine Cd.seq ?_
    refine Cd.region ?_
    refine Ops.mv_bool rfl rfl rfl ?_
    refine Ops.nil ?_
    refine thenQ_n ?_
    refine Cd.ret ?_
    refine thenQ_r ?_
    refine ret1_b rfl ?_
    -- stop: end
    exact ⟨by rw [decide_eq_false (fun e : xs = ys => h (by rw [e]))], St.refl _⟩
  refine Cd.skip ?_
  refine thenQ_n ?_
  refine Cd.seq ?_
  refine Cd.seq ?_
  refine Cd.region ?_
  refine Ops.mv_sl rfl rfl rfl ?_
  refine Ops.len rfl rfl ?_
  refine Ops.mv_int rfl rfl rfl ?_
  refine Ops.nil ?_
  refine thenQ_n ?_
  refine Cd.block ?_
  -- stop: loop
  refine Cd.loop (α := Nat) (fun k => [(0, .slice A xs.length c), (1, .slice A' ys.length c'), (12, .int .i64 (xs.length : Int)), (13, .int .i64 (k : Int))]) (fun k w' => St w w' [] ∧ k ≤ xs.length ∧ xs.take k = ys.take k) (fun k => xs.length - k) 0 ⟨rfl, rfl, rfl, rfl, trivial⟩ ⟨St.refl w, Nat.zero_le _, rfl⟩ ?_
  rintro k e w2 ⟨hS2, hk, hI⟩
  have hle : xs.length = ys.length := by omega
  refine Cd.seq ?_
  refine Cd.region ?_
  refine Ops.lss rfl rfl rfl ?_
  refine Ops.nil ?_
  refine thenQ_n ?_
  refine Cd.seq ?_
  -- stop: cond
  refine Cd.cond_p _ rfl (fun h1 => ?_) (fun h1 => ?_)
  · have hA := hS2.oldI hR
    have hB := hS2.oldI hR'
    have h2 : (k : Int) < ys.length := by omega
    have hx := gi_mem (p := xs) (k := k) (by omega)
    have hy := gi_mem (p := ys) (k := k) (by omega)
    refine Cd.skip ?_
    refine thenQ_n ?_
    refine Cd.seq ?_
    refine Cd.block ?_
    refine Cd.seq ?_
    refine Cd.region ?_
    refine Ops.mv_int rfl rfl rfl ?_
    refine Ops.mv_int rfl rfl rfl ?_
    refine Ops.nil ?_
    refine thenQ_n ?_
    refine Cd.seq ?_
    -- stop: draw
    refine Cd.draw [.ex (.slice (A) (xs.length) (c)), .ex (.int .i64 ((k : Int))), .ex (.pointer (ptrAt (A) ((k : Int)).toNat)), .ex (.int .i64 (gi (xs) ((k : Int)))), .ex (.slice (A') (ys.length) (c')), .ex (.int .i64 ((k : Int))), .ex (.pointer (ptrAt (A') ((k : Int)).toNat)), .ex (.int .i64 (gi (ys) ((k : Int)))), .ex (.bool (decide (¬ (gi (xs) ((k : Int))) = (gi (ys) ((k : Int))))))] (by kernel_rfl) (by kernel_rfl) rfl (List.forall_mem_cons.2 ⟨Yd.lasts_ex _, (List.forall_mem_cons.2 ⟨Yd.lasts_ex _, (List.forall_mem_cons.2 ⟨Yd.lasts_ex _, (List.forall_mem_cons.2 ⟨Yd.lasts_ex _, (List.forall_mem_cons.2 ⟨Yd.lasts_ex _, (List.forall_mem_cons.2 ⟨Yd.lasts_ex _, (List.forall_mem_cons.2 ⟨Yd.lasts_ex _, (List.forall_mem_cons.2 ⟨Yd.lasts_ex _, (List.forall_mem_cons.2 ⟨Yd.lasts_ex _, (fun _ h => by cases h)⟩)⟩)⟩)⟩)⟩)⟩)⟩)⟩)⟩) ⟨?_, ?_, ?_, ?_, ?_, ?_, ?_, ?_, ?_, trivial⟩ ?_
    · intro e1 w1 hb hp hun
      refine Ops.mv_sl rfl rfl rfl ?_
      refine Ops.nil ?_
      exact After.dn (Below.refl _ _) (by exact rfl)
    · intro e1 w1 hb hp hun
      refine Ops.mv_int rfl rfl rfl ?_
      refine Ops.nil ?_
      exact After.dn (Below.refl _ _) (by exact rfl)
    · intro e1 w1 hb hp hun
      refine Ops.idx (hA.later hb).2 rfl rfl rfl (by omega) (by omega) ?_
      refine Ops.nil ?_
      exact After.dn (Below.refl _ _) (by exact rfl)
    · intro e1 w1 hb hp hun
      refine Ops.ld_int (hA.later hb) rfl (by omega) rfl rfl ?_
      refine Ops.nil ?_
      exact After.dn (Below.refl _ _) (by exact rfl)
    · intro e1 w1 hb hp hun
      refine Ops.mv_sl rfl rfl rfl ?_
      refine Ops.nil ?_
      exact After.dn (Below.refl _ _) (by exact rfl)
    · intro e1 w1 hb hp hun
      refine Ops.mv_int rfl rfl rfl ?_
      refine Ops.nil ?_
      exact After.dn (Below.refl _ _) (by exact rfl)
    · intro e1 w1 hb hp hun
      refine Ops.idx (hB.later hb).2 rfl rfl rfl (by omega) (by omega) ?_
      refine Ops.nil ?_
      exact After.dn (Below.refl _ _) (by exact rfl)
    · intro e1 w1 hb hp hun
      refine Ops.ld_int (hB.later hb) rfl (by omega) rfl rfl ?_
      refine Ops.nil ?_
      exact After.dn (Below.refl _ _) (by exact rfl)
    · intro e1 w1 hb hp hun
      refine Ops.neq rfl rfl rfl ?_
      refine Ops.nil ?_
      exact After.dn (Below.refl _ _) (by exact rfl)
    intro u w3 hb3 _
    have hS3 := hS2.later hb3
    refine thenQ_n ?_
    -- stop: cond
    refine Cd.cond_p _ rfl (fun h3 => ?_) (fun h3 => ?_)
    · refine Cd.seq ?_
      refine Cd.region ?_
      refine Ops.mv_bool rfl rfl rfl ?_
      refine Ops.nil ?_
      refine thenQ_n ?_
      refine Cd.ret ?_
      refine blockQ_r ?_
      refine thenQ_r ?_
      refine thenQ_r ?_
      refine blockQ_r ?_
      refine thenQ_r ?_
      refine ret1_b rfl ?_
      -- stop: end
      refine ⟨by rw [decide_eq_false (fun e : xs = ys => h3 (by rw [e]))], hS3⟩
    · refine Cd.skip ?_
      refine blockQ_n ?_
      refine thenQ_n ?_
      refine Cd.region ?_
      refine Ops.add rfl rfl rfl (by omega) ?_
      refine Ops.mv_int rfl rfl rfl ?_
      refine Ops.nil ?_
      refine thenQ_n ?_
      -- stop: round
      refine ⟨k + 1, by omega, ⟨rfl, rfl, rfl, rfl, trivial⟩, hS3, by omega, ?_⟩
      rw [take_succ_gi (by omega), take_succ_gi (by omega), hI, Classical.not_not.1 h3]
  · refine Cd.exit ?_
    refine thenQ_x ?_
    refine thenQ_x ?_
    refine blockQ_x ?_
    refine thenQ_n ?_
    refine Cd.seq ?_
    refine Cd.region ?_
    refine Ops.mv_bool rfl rfl rfl ?_
    refine Ops.nil ?_
    refine thenQ_n ?_
    refine Cd.ret ?_
    refine ret1_b rfl ?_
    -- stop: end
    refine ⟨?_, hS2⟩
    rw [List.take_of_length_le (by omega), List.take_of_length_le (by omega)] at hI
    rw [decide_eq_true hI]

theorem EqualFunc_c (A : Option Addr) (n c : Nat) (rs : List SlV) (xs : List (List Int)) (A' : Option Addr) (n' c' : Nat) (rs' : List SlV) (ys : List (List Int)) (w : World) (hR : RowsI w A n rs xs) (hR' : RowsI w A' n' rs' ys) (hn : n ≤ 9223372036854775807) :
    Ret Try.prog 156 [.slice A n c, .slice A' n' c', .func (.func 85) #[] #[]] w (fun v w' => v = .bool (decide (xs = ys)) ∧ St w w' []) := by
  have hl := hR.len
  have hl' := hR'.len
  subst hl
  subst hl'
  refine Ret.of_cd Try.func156 rfl Try.ntmps156 rfl (post1 rfl) ?_
  refine Cd.seq ?_
  refine Cd.region ?_
  refine Ops.mv_bool rfl rfl rfl ?_
  refine Ops.nil ?_
  refine thenQ_n ?_
  refine Cd.seq ?_
  refine Cd.seq ?_
  refine Cd.region ?_
  refine Ops.mv_sl rfl rfl rfl ?_
  refine Ops.len rfl rfl ?_
  refine Ops.mv_sl rfl rfl rfl ?_
  refine Ops.len rfl rfl ?_
  refine Ops.neq rfl rfl rfl ?_
  refine Ops.nil ?_
  refine thenQ_n ?_
  -- stop: cond
  refine Cd.cond_p _ rfl (fun h => ?_) (fun h => ?_)
  · refine Cd.seq ?_
    refine Cd.region ?_
    refine Ops.mv_bool rfl rfl rfl ?_
    refine Ops.nil ?_
    refine thenQ_n ?_
    refine Cd.ret ?_
    refine thenQ_r ?_
    refine ret1_b rfl ?_
    -- stop: end
    exact ⟨by rw [decide_eq_false (fun e : xs = ys => h (by rw [e]))], St.refl _⟩
  refine Cd.skip ?_
  refine thenQ_n ?_
  refine Cd.seq ?_
  refine Cd.seq ?_
  refine Cd.region ?_
  refine Ops.mv_sl rfl rfl rfl ?_
  refine Ops.len rfl rfl ?_
  refine Ops.mv_int rfl rfl rfl ?_
  refine Ops.nil ?_
  refine thenQ_n ?_
  refine Cd.block ?_
  -- stop: loop
  refine Cd.loop (α := Nat) (fun k => [(1, .slice A' ys.length c'), (2, .func (.func 85) #[] #[]), (15, .slice A xs.length c), (16, .int .i64 (xs.length : Int)), (17, .int .i64 (k : Int))]) (fun k w' => St w w' [] ∧ k ≤ xs.length ∧ xs.take k = ys.take k) (fun k => xs.length - k) 0 ⟨rfl, rfl, rfl, rfl, rfl, trivial⟩ ⟨St.refl w, Nat.zero_le _, rfl⟩ ?_
  rintro k e w2 ⟨hS2, hk, hI⟩
  have hle : xs.length = ys.length := by omega
  refine Cd.seq ?_
  refine Cd.region ?_
  refine Ops.lss rfl rfl rfl ?_
  refine Ops.nil ?_
  refine thenQ_n ?_
  refine Cd.seq ?_
  -- stop: cond
  refine Cd.cond_p _ rfl (fun h1 => ?_) (fun h1 => ?_)
  · have hA := hS2.oldRows hR
    have hB := hS2.oldRows hR'
    have h2 : (k : Int) < ys.length := by omega
    have hx := gl_mem (p := xs) (k := k) (by omega)
    have hy := gl_mem (p := ys) (k := k) (by omega)
    have ha := hA.at_ (i := k) (by omega) h1
    have hb' := hB.at_ (i := k) (by omega) h2
    have hc := hA.cap_ (i := k) (by omega) h1
    refine Cd.skip ?_
    refine thenQ_n ?_
    refine Cd.seq ?_
    refine Cd.block ?_
    refine Cd.seq ?_
    refine Cd.region ?_
    refine Ops.mv_int rfl rfl rfl ?_
    -- stop: INDEXADDR 22 t15 t17 -> 20
    refine Ops.idx hA.top.2 rfl rfl rfl (by omega) (by omega) ?_
    refine Ops.ld_sl hA.top rfl (by omega) rfl rfl ?_
    refine Ops.mv_int rfl rfl rfl ?_
    refine Ops.mv_sl rfl rfl rfl ?_
    refine Ops.nil ?_
    refine thenQ_n ?_
    refine Cd.seq ?_
    refine Cd.region ?_
    refine Ops.mv_sl rfl rfl rfl ?_
    refine Ops.mv_int rfl rfl rfl ?_
    -- stop: INDEXADDR 22 t22 t23 -> 24
    refine Ops.idx hB.top.2 rfl rfl rfl (by omega) (by omega) ?_
    refine Ops.ld_sl hB.top rfl (by omega) rfl rfl ?_
    refine Ops.mv_sl rfl rfl rfl ?_
    refine Ops.nil ?_
    refine thenQ_n ?_
    refine Cd.seq ?_
    refine Cd.region ?_
    refine Ops.mv_fn rfl rfl rfl ?_
    refine Ops.mv_sl rfl rfl rfl ?_
    refine Ops.mv_sl rfl rfl rfl ?_
    -- stop: CALL t26(t27, t28) -> 29
    refine Ops.call (Equal_c _ _ _ _ _ _ _ _ _ ha hb' (by omega)) rfl rfl rfl ?_
    rintro _ w3 ⟨rfl, hst⟩
    have hS3 := hS2.later hst.below
    first | refine Ops.not_p rfl rfl ?_ | refine Ops.not rfl rfl ?_
    refine Ops.nil ?_
    refine thenQ_n ?_
    -- stop: cond
    refine Cd.cond_p _ rfl (fun h3 => ?_) (fun h3 => ?_)
    · refine Cd.seq ?_
      refine Cd.region ?_
      refine Ops.mv_bool rfl rfl rfl ?_
      refine Ops.nil ?_
      refine thenQ_n ?_
      refine Cd.ret ?_
      refine blockQ_r ?_
      refine thenQ_r ?_
      refine thenQ_r ?_
      refine blockQ_r ?_
      refine thenQ_r ?_
      refine ret1_b rfl ?_
      -- stop: end
      refine ⟨by rw [decide_eq_false (fun e : xs = ys => h3 (by rw [e]))], hS3⟩
    · refine Cd.skip ?_
      refine blockQ_n ?_
      refine thenQ_n ?_
      refine Cd.region ?_
      refine Ops.add rfl rfl rfl (by omega) ?_
      refine Ops.mv_int rfl rfl rfl ?_
      refine Ops.nil ?_
      refine thenQ_n ?_
      -- stop: round
      refine ⟨k + 1, by omega, ⟨rfl, rfl, rfl, rfl, rfl, trivial⟩, hS3, by omega, ?_⟩
      rw [take_succ_gl (by omega), take_succ_gl (by omega), hI, Classical.not_not.1 h3]
  · refine Cd.exit ?_
    refine thenQ_x ?_
    refine thenQ_x ?_
    refine blockQ_x ?_
    refine thenQ_n ?_
    refine Cd.seq ?_
    refine Cd.region ?_
    refine Ops.mv_bool rfl rfl rfl ?_
    refine Ops.nil ?_
    refine thenQ_n ?_
    refine Cd.ret ?_
    refine ret1_b rfl ?_
    -- stop: end
    refine ⟨?_, hS2⟩
    rw [List.take_of_length_le (by omega), List.take_of_length_le (by omega)] at hI
    rw [decide_eq_true hI]

theorem sameManiplex_c (A : Option Addr) (n c : Nat) (rs : List SlV) (xss : List (List Int)) (A' : Option Addr) (n' c' : Nat) (rs' : List SlV) (yss : List (List Int)) (w : World) (hX : RowsI w A n rs xss) (hY : RowsI w A' n' rs' yss) (hn : n ≤ 9223372036854775807) :
    Ret Try.prog 111 [.agg #[.slice A n c], .agg #[.slice A' n' c']] w (fun v w' => v = .bool (decide (xss = yss)) ∧ St w w' []) := by
  refine Ret.of_cd Try.func111 rfl Try.ntmps111 rfl (post1 rfl) ?_
  refine Cd.seq ?_
  refine Cd.region ?_
  -- stop: BOX 24 t0=a -> 2
  refine Ops.box1 (St.refl w) rfl rfl ?_
  intro Ab w1 hS1
  refine Ops.box1 hS1 rfl rfl ?_
  intro Ac w2 hS2
  refine Ops.mv_bool rfl rfl rfl ?_
  refine Ops.nil ?_
  refine thenQ_n ?_
  refine Cd.seq ?_
  refine Cd.region ?_
  -- stop: FIELDADDR 24 t2=a 0 -> 5
  refine Ops.fld (hS2.rd 1 rfl) rfl rfl rfl rfl inferInstance ?_
  refine Ops.ldf_s (hS2.rd 1 rfl) rfl rfl rfl rfl rfl ?_
  refine Ops.fld (hS2.rd 0 rfl) rfl rfl rfl rfl inferInstance ?_
  refine Ops.ldf_s (hS2.rd 0 rfl) rfl rfl rfl rfl rfl ?_
  refine Ops.call (EqualFunc_c A n c rs xss A' n' c' rs' yss _ (hS2.oldRows hX) (hS2.oldRows hY) hn) rfl rfl rfl ?_
  rintro _ w3 ⟨rfl, hst⟩
  refine Ops.mv_bool rfl rfl rfl ?_
  refine Ops.nil ?_
  refine thenQ_n ?_
  refine Cd.ret ?_
  refine ret1_b rfl ?_
  -- stop: end
  exact ⟨rfl, (hS2.later hst.below).none⟩

/-! the reference's side -/
theorem l01Same_c (A : Option Addr) (n c : Nat) (xs : List Int) (A' : Option Addr) (n' c' : Nat) (ys : List Int) (w : World) (hR : RdI w A n xs) (hR' : RdI w A' n' ys) (hn : n ≤ 9223372036854775807) :
    Ret Try.prog 80 [.slice A n c, .slice A' n' c'] w (fun v w' => v = .bool (decide (xs = ys)) ∧ St w w' []) := by
  have hl := hR.1
  have hl' := hR'.1
  subst hl
  subst hl'
  refine Ret.of_cd Try.func80 rfl Try.ntmps80 rfl (post1 rfl) ?_
  refine Cd.seq ?_
  refine Cd.region ?_
  refine Ops.mv_bool rfl rfl rfl ?_
  refine Ops.nil ?_
  refine thenQ_n ?_
  refine Cd.seq ?_
  refine Cd.seq ?_
  refine Cd.region ?_
  refine Ops.mv_sl rfl rfl rfl ?_
  refine Ops.len rfl rfl ?_
  refine Ops.mv_sl rfl rfl rfl ?_
  refine Ops.len rfl rfl ?_
  refine Ops.neq rfl rfl rfl ?_
  refine Ops.nil ?_
  refine thenQ_n ?_
  -- stop: cond
  refine Cd.cond_p _ rfl (fun h => ?_) (fun h => ?_)
  · refine Cd.seq ?_
    refine Cd.region ?_
    refine Ops.mv_bool rfl rfl rfl ?_
    refine Ops.nil ?_
    refine thenQ_n ?_
    refine Cd.ret ?_
    refine thenQ_r ?_
    refine ret1_b rfl ?_
    -- stop: end
    exact ⟨by rw [decide_eq_false (fun e : xs = ys => h (by rw [e]))], St.refl _⟩
  refine Cd.skip ?_
  refine thenQ_n ?_
  refine Cd.seq ?_
  refine Cd.seq ?_
  refine Cd.region ?_
  refine Ops.mv_int rfl rfl rfl ?_
  refine Ops.nil ?_
  refine thenQ_n ?_
  refine Cd.block ?_
  -- stop: loop
  refine Cd.loop (α := Nat) (fun k => [(0, .slice A xs.length c), (1, .slice A' ys.length c'), (5, .int .i64 (k : Int))]) (fun k w' => St w w' [] ∧ k ≤ xs.length ∧ xs.take k = ys.take k) (fun k => xs.length - k) 0 ⟨rfl, rfl, rfl, trivial⟩ ⟨St.refl w, Nat.zero_le _, rfl⟩ ?_
  rintro k e w2 ⟨hS2, hk, hI⟩
  have hle : xs.length = ys.length := by omega
  refine Cd.seq ?_
  refine Cd.seq ?_
  refine Cd.region ?_
  refine Ops.mv_int rfl rfl rfl ?_
  refine Ops.mv_sl rfl rfl rfl ?_
  refine Ops.len rfl rfl ?_
  refine Ops.lss rfl rfl rfl ?_
  refine Ops.nil ?_
  refine thenQ_n ?_
  -- stop: cond
  refine Cd.cond_p _ rfl (fun h1 => ?_) (fun h1 => ?_)
  · have hA := hS2.oldI hR
    have hB := hS2.oldI hR'
    have h2 : (k : Int) < ys.length := by omega
    have hx := gi_mem (p := xs) (k := k) (by omega)
    have hy := gi_mem (p := ys) (k := k) (by omega)
    refine Cd.skip ?_
    refine thenQ_n ?_
    refine Cd.seq ?_
    refine Cd.block ?_
    refine Cd.seq ?_
    -- stop: draw
    refine Cd.draw [.ex (.slice (A) (xs.length) (c)), .ex (.int .i64 ((k : Int))), .ex (.pointer (ptrAt (A) ((k : Int)).toNat)), .ex (.int .i64 (gi (xs) ((k : Int)))), .ex (.slice (A') (ys.length) (c')), .ex (.int .i64 ((k : Int))), .ex (.pointer (ptrAt (A') ((k : Int)).toNat)), .ex (.int .i64 (gi (ys) ((k : Int)))), .ex (.bool (decide (¬ (gi (xs) ((k : Int))) = (gi (ys) ((k : Int))))))] (by kernel_rfl) (by kernel_rfl) rfl (List.forall_mem_cons.2 ⟨Yd.lasts_ex _, (List.forall_mem_cons.2 ⟨Yd.lasts_ex _, (List.forall_mem_cons.2 ⟨Yd.lasts_ex _, (List.forall_mem_cons.2 ⟨Yd.lasts_ex _, (List.forall_mem_cons.2 ⟨Yd.lasts_ex _, (List.forall_mem_cons.2 ⟨Yd.lasts_ex _, (List.forall_mem_cons.2 ⟨Yd.lasts_ex _, (List.forall_mem_cons.2 ⟨Yd.lasts_ex _, (List.forall_mem_cons.2 ⟨Yd.lasts_ex _, (fun _ h => by cases h)⟩)⟩)⟩)⟩)⟩)⟩)⟩)⟩)⟩) ⟨?_, ?_, ?_, ?_, ?_, ?_, ?_, ?_, ?_, trivial⟩ ?_
    · intro e1 w1 hb hp hun
      refine Ops.mv_sl rfl rfl rfl ?_
      refine Ops.nil ?_
      exact After.dn (Below.refl _ _) (by exact rfl)
    · intro e1 w1 hb hp hun
      refine Ops.mv_int rfl rfl rfl ?_
      refine Ops.nil ?_
      exact After.dn (Below.refl _ _) (by exact rfl)
    · intro e1 w1 hb hp hun
      refine Ops.idx (hA.later hb).2 rfl rfl rfl (by omega) (by omega) ?_
      refine Ops.nil ?_
      exact After.dn (Below.refl _ _) (by exact rfl)
    · intro e1 w1 hb hp hun
      refine Ops.ld_int (hA.later hb) rfl (by omega) rfl rfl ?_
      refine Ops.nil ?_
      exact After.dn (Below.refl _ _) (by exact rfl)
    · intro e1 w1 hb hp hun
      refine Ops.mv_sl rfl rfl rfl ?_
      refine Ops.nil ?_
      exact After.dn (Below.refl _ _) (by exact rfl)
    · intro e1 w1 hb hp hun
      refine Ops.mv_int rfl rfl rfl ?_
      refine Ops.nil ?_
      exact After.dn (Below.refl _ _) (by exact rfl)
    · intro e1 w1 hb hp hun
      refine Ops.idx (hB.later hb).2 rfl rfl rfl (by omega) (by omega) ?_
      refine Ops.nil ?_
      exact After.dn (Below.refl _ _) (by exact rfl)
    · intro e1 w1 hb hp hun
      refine Ops.ld_int (hB.later hb) rfl (by omega) rfl rfl ?_
      refine Ops.nil ?_
      exact After.dn (Below.refl _ _) (by exact rfl)
    · intro e1 w1 hb hp hun
      refine Ops.neq rfl rfl rfl ?_
      refine Ops.nil ?_
      exact After.dn (Below.refl _ _) (by exact rfl)
    intro u w3 hb3 _
    have hS3 := hS2.later hb3
    refine thenQ_n ?_
    -- stop: cond
    refine Cd.cond_p _ rfl (fun h3 => ?_) (fun h3 => ?_)
    · refine Cd.seq ?_
      refine Cd.region ?_
      refine Ops.mv_bool rfl rfl rfl ?_
      refine Ops.nil ?_
      refine thenQ_n ?_
      refine Cd.ret ?_
      refine blockQ_r ?_
      refine thenQ_r ?_
      refine thenQ_r ?_
      refine blockQ_r ?_
      refine thenQ_r ?_
      refine ret1_b rfl ?_
      -- stop: end
      refine ⟨by rw [decide_eq_false (fun e : xs = ys => h3 (by rw [e]))], hS3⟩
    · refine Cd.skip ?_
      refine blockQ_n ?_
      refine thenQ_n ?_
      refine Cd.region ?_
      refine Ops.mv_int rfl rfl rfl ?_
      refine Ops.add rfl rfl rfl (by omega) ?_
      refine Ops.mv_int rfl rfl rfl ?_
      refine Ops.nil ?_
      refine thenQ_n ?_
      -- stop: round
      refine ⟨k + 1, by omega, ⟨rfl, rfl, rfl, trivial⟩, hS3, by omega, ?_⟩
      rw [take_succ_gi (by omega), take_succ_gi (by omega), hI, Classical.not_not.1 h3]
  · refine Cd.exit ?_
    refine thenQ_x ?_
    refine thenQ_x ?_
    refine blockQ_x ?_
    refine thenQ_n ?_
    refine Cd.seq ?_
    refine Cd.region ?_
    refine Ops.mv_bool rfl rfl rfl ?_
    refine Ops.nil ?_
    refine thenQ_n ?_
    refine Cd.ret ?_
    refine ret1_b rfl ?_
    -- stop: end
    refine ⟨?_, hS2⟩
    rw [List.take_of_length_le (by omega), List.take_of_length_le (by omega)] at hI
    rw [decide_eq_true hI]

theorem l01Same2_c (A : Option Addr) (n c : Nat) (rs : List SlV) (xs : List (List Int)) (A' : Option Addr) (n' c' : Nat) (rs' : List SlV) (ys : List (List Int)) (w : World) (hR : RowsI w A n rs xs) (hR' : RowsI w A' n' rs' ys) (hn : n ≤ 9223372036854775807) :
    Ret Try.prog 162 [.slice A n c, .slice A' n' c'] w (fun v w' => v = .bool (decide (xs = ys)) ∧ St w w' []) := by
  have hl := hR.len
  have hl' := hR'.len
  subst hl
  subst hl'
  refine Ret.of_cd Try.func162 rfl Try.ntmps162 rfl (post1 rfl) ?_
  refine Cd.seq ?_
  refine Cd.region ?_
  refine Ops.mv_bool rfl rfl rfl ?_
  refine Ops.nil ?_
  refine thenQ_n ?_
  refine Cd.seq ?_
  refine Cd.seq ?_
  refine Cd.region ?_
  refine Ops.mv_sl rfl rfl rfl ?_
  refine Ops.len rfl rfl ?_
  refine Ops.mv_sl rfl rfl rfl ?_
  refine Ops.len rfl rfl ?_
  refine Ops.neq rfl rfl rfl ?_
  refine Ops.nil ?_
  refine thenQ_n ?_
  -- stop: cond
  refine Cd.cond_p _ rfl (fun h => ?_) (fun h => ?_)
  · refine Cd.seq ?_
    refine Cd.region ?_
    refine Ops.mv_bool rfl rfl rfl ?_
    refine Ops.nil ?_
    refine thenQ_n ?_
    refine Cd.ret ?_
    refine thenQ_r ?_
    refine ret1_b rfl ?_
    -- stop: end
    exact ⟨by rw [decide_eq_false (fun e : xs = ys => h (by rw [e]))], St.refl _⟩
  refine Cd.skip ?_
  refine thenQ_n ?_
  refine Cd.seq ?_
  refine Cd.seq ?_
  refine Cd.region ?_
  refine Ops.mv_int rfl rfl rfl ?_
  refine Ops.nil ?_
  refine thenQ_n ?_
  refine Cd.block ?_
  -- stop: loop
  refine Cd.loop (α := Nat) (fun k => [(0, .slice A xs.length c), (1, .slice A' ys.length c'), (5, .int .i64 (k : Int))]) (fun k w' => St w w' [] ∧ k ≤ xs.length ∧ xs.take k = ys.take k) (fun k => xs.length - k) 0 ⟨rfl, rfl, rfl, trivial⟩ ⟨St.refl w, Nat.zero_le _, rfl⟩ ?_
  rintro k e w2 ⟨hS2, hk, hI⟩
  have hle : xs.length = ys.length := by omega
  refine Cd.seq ?_
  refine Cd.seq ?_
  refine Cd.region ?_
  refine Ops.mv_int rfl rfl rfl ?_
  refine Ops.mv_sl rfl rfl rfl ?_
  refine Ops.len rfl rfl ?_
  refine Ops.lss rfl rfl rfl ?_
  refine Ops.nil ?_
  refine thenQ_n ?_
  -- stop: cond
  refine Cd.cond_p _ rfl (fun h1 => ?_) (fun h1 => ?_)
  · have hA := hS2.oldRows hR
    have hB := hS2.oldRows hR'
    have hAt := hA.top
    have hBt := hB.top
    have h2 : (k : Int) < ys.length := by omega
    have hx := gl_mem (p := xs) (k := k) (by omega)
    have hy := gl_mem (p := ys) (k := k) (by omega)
    have ha := hA.at_ (i := k) (by omega) h1
    have hb' := hB.at_ (i := k) (by omega) h2
    have hc := hA.cap_ (i := k) (by omega) h1
    refine Cd.skip ?_
    refine thenQ_n ?_
    refine Cd.seq ?_
    refine Cd.block ?_
    refine Cd.seq ?_
    -- stop: draw
    refine Cd.draw [.ex (.slice (A) (xs.length) (c)), .ex (.int .i64 ((k : Int))), .ex (.pointer (ptrAt (A) ((k : Int)).toNat)), .ex (.slice ((rg (rs) ((k : Int))).a) ((rg (rs) ((k : Int))).n) ((rg (rs) ((k : Int))).c)), .ex (.slice (A') (ys.length) (c')), .ex (.int .i64 ((k : Int))), .ex (.pointer (ptrAt (A') ((k : Int)).toNat)), .ex (.slice ((rg (rs') ((k : Int))).a) ((rg (rs') ((k : Int))).n) ((rg (rs') ((k : Int))).c)), .ex (.bool (decide (gl xs k = gl ys k))), .ex (.bool (decide (¬ (gl xs k = gl ys k))))] (by kernel_rfl) (by kernel_rfl) rfl (List.forall_mem_cons.2 ⟨Yd.lasts_ex _, (List.forall_mem_cons.2 ⟨Yd.lasts_ex _, (List.forall_mem_cons.2 ⟨Yd.lasts_ex _, (List.forall_mem_cons.2 ⟨Yd.lasts_ex _, (List.forall_mem_cons.2 ⟨Yd.lasts_ex _, (List.forall_mem_cons.2 ⟨Yd.lasts_ex _, (List.forall_mem_cons.2 ⟨Yd.lasts_ex _, (List.forall_mem_cons.2 ⟨Yd.lasts_ex _, (List.forall_mem_cons.2 ⟨Yd.lasts_ex _, (List.forall_mem_cons.2 ⟨Yd.lasts_ex _, (fun _ h => by cases h)⟩)⟩)⟩)⟩)⟩)⟩)⟩)⟩)⟩)⟩) ⟨?_, ?_, ?_, ?_, ?_, ?_, ?_, ?_, ?_, ?_, trivial⟩ ?_
    · intro e1 w1 hb hp hun
      refine Ops.mv_sl rfl rfl rfl ?_
      refine Ops.nil ?_
      exact After.dn (Below.refl _ _) (by exact rfl)
    · intro e1 w1 hb hp hun
      refine Ops.mv_int rfl rfl rfl ?_
      refine Ops.nil ?_
      exact After.dn (Below.refl _ _) (by exact rfl)
    · intro e1 w1 hb hp hun
      refine Ops.idx (hAt.later hb).2 rfl rfl rfl (by omega) (by omega) ?_
      refine Ops.nil ?_
      exact After.dn (Below.refl _ _) (by exact rfl)
    · intro e1 w1 hb hp hun
      refine Ops.ld_sl (hAt.later hb) rfl (by omega) rfl rfl ?_
      refine Ops.nil ?_
      exact After.dn (Below.refl _ _) (by exact rfl)
    · intro e1 w1 hb hp hun
      refine Ops.mv_sl rfl rfl rfl ?_
      refine Ops.nil ?_
      exact After.dn (Below.refl _ _) (by exact rfl)
    · intro e1 w1 hb hp hun
      refine Ops.mv_int rfl rfl rfl ?_
      refine Ops.nil ?_
      exact After.dn (Below.refl _ _) (by exact rfl)
    · intro e1 w1 hb hp hun
      refine Ops.idx (hBt.later hb).2 rfl rfl rfl (by omega) (by omega) ?_
      refine Ops.nil ?_
      exact After.dn (Below.refl _ _) (by exact rfl)
    · intro e1 w1 hb hp hun
      refine Ops.ld_sl (hBt.later hb) rfl (by omega) rfl rfl ?_
      refine Ops.nil ?_
      exact After.dn (Below.refl _ _) (by exact rfl)
    · intro e1 w1 hb hp hun
      refine Ops.call (l01Same_c _ _ _ _ _ _ _ _ _ (ha.later hb) (hb'.later hb) (by omega)) rfl rfl rfl ?_
      rintro _ w2 ⟨rfl, hst⟩
      refine Ops.nil ?_
      exact After.dn hst.below (by exact rfl)
    · intro e1 w1 hb hp hun
      refine Ops.not_p rfl rfl ?_
      refine Ops.nil ?_
      exact After.dn (Below.refl _ _) (by exact rfl)
    intro u w3 hb3 _
    have hS3 := hS2.later hb3
    refine thenQ_n ?_
    -- stop: cond
    refine Cd.cond_p _ rfl (fun h3 => ?_) (fun h3 => ?_)
    · refine Cd.seq ?_
      refine Cd.region ?_
      refine Ops.mv_bool rfl rfl rfl ?_
      refine Ops.nil ?_
      refine thenQ_n ?_
      refine Cd.ret ?_
      refine blockQ_r ?_
      refine thenQ_r ?_
      refine thenQ_r ?_
      refine blockQ_r ?_
      refine thenQ_r ?_
      refine ret1_b rfl ?_
      -- stop: end
      refine ⟨by rw [decide_eq_false (fun e : xs = ys => h3 (by rw [e]))], hS3⟩
    · refine Cd.skip ?_
      refine blockQ_n ?_
      refine thenQ_n ?_
      refine Cd.region ?_
      refine Ops.mv_int rfl rfl rfl ?_
      refine Ops.add rfl rfl rfl (by omega) ?_
      refine Ops.mv_int rfl rfl rfl ?_
      refine Ops.nil ?_
      refine thenQ_n ?_
      -- stop: round
      refine ⟨k + 1, by omega, ⟨rfl, rfl, rfl, trivial⟩, hS3, by omega, ?_⟩
      rw [take_succ_gl (by omega), take_succ_gl (by omega), hI, Classical.not_not.1 h3]
  · refine Cd.exit ?_
    refine thenQ_x ?_
    refine thenQ_x ?_
    refine blockQ_x ?_
    refine thenQ_n ?_
    refine Cd.seq ?_
    refine Cd.region ?_
    refine Ops.mv_bool rfl rfl rfl ?_
    refine Ops.nil ?_
    refine thenQ_n ?_
    refine Cd.ret ?_
    refine ret1_b rfl ?_
    -- stop: end
    refine ⟨?_, hS2⟩
    rw [List.take_of_length_le (by omega), List.take_of_length_le (by omega)] at hI
    rw [decide_eq_true hI]

theorem l02Same_c (A : Option Addr) (n c : Nat) (rs : List SlV) (xss : List (List Int)) (A' : Option Addr) (n' c' : Nat) (rs' : List SlV) (yss : List (List Int)) (w : World) (hX : RowsI w A n rs xss) (hY : RowsI w A' n' rs' yss) (hn : n ≤ 9223372036854775807) :
    Ret Try.prog 121 [.agg #[.slice A n c], .agg #[.slice A' n' c']] w (fun v w' => v = .bool (decide (xss = yss)) ∧ St w w' []) := by
  refine Ret.of_cd Try.func121 rfl Try.ntmps121 rfl (post1 rfl) ?_
  refine Cd.seq ?_
  refine Cd.region ?_
  -- stop: BOX 24 t0=m -> 2
  refine Ops.box1 (St.refl w) rfl rfl ?_
  intro Ab w1 hS1
  refine Ops.box1 hS1 rfl rfl ?_
  intro Ac w2 hS2
  refine Ops.mv_bool rfl rfl rfl ?_
  refine Ops.nil ?_
  refine thenQ_n ?_
  refine Cd.seq ?_
  refine Cd.region ?_
  -- stop: FIELDADDR 24 t2=m 0 -> 5
  refine Ops.fld (hS2.rd 1 rfl) rfl rfl rfl rfl inferInstance ?_
  refine Ops.ldf_s (hS2.rd 1 rfl) rfl rfl rfl rfl rfl ?_
  refine Ops.fld (hS2.rd 0 rfl) rfl rfl rfl rfl inferInstance ?_
  refine Ops.ldf_s (hS2.rd 0 rfl) rfl rfl rfl rfl rfl ?_
  refine Ops.call (l01Same2_c A n c rs xss A' n' c' rs' yss _ (hS2.oldRows hX) (hS2.oldRows hY) hn) rfl rfl rfl ?_
  rintro _ w3 ⟨rfl, hst⟩
  refine Ops.mv_bool rfl rfl rfl ?_
  refine Ops.nil ?_
  refine thenQ_n ?_
  refine Cd.ret ?_
  refine ret1_b rfl ?_
  -- stop: end
  exact ⟨rfl, (hS2.later hst.below).none⟩

theorem l01Less_c (A : Option Addr) (n c : Nat) (xs : List Int) (A' : Option Addr) (n' c' : Nat) (ys : List Int) (w : World) (hX : RdI w A n xs) (hY : RdI w A' n' ys) (hn : n ≤ 9223372036854775807) :
    Ret Try.prog 79 [.slice A n c, .slice A' n' c'] w (fun v w' => v = .bool (decide (lexC xs ys < 0)) ∧ St w w' []) := by
  have hxl := hX.1
  have hyl := hY.1
  refine Ret.of_cd Try.func79 rfl Try.ntmps79 rfl (post1 rfl) ?_
  refine Cd.seq ?_
  refine Cd.region ?_
  refine Ops.mv_bool rfl rfl rfl ?_
  refine Ops.nil ?_
  refine thenQ_n ?_
  refine Cd.seq ?_
  refine Cd.seq ?_
  refine Cd.region ?_
  refine Ops.mv_int rfl rfl rfl ?_
  refine Ops.nil ?_
  refine thenQ_n ?_
  refine Cd.block ?_
  -- stop: loop
  refine Cd.loop (α := Nat) (fun k => [(0, .slice A n c), (1, .slice A' n' c'), (5, .int .i64 (k : Int))]) (fun k w' => St w w' [] ∧ k ≤ n ∧ k ≤ n' ∧ lexC xs ys = lexC (xs.drop k) (ys.drop k)) (fun k => n - k) 0 ⟨rfl, rfl, rfl, trivial⟩ ⟨St.refl w, Nat.zero_le _, Nat.zero_le _, rfl⟩ ?_
  rintro k e w2 ⟨hS2, hk, hk', hK⟩
  have hX2 := hS2.oldI hX
  have hY2 := hS2.oldI hY
  refine Cd.seq ?_
  refine Cd.seq ?_
  refine Cd.region ?_
  refine Ops.mv_int rfl rfl rfl ?_
  refine Ops.mv_sl rfl rfl rfl ?_
  refine Ops.len rfl rfl ?_
  refine Ops.lss rfl rfl rfl ?_
  refine Ops.mv_bool rfl rfl rfl ?_
  -- stop: guard 10
  refine Ops.split_p 10 rfl (fun h1 => ?_) (fun h1 => ?_)
  · refine Ops.rung rfl rfl rfl ?_
    refine Ops.mv_int rfl rfl rfl ?_
    refine Ops.rung rfl rfl rfl ?_
    refine Ops.mv_sl rfl rfl rfl ?_
    refine Ops.rung rfl rfl rfl ?_
    refine Ops.len rfl rfl ?_
    refine Ops.rung rfl rfl rfl ?_
    refine Ops.lss rfl rfl rfl ?_
    refine Ops.pick_t rfl rfl rfl ?_
    refine Ops.nil ?_
    refine thenQ_n ?_
    -- stop: cond
    refine Cd.cond_p _ rfl (fun h2 => ?_) (fun h2 => ?_)
    · rw [lexC_step (by omega) (by omega)] at hK
      refine Cd.skip ?_
      refine thenQ_n ?_
      refine Cd.seq ?_
      refine Cd.block ?_
      refine Cd.seq ?_
      -- stop: draw
      refine Cd.draw [.ex (.slice (A) (n) (c)), .ex (.int .i64 ((k : Int))), .ex (.pointer (ptrAt (A) ((k : Int)).toNat)), .ex (.int .i64 (gi (xs) ((k : Int)))), .ex (.slice (A') (n') (c')), .ex (.int .i64 ((k : Int))), .ex (.pointer (ptrAt (A') ((k : Int)).toNat)), .ex (.int .i64 (gi (ys) ((k : Int)))), .ex (.bool (decide (¬ (gi (xs) ((k : Int))) = (gi (ys) ((k : Int))))))] (by kernel_rfl) (by kernel_rfl) rfl (List.forall_mem_cons.2 ⟨Yd.lasts_ex _, (List.forall_mem_cons.2 ⟨Yd.lasts_ex _, (List.forall_mem_cons.2 ⟨Yd.lasts_ex _, (List.forall_mem_cons.2 ⟨Yd.lasts_ex _, (List.forall_mem_cons.2 ⟨Yd.lasts_ex _, (List.forall_mem_cons.2 ⟨Yd.lasts_ex _, (List.forall_mem_cons.2 ⟨Yd.lasts_ex _, (List.forall_mem_cons.2 ⟨Yd.lasts_ex _, (List.forall_mem_cons.2 ⟨Yd.lasts_ex _, (fun _ h => by cases h)⟩)⟩)⟩)⟩)⟩)⟩)⟩)⟩)⟩) ⟨?_, ?_, ?_, ?_, ?_, ?_, ?_, ?_, ?_, trivial⟩ ?_
      · intro e1 w1 hb hp hun
        refine Ops.mv_sl rfl rfl rfl ?_
        refine Ops.nil ?_
        exact After.dn (Below.refl _ _) (by exact rfl)
      · intro e1 w1 hb hp hun
        refine Ops.mv_int rfl rfl rfl ?_
        refine Ops.nil ?_
        exact After.dn (Below.refl _ _) (by exact rfl)
      · intro e1 w1 hb hp hun
        refine Ops.idx (hX2.later hb).2 rfl rfl rfl (by omega) (by omega) ?_
        refine Ops.nil ?_
        exact After.dn (Below.refl _ _) (by exact rfl)
      · intro e1 w1 hb hp hun
        refine Ops.ld_int (hX2.later hb) rfl (by omega) rfl rfl ?_
        refine Ops.nil ?_
        exact After.dn (Below.refl _ _) (by exact rfl)
      · intro e1 w1 hb hp hun
        refine Ops.mv_sl rfl rfl rfl ?_
        refine Ops.nil ?_
        exact After.dn (Below.refl _ _) (by exact rfl)
      · intro e1 w1 hb hp hun
        refine Ops.mv_int rfl rfl rfl ?_
        refine Ops.nil ?_
        exact After.dn (Below.refl _ _) (by exact rfl)
      · intro e1 w1 hb hp hun
        refine Ops.idx (hY2.later hb).2 rfl rfl rfl (by omega) (by omega) ?_
        refine Ops.nil ?_
        exact After.dn (Below.refl _ _) (by exact rfl)
      · intro e1 w1 hb hp hun
        refine Ops.ld_int (hY2.later hb) rfl (by omega) rfl rfl ?_
        refine Ops.nil ?_
        exact After.dn (Below.refl _ _) (by exact rfl)
      · intro e1 w1 hb hp hun
        refine Ops.neq rfl rfl rfl ?_
        refine Ops.nil ?_
        exact After.dn (Below.refl _ _) (by exact rfl)
      intro u w3 hb3 _
      have hS3 := hS2.later hb3
      have hX3 := hS3.oldI hX
      have hY3 := hS3.oldI hY
      refine thenQ_n ?_
      -- stop: cond
      refine Cd.cond_p _ rfl (fun h3 => ?_) (fun h3 => ?_)
      · rw [if_neg (fun h => h3 (cmpI_zero.1 h))] at hK
        refine Cd.seq ?_
        -- stop: draw
        refine Cd.draw [.ex (.slice (A) (n) (c)), .ex (.int .i64 ((k : Int))), .ex (.pointer (ptrAt (A) ((k : Int)).toNat)), .ex (.int .i64 (gi (xs) ((k : Int)))), .ex (.slice (A') (n') (c')), .ex (.int .i64 ((k : Int))), .ex (.pointer (ptrAt (A') ((k : Int)).toNat)), .ex (.int .i64 (gi (ys) ((k : Int)))), .ex (.bool (decide ((gi (xs) ((k : Int))) < (gi (ys) ((k : Int)))))), .ex (.bool (decide ((gi (xs) ((k : Int))) < (gi (ys) ((k : Int))))))] (by kernel_rfl) (by kernel_rfl) rfl (List.forall_mem_cons.2 ⟨Yd.lasts_ex _, (List.forall_mem_cons.2 ⟨Yd.lasts_ex _, (List.forall_mem_cons.2 ⟨Yd.lasts_ex _, (List.forall_mem_cons.2 ⟨Yd.lasts_ex _, (List.forall_mem_cons.2 ⟨Yd.lasts_ex _, (List.forall_mem_cons.2 ⟨Yd.lasts_ex _, (List.forall_mem_cons.2 ⟨Yd.lasts_ex _, (List.forall_mem_cons.2 ⟨Yd.lasts_ex _, (List.forall_mem_cons.2 ⟨Yd.lasts_ex _, (List.forall_mem_cons.2 ⟨Yd.lasts_ex _, (fun _ h => by cases h)⟩)⟩)⟩)⟩)⟩)⟩)⟩)⟩)⟩)⟩) ⟨?_, ?_, ?_, ?_, ?_, ?_, ?_, ?_, ?_, ?_, trivial⟩ ?_
        · intro e1 w1 hb hp hun
          refine Ops.mv_sl rfl rfl rfl ?_
          refine Ops.nil ?_
          exact After.dn (Below.refl _ _) (by exact rfl)
        · intro e1 w1 hb hp hun
          refine Ops.mv_int rfl rfl rfl ?_
          refine Ops.nil ?_
          exact After.dn (Below.refl _ _) (by exact rfl)
        · intro e1 w1 hb hp hun
          refine Ops.idx (hX3.later hb).2 rfl rfl rfl (by omega) (by omega) ?_
          refine Ops.nil ?_
          exact After.dn (Below.refl _ _) (by exact rfl)
        · intro e1 w1 hb hp hun
          refine Ops.ld_int (hX3.later hb) rfl (by omega) rfl rfl ?_
          refine Ops.nil ?_
          exact After.dn (Below.refl _ _) (by exact rfl)
        · intro e1 w1 hb hp hun
          refine Ops.mv_sl rfl rfl rfl ?_
          refine Ops.nil ?_
          exact After.dn (Below.refl _ _) (by exact rfl)
        · intro e1 w1 hb hp hun
          refine Ops.mv_int rfl rfl rfl ?_
          refine Ops.nil ?_
          exact After.dn (Below.refl _ _) (by exact rfl)
        · intro e1 w1 hb hp hun
          refine Ops.idx (hY3.later hb).2 rfl rfl rfl (by omega) (by omega) ?_
          refine Ops.nil ?_
          exact After.dn (Below.refl _ _) (by exact rfl)
        · intro e1 w1 hb hp hun
          refine Ops.ld_int (hY3.later hb) rfl (by omega) rfl rfl ?_
          refine Ops.nil ?_
          exact After.dn (Below.refl _ _) (by exact rfl)
        · intro e1 w1 hb hp hun
          refine Ops.lss rfl rfl rfl ?_
          refine Ops.nil ?_
          exact After.dn (Below.refl _ _) (by exact rfl)
        · intro e1 w1 hb hp hun
          refine Ops.mv_bool rfl rfl rfl ?_
          refine Ops.nil ?_
          exact After.dn (Below.refl _ _) (by exact rfl)
        intro u2 w4 hb4 _
        have hS4 := hS3.later hb4
        refine thenQ_n ?_
        refine Cd.ret ?_
        refine blockQ_r ?_
        refine thenQ_r ?_
        refine thenQ_r ?_
        refine blockQ_r ?_
        refine thenQ_r ?_
        refine ret1_b rfl ?_
        -- stop: end
        exact ⟨congrArg Value.bool (decide_eq_decide.2 (by rw [hK, cmpI_neg])), hS4⟩
      · rw [if_pos (cmpI_zero.2 (Classical.not_not.1 h3))] at hK
        refine Cd.skip ?_
        refine blockQ_n ?_
        refine thenQ_n ?_
        refine Cd.region ?_
        refine Ops.mv_int rfl rfl rfl ?_
        refine Ops.add rfl rfl rfl (by omega) ?_
        refine Ops.mv_int rfl rfl rfl ?_
        refine Ops.nil ?_
        refine thenQ_n ?_
        -- stop: round
        exact ⟨k + 1, by show n - (k + 1) < n - k; omega, ⟨rfl, rfl, rfl, trivial⟩, hS3, by omega, by omega, hK⟩
    · rw [lexC_endR (by omega) (by omega)] at hK
      refine Cd.exit ?_
      refine thenQ_x ?_
      refine thenQ_x ?_
      refine blockQ_x ?_
      refine thenQ_n ?_
      refine Cd.seq ?_
      refine Cd.region ?_
      refine Ops.mv_sl rfl rfl rfl ?_
      refine Ops.len rfl rfl ?_
      refine Ops.mv_sl rfl rfl rfl ?_
      refine Ops.len rfl rfl ?_
      refine Ops.lss rfl rfl rfl ?_
      refine Ops.mv_bool rfl rfl rfl ?_
      refine Ops.nil ?_
      refine thenQ_n ?_
      refine Cd.ret ?_
      refine ret1_b rfl ?_
      -- stop: end
      exact ⟨congrArg Value.bool (decide_eq_decide.2 (by rw [hK]; omega)), hS2⟩
  · rw [lexC_endL (by omega)] at hK
    refine Ops.skipg rfl rfl rfl rfl rfl ?_
    refine Ops.skipg rfl rfl rfl rfl rfl ?_
    refine Ops.skipg rfl rfl rfl rfl rfl ?_
    refine Ops.skipg rfl rfl rfl rfl rfl ?_
    refine Ops.pick_f rfl rfl rfl ?_
    refine Ops.nil ?_
    refine thenQ_n ?_
    -- stop: cond
    refine Cd.cond_f rfl ?_
    refine Cd.exit ?_
    refine thenQ_x ?_
    refine thenQ_x ?_
    refine blockQ_x ?_
    refine thenQ_n ?_
    refine Cd.seq ?_
    refine Cd.region ?_
    refine Ops.mv_sl rfl rfl rfl ?_
    refine Ops.len rfl rfl ?_
    refine Ops.mv_sl rfl rfl rfl ?_
    refine Ops.len rfl rfl ?_
    refine Ops.lss rfl rfl rfl ?_
    refine Ops.mv_bool rfl rfl rfl ?_
    refine Ops.nil ?_
    refine thenQ_n ?_
    refine Cd.ret ?_
    refine ret1_b rfl ?_
    -- stop: end
    exact ⟨congrArg Value.bool (decide_eq_decide.2 (by rw [hK]; split <;> omega)), hS2⟩

theorem l19Less_c (A : Option Addr) (n c : Nat) (rs : List SlV) (xss : List (List Int)) (A' : Option Addr) (c' : Nat) (rs' : List SlV) (yss : List (List Int)) (w : World) (hX : RowsI w A n rs xss) (hY : RowsI w A' n rs' yss) (hn : n ≤ 9223372036854775807) :
    Ret Try.prog 109 [.agg #[.slice A n c], .agg #[.slice A' n c']] w (fun v w' => v = .bool (decide (lexCC xss yss < 0)) ∧ St w w' []) := by
  have hxl := hX.len
  have hyl := hY.len
  refine Ret.of_cd Try.func109 rfl Try.ntmps109 rfl (post1 rfl) ?_
  refine Cd.seq ?_
  refine Cd.region ?_
  -- stop: BOX 24 t0=m -> 2
  refine Ops.box1 (St.refl w) rfl rfl ?_
  intro Ab w1 hS1
  refine Ops.box1 hS1 rfl rfl ?_
  intro Ac w2 hS2
  refine Ops.mv_bool rfl rfl rfl ?_
  refine Ops.nil ?_
  refine thenQ_n ?_
  refine Cd.seq ?_
  refine Cd.seq ?_
  refine Cd.region ?_
  refine Ops.mv_int rfl rfl rfl ?_
  refine Ops.nil ?_
  refine thenQ_n ?_
  refine Cd.block ?_
  -- stop: loop
  refine Cd.loop (α := Nat) (fun k => [(2, .pointer Ab), (3, .pointer Ac), (5, .int .i64 (k : Int))]) (fun k w' => St w w' [Bx 24 1 Ac [.slice A' n c'], Bx 24 1 Ab [.slice A n c]] ∧ k ≤ n ∧ lexCC xss yss = lexCC (xss.drop k) (yss.drop k)) (fun k => n - k) 0 ⟨rfl, rfl, rfl, trivial⟩ ⟨hS2, Nat.zero_le _, rfl⟩ ?_
  rintro k e w3 ⟨hS3, hk, hK⟩
  refine Cd.seq ?_
  refine Cd.seq ?_
  refine Cd.region ?_
  refine Ops.mv_int rfl rfl rfl ?_
  -- stop: FIELDADDR 24 t2=m 0 -> 7
  refine Ops.fld (hS3.rd 1 rfl) rfl rfl rfl rfl inferInstance ?_
  refine Ops.ldf_s (hS3.rd 1 rfl) rfl rfl rfl rfl rfl ?_
  refine Ops.len rfl rfl ?_
  refine Ops.lss rfl rfl rfl ?_
  refine Ops.nil ?_
  refine thenQ_n ?_
  -- stop: cond
  refine Cd.cond_p _ rfl (fun h1 => ?_) (fun h1 => ?_)
  · rw [lexCC_step (by omega) (by omega)] at hK
    have hX3 := hS3.oldRows hX
    have hY3 := hS3.oldRows hY
    have hAt := hX3.top
    have hBt := hY3.top
    have ha := hX3.at_ (i := (k : Int)) (by omega) h1
    have hb' := hY3.at_ (i := (k : Int)) (by omega) (by omega)
    have hc := hX3.cap_ (i := (k : Int)) (by omega) h1
    have hBb := hS3.rd 1 rfl
    have hBc := hS3.rd 0 rfl
    refine Cd.skip ?_
    refine thenQ_n ?_
    refine Cd.seq ?_
    refine Cd.block ?_
    refine Cd.seq ?_
    -- stop: draw
    refine Cd.draw [.ex (.pointer (ptrAt (Ab) 0)), .ex (.slice (A) (n) (c)), .ex (.int .i64 ((k : Int))), .ex (.pointer (ptrAt (A) ((k : Int)).toNat)), .ex (.slice ((rg (rs) ((k : Int))).a) ((rg (rs) ((k : Int))).n) ((rg (rs) ((k : Int))).c)), .ex (.pointer (ptrAt (Ac) 0)), .ex (.slice (A') (n) (c')), .ex (.int .i64 ((k : Int))), .ex (.pointer (ptrAt (A') ((k : Int)).toNat)), .ex (.slice ((rg (rs') ((k : Int))).a) ((rg (rs') ((k : Int))).n) ((rg (rs') ((k : Int))).c)), .ex (.bool (decide (gl xss k = gl yss k))), .ex (.bool (decide (¬ (gl xss k = gl yss k))))] (by kernel_rfl) (by kernel_rfl) rfl (List.forall_mem_cons.2 ⟨Yd.lasts_ex _, (List.forall_mem_cons.2 ⟨Yd.lasts_ex _, (List.forall_mem_cons.2 ⟨Yd.lasts_ex _, (List.forall_mem_cons.2 ⟨Yd.lasts_ex _, (List.forall_mem_cons.2 ⟨Yd.lasts_ex _, (List.forall_mem_cons.2 ⟨Yd.lasts_ex _, (List.forall_mem_cons.2 ⟨Yd.lasts_ex _, (List.forall_mem_cons.2 ⟨Yd.lasts_ex _, (List.forall_mem_cons.2 ⟨Yd.lasts_ex _, (List.forall_mem_cons.2 ⟨Yd.lasts_ex _, (List.forall_mem_cons.2 ⟨Yd.lasts_ex _, (List.forall_mem_cons.2 ⟨Yd.lasts_ex _, (fun _ h => by cases h)⟩)⟩)⟩)⟩)⟩)⟩)⟩)⟩)⟩)⟩)⟩)⟩) ⟨?_, ?_, ?_, ?_, ?_, ?_, ?_, ?_, ?_, ?_, ?_, ?_, trivial⟩ ?_
    · intro e1 w1 hb hp hun
      refine Ops.fld (hBb.below hb) rfl rfl rfl rfl inferInstance ?_
      refine Ops.nil ?_
      exact After.dn (Below.refl _ _) (by exact rfl)
    · intro e1 w1 hb hp hun
      refine Ops.ldf_s (hBb.below hb) rfl rfl rfl rfl rfl ?_
      refine Ops.nil ?_
      exact After.dn (Below.refl _ _) (by exact rfl)
    · intro e1 w1 hb hp hun
      refine Ops.mv_int rfl rfl rfl ?_
      refine Ops.nil ?_
      exact After.dn (Below.refl _ _) (by exact rfl)
    · intro e1 w1 hb hp hun
      refine Ops.idx (hAt.later hb).2 rfl rfl rfl (by omega) (by omega) ?_
      refine Ops.nil ?_
      exact After.dn (Below.refl _ _) (by exact rfl)
    · intro e1 w1 hb hp hun
      refine Ops.ld_sl (hAt.later hb) rfl (by omega) rfl rfl ?_
      refine Ops.nil ?_
      exact After.dn (Below.refl _ _) (by exact rfl)
    · intro e1 w1 hb hp hun
      refine Ops.fld (hBc.below hb) rfl rfl rfl rfl inferInstance ?_
      refine Ops.nil ?_
      exact After.dn (Below.refl _ _) (by exact rfl)
    · intro e1 w1 hb hp hun
      refine Ops.ldf_s (hBc.below hb) rfl rfl rfl rfl rfl ?_
      refine Ops.nil ?_
      exact After.dn (Below.refl _ _) (by exact rfl)
    · intro e1 w1 hb hp hun
      refine Ops.mv_int rfl rfl rfl ?_
      refine Ops.nil ?_
      exact After.dn (Below.refl _ _) (by exact rfl)
    · intro e1 w1 hb hp hun
      refine Ops.idx (hBt.later hb).2 rfl rfl rfl (by omega) (by omega) ?_
      refine Ops.nil ?_
      exact After.dn (Below.refl _ _) (by exact rfl)
    · intro e1 w1 hb hp hun
      refine Ops.ld_sl (hBt.later hb) rfl (by omega) rfl rfl ?_
      refine Ops.nil ?_
      exact After.dn (Below.refl _ _) (by exact rfl)
    · intro e1 w1 hb hp hun
      refine Ops.call (l01Same_c _ _ _ _ _ _ _ _ _ (ha.later hb) (hb'.later hb) (by omega)) rfl rfl rfl ?_
      rintro _ w2 ⟨rfl, hst⟩
      refine Ops.nil ?_
      exact After.dn hst.below (by exact rfl)
    · intro e1 w1 hb hp hun
      refine Ops.not_p rfl rfl ?_
      refine Ops.nil ?_
      exact After.dn (Below.refl _ _) (by exact rfl)
    intro u w4 hb4 _
    have hS4 := hS3.later hb4
    have hX4 := hS4.oldRows hX
    have hY4 := hS4.oldRows hY
    have hAt4 := hX4.top
    have hBt4 := hY4.top
    have ha4 := hX4.at_ (i := (k : Int)) (by omega) h1
    have hb4' := hY4.at_ (i := (k : Int)) (by omega) (by omega)
    have hBb4 := hS4.rd 1 rfl
    have hBc4 := hS4.rd 0 rfl
    refine thenQ_n ?_
    -- stop: cond
    refine Cd.cond_p _ rfl (fun h3 => ?_) (fun h3 => ?_)
    · rw [if_neg (fun h => h3 (lexC_zero.1 h))] at hK
      refine Cd.seq ?_
      -- stop: draw
      refine Cd.draw [.ex (.pointer (ptrAt (Ab) 0)), .ex (.slice (A) (n) (c)), .ex (.int .i64 ((k : Int))), .ex (.pointer (ptrAt (A) ((k : Int)).toNat)), .ex (.slice ((rg (rs) ((k : Int))).a) ((rg (rs) ((k : Int))).n) ((rg (rs) ((k : Int))).c)), .ex (.pointer (ptrAt (Ac) 0)), .ex (.slice (A') (n) (c')), .ex (.int .i64 ((k : Int))), .ex (.pointer (ptrAt (A') ((k : Int)).toNat)), .ex (.slice ((rg (rs') ((k : Int))).a) ((rg (rs') ((k : Int))).n) ((rg (rs') ((k : Int))).c)), .ex (.bool (decide (lexC (gl xss k) (gl yss k) < 0))), .ex (.bool (decide (lexC (gl xss k) (gl yss k) < 0)))] (by kernel_rfl) (by kernel_rfl) rfl (List.forall_mem_cons.2 ⟨Yd.lasts_ex _, (List.forall_mem_cons.2 ⟨Yd.lasts_ex _, (List.forall_mem_cons.2 ⟨Yd.lasts_ex _, (List.forall_mem_cons.2 ⟨Yd.lasts_ex _, (List.forall_mem_cons.2 ⟨Yd.lasts_ex _, (List.forall_mem_cons.2 ⟨Yd.lasts_ex _, (List.forall_mem_cons.2 ⟨Yd.lasts_ex _, (List.forall_mem_cons.2 ⟨Yd.lasts_ex _, (List.forall_mem_cons.2 ⟨Yd.lasts_ex _, (List.forall_mem_cons.2 ⟨Yd.lasts_ex _, (List.forall_mem_cons.2 ⟨Yd.lasts_ex _, (List.forall_mem_cons.2 ⟨Yd.lasts_ex _, (fun _ h => by cases h)⟩)⟩)⟩)⟩)⟩)⟩)⟩)⟩)⟩)⟩)⟩)⟩) ⟨?_, ?_, ?_, ?_, ?_, ?_, ?_, ?_, ?_, ?_, ?_, ?_, trivial⟩ ?_
      · intro e1 w1 hb hp hun
        refine Ops.fld (hBb4.below hb) rfl rfl rfl rfl inferInstance ?_
        refine Ops.nil ?_
        exact After.dn (Below.refl _ _) (by exact rfl)
      · intro e1 w1 hb hp hun
        refine Ops.ldf_s (hBb4.below hb) rfl rfl rfl rfl rfl ?_
        refine Ops.nil ?_
        exact After.dn (Below.refl _ _) (by exact rfl)
      · intro e1 w1 hb hp hun
        refine Ops.mv_int rfl rfl rfl ?_
        refine Ops.nil ?_
        exact After.dn (Below.refl _ _) (by exact rfl)
      · intro e1 w1 hb hp hun
        refine Ops.idx (hAt4.later hb).2 rfl rfl rfl (by omega) (by omega) ?_
        refine Ops.nil ?_
        exact After.dn (Below.refl _ _) (by exact rfl)
      · intro e1 w1 hb hp hun
        refine Ops.ld_sl (hAt4.later hb) rfl (by omega) rfl rfl ?_
        refine Ops.nil ?_
        exact After.dn (Below.refl _ _) (by exact rfl)
      · intro e1 w1 hb hp hun
        refine Ops.fld (hBc4.below hb) rfl rfl rfl rfl inferInstance ?_
        refine Ops.nil ?_
        exact After.dn (Below.refl _ _) (by exact rfl)
      · intro e1 w1 hb hp hun
        refine Ops.ldf_s (hBc4.below hb) rfl rfl rfl rfl rfl ?_
        refine Ops.nil ?_
        exact After.dn (Below.refl _ _) (by exact rfl)
      · intro e1 w1 hb hp hun
        refine Ops.mv_int rfl rfl rfl ?_
        refine Ops.nil ?_
        exact After.dn (Below.refl _ _) (by exact rfl)
      · intro e1 w1 hb hp hun
        refine Ops.idx (hBt4.later hb).2 rfl rfl rfl (by omega) (by omega) ?_
        refine Ops.nil ?_
        exact After.dn (Below.refl _ _) (by exact rfl)
      · intro e1 w1 hb hp hun
        refine Ops.ld_sl (hBt4.later hb) rfl (by omega) rfl rfl ?_
        refine Ops.nil ?_
        exact After.dn (Below.refl _ _) (by exact rfl)
      · intro e1 w1 hb hp hun
        refine Ops.call (l01Less_c _ _ _ _ _ _ _ _ _ (ha4.later hb) (hb4'.later hb) (by omega)) rfl rfl rfl ?_
        rintro _ w2 ⟨rfl, hst⟩
        refine Ops.nil ?_
        exact After.dn hst.below (by exact rfl)
      · intro e1 w1 hb hp hun
        refine Ops.mv_bool rfl rfl rfl ?_
        refine Ops.nil ?_
        exact After.dn (Below.refl _ _) (by exact rfl)
      intro u2 w5 hb5 _
      have hS5 := hS4.later hb5
      refine thenQ_n ?_
      refine Cd.ret ?_
      refine blockQ_r ?_
      refine thenQ_r ?_
      refine thenQ_r ?_
      refine blockQ_r ?_
      refine thenQ_r ?_
      refine ret1_b rfl ?_
      -- stop: end
      exact ⟨congrArg Value.bool (decide_eq_decide.2 (by rw [hK])), hS5.none⟩
    · rw [if_pos (lexC_zero.2 (Classical.not_not.1 h3))] at hK
      refine Cd.skip ?_
      refine blockQ_n ?_
      refine thenQ_n ?_
      refine Cd.region ?_
      refine Ops.mv_int rfl rfl rfl ?_
      refine Ops.add rfl rfl rfl (by omega) ?_
      refine Ops.mv_int rfl rfl rfl ?_
      refine Ops.nil ?_
      refine thenQ_n ?_
      -- stop: round
      exact ⟨k + 1, by show n - (k + 1) < n - k; omega, ⟨rfl, rfl, rfl, trivial⟩, hS4, by omega, hK⟩
  · rw [lexCC_endL (by omega), if_neg (by omega)] at hK
    refine Cd.exit ?_
    refine thenQ_x ?_
    refine thenQ_x ?_
    refine blockQ_x ?_
    refine thenQ_n ?_
    refine Cd.seq ?_
    refine Cd.region ?_
    refine Ops.mv_bool rfl rfl rfl ?_
    refine Ops.nil ?_
    refine thenQ_n ?_
    refine Cd.ret ?_
    refine ret1_b rfl ?_
    -- stop: end
    exact ⟨congrArg Value.bool (by rw [hK]; rfl), hS3.none⟩
end Go.Proofs.Ytgobjpcankaicaa.Vc
/-
  The walk of the law FnExactIsDesk: it returns true. Conditions: as it states them.
-/
namespace Go.Proofs.Ytgobjpcankaicaa.Vc
open Go.RowKit

theorem St.rowsI1 {w0 w : World} {t1 t2 : TypeId} {A : Option Addr} {n c : Nat} {rs : List SlV} {xss : List (List Int)} (h : St w0 w (mat t1 t2 A n c rs xss)) (hl : xss.length = n) : RowsI w A n rs xss :=
  St.rowsI (ks := []) (by rw [List.append_nil]; exact h) hl

end Go.Proofs.Ytgobjpcankaicaa.Vc
/-
  The walks of the program's least form, and of the reference's numbers of orbits. Conditions: as each states them.
-/
namespace Go.Proofs.Ytgobjpcankaicaa.Vc
open Go.RowKit
section
variable {P : Program} {N : Nat} {ops : Array Oper} {K : Env → World → Prop} {rest : List Oper} {e : Env} {w : World} {d : Nat} {ty : TypeId} {pos : String} {af : Array Edge}
/-- a struct of one slice, read from a slice of such -/
theorem Ops.ld_ag {t : TypeId} {fs : Array Field} {z : Value} {b : Nat} [Und P t (.struct fs)] [Inf P t z (0 + 1) b] {x : Operand} {A : Option Addr} {n : Nat} {i : Int} {xs : List SlV} (hR : RdR w A n xs) (hx : ev e x = .pointer (ptrAt A i.toNat)) (hj : i.toNat < n) (hb : Nat.blt d N = true)
    (hK : Ops P N ops K rest (upd e d (.agg #[.slice (rg xs i).a (rg xs i).n (rg xs i).c])) w) : Ops P N ops K (⟨some d, .load t x, ty, pos, af, none⟩ :: rest) e w :=
  .ld_agg 0 (hR.2.behind (o := i.toNat) (m := 1) (by omega)) hx rfl hb hK
end

theorem St.matAt {w0 w : World} {t1 t2 : TypeId} {A : Option Addr} {n c : Nat} {rs : List SlV} {xss : List (List Int)} {ks : List Ck} (h : St w0 w ks) (hsub : (mat t1 t2 A n c rs xss).Sublist ks) (hl : xss.length = n) : RowsI w A n rs xss := (h.sub hsub).rowsI1 hl
theorem MatV.sub_ {t1 t2 : TypeId} {m : MatV} : ∀ {ms : List MatV}, m ∈ ms → (m.cks t1 t2).Sublist (matsCk t1 t2 ms)
  | a :: ms, h => by
    unfold matsCk
    rw [List.flatMap_cons]
    rcases List.mem_cons.1 h with rfl | h
    · exact List.sublist_append_left _ _
    · exact (MatV.sub_ h).trans (List.sublist_append_right _ _)

theorem leastForm_c (A : Option Addr) (n c : Nat) (rs : List SlV) (xss : List (List Int)) (N : Nat) (w : World) (hR : RowsI w A n rs xss) (hM : Mani xss) (hN : N = (gl xss 0).length) :
    Ret Try.prog 112 [.agg #[.slice A n c]] w (fun v w' => ∃ A' c' rs', v = .agg #[.slice A' n c'] ∧ rs'.length = n ∧ St w w' (mat 33 2 A' n c' rs' (leastL N xss))) := by
  have h5 := hM.1
  have h40 := hM.2.1
  have hxl := hR.len
  have hr0 : (gl xss 0).length = (rg rs 0).n := hR.rowLen (by omega) (by omega)
  have hll : ∀ k, (leastTo N xss k).length = n := fun k => by
    induction k with
    | zero => rw [leastTo, formL_len, hxl]
    | succ k ih =>
      rw [leastTo]
      split
      · rw [formL_len, hxl]
      · exact ih
  have hfl : ∀ f : Int, (formL N xss f).length = n := fun f => by rw [formL_len, hxl]
  refine Ret.of_cd Try.func112 rfl Try.ntmps112 rfl (postc rfl rfl) ?_
  refine Cd.seq ?_
  refine Cd.region ?_
  -- stop: BOX 24 t0=m -> 1
  refine Ops.box1 (St.refl w) rfl rfl ?_
  intro Ab w1 hS1
  refine Ops.new1 hS1 rfl ?_
  intro Ac w2 hS2
  refine Ops.nil ?_
  refine thenQ_n ?_
  refine Cd.seq ?_
  refine Cd.region ?_
  -- stop: FIELDADDR 24 t1=m 0 -> 6
  refine Ops.fld (hS2.rd 1 rfl) rfl rfl rfl rfl inferInstance ?_
  refine Ops.ldf_s (hS2.rd 1 rfl) rfl rfl rfl rfl rfl ?_
  refine Ops.call (formFrom_c A n c rs xss N 0 _ (hS2.oldRows hR) hM hN (by omega) (by omega)) rfl rfl rfl ?_
  rintro _ w3 ⟨A4, c4, rs4, rfl, hl4, hst⟩
  have hS3 := (hS2.call hst).perm List.perm_append_comm
  refine Ops.new1 hS3 rfl ?_
  intro Ad w4 hS4
  refine Ops.st_agg 1 0 hS4 rfl rfl rfl rfl rfl rfl rfl ?_
  intro w5 hS5
  have hS5 : St w w5 (Bx 24 1 Ad [.slice A4 n c4] :: Bx 24 1 Ac [.slice none 0 0] :: Bx 24 1 Ab [.slice A n c] :: mat 33 2 A4 n c4 rs4 (leastTo N xss 0)) := hS5
  refine Ops.nil ?_
  refine thenQ_n ?_
  refine Cd.seq ?_
  refine Cd.seq ?_
  refine Cd.region ?_
  -- stop: CALL impl.Maniplex).flags(t1=m) -> 9
  refine Ops.call (flags_c Ab A n c rs xss _ _ (hS5.rd 2 rfl) rfl (hS5.oldRows hR) (by omega)) rfl rfl rfl ?_
  rintro _ w5 ⟨rfl, rfl⟩
  refine Ops.mv_int rfl rfl rfl ?_
  refine Ops.nil ?_
  refine thenQ_n ?_
  refine Cd.block ?_
  -- stop: loop
  refine Cd.loop (α := Nat × Option Addr × Nat × List SlV) (fun s => [(1, .pointer Ab), (2, .pointer Ac), (3, .pointer Ad), (9, .int .i64 (N : Int)), (10, .int .i64 (s.1 : Int))]) (fun s w' => St w w' (Bx 24 1 Ad [.slice s.2.1 n s.2.2.1] :: Bx 24 1 Ac [.slice none 0 0] :: Bx 24 1 Ab [.slice A n c] :: mat 33 2 s.2.1 n s.2.2.1 s.2.2.2 (leastTo N xss s.1)) ∧ s.1 ≤ N ∧ s.2.2.2.length = n) (fun s => N - s.1) (0, A4, c4, rs4) ⟨rfl, rfl, rfl, by rw [hN, hr0]; rfl, rfl, trivial⟩ ⟨hS5, Nat.zero_le _, hl4⟩ ?_
  rintro ⟨k, A6, c6, rs6⟩ e w6 ⟨hS6, hk, hl6⟩
  dsimp only at hS6 hk hl6 ⊢
  refine Cd.seq ?_
  refine Cd.region ?_
  refine Ops.lss rfl rfl rfl ?_
  refine Ops.nil ?_
  refine thenQ_n ?_
  refine Cd.seq ?_
  -- stop: cond
  refine Cd.cond_p _ rfl (fun h1 => ?_) (fun h1 => ?_)
  · refine Cd.skip ?_
    refine thenQ_n ?_
    refine Cd.seq ?_
    refine Cd.block ?_
    refine Cd.seq ?_
    refine Cd.region ?_
    refine Ops.mv_int rfl rfl rfl ?_
    refine Ops.mv_int rfl rfl rfl ?_
    refine Ops.nil ?_
    refine thenQ_n ?_
    refine Cd.seq ?_
    refine Cd.region ?_
    -- stop: FIELDADDR 24 t1=m 0 -> 13
    refine Ops.fld (hS6.rd 2 rfl) rfl rfl rfl rfl inferInstance ?_
    refine Ops.ldf_s (hS6.rd 2 rfl) rfl rfl rfl rfl rfl ?_
    refine Ops.mv_int rfl rfl rfl ?_
    -- stop: CALL impl.formFrom(t14, t15) -> 16
    refine Ops.call (formFrom_c A n c rs xss N (k : Int) _ (hS6.oldRows hR) hM hN (by omega) (by omega)) rfl rfl rfl ?_
    rintro _ w7 ⟨A7, c7, rs7, rfl, hl7, hst7⟩
    have hS7 := (hS6.call hst7).perm List.perm_append_comm
    refine Ops.new1 hS7 rfl ?_
    intro A8 w8 hS8
    refine Ops.st_agg 1 0 hS8 rfl rfl rfl rfl rfl rfl rfl ?_
    intro w9 hS9
    have hS9 : St w w9 (Bx 24 1 A8 [.slice A7 n c7] :: Bx 24 1 Ad [.slice A6 n c6] :: Bx 24 1 Ac [.slice none 0 0] :: Bx 24 1 Ab [.slice A n c] :: (mat 33 2 A6 n c6 rs6 (leastTo N xss k) ++ mat 33 2 A7 n c7 rs7 (formL N xss k))) := hS9
    have hr6 : RowsI w9 A6 n rs6 (leastTo N xss k) := hS9.matAt ((List.sublist_append_left _ _).trans (List.sublist_append_right [_, _, _, _] _)) (hll k)
    have hr7 : RowsI w9 A7 n rs7 (formL N xss k) := hS9.matAt (((((List.sublist_append_right _ _).cons _).cons _).cons _).cons _) (hfl k)
    refine Ops.nil ?_
    refine thenQ_n ?_
    refine Cd.seq ?_
    refine Cd.region ?_
    -- stop: LOAD 24 t5=form -> 17
    refine Ops.ld_agg 0 (hS9.rd 0 rfl) rfl rfl rfl ?_
    refine Ops.ld_agg 0 (hS9.rd 1 rfl) rfl rfl rfl ?_
    refine Ops.call (compareManiplexes_c A7 n c7 rs7 _ A6 n c6 rs6 _ _ hr7 hr6 (by omega)) rfl rfl rfl ?_
    rintro _ w10 ⟨rfl, hst10⟩
    have hS10 := hS9.later hst10.below
    refine Ops.lss rfl rfl rfl ?_
    refine Ops.nil ?_
    refine thenQ_n ?_
    -- stop: cond
    refine Cd.cond_p _ rfl (fun h2 => ?_) (fun h2 => ?_)
    · have hle : leastTo N xss (k + 1) = formL N xss k := by rw [leastTo, if_pos h2]
      refine Cd.region ?_
      -- stop: LOAD 24 t5=form -> 21
      refine Ops.ld_agg 0 (hS10.rd 0 rfl) rfl rfl rfl ?_
      refine Ops.st_agg 1 1 hS10 rfl rfl rfl rfl rfl rfl rfl ?_
      intro w11 hS11
      refine Ops.nil ?_
      refine blockQ_n ?_
      refine thenQ_n ?_
      refine Cd.region ?_
      refine Ops.add rfl rfl rfl (by omega) ?_
      refine Ops.mv_int rfl rfl rfl ?_
      refine Ops.nil ?_
      refine thenQ_n ?_
      -- stop: round
      refine ⟨(k + 1, A7, c7, rs7), by show N - (k + 1) < N - k; omega, ⟨rfl, rfl, rfl, rfl, rfl, trivial⟩, ?_, by show k + 1 ≤ N; omega, hl7⟩
      show St w w11 (Bx _ 1 Ad [.slice A7 n c7] :: _ :: _ :: mat _ _ A7 n c7 rs7 (leastTo N xss (k + 1)))
      rw [hle]
      exact hS11.sub (((List.Sublist.cons_cons _ (List.Sublist.cons_cons _ (List.Sublist.cons_cons _ (List.sublist_append_right _ _)))).cons _))
    · have hle : leastTo N xss (k + 1) = leastTo N xss k := by rw [leastTo, if_neg h2]
      refine Cd.skip ?_
      refine blockQ_n ?_
      refine thenQ_n ?_
      refine Cd.region ?_
      refine Ops.add rfl rfl rfl (by omega) ?_
      refine Ops.mv_int rfl rfl rfl ?_
      refine Ops.nil ?_
      refine thenQ_n ?_
      -- stop: round
      refine ⟨(k + 1, A6, c6, rs6), by show N - (k + 1) < N - k; omega, ⟨rfl, rfl, rfl, rfl, rfl, trivial⟩, ?_, by show k + 1 ≤ N; omega, hl6⟩
      show St w w10 (Bx _ 1 Ad [.slice A6 n c6] :: _ :: _ :: mat _ _ A6 n c6 rs6 (leastTo N xss (k + 1)))
      rw [hle]
      exact hS10.sub (((List.Sublist.cons_cons _ (List.Sublist.cons_cons _ (List.Sublist.cons_cons _ (List.sublist_append_left _ _)))).cons _))
  · have hkN : k = N := by omega
    rw [hkN] at hS6
    refine Cd.exit ?_
    refine thenQ_x ?_
    refine thenQ_x ?_
    refine blockQ_x ?_
    refine thenQ_n ?_
    refine Cd.seq ?_
    refine Cd.region ?_
    -- stop: LOAD 24 t3=least -> 23
    refine Ops.ld_agg 0 (hS6.rd 0 rfl) rfl rfl rfl ?_
    refine Ops.st_agg 1 1 hS6 rfl rfl rfl rfl rfl rfl rfl ?_
    intro w7 hS7
    refine Ops.nil ?_
    refine thenQ_n ?_
    refine Cd.ret ?_
    skip
    -- stop: end
    refine retc_r rfl (hS7.rd 1 rfl) ?_
    exact ⟨A6, c6, rs6, rfl, hl6, hS7.sub (((List.sublist_cons_self _ _).trans (List.sublist_cons_self _ _)).trans (List.sublist_cons_self _ _))⟩

/-! the numbers of orbits -/
def fset (N : Nat) (xss : List (List Int)) : Nat → List (List (List Int))
  | 0 => []
  | k + 1 => if formL N xss k ∈ fset N xss k then fset N xss k else fset N xss k ++ [formL N xss k]
theorem fset_le (N : Nat) (xss : List (List Int)) : ∀ k, (fset N xss k).length ≤ k
  | 0 => Nat.le_refl _
  | k + 1 => by
    have := fset_le N xss k
    simp only [fset]
    split
    · omega
    · simp; omega
theorem fset_row (N : Nat) (xss : List (List Int)) : ∀ k, ∀ m ∈ fset N xss k, m.length = xss.length
  | 0, m, h => by cases h
  | k + 1, m, h => by
    simp only [fset] at h
    split at h
    · exact fset_row N xss k m h
    · rcases List.mem_append.1 h with h | h
      · exact fset_row N xss k m h
      · simp at h; subst h; exact formL_len _ _ _
def orbN (N : Nat) (xss : List (List Int)) : Nat := if Own1 N xss then (fset N xss N).length else 0

theorem l19Orbits_c (A : Option Addr) (n c : Nat) (rs : List SlV) (xss : List (List Int)) (N : Nat) (w : World) (hR : RowsI w A n rs xss) (hM : Mani xss) (hN : N = (gl xss 0).length) :
    Ret Try.prog 108 [.agg #[.slice A n c]] w (fun v w' => v = .int .i64 (orbN N xss : Int) ∧ St w w' []) := by
  have h5 := hM.1
  have h40 := hM.2.1
  have hxl := hR.len
  have hfl : ∀ f : Int, (formL N xss f).length = n := fun f => by rw [formL_len, hxl]
  refine Ret.of_cd Try.func108 rfl Try.ntmps108 rfl (post1 rfl) ?_
  refine Cd.seq ?_
  refine Cd.region ?_
  -- stop: BOX 24 t0=m -> 1
  refine Ops.box1 (St.refl w) rfl rfl ?_
  intro Ab w1 hS1
  refine Ops.mv_int rfl rfl rfl ?_
  refine Ops.nil ?_
  refine thenQ_n ?_
  refine Cd.seq ?_
  refine Cd.region ?_
  -- stop: BUILDSLICE 51 0 [] -> 8
  refine Ops.bs0 hS1 rfl ?_
  intro A3 w2 hS2
  refine Ops.mv_sl rfl rfl rfl ?_
  refine Ops.nil ?_
  refine thenQ_n ?_
  refine Cd.seq ?_
  refine Cd.seq ?_
  refine Cd.region ?_
  refine Ops.mv_int rfl rfl rfl ?_
  refine Ops.nil ?_
  refine thenQ_n ?_
  refine Cd.block ?_
  -- stop: loop
  refine Cd.loop (α := Nat × Option Addr × Nat × List MatV) (fun s => [(1, .pointer Ab), (3, .slice s.2.1 s.2.2.2.length s.2.2.1), (4, .int .i64 (s.1 : Int))]) (fun s w' => St w w' (CkR 24 s.2.1 s.2.2.2.length s.2.2.1 (s.2.2.2.map (·.top)) :: Bx 24 1 Ab [.slice A n c] :: matsCk 33 2 s.2.2.2) ∧ s.1 ≤ N ∧ s.2.2.2.map (·.xss) = fset N xss s.1 ∧ (∀ m ∈ s.2.2.2, m.top.n = n) ∧ ∀ f, f < s.1 → ¬ lexCC (formL N xss (f : Nat)) xss < 0) (fun s => N - s.1) (0, A3, 0, []) ⟨rfl, rfl, rfl, trivial⟩ ⟨hS2, Nat.zero_le _, rfl, (by intro m h; cases h), (by intro f hf; exact absurd hf (Nat.not_lt_zero f))⟩ ?_
  rintro ⟨k, A4, c4, ms⟩ e w3 ⟨hS3, hk, hms, htn, hown⟩
  dsimp only at hS3 hk hms htn hown ⊢
  have hmle := fset_le N xss k
  rw [← hms, List.length_map] at hmle
  refine Cd.seq ?_
  refine Cd.seq ?_
  refine Cd.region ?_
  refine Ops.mv_int rfl rfl rfl ?_
  -- stop: LOAD 24 t1=m -> 10
  refine Ops.ld_agg 0 (hS3.rd 1 rfl) rfl rfl rfl ?_
  refine Ops.call (l02Flags_c A n c rs xss _ (hS3.oldRows hR) (by omega)) rfl rfl rfl ?_
  rintro _ w4 ⟨rfl, hst⟩
  have hS4 := hS3.later hst.below
  rw [← hN]
  refine Ops.lss rfl rfl rfl ?_
  refine Ops.nil ?_
  refine thenQ_n ?_
  -- stop: cond
  refine Cd.cond_p _ rfl (fun h1 => ?_) (fun h1 => ?_)
  · refine Cd.skip ?_
    refine thenQ_n ?_
    refine Cd.seq ?_
    refine Cd.block ?_
    refine Cd.seq ?_
    refine Cd.region ?_
    -- stop: LOAD 24 t1=m -> 15
    refine Ops.ld_agg 0 (hS4.rd 1 rfl) rfl rfl rfl ?_
    refine Ops.mv_int rfl rfl rfl ?_
    -- stop: CALL spec.l02Form(t15, t16) -> 17
    refine Ops.call (l02Form_c A n c rs xss N (k : Int) _ (hS4.oldRows hR) hM hN (by omega) (by omega)) rfl rfl rfl ?_
    rintro _ w5 ⟨A5, c5, rs5, rfl, hl5, hst5⟩
    have hS5 := (hS4.call hst5).perm List.perm_append_comm
    refine Ops.new1 hS5 rfl ?_
    intro A6 w6 hS6
    refine Ops.st_agg 1 0 hS6 rfl rfl rfl rfl rfl rfl rfl ?_
    intro w7 hS7
    have hS7 : St w w7 (Bx 24 1 A6 [.slice A5 n c5] :: CkR 24 A4 ms.length c4 (ms.map (·.top)) :: Bx 24 1 Ab [.slice A n c] :: (matsCk 33 2 ms ++ mat 33 2 A5 n c5 rs5 (formL N xss k))) := hS7
    have hr5 : RowsI w7 A5 n rs5 (formL N xss k) := hS7.matAt ((List.sublist_append_right _ _).trans (List.sublist_append_right [_, _, _] _)) (hfl k)
    refine Ops.mv_bool rfl rfl rfl ?_
    refine Ops.nil ?_
    refine thenQ_n ?_
    refine Cd.seq ?_
    refine Cd.seq ?_
    refine Cd.region ?_
    -- stop: LOAD 24 t5=form -> 18
    refine Ops.ld_agg 0 (hS7.rd 0 rfl) rfl rfl rfl ?_
    refine Ops.ld_agg 0 (hS7.rd 2 rfl) rfl rfl rfl ?_
    refine Ops.call (l19Less_c A5 n c5 rs5 _ A c rs xss _ hr5 (hS7.oldRows hR) (by omega)) rfl rfl rfl ?_
    rintro _ w8 ⟨rfl, hst8⟩
    have hS8 := hS7.later hst8.below
    have hr8 := hr5.later hst8.below
    refine Ops.nil ?_
    refine thenQ_n ?_
    -- stop: cond
    refine Cd.cond_p _ rfl (fun h2 => ?_) (fun h2 => ?_)
    · refine Cd.seq ?_
      refine Cd.region ?_
      refine Ops.mv_int rfl rfl rfl ?_
      refine Ops.nil ?_
      refine thenQ_n ?_
      refine Cd.ret ?_
      refine thenQ_r ?_
      refine blockQ_r ?_
      refine thenQ_r ?_
      refine thenQ_r ?_
      refine blockQ_r ?_
      refine thenQ_r ?_
      refine ret1_i rfl ?_
      -- stop: end
      refine ⟨?_, hS8.none⟩
      rw [orbN, if_neg (fun h : Own1 N xss => h k (by omega) h2)]
      rfl
    · have hown' : ∀ f, f < k + 1 → ¬ lexCC (formL N xss (f : Nat)) xss < 0 := fun f hf => by
        by_cases e : f = k
        · subst e; exact h2
        · exact hown f (by omega)
      have hRR := hS8.rdR 1 rfl
      have hB6 := hS8.rd 0 rfl
      have hml : ∀ (j : Nat) (hj : j < ms.length), RowsI w8 (rg (ms.map (·.top)) (j : Int)).a (rg (ms.map (·.top)) (j : Int)).n (ms[j]).rs (ms[j]).xss := fun j hj => by
        have e : rg (ms.map (·.top)) (j : Int) = (ms[j]).top := by simp [rg, List.getD_eq_getElem?_getD, List.getElem?_eq_getElem hj]
        rw [e]
        have hm := List.getElem_mem hj
        refine hS8.matAt (c := (ms[j]).top.c) (t1 := 33) (t2 := 2) (((MatV.sub_ hm).trans (List.sublist_append_left _ _)).trans (List.sublist_append_right [_, _, _] _)) ?_
        rw [htn _ hm, ← hxl]
        exact fset_row N xss k _ (by rw [← hms]; exact List.mem_map_of_mem hm)
      refine Cd.skip ?_
      refine thenQ_n ?_
      refine Cd.seq ?_
      refine Cd.seq ?_
      refine Cd.region ?_
      refine Ops.mv_int rfl rfl rfl ?_
      refine Ops.nil ?_
      refine thenQ_n ?_
      refine Cd.block ?_
      -- stop: loop
      refine Cd.loop (α := Nat × Bool) (fun s => [(1, .pointer Ab), (3, .slice A4 ms.length c4), (4, .int .i64 (k : Int)), (5, .pointer A6), (6, .bool s.2), (7, .int .i64 (s.1 : Int))]) (fun s w' => St w8 w' [] ∧ s.1 ≤ ms.length ∧ s.2 = decide (formL N xss k ∈ (ms.map (·.xss)).take s.1)) (fun s => ms.length - s.1) (0, false) ⟨rfl, rfl, rfl, rfl, rfl, rfl, trivial⟩ ⟨St.refl w8, Nat.zero_le _, rfl⟩ ?_
      rintro ⟨j, kn⟩ e w9 ⟨hS9, hj, hkn⟩
      dsimp only at hS9 hj hkn ⊢
      refine Cd.seq ?_
      refine Cd.seq ?_
      refine Cd.region ?_
      refine Ops.mv_int rfl rfl rfl ?_
      refine Ops.mv_sl rfl rfl rfl ?_
      refine Ops.len rfl rfl ?_
      refine Ops.lss rfl rfl rfl ?_
      refine Ops.nil ?_
      refine thenQ_n ?_
      -- stop: cond
      refine Cd.cond_p _ rfl (fun h3 => ?_) (fun h3 => ?_)
      · have hj' : j < ms.length := by omega
        have hstep : (ms.map (·.xss)).take (j + 1) = (ms.map (·.xss)).take j ++ [(ms[j]).xss] := by
          rw [List.take_succ_eq_append_getElem (by rw [List.length_map]; exact hj'), List.getElem_map]
        have hRR9 := hRR.later hS9.below
        have hB9 := hB6.below hS9.below
        have hmj := (hml j hj').later hS9.below
        have hr9 := hr8.later hS9.below
        have hcap := hmj.len
        have hnj : (rg (ms.map (·.top)) (j : Int)).n = n := by
          have e : rg (ms.map (·.top)) (j : Int) = (ms[j]).top := by simp [rg, List.getD_eq_getElem?_getD, List.getElem?_eq_getElem hj']
          rw [e]
          exact htn _ (List.getElem_mem hj')
        cases kn --dup 2
        · refine Cd.skip ?_
          refine thenQ_n ?_
          refine Cd.seq ?_
          refine Cd.block ?_
          -- stop: draw
          refine Cd.draw [.ex (.bool (false)), .ex (.bool (false)), .ex (.slice (A4) (ms.length) (c4)), .ex (.int .i64 ((j : Int))), .ex (.pointer (ptrAt (A4) ((j : Int)).toNat)), .ex (.agg #[.slice (rg (ms.map (·.top)) ((j : Int))).a (rg (ms.map (·.top)) ((j : Int))).n (rg (ms.map (·.top)) ((j : Int))).c]), .ex (.agg #[.slice (A5) (n) (c5)]), .ex (.bool (decide ((ms[j]).xss = formL N xss k))), .ex (.bool (decide ((ms[j]).xss = formL N xss k))), .ex (.bool (decide ((ms[j]).xss = formL N xss k)))] (by kernel_rfl) (by kernel_rfl) rfl (List.forall_mem_cons.2 ⟨Yd.lasts_ex _, (List.forall_mem_cons.2 ⟨Yd.lasts_ex _, (List.forall_mem_cons.2 ⟨Yd.lasts_ex _, (List.forall_mem_cons.2 ⟨Yd.lasts_ex _, (List.forall_mem_cons.2 ⟨Yd.lasts_ex _, (List.forall_mem_cons.2 ⟨Yd.lasts_ex _, (List.forall_mem_cons.2 ⟨Yd.lasts_ex _, (List.forall_mem_cons.2 ⟨Yd.lasts_ex _, (List.forall_mem_cons.2 ⟨Yd.lasts_ex _, (List.forall_mem_cons.2 ⟨Yd.lasts_ex _, (fun _ h => by cases h)⟩)⟩)⟩)⟩)⟩)⟩)⟩)⟩)⟩)⟩) ⟨?_, ?_, ?_, ?_, ?_, ?_, ?_, ?_, ?_, ?_, trivial⟩ ?_
          · intro e1 w1 hb hp hun
            refine Ops.mv_bool rfl (by exact hun 9 _ rfl (by kernel_rfl)) rfl ?_
            refine Ops.nil ?_
            exact After.dn (Below.refl _ _) (by exact rfl)
          · intro e1 w1 hb hp hun
            refine Ops.mv_bool rfl rfl rfl ?_
            refine Ops.nil ?_
            exact After.dn (Below.refl _ _) (by exact rfl)
          · intro e1 w1 hb hp hun
            refine Ops.rung rfl rfl rfl ?_
            refine Ops.mv_sl rfl rfl rfl ?_
            refine Ops.nil ?_
            exact After.dn (Below.refl _ _) (by exact rfl)
          · intro e1 w1 hb hp hun
            refine Ops.rung rfl rfl rfl ?_
            refine Ops.mv_int rfl rfl rfl ?_
            refine Ops.nil ?_
            exact After.dn (Below.refl _ _) (by exact rfl)
          · intro e1 w1 hb hp hun
            refine Ops.rung rfl rfl rfl ?_
            refine Ops.idx (hRR9.later hb).2 rfl rfl rfl (by omega) (by omega) ?_
            refine Ops.nil ?_
            exact After.dn (Below.refl _ _) (by exact rfl)
          · intro e1 w1 hb hp hun
            refine Ops.rung rfl rfl rfl ?_
            refine Ops.ld_ag (hRR9.later hb) rfl (by omega) rfl ?_
            refine Ops.nil ?_
            exact After.dn (Below.refl _ _) (by exact rfl)
          · intro e1 w1 hb hp hun
            refine Ops.rung rfl rfl rfl ?_
            refine Ops.ld_agg 0 (hB9.below hb) rfl rfl rfl ?_
            refine Ops.nil ?_
            exact After.dn (Below.refl _ _) (by exact rfl)
          · intro e1 w1 hb hp hun
            refine Ops.rung rfl rfl rfl ?_
            refine Ops.call (l02Same_c _ _ _ _ _ _ _ _ _ _ _ (hmj.later hb) (hr9.later hb) (by omega)) rfl rfl rfl ?_
            rintro _ w2 ⟨rfl, hst⟩
            refine Ops.nil ?_
            exact After.dn hst.below (by exact rfl)
          · intro e1 w1 hb hp hun
            refine Ops.pick_f rfl rfl rfl ?_
            refine Ops.nil ?_
            exact After.dn (Below.refl _ _) (by exact rfl)
          · intro e1 w1 hb hp hun
            refine Ops.mv_bool rfl rfl rfl ?_
            refine Ops.nil ?_
            exact After.dn (Below.refl _ _) (by exact rfl)
          intro u w10 hb10 _
          have hS10 := hS9.later hb10
          refine blockQ_n ?_
          refine thenQ_n ?_
          refine Cd.region ?_
          refine Ops.mv_int rfl rfl rfl ?_
          refine Ops.add rfl rfl rfl (by omega) ?_
          refine Ops.mv_int rfl rfl rfl ?_
          refine Ops.nil ?_
          refine thenQ_n ?_
          -- stop: round
          refine ⟨(j + 1, decide ((ms[j]).xss = formL N xss k)), by show ms.length - (j + 1) < ms.length - j; omega, ⟨rfl, rfl, rfl, rfl, rfl, rfl, trivial⟩, hS10, by show j + 1 ≤ ms.length; omega, ?_⟩
          show decide _ = decide (formL N xss k ∈ (ms.map (·.xss)).take (j + 1))
          rw [hstep]
          have hno : ¬ formL N xss k ∈ (ms.map (·.xss)).take j := of_decide_eq_false hkn.symm
          refine decide_eq_decide.2 ?_
          rw [List.mem_append, List.mem_singleton]
          exact ⟨fun h => .inr h.symm, fun h => h.elim (fun h => absurd h hno) (fun h => h.symm)⟩
        · refine Cd.skip ?_
          refine thenQ_n ?_
          refine Cd.seq ?_
          refine Cd.block ?_
          -- stop: draw
          refine Cd.draw [.ex (.bool (true)), .ex (.bool (true)), .ex (undef), .ex (undef), .ex (undef), .ex (undef), .ex (undef), .ex (undef), .ex (.bool (true)), .ex (.bool (true))] (by kernel_rfl) (by kernel_rfl) rfl (List.forall_mem_cons.2 ⟨Yd.lasts_ex _, (List.forall_mem_cons.2 ⟨Yd.lasts_ex _, (List.forall_mem_cons.2 ⟨Yd.lasts_ex _, (List.forall_mem_cons.2 ⟨Yd.lasts_ex _, (List.forall_mem_cons.2 ⟨Yd.lasts_ex _, (List.forall_mem_cons.2 ⟨Yd.lasts_ex _, (List.forall_mem_cons.2 ⟨Yd.lasts_ex _, (List.forall_mem_cons.2 ⟨Yd.lasts_ex _, (List.forall_mem_cons.2 ⟨Yd.lasts_ex _, (List.forall_mem_cons.2 ⟨Yd.lasts_ex _, (fun _ h => by cases h)⟩)⟩)⟩)⟩)⟩)⟩)⟩)⟩)⟩)⟩) ⟨?_, ?_, ?_, ?_, ?_, ?_, ?_, ?_, ?_, ?_, trivial⟩ ?_
          · intro e1 w1 hb hp hun
            refine Ops.mv_bool rfl (by exact hun 9 _ rfl (by kernel_rfl)) rfl ?_
            refine Ops.nil ?_
            exact After.dn (Below.refl _ _) (by exact rfl)
          · intro e1 w1 hb hp hun
            refine Ops.mv_bool rfl rfl rfl ?_
            refine Ops.nil ?_
            exact After.dn (Below.refl _ _) (by exact rfl)
          · intro e1 w1 hb hp hun
            refine Ops.skipg rfl rfl rfl rfl rfl ?_
            refine Ops.nil ?_
            exact After.dn (Below.refl _ _) (by exact rfl)
          · intro e1 w1 hb hp hun
            refine Ops.skipg rfl rfl rfl rfl rfl ?_
            refine Ops.nil ?_
            exact After.dn (Below.refl _ _) (by exact rfl)
          · intro e1 w1 hb hp hun
            refine Ops.skipg rfl rfl rfl rfl rfl ?_
            refine Ops.nil ?_
            exact After.dn (Below.refl _ _) (by exact rfl)
          · intro e1 w1 hb hp hun
            refine Ops.skipg rfl rfl rfl rfl rfl ?_
            refine Ops.nil ?_
            exact After.dn (Below.refl _ _) (by exact rfl)
          · intro e1 w1 hb hp hun
            refine Ops.skipg rfl rfl rfl rfl rfl ?_
            refine Ops.nil ?_
            exact After.dn (Below.refl _ _) (by exact rfl)
          · intro e1 w1 hb hp hun
            refine Ops.skipg rfl rfl rfl rfl rfl ?_
            refine Ops.nil ?_
            exact After.dn (Below.refl _ _) (by exact rfl)
          · intro e1 w1 hb hp hun
            refine Ops.pick_t rfl rfl rfl ?_
            refine Ops.nil ?_
            exact After.dn (Below.refl _ _) (by exact rfl)
          · intro e1 w1 hb hp hun
            refine Ops.mv_bool rfl rfl rfl ?_
            refine Ops.nil ?_
            exact After.dn (Below.refl _ _) (by exact rfl)
          intro u w10 hb10 _
          have hS10 := hS9.later hb10
          refine blockQ_n ?_
          refine thenQ_n ?_
          refine Cd.region ?_
          refine Ops.mv_int rfl rfl rfl ?_
          refine Ops.add rfl rfl rfl (by omega) ?_
          refine Ops.mv_int rfl rfl rfl ?_
          refine Ops.nil ?_
          refine thenQ_n ?_
          -- stop: round
          refine ⟨(j + 1, true), by show ms.length - (j + 1) < ms.length - j; omega, ⟨rfl, rfl, rfl, rfl, rfl, rfl, trivial⟩, hS10, by show j + 1 ≤ ms.length; omega, ?_⟩
          have hyes : formL N xss k ∈ (ms.map (·.xss)).take j := of_decide_eq_true hkn.symm
          show true = decide (formL N xss k ∈ (ms.map (·.xss)).take (j + 1))
          rw [hstep]
          exact (decide_eq_true (List.mem_append_left _ hyes)).symm
      · have hjm : j = ms.length := by omega
        rw [hjm, List.take_of_length_le (by rw [List.length_map]; exact Nat.le_refl _), hms] at hkn
        have hSf := hS8.later hS9.below
        refine Cd.exit ?_
        refine thenQ_x ?_
        refine thenQ_x ?_
        refine blockQ_x ?_
        refine thenQ_n ?_
        refine Cd.seq ?_
        refine Cd.region ?_
        refine Ops.mv_bool rfl rfl rfl ?_
        first | refine Ops.not_p rfl rfl ?_ | refine Ops.not rfl rfl ?_
        refine Ops.nil ?_
        refine thenQ_n ?_
        -- stop: cond
        refine Cd.cond rfl (fun h4 => ?_) (fun h4 => ?_)
        · have hnew : ¬ formL N xss k ∈ fset N xss k := fun h => by
            rw [decide_eq_true h] at hkn
            rw [hkn] at h4
            cases h4
          refine Cd.region ?_
          refine Ops.mv_sl rfl rfl rfl ?_
          -- stop: LOAD 24 t5=form -> 39
          refine Ops.ld_agg 0 (hSf.rd 0 rfl) rfl rfl rfl ?_
          refine Ops.bs1A hSf rfl rfl rfl ?_
          intro A10 w10 hS10
          refine Ops.appR 2 hS10 rfl (hS10.rdR 0 rfl) rfl rfl rfl (by omega) (by omega) rfl ?_
          intro A11 c11 w11 hS11
          have hS11 := hS11.tail.tail
          have hS11 : St w w11 (CkR 24 A11 (ms.length + 1) c11 (ms.map (·.top) ++ [⟨A5, n, c5⟩]) :: Bx 24 1 Ab [.slice A n c] :: (matsCk 33 2 ms ++ mat 33 2 A5 n c5 rs5 (formL N xss k))) := hS11
          refine Ops.mv_sl rfl rfl rfl ?_
          refine Ops.nil ?_
          refine blockQ_n ?_
          refine thenQ_n ?_
          refine Cd.region ?_
          refine Ops.mv_int rfl rfl rfl ?_
          refine Ops.add rfl rfl rfl (by omega) ?_
          refine Ops.mv_int rfl rfl rfl ?_
          refine Ops.nil ?_
          refine thenQ_n ?_
          -- stop: round
          refine ⟨(k + 1, A11, c11, ms ++ [⟨⟨A5, n, c5⟩, rs5, formL N xss k⟩]), by show N - (k + 1) < N - k; omega, ⟨rfl, by rw [List.length_append]; rfl, rfl, trivial⟩, ?_, by show k + 1 ≤ N; omega, ?_, ?_, hown'⟩
          · show St w w11 (CkR _ A11 (ms ++ [(⟨⟨A5, n, c5⟩, rs5, formL N xss k⟩ : MatV)]).length c11 (List.map MatV.top (ms ++ [(⟨⟨A5, n, c5⟩, rs5, formL N xss k⟩ : MatV)])) :: _ :: matsCk _ _ (ms ++ [(⟨⟨A5, n, c5⟩, rs5, formL N xss k⟩ : MatV)]))
            rw [List.length_append, List.map_append, matsCk_append]
            simpa [matsCk, MatV.cks] using hS11
          · show List.map MatV.xss (ms ++ [(⟨⟨A5, n, c5⟩, rs5, formL N xss k⟩ : MatV)]) = fset N xss (k + 1)
            rw [List.map_append, hms, fset, if_neg hnew]
            rfl
          · intro m hm
            rcases List.mem_append.1 hm with hm | hm
            · exact htn m hm
            · simp at hm; subst hm; rfl
        · have hold : formL N xss k ∈ fset N xss k := by
            cases hkb : kn with
            | true => rw [hkb] at hkn; exact of_decide_eq_true hkn.symm
            | false => rw [hkb] at h4; cases h4
          refine Cd.skip ?_
          refine blockQ_n ?_
          refine thenQ_n ?_
          refine Cd.region ?_
          refine Ops.mv_int rfl rfl rfl ?_
          refine Ops.add rfl rfl rfl (by omega) ?_
          refine Ops.mv_int rfl rfl rfl ?_
          refine Ops.nil ?_
          refine thenQ_n ?_
          -- stop: round
          refine ⟨(k + 1, A4, c4, ms), by show N - (k + 1) < N - k; omega, ⟨rfl, rfl, rfl, trivial⟩, ?_, by show k + 1 ≤ N; omega, ?_, htn, hown'⟩
          · exact hSf.sub ((List.Sublist.cons_cons _ (List.Sublist.cons_cons _ (List.sublist_append_left _ _))).cons _)
          · show ms.map (·.xss) = fset N xss (k + 1)
            rw [hms, fset, if_pos hold]
  · have hkN : k = N := by omega
    subst hkN
    refine Cd.exit ?_
    refine thenQ_x ?_
    refine thenQ_x ?_
    refine blockQ_x ?_
    refine thenQ_n ?_
    refine Cd.seq ?_
    refine Cd.region ?_
    refine Ops.mv_sl rfl rfl rfl ?_
    refine Ops.len rfl rfl ?_
    refine Ops.mv_int rfl rfl rfl ?_
    refine Ops.nil ?_
    refine thenQ_n ?_
    refine Cd.ret ?_
    refine ret1_i rfl ?_
    -- stop: end
    refine ⟨?_, hS4.none⟩
    rw [orbN, if_pos (show Own1 k xss from hown), ← hms, List.length_map]
end Go.Proofs.Ytgobjpcankaicaa.Vc
/-
  Plain mathematics: two flags of a maniplex have the same form exactly if a covering of the maniplex by itself leads one to the other; a search finds such a covering; orbits of flags are as many as forms. Conditions: as each states them. No program in sight.
-/
namespace Go.Proofs.Ytgobjpcankaicaa.Vc

/-- a covering of a maniplex by itself -/
structure Cov (N : Nat) (xss : List (List Int)) (p : List Int) : Prop where
  len : p.length = N
  rng : ∀ x : Int, 0 ≤ x → x < N → 0 ≤ gi p x ∧ gi p x < N
  com : ∀ (m : Nat) (x : Int), m < xss.length → 0 ≤ x → x < N → gi p (gi (gl xss m) x) = gi (gl xss m) (gi p x)

section
variable {N : Nat} {xss : List (List Int)} {p q : List Int}
theorem Cov.onto (h : Cov N xss p) (hM : Mani xss) (hN : N = (gl xss 0).length) {z : Int} (h0 : 0 ≤ z) (h1 : z < N) : ∃ x : Int, (0 ≤ x ∧ x < N) ∧ gi p x = z := by
  have hs := hM.2.2.1.sys
  have hN2 := hM.2.1
  rw [← hN] at hs
  have hb := h.rng 0 (by omega) (by omega)
  have hr := hM.any (f := gi p 0) (g := z) hb.1 (by omega) h0 (by omega)
  have key : ∀ y, Reach xss (gi p 0) y → ∃ x : Int, (0 ≤ x ∧ x < N) ∧ gi p x = y := by
    intro y hy
    induction hy with
    | refl => exact ⟨0, ⟨by omega, by omega⟩, rfl⟩
    | step _ hm ih =>
      obtain ⟨x, hx, rfl⟩ := ih
      obtain ⟨i, hi, rfl⟩ := List.mem_iff_getElem.1 hm
      have hq := (hs _ hm).2 x hx.1 hx.2
      have hc := h.com i x hi hx.1 hx.2
      rw [gl_mem hi] at hc
      exact ⟨_, hq, hc⟩
  exact key z hr
theorem Cov.inj (h : Cov N xss p) (hM : Mani xss) (hN : N = (gl xss 0).length) : ∀ x y : Int, 0 ≤ x → x < N → 0 ≤ y → y < N → gi p x = gi p y → x = y := by
  intro x y hx hx' hy hy' e
  apply Classical.byContradiction
  intro hne
  obtain ⟨i, rfl⟩ : ∃ i : Nat, x = i := ⟨x.toNat, by omega⟩
  obtain ⟨j, rfl⟩ : ∃ j : Nat, y = j := ⟨y.toNat, by omega⟩
  have hl := h.len
  have hsub := sub_len (seqI N) (p.eraseIdx j) (by
    unfold seqI
    rw [List.nodup_iff_pairwise_ne, List.pairwise_map]
    exact (List.nodup_iff_pairwise_ne.1 List.nodup_range).imp (fun h e => h (by omega))) (fun z hz => by
    have hz := seqI_mem.1 hz
    obtain ⟨u, hu, rfl⟩ := h.onto hM hN hz.1 hz.2
    obtain ⟨k, rfl⟩ : ∃ k : Nat, u = k := ⟨u.toNat, by omega⟩
    rw [List.mem_eraseIdx_iff_getElem]
    by_cases hk : k = j
    · subst hk
      exact ⟨i, by omega, by omega, by rw [← e, gi_mem (by omega)]⟩
    · exact ⟨k, by omega, hk, by rw [gi_mem (by omega)]⟩)
  rw [seqI_len, List.length_eraseIdx, if_pos (by omega)] at hsub
  omega
theorem Cov.ism (h : Cov N xss p) (hM : Mani xss) (hN : N = (gl xss 0).length) : Ism N xss xss (gi p) := ⟨rfl, h.rng, h.inj hM hN, fun i x hi hx hx' => (h.com i x hi hx hx').symm⟩
theorem Cov.form (h : Cov N xss p) (hM : Mani xss) (hN : N = (gl xss 0).length) {x : Int} (h0 : 0 ≤ x) (h1 : x < N) : formL N xss (gi p x) = formL N xss x := form_map (h.ism hM hN) hM hN h0 h1
theorem Cov.one (h : Cov N xss p) (h' : Cov N xss q) (hM : Mani xss) (hN : N = (gl xss 0).length) (e : gi p 0 = gi q 0) : p = q := by
  have hs := hM.2.2.1.sys
  have hN2 := hM.2.1
  rw [← hN] at hs
  have key : ∀ y, Reach xss 0 y → (0 ≤ y ∧ y < N) ∧ gi p y = gi q y := by
    intro y hy
    induction hy with
    | refl => exact ⟨⟨by omega, by omega⟩, e⟩
    | step _ hm ih =>
      obtain ⟨hx, e⟩ := ih
      obtain ⟨i, hi, rfl⟩ := List.mem_iff_getElem.1 hm
      have h1 := h.com i _ hi hx.1 hx.2
      have h2 := h'.com i _ hi hx.1 hx.2
      rw [gl_mem hi] at h1 h2
      exact ⟨(hs _ hm).2 _ hx.1 hx.2, by rw [h1, h2, e]⟩
  apply List.ext_getElem
  · rw [h.len, h'.len]
  · intro i h1 h2
    have := (key i (hM.all (by omega) (by have := h.len; omega))).2
    rwa [gi_mem h1, gi_mem h2] at this
/-- the same form: a covering leads from one flag to the other -/
theorem form_cov (hM : Mani xss) (hN : N = (gl xss 0).length) {f g : Int} (h0 : 0 ≤ f) (h1 : f < N) (h2 : 0 ≤ g) (h3 : g < N) (e : formL N xss f = formL N xss g) : ∃ p, Cov N xss p ∧ gi p f = g := by
  have hs := hM.2.2.1.sys
  have hPf := hM.prm h0 (by rw [← hN]; exact h1)
  have hPg := hM.prm h2 (by rw [← hN]; exact h3)
  rw [← hN] at hs hPf hPg
  have hIf := form_ism hM hN h0 h1
  have hIg := form_ism hM hN h2 h3
  have hget : ∀ x : Int, 0 ≤ x → x < N → gi ((List.range N).map fun x : Nat => gi (orbit N xss g) (gi (backI N (orbit N xss f)) (x : Int))) x = gi (orbit N xss g) (gi (backI N (orbit N xss f)) x) := fun x hx hx' => by
    obtain ⟨k, rfl⟩ : ∃ k : Nat, x = k := ⟨x.toNat, by omega⟩
    rw [gi_mem (by simp; omega)]
    simp
  have hr : ∀ x : Int, 0 ≤ x → x < N → 0 ≤ gi (orbit N xss g) (gi (backI N (orbit N xss f)) x) ∧ gi (orbit N xss g) (gi (backI N (orbit N xss f)) x) < N := fun x hx hx' => by
    obtain ⟨k, hk, _, e2⟩ := hPf.backR hx hx'
    rw [e2]
    exact hPg.rng hk
  have hb : ∀ x : Int, 0 ≤ x → x < N → gi (backI N (orbit N xss g)) (gi (orbit N xss g) (gi (backI N (orbit N xss f)) x)) = gi (backI N (orbit N xss f)) x := fun x hx hx' => by
    obtain ⟨k, hk, _, e2⟩ := hPf.backR hx hx'
    rw [e2, hPg.back hk]
  refine ⟨(List.range N).map fun x : Nat => gi (orbit N xss g) (gi (backI N (orbit N xss f)) (x : Int)), ⟨by simp, fun x hx hx' => by rw [hget x hx hx']; exact hr x hx hx', fun m x hm hx hx' => ?_⟩, ?_⟩
  · have hin : ∀ x : Int, 0 ≤ x → x < N → 0 ≤ gi (gl xss m) x ∧ gi (gl xss m) x < N := (hs (gl xss m) (by rw [gl_mem hm]; exact List.getElem_mem _)).2
    have hx1 := hin x hx hx'
    have hy := hr x hx hx'
    have hy1 := hin _ hy.1 hy.2
    have hz := hr _ hx1.1 hx1.2
    rw [hget x hx hx', hget _ hx1.1 hx1.2]
    apply hIg.inj _ _ hz.1 hz.2 hy1.1 hy1.2
    rw [hb _ hx1.1 hx1.2, ← hIf.com m x hm hx hx', ← hIg.com m _ hm hy.1 hy.2, hb x hx hx', e]
  · rw [hget f h0 h1, (form_pt hM hN h0 h1).2]
    exact (form_pt hM hN h2 h3).1

/-- all coverings -/
structure AllCov (N : Nat) (xss ps : List (List Int)) : Prop where
  cov : ∀ p ∈ ps, Cov N xss p
  all : ∀ p, Cov N xss p → p ∈ ps
variable {ps : List (List Int)}
theorem AllCov.sys (h : AllCov N xss ps) : Sys N ps := fun p hp => ⟨(h.cov p hp).len, (h.cov p hp).rng⟩
theorem AllCov.inj (h : AllCov N xss ps) (hM : Mani xss) (hN : N = (gl xss 0).length) : Inj N ps := fun p hp => (h.cov p hp).inj hM hN
theorem AllCov.reach (h : AllCov N xss ps) (hM : Mani xss) (hN : N = (gl xss 0).length) {f g : Int} (h0 : 0 ≤ f) (h1 : f < N) (h2 : 0 ≤ g) (h3 : g < N) : Reach ps f g ↔ formL N xss f = formL N xss g := by
  constructor
  · intro hr
    have key : ∀ y, Reach ps f y → (0 ≤ y ∧ y < N) ∧ formL N xss f = formL N xss y := by
      intro y hy
      induction hy with
      | refl => exact ⟨⟨h0, h1⟩, rfl⟩
      | step _ hm ih =>
        obtain ⟨hx, e⟩ := ih
        have hc := h.cov _ hm
        exact ⟨hc.rng _ hx.1 hx.2, by rw [e, hc.form hM hN hx.1 hx.2]⟩
    exact (key g hr).2
  · intro e
    obtain ⟨p, hp, rfl⟩ := form_cov hM hN h0 h1 h2 h3 e
    exact .step .refl (h.all p hp)
theorem fset_mem {m : List (List Int)} : ∀ k, m ∈ fset N xss k ↔ ∃ j : Nat, j < k ∧ m = formL N xss (j : Int)
  | 0 => by simp [fset]
  | k + 1 => by
    have ih := fset_mem (m := m) k
    simp only [fset]
    split
    · rename_i hk
      rw [ih]
      constructor
      · rintro ⟨j, hj, e⟩; exact ⟨j, by omega, e⟩
      · rintro ⟨j, hj, e⟩
        by_cases e2 : j = k
        · subst e2
          rw [← e] at hk
          exact ih.1 hk
        · exact ⟨j, by omega, e⟩
    · rw [List.mem_append, ih]
      constructor
      · rintro (⟨j, hj, e⟩ | h)
        · exact ⟨j, by omega, e⟩
        · exact ⟨k, by omega, by simpa using h⟩
      · rintro ⟨j, hj, e⟩
        by_cases e2 : j = k
        · subst e2; exact .inr (by simp [e])
        · exact .inl ⟨j, by omega, e⟩
/-- as many orbits as forms -/
theorem AllCov.orbits (h : AllCov N xss ps) (hM : Mani xss) (hN : N = (gl xss 0).length) : ∀ k, k ≤ N → (lab N ps k).2 = ((fset N xss k).length : Nat)
  | 0, _ => rfl
  | k + 1, hk => by
    have ih := h.orbits hM hN k (by omega)
    have hm := lab_mem h.sys k (by omega) (k : Int) (by omega) (by omega)
    have hiff : 0 ≤ gi (lab N ps k).1 (k : Int) ↔ formL N xss (k : Int) ∈ fset N xss k := by
      rw [hm, fset_mem]
      constructor
      · rintro ⟨j, hj, hr⟩
        exact ⟨j, hj, ((h.reach hM hN (by omega) (by omega) (by omega) (by omega)).1 hr).symm⟩
      · rintro ⟨j, hj, e⟩
        exact ⟨j, hj, (h.reach hM hN (by omega) (by omega) (by omega) (by omega)).2 e.symm⟩
    by_cases hc : 0 ≤ gi (lab N ps k).1 (k : Int)
    · rw [lab_pos hc, ih]
      simp only [fset]
      rw [if_pos (hiff.1 hc)]
    · rw [lab_neg hc]
      simp only [fset]
      rw [if_neg (fun hm => hc (hiff.2 hm)), List.length_append, List.length_singleton]
      omega
theorem orbN_lab (h : AllCov N xss ps) (hM : Mani xss) (hN : N = (gl xss 0).length) (ho : Own1 N xss) : (lab N ps N).2 = (orbN N xss : Int) := by
  rw [h.orbits hM hN N (Nat.le_refl _), orbN, if_pos ho]
end

/-! the search for a covering -/
structure CI (N : Nat) (xss : List (List Int)) (b : Int) (i k : Nat) (L Q : List Int) : Prop where
  len : L.length = N
  val : ∀ x : Int, 0 ≤ x → x < N → (gi L x = -1 ∧ x ∉ Q) ∨ ((0 ≤ gi L x ∧ gi L x < N) ∧ x ∈ Q)
  nod : Q.Nodup
  rng : ∀ x ∈ Q, 0 ≤ x ∧ x < (N : Int)
  q0 : (0 : Int) ∈ Q
  l0 : gi L 0 = b
  le : i ≤ Q.length
  done : ∀ j, j < i → ∀ m, m < xss.length → gi L (gi (gl xss m) (gi Q (j : Int))) = gi (gl xss m) (gi L (gi Q (j : Int)))
  part : ∀ m, m < k → gi L (gi (gl xss m) (gi Q (i : Int))) = gi (gl xss m) (gi L (gi Q (i : Int)))
  uniq : ∀ q, Cov N xss q → gi q 0 = b → ∀ x ∈ Q, gi L x = gi q x

section
variable {N : Nat} {xss : List (List Int)} {b : Int} {i k : Nat} {L Q : List Int}
theorem CI.init (h0 : 0 < N) (hb0 : 0 ≤ b) (hb1 : b < N) : CI N xss b 0 0 ((List.replicate N (-1)).set 0 b) [0] := by
  have hg : ∀ x : Int, 0 ≤ x → x < N → gi ((List.replicate N (-1)).set 0 b) x = if (0 : Int) = x then b else -1 := fun x hx hx' => by
    have := gi_set (S := List.replicate N (-1)) (x := 0) (y := x) (b := b) (by omega) (by simp; omega) hx
    rw [show Int.toNat 0 = 0 from rfl] at this
    rw [this, gi_rep hx hx']
  refine ⟨by simp, fun x hx hx' => ?_, by simp, fun x hx => by simp at hx; omega, by simp, by rw [hg 0 (by omega) (by omega), if_pos rfl], Nat.zero_le _, fun j hj => by omega, fun m hm => by omega, fun q _ e x hx => ?_⟩
  · rw [hg x hx hx']
    by_cases e : (0 : Int) = x
    · rw [if_pos e]; exact .inr ⟨⟨hb0, hb1⟩, by simp [← e]⟩
    · rw [if_neg e]; exact .inl ⟨rfl, by simp; omega⟩
  · simp at hx
    subst hx
    rw [hg 0 (by omega) (by omega), if_pos rfl, e]
theorem CI.at_ (h : CI N xss b i k L Q) (hs : Sys N xss) (hi : i < Q.length) (hk : k < xss.length) : (0 ≤ gi Q (i : Int) ∧ gi Q (i : Int) < N) ∧ (0 ≤ gi L (gi Q (i : Int)) ∧ gi L (gi Q (i : Int)) < N) ∧ (0 ≤ gi (gl xss k) (gi Q (i : Int)) ∧ gi (gl xss k) (gi Q (i : Int)) < N) ∧ (0 ≤ gi (gl xss k) (gi L (gi Q (i : Int))) ∧ gi (gl xss k) (gi L (gi Q (i : Int))) < N) := by
  have hm := gi_in hi
  have hr := h.rng _ hm
  have hv : 0 ≤ gi L (gi Q (i : Int)) ∧ gi L (gi Q (i : Int)) < N := by
    rcases h.val _ hr.1 hr.2 with h1 | h1
    · exact absurd hm h1.2
    · exact h1.1
  have hin := (hs (gl xss k) (by rw [gl_mem hk]; exact List.getElem_mem _)).2
  exact ⟨hr, hv, hin _ hr.1 hr.2, hin _ hv.1 hv.2⟩
theorem CI.same (h : CI N xss b i k L Q) (e : gi L (gi (gl xss k) (gi Q (i : Int))) = gi (gl xss k) (gi L (gi Q (i : Int)))) : CI N xss b i (k + 1) L Q :=
  ⟨h.len, h.val, h.nod, h.rng, h.q0, h.l0, h.le, h.done, fun m hm => by
    by_cases e2 : m = k
    · subst e2; exact e
    · exact h.part m (by omega), h.uniq⟩
theorem CI.set (h : CI N xss b i k L Q) (hs : Sys N xss) (hi : i < Q.length) (hk : k < xss.length) (hneg : gi L (gi (gl xss k) (gi Q (i : Int))) < 0) :
    CI N xss b i (k + 1) (L.set (gi (gl xss k) (gi Q (i : Int))).toNat (gi (gl xss k) (gi L (gi Q (i : Int))))) (Q ++ [gi (gl xss k) (gi Q (i : Int))]) := by
  obtain ⟨hr, hv, hg, ht⟩ := h.at_ hs hi hk
  have hlen := h.len
  generalize hge : gi (gl xss k) (gi Q (i : Int)) = g at *
  have hset : ∀ x : Int, 0 ≤ x → gi (L.set g.toNat (gi (gl xss k) (gi L (gi Q (i : Int))))) x = if g = x then gi (gl xss k) (gi L (gi Q (i : Int))) else gi L x := fun x hx => gi_set hg.1 (by omega) hx
  have hgQ : g ∉ Q := fun hm => by
    rcases h.val g hg.1 hg.2 with h1 | h1
    · exact h1.2 hm
    · omega
  have hkeep : ∀ x ∈ Q, gi (L.set g.toNat (gi (gl xss k) (gi L (gi Q (i : Int))))) x = gi L x := fun x hx => by
    rw [hset x (h.rng x hx).1, if_neg (fun e => hgQ (by rw [e]; exact hx))]
  have hpos : ∀ x : Int, 0 ≤ x → x < N → 0 ≤ gi L x → gi (L.set g.toNat (gi (gl xss k) (gi L (gi Q (i : Int))))) x = gi L x := fun x hx hx' h0 => by
    rcases h.val x hx hx' with h1 | h1
    · omega
    · exact hkeep x h1.2
  have hQ : ∀ j : Nat, j < Q.length → gi (Q ++ [g]) (j : Int) = gi Q (j : Int) := fun j hj => gi_prefix (List.prefix_append _ _) hj
  have hin : ∀ (m : Nat) (x : Int), m < xss.length → 0 ≤ x → x < N → 0 ≤ gi (gl xss m) x ∧ gi (gl xss m) x < N := fun m x hm hx hx' => (hs (gl xss m) (by rw [gl_mem hm]; exact List.getElem_mem _)).2 x hx hx'
  have hval : ∀ x ∈ Q, 0 ≤ gi L x ∧ gi L x < N := fun x hx => by
    have hxr := h.rng x hx
    rcases h.val x hxr.1 hxr.2 with h1 | h1
    · exact absurd hx h1.2
    · exact h1.1
  have keep : ∀ (j m : Nat), j < Q.length → m < xss.length → gi L (gi (gl xss m) (gi Q (j : Int))) = gi (gl xss m) (gi L (gi Q (j : Int))) → gi (L.set g.toNat (gi (gl xss k) (gi L (gi Q (i : Int))))) (gi (gl xss m) (gi (Q ++ [g]) (j : Int))) = gi (gl xss m) (gi (L.set g.toNat (gi (gl xss k) (gi L (gi Q (i : Int))))) (gi (Q ++ [g]) (j : Int))) := fun j m hj hm e => by
    have hjm := gi_in hj
    have hjr := h.rng _ hjm
    have hjv := hval _ hjm
    have h1 := hin m _ hm hjr.1 hjr.2
    have h2 := hin m _ hm hjv.1 hjv.2
    rw [hQ j hj, hkeep _ hjm, hpos _ h1.1 h1.2 (by omega), e]
  refine ⟨by rw [List.length_set]; exact h.len, fun x hx hx' => ?_, ?_, fun x hx => ?_, List.mem_append_left _ h.q0, ?_, by rw [List.length_append]; omega, fun j hj m hm => keep j m (by omega) hm (h.done j hj m hm), fun m hm => ?_, fun q hq eq x hx => ?_⟩
  · rw [hset x hx]
    by_cases e : g = x
    · rw [if_pos e]; exact .inr ⟨ht, by simp [e]⟩
    · rw [if_neg e]
      rcases h.val x hx hx' with h1 | h1
      · exact .inl ⟨h1.1, by simp [h1.2]; omega⟩
      · exact .inr ⟨h1.1, List.mem_append_left _ h1.2⟩
  · rw [List.nodup_append]
    exact ⟨h.nod, by simp, fun a ha c hc e => by simp at hc; subst hc; subst e; exact hgQ ha⟩
  · rcases List.mem_append.1 hx with hx | hx
    · exact h.rng x hx
    · simp at hx; subst hx; exact hg
  · rw [hkeep 0 h.q0]; exact h.l0
  · by_cases e : m = k
    · subst e
      rw [hQ i hi, hkeep _ (gi_in hi), hge, hset g hg.1, if_pos rfl]
    · by_cases hmx : m < xss.length
      · exact keep i m hi hmx (h.part m (by omega))
      · omega
  · rcases List.mem_append.1 hx with hx | hx
    · rw [hkeep x hx]; exact h.uniq q hq eq x hx
    · simp at hx
      subst hx
      have h1 := hq.com k _ hk hr.1 hr.2
      rw [hset _ hg.1, if_pos rfl, h.uniq q hq eq _ (gi_in hi), ← h1, hge]
theorem CI.none (h : CI N xss b i k L Q) (hs : Sys N xss) (hi : i < Q.length) (hk : k < xss.length) (h0 : ¬ gi L (gi (gl xss k) (gi Q (i : Int))) < 0) (hne : gi L (gi (gl xss k) (gi Q (i : Int))) ≠ gi (gl xss k) (gi L (gi Q (i : Int)))) : ∀ q, Cov N xss q → gi q 0 = b → False := fun q hq eq => by
  obtain ⟨hr, hv, hg, ht⟩ := h.at_ hs hi hk
  rcases h.val _ hg.1 hg.2 with h1 | h1
  · omega
  · have e1 := h.uniq q hq eq _ h1.2
    have e2 := h.uniq q hq eq _ (gi_in hi)
    have e3 := hq.com k _ hk hr.1 hr.2
    rw [← e1, ← e2] at e3
    exact hne e3
theorem CI.next (h : CI N xss b i xss.length L Q) (hi : i < Q.length) : CI N xss b (i + 1) 0 L Q :=
  ⟨h.len, h.val, h.nod, h.rng, h.q0, h.l0, hi, fun j hj m hm => by
    by_cases e : j = i
    · subst e; exact h.part m hm
    · exact h.done j (by omega) m hm, fun m hm => by omega, h.uniq⟩
theorem CI.end_ (h : CI N xss b i 0 L Q) (hM : Mani xss) (hN : N = (gl xss 0).length) (hi : Q.length ≤ i) : Cov N xss L ∧ gi L 0 = b := by
  have hs := hM.2.2.1.sys
  have hN2 := hM.2.1
  rw [← hN] at hs
  have hin : ∀ (m : Nat) (x : Int), m < xss.length → 0 ≤ x → x < N → 0 ≤ gi (gl xss m) x ∧ gi (gl xss m) x < N := fun m x hm hx hx' => (hs (gl xss m) (by rw [gl_mem hm]; exact List.getElem_mem _)).2 x hx hx'
  have hcl : ∀ x ∈ Q, ∀ m, m < xss.length → gi L (gi (gl xss m) x) = gi (gl xss m) (gi L x) := fun x hx m hm => by
    obtain ⟨j, hj, rfl⟩ := List.mem_iff_getElem.1 hx
    have := h.done j (by omega) m hm
    rwa [gi_mem hj] at this
  have hval : ∀ x ∈ Q, 0 ≤ gi L x ∧ gi L x < N := fun x hx => by
    have hxr := h.rng x hx
    rcases h.val x hxr.1 hxr.2 with h1 | h1
    · exact absurd hx h1.2
    · exact h1.1
  have hall : ∀ y, Reach xss 0 y → y ∈ Q := by
    intro y hy
    induction hy with
    | refl => exact h.q0
    | step _ hm ih =>
      obtain ⟨m, hmx, rfl⟩ := List.mem_iff_getElem.1 hm
      have hr := h.rng _ ih
      have hv := hval _ ih
      have e := hcl _ ih m hmx
      have h1 := hin m _ hmx hr.1 hr.2
      have h2 := hin m _ hmx hv.1 hv.2
      rw [gl_mem hmx] at e h1 h2
      rcases h.val _ h1.1 h1.2 with h3 | h3
      · omega
      · exact h3.2
  have hQ : ∀ x : Int, 0 ≤ x → x < N → x ∈ Q := fun x hx hx' => hall x (hM.all hx (by omega))
  exact ⟨⟨h.len, fun x hx hx' => hval x (hQ x hx hx'), fun m x hm hx hx' => hcl x (hQ x hx hx') m hm⟩, h.l0⟩
end
end Go.Proofs.Ytgobjpcankaicaa.Vc
/-
  The walk of the search for a covering of a maniplex by itself. Conditions: as it states them.
-/
namespace Go.Proofs.Ytgobjpcankaicaa.Vc
open Go.RowKit

theorem St.isSome {w0 w : World} {ks : List Ck} {i : Nat} {t : TypeId} {A : Option Addr} {n c : Nat} {xs : List Int} (h : St w0 w ks) (hk : ks[i]? = some (CkI t A n c xs)) (hn : 0 < n) : ∃ a, A = some a := by
  obtain ⟨h1, h2, h3, h4⟩ := h.getC hk (isM_I _)
  rcases h4 with ⟨hA, hc0⟩ | ⟨g, o, cur, hA, _⟩
  · have e1 : c = 0 := hc0
    have e2 : n ≤ c := h2
    omega
  · exact ⟨_, hA⟩

theorem coveringTo_c (A : Option Addr) (n c : Nat) (rs : List SlV) (xss : List (List Int)) (N : Nat) (b : Int) (w : World) (hR : RowsI w A n rs xss) (hM : Mani xss) (hN : N = (gl xss 0).length) (h0 : 0 ≤ b) (h1 : b < N) :
    Ret Try.prog 160 [.agg #[.slice A n c], .agg #[.slice A n c], .int .i64 b] w (fun v w' => (∃ a c' L, v = .slice (some a) N c' ∧ Cov N xss L ∧ gi L 0 = b ∧ St w w' [CkI 2 (some a) N c' L]) ∨ (v = .slice none 0 0 ∧ (∀ q, Cov N xss q → gi q 0 = b → False) ∧ St w w' [])) := by
  have hn := hM.1
  have hN2 := hM.2.1
  have hxl := hR.len
  have hs := hM.2.2.1.sys
  rw [← hN] at hs
  have hrn : ∀ k : Int, 0 ≤ k → k < n → (rg rs k).n = N := fun k hk hk' => by
    have h1 := hR.rowLen hk hk'
    have h2 := (hM.2.2.1.at_ (k := k.toNat) (by omega)).1
    rw [Int.toNat_of_nonneg hk] at h2
    omega
  have hr0 := hrn 0 (by omega) (by omega)
  refine Ret.of_cd Try.func160 rfl Try.ntmps160 rfl (post1 rfl) ?_
  refine Cd.seq ?_
  refine Cd.region ?_
  -- stop: BOX 24 t0=app -> 3
  refine Ops.box1 (St.refl w) rfl rfl ?_
  intro Ab w1 hS1
  refine Ops.box1 hS1 rfl rfl ?_
  intro Ac w2 hS2
  refine Ops.mv_sl rfl rfl rfl ?_
  refine Ops.nil ?_
  refine thenQ_n ?_
  refine Cd.seq ?_
  refine Cd.seq ?_
  refine Cd.region ?_
  -- stop: CALL impl.Maniplex).rank(t3) -> 14
  refine Ops.call (rank_c Ab A n c _ _ (hS2.rd 1 rfl) rfl) rfl rfl rfl ?_
  rintro _ w2 ⟨rfl, rfl⟩
  refine Ops.call (rank_c Ac A n c _ _ (hS2.rd 0 rfl) rfl) rfl rfl rfl ?_
  rintro _ w2 ⟨rfl, rfl⟩
  refine Ops.neq rfl rfl rfl ?_
  refine Ops.nil ?_
  refine thenQ_n ?_
  -- stop: cond
  refine Cd.cond_pf rfl (fun h => h rfl) ?_
  refine Cd.skip ?_
  refine thenQ_n ?_
  refine Cd.seq ?_
  refine Cd.region ?_
  -- stop: BUILDSLICE 33 1 [('pair', [0, ('app', 'Go.Operand.const', [('app', 'Go.Value.int', ['Go.IntKind.i64', -1])])])] -> 17
  refine Ops.bs1I hS2 rfl rfl rfl ?_
  intro A1 w3 hS3
  refine Ops.call (flags_c Ab A n c rs xss _ _ (hS3.rd 2 rfl) rfl (hS3.oldRows hR) (by omega)) rfl rfl rfl ?_
  rintro _ w3 ⟨rfl, rfl⟩
  rw [hr0]
  skip
  -- stop: CALL slices.Repeat[[]int64,int64](t17, t18) -> 19
  refine Ops.call (Repeat_c A1 1 (-1) N _ (hS3.rdI 0 rfl) (by omega)) rfl rfl rfl ?_
  rintro _ w4 ⟨A5, rfl, hst⟩
  have hS4 : St w w4 [CkI 2 A5 N N (List.replicate N (-1)), Bx 24 1 Ac [.slice A n c], Bx 24 1 Ab [.slice A n c]] := (hS3.call hst).sub (List.Sublist.cons_cons _ (List.sublist_cons_self _ _))
  refine Ops.mv_sl rfl rfl rfl ?_
  refine Ops.nil ?_
  refine thenQ_n ?_
  refine Cd.seq ?_
  refine Cd.region ?_
  refine Ops.mv_sl rfl rfl rfl ?_
  refine Ops.mv_int rfl rfl rfl ?_
  -- stop: INDEXADDR 33 t20 0 -> 22
  refine Ops.idx (hS4.rdI 0 rfl).2 rfl rfl rfl (by omega) (by omega) ?_
  refine Ops.st_int 0 hS4 rfl rfl rfl (by omega) ?_
  intro w5 hS5
  refine Ops.nil ?_
  refine thenQ_n ?_
  refine Cd.seq ?_
  refine Cd.seq ?_
  refine Cd.region ?_
  -- stop: BUILDSLICE 33 1 [('pair', [0, ('app', 'Go.Operand.const', [('app', 'Go.Value.int', ['Go.IntKind.i64', 0])])])] -> 23
  refine Ops.bs1I hS5 rfl rfl rfl ?_
  intro A6 w6 hS6
  have hS6 : St w w6 [CkI 2 A6 ([(0 : Int)].length - 0) 1 ([(0 : Int)].drop 0), CkI 2 A5 N N ((List.replicate N (-1)).set 0 b), Bx 24 1 Ac [.slice A n c], Bx 24 1 Ab [.slice A n c]] := hS6
  refine Ops.mv_sl rfl rfl rfl ?_
  refine Ops.nil ?_
  refine thenQ_n ?_
  refine Cd.block ?_
  -- stop: loop
  refine Cd.loop (α := Nat × Option Addr × Nat × List Int × List Int) (fun z => [(3, .pointer Ab), (4, .pointer Ac), (7, .slice A5 N N), (8, .slice z.2.1 (z.2.2.2.2.length - z.1) z.2.2.1)])
    (fun z w' => St w w' [CkI 2 z.2.1 (z.2.2.2.2.length - z.1) z.2.2.1 (z.2.2.2.2.drop z.1), CkI 2 A5 N N z.2.2.2.1, Bx 24 1 Ac [.slice A n c], Bx 24 1 Ab [.slice A n c]] ∧ CI N xss b z.1 0 z.2.2.2.1 z.2.2.2.2)
    (fun z => N + 1 - z.1) (0, A6, 1, (List.replicate N (-1)).set 0 b, [0]) ⟨rfl, rfl, rfl, rfl, trivial⟩ ⟨hS6, CI.init (by omega) h0 h1⟩ ?_
  rintro ⟨i, A10, c10, L, Q⟩ e w7 ⟨hS7, hC⟩
  dsimp only at hS7 hC ⊢
  have hql : Q.length ≤ N := nodup_le_int hC.nod hC.rng
  have hle := hC.le
  refine Cd.seq ?_
  refine Cd.seq ?_
  refine Cd.region ?_
  refine Ops.mv_sl rfl rfl rfl ?_
  refine Ops.len rfl rfl ?_
  refine Ops.gtr rfl rfl rfl ?_
  refine Ops.nil ?_
  refine thenQ_n ?_
  -- stop: cond
  refine Cd.cond_p _ rfl (fun h3 => ?_) (fun h3 => ?_)
  · have hi' : i < Q.length := by omega
    have hQ := hS7.rdI 0 rfl
    refine Cd.skip ?_
    refine thenQ_n ?_
    refine Cd.seq ?_
    refine Cd.block ?_
    refine Cd.seq ?_
    refine Cd.region ?_
    refine Ops.mv_sl rfl rfl rfl ?_
    -- stop: INDEXADDR 33 t29 0 -> 30
    refine Ops.idx hQ.2 rfl rfl rfl (by omega) (by omega) ?_
    refine Ops.ld_int hQ rfl (by omega) rfl rfl ?_
    rw [gi_drop]
    refine Ops.mv_int rfl rfl rfl ?_
    refine Ops.nil ?_
    refine thenQ_n ?_
    refine Cd.seq ?_
    refine Cd.region ?_
    -- stop: FIELDADDR 24 t3 0 -> 32
    refine Ops.fld (hS7.rd 3 rfl) rfl rfl rfl rfl inferInstance ?_
    refine Ops.ldf_s (hS7.rd 3 rfl) rfl rfl rfl rfl rfl ?_
    refine Ops.len rfl rfl ?_
    refine Ops.mv_int rfl rfl rfl ?_
    refine Ops.nil ?_
    refine thenQ_n ?_
    refine Cd.block ?_
    -- stop: loop
    refine Cd.loop (α := Nat × Option Addr × Nat × List Int × List Int) (fun z => [(3, .pointer Ab), (4, .pointer Ac), (7, .slice A5 N N), (8, .slice z.2.1 (z.2.2.2.2.length - i) z.2.2.1), (9, .int .i64 (gi Q (i : Int))), (33, .slice A n c), (34, .int .i64 (n : Int)), (35, .int .i64 (z.1 : Int))])
      (fun z w' => St w w' [CkI 2 z.2.1 (z.2.2.2.2.length - i) z.2.2.1 (z.2.2.2.2.drop i), CkI 2 A5 N N z.2.2.2.1, Bx 24 1 Ac [.slice A n c], Bx 24 1 Ab [.slice A n c]] ∧ CI N xss b i z.1 z.2.2.2.1 z.2.2.2.2 ∧ z.1 ≤ n ∧ Q <+: z.2.2.2.2)
      (fun z => n - z.1) (0, A10, c10, L, Q) ⟨rfl, rfl, rfl, rfl, rfl, rfl, rfl, rfl, trivial⟩ ⟨hS7, hC, Nat.zero_le _, List.prefix_rfl⟩ ?_
    rintro ⟨k, A11, c11, L', Q'⟩ e w8 ⟨hS8, hC8, hk, hpre⟩
    dsimp only at hS8 hC8 hk hpre ⊢
    have hpl := hpre.length_le
    have hql8 : Q'.length ≤ N := nodup_le_int hC8.nod hC8.rng
    have hui : gi Q' (i : Int) = gi Q (i : Int) := gi_prefix hpre hi'
    have hR8 := hS8.oldRows hR
    refine Cd.seq ?_
    refine Cd.region ?_
    refine Ops.lss rfl rfl rfl ?_
    refine Ops.nil ?_
    refine thenQ_n ?_
    refine Cd.seq ?_
    -- stop: cond
    refine Cd.cond_p _ rfl (fun h4 => ?_) (fun h4 => ?_)
    · have hk' : k < xss.length := by omega
      have hi8 : i < Q'.length := by omega
      obtain ⟨a1, a2, a3, a4⟩ := hC8.at_ hs hi8 hk'
      rw [hui] at a1 a2 a3 a4
      have hrow := hR8.at_ (i := (k : Int)) (by omega) (by omega)
      have hrk := hrn (k : Int) (by omega) (by omega)
      have hLL := hS8.rdI 1 rfl
      refine Cd.skip ?_
      refine thenQ_n ?_
      refine Cd.seq ?_
      refine Cd.block ?_
      refine Cd.seq ?_
      refine Cd.region ?_
      refine Ops.mv_int rfl rfl rfl ?_
      -- stop: INDEXADDR 22 t33 t35 -> 38
      refine Ops.idx hR8.top.2 rfl rfl rfl (by omega) h4 ?_
      refine Ops.ld_sl hR8.top rfl (by omega) rfl rfl ?_
      refine Ops.mv_int rfl rfl rfl ?_
      refine Ops.mv_sl rfl rfl rfl ?_
      refine Ops.nil ?_
      refine thenQ_n ?_
      refine Cd.seq ?_
      -- stop: draw
      refine Cd.draw [.ex (.slice ((rg rs k).a) ((rg rs k).n) ((rg rs k).c)), .ex (.int .i64 ((gi Q (i : Int)))), .ex (.pointer (ptrAt ((rg rs k).a) ((gi Q (i : Int))).toNat)), .ex (.int .i64 (gi (gl xss k) ((gi Q (i : Int))))), .ex (.pointer (ptrAt (Ac) 0)), .ex (.slice (A) (n) (c)), .ex (.int .i64 ((k : Int))), .ex (.pointer (ptrAt (A) ((k : Int)).toNat)), .ex (.slice ((rg (rs) ((k : Int))).a) ((rg (rs) ((k : Int))).n) ((rg (rs) ((k : Int))).c)), .ex (.slice (A5) (N) (N)), .ex (.int .i64 ((gi Q (i : Int)))), .ex (.pointer (ptrAt (A5) ((gi Q (i : Int))).toNat)), .ex (.int .i64 (gi (L') ((gi Q (i : Int))))), .ex (.pointer (ptrAt ((rg (rs) ((k : Int))).a) (gi (L') ((gi Q (i : Int)))).toNat)), .ex (.int .i64 (gi (gl xss k) (gi (L') ((gi Q (i : Int)))))), .ex (.int .i64 (gi (gl xss k) ((gi Q (i : Int))))), .ex (.int .i64 (gi (gl xss k) (gi (L') ((gi Q (i : Int))))))] (by kernel_rfl) (by kernel_rfl) rfl (List.forall_mem_cons.2 ⟨Yd.lasts_ex _, (List.forall_mem_cons.2 ⟨Yd.lasts_ex _, (List.forall_mem_cons.2 ⟨Yd.lasts_ex _, (List.forall_mem_cons.2 ⟨Yd.lasts_ex _, (List.forall_mem_cons.2 ⟨Yd.lasts_ex _, (List.forall_mem_cons.2 ⟨Yd.lasts_ex _, (List.forall_mem_cons.2 ⟨Yd.lasts_ex _, (List.forall_mem_cons.2 ⟨Yd.lasts_ex _, (List.forall_mem_cons.2 ⟨Yd.lasts_ex _, (List.forall_mem_cons.2 ⟨Yd.lasts_ex _, (List.forall_mem_cons.2 ⟨Yd.lasts_ex _, (List.forall_mem_cons.2 ⟨Yd.lasts_ex _, (List.forall_mem_cons.2 ⟨Yd.lasts_ex _, (List.forall_mem_cons.2 ⟨Yd.lasts_ex _, (List.forall_mem_cons.2 ⟨Yd.lasts_ex _, (List.forall_mem_cons.2 ⟨Yd.lasts_ex _, (List.forall_mem_cons.2 ⟨Yd.lasts_ex _, (fun _ h => by cases h)⟩)⟩)⟩)⟩)⟩)⟩)⟩)⟩)⟩)⟩)⟩)⟩)⟩)⟩)⟩)⟩)⟩) ⟨?_, ?_, ?_, ?_, ?_, ?_, ?_, ?_, ?_, ?_, ?_, ?_, ?_, ?_, ?_, ?_, ?_, trivial⟩ ?_
      · intro e1 w1 hb hp hun
        refine Ops.mv_sl rfl rfl rfl ?_
        refine Ops.nil ?_
        exact After.dn (Below.refl _ _) (by exact rfl)
      · intro e1 w1 hb hp hun
        refine Ops.mv_int rfl rfl rfl ?_
        refine Ops.nil ?_
        exact After.dn (Below.refl _ _) (by exact rfl)
      · intro e1 w1 hb hp hun
        refine Ops.idx (hrow.later hb).2 rfl rfl rfl (by omega) (by omega) ?_
        refine Ops.nil ?_
        exact After.dn (Below.refl _ _) (by exact rfl)
      · intro e1 w1 hb hp hun
        refine Ops.ld_int (hrow.later hb) rfl (by omega) rfl rfl ?_
        refine Ops.nil ?_
        exact After.dn (Below.refl _ _) (by exact rfl)
      · intro e1 w1 hb hp hun
        refine Ops.fld ((hS8.rd 2 rfl).below hb) rfl rfl rfl rfl inferInstance ?_
        refine Ops.nil ?_
        exact After.dn (Below.refl _ _) (by exact rfl)
      · intro e1 w1 hb hp hun
        refine Ops.ldf_s ((hS8.rd 2 rfl).below hb) rfl rfl rfl rfl rfl ?_
        refine Ops.nil ?_
        exact After.dn (Below.refl _ _) (by exact rfl)
      · intro e1 w1 hb hp hun
        refine Ops.mv_int rfl rfl rfl ?_
        refine Ops.nil ?_
        exact After.dn (Below.refl _ _) (by exact rfl)
      · intro e1 w1 hb hp hun
        refine Ops.idx (hR8.top.later hb).2 rfl rfl rfl (by omega) (by omega) ?_
        refine Ops.nil ?_
        exact After.dn (Below.refl _ _) (by exact rfl)
      · intro e1 w1 hb hp hun
        refine Ops.ld_sl (hR8.top.later hb) rfl (by omega) rfl rfl ?_
        refine Ops.nil ?_
        exact After.dn (Below.refl _ _) (by exact rfl)
      · intro e1 w1 hb hp hun
        refine Ops.mv_sl rfl rfl rfl ?_
        refine Ops.nil ?_
        exact After.dn (Below.refl _ _) (by exact rfl)
      · intro e1 w1 hb hp hun
        refine Ops.mv_int rfl rfl rfl ?_
        refine Ops.nil ?_
        exact After.dn (Below.refl _ _) (by exact rfl)
      · intro e1 w1 hb hp hun
        refine Ops.idx (hLL.later hb).2 rfl rfl rfl (by omega) (by omega) ?_
        refine Ops.nil ?_
        exact After.dn (Below.refl _ _) (by exact rfl)
      · intro e1 w1 hb hp hun
        refine Ops.ld_int (hLL.later hb) rfl (by omega) rfl rfl ?_
        refine Ops.nil ?_
        exact After.dn (Below.refl _ _) (by exact rfl)
      · intro e1 w1 hb hp hun
        refine Ops.idx (hrow.later hb).2 rfl rfl rfl (by omega) (by omega) ?_
        refine Ops.nil ?_
        exact After.dn (Below.refl _ _) (by exact rfl)
      · intro e1 w1 hb hp hun
        refine Ops.ld_int (hrow.later hb) rfl (by omega) rfl rfl ?_
        refine Ops.nil ?_
        exact After.dn (Below.refl _ _) (by exact rfl)
      · intro e1 w1 hb hp hun
        refine Ops.mv_int rfl rfl rfl ?_
        refine Ops.nil ?_
        exact After.dn (Below.refl _ _) (by exact rfl)
      · intro e1 w1 hb hp hun
        refine Ops.mv_int rfl rfl rfl ?_
        refine Ops.nil ?_
        exact After.dn (Below.refl _ _) (by exact rfl)
      intro u w9 hb9 _
      have hS9 := hS8.later hb9
      have hL9 := hS9.rdI 1 rfl
      refine thenQ_n ?_
      refine Cd.block ?_
      refine Cd.seq ?_
      refine Cd.region ?_
      refine Ops.mv_sl rfl rfl rfl ?_
      refine Ops.mv_int rfl rfl rfl ?_
      -- stop: INDEXADDR 33 t56 t57 -> 58
      refine Ops.idx hL9.2 rfl rfl rfl a3.1 a3.2 ?_
      refine Ops.ld_int hL9 rfl (by omega) rfl rfl ?_
      refine Ops.lss rfl rfl rfl ?_
      refine Ops.mv_bool rfl rfl rfl ?_
      refine Ops.nil ?_
      refine thenQ_n ?_
      -- stop: cond
      refine Cd.cond_p _ rfl (fun h5 => ?_) (fun h5 => ?_)
      · have hnew := hC8.set hs hi8 hk' (by rw [hui]; exact h5)
        rw [hui] at hnew
        refine Cd.seq ?_
        refine Cd.region ?_
        refine Ops.mv_sl rfl rfl rfl ?_
        refine Ops.mv_int rfl rfl rfl ?_
        refine Ops.mv_int rfl rfl rfl ?_
        -- stop: INDEXADDR 33 t61 t62 -> 64
        refine Ops.idx hL9.2 rfl rfl rfl a3.1 a3.2 ?_
        refine Ops.st_int 1 hS9 rfl rfl rfl (by omega) ?_
        intro w10 hS10
        refine Ops.nil ?_
        refine thenQ_n ?_
        refine Cd.region ?_
        refine Ops.mv_sl rfl rfl rfl ?_
        refine Ops.mv_int rfl rfl rfl ?_
        -- stop: BUILDSLICE 33 1 [('pair', [0, ('app', 'Go.Operand.tmp', [66])])] -> 67
        refine Ops.bs1I hS10 rfl rfl rfl ?_
        intro A12 w11 hS11
        refine Ops.appI 1 hS11 rfl (hS11.rdI 0 rfl) rfl rfl rfl (by omega) (by omega) rfl ?_
        intro A13 c13 w12 hS12
        refine Ops.mv_sl rfl rfl rfl ?_
        refine Ops.nil ?_
        refine blockQ_n ?_
        refine blockQ_n ?_
        refine thenQ_n ?_
        refine Cd.region ?_
        refine Ops.add rfl rfl rfl (by omega) ?_
        refine Ops.mv_int rfl rfl rfl ?_
        refine Ops.nil ?_
        refine thenQ_n ?_
        -- stop: round
        have e2 : (Q' ++ [gi (gl xss k) (gi Q (i : Int))]).length - i = Q'.length - i + 1 := by simp; omega
        have e3 : (Q' ++ [gi (gl xss k) (gi Q (i : Int))]).drop i = Q'.drop i ++ [gi (gl xss k) (gi Q (i : Int))] := List.drop_append_of_le_length (by omega)
        refine ⟨(k + 1, A13, c13, L'.set (gi (gl xss k) (gi Q (i : Int))).toNat (gi (gl xss k) (gi L' (gi Q (i : Int)))), Q' ++ [gi (gl xss k) (gi Q (i : Int))]), by show n - (k + 1) < n - k; omega, ⟨rfl, rfl, rfl, by show Value.slice _ _ _ = .slice _ ((Q' ++ [gi (gl xss k) (gi Q (i : Int))]).length - i) _; rw [e2], rfl, rfl, rfl, rfl, trivial⟩, ?_, hnew, by show k + 1 ≤ n; omega, hpre.trans (List.prefix_append _ _)⟩
        show St w w12 [CkI _ A13 ((Q' ++ [gi (gl xss k) (gi Q (i : Int))]).length - i) c13 ((Q' ++ [gi (gl xss k) (gi Q (i : Int))]).drop i), _, _, _]
        rw [e2, e3]
        exact hS12.tail
      · refine Cd.seq ?_
        refine Cd.region ?_
        refine Ops.mv_sl rfl rfl rfl ?_
        refine Ops.mv_int rfl rfl rfl ?_
        -- stop: INDEXADDR 33 t70 t71 -> 72
        refine Ops.idx hL9.2 rfl rfl rfl a3.1 a3.2 ?_
        refine Ops.ld_int hL9 rfl (by omega) rfl rfl ?_
        refine Ops.mv_int rfl rfl rfl ?_
        refine Ops.neq rfl rfl rfl ?_
        refine Ops.mv_bool rfl rfl rfl ?_
        refine Ops.nil ?_
        refine thenQ_n ?_
        -- stop: cond
        refine Cd.cond_p _ rfl (fun h6 => ?_) (fun h6 => ?_)
        · refine Cd.seq ?_
          refine Cd.region ?_
          refine Ops.mv_sl rfl rfl rfl ?_
          refine Ops.nil ?_
          refine thenQ_n ?_
          refine Cd.ret ?_
          refine blockQ_r ?_
          refine blockQ_r ?_
          refine thenQ_r ?_
          refine thenQ_r ?_
          refine blockQ_r ?_
          refine blockQ_r ?_
          refine thenQ_r ?_
          refine thenQ_r ?_
          refine blockQ_r ?_
          refine thenQ_r ?_
          refine ret1_s rfl ?_
          -- stop: end
          exact .inr ⟨rfl, hC8.none hs hi8 hk' (by rw [hui]; exact h5) (by rw [hui]; exact h6), hS9.none⟩
        · refine Cd.skip ?_
          refine blockQ_n ?_
          refine blockQ_n ?_
          refine thenQ_n ?_
          refine Cd.region ?_
          refine Ops.add rfl rfl rfl (by omega) ?_
          refine Ops.mv_int rfl rfl rfl ?_
          refine Ops.nil ?_
          refine thenQ_n ?_
          -- stop: round
          exact ⟨(k + 1, A11, c11, L', Q'), by show n - (k + 1) < n - k; omega, ⟨rfl, rfl, rfl, rfl, rfl, rfl, rfl, rfl, trivial⟩, hS9, hC8.same (by rw [hui]; exact Classical.not_not.1 h6), by show k + 1 ≤ n; omega, hpre⟩
    · refine Cd.exit ?_
      refine thenQ_x ?_
      refine thenQ_x ?_
      refine blockQ_x ?_
      refine blockQ_n ?_
      refine thenQ_n ?_
      refine Cd.region ?_
      refine Ops.mv_sl rfl rfl rfl ?_
      -- stop: SLICE 33 t27 some 1 none none -> 28
      have hke : k = xss.length := by omega
      rw [hke] at hC8
      refine Ops.cut_l rfl rfl rfl (by omega) ?_
      have hS9 := hS8.cutl (i := 0) rfl (show 1 ≤ Q'.length - i by omega)
      have e2 : Q'.length - i - 1 = Q'.length - (i + 1) := by omega
      have e3 : (Q'.drop i).drop 1 = Q'.drop (i + 1) := by rw [List.drop_drop]
      refine Ops.mv_sl rfl rfl rfl ?_
      refine Ops.nil ?_
      refine thenQ_n ?_
      -- stop: round
      refine ⟨(i + 1, cutAt A11 c11 1, c11 - 1, L', Q'), by show N + 1 - (i + 1) < N + 1 - i; omega, ⟨rfl, rfl, rfl, by show Value.slice _ _ _ = .slice _ _ _; rw [← e2]; rfl, trivial⟩, ?_, hC8.next (by omega)⟩
      show St w w8 [CkI _ (cutAt A11 c11 1) (Q'.length - (i + 1)) (c11 - 1) (Q'.drop (i + 1)), _, _, _]
      rw [← e2, ← e3]
      exact hS9
  · refine Cd.exit ?_
    refine thenQ_x ?_
    refine thenQ_x ?_
    refine blockQ_x ?_
    refine thenQ_n ?_
    refine Cd.seq ?_
    refine Cd.region ?_
    refine Ops.mv_sl rfl rfl rfl ?_
    refine Ops.mv_sl rfl rfl rfl ?_
    refine Ops.nil ?_
    refine thenQ_n ?_
    refine Cd.ret ?_
    refine ret1_s rfl ?_
    -- stop: end
    have hE := hC.end_ hM hN (by omega)
    obtain ⟨a, ha⟩ := hS7.isSome (i := 1) rfl (by omega)
    subst ha
    exact .inl ⟨a, N, L, rfl, hE.1, hE.2, hS7.tail.sub (List.Sublist.cons_cons _ (List.nil_sublist _))⟩
end Go.Proofs.Ytgobjpcankaicaa.Vc
/-
  The walk of cloneManiplex. Conditions: as each states them.
-/
namespace Go.Proofs.Ytgobjpcankaicaa.Vc
open Go.RowKit

/-- what a copy owns while it grows -/
def clK (Ab Ac Ad A : Option Addr) (n c : Nat) (A1 A3 : Option Addr) (k c1 c3 : Nat) (rs1 : List SlV) (rows : List Ck) : List Ck :=
  Bx 24 1 Ad [.slice A1 k c1] :: Bx 24 1 Ac [.slice none 0 0] :: Bx 24 1 Ab [.slice A n c] :: CkR 33 A3 c3 c1 rs1 :: rows

theorem cloneManiplex_c (A : Option Addr) (n c : Nat) (rs : List SlV) (xss : List (List Int)) (w : World) (hR : RowsI w A n rs xss) (hn : n ≤ 1000000000) (hr : ∀ i, i < n → (rs.getD i slNil).n ≤ 1000000000) :
    Ret Try.prog 194 [.agg #[.slice A n c]] w (fun v w' => ∃ A' c' rs', v = .agg #[.slice A' n c'] ∧ rs'.length = n ∧ St w w' (mat 33 2 A' n c' rs' xss)) := by
  refine Ret.of_cd Try.func194 rfl Try.ntmps194 rfl (postc rfl rfl) ?_
  refine Cd.seq ?_
  refine Cd.region ?_
  -- stop: BOX 24 t0=m -> 1
  refine Ops.box1 (St.refl w) rfl rfl ?_
  intro Ab w1 hS1
  refine Ops.new1 hS1 rfl ?_
  intro Ac w2 hS2
  refine Ops.nil ?_
  refine thenQ_n ?_
  refine Cd.seq ?_
  refine Cd.region ?_
  -- stop: ALLOC 24 -> 3
  refine Ops.new1 hS2 rfl ?_
  intro Ad w3 hS3
  have hS3 : St w w3 (Bx 24 1 Ad [.slice none 0 0] :: Bx 24 1 Ac [.slice none 0 0] :: Bx 24 1 Ab [.slice A n c] :: []) := hS3
  refine Ops.nil ?_
  refine thenQ_n ?_
  refine Cd.seq ?_
  refine Cd.seq ?_
  refine Cd.region ?_
  -- stop: FIELDADDR 24 t1=m 0 -> 6
  refine Ops.fld (hS3.rd 2 rfl) rfl rfl rfl rfl inferInstance ?_
  refine Ops.ldf_s (hS3.rd 2 rfl) rfl rfl rfl rfl rfl ?_
  refine Ops.len rfl rfl ?_
  refine Ops.mv_int rfl rfl rfl ?_
  refine Ops.nil ?_
  refine thenQ_n ?_
  refine Cd.block ?_
  -- stop: loop
  have hS0 : St w w3 (Bx 24 1 Ad [.slice none 0 0] :: Bx 24 1 Ac [.slice none 0 0] :: Bx 24 1 Ab [.slice A n c] :: CkR 33 none 0 0 [] :: []) :=
    (hS3.nil 33).perm (List.perm_append_comm (l₁ := [_]) (l₂ := [_, _, _]))
  refine Cd.loop (α := Nat × Option Addr × Nat × List SlV) (fun s => [(2, .pointer Ac), (3, .pointer Ad), (7, .slice A n c), (8, .int .i64 (n : Int)), (9, .int .i64 (s.1 : Int))]) (fun s w' => St w w' (Bx 24 1 Ad [.slice s.2.1 s.1 s.2.2.1] :: Bx 24 1 Ac [.slice none 0 0] :: Bx 24 1 Ab [.slice A n c] :: CkR 33 s.2.1 s.1 s.2.2.1 s.2.2.2 :: rowsCk 2 s.2.2.2 (xss.take s.1)) ∧ s.1 ≤ n ∧ s.2.2.2.length = s.1) (fun s => n - s.1) (0, none, 0, []) ⟨rfl, rfl, rfl, rfl, rfl, trivial⟩ ⟨hS0, Nat.zero_le _, rfl⟩ ?_
  rintro ⟨k, A3, c3, rs1⟩ e w4 ⟨hS4, hk, hlen⟩
  dsimp only at hS4 hk hlen ⊢
  refine Cd.seq ?_
  refine Cd.region ?_
  refine Ops.lss rfl rfl rfl ?_
  refine Ops.nil ?_
  refine thenQ_n ?_
  refine Cd.seq ?_
  -- stop: cond
  refine Cd.cond_p _ rfl (fun h1 => ?_) (fun h1 => ?_)
  · have hk' : k < n := by omega
    have hx : k < xss.length := by rw [hR.len]; exact hk'
    have hM := hS4.oldRows hR
    refine Cd.skip ?_
    refine thenQ_n ?_
    refine Cd.seq ?_
    refine Cd.block ?_
    refine Cd.seq ?_
    refine Cd.region ?_
    -- stop: INDEXADDR 22 t7 t9 -> 11
    refine Ops.idx hM.top.2 rfl rfl rfl (by omega) h1 ?_
    refine Ops.ld_sl hM.top rfl (by omega) rfl rfl ?_
    refine Ops.mv_sl rfl rfl rfl ?_
    refine Ops.nil ?_
    refine thenQ_n ?_
    -- stop: draw
    have hB := hS4.rd 0 rfl
    have hrow := hM.at_ (i := (k : Int)) (by omega) h1
    refine Cd.drawN [5, 7] [.ex (.pointer (ptrAt (Ad) 0)), .ex (.slice (A3) (k) (c3)), .ex (.slice ((rg rs k).a) ((rg rs k).n) ((rg rs k).c)), .pr (fun v w' => ∃ A4 c4, v = .slice A4 (rg rs k).n c4 ∧ St w w' (CkI 2 A4 (rg rs k).n c4 (gl xss k) :: Bx 24 1 Ad [.slice A3 k c3] :: Bx 24 1 Ac [.slice none 0 0] :: Bx 24 1 Ab [.slice A n c] :: CkR 33 A3 k c3 rs1 :: rowsCk 2 rs1 (xss.take k))), .pr (fun v w' => ∃ A4 c4 A9, v = .slice A9 1 1 ∧ St w w' (CkR 33 A9 1 1 [⟨A4, (rg rs k).n, c4⟩] :: CkI 2 A4 (rg rs k).n c4 (gl xss k) :: Bx 24 1 Ad [.slice A3 k c3] :: Bx 24 1 Ac [.slice none 0 0] :: Bx 24 1 Ab [.slice A n c] :: CkR 33 A3 k c3 rs1 :: rowsCk 2 rs1 (xss.take k))), .pr (fun v w' => ∃ A4 c4 A10 c10, v = .slice A10 (k + 1) c10 ∧ St w w' (CkI 2 A4 (rg rs k).n c4 (gl xss k) :: Bx 24 1 Ad [.slice A3 k c3] :: Bx 24 1 Ac [.slice none 0 0] :: Bx 24 1 Ab [.slice A n c] :: CkR 33 A10 (k + 1) c10 (rs1 ++ [⟨A4, (rg rs k).n, c4⟩]) :: rowsCk 2 rs1 (xss.take k))), .ex (.pointer (ptrAt (Ad) 0)), .pr (fun _ w' => ∃ A4 c4 A10 c10, St w w' (CkI 2 A4 (rg rs k).n c4 (gl xss k) :: Bx 24 1 Ad [.slice A10 (k + 1) c10] :: Bx 24 1 Ac [.slice none 0 0] :: Bx 24 1 Ab [.slice A n c] :: CkR 33 A10 (k + 1) c10 (rs1 ++ [⟨A4, (rg rs k).n, c4⟩]) :: rowsCk 2 rs1 (xss.take k)))] (by kernel_rfl) (by kernel_rfl) (List.forall_mem_cons.2 ⟨Yd.lasts_ex _, (List.forall_mem_cons.2 ⟨Yd.lasts_ex _, (List.forall_mem_cons.2 ⟨Yd.lasts_ex _, (List.forall_mem_cons.2 ⟨Yd.lasts_pr (fun v w w' h hb => by obtain ⟨A4, c4, hv, hT⟩ := h; exact ⟨A4, c4, hv, hT.later hb⟩), (List.forall_mem_cons.2 ⟨Yd.lasts_pr (fun v w w' h hb => by obtain ⟨A4, c4, A9, hv, hT⟩ := h; exact ⟨A4, c4, A9, hv, hT.later hb⟩), (List.forall_mem_cons.2 ⟨Yd.lasts_pr (fun v w w' h hb => by obtain ⟨A4, c4, A10, c10, hv, hT⟩ := h; exact ⟨A4, c4, A10, c10, hv, hT.later hb⟩), (List.forall_mem_cons.2 ⟨Yd.lasts_ex _, (List.forall_mem_cons.2 ⟨Yd.lasts_pr (fun v w w' h hb => by obtain ⟨A4, c4, A10, c10, hT⟩ := h; exact ⟨A4, c4, A10, c10, hT.later hb⟩), (fun _ h => by cases h)⟩)⟩)⟩)⟩)⟩)⟩)⟩)⟩) ⟨?_, ?_, ?_, ?_, ?_, ?_, ?_, ?_, trivial⟩ ?_
    · intro e1 w1 cc hlo hhi hb0 hp hun hq
      show Ops _ _ _ _ _ _ _
      replace hlo := le_of_lo hlo (b := 0) (by kernel_rfl)
      replace hhi := le_of_hi hhi (b := 0) (by kernel_rfl)
      obtain rfl : cc = 0 := by omega
      have hb := hb0 rfl
      refine Ops.fld (hB.below hb) rfl rfl rfl rfl inferInstance ?_
      refine Ops.nil ?_
      exact AfterN.dn rfl (Below.refl _ _) (by exact rfl)
    · intro e1 w1 cc hlo hhi hb0 hp hun hq
      show Ops _ _ _ _ _ _ _
      replace hlo := le_of_lo hlo (b := 0) (by kernel_rfl)
      replace hhi := le_of_hi hhi (b := 0) (by kernel_rfl)
      obtain rfl : cc = 0 := by omega
      have hb := hb0 rfl
      refine Ops.ldf_s (hB.below hb) rfl rfl rfl rfl rfl ?_
      refine Ops.nil ?_
      exact AfterN.dn rfl (Below.refl _ _) (by exact rfl)
    · intro e1 w1 cc hlo hhi hb0 hp hun hq
      show Ops _ _ _ _ _ _ _
      refine Ops.mv_sl rfl rfl rfl ?_
      refine Ops.nil ?_
      exact AfterN.dn rfl (Below.refl _ _) (by exact rfl)
    · intro e1 w1 cc hlo hhi hb0 hp hun hq
      show Ops _ _ _ _ _ _ _
      replace hlo := le_of_lo hlo (b := 0) (by kernel_rfl)
      replace hhi := le_of_hi hhi (b := 0) (by kernel_rfl)
      obtain rfl : cc = 0 := by omega
      have hb := hb0 rfl
      refine Ops.call (Clone_c _ _ _ _ _ (hrow.later hb) (hr k hk')) rfl rfl rfl ?_
      rintro _ w2 ⟨A4, c4, rfl, hst⟩
      refine Ops.nil ?_
      exact AfterN.dn rfl hst.below ⟨A4, c4, rfl, (hS4.later hb).call hst⟩
    · intro e1 w1 cc hlo hhi hb0 hp hun hq
      show Ops _ _ _ _ _ _ _
      replace hlo := le_of_lo hlo (b := 0) (by kernel_rfl)
      replace hhi := le_of_hi hhi (b := 0) (by kernel_rfl)
      obtain rfl : cc = 0 := by omega
      have hb := hb0 rfl
      obtain ⟨A4, c4, h16, hT⟩ := (hp 3 _ _ (by kernel_rfl) rfl rfl (by kernel_rfl))
      have hb := hb0 rfl
      refine Ops.bs1R (St.refl _) (by exact h16) rfl rfl ?_
      intro A9 w9 hst
      refine Ops.nil ?_
      exact AfterN.dn rfl hst.below ⟨A4, c4, A9, rfl, hT.call hst⟩
    · intro e1 w1 cc hlo hhi hb0 hp hun hq
      show Ops _ _ _ _ _ _ _
      replace hlo := le_of_lo hlo (b := 0) (by kernel_rfl)
      replace hhi := le_of_hi hhi (b := 0) (by kernel_rfl)
      obtain rfl : cc = 0 := by omega
      have hb := hb0 rfl
      obtain ⟨A4, c4, A9, h17, hT⟩ := (hp 4 _ _ (by kernel_rfl) rfl rfl (by kernel_rfl))
      refine Ops.appR 5 hT rfl (hT.rdR 0 rfl) rfl (by exact h17) rfl (by omega) (by omega) rfl ?_
      intro A10 c10 w10 hT10
      refine Ops.nil ?_
      exact AfterT.dn rfl ⟨A4, c4, A10, c10, rfl, hT10.tail⟩
    · intro e1 w1 cc hlo hhi hb0 hp hun hq
      show Ops _ _ _ _ _ _ _
      replace hlo := le_of_lo hlo (b := 1) (by kernel_rfl)
      replace hhi := le_of_hi hhi (b := 1) (by kernel_rfl)
      obtain rfl : cc = 1 := by omega
      have hph := hp 5 _ _ (by kernel_rfl) rfl rfl (by kernel_rfl)
      obtain ⟨A4, c4, A10, c10, h18, hT⟩ := hph
      refine Ops.fld ((hT.rd 1 rfl)) rfl rfl rfl rfl inferInstance ?_
      refine Ops.nil ?_
      exact AfterN.dn rfl (Below.refl _ _) (by exact rfl)
    · intro e1 w1 cc hlo hhi hb0 hp hun hq
      show Ops _ _ _ _ _ _ _
      replace hlo := le_of_lo hlo (b := 1) (by kernel_rfl)
      replace hhi := le_of_hi hhi (b := 1) (by kernel_rfl)
      obtain rfl : cc = 1 := by omega
      have hph := hp 5 _ _ (by kernel_rfl) rfl rfl (by kernel_rfl)
      obtain ⟨A4, c4, A10, c10, h18, hT⟩ := hph
      refine Ops.stf 1 hT rfl rfl (by exact h18) rfl rfl ?_
      intro w11 hT11
      refine Ops.nil ?_
      exact AfterT.st rfl ⟨A4, c4, A10, c10, hT11⟩
    intro u w5 _ hu
    obtain ⟨A4, c4, A10, c10, hT⟩ := hu 7 _ rfl (by kernel_rfl)
    refine blockQ_n ?_
    refine thenQ_n ?_
    refine Cd.region ?_
    refine Ops.add rfl rfl rfl (by omega) ?_
    refine Ops.mv_int rfl rfl rfl ?_
    refine Ops.nil ?_
    refine thenQ_n ?_
    -- stop: round
    refine ⟨(k + 1, A10, c10, rs1 ++ [⟨A4, (rg rs k).n, c4⟩]), by show n - (k + 1) < n - k; omega, ⟨rfl, rfl, rfl, rfl, rfl, trivial⟩, ?_, hk', by simp [hlen]⟩
    have e2 : gl xss k = xss[k] := by simp [gl, List.getD_eq_getElem?_getD, List.getElem?_eq_getElem hx]
    show St w w5 (_ :: _ :: _ :: CkR _ A10 (k + 1) c10 (rs1 ++ [_]) :: rowsCk _ (rs1 ++ [_]) (xss.take (k + 1)))
    rw [List.take_succ_eq_append_getElem hx, rowsCk_append (by simp [hlen]; omega), ← e2]
    refine hT.perm ?_
    exact List.perm_append_comm (l₁ := [_]) (l₂ := _ :: _ :: _ :: _ :: rowsCk 2 rs1 (xss.take k))
  · refine Cd.exit ?_
    refine thenQ_x ?_
    refine thenQ_x ?_
    refine blockQ_x ?_
    refine thenQ_n ?_
    refine Cd.seq ?_
    refine Cd.region ?_
    -- stop: LOAD 24 t3=out -> 21
    have hkn : k = n := by omega
    subst hkn
    rw [← hR.len, List.take_length, hR.len] at hS4
    refine Ops.ld_agg 0 (hS4.rd 0 rfl) rfl rfl rfl ?_
    refine Ops.st_agg 1 1 hS4 rfl rfl rfl rfl rfl rfl rfl ?_
    intro w5 hS5
    refine Ops.nil ?_
    refine thenQ_n ?_
    refine Cd.ret ?_
    skip
    -- stop: end
    refine retc_r rfl (hS5.rd 1 rfl) ?_
    exact ⟨A3, c3, rs1, rfl, hlen, hS5.sub (((List.sublist_cons_self _ _).trans (List.sublist_cons_self _ _)).trans (List.sublist_cons_self _ _))⟩
end Go.Proofs.Ytgobjpcankaicaa.Vc
